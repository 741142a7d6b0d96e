/- Contracts, put together. Conditions: those of each. -/
import Derived.Test.YtakpdkmhclhlnaaGreatDoorMe
set_option linter.unusedSimpArgs false
set_option linter.unusedVariables false
set_option maxRecDepth 100000
namespace Go.Proofs.YtakpdkmhclhlnaaGreatDoor.Hd
open Go Go.Sx Go.RowKit Bo
open Go.Sx.VJ (need branch leaf)
open Go.Sx.AV (lst ptr agg roI tup top)
section
variable (N:Nat)(U O:Nat->Int)(m:Nat->Nat)(r v:Nat->Nat->Int)
def Xb4:St:={σ:=[AV.ro [lst 2 3 λk=>[iI (oL k),iI (oH k)],iI 1,Q1 N U O m r v,Q2 m N,top],agg QC,top,ptr 0 0,top,top,ptr 4 0]++HF 15 [iI 13]++HF 20 [lst 2 3 λk=>[iI (oL k),iI (oH k)],iI (↑(3:Nat):Int),iI 3]++HF 20 [Q1 N U O m r v,iI (N:Int),iI (N:Int)]++HF 14 [Q2 m N,iI (↑(H4 m N):Int),iI (↑(H4 m N):Int)]++HF 50 [iI 13]++HF 54 [],m:=[(4,GL.ints 244 [] 169 λk=>UY (fwO 12 (r0M N U O m r v) 13) k),(0,KU)],nx:=29}
noncomputable def Jr1:Code:=U7 (VP (U5 Tryz.f80) 5)
def Wj3(k:Nat):St:=(upE [(178,i k)] [(4,.ints 244 [] 169 (UY (PB N U O m r v))),(0,.cells 183 [.x (.int .u64 0)])] (Xb4 N U O m r v))
def dI(k:Nat):G4->Option St
 | .ret=>some (upE [(4,.x (.pointer none)),(5,.lit false),(178,.top)] [(4,.ints 244 [] 169 (UY (PB N U O m r v))),(0,.cells 183 [.x (.int .u64 0)])] (Xb4 N U O m r v))
 | .exit 16=>some (upE [(178,.top)] [(4,.ints 244 [] 169 (UY (PB N U O m r v))),(0,.cells 183 [.x (.int .u64 0)])] (Xb4 N U O m r v))
 |_=>none
def Jm2:CT:= .branch (w9 N U O m r v) (.leaf (.exit 16,(dI N U O m r v 0 (.exit 16)).getD (Xb4 N U O m r v))) (.leaf (.ret,(dI N U O m r v 0 .ret).getD (Xb4 N U O m r v)))
def Xx4:UF:=GG [] (HD (Wj3 N U O m r v (0)) (Jm2 N U O m r v))
theorem Jg5(VO:bOK N U O m r v):G5 VL (.loop Jr1) (Xx4 N U O m r v):=by
 refine UT [] (L:=[]) (Ae RE (Ae LR (Ae FX Aa))) (Ai Ab (Ag RI Ac)) VW U0 (X:=Nat) (Wj3 N U O m r v) (λk=>k<=13/\ ∀j,j<k->0<=PB N U O m r v j j) (λk=>13-k) (dI N U O m r v) (x0:=0) VS ?_ ?_ ?_;rintro k;kernel_rfl;rintro k y E h;unfold dI at h;split at h;cases h;kernel_rfl;cases h;kernel_rfl;cases h;rintro Q hQ k hx;refine ⟨(k+1),?_⟩;(with_reducible refine DA (t:=let W:=(VU (AV.ro [lst 2 3 λk=>[iI (oL k),iI (oH k)],iI 1,Q1 N U O m r v,Q2 m N,top]));let z1:=(VU (↑(H4 m N):Int));let z2:=PB N U O m r v;let z3:=(VU (lst 2 3 λk=>[iI (oL k),iI (oH k)]));(branch (decide ((k:Int)<13)) (need [UG k 13] (need [UG k 13] (need [k*1+(k*13+0)<169] (branch (decide (UY (z2) (k*1+(k*13+0))<0)) (need [W,VU (agg QC),QO,QD=QD,WL,W2,XA,z3,VU (↑(3:Nat):Int),XE,WS N U O m r v,VU (N:Int),VU (N:Int),VU (Q2 m N),z1,z1,XA,169=169,GM 169 (UY (z2)),QI] (leaf G4.ret)) (need [VI ((k:Int)+1)] (need [W,VU (agg QC),QO,W2,XA,z3,VU (↑(3:Nat):Int),XE,WS N U O m r v,VU (N:Int),VU (N:Int),VU (Q2 m N),z1,z1,XA,(k:Int)+1=(↑(k+1):Int),169=169,GM 169 (UY (z2)),QI] (leaf G4.normal))))))) (need [W,VU (agg QC),QO,W2,XA,z3,VU (↑(3:Nat):Int),XE,WS N U O m r v,VU (N:Int),VU (N:Int),VU (Q2 m N),z1,z1,XA,169=169,GM 169 (UY (z2)),QI] (leaf (G4.exit 16))))) VQ ?_)
 simp only [Jm2,dI,VJ.sat,GQ] at hQ;simp only [VJ.sat,U8,UZ,GH,UB,VI,UE,H6,FW,R0,RT,GJ,dI]
 have h1:UY (PB N U O m r v) (k*1+(k*13+0))=PB N U O m r v k k\/13<=k:=by
  rcases An k 13 with h|h;exact .inl (y7 _ VG h);exact .inr h
 refine ⟨λh=>?_,λh=>?_⟩;have h2:=h1.resolve_right VG;rw [h2];refine ⟨VG,VG,VG,λhneg=>?_,λWm4=>?_⟩
 ·have hno:w9 N U O m r v=false:=by
   cases ho:w9 N U O m r v;rfl;have:=GI.1 ho k VG;simp at this;omega
  (with_reducible repeat' first|apply Al|intro _)
  all_goals first|exact P4|(rename_i E hE;cases hE;exact hQ.2 hno)
 exact VC
 ·obtain ⟨hx1,hx2⟩:=hx;obtain rfl:k=13:=VG;have Wl2:w9 N U O m r v=true:=GI.2 (λj hj=>by simpa using hx2 j hj)
  (with_reducible repeat' first|apply Al|intro _)
  all_goals first|exact P4|(rename_i E hE;cases hE;exact hQ.1 Wl2)
end
theorem Qk9{S:Code->UF->Prop}{c:Code}{s0 s1 s2 s3 s4 s5:UF}(h0: ∀cj,VP c 0=some cj->S cj s0)(h1: ∀cj,VP c 1=some cj->S cj s1)(h2: ∀cj,VP c 2=some cj->S cj s2)(h3: ∀cj,VP c 3=some cj->S cj s3)(h4: ∀cj,VP c 4=some cj->S cj s4)(h5: ∀cj,VP c 5=some cj->S cj s5):
  ∀j cj,VP c j=some cj-> ∀sp,[s0,s1,s2,s3,s4,s5][j]? =some sp->S cj sp:=by
 intro j cj hj sp hsp
 match j with
 | 0=>simp at hsp;subst hsp;exact h0 cj hj
 | 1=>simp at hsp;subst hsp;exact h1 cj hj
 | 2=>simp at hsp;subst hsp;exact h2 cj hj
 | 3=>simp at hsp;subst hsp;exact h3 cj hj
 | 4=>simp at hsp;subst hsp;exact h4 cj hj
 | 5=>simp at hsp;subst hsp;exact h5 cj hj
 |j+6=>simp at hsp
section
variable (N:Nat)
abbrev KB(U:Nat->Int)(O:Nat->Int)(m:Nat->Nat)(r:Nat->Nat->Int)(v:Nat->Nat->Int):AV:=roI [] 169 (λk=>UY (PB N U O m r v) k) 0
theorem Xl1(U O:Nat->Int)(m:Nat->Nat)(r v:Nat->Nat->Int)(VO:bOK N U O m r v):UH VL 80 [.ro [ofs,i 1,bds N U O m r v,.lst 2 (H4 m N) (plF m N),.top],.agg [.x (.int .u64 0)]] (.branch (w9 N U O m r v) (.leaf (.tup [.roI [] 169 (UY (PB N U O m r v)) 0,.lit true])) (.leaf (.tup [Bo.nilP,.lit false]))):=by
 refine GO (L:=[Xy2 N U O m r v,Xy0 N U O m r v,Xx9 N U O m r v,Xx8 N U O m r v,Xx7 N U O m r v,Xx4 N U O m r v]) (Ae RE (Ae LR (Ae FX Aa))) (Ai Ab (Ag RI Ac)) VW Tryz.func80 (UR Tryz.f80) (Qk9 (lpE (b:= .loop Zt6) VQ<|(Jh3 N U O m r v).N) (lpE (b:= .loop Jr5) VQ<|(Jh1 N U O m r v).N) (lpE (b:= .loop Jr4) VQ<|(Jh0 N U O m r v VO).N) (lpE (b:= .loop Jr3) VQ<|(Jg9 N U O m r v VO).N) (lpE (b:= .loop Zt5) VQ<|(Jg8 N U O m r v VO).N) (lpE (b:= .loop Jr1) VQ<|(Jg5 N U O m r v VO).N)) (t:=let W:=(VU (AV.ro [lst 2 3 λk=>[iI (oL k),iI (oH k)],iI 1,Q1 N U O m r v,Q2 m N,top]));let z1:=(VU (lst 2 3 λk=>[iI (oL k),iI (oH k)]));let z2:=(VU (↑(H4 m N):Int));let z3:=(VU (↑(3:Nat):Int));(need [W,VU (agg QC),QO,QD=QD,WL,W2,(0:Int)=(↑(0:Nat):Int),169=169,GR 169 (U6 QL) (UY (RR 0 0)),QI] (need [W,VU (agg QC),QO,QD=QD,WL,W2,XA,z1,z3,(0:Int)=(↑(0:Nat):Int),169=169,GR 169 (UY (RR 13 0)) (UY (ofM 0)),QI] (need [W,VU (agg QC),QO,QD=QD,WL,W2,XA,z1,z3,XE,WS N U O m r v,VU (N:Int),(0:Int)=(↑(0:Nat):Int),169=169,GR 169 (UY (ofM 3)) (UY (btM U O 0)),QI] (need [W,VU (agg QC),QO,QD=QD,WL,W2,XA,z1,z3,XE,WS N U O m r v,VU (N:Int),VU (N:Int),VU (Q2 m N),z2,(0:Int)=(↑(0:Nat):Int),169=169,GR 169 (UY (btM U O N)) (UY (uM N U O m r v 0)),QI] (need [W,VU (agg QC),QO,QD=QD,WL,W2,XA,z1,z3,XE,WS N U O m r v,VU (N:Int),VU (N:Int),VU (Q2 m N),z2,z2,(0:Int)=(↑(0:Nat):Int),169=169,GR 169 (UY (uM N U O m r v (H4 m N))) (UY (fwO 12 (r0M N U O m r v) 0)),QI] (need [W,VU (agg QC),QO,W2,XA,z1,z3,XE,WS N U O m r v,VU (N:Int),VU (N:Int),VU (Q2 m N),z2,z2,XA,(0:Int)=(↑(0:Nat):Int),169=169,GR 169 (UY (fwO 12 (r0M N U O m r v) 13)) (UY (PB N U O m r v)),QI] (branch (w9 N U O m r v) (leaf (tup [KB N U O m r v,AV.lit true])) (leaf (tup [QD,AV.lit false])))))))))) VQ ?_
 intro Q hQ;simp only [VJ.sat,U8,UE,VI,RT,GJ] at hQ ⊢
 (with_reducible repeat' first|apply Al|intro _)
 all_goals first|exact Ak|omega|with_reducible rfl|rfl|exact Xj3 _|(rename_i h;exact h.elim)|(rename_i h;exact ⟨.tup [.roI [] 169 (UY (PB N U O m r v)) 0,.lit true],⟨⟨rfl,rfl,λ_ _=>rfl,rfl⟩,rfl,Ak⟩,hQ.1 h⟩)|(rename_i h;exact ⟨.tup [Bo.nilP,.lit false],⟨rfl,rfl,Ak⟩,hQ.2 h⟩)
def Zp5(U O:Nat->Int)(m:Nat->Nat)(r v:Nat->Nat->Int):HZ:=λl=>some (.need [l=[.ro [ofs,i 1,bds N U O m r v,.lst 2 (H4 m N) (plF m N),.top],.agg [.x (.int .u64 0)]]] (.branch (w9 N U O m r v) (.leaf (.tup [.roI [] 169 (UY (PB N U O m r v)) 0,.lit true])) (.leaf (.tup [Bo.nilP,.lit false]))))
theorem Wu0(U O:Nat->Int)(m:Nat->Nat)(r v:Nat->Nat->Int)(VO:bOK N U O m r v):Sx.Enters Tryz.prog 80/\ ∀avs t,Zp5 N U O m r v avs=some t->UH VL 80 avs t:=by
 refine ⟨(UC Tryz.func80),?_⟩;intro avs t h;cases h;intro Q hQ;have e:=hQ.1
 dsimp only [U8] at e
 subst e;exact Xl1 N U O m r v VO Q hQ.2
def bV(U O:Nat->Int)(m:Nat->Nat)(r v:Nat->Nat->Int):Prop:=bOK N U O m r v/\ ∀b,b<N-> ∀j k,j<k->k<m b->r b j≠r b k
end
section
variable {N:Nat}{U O:Nat->Int}{m:Nat->Nat}{r v:Nat->Nat->Int}
theorem Zw6(h:bV N U O m r v):vB N (λk=>[i (U k),i (O k),bts (m k) (r k) (v k)]):=by
 refine ⟨h.1.1,U,O,m,λk j=>[i (r k j),i (v k j)],λ_ _=>rfl,λk hk=>⟨λ_ _=>rfl,⟨?_,λj hj=>?_,λj q hj hq=>?_⟩,?_⟩⟩;have:=(h.1.2 k hk).1;omega;obtain ⟨h1,h2,h3,h4,h5⟩:=h.1.2 k hk;exact h5 j hj;exact h.2 k hk j q hj hq;obtain ⟨h1,h2,h3,h4,h5⟩:=h.1.2 k hk;exact (insB_iff _ _ _ _).2 ⟨h2,h3,h4⟩
theorem Wu7(h:bV N U O m r v):N<=1000/\ ∀b,b<N->m b<=1000:=⟨by have:=h.1.1;omega,λb hb=>by have:=(h.1.2 b hb).1;omega⟩
end
section
variable (f:Nat->List AV)(er:Int)(N:Nat)(U O:Nat->Int)(m:Nat->Nat)(r v:Nat->Nat->Int)
def Xn4:UU:=λl=>some ([l=[.agg [.lst 2 3 f,i er,bds N U O m r v]]],.ro [.lst 2 3 f,i er,bds N U O m r v,.lst 2 (H4 m N) (plF m N),.top])
theorem Qr8(VO:N<=1000)(UD: ∀b,b<N->m b<=1000):L2 VL 79 (Xn4 f er N U O m r v):=by
 refine ⟨(UC Tryz.func79),?_⟩;intro avs ns res h hn;cases h;have e:=hn _ GB;subst e;exact Wt0 f er N U O m r v VO UD
end
section
variable (N:Nat)(U O:Nat->Int)(m:Nat->Nat)(r v:Nat->Nat->Int)
theorem Qr9(VO:bV N U O m r v):UH VL 52 [.agg [ofs,i 1,bds N U O m r v],.lit true] (.branch (w9 N U O m r v) (.leaf (.tup [.roI [] 169 (UY (PB N U O m r v)) 0,i 0])) (.leaf (.tup [Bo.nilP,i 9]))):=by
 refine GO (L:=[]) (Ae Qs7 Aa) (Aj (Af (Qr8 (λk=>[i (oL k),i (oH k)]) 1 N U O m r v (Wu7 VO).1 (Wu7 VO).2) Ab) Ac (Ah (Wu0 N U O m r v VO.1) (U1.nil _))) VW Tryz.func52 (UR Tryz.f52) UV (t:=need [ofB λk=>[i (oL k),i (oH k)],vB N λk=>[i (U k),i (O k),bts (m k) (r k) (v k)]] (branch ((0:Int) != 0) (leaf (tup [QD,iI 0])) (need [VU ([agg [lst 2 3 λk=>[iI (oL k),iI (oH k)],iI 1,Q1 N U O m r v]])] (need [VU ([AV.ro [lst 2 3 λk=>[iI (oL k),iI (oH k)],iI 1,Q1 N U O m r v,Q2 m N,top],agg QC])] (branch (w9 N U O m r v) (leaf (tup [KB N U O m r v,iI 0])) (leaf (tup [QD,iI 9]))))))) VQ ?_;intro Q hQ;simp only [VJ.sat,U8,UE] at hQ ⊢;refine ⟨⟨λ_ _=>rfl,Zw6 VO⟩,λh=>by simp at h,λ_=>⟨λh=>⟨.tup [.roI [] 169 (UY (PB N U O m r v)) 0,i 0],⟨⟨rfl,rfl,λ_ _=>rfl,rfl⟩,⟨rfl,rfl⟩,Ak⟩,hQ.1 h⟩,λh=>⟨.tup [Bo.nilP,i 9],⟨rfl,⟨rfl,rfl⟩,Ak⟩,hQ.2 h⟩⟩⟩
def Wy6:HZ:=λl=>some (.need [l=[.agg [ofs,i 1,bds N U O m r v],.lit true]] (.branch (w9 N U O m r v) (.leaf (.tup [.roI [] 169 (UY (PB N U O m r v)) 0,i 0])) (.leaf (.tup [Bo.nilP,i 9]))))
theorem IS(VO:bV N U O m r v):Sx.Enters Tryz.prog 52/\ ∀avs t,Wy6 N U O m r v avs=some t->UH VL 52 avs t:=by
 refine ⟨(UC Tryz.func52),?_⟩;intro avs t h;cases h;intro Q hQ;have e:=hQ.1
 dsimp only [U8] at e
 subst e;exact Qr9 N U O m r v VO Q hQ.2
end
def Ww9:UU
 |[.roI [] 169 F 0,.x (.int .i64 a),.x (.int .i64 b)]=>some ([0<=a/\a<=12,0<=b/\b<=12,-1000000000000000<=F (b.toNat*13+a.toNat)/\F (b.toNat*13+a.toNat)<=1000000000000000],i (-(F (b.toNat*13+a.toNat))))
 |_=>none
theorem Xl0(F:Nat->Int)(a b:Int)(VO:0<=a/\a<=12)(UD:0<=b/\b<=12)(HO: -1000000000000000<=F (b.toNat*13+a.toNat)/\F (b.toNat*13+a.toNat)<=1000000000000000):VV VL 81 [.roI [] 169 F 0,i a,i b] (i (-(F (b.toNat*13+a.toNat)))):=by
 refine GS Tryz.func81 (t:=need [UG b 13] (need [UG a 13] (need [Int.toNat a*1+(Int.toNat b*13+0)<169] (need [VI (-F (Int.toNat a*1+(Int.toNat b*13+0)))] (leaf (RV.x (.int .i64 (-F (Int.toNat a*1+(Int.toNat b*13+0)))))))))) VQ ?_;simp only [VJ.sat,U8,UZ,GH,UB,UE,FC];rw [show a.toNat*1+(b.toNat*13+0)=b.toNat*13+a.toNat by omega]
 simp only [VI];simp;omega
theorem Xk9:VM VL 81 Ww9:=by
 refine ⟨(UC Tryz.func81),?_⟩;intro avs ns res h hn;unfold Ww9 at h;split at h;cases h;exact Xl0 _ _ _ (hn _ VS) (hn _ VS) (hn _ VS);cases h
def Qh1:UU
 |[.roI [] 169 F 0,.x (.int .i64 a),.x (.int .i64 b)]=>some ([0<=a/\a<=12,0<=b/\b<=12,-1000000000000000<=F (a.toNat*13+b.toNat)/\F (a.toNat*13+b.toNat)<=1000000000000000],i (F (a.toNat*13+b.toNat)))
 |_=>none
theorem Wt8(F:Nat->Int)(a b:Int)(VO:0<=a/\a<=12)(UD:0<=b/\b<=12)(HO: -1000000000000000<=F (a.toNat*13+b.toNat)/\F (a.toNat*13+b.toNat)<=1000000000000000):VV VL 82 [.roI [] 169 F 0,i a,i b] (i (F (a.toNat*13+b.toNat))):=by
 refine GS Tryz.func82 (t:=need [UG a 13] (need [UG b 13] (need [Int.toNat b*1+(Int.toNat a*13+0)<169] (leaf (RV.x (.int .i64 (F (Int.toNat b*1+(Int.toNat a*13+0))))))))) VQ ?_;simp only [VJ.sat,U8,UZ,GH,UB,UE,FC];rw [show b.toNat*1+(a.toNat*13+0)=a.toNat*13+b.toNat by omega]
 simp only [VI];simp;omega
theorem Wt7:VM VL 82 Qh1:=by
 refine ⟨(UC Tryz.func82),?_⟩;intro avs ns res h hn;unfold Qh1 at h;split at h;cases h;exact Wt8 _ _ _ (hn _ VS) (hn _ VS) (hn _ VS);cases h
def MB:UU
 |[.roI [] 169 F 0,.x (.int .i64 a),.x (.int .i64 b)]=>some ([0<=a/\a<=12,0<=b/\b<=12,-1000000000000000<=F (b.toNat*13+a.toNat)/\F (b.toNat*13+a.toNat)<=1000000000000000,-1000000000000000<=F (a.toNat*13+b.toNat)/\F (a.toNat*13+b.toNat)<=1000000000000000],.agg [i (-(F (b.toNat*13+a.toNat))),i (F (a.toNat*13+b.toNat))])
 |_=>none
theorem lO(F:Nat->Int)(a b:Int)(VO:0<=a/\a<=12)(UD:0<=b/\b<=12)(HO: -1000000000000000<=F (b.toNat*13+a.toNat)/\F (b.toNat*13+a.toNat)<=1000000000000000)(DZ: -1000000000000000<=F (a.toNat*13+b.toNat)/\F (a.toNat*13+b.toNat)<=1000000000000000):VV VL 53 [.roI [] 169 F 0,i a,i b] (.agg [i (-(F (b.toNat*13+a.toNat))),i (F (a.toNat*13+b.toNat))]):=by
 refine VY (L:=[]) (Ae Xk9 (Ae Wt7 Aa)) VW Tryz.func53 (UR Tryz.f53) U0 (t:=need [(0:Int)<=a/\a<=12,(0:Int)<=b/\b<=12,(-1000000000000000:Int)<=F (Int.toNat b*13+Int.toNat a)/\F (Int.toNat b*13+Int.toNat a)<=1000000000000000] (need [(0:Int)<=a/\a<=12,(0:Int)<=b/\b<=12,(-1000000000000000:Int)<=F (Int.toNat a*13+Int.toNat b)/\F (Int.toNat a*13+Int.toNat b)<=1000000000000000] (leaf (RV.agg [RV.x (.int .i64 (-F (Int.toNat b*13+Int.toNat a))),RV.x (.int .i64 (F (Int.toNat a*13+Int.toNat b)))])))) VQ ?_;exact YX
theorem rK:VM VL 53 MB:=by
 refine ⟨(UC Tryz.func53),?_⟩;intro avs ns res h hn;unfold MB at h;split at h;cases h;exact lO _ _ _ (hn _ VS) (hn _ VS) (hn _ VS) (hn _ VS);cases h
theorem Xj4{N:Nat}{U O:Nat->Int}{m:Nat->Nat}{r v:Nat->Nat->Int}(h:bOK N U O m r v)(x y:Nat): -1000000000000000<=PB N U O m r v x y/\PB N U O m r v x y<=1000000000000000:=by
 have:=Wz5 (c:=12) (T4 h (H4 m N) (Am _)) 13 x y;rw [show (8001:Int)*6^13=104498612822016 by decide] at this
 unfold PB r0M;omega
section
variable (N:Nat)(U O:Nat->Int)(m:Nat->Nat)(r v:Nat->Nat->Int)
def boE:Int:=if w9 N U O m r v=true then 0 else 9
def boN:Nat:=if w9 N U O m r v=true then 3 else 0
def boL(k:Nat):Int:= -(PB N U O m r v 0 (1+k))
def boH(k:Nat):Int:=PB N U O m r v (1+k) 0
abbrev Q9:AV:=AV.x (.slice none 0 0)
def tP:St:={σ:=[agg [lst 2 3 λk=>[iI (oL k),iI (oH k)],iI 1,Q1 N U O m r v],ptr 0 0,Q9,iI 0,QD,iI 9]++HF 12 [iI (↑(3:Nat):Int)]++HF 12 [],m:=[(901,GL.row 68 2 0 λx=>[]),(0,GL.cells 59 [lst 2 3 λk=>[iI (oL k),iI (oH k)],iI 1,Q1 N U O m r v])],nx:=902}
noncomputable def Qu1:Code:=U7 (VP (U5 Tryz.f19) 0)
def vL(k:Nat):St:={σ:=H0 [(19,i k),(6,.row 901),(4,.roI [] 169 (UY (PB N U O m r v)) 0),(5,i 0)] (tP N U O m r v).σ,m:=[(901,.row 68 2 k (λk=>[i (boL N U O m r v k),i (boH N U O m r v k)])),(0,.cells 59 [ofs,i 1,bds N U O m r v])],nx:=902}
def PL(k:Nat):G4->Option St
 | .exit 0=>some {σ:=H0 [(19,i 3),(6,.row 901),(4,.roI [] 169 (UY (PB N U O m r v)) 0),(5,i 0)] (tP N U O m r v).σ,m:=[(901,.row 68 2 3 (λk=>[i (boL N U O m r v k),i (boH N U O m r v k)])),(0,.cells 59 [ofs,i 1,bds N U O m r v])],nx:=902}
 |_=>none
def Ww1:CT:= .leaf (.exit 0,(PL N U O m r v 0 (.exit 0)).getD (tP N U O m r v))
def mQ:UF:=GG [(.slot 6,901,68,2)] (HD (vL N U O m r v (0)) (Ww1 N U O m r v))
abbrev KP:Prop:=(1:Int)=1
theorem Ji6(VO:bV N U O m r v):G5 VL (.loop Qu1) (mQ N U O m r v):=by
 refine UT [(.slot 6,901,68,2)] (L:=[]) (Ae RE (Ae rK Aa)) (Aj Ab Ac (Ah (IS N U O m r v VO) (U1.nil _))) VW U0 (X:=Nat) (vL N U O m r v) (λk=>k<=3) (λk=>3-k) (PL N U O m r v) (x0:=0) VS ?_ ?_ ?_;rintro k;kernel_rfl;rintro k y E h;unfold PL at h;split at h;cases h;kernel_rfl;cases h;rintro Q hQ k hx;refine ⟨(k+1),?_⟩;(with_reducible refine DA (t:=let W:=PB N U O m r v;let z1:=(VU (agg [lst 2 3 λk=>[iI (oL k),iI (oH k)],iI 1,Q1 N U O m r v]));let z2:=(UY (W) (((1:Int)+(k:Int)).toNat*13+(0:Int).toNat));(branch (decide ((k:Int)<(↑(3:Nat):Int))) (need [(0:Int)<=(k:Int)/\(k:Int)<=1000] (need [(0:Int)<=1+(k:Int)/\(1:Int)+(k:Int)<=12,(0:Int)<=0/\(0:Int)<=12,(-1000000000000000:Int)<=UY (W) (0+((1:Int)+(k:Int)).toNat)/\UY (W) (0+((1:Int)+(k:Int)).toNat)<=1000000000000000,(-1000000000000000:Int)<=UY (W) (((1:Int)+(k:Int)).toNat*13+(0:Int).toNat)/\UY (W) (((1:Int)+(k:Int)).toNat*13+(0:Int).toNat)<=1000000000000000] (need [(k+1)*16<=140737488355328,RQ 1 (U3 2 [iI (-UY (W) (0+((1:Int)+(k:Int)).toNat)),iI z2])] (need [VI ((k:Int)+1)] (need [z1,QO,Q9=Q9,QI,VU (KB N U O m r v),QI,WG,VU (↑(3:Nat):Int),(k:Int)+1=(↑(k+1):Int),k+1=k+1,GR (k+1) (GE k (λk=>[iI (boL N U O m r v k),iI (boH N U O m r v k)]) (U3 2 [iI (-UY (W) (0+((1:Int)+(k:Int)).toNat)),iI z2])) (λi=>[iI (boL N U O m r v i),iI (boH N U O m r v i)]),VU (lst 2 3 λk=>[iI (oL k),iI (oH k)]),KP,WS N U O m r v] (leaf G4.normal)))))) (need [z1,QO,Q9=Q9,QI,VU (KB N U O m r v),QI,WG,VU (↑(3:Nat):Int),(k:Int)=3,k=3,∀(i:Nat),i<3->[iI (boL N U O m r v i),iI (boH N U O m r v i)]=[iI (boL N U O m r v i),iI (boH N U O m r v i)],VU (lst 2 3 λk=>[iI (oL k),iI (oH k)]),KP,WS N U O m r v] (leaf (G4.exit 0))))) VQ ?_)
 simp only [Ww1,PL,VJ.sat,GQ] at hQ;simp only [VJ.sat,U8,UZ,GH,UB,VI,UE,H6,FW,R0,RT,GJ,PL]
 have hb:=λx y=>Xj4 VO.1 x y;have e1:(1+(k:Int)).toNat=1+k:=VG;have g1:k<3->UY (PB N U O m r v) (0*13+(1+k))=PB N U O m r v 0 (1+k):=λ_=>y7 _ VG VG;have g2:k<3->UY (PB N U O m r v) ((1+k)*13+0)=PB N U O m r v (1+k) 0:=λ_=>y7 _ VG VG;have b1:=hb 0 (1+k);have b2:=hb (1+k) 0;refine ⟨λh=>?_,λh=>?_⟩
 ·have hk:k<3:=VG;have f1:=g1 hk;have f2:=g2 hk;rw [e1];simp only [Int.toNat_zero,f1,f2]
  (with_reducible repeat' first|apply Al|intro _)
  all_goals first|exact Ak|omega|rfl|exact FM (by assumption) (by simp [AV.one,Value.oneCell'])|exact Zn9 rfl rfl (by assumption)
 obtain rfl:k=3:=VG;exact YW
abbrev J2:Value:=Value.slice none 0 0
abbrev Y4:Value:=Value.pointer none
theorem wC(VO:bV N U O m r v):VV VL 19 [.agg [ofs,i 1,bds N U O m r v]] (.tup [.lst 2 (boN N U O m r v) (λk=>[i (boL N U O m r v k),i (boH N U O m r v k)]),i (boE N U O m r v)]):=by
 refine G9 (L:=[mQ N U O m r v]) (Ae RE (Ae rK Aa)) (Aj Ab Ac (Ah (IS N U O m r v VO) (U1.nil _))) VW Tryz.func19 (UR Tryz.f19) (G0 (lpE (b:= .loop Qu1) VQ<|(Ji6 N U O m r v VO).N)) (t:=let W:=([lst 2 3 λk=>[iI (oL k),iI (oH k)],iI 1,Q1 N U O m r v]);let z1:=(leaf (RV.tup [RV.lst 2 3 λk=>[iI (boL N U O m r v k),iI (boH N U O m r v k)],RV.x (X0)]));(need [VU ([agg W,AV.lit true])] (branch (w9 N U O m r v) (branch ((0:Int) != 0) (leaf (RV.tup [RV.x (J2),RV.x (X0)])) (need [VU (agg W),QO,Q9=Q9,QI,VU (KB N U O m r v),QI,WG,VU (↑(3:Nat):Int),(0:Int)=(↑(0:Nat):Int),0=0,∀(i:Nat),i<0->[]=[iI (boL N U O m r v i),iI (boH N U O m r v i)],VU (lst 2 3 λk=>[iI (oL k),iI (oH k)]),KP,WS N U O m r v] z1)) (branch ((9:Int) != 0) (leaf (RV.tup [RV.x (J2),RV.x (.int .i64 (9:Int))])) (need [VU (agg W),QO,Q9=Q9,QI,AV.x (Y4)=roI [] 169 (λk=>UY (PB N U O m r v) k) 0,(9:Int)=0,WG,VU (↑(3:Nat):Int),(0:Int)=(↑(0:Nat):Int),0=0,∀(i:Nat),i<0->[]=[iI (boL N U O m r v i),iI (boH N U O m r v i)],VU (lst 2 3 λk=>[iI (oL k),iI (oH k)]),KP,WS N U O m r v] z1))))) VQ ?_
 simp only [VJ.sat,U8,UZ,GH,UB,UE];refine ⟨λhok=>⟨λh=>by simp at h,λ_=>?_⟩,λhno=>⟨λ_=>?_,λh=>by simp at h⟩⟩
 ·unfold boN boE;rw [if_pos hok,if_pos hok]
  (with_reducible repeat' first|apply Al|intro _)
  all_goals first|exact Ak|omega|rfl|(rename_i hm;simp only [GK,DP,or_false] at hm;rcases hm with rfl|rfl<;>exact Ak)
 unfold boN boE;rw [if_neg (by simp [hno]),if_neg (by simp [hno])]
 exact ⟨⟨Ak,rfl⟩,rfl⟩
def tD:UU:=λl=>some ([l=[.agg [ofs,i 1,bds N U O m r v]]],.tup [.lst 2 (boN N U O m r v) (λk=>[i (boL N U O m r v k),i (boH N U O m r v k)]),i (boE N U O m r v)])
theorem gX(VO:bV N U O m r v):VM VL 19 (tD N U O m r v):=by
 refine ⟨(UC Tryz.func19),?_⟩;intro avs ns res h hn;cases h;have e:=hn _ GB;subst e;exact wC N U O m r v VO
end
def S5:UU
 |[.x (.int .i64 n),.x (.int .i64 U),.x (.int .i64 O)]=>some ([],bl (bt U n O))
 |_=>none
theorem nU(n U O:Int):VV VL 73 [i n,i U,i O] (bl (bt U n O)):=by
 refine GS Tryz.func73 (t:=branch (decide (U<=n)) (leaf (RV.x (.bool (decide (n<=O))))) (leaf (RV.x (WK)))) VQ ?_;exact V6
theorem z8:VM VL 73 S5:=by
 refine ⟨(UC Tryz.func73),?_⟩;intro avs ns res h hn;unfold S5 at h;split at h;cases h;exact nU _ _ _;cases h
def Ww3:UU
 |[.x (.int .i64 n)]=>some ([],bl (bt 0 n 100))
 |_=>none
theorem Xe5(n:Int):VV VL 56 [i n] (bl (bt 0 n 100)):=by
 refine VY (L:=[]) (Ae z8 Aa) VW Tryz.func56 (UR Tryz.f56) U0 (t:=leaf (RV.x (.bool (bt (0:Int) n (100:Int))))) VQ ?_;exact YX
theorem A4:VM VL 56 Ww3:=by
 refine ⟨(UC Tryz.func56),?_⟩;intro avs ns res h hn;unfold Ww3 at h;split at h;cases h;exact Xe5 _;cases h
def M5:UU:=kK
theorem Ql9(a b:Int):VV VL 89 [.lst 1 2 (λk=>[i (if k=0 then a else b)])] (i (min a b)):=by
 refine VY (L:=[]) (Ae SU Aa) VW Tryz.func89 (UR Tryz.f89) U0 (t:=leaf (RV.x (.int .i64 (min (if 0=0 then a else b) (if 1=0 then a else b))))) VQ ?_
 simp [VJ.sat,UZ,UB]
theorem PI:VM VL 89 M5:=by
 refine ⟨(UC Tryz.func89),?_⟩;intro avs ns res h hn;unfold M5 kK at h;split at h;rename_i f;split at h;rename_i a b h0 h1;cases h;refine (Ql9 a b).same (.cons (.lst 1 2 _ _ ?_) .nil);intro k hk;rcases (show k=0\/k=1 by omega) with rfl|rfl
 exact h0;exact h1;cases h;cases h
def kL:UU:=fE
theorem T5(a b:Int):VV VL 90 [.lst 1 2 (λk=>[i (if k=0 then a else b)])] (i (max a b)):=by
 refine VY (L:=[]) (Ae Qa2 Aa) VW Tryz.func90 (UR Tryz.f90) U0 (t:=leaf (RV.x (.int .i64 (max (if 0=0 then a else b) (if 1=0 then a else b))))) VQ ?_
 simp [VJ.sat,UZ,UB]
theorem DW:VM VL 90 kL:=by
 refine ⟨(UC Tryz.func90),?_⟩;intro avs ns res h hn;unfold kL fE at h;split at h;rename_i f;split at h;rename_i a b h0 h1;cases h;refine (T5 a b).same (.cons (.lst 1 2 _ _ ?_) .nil);intro k hk;rcases (show k=0\/k=1 by omega) with rfl|rfl
 exact h0;exact h1;cases h;cases h
def saB(f t q U O:Int):Bool:=bt 0 f 3&&bt 0 t 3&&(f != t)&&bt 1 q 1000&&bt 0 U 100&&bt 0 O 100&&decide (U<=O)
abbrev sls(n:Nat)(f t q U O:Nat->Int):AV:= .lst 5 n (λk=>[i (f k),i (t k),i (q k),i (U k),i (O k)])
def MZ(d:Int)(n:Nat):Bool:=Xm0 (d / 2^n) 1==1
theorem Xd4{f t q U O:Int}:saB f t q U O=true↔(0<=f/\f<=3)/\(0<=t/\t<=3)/\f≠t/\(1<=q/\q<=1000)/\(0<=U/\U<=100)/\(0<=O/\O<=100)/\U<=O:=by
 simp [saB,bt_iff,and_assoc]
theorem bO{q:Nat}(h:q<2^40):IntKind.i64.wrap (q:Int)=q:=by
 have e:IntKind.i64.wrap (q:Int)=if (true&&decide ((q:Int)%2^64>=2^63))=true then (q:Int)%2^64-2^64 else (q:Int)%2^64:=rfl
 have e2:(q:Int)%2^64=q:=Int.emod_eq_of_lt VG VG;rw [e,e2,if_neg];rw [Bool.true_and,kJ];omega
theorem sF{z:Nat}(hz:z<8192):(BitVec.ofInt 64 (z:Int)).toNat=z:=by
 rw [BitVec.toNat_ofInt];omega
theorem Xf1{x y:Nat}(hx:x<8192)(hy:y<8192):orI x y=((x ||| y:Nat):Int):=by
 unfold orI;rw [BitVec.toNat_or,sF hx,sF hy];have hlt:x ||| y<2^13:=Nat.or_lt_two_pow VG VG
 exact bO VG
theorem Wv0{x:Nat}(hx:x<8192):Xm0 x 1=((x%2:Nat):Int):=by
 unfold Xm0;rw [BitVec.toNat_and,sF hx,show (BitVec.ofInt 64 1).toNat=1 from rfl,Nat.and_one_is_mod];exact bO VG
theorem Zn0(d n:Nat):((d:Int) / 2^n)=((d / 2^n:Nat):Int):=by
 rw [Int.natCast_ediv,Int.natCast_pow];rfl
theorem Wo4{d n:Nat}(hd:d<8192):MZ d n=d.testBit n:=by
 unfold MZ;rw [Zn0,Wv0 (Nat.lt_of_le_of_lt (Nat.div_le_self _ _) hd),Nat.testBit_eq_decide_div_mod_eq,Bool.eq_iff_iff,beq_iff_eq,kJ];omega
def sT:UU
 |[.x (.int .i64 d),.x (.int .i64 n)]=>some ([0<=n/\n<=64],bl (MZ d n.toNat))
 |_=>none
theorem Xe4(d n:Int)(VO:0<=n/\n<=64):VV VL 133 [i d,i n] (bl (MZ d n.toNat)):=by
 refine GS Tryz.func133 (t:=need [(0:Int)<=n/\n<=64] (leaf (RV.x (.bool (IntKind.wrap IntKind.i64 (↑(BitVec.toNat (BitVec.ofInt 64 (d / (2:Int)^Int.toNat n) &&& BitVec.ofInt 64 (1:Int))):Int)==1))))) VQ ?_;exact YX
theorem A3:VM VL 133 sT:=by
 refine ⟨(UC Tryz.func133),?_⟩;intro avs ns res h hn;unfold sT at h;split at h;cases h;exact Xe4 _ _ (hn _ VS);cases h
def Qg1:UU
 |[.agg [.x (.int .i64 4),.x (.int .i64 10),.lst 5 n f],.agg [.x (.int .i64 a),.x (.int .i64 b),.x (.int .i64 c),.x (.int .i64 U),.x (.int .i64 O)]]=>some ([],bl (saB a b c U O))
 |_=>none
theorem Wc4(f:Nat->List AV)(n:Nat)(a b c U O:Int):VV VL 129 [.agg [i 4,i 10,.lst 5 n f],.agg [i a,i b,i c,i U,i O]] (bl (saB a b c U O)):=by
 refine VY (L:=[]) (Ae z8 (Ae A4 Aa)) VW Tryz.func129 (UR Tryz.f129) U0 (t:=need [VI ((4:Int)-1)] (branch (bt (0:Int) a ((4:Int)-1)) (need [VI ((4:Int)-1)] (branch (bt (0:Int) b ((4:Int)-1)) (branch (a != b) (branch (bt (1:Int) c (1000:Int)) (branch (bt (0:Int) U (100:Int)) (branch (bt (0:Int) O (100:Int)) (leaf (RV.x (.bool (decide (U<=O))))) (leaf (RV.x (WK)))) (leaf (RV.x (WK)))) (leaf (RV.x (WK)))) (leaf (RV.x (WK)))) (leaf (RV.x (WK))))) (leaf (RV.x (WK))))) VQ ?_;simp only [VJ.sat,U8,UZ,GH,UB,UE,VI,saB];refine ⟨VG,?_⟩;cases h1:bt 0 a 3<;>cases h2:bt 0 b 3<;>cases h3:(a != b)<;>cases h4:bt 1 c 1000<;>cases h5:bt 0 U 100<;>cases h6:bt 0 O 100<;>simp [h1,h2,h3,h4,h5,h6]
theorem Wc3:VM VL 129 Qg1:=by
 refine ⟨(UC Tryz.func129),?_⟩;intro avs ns res h hn;unfold Qg1 at h;split at h;cases h;exact Wc4 _ _ _ _ _ _ _;cases h
def Qg2:UU
 |[.agg [.x (.int .i64 a),.x (.int .i64 b),.x (.int .i64 c),.x (.int .i64 U),.x (.int .i64 O)],.ro [.fn (.func 129) [.agg [.x (.int .i64 4),.x (.int .i64 10),.lst 5 n f]] []]]=>some ([],bl (!saB a b c U O))
 |_=>none
theorem Wc8(f:Nat->List AV)(n:Nat)(a b c U O:Int):VV VL 170 [.agg [i a,i b,i c,i U,i O],.ro [.fn (.func 129) [.agg [i 4,i 10,.lst 5 n f]] []]] (bl (!saB a b c U O)):=by
 refine VY (L:=[]) (Ae Wc3 Aa) VW Tryz.func170 (UR Tryz.f170) U0 (t:=leaf (RV.x (.bool !saB a b c U O))) VQ ?_;exact YX
theorem cX:VM VL 170 Qg2:=by
 refine ⟨(UC Tryz.func170),?_⟩;intro avs ns res h hn;unfold Qg2 at h;split at h;cases h;exact Wc8 _ _ _ _ _ _ _;cases h
def nsB(a b c U O:Nat->Int)(j:Nat):Bool:= !saB (a j) (b j) (c j) (U j) (O j)
def zX(n:Nat)(a b c U O:Nat->Int):Bool:=HW (λj=>saB (a j) (b j) (c j) (U j) (O j)) n
abbrev Q0(n:Nat)(a:Nat->Int)(b:Nat->Int)(c:Nat->Int)(U:Nat->Int)(O:Nat->Int):AV:=lst 5 n λk=>[iI (a k),iI (b k),iI (c k),iI (U k),iI (O k)]
abbrev WH(n1:Nat)(f:Nat->List AV):AV:=AV.fn (Fn.func 170) [] [AV.ro [AV.fn (Fn.func 129) [agg [iI 4,iI 10,lst 5 n1 λa=>f a]] []]]
section
variable (n:Nat)(a b c U O:Nat->Int)(f:Nat->List AV)(n1:Nat)
def MF:St:={σ:=[Q0 n a b c U O,WH n1 f]++HF 5 [iI (n:Int)]++HF 11 [],m:=[],nx:=4}
noncomputable def Xb8:Code:=U7 (VP (U5 Tryz.f199) 0)
def eZ(k:Nat):St:=(upM [(8,i k)] (MF n a b c U O f n1))
def x7(k:Nat):G4->Option St
 | .ret=>some (upM [(4,i (GT ((nsB a b c U O)) n))] (MF n a b c U O f n1))
 | .exit 0=>some (upM [] (MF n a b c U O f n1))
 |_=>none
def Wv6:CT:= .branch (decide (GT ((nsB a b c U O)) n<n)) (.leaf (.ret,(x7 n a b c U O f n1 0 .ret).getD (MF n a b c U O f n1))) (.leaf (.exit 0,(x7 n a b c U O f n1 0 (.exit 0)).getD (MF n a b c U O f n1)))
def Qj3:UF:=(HD (eZ n a b c U O f n1 (0)) (Wv6 n a b c U O f n1))
end
abbrev W0(n:Nat)(a:Nat->Int)(b:Nat->Int)(c:Nat->Int)(U:Nat->Int)(O:Nat->Int):Prop:=(Q0 n a b c U O)=Q0 n a b c U O
theorem VA{p:Prop}(h:p:=by
 refine ⟨by have:=Xh9 hk hb;omega,λE hE=>?_⟩
 cases hE;exact hQ.1 (by rw [Xh9 hk hb];exact hk)):p:=h
section
variable (n:Nat)(a b c U O:Nat->Int)(f:Nat->List AV)(n1:Nat)
theorem Xc2(VO:n<=100000):G5 VL (.loop Xb8) (Qj3 n a b c U O f n1):=by
 refine HC (L:=[]) (Ae cX Aa) VW U0 (X:=Nat) (eZ n a b c U O f n1) (λk=>k<=n/\ ∀j,j<k->(nsB a b c U O) j=false) (λk=>n-k) (x7 n a b c U O f n1) (x0:=0) ⟨VG,λj hj=>VG⟩ ?_ ?_ ?_;rintro k;kernel_rfl;rintro k y E h;unfold x7 at h;split at h;cases h;kernel_rfl;cases h;kernel_rfl;cases h
 ·rintro Q hQ k hx;refine ⟨(k+1),?_⟩;(with_reducible refine DA (t:=branch (decide ((k:Int)<(n:Int))) (need [UG k n] (branch (!saB (a k) (b k) (c k) (U k) (O k)) (need [W0 n a b c U O,VU (WH n1 f),(k:Int)=(↑(GT (nsB a b c U O) n):Int),VU (n:Int)] (leaf G4.ret)) (need [VI ((k:Int)+1)] (need [W0 n a b c U O,VU (WH n1 f),VU (n:Int),(k:Int)+1=(↑(k+1):Int)] (leaf G4.normal))))) (need [W0 n a b c U O,VU (WH n1 f),VU (n:Int)] (leaf (G4.exit 0)))) VQ ?_);simp only [Wv6,x7,VJ.sat,GQ,H6] at hQ;simp only [VJ.sat,U8,UE,H6,VI,x7,FC];have Xh9:k<n->((nsB a b c U O)) k=true->GT ((nsB a b c U O)) n=k:=λh hb=>zM h hb hx.2;have PG: ¬k<n->GT ((nsB a b c U O)) n=n:=λh=>BX (λj hj=>hx.2 j VG);have hgo:((nsB a b c U O)) k=false-> ∀j,j<k+1->((nsB a b c U O)) j=false:=by
   intro hb j hj;rcases (show j<k\/j=k by omega) with h1|rfl
   exact hx.2 j h1;exact hb
  refine ⟨λh=>⟨VG,?_⟩,λh=>?_⟩
  rotate_left
  intro E hE;cases hE;exact hQ.2 (by rw [PG VG];omega)
  have hk:k<n:=VG;refine ⟨λhb=>?_,λhb=>?_⟩;exact VA;exact ⟨VG,VG,⟨VG,hgo hb⟩,VG⟩
theorem Zh2(VO:n<=100000):VV VL 199 [sls n a b c U O,.fn (.func 170) [] [.ro [.fn (.func 129) [.agg [i 4,i 10,.lst 5 n1 f]] []]]] (i (if GT ((nsB a b c U O)) n<n then (GT ((nsB a b c U O)) n:Int) else -1)):=by
 refine VY (L:=[Qj3 n a b c U O f n1]) (Ae cX Aa) VW Tryz.func199 (UR Tryz.f199) (G0 (lpE (b:= .loop Xb8) VQ<|Xc2 n a b c U O f n1 VO)) (t:=need [W0 n a b c U O,VU (WH n1 f),VU (n:Int),(0:Int)=(↑(0:Nat):Int)] (branch (decide (GT (nsB a b c U O) n<n)) (leaf (RV.x (.int .i64 (↑(GT (nsB a b c U O) n):Int)))) (leaf (RV.x (KH))))) VQ ?_
 exact V8
end
def Xu0:UU
 |[.lst 5 n f,.fn (.func 170) [] [.ro [.fn (.func 129) [.agg [.x (.int .i64 4),.x (.int .i64 10),.lst 5 n1 f1]] []]]]=>some ([U9 5 n f,n<=100000],i (if GT (nsB (col 0 f) (col 1 f) (col 2 f) (col 3 f) (col 4 f)) n<n then (GT (nsB (col 0 f) (col 1 f) (col 2 f) (col 3 f) (col 4 f)) n:Int) else -1))
 |_=>none
theorem Zh1:VM VL 199 Xu0:=by
 refine ⟨(UC Tryz.func199),?_⟩;intro avs ns res h hn;unfold Xu0 at h;split at h;cases h;have hr:_:=hn _ (GB);have hr1:_:=hn _ (HM _ (GB));exact (Zh2 _ (col 0 _) (col 1 _) (col 2 _) (col 3 _) (col 4 _) _ _ hr1).same (.cons (.lst 5 _ _ _ hr) (.cons (.refl _) .nil));cases h
theorem Zh4(n:Nat)(a b c U O:Nat->Int)(f:Nat->List AV)(n1:Nat)(VO:n<=100000):VV VL 169 [sls n a b c U O,.fn (.func 170) [] [.ro [.fn (.func 129) [.agg [i 4,i 10,.lst 5 n1 f]] []]]] (bl (!zX n a b c U O)):=by
 refine VY (L:=[]) (Ae Zh1 Aa) VW Tryz.func169 (UR Tryz.f169) U0 (t:=need [U9 5 n λk=>[i (a k),i (b k),i (c k),i (U k),i (O k)],n<=100000] (leaf (RV.x (.bool (decide ((if GT (nsB a b c U O) n<n then (↑(GT (nsB a b c U O) n):Int) else (-1:Int))>=(0:Int))))))) VQ ?_
 simp only [VJ.sat,U8,UZ,UB,UE];refine ⟨⟨λ_ _=>rfl,VO⟩,?_⟩;unfold zX;rw [kH];have:=F0 (nsB a b c U O) n;have e:(λk=> !(λk=>saB (a k) (b k) (c k) (U k) (O k)) k)=nsB a b c U O:=rfl;rw [e];show decide ((if GT (nsB a b c U O) n<n then (GT (nsB a b c U O) n:Int) else -1)>=0)=_
 split<;>simp<;>omega
def Xu1:UU
 |[.lst 5 n f,.fn (.func 170) [] [.ro [.fn (.func 129) [.agg [.x (.int .i64 4),.x (.int .i64 10),.lst 5 n1 f1]] []]]]=>some ([U9 5 n f,n<=100000],bl (!zX n (col 0 f) (col 1 f) (col 2 f) (col 3 f) (col 4 f)))
 |_=>none
theorem Zh3:VM VL 169 Xu1:=by
 refine ⟨(UC Tryz.func169),?_⟩;intro avs ns res h hn;unfold Xu1 at h;split at h;cases h;have hr:_:=hn _ (GB);have hr1:_:=hn _ (HM _ (GB));exact (Zh4 _ (col 0 _) (col 1 _) (col 2 _) (col 3 _) (col 4 _) _ _ hr1).same (.cons (.lst 5 _ _ _ hr) (.cons (.refl _) .nil));cases h
theorem Xe7(n:Nat)(a b c U O:Nat->Int)(f:Nat->List AV)(n1:Nat)(VO:n<=100000):VV VL 130 [sls n a b c U O,.fn (.func 129) [.agg [i 4,i 10,.lst 5 n1 f]] []] (bl (zX n a b c U O)):=by
 refine VY (L:=[]) (Ae Zh3 Aa) VW Tryz.func130 (UR Tryz.f130) U0 (t:=need [U9 5 n λk=>[i (a k),i (b k),i (c k),i (U k),i (O k)],n<=100000] (leaf (RV.x (.bool !!zX n a b c U O)))) VQ ?_;simp only [VJ.sat,U8,UZ,UB,UE];refine ⟨⟨λ_ _=>rfl,VO⟩,?_⟩;show (!!zX n a b c U O)=_;simp
def Ww4:UU
 |[.lst 5 n f,.fn (.func 129) [.agg [.x (.int .i64 4),.x (.int .i64 10),.lst 5 n1 f1]] []]=>some ([U9 5 n f,n<=100000],bl (zX n (col 0 f) (col 1 f) (col 2 f) (col 3 f) (col 4 f)))
 |_=>none
theorem Xe6:VM VL 130 Ww4:=by
 refine ⟨(UC Tryz.func130),?_⟩;intro avs ns res h hn;unfold Ww4 at h;split at h;cases h;have hr:_:=hn _ (GB);have hr1:_:=hn _ (HM _ (GB));exact (Xe7 _ (col 0 _) (col 1 _) (col 2 _) (col 3 _) (col 4 _) _ _ hr1).same (.cons (.lst 5 _ _ _ hr) (.cons (.refl _) .nil));cases h
theorem NO(n:Nat)(a b c U O:Nat->Int)(VO:n<=8):VV VL 83 [.agg [i 4,i 10,sls n a b c U O]] (i (if zX n a b c U O then 0 else 1)):=by
 refine VY (L:=[]) (Ae Xe6 (Ae z8 Aa)) VW Tryz.func83 (UR Tryz.f83) U0 (t:=branch (decide ((n:Int)>8)) (leaf (RV.x (KJ))) (branch (!bt (1:Int) (4:Int) (6:Int)) (leaf (RV.x (JS))) (branch (!bt (0:Int) (10:Int) (1000:Int)) (leaf (RV.x (JS))) (need [U9 5 n λk=>[i (a k),i (b k),i (c k),i (U k),i (O k)],n<=100000] (branch (!zX n a b c U O) (leaf (RV.x (JS))) (leaf (RV.x (X0)))))))) VQ ?_;simp only [VJ.sat,U8,UZ,UB,UE];have h1:(!bt 1 4 6)=false:=by decide
 have h2:(!bt 0 10 1000)=false:=by decide
 rw [h1,h2];refine ⟨λh=>absurd h (by simp;omega),λ_=>⟨λh=>(Bool.noConfusion h),λ_=>⟨λh=>(Bool.noConfusion h),λ_=>⟨⟨λ_ _=>rfl,VG⟩,λh=>?_,λh=>?_⟩⟩⟩⟩
 rw [Ax] at h;rw [h];rfl;rw [Bool.not_eq_false'] at h;rw [h];rfl
def sg0(k:Nat):Int:=if k=0 then 10 else 0
def sld(F:Nat->Int)(a b c:Int)(k:Nat):Int:=if (k:Int)=b then (if (k:Int)=a then F k-c else F k)+c else if (k:Int)=a then F k-c else F k
abbrev sgs(F:Nat->Int):AV:= .agg [i (F 0),i (F 1),i (F 2),i (F 3),i (F 4),i (F 5)]
def lY:UU
 |[.agg [.x (.int .i64 4),.x (.int .i64 10),.lst 5 n f]]=>some ([],.agg [i 10,i 0,i 0,i 0,i 0,i 0])
 |_=>none
abbrev Q3:List Int:=[(0:Int),0,0,0,0,0]
theorem Qm1(f:Nat->List AV)(n:Nat):VV VL 132 [.agg [i 4,i 10,.lst 5 n f]] (.agg [i 10,i 0,i 0,i 0,i 0,i 0]):=by
 refine GS Tryz.func132 (t:=let W:=(UP 4 (UP 0 (10:Int) (BF Q3) 4) (UP 3 (UP 0 (10:Int) (BF Q3) 3) (UP 2 (UP 0 (10:Int) (BF Q3) 2) (UP 1 (UP 0 (10:Int) (BF Q3) 1) (UP 0 (UP 0 (10:Int) (BF Q3) 0) (jB 0 [(10:Int)] (BF Q3)))))));let z1:=(UP 0 (10:Int) (BF Q3) 5);(need [UG 0 6] (need [1<=6] (need [6<=6] (need [6<=6] (leaf (RV.agg [RV.x (.int .i64 (UP 5 z1 W 0)),RV.x (.int .i64 (UP 5 z1 W 1)),RV.x (.int .i64 (UP 5 z1 W 2)),RV.x (.int .i64 (UP 5 z1 W 3)),RV.x (.int .i64 (UP 5 z1 W 4)),RV.x (.int .i64 (UP 5 z1 W 5))]))))))) VQ ?_;exact YX
theorem NM:VM VL 132 lY:=by
 refine ⟨(UC Tryz.func132),?_⟩;intro avs ns res h hn;unfold lY at h;split at h;cases h;exact Qm1 _ _;cases h
theorem Wc2(F:Nat->Int)(a b c U O:Int)(VO: ∀k,k<6-> -1000000<=F k/\F k<=1000000)(UD:0<=a/\a<=3)(HO:0<=b/\b<=3)(DZ:a≠b)(BM:1<=c/\c<=1000):VV VL 134 [sgs F,.agg [i a,i b,i c,i U,i O]] (sgs (sld F a b c)):=by
 refine GS Tryz.func134 (t:=let z1:=(jB (Int.toNat a*1+0) [U6 [F 0,F 1,F 2,F 3,F 4,F 5] (Int.toNat a*1+0)-c] (U6 [F 0,F 1,F 2,F 3,F 4,F 5]));let W:=(UP 4 (UP (Int.toNat b*1+0) (UP (Int.toNat a*1+0) (U6 [F 0,F 1,F 2,F 3,F 4,F 5] (Int.toNat a*1+0)-c) (U6 [F 0,F 1,F 2,F 3,F 4,F 5]) (Int.toNat b*1+0)+c) z1 4) (UP 3 (UP (Int.toNat b*1+0) (UP (Int.toNat a*1+0) (U6 [F 0,F 1,F 2,F 3,F 4,F 5] (Int.toNat a*1+0)-c) (U6 [F 0,F 1,F 2,F 3,F 4,F 5]) (Int.toNat b*1+0)+c) z1 3) (UP 2 (UP (Int.toNat b*1+0) (UP (Int.toNat a*1+0) (U6 [F 0,F 1,F 2,F 3,F 4,F 5] (Int.toNat a*1+0)-c) (U6 [F 0,F 1,F 2,F 3,F 4,F 5]) (Int.toNat b*1+0)+c) z1 2) (UP 1 (UP (Int.toNat b*1+0) (UP (Int.toNat a*1+0) (U6 [F 0,F 1,F 2,F 3,F 4,F 5] (Int.toNat a*1+0)-c) (U6 [F 0,F 1,F 2,F 3,F 4,F 5]) (Int.toNat b*1+0)+c) z1 1) (UP 0 (UP (Int.toNat b*1+0) (UP (Int.toNat a*1+0) (U6 [F 0,F 1,F 2,F 3,F 4,F 5] (Int.toNat a*1+0)-c) (U6 [F 0,F 1,F 2,F 3,F 4,F 5]) (Int.toNat b*1+0)+c) z1 0) (BF Q3))))));let z2:=(UP (Int.toNat b*1+0) (UP (Int.toNat a*1+0) (U6 [F 0,F 1,F 2,F 3,F 4,F 5] (Int.toNat a*1+0)-c) (U6 [F 0,F 1,F 2,F 3,F 4,F 5]) (Int.toNat b*1+0)+c) z1 5);(need [UG a 6] (need [Int.toNat a*1+0<List.length [F 0,F 1,F 2,F 3,F 4,F 5]] (need [VI (U6 [F 0,F 1,F 2,F 3,F 4,F 5] (Int.toNat a*1+0)-c)] (need [UG a 6] (need [Int.toNat a*1+0+List.length [U6 [F 0,F 1,F 2,F 3,F 4,F 5] (Int.toNat a*1+0)-c]<=List.length [F 0,F 1,F 2,F 3,F 4,F 5]] (need [UG b 6] (need [Int.toNat b*1+0<List.length [F 0,F 1,F 2,F 3,F 4,F 5]] (need [VI (UP (Int.toNat a*1+0) (U6 [F 0,F 1,F 2,F 3,F 4,F 5] (Int.toNat a*1+0)-c) (U6 [F 0,F 1,F 2,F 3,F 4,F 5]) (Int.toNat b*1+0)+c)] (need [UG b 6] (need [Int.toNat b*1+0+List.length [UP (Int.toNat a*1+0) (U6 [F 0,F 1,F 2,F 3,F 4,F 5] (Int.toNat a*1+0)-c) (U6 [F 0,F 1,F 2,F 3,F 4,F 5]) (Int.toNat b*1+0)+c]<=List.length [F 0,F 1,F 2,F 3,F 4,F 5]] (need [6<=List.length [F 0,F 1,F 2,F 3,F 4,F 5]] (need [0+List.length [UP (Int.toNat b*1+0) (UP (Int.toNat a*1+0) (U6 [F 0,F 1,F 2,F 3,F 4,F 5] (Int.toNat a*1+0)-c) (U6 [F 0,F 1,F 2,F 3,F 4,F 5]) (Int.toNat b*1+0)+c) z1 0,UP (Int.toNat b*1+0) (UP (Int.toNat a*1+0) (U6 [F 0,F 1,F 2,F 3,F 4,F 5] (Int.toNat a*1+0)-c) (U6 [F 0,F 1,F 2,F 3,F 4,F 5]) (Int.toNat b*1+0)+c) z1 1,UP (Int.toNat b*1+0) (UP (Int.toNat a*1+0) (U6 [F 0,F 1,F 2,F 3,F 4,F 5] (Int.toNat a*1+0)-c) (U6 [F 0,F 1,F 2,F 3,F 4,F 5]) (Int.toNat b*1+0)+c) z1 2,UP (Int.toNat b*1+0) (UP (Int.toNat a*1+0) (U6 [F 0,F 1,F 2,F 3,F 4,F 5] (Int.toNat a*1+0)-c) (U6 [F 0,F 1,F 2,F 3,F 4,F 5]) (Int.toNat b*1+0)+c) z1 3,UP (Int.toNat b*1+0) (UP (Int.toNat a*1+0) (U6 [F 0,F 1,F 2,F 3,F 4,F 5] (Int.toNat a*1+0)-c) (U6 [F 0,F 1,F 2,F 3,F 4,F 5]) (Int.toNat b*1+0)+c) z1 4,UP (Int.toNat b*1+0) (UP (Int.toNat a*1+0) (U6 [F 0,F 1,F 2,F 3,F 4,F 5] (Int.toNat a*1+0)-c) (U6 [F 0,F 1,F 2,F 3,F 4,F 5]) (Int.toNat b*1+0)+c) z1 5]<=6] (leaf (RV.agg [RV.x (.int .i64 (UP 5 z2 W 0)),RV.x (.int .i64 (UP 5 z2 W 1)),RV.x (.int .i64 (UP 5 z2 W 2)),RV.x (.int .i64 (UP 5 z2 W 3)),RV.x (.int .i64 (UP 5 z2 W 4)),RV.x (.int .i64 (UP 5 z2 W 5))]))))))))))))))) VQ ?_;simp only [VJ.sat,U8,UZ,GH,UB,UE,VI];obtain ⟨A,rfl⟩: ∃A:Nat,a=A:=⟨a.toNat,VG⟩;obtain ⟨B,rfl⟩: ∃B:Nat,b=B:=⟨b.toNat,VG⟩;have h0:=VO 0 VG;have h1:=VO 1 VG;have h2:=VO 2 VG;have h3:=VO 3 VG
 have h4:=VO 4 VG;have h5:=VO 5 VG;rcases (show A=0\/A=1\/A=2\/A=3 by omega) with rfl|rfl|rfl|rfl<;>rcases (show B=0\/B=1\/B=2\/B=3 by omega) with rfl|rfl|rfl|rfl<;>first|(exfalso;omega)|(simp [GJ,UP,U6,sld];omega)
def Qg0:UU
 |[.agg [.x (.int .i64 s0),.x (.int .i64 s1),.x (.int .i64 s2),.x (.int .i64 s3),.x (.int .i64 s4),.x (.int .i64 s5)],.agg [.x (.int .i64 a),.x (.int .i64 b),.x (.int .i64 c),.x (.int .i64 U),.x (.int .i64 O)]]=>some ([-1000000<=s0/\s0<=1000000,-1000000<=s1/\s1<=1000000,-1000000<=s2/\s2<=1000000,-1000000<=s3/\s3<=1000000,-1000000<=s4/\s4<=1000000,-1000000<=s5/\s5<=1000000,0<=a/\a<=3,0<=b/\b<=3,a≠b,1<=c/\c<=1000],sgs (sld (U6 [s0,s1,s2,s3,s4,s5]) a b c))
 |_=>none
def sV(n:Nat)(a b c U O:Nat->Int):Prop:=n<=8/\ ∀k,k<n->saB (a k) (b k) (c k) (U k) (O k)=true
def stF(a b c:Nat->Int)(d:Int):Nat->Nat->Int
 | 0=>sg0
 |k+1=>if MZ d k then sld (stF a b c d k) (a k) (b k) (c k) else stF a b c d k
theorem cV:VM VL 134 Qg0:=by
 refine ⟨(UC Tryz.func134),?_⟩;intro avs ns res h hn;unfold Qg0 at h;split at h;cases h;rename_i s0 s1 s2 s3 s4 s5 a b c U O;refine Wc2 (U6 [s0,s1,s2,s3,s4,s5]) a b c U O ?_ (hn _ VS) (hn _ VS) (hn _ VS) (hn _ VS);intro k hk
 match k,hk with
 | 0,_=>exact hn (-1000000<=s0/\s0<=1000000) VS
 | 1,_=>exact hn (-1000000<=s1/\s1<=1000000) VS
 | 2,_=>exact hn (-1000000<=s2/\s2<=1000000) VS
 | 3,_=>exact hn (-1000000<=s3/\s3<=1000000) VS
 | 4,_=>exact hn (-1000000<=s4/\s4<=1000000) VS
 | 5,_=>exact hn (-1000000<=s5/\s5<=1000000) VS
 cases h
theorem upd6(F:Nat->Int)(a b c:Int)(q:Nat)(hq:q<6):
  UP 5 (sld (U6 [F 0,F 1,F 2,F 3,F 4,F 5]) a b c 5) (UP 4 (sld (U6 [F 0,F 1,F 2,F 3,F 4,F 5]) a b c 4) (UP 3 (sld (U6 [F 0,F 1,F 2,F 3,F 4,F 5]) a b c 3)
   (UP 2 (sld (U6 [F 0,F 1,F 2,F 3,F 4,F 5]) a b c 2) (UP 1 (sld (U6 [F 0,F 1,F 2,F 3,F 4,F 5]) a b c 1) (UP 0 (sld (U6 [F 0,F 1,F 2,F 3,F 4,F 5]) a b c 0) F))))) q=sld F a b c q:=by
 match q,hq with
 | 0,_=>rfl
 | 1,_=>rfl
 | 2,_=>rfl
 | 3,_=>rfl
 | 4,_=>rfl
 | 5,_=>rfl
theorem Xq5(F:Nat->Int)(x0 x1 x2 x3 x4 x5:Int)(q:Nat)(hq:q<6):
  UP 5 x5 (UP 4 x4 (UP 3 x3 (UP 2 x2 (UP 1 x1 (UP 0 x0 F))))) q=U6 [x0,x1,x2,x3,x4,x5] q:=by
 match q,hq with
 | 0,_=>rfl
 | 1,_=>rfl
 | 2,_=>rfl
 | 3,_=>rfl
 | 4,_=>rfl
 | 5,_=>rfl
theorem Qa1{n:Nat}{a b c U O:Nat->Int}(h:sV n a b c U O){k:Nat}(hk:k<n):(0<=a k/\a k<=3)/\(0<=b k/\b k<=3)/\a k≠b k/\(1<=c k/\c k<=1000)/\(0<=U k/\U k<=100)/\(0<=O k/\O k<=100)/\U k<=O k:=Xd4.1 (h.2 k hk)
theorem Qz7{n:Nat}{a b c U O:Nat->Int}(h:sV n a b c U O)(d:Int): ∀k,k<=n-> ∀j,-(1000*k:Int)<=stF a b c d k j/\stF a b c d k j<=10+1000*k
 | 0,_,j=>by
  simp only [stF,sg0];split<;>omega
 |k+1,hk,j=>by
  obtain ⟨_,_,h3,h4,_⟩:=Qa1 h (show k<n by omega)
  have ih:=Qz7 h d k VG j;simp only [stF];split
  ·unfold sld
   repeat' split
   all_goals omega
  omega
theorem Zc9{n:Nat}{a b c U O:Nat->Int}(h:sV n a b c U O)(d:Int){k:Nat}(hk:k<=n)(j:Nat): -1000000<=stF a b c d k j/\stF a b c d k j<=1000000:=by
 have:=Qz7 h d k hk j;have:=h.1;omega
abbrev QQ(n:Nat)(a:Nat->Int)(b:Nat->Int)(c:Nat->Int)(U:Nat->Int)(O:Nat->Int)(ea:AV)(la:AV):AV:=AV.ro [iI 4,iI 10,Q0 n a b c U O,ea,la]
section
variable (ea la:AV)(n:Nat)(a b c U O:Nat->Int)(d:Int)
def Zq2:St:={σ:=[QQ n a b c U O ea la,iI d,top,top,ptr 0 0,ptr 6 0]++HF 11 [Q0 n a b c U O,iI (n:Int)]++HF 13 [],m:=[(6,GL.ints 193 [] 6 λa=>UP 5 (0:Int) (UP 4 (0:Int) (UP 3 (0:Int) (UP 2 (0:Int) (UP 1 (0:Int) (UP 0 (10:Int) (BF Q3)))))) a),(0,GL.ints 193 [] 6 λa=>(0:Int))],nx:=15}
noncomputable def Jp4:Code:=U7 (VP (U5 Tryz.f88) 0)
def Wh3(k:Nat):St:={σ:=H0 [(6,.top),(7,.top),(19,i k)] (Zq2 ea la n a b c U O d).σ,m:=[(6,.ints 193 [] 6 (stF a b c d (k))),(0,.ints 193 [] 6 (λ_=>0))],nx:=15}
def CK(k:Nat):G4->Option St
 | .exit 0=>some {σ:=H0 [(6,.top),(7,.top),(19,i n)] (Zq2 ea la n a b c U O d).σ,m:=[(6,.ints 193 [] 6 (stF a b c d (n))),(0,.ints 193 [] 6 (λ_=>0))],nx:=15}
 |_=>none
def Jk0:CT:= .leaf (.exit 0,(CK ea la n a b c U O d 0 (.exit 0)).getD (Zq2 ea la n a b c U O d))
def Xv0:UF:=(HD (Wh3 ea la n a b c U O d (0)) (Jk0 ea la n a b c U O d))
end
abbrev ZM(n:Nat)(a:Nat->Int)(b:Nat->Int)(c:Nat->Int)(U:Nat->Int)(O:Nat->Int)(ea:AV)(la:AV):Prop:=QQ n a b c U O ea la=QQ n a b c U O ea la
section
variable (ea la:AV)(n:Nat)(a b c U O:Nat->Int)(d:Int)
theorem Zx7(VO:sV n a b c U O)(UD:0<=d/\d<256):G5 VL (.loop Jp4) (Xv0 ea la n a b c U O d):=by
 refine HC (L:=[]) (Ae A3 (Ae cV (Ae NM Aa))) VW U0 (X:=Nat) (Wh3 ea la n a b c U O d) (λk=>k<=n) (λk=>n-k) (CK ea la n a b c U O d) (x0:=0) VG ?_ ?_ ?_;rintro k;kernel_rfl;rintro k y E h;unfold CK at h;split at h;cases h;kernel_rfl;cases h;rintro Q hQ k hx;refine ⟨(k+1),?_⟩;(with_reducible refine DA (t:=let z1:=stF a b c d k;let W:=(U6 [z1 0,z1 1,z1 2,z1 3,z1 4,z1 5]);(branch (decide ((k:Int)<(n:Int))) (need [UG k n] (need [(0:Int)<=(k:Int)/\(k:Int)<=64] (branch (MZ d k) (need [6<=6] (need [(-1000000:Int)<=z1 0/\z1 0<=1000000,(-1000000:Int)<=z1 1/\z1 1<=1000000,(-1000000:Int)<=z1 2/\z1 2<=1000000,(-1000000:Int)<=z1 3/\z1 3<=1000000,(-1000000:Int)<=z1 4/\z1 4<=1000000,(-1000000:Int)<=z1 5/\z1 5<=1000000,(0:Int)<=a k/\a k<=3,(0:Int)<=b k/\b k<=3,a k≠b k,(1:Int)<=c k/\c k<=1000] (need [0+List.length [sld W (a k) (b k) (c k) 0,sld W (a k) (b k) (c k) 1,sld W (a k) (b k) (c k) 2,sld W (a k) (b k) (c k) 3,sld W (a k) (b k) (c k) 4,sld W (a k) (b k) (c k) 5]<=6] (need [VI ((k:Int)+1)] (need [ZM n a b c U O ea la,d=d,QO,YM,W0 n a b c U O,VU (n:Int),(k:Int)+1=(↑(k+1):Int),6=6,GR 6 (UP 5 (sld W (a k) (b k) (c k) 5) (UP 4 (sld W (a k) (b k) (c k) 4) (UP 3 (sld W (a k) (b k) (c k) 3) (UP 2 (sld W (a k) (b k) (c k) 2) (UP 1 (sld W (a k) (b k) (c k) 1) (UP 0 (sld W (a k) (b k) (c k) 0) (z1))))))) (stF a b c d (k+1)),6=6,∀(k:Nat),k<6->(0:Int)=0] (leaf G4.normal)))))) (need [VI ((k:Int)+1)] (need [ZM n a b c U O ea la,d=d,QO,YM,W0 n a b c U O,VU (n:Int),(k:Int)+1=(↑(k+1):Int),6=6,GR 6 z1 (stF a b c d (k+1)),6=6,∀(k:Nat),k<6->(0:Int)=0] (leaf G4.normal)))))) (need [ZM n a b c U O ea la,d=d,QO,YM,W0 n a b c U O,VU (n:Int),(k:Int)=(n:Int),6=6,GR 6 z1 (stF a b c d n),6=6,∀(k:Nat),k<6->(0:Int)=0] (leaf (G4.exit 0))))) VQ ?_);simp only [Jk0,CK,VJ.sat,GQ] at hQ;simp only [VJ.sat,U8,UZ,GH,UB,VI,UE,H6,FW,R0,RT,GJ,CK]
 have h8:=VO.1;refine ⟨λh=>?_,λh=>?_⟩;have hs:=Qa1 VO (show k<n by omega)
 have hl:=Zc9 VO d (show k<=n by omega)
 cases hb:MZ d k
 ·(with_reducible repeat' first|apply Al|intro _)
  all_goals first|exact P4|(first|contradiction|(simp [stF,hb]))
 ·(with_reducible repeat' first|apply Al|intro _)
  all_goals first|exact P4|(first|contradiction|exact (hl _).1|exact (hl _).2|(simp only [stF,hb,if_true];exact upd6 _ _ _ _ _ (by assumption)))
 obtain rfl:k=n:=VG;exact YW
theorem nV(VO:sV n a b c U O)(UD:0<=d/\d<256):VV VL 88 [.ro [i 4,i 10,sls n a b c U O,ea,la],i d] (sgs (stF a b c d n)):=by
 refine VY (L:=[Xv0 ea la n a b c U O d]) (Ae A3 (Ae cV (Ae NM Aa))) VW Tryz.func88 (UR Tryz.f88) (G0 (lpE (b:= .loop Jp4) VQ<|Zx7 ea la n a b c U O d VO UD)) (t:=let z1:=stF a b c d n;let W:=(UP 4 (z1 4) (UP 3 (z1 3) (UP 2 (z1 2) (UP 1 (z1 1) (UP 0 (z1 0) λx=>(0:Int))))));(need [6<=6] (need [ZM n a b c U O ea la,d=d,QO,YM,W0 n a b c U O,VU (n:Int),(0:Int)=(↑(0:Nat):Int),6=6,GR 6 (UP 5 (0:Int) (UP 4 (0:Int) (UP 3 (0:Int) (UP 2 (0:Int) (UP 1 (0:Int) (UP 0 (10:Int) (BF Q3))))))) (stF a b c d 0),6=6,∀(k:Nat),k<6->(0:Int)=0] (need [6<=6] (need [0+List.length [z1 0,z1 1,z1 2,z1 3,z1 4,z1 5]<=6] (leaf (RV.agg [RV.x (.int .i64 (UP 5 (z1 5) W 0)),RV.x (.int .i64 (UP 5 (z1 5) W 1)),RV.x (.int .i64 (UP 5 (z1 5) W 2)),RV.x (.int .i64 (UP 5 (z1 5) W 3)),RV.x (.int .i64 (UP 5 (z1 5) W 4)),RV.x (.int .i64 (UP 5 (z1 5) W 5))]))))))) VQ ?_
 simp only [VJ.sat,U8,UZ,GH,UB,UE]
 (with_reducible repeat' first|apply Al|intro _)
 all_goals first|exact Ak|omega|with_reducible rfl|rfl|(simp;done)|skip
 rename_i q hq;rw [Xq5 _ _ _ _ _ _ _ q hq]
 match q,hq with
 | 0,_=>rfl
 | 1,_=>rfl
 | 2,_=>rfl
 | 3,_=>rfl
 | 4,_=>rfl
 | 5,_=>rfl
end
section
variable (n:Nat)(a b c U O:Nat->Int)
def fI:UU
 |[.ro [.x (.int .i64 4),.x (.int .i64 10),.lst 5 n1 f1,ea,la],.x (.int .i64 d)]=>some ([lst 5 n1 f1=sls n a b c U O,0<=d/\d<256],sgs (stF a b c d n))
 |_=>none
theorem qR(VO:sV n a b c U O):VM VL 88 (fI n a b c U O):=by
 refine ⟨(UC Tryz.func88),?_⟩;intro avs ns res h hn;unfold fI at h;split at h;cases h;rename_i n1 f1 ea la d;have e:=hn _ GB;rw [e];exact nV ea la n a b c U O d VO (hn _ VS);cases h
end
theorem uO{n:Nat}(h:n<=8):(1:Int)<=2^n/\(2:Int)^n<=256:=by
 rcases (show n=0\/n=1\/n=2\/n=3\/n=4\/n=5\/n=6\/n=7\/n=8 by omega) with rfl|rfl|rfl|rfl|rfl|rfl|rfl|rfl|rfl<;>decide
def M4:UU
 |[.ro [.x (.int .i64 4),.x (.int .i64 10),.lst 5 n f,ea,la]]=>some ([n<=8],i (2^n-1))
 |_=>none
theorem Ql7(ea la:AV)(n:Nat)(f:Nat->List AV)(VO:n<=8):VV VL 86 [.ro [i 4,i 10,.lst 5 n f,ea,la]] (i (2^n-1)):=by
 refine GS Tryz.func86 (t:=need [(0:Int)<=(n:Int)/\(n:Int)<=64,VI ((1:Int)*2^n)] (need [VI ((1:Int)*2^n-1)] (leaf (RV.x (.int .i64 ((1:Int)*2^n-1)))))) VQ ?_;simp only [VJ.sat,U8,UZ,GH,UB,UE,Int.one_mul,VI];have h:=uO VO;omega
theorem L9:VM VL 86 M4:=by
 refine ⟨(UC Tryz.func86),?_⟩;intro avs ns res h hn;unfold M4 at h;split at h;cases h;exact Ql7 _ _ _ _ (hn _ VS);cases h
def UN(p:Nat->Bool):Nat->Nat
 | 0=>0
 |k+1=>UN p k+(match p k with|true=>1|false=>0)
def UI(p:Nat->Bool)(n q:Nat):Nat:=GT (λj=>p j&&Nat.beq (UN p j) q) n
def st6(F:Nat->Int):Nat->Int:=UP 5 (F 5) (UP 4 (F 4) (UP 3 (F 3) (UP 2 (F 2) (UP 1 (F 1) (UP 0 (F 0) (BF [0,0,0,0,0,0]))))))
def quB(n:Nat)(a b c:Nat->Int)(d:Int)(j:Nat):Bool:= !MZ d j&&decide (stF a b c d n (a j).toNat>=c j)
def saV(a b c U O:Nat->Int)(j:Nat):List Value:=[.int .i64 j,.agg #[.int .i64 (a j),.int .i64 (b j),.int .i64 (c j),.int .i64 (U j),.int .i64 (O j)]]
def quV(n:Nat)(a b c U O:Nat->Int)(d:Int)(q:Nat):List Value:=saV a b c U O (UI (quB n a b c d) n q)
def quN(n:Nat)(a b c:Nat->Int)(d:Int):Nat:=UN (quB n a b c d) n
theorem Zd0(F:Nat->Int){q:Nat}(hq:q<6):st6 F q=F q:=by
 unfold st6;rw [Xq5 _ _ _ _ _ _ _ q hq]
 match q,hq with
 | 0,_=>rfl
 | 1,_=>rfl
 | 2,_=>rfl
 | 3,_=>rfl
 | 4,_=>rfl
 | 5,_=>rfl
theorem f8(p:Nat->Bool){b c:Nat}(h:b<=c):UN p b<=UN p c:=by
 induction h with
 |refl=>exact Am _
 |step _ ih=>exact Ar ih (Nat.le_add_right _ _)
section
variable {p:Nat->Bool}
theorem DS{k:Nat}(h:p k=true):UN p (k+1)=UN p k+1:=by
 simp only [UN,h]
theorem FR{k:Nat}(h:p k=false):UN p (k+1)=UN p k:=by
 simp only [UN,h,Bg]
theorem PV{n k:Nat}(hk:k<n)(h:p k=true):UI p n (UN p k)=k:=by
 refine zM hk ?_ λj hj=>?_;simp [h];cases hp:p j;rfl;have h1:=DS hp;have h2:=f8 p (show j+1<=k by omega)
 simp only [Bool.true_and];cases hb:Nat.beq (UN p j) (UN p k);rfl;have:=GU hb;omega
end
theorem zQ(p:Nat->Bool): ∀k,UN p k<=k
 | 0=>Am 0
 |k+1=>by
  have:=zQ p k;unfold UN;split<;>omega
theorem lH{p:Nat->Bool}: ∀{k q:Nat},q<UN p k-> ∃j,j<k/\p j=true/\UN p j=q
 | 0,q,h=>absurd h (by simp [UN])
 |k+1,q,h=>by
  rcases An q (UN p k) with h1|h1;obtain ⟨j,hj,h2⟩:=lH h1;exact ⟨j,VG,h2⟩;cases hp:p k;rw [FR hp] at h;omega;rw [DS hp] at h;exact ⟨k,VG,hp,VG⟩
theorem uF{p:Nat->Bool}{n q:Nat}(h:q<UN p n):UI p n q<n/\p (UI p n q)=true:=by
 obtain ⟨j,hj,hp,hc⟩:=lH h;rw [←hc,PV hj hp];exact ⟨hj,hp⟩
def AE:UU
 |[.ro [.x (.int .i64 4),.x (.int .i64 10),.lst 5 n f,ea,la],.x (.int .i64 d)]=>some ([],.fn (.func 171) [] [.ro [.ro [i 4,i 10,.lst 5 n f,ea,la]],.ro [i d]])
 |_=>none
theorem Wc5(ea la:AV)(n:Nat)(f:Nat->List AV)(d:Int):DH VL 131 [.ro [i 4,i 10,.lst 5 n f,ea,la],i d] (.fn (.func 171) [] [.ro [.ro [i 4,i 10,.lst 5 n f,ea,la]],.ro [i d]]):=by
 refine HE (L:=[]) Aa Ad VW Tryz.func131 (UR Tryz.f131) UV (t:=leaf (AV.fn (Fn.func 171) [] [AV.ro [AV.ro [iI 4,iI 10,lst 5 n λa=>f a,ea,la]],AV.ro [iI d]])) VQ ?_;exact rfl
theorem NL:L2 VL 131 AE:=by
 refine ⟨(UC Tryz.func131),?_⟩;intro avs ns res h hn;unfold AE at h;split at h;cases h;exact Wc5 _ _ _ _ _;cases h
section
variable (l:Nat)(ea la:AV)(n:Nat)(a b c U O:Nat->Int)(d:Int)
def Xa9:St:={σ:=[AV.fn (Fn.yield l) [] [],AV.ro [QQ n a b c U O ea la],AV.ro [iI d],top,ptr 3 0]++HF 9 [Q0 n a b c U O,iI (n:Int)]++HF 26 [],m:=[(3,GL.ints 193 [] 6 λa_1=>UP 5 (stF a b c d n 5) (UP 4 (stF a b c d n 4) (UP 3 (stF a b c d n 3) (UP 2 (stF a b c d n 2) (UP 1 (stF a b c d n 1) (UP 0 (stF a b c d n 0) (BF Q3)))))) a_1)],nx:=12,gh:=some 0}
noncomputable def Zt2:Code:=U7 (VP (U5 Tryz.f171) 0)
def TZ(k:Nat):St:={σ:=H0 [(4,.roI [] 6 (st6 (stF a b c d n)) 0),(5,.top),(6,.top),(16,i k)] (Xa9 l ea la n a b c U O d).σ,m:=[],nx:=12,gh:=some (UN (quB n a b c d) k) }
def jO(k:Nat):G4->Option St
 | .exit 0=>some {σ:=H0 [(4,.roI [] 6 (st6 (stF a b c d n)) 0),(5,.top),(6,.top),(16,i n)] (Xa9 l ea la n a b c U O d).σ,m:=[],nx:=12,gh:=some (quN n a b c d) }
 | .ret=>some {σ:=H0 [(4,.roI [] 6 (st6 (stF a b c d n)) 0),(5,.top),(6,.top),(16,.top)] (Xa9 l ea la n a b c U O d).σ,m:=[],nx:=12,gh:=none}
 |_=>none
def Jl0:CT:= .may True (.leaf (.exit 0,(jO l ea la n a b c U O d 0 (.exit 0)).getD (Xa9 l ea la n a b c U O d))) (.leaf (.ret,(jO l ea la n a b c U O d 0 .ret).getD (Xa9 l ea la n a b c U O d)))
def Xw0:UF:=GG [(.slot 4,3,193,1)] (HD (TZ l ea la n a b c U O d (0)) (Jl0 l ea la n a b c U O d))
end
abbrev ZQ(a:Nat->Int)(b:Nat->Int)(c:Nat->Int)(d:Int)(n:Nat):Prop:=roI [] 6 (λa_1=>st6 (stF a b c d n) a_1) 0=roI [] 6 (λa_1=>st6 (stF a b c d n) a_1) 0
abbrev KY(d:Int):Prop:=AV.ro [iI d]=AV.ro [iI d]
abbrev Y7(n:Nat)(a:Nat->Int)(b:Nat->Int)(c:Nat->Int)(U:Nat->Int)(O:Nat->Int)(ea:AV)(la:AV):Prop:=AV.ro [QQ n a b c U O ea la]=AV.ro [QQ n a b c U O ea la]
theorem Ja8(l:Nat)(ea la:AV)(n:Nat)(a b c U O:Nat->Int)(d:Int)(VO:sV n a b c U O)(UD:0<=d/\d<256){cx:Cx}(hX:VT VL {Y:=some (l,(quN n a b c d),(quV n a b c U O d)) } cx):HH VL none cx (.loop Zt2) (Xw0 l ea la n a b c U O d):=by
 refine FH [(.slot 4,3,193,1)] (L:=[]) (Ae A3 (Ae (qR n a b c U O VO) Aa)) hX VW UV (V:=Nat) (TZ l ea la n a b c U O d) (λk=>k<=n) (λk=>n-k) (jO l ea la n a b c U O d) (x0:=0) VS ?_ ?_ ?_;rintro k;kernel_rfl;rintro k y E h;unfold jO at h;split at h;cases h;kernel_rfl;cases h;kernel_rfl;cases h;rintro Q hQ k hx;refine ⟨(k+1),?_⟩;have e:HU VL [(133,sT),(88,(fI n a b c U O))] {Y:=some (l,(quN n a b c d),(quV n a b c U O d)) } [] [(.slot 4,3,193,1)] Zt2 (TZ l ea la n a b c U O d k) (TZ l ea la n a b c U O d ((k+1))) (jO l ea la n a b c U O d k)=(let z3:=Y7 n a b c U O ea la;let z2:=quB n a b c d;let W:=(need [VI ((k:Int)+1)] (need [XG l,z3,KY d,ZQ a b c d n,W0 n a b c U O,VU (n:Int),(k:Int)+1=(↑(k+1):Int),UN (z2) k=UN (z2) (k+1)] (leaf G4.normal)));let z1:=(UI (z2) n (UN (z2) k));(branch (decide ((k:Int)<(n:Int))) (need [UG k n] (need [(0:Int)<=(k:Int)/\(k:Int)<=64] (branch (!MZ d k) (need [UG (a k) 6] (need [(a k).toNat*1+0<6] (branch (decide (st6 (stF a b c d n) ((a k).toNat*1+0)>=c k)) (need [l=l,UN (z2) k<quN n a b c d,[Value.int IntKind.i64 (k:Int),Value.agg {toList:=[Value.int IntKind.i64 (a k),Value.int IntKind.i64 (b k),Value.int IntKind.i64 (c k),Value.int IntKind.i64 (U k),Value.int IntKind.i64 (O k)] }]=[Value.int IntKind.i64 (z1:Int),Value.agg {toList:=[Value.int IntKind.i64 (a z1),Value.int IntKind.i64 (b z1),Value.int IntKind.i64 (c z1),Value.int IntKind.i64 (U z1),Value.int IntKind.i64 (O z1)] }]] (VJ.may True (need [VI ((k:Int)+1)] (need [XG l,z3,KY d,ZQ a b c d n,W0 n a b c U O,VU (n:Int),(k:Int)+1=(↑(k+1):Int),UN (z2) k+1=UN (z2) (k+1)] (leaf G4.normal))) (need [XG l,z3,KY d,ZQ a b c d n,W0 n a b c U O,VU (n:Int)] (leaf G4.ret)))) W))) W))) (need [XG l,z3,KY d,ZQ a b c d n,W0 n a b c U O,VU (n:Int),(k:Int)=(n:Int),UN (z2) k=quN n a b c d] (leaf (G4.exit 0))))):=VQ;rw [e];simp only [Jl0,jO,VJ.sat,GQ] at hQ;have hQ1: ∀E,jO l ea la n a b c U O d k (.exit 0)=some E->Q (.exit 0,E):=λE hE=>by cases hE;exact hQ.1 trivial
 have hQ2: ∀E,jO l ea la n a b c U O d k .ret=some E->Q (.ret,E):=λE hE=>by cases hE;exact hQ.2
 simp only [VJ.sat,U8,UE,H6,VI,FC];clear e hQ;have h8:=VO.1;have hX:(a k).toNat*1+0=(a k).toNat:=VG;rw [hX];refine ⟨λh=>?_,λh=>?_⟩;have hk:k<n:=VG;have hs:=Qa1 VO hk;have hno:quB n a b c d k=false->UN (quB n a b c d) k=UN (quB n a b c d) (k+1):=λh=>(FR h).symm;rw [Zd0 _ (show (a k).toNat<6 by omega)]
 refine ⟨VG,VG,λh1=>⟨VG,VG,λh2=>?_,λh2=>?_⟩,λh1=>?_⟩
 ·have hq:quB n a b c d k=true:=by
   unfold quB;rw [h1,decide_eq_true h2];rfl
  have hy:=DS hq;have hm:=f8 (quB n a b c d) (show k+1<=n by omega)
  rw [PV hk hq]
  (with_reducible repeat' first|apply Al|intro _)
  all_goals first|exact Ak|(simp only [quN];omega)|omega|rfl|exact hQ1 _ (by assumption)|exact hQ2 _ (by assumption)
 ·have hq:quB n a b c d k=false:=by
   unfold quB;rw [decide_eq_false h2,Bool.and_false]
  have hy:=FR hq;all_goals exact V3
 ·have hq:quB n a b c d k=false:=by
   unfold quB;rw [h1];rfl
  have hy:=FR hq;all_goals exact V3
 ·obtain rfl:k=n:=VG;all_goals exact V3
theorem v7(ea la:AV)(n:Nat)(a b c U O:Nat->Int)(d:Int)(VO:sV n a b c U O)(UD:0<=d/\d<256):B7 Tryz.prog 171 [.ro [.ro [i 4,i 10,sls n a b c U O,ea,la]],.ro [i d]] ((quN n a b c d)) (quV n a b c U O d):=by
 refine BJ (L:=λl=>[Xw0 l ea la n a b c U O d]) (Ae A3 (Ae (qR n a b c U O VO) Aa)) VW (UC Tryz.func171) Tryz.func171 (UR Tryz.f171) VQ (λl cx hX=>G0 (lpE (b:= .loop Zt2) VQ<|Ja8 l ea la n a b c U O d VO UD hX)) (t:=λl=>(let W:=stF a b c d n;(need [W0 n a b c U O,(0:Int)<=d/\d<256] (need [0+List.length [W 0,W 1,W 2,W 3,W 4,W 5]<=6] (need [VU (AV.fn (Fn.yield l) [] []),Y7 n a b c U O ea la,KY d,roI [] 6 (λa_1=>UP 5 (W 5) (UP 4 (W 4) (UP 3 (W 3) (UP 2 (W 2) (UP 1 (W 1) (UP 0 (W 0) (BF Q3)))))) a_1) 0=roI [] 6 (λa_1=>st6 (W) a_1) 0,W0 n a b c U O,VU (n:Int),(0:Int)=(↑(0:Nat):Int),0=UN (quB n a b c d) 0] (VJ.may True (need [VU (quN n a b c d)] (leaf PUnit.unit)) (leaf PUnit.unit))))))) (λl=>VQ) ?_
 intro l;simp only [VJ.sat,U8,UZ,GH,UB,UE];exact ⟨UD,VS,⟨rfl,rfl,rfl⟩,λ_=>trivial⟩
noncomputable def Qj4:HY:=rX Tryz.prog [] {} [] Tryz.f131 (U5 Tryz.f131)
theorem dD:G8 VL 131 Qj4:=
 RH (G:=[]) (X:=WC) (L:=[]) Aa Ad VW (UC Tryz.func131) Tryz.func131 (UR Tryz.f131) U0
section
variable (n:Nat)
abbrev ZE:AV:=iI ((2:Int)^n-1+1)
abbrev ZR(a:Nat->Int)(b:Nat->Int)(c:Nat->Int)(U:Nat->Int)(O:Nat->Int):List AV:=[iI 4,iI 10,Q0 n a b c U O]
abbrev KO(a:Nat->Int)(b:Nat->Int)(c:Nat->Int)(U:Nat->Int)(O:Nat->Int):List AV:=[iI 4,iI 10,Q0 n a b c U O,AV.row 901,AV.row 902]
abbrev Y5:GL:=GL.row 3 1 0 λx=>[]
abbrev YD:GL:=GL.cells 134 [ptr 4 0]
def Zr4(a b c U O:Nat->Int):St:={σ:=[agg (ZR n a b c U O),ptr 0 0,QD,ptr 5 0]++HF 14 [ZE n]++HF 140 [],m:=[(902,Y5),(901,Y5),(5,YD),(4,GL.cells 249 (KO n a b c U O)),(0,GL.cells 65 (ZR n a b c U O))],nx:=903}
noncomputable def Jq7:Code:=U7 (VP (U5 Tryz.f84) 0)
def Wi9(a b c U O:Nat->Int)(k:Nat):St:={σ:=H0 [(19,i k)] (Zr4 n a b c U O).σ,m:=[(902,.row 3 1 (k) (λz=>[i ((λ_=> -1) z)])),(901,.row 3 1 (k) (λz=>[i ((λ_=>101) z)])),(5,.cells 134 [.ptr 4 0]),(4,.cells 249 [i 4,i 10,sls n a b c U O,.row 901,.row 902]),(0,.cells 65 [i 4,i 10,sls n a b c U O])],nx:=903}
def CW(a b c U O:Nat->Int)(k:Nat):G4->Option St
 | .exit 0=>some {σ:=H0 [(19,i (2^n))] (Zr4 n a b c U O).σ,m:=[(902,.row 3 1 (2^n) (λz=>[i ((λ_=> -1) z)])),(901,.row 3 1 (2^n) (λz=>[i ((λ_=>101) z)])),(5,.cells 134 [.ptr 4 0]),(4,.cells 249 [i 4,i 10,sls n a b c U O,.row 901,.row 902]),(0,.cells 65 [i 4,i 10,sls n a b c U O])],nx:=903}
 |_=>none
def Jl8(a b c U O:Nat->Int):CT:= .leaf (.exit 0,(CW n a b c U O 0 (.exit 0)).getD (Zr4 n a b c U O))
abbrev JZ:List (Pl×Nat×TypeId×Nat):=[(.cell 4 3,0,0,1),(.cell 4 4,0,0,1),(.cell 4 3,901,3,1),(.cell 4 4,902,3,1)]
def Xx0(a b c U O:Nat->Int):UF:=GG JZ (HD (Wi9 n a b c U O (0)) (Jl8 n a b c U O))
abbrev QG:Prop:=(2:Int)^n-1+1=2^n-1+1
abbrev QP(a:Nat->Int)(b:Nat->Int)(c:Nat->Int)(U:Nat->Int)(O:Nat->Int):Prop:=agg (ZR n a b c U O)=agg (ZR n a b c U O)
abbrev QY:Prop:=(4:Int)=4
abbrev W9:Prop:=(10:Int)=10
abbrev WI:Prop:=AV.row 902=AV.row 902
abbrev ZV:List AV:=[iI 101]
abbrev YK:Nat->List AV:=λz=>[iI (-1:Int)]
theorem Jc8(a b c U O:Nat->Int)(VO:sV n a b c U O):G5 VL (.loop Jq7) (Xx0 n a b c U O):=by
 refine zH JZ (L:=[]) (Ae L9 Aa) VW U0 (X:=Nat) (Wi9 n a b c U O) (λk=>k<=2^n) (λk=>2^n-k) (CW n a b c U O) (x0:=0) VS ?_ ?_ ?_;rintro k;kernel_rfl;rintro k y E h;unfold CW at h;split at h;cases h;kernel_rfl;cases h;rintro Q hQ k hx;refine ⟨(k+1),?_⟩;(with_reducible refine DA (t:=let W:=(need [VI ((k:Int)+1)] (need [QP n a b c U O,QO,QD=QD,ZL,QG n,(k:Int)+1=(↑(k+1):Int),k+1=k+1,GR (k+1) (GE k (YK) (U3 1 [iI (-1:Int)])) (λi=>[iI (-1:Int)]),k+1=k+1,GR (k+1) (GE k (λz=>ZV) (U3 1 ZV)) (λi=>ZV),W2,QY,W9,W0 n a b c U O,WG,WI,QY,W9,W0 n a b c U O] (leaf G4.normal)));(branch (decide ((k:Int)<2^n-1+1)) (need [(k+1)*8<=140737488355328,∀(i:Nat),i<1-> ∀(a:AV),a∈U3 1 ZV i->AV.one a=true] (need [(k+1)*8<=140737488355328,RQ 1 (U3 1 [iI (-1:Int)])] (VJ.may True W (VJ.may True W (VJ.may True W (VJ.may True W W)))))) (need [QP n a b c U O,QO,QD=QD,ZL,QG n,(k:Int)=2^n,k=2^n,∀(i:Nat),i<2^n->[iI (-1:Int)]=[iI (-1:Int)],k=2^n,∀(i:Nat),i<2^n->ZV=ZV,W2,QY,W9,W0 n a b c U O,WG,WI,QY,W9,W0 n a b c U O] (leaf (G4.exit 0))))) VQ ?_)
 simp only [Jl8,CW,VJ.sat,GQ] at hQ;simp only [VJ.sat,U8,UZ,GH,UB,VI,UE,H6,FW,R0,RT,GJ,CW]
 have h8:=VO.1;have hp:=uO h8;have hpn:((2^n:Nat):Int)=2^n:=VS;refine ⟨λh=>?_,λh=>?_⟩
 ·have hk:k<2^n:=VG
  (with_reducible repeat' first|apply Al|intro _)
  all_goals first|exact P4|(first|exact FM (by assumption) (by simp [AV.one,Value.oneCell'])|exact Pt.catF1 (a:=λ_=>101) (by assumption) rfl|exact Pt.catF1 (a:=λ_=> -1) (by assumption) rfl)
 obtain rfl:k=2^n:=VG;exact YW
end
def eQ(p:Nat->Bool)(n:Nat)(U O:Nat->Int)(d:Nat)(E:Nat->Int):Nat->Nat->Int
 | 0=>E
 |q+1=>if max (eQ p n U O d E q d) (U (UI p n q))<=O (UI p n q) then UP (d ||| 2^UI p n q) (min (eQ p n U O d E q (d ||| 2^UI p n q)) (max (eQ p n U O d E q d) (U (UI p n q)))) (eQ p n U O d E q) else eQ p n U O d E q
def eD(n:Nat)(a b c U O:Nat->Int):Nat->Nat->Int
 | 0=>λk=>if k=0 then 0 else 101
 |d+1=>if eD n a b c U O d d=101 then eD n a b c U O d else eQ (quB n a b c d) n U O d (eD n a b c U O d) (quN n a b c d)
section
variable (n:Nat)(a b c U O:Nat->Int)
noncomputable def Zr3:St:={σ:=[agg (ZR n a b c U O),ptr 0 0,QD,ptr 5 0]++HF 14 [ZE n,iI ((2:Int)^n)]++HF 27 [ZE n]++HF 111 [],m:=[(902,GL.row 3 1 (2^n) λz=>[iI (-1:Int)]),(901,GL.row 3 1 (2^n) λk=>iI (if decide (k=(0:Int).toNat)=true then (0:Int) else (101:Int))::Bool.rec ([]) ([]) (decide (k=(0:Int).toNat))),(5,YD),(4,GL.keep 249 (KO n a b c U O)),(0,GL.cells 65 (ZR n a b c U O))],nx:=913}
noncomputable def bI:Code:=U7 (VP (U5 Tryz.f84) 1)
noncomputable def Wi8(d:Nat):St:={σ:=H0 [(4,.top),(48,i d),(5,.top),(6,.top),(7,.top),(8,.top)] (Zr3 n a b c U O).σ,m:=[(902,.row 3 1 (2^n) (λz=>[i ((λ_=> -1) z)])),(901,.row 3 1 (2^n) (λz=>[i ((eD n a b c U O (d)) z)])),(5,.cells 134 [.ptr 4 0]),(4,.keep 249 [i 4,i 10,sls n a b c U O,.row 901,.row 902]),(0,.cells 65 [i 4,i 10,sls n a b c U O])],nx:=903}
noncomputable def CV(d:Nat):G4->Option St
 | .exit 2=>some {σ:=H0 [(4,.top),(48,i (2^n)),(5,.top),(6,.top),(7,.top),(8,.top)] (Zr3 n a b c U O).σ,m:=[(902,.row 3 1 (2^n) (λz=>[i ((λ_=> -1) z)])),(901,.row 3 1 (2^n) (λz=>[i ((eD n a b c U O (2^n)) z)])),(5,.cells 134 [.ptr 4 0]),(4,.keep 249 [i 4,i 10,sls n a b c U O,.row 901,.row 902]),(0,.cells 65 [i 4,i 10,sls n a b c U O])],nx:=903}
 |_=>none
noncomputable def Jl7:CT:= .leaf (.exit 2,(CV n a b c U O 0 (.exit 2)).getD (Zr3 n a b c U O))
noncomputable def Xw9:UF:=GG [(.cell 5 0,0,0,0)] (HD (Wi8 n a b c U O (0)) (Jl7 n a b c U O))
end
theorem BY{n d:Nat}(h8:n<=8)(h:d<2^n):(0:Int)<=d/\(d:Int)<256:=by
 have hp:=uO h8;have hpn:((2^n:Nat):Int)=2^n:=VS;omega
theorem Qb0{n d s:Nat}(h:d<2^n)(hs:s<n):d ||| 2^s<2^n:=Nat.or_lt_two_pow h (Nat.pow_lt_pow_right (by decide) hs)
theorem Wd2{n d s:Nat}(h8:n<=8)(h:d<2^n)(hs:s<n):IntKind.i64.wrap ((BitVec.ofInt 64 (d:Int) ||| BitVec.ofInt 64 (1*2^s)).toNat:Int)=((d ||| 2^s:Nat):Int):=by
 have h2:=BY h8 h;have h3:2^s<2^n:=Nat.pow_lt_pow_right (by decide) hs
 have h4:=BY h8 h3;have e:(1*2^s:Int)=((2^s:Nat):Int):=by rw [Int.one_mul];simp
 rw [e];exact Xf1 VG VG
theorem uJ{F:Nat->Int}{v:Int}{q j:Nat}:H9 (decide (j=q)) [i v] [i (F j)]=[i (UP q v F j)]:=by
 unfold UP;by_cases h:j=q;rw [decide_eq_true h,if_pos h];rfl;rw [decide_eq_false h,if_neg h];rfl
abbrev ZW:AV:=AV.fn (Fn.func 171) [] [ptr 917 0,ptr 918 0]
section
variable (n:Nat)(a b c U O:Nat->Int)(d:Nat)
def Jo6:St:={σ:=[agg (ZR n a b c U O),ptr 0 0,QD,ptr 5 0,ptr 905 0]++HF 13 [ZE n,iI ((2:Int)^n)]++HF 27 [ZE n,iI (d:Int)]++HF 12 [ZW]++HF 97 [],m:=[(918,GL.keep 189 [iI (d:Int)]),(917,GL.keep 134 [ptr 4 0]),(905,GL.cells 189 [iI (d:Int)]),(902,GL.row 3 1 (2^n) λz=>[iI (-1:Int)]),(901,GL.row 3 1 (2^n) λz=>[iI (eD n a b c U O d z)]),(5,YD),(4,GL.keep 249 (KO n a b c U O)),(0,GL.cells 65 (ZR n a b c U O))],nx:=922}
noncomputable def Js5:Code:=SW (VP bI 0)
noncomputable def Jq6:Code:=SV (VP bI 0)
def pC(k:Nat):St:={σ:=H0 [(5,.top),(6,.top),(7,.top),(8,.top)] (Jo6 n a b c U O d).σ,m:=[(918,.keep 189 [i d]),(917,.keep 134 [.ptr 4 0]),(905,.cells 189 [i d]),(902,.row 3 1 (2^n) (λz=>[i ((λ_=> -1) z)])),(901,.row 3 1 (2^n) (λz=>[i ((eQ (quB n a b c d) n U O d (eD n a b c U O d) (k)) z)])),(5,.cells 134 [.ptr 4 0]),(4,.keep 249 [i 4,i 10,sls n a b c U O,.row 901,.row 902]),(0,.cells 65 [i 4,i 10,sls n a b c U O])],nx:=922}
def oC(k:Nat):G4->Option St
 | .normal=>some {σ:=H0 [(5,.top),(6,.top),(7,.top),(8,.top)] (Jo6 n a b c U O d).σ,m:=[(918,.keep 189 [i d]),(917,.keep 134 [.ptr 4 0]),(905,.cells 189 [i d]),(902,.row 3 1 (2^n) (λz=>[i ((λ_=> -1) z)])),(901,.row 3 1 (2^n) (λz=>[i ((eQ (quB n a b c d) n U O d (eD n a b c U O d) ((quN n a b c d))) z)])),(5,.cells 134 [.ptr 4 0]),(4,.keep 249 [i 4,i 10,sls n a b c U O,.row 901,.row 902]),(0,.cells 65 [i 4,i 10,sls n a b c U O])],nx:=922}
 |_=>none
def T_kc:CT:= .leaf (.normal,pC n a b c U O d (quN n a b c d))
def Xw8:UF:=GG [(.slot 61,0,0,0)] (HD (pC n a b c U O d (0)) (T_kc n a b c U O d))
end
abbrev XT(n:Nat):Prop:=(2:Int)^n=2^n
theorem Jc6(n:Nat)(a b c U O:Nat->Int)(d:Nat)(VO:sV n a b c U O)(UD:d<2^n):HN VL (.rangeFunc (rfF (VP bI 0)) (jK (VP bI 0)) Js5 Jq6) (Xw8 n a b c U O d):=by
 refine yL [(.slot 61,0,0,0)] (L:=[]) (Ae DW (Ae PI Aa)) Ad VW U0 (V:=Nat) (pC n a b c U O d) (λk=>k<=(quN n a b c d)) (λk=>k) (oC n a b c U O d) (x0:=0) VS rfl ?_ ?_ ?_ ?_ (g:=171) (caps:=[.ro [.ro [i 4,i 10,sls n a b c U O,.top,.top]],.ro [i d]]) (caps0:=[.ptr 917 0,.ptr 918 0]) VQ VQ (v7 .top .top n a b c U O d VO (BY VO.1 UD)) (λ_=>rfl) ?_;rintro k;kernel_rfl;rintro k y E h;unfold oC at h;split at h;cases h;kernel_rfl;cases h;rintro k;rfl;rintro k y E h;unfold oC at h;split at h;cases h;rfl;cases h;rintro Q hQ k hx;refine ⟨λhlt=>⟨(k+1),rfl,?_⟩,λPG=>?_⟩;(with_reducible refine DA (t:=let z1:=(quB n a b c (d:Int));let W:=(BitVec.toNat (BitVec.ofInt 64 (d:Int) ||| BitVec.ofInt 64 ((1:Int)*2^UI z1 n k)));let z2:=(IntKind.wrap IntKind.i64 (W:Int));let z3:=eD n a b c U O d;let z4:=eQ z1 n U O d;(need [UG d (↑(2^n):Int)] (need [d<2^n] (branch (decide (max (z4 (z3) k d) (U (UI z1 n k))<=O (UI z1 n k))) (need [(0:Int)<=(↑(UI z1 n k):Int)/\(↑(UI z1 n k):Int)<=64,VI ((1:Int)*2^UI z1 n k)] (need [UG (IntKind.wrap IntKind.i64 (W:Int)) (↑(2^n):Int)] (need [Int.toNat z2<2^n] (need [UG (IntKind.wrap IntKind.i64 (W:Int)) (↑(2^n):Int)] (need [Int.toNat z2<2^n] (need [QP n a b c U O,QO,QD=QD,ZL,VU (ptr 905 0),QG n,XT n,QG n,VU (d:Int),ZW=ZW,VU (d:Int),W2,VU (d:Int),2^n=2^n,∀(i:Nat),i<2^n->[iI (-1:Int)]=[iI (-1:Int)],2^n=2^n,∀(i:Nat),i<2^n->H9 (decide (i=Int.toNat z2)) [iI (min (z4 (z3) k (Int.toNat z2)) (max (z4 (z3) k d) (U (UI z1 n k))))] [iI (z4 (z3) k i)]=[iI (z4 (z3) (k+1) i)],W2,QY,W9,W0 n a b c U O,WG,WI,QY,W9,W0 n a b c U O] (leaf G4.normal))))))) (need [QP n a b c U O,QO,QD=QD,ZL,VU (ptr 905 0),QG n,XT n,QG n,VU (d:Int),ZW=ZW,VU (d:Int),W2,VU (d:Int),2^n=2^n,∀(i:Nat),i<2^n->[iI (-1:Int)]=[iI (-1:Int)],2^n=2^n,∀(i:Nat),i<2^n->[iI (z4 (z3) k i)]=[iI (z4 (z3) (k+1) i)],W2,QY,W9,W0 n a b c U O,WG,WI,QY,W9,W0 n a b c U O] (leaf G4.normal)))))) VQ ?_)
 have h8:=VO.1;have hd:=BY h8 UD;have hpn:((2^n:Nat):Int)=2^n:=VS;have hs:=uF hlt;have hor:=Wd2 h8 UD hs.1;have hol:=Qb0 UD hs.1;simp only [VJ.sat,U8,UE,hor,FC,H6]
 have hd2:(d:Int)<2^n:=by
  have h:(d:Int)<((2^n:Nat):Int):=Int.ofNat_lt.2 UD
  rwa [hpn] at h
 have Qp2:((d ||| 2^UI (quB n a b c d) n k:Nat):Int)<2^n:=by
  have h:((d ||| 2^UI (quB n a b c d) n k:Nat):Int)<((2^n:Nat):Int):=Int.ofNat_lt.2 hol
  rwa [hpn] at h
 have hk1:k+1<=quN n a b c d:=hlt;have h2s:(1:Int)<=2^UI (quB n a b c d) n k/\(2:Int)^UI (quB n a b c d) n k<=256:=uO VG;have h64:=hs.1;refine ⟨⟨VG,hd2⟩,UD,λh=>?_,λh=>?_⟩;refine ⟨⟨⟨VG,VG⟩,by simp only [VI,Int.one_mul];omega⟩,⟨VG,Qp2⟩,hol,⟨VG,Qp2⟩,hol,⟨λ_ _=>trivial,λj hj=>?_⟩,hk1⟩
 simp only [eQ,if_pos h];exact uJ;refine ⟨⟨λ_ _=>trivial,λj hj=>?_⟩,hk1⟩;simp only [eQ,if_neg h];have hk:k=quN n a b c d:=VG;subst hk;exact hQ
theorem uW{P:Program}{G:List (Nat×UU)}{E:Ext}{L:List UF}(N:List (Pl×Nat×TypeId×Nat))(hG:VH P G)(hX: ∀cx,VT P E cx)(GN:P.follows .mixedOrders=true){body:Code}(hL: ∀j cj,VP body j=some cj-> ∀sp,L[j]? =some sp->HN P cj sp)
  {X:Type}(inv:X->St)(I:X->Prop)(μ:X->Nat)(out:X->G4->Option St){t:CT}{x0:X}(h0:I x0)
  (hok: ∀x,Go.Sx.okB (inv x)=true)(qN: ∀x y E,out x y=some E->Go.Sx.okB E=true)
  (round: ∀(Q:G4×St->Prop),t.sat Q-> ∀x,I x-> ∃x',(HU P G E L N body (inv x) (inv x') (out x)).sat (λy=>match y with
   | .normal=>I x'/\μ x'<μ x
   |y=> ∀E,out x y=some E->Q (y,E))):HN P (.loop body) (GG N (HD (inv x0) t)):=
 λcx hf=>FH N hG (hX cx) GN (λj cj hj sp hsp=>hL j cj hj sp hsp cx hf) inv I μ out h0 hok qN round
theorem gU{P:Program}{c:Code}{t:Nat}{F:Nat->UF}(h: ∀k,HN P c (F k)):HN P c (BG t F):=by
 intro cx hf n s tr ht Q hQ a w r;unfold BG at ht;split at ht;exact h _ cx hf n s tr ht Q hQ a w r;cases ht
abbrev JL:List (Nat×UU):=[(86,M4),(90,kL),(89,M5)]
noncomputable abbrev KD:Ext:={R:=[],H:=[(131,Qj4)] }
theorem Jc7(n:Nat)(a b c U O:Nat->Int)(VO:sV n a b c U O):HN VL (.loop bI) (Xw9 n a b c U O):=by
 refine uW [(.cell 5 0,0,0,0)] (L:=[BG 48 (λd=>FE [d<2^n] (Xw8 n a b c U O d))]) (Ae L9 (Ae DW (Ae PI Aa))) (Ai Ab (Ag dD Ac)) VW (G0 (λcj hcj=>by
  have e:VP bI 0=some (.rangeFunc (rfF (VP bI 0)) (jK (VP bI 0)) Js5 Jq6):=VQ;rw [e] at hcj;cases hcj;exact gU (λd=>PW (λh=>Jc6 n a b c U O d VO h)))) (X:=Nat) (Wi8 n a b c U O) (λd=>d<=2^n) (λd=>2^n-d) (CV n a b c U O) (x0:=0) VS ?_ ?_ ?_
 rintro d;kernel_rfl;rintro d y E h;unfold CV at h;split at h;cases h;kernel_rfl;cases h;rintro Q hQ d hx;refine ⟨(d+1),?_⟩;(with_reducible refine DA (t:=let W:=W0 n a b c U O;let z1:=eD n a b c U O d;(branch (decide ((d:Int)<2^n-1+1)) (need [UG d (↑(2^n):Int)] (need [d<2^n] (branch (z1 d==101) (need [VI ((d:Int)+1)] (need [QP n a b c U O,QO,QD=QD,ZL,QG n,XT n,QG n,(d:Int)+1=(↑(d+1):Int),2^n=2^n,∀(i:Nat),i<2^n->[iI (-1:Int)]=[iI (-1:Int)],2^n=2^n,∀(i:Nat),i<2^n->[iI (z1 i)]=[iI (eD n a b c U O (d+1) i)],W2,QY,W9,W,WG,WI,QY,W9,W] (leaf G4.normal))) (need [d<2^n] (need [QP n a b c U O,QO,QD=QD,ZL,VU (ptr 905 0),QG n,XT n,QG n,VU (d:Int),ZW=ZW,VU (d:Int),W2,VU (d:Int),2^n=2^n,∀(i:Nat),i<2^n->[iI (-1:Int)]=[iI (-1:Int)],2^n=2^n,∀(i:Nat),i<2^n->[iI (z1 i)]=[iI (eQ (quB n a b c (d:Int)) n U O d (z1) 0 i)],W2,QY,W9,W,WG,WI,QY,W9,W] (need [VI ((d:Int)+1)] (need [QP n a b c U O,QO,QD=QD,ZL,QG n,XT n,QG n,(d:Int)+1=(↑(d+1):Int),2^n=2^n,∀(i:Nat),i<2^n->[iI (-1:Int)]=[iI (-1:Int)],2^n=2^n,∀(i:Nat),i<2^n->[iI (eQ (quB n a b c (d:Int)) n U O d (z1) (quN n a b c (d:Int)) i)]=[iI (eD n a b c U O (d+1) i)],W2,QY,W9,W,WG,WI,QY,W9,W] (leaf G4.normal)))))))) (need [QP n a b c U O,QO,QD=QD,ZL,QG n,XT n,QG n,(d:Int)=2^n,2^n=2^n,∀(i:Nat),i<2^n->[iI (-1:Int)]=[iI (-1:Int)],2^n=2^n,∀(i:Nat),i<2^n->[iI (z1 i)]=[iI (eD n a b c U O (2^n) i)],W2,QY,W9,W,WG,WI,QY,W9,W] (leaf (G4.exit 2))))) VQ ?_);simp only [Jl7,CV,VJ.sat,GQ] at hQ;simp only [VJ.sat,U8,UZ,GH,UB,VI,UE,H6,FW,R0,RT,GJ,CV]
 have h8:=VO.1;have hp:=uO h8;have hpn:((2^n:Nat):Int)=2^n:=VS;refine ⟨λh=>?_,λh=>?_⟩;have hd3:(d:Int)<2^n:=VG;have hd:d<2^n:=by
  have h':(d:Int)<((2^n:Nat):Int):=by rw [hpn];exact hd3
  exact Int.ofNat_lt.1 h'
 have hd2:=BY h8 hd;refine ⟨⟨VG,hd3⟩,hd,λhb=>?_,λhb=>?_⟩;rw [beq_iff_eq] at hb;refine ⟨VG,⟨VG,λ_ _=>trivial,λj hj=>by simp only [eD,if_pos hb]⟩,hd,VG⟩
 rw [beq_eq_false_iff_ne] at hb;refine ⟨hd,⟨λ_ _=>trivial,λj hj=>rfl⟩,VG,⟨VG,λ_ _=>trivial,λj hj=>by simp only [eD,if_neg hb]⟩,hd,VG⟩
 have hd:d=2^n:=by
  have h': ¬(d:Int)<((2^n:Nat):Int):=by rw [hpn];omega
  omega
 subst hd;exact ⟨⟨hpn,λ_ _=>trivial,λj hj=>rfl⟩,λE hE=>by cases hE;exact hQ⟩
def pm(n:Nat):Nat:=2^n-1
def lQ(p:Nat->Bool)(n:Nat)(U O:Nat->Int)(d:Nat)(F:Nat->Int):Nat->Nat->Int
 | 0=>F
 |q+1=>if min (lQ p n U O d F q (d ||| 2^UI p n q)) (O (UI p n q))>=U (UI p n q) then UP d (max (lQ p n U O d F q d) (min (lQ p n U O d F q (d ||| 2^UI p n q)) (O (UI p n q)))) (lQ p n U O d F q) else lQ p n U O d F q
def lS(n:Nat)(a b c U O:Nat->Int):Nat->Nat->Int
 | 0=>UP (2^n-1) 101 (λ_=> -1)
 |s+1=>lQ (quB n a b c ((2^n-2-s:Nat):Int)) n U O (2^n-2-s) (lS n a b c U O s) (quN n a b c ((2^n-2-s:Nat):Int))
section
variable (n:Nat)(a b c U O:Nat->Int)
noncomputable def Zr2:St:={σ:=[agg (ZR n a b c U O),ptr 0 0,QD,ptr 5 0]++HF 14 [ZE n,iI ((2:Int)^n)]++HF 27 [ZE n,iI ((2:Int)^n)]++HF 110 [],m:=[(903,GL.cells 189 [iI ((2:Int)^n-1-1)]),(902,GL.row 3 1 (2^n) λk=>iI (if decide (k=((2:Int)^n-1).toNat)=true then (101:Int) else (-1:Int))::Bool.rec ([]) ([]) (decide (k=((2:Int)^n-1).toNat))),(901,GL.row 3 1 (2^n) λz=>[iI (eD n a b c U O (2^n) z)]),(5,YD),(4,GL.keep 249 (KO n a b c U O)),(0,GL.cells 65 (ZR n a b c U O))],nx:=916}
noncomputable def bH:Code:=U7 (VP (U5 Tryz.f84) 2)
noncomputable def Wi7(d:Nat):St:={σ:=H0 [(9,.ptr 903 0),(10,.top),(11,.top),(12,.top)] (Zr2 n a b c U O).σ,m:=[(903,.cells 189 [i (((d:Nat):Int)-1)]),(902,.row 3 1 (2^n) (λz=>[i ((lS n a b c U O (2^n-1-(d))) z)])),(901,.row 3 1 (2^n) (λz=>[i ((eD n a b c U O (2^n)) z)])),(5,.cells 134 [.ptr 4 0]),(4,.keep 249 [i 4,i 10,sls n a b c U O,.row 901,.row 902]),(0,.cells 65 [i 4,i 10,sls n a b c U O])],nx:=904}
noncomputable def CU(d:Nat):G4->Option St
 | .exit 6=>some {σ:=H0 [(9,.ptr 903 0),(10,.top),(11,.top),(12,.top)] (Zr2 n a b c U O).σ,m:=[(903,.cells 189 [i (((0:Nat):Int)-1)]),(902,.row 3 1 (2^n) (λz=>[i ((lS n a b c U O (2^n-1-(0))) z)])),(901,.row 3 1 (2^n) (λz=>[i ((eD n a b c U O (2^n)) z)])),(5,.cells 134 [.ptr 4 0]),(4,.keep 249 [i 4,i 10,sls n a b c U O,.row 901,.row 902]),(0,.cells 65 [i 4,i 10,sls n a b c U O])],nx:=904}
 |_=>none
noncomputable def Jl6:CT:= .leaf (.exit 6,(CU n a b c U O (pm n) (.exit 6)).getD (Zr2 n a b c U O))
noncomputable def Xw7:UF:=GG [(.slot 9,903,189,2),(.cell 5 0,0,0,0)] (HD (Wi7 n a b c U O (pm n)) (Jl6 n a b c U O))
abbrev ZX:AV:=AV.fn (Fn.func 171) [] [ptr 908 0,ptr 909 0]
def Jo5(d:Nat):St:={σ:=[agg (ZR n a b c U O),ptr 0 0,QD,ptr 5 0]++HF 5 [ptr 903 0]++HF 8 [ZE n,iI ((2:Int)^n)]++HF 27 [ZE n,iI ((2:Int)^n)]++HF 69 [ZX]++HF 40 [],m:=[(909,GL.keep 189 [iI ((d:Int)-1)]),(908,GL.keep 134 [ptr 4 0]),(903,GL.cells 189 [iI ((d:Int)-1)]),(902,GL.row 3 1 (2^n) λz=>[iI (lS n a b c U O (2^n-1-d) z)]),(901,GL.row 3 1 (2^n) λz=>[iI (eD n a b c U O (2^n) z)]),(5,YD),(4,GL.keep 249 (KO n a b c U O)),(0,GL.cells 65 (ZR n a b c U O))],nx:=913}
noncomputable def Js4:Code:=SW (VP bH 0)
noncomputable def Jq5:Code:=SV (VP bH 0)
def pB(d:Nat)(k:Nat):St:={σ:=H0 [(10,.top),(11,.top),(12,.top)] (Jo5 n a b c U O d).σ,m:=[(909,.keep 189 [i ((d:Int)-1)]),(908,.keep 134 [.ptr 4 0]),(903,.cells 189 [i (((d:Nat):Int)-1)]),(902,.row 3 1 (2^n) (λz=>[i ((lQ (quB n a b c ((d:Int)-1)) n U O (d-1) (lS n a b c U O (2^n-1-d)) (k)) z)])),(901,.row 3 1 (2^n) (λz=>[i ((eD n a b c U O (2^n)) z)])),(5,.cells 134 [.ptr 4 0]),(4,.keep 249 [i 4,i 10,sls n a b c U O,.row 901,.row 902]),(0,.cells 65 [i 4,i 10,sls n a b c U O])],nx:=913}
def oA(d:Nat)(k:Nat):G4->Option St
 | .normal=>some {σ:=H0 [(10,.top),(11,.top),(12,.top)] (Jo5 n a b c U O d).σ,m:=[(909,.keep 189 [i ((d:Int)-1)]),(908,.keep 134 [.ptr 4 0]),(903,.cells 189 [i (((d:Nat):Int)-1)]),(902,.row 3 1 (2^n) (λz=>[i ((lQ (quB n a b c ((d:Int)-1)) n U O (d-1) (lS n a b c U O (2^n-1-d)) ((quN n a b c ((d:Int)-1)))) z)])),(901,.row 3 1 (2^n) (λz=>[i ((eD n a b c U O (2^n)) z)])),(5,.cells 134 [.ptr 4 0]),(4,.keep 249 [i 4,i 10,sls n a b c U O,.row 901,.row 902]),(0,.cells 65 [i 4,i 10,sls n a b c U O])],nx:=913}
 |_=>none
def T_ke(d:Nat):CT:= .leaf (.normal,pB n a b c U O d (quN n a b c ((d:Int)-1)))
def Xw6(d:Nat):UF:=GG [(.slot 118,0,0,0)] (HD (pB n a b c U O d (0)) (T_ke n a b c U O d))
abbrev ZP:Prop:=ptr 903 0=ptr 903 0
theorem Jc4(d:Nat)(VO:sV n a b c U O)(UD:1<=d)(HO:d<2^n):HN VL (.rangeFunc (rfF (VP bH 0)) (jK (VP bH 0)) Js4 Jq5) (Xw6 n a b c U O d):=by
 refine yL [(.slot 118,0,0,0)] (L:=[]) (Ae DW (Ae PI Aa)) Ad VW U0 (V:=Nat) (pB n a b c U O d) (λk=>k<=(quN n a b c ((d:Int)-1))) (λk=>k) (oA n a b c U O d) (x0:=0) VS rfl ?_ ?_ ?_ ?_ (g:=171) (caps:=[.ro [.ro [i 4,i 10,sls n a b c U O,.top,.top]],.ro [i ((d:Int)-1)]]) (caps0:=[.ptr 908 0,.ptr 909 0]) VQ VQ (v7 .top .top n a b c U O ((d:Int)-1) VO (by have:=BY VO.1 HO;omega)) (λ_=>rfl) ?_
 rintro k;kernel_rfl;rintro k y E h;unfold oA at h;split at h;cases h;kernel_rfl;cases h;rintro k;rfl;rintro k y E h;unfold oA at h;split at h;cases h;rfl;cases h;rintro Q hQ k hx;refine ⟨λhlt=>⟨(k+1),rfl,?_⟩,λPG=>?_⟩;(with_reducible refine DA (t:=let W:=(quB n a b c ((d:Int)-1));let z1:=(BitVec.toNat (BitVec.ofInt 64 ((d:Int)-1) ||| BitVec.ofInt 64 ((1:Int)*2^UI W n k)));let z2:=(lS n a b c U O (2^n-1-d));let z3:=(VU ((d:Int)-1));let z5:=lQ W n U O;let z4:=(z5 (d-1) z2 k (IntKind.wrap IntKind.i64 (z1:Int)).toNat);(need [(0:Int)<=(↑(UI W n k):Int)/\(↑(UI W n k):Int)<=64,VI ((1:Int)*2^UI W n k)] (need [UG (IntKind.wrap IntKind.i64 (z1:Int)) (↑(2^n):Int)] (need [(IntKind.wrap IntKind.i64 (z1:Int)).toNat<2^n] (branch (decide (min z4 (O (UI W n k))>=U (UI W n k))) (need [UG ((d:Int)-1) (↑(2^n):Int)] (need [((d:Int)-1).toNat<2^n] (need [UG ((d:Int)-1) (↑(2^n):Int)] (need [((d:Int)-1).toNat<2^n] (need [QP n a b c U O,QO,QD=QD,ZL,ZP,QG n,XT n,QG n,XT n,ZX=ZX,z3,W2,z3,2^n=2^n,∀(i:Nat),i<2^n->H9 (decide (i=((d:Int)-1).toNat)) [iI (max (z5 (d-1) z2 k ((d:Int)-1).toNat) (min z4 (O (UI W n k))))] [iI (z5 (d-1) z2 k i)]=[iI (z5 (d-1) z2 (k+1) i)],2^n=2^n,∀(i:Nat),i<2^n->[iI (eD n a b c U O (2^n) i)]=[iI (eD n a b c U O (2^n) i)],W2,QY,W9,W0 n a b c U O,WG,WI,QY,W9,W0 n a b c U O] (leaf G4.normal)))))) (need [QP n a b c U O,QO,QD=QD,ZL,ZP,QG n,XT n,QG n,XT n,ZX=ZX,z3,W2,z3,2^n=2^n,∀(i:Nat),i<2^n->[iI (z5 (d-1) z2 k i)]=[iI (z5 (d-1) z2 (k+1) i)],2^n=2^n,∀(i:Nat),i<2^n->[iI (eD n a b c U O (2^n) i)]=[iI (eD n a b c U O (2^n) i)],W2,QY,W9,W0 n a b c U O,WG,WI,QY,W9,W0 n a b c U O] (leaf G4.normal))))))) VQ ?_)
 have h8:=VO.1;obtain ⟨D,rfl⟩: ∃D,d=D+1:=⟨d-1,VG⟩;have hD:(((D+1:Nat):Int)-1)=(D:Int):=VG;have hd:D<2^n:=VG;have hdi:=BY h8 hd;have hpn:((2^n:Nat):Int)=2^n:=VS;simp only [hD] at*;have hs:=uF hlt;have hor:=Wd2 h8 hd hs.1;have hol:=Qb0 hd hs.1;simp only [VJ.sat,U8,UE,hor,FC,H6,Bi]
 have hd2:(D:Int)<2^n:=by
  have h:(D:Int)<((2^n:Nat):Int):=Int.ofNat_lt.2 hd
  rwa [hpn] at h
 have Qp2:((D ||| 2^UI (quB n a b c D) n k:Nat):Int)<2^n:=by
  have h:((D ||| 2^UI (quB n a b c D) n k:Nat):Int)<((2^n:Nat):Int):=Int.ofNat_lt.2 hol
  rwa [hpn] at h
 have hk1:k+1<=quN n a b c D:=hlt;have h2s:(1:Int)<=2^UI (quB n a b c D) n k/\(2:Int)^UI (quB n a b c D) n k<=256:=uO VG;have h64:=hs.1;refine ⟨⟨⟨VG,VG⟩,by simp only [VI,Int.one_mul];omega⟩,⟨VG,Qp2⟩,hol,λh=>?_,λh=>?_⟩
 refine ⟨⟨VG,hd2⟩,hd,⟨VG,hd2⟩,hd,⟨λj hj=>?_,λ_ _=>trivial⟩,hk1⟩;simp only [lQ,if_pos h];exact uJ;refine ⟨⟨λj hj=>?_,λ_ _=>trivial⟩,hk1⟩;simp only [lQ,if_neg h];have hk:k=quN n a b c ((d:Int)-1):=VG;subst hk;exact hQ
theorem Jc5(VO:sV n a b c U O):HN VL (.loop bH) (Xw7 n a b c U O):=by
 refine uW [(.slot 9,903,189,2),(.cell 5 0,0,0,0)] (L:=[BG 117 (λd=>FE [d+1<2^n] (Xw6 n a b c U O (d+1)))]) (Ae L9 (Ae DW (Ae PI Aa))) (Ai Ab (Ag dD Ac)) VW (G0 (λcj hcj=>by
  have e:VP bH 0=some (.rangeFunc (rfF (VP bH 0)) (jK (VP bH 0)) Js4 Jq5):=VQ;rw [e] at hcj;cases hcj;exact gU (λd=>PW (λh=>Jc4 n a b c U O (d+1) VO (Nat.succ_le_succ (Ao _)) h)))) (X:=Nat) (Wi7 n a b c U O) (λd=>d<=pm n) (λd=>d) (CU n a b c U O) (x0:=pm n) (Am _) ?_ ?_ ?_
 rintro d;kernel_rfl;rintro d y E h;unfold CU at h;split at h;cases h;kernel_rfl;cases h;rintro Q hQ d hx;refine ⟨(d-1),?_⟩;(with_reducible refine DA (t:=let W:=(quB n a b c ((↑(((d:Int)-1).toNat+1):Int)-1));let z4:=lS n a b c U O;let z1:=(z4 (2^n-1-(((d:Int)-1).toNat+1)));let z2:=eD n a b c U O;let z3:=W0 n a b c U O;(branch (decide ((d:Int)-1>=(0:Int))) (need [((d:Int)-1).toNat+1<2^n] (need [QP n a b c U O,QO,QD=QD,ZL,ZP,QG n,XT n,QG n,XT n,ZX=ZX,(d:Int)-1=(↑(((d:Int)-1).toNat+1):Int)-1,W2,(d:Int)-1=(↑(((d:Int)-1).toNat+1):Int)-1,2^n=2^n,∀(i:Nat),i<2^n->[iI (z4 (2^n-1-d) i)]=[iI (lQ W n U O (((d:Int)-1).toNat+1-1) z1 0 i)],2^n=2^n,∀(i:Nat),i<2^n->[iI (z2 (2^n) i)]=[iI (z2 (2^n) i)],W2,QY,W9,z3,WG,WI,QY,W9,z3] (need [VI ((↑(((d:Int)-1).toNat+1):Int)-1-1)] (need [QP n a b c U O,QO,QD=QD,ZL,ZP,QG n,XT n,QG n,XT n,(↑(((d:Int)-1).toNat+1):Int)-1-1=(↑(d-1):Int)-1,2^n=2^n,∀(i:Nat),i<2^n->[iI (lQ W n U O (((d:Int)-1).toNat+1-1) z1 (quN n a b c ((↑(((d:Int)-1).toNat+1):Int)-1)) i)]=[iI (z4 (2^n-1-(d-1)) i)],2^n=2^n,∀(i:Nat),i<2^n->[iI (z2 (2^n) i)]=[iI (z2 (2^n) i)],W2,QY,W9,z3,WG,WI,QY,W9,z3] (leaf G4.normal))))) (need [QP n a b c U O,QO,QD=QD,ZL,ZP,QG n,XT n,QG n,XT n,(d:Int)-1=(↑(0:Nat):Int)-1,2^n=2^n,∀(i:Nat),i<2^n->[iI (z4 (2^n-1-d) i)]=[iI (z4 (2^n-1-0) i)],2^n=2^n,∀(i:Nat),i<2^n->[iI (z2 (2^n) i)]=[iI (z2 (2^n) i)],W2,QY,W9,z3,WG,WI,QY,W9,z3] (leaf (G4.exit 6))))) VQ ?_);simp only [Jl6,CU,VJ.sat,GQ] at hQ;simp only [VJ.sat,U8,UZ,GH,UB,VI,UE,H6,FW,R0,RT,GJ,CU]
 have h8:=VO.1;have hpm:pm n=2^n-1:=rfl;rw [hpm] at hx ⊢;have hp:=uO h8;have hpn:((2^n:Nat):Int)=2^n:=VS;refine ⟨λh=>?_,λh=>?_⟩;obtain ⟨D,rfl⟩: ∃D,d=D+1:=⟨d-1,VG⟩;have e1:(((D+1:Nat):Int)-1).toNat=D:=VG;have e2:(((D+1:Nat):Int)-1)=(D:Int):=VG;have hd:D+1<2^n:=VG;have hdi:=BY h8 hd;simp only [e2,FC,Bi,true_and];have hst:lQ (quB n a b c D) n U O D (lS n a b c U O (2^n-1-(D+1))) (quN n a b c D)=lS n a b c U O (2^n-1-D):=by
  have h1:2^n-1-D=(2^n-1-(D+1))+1:=VG;have h2:2^n-2-(2^n-1-(D+1))=D:=VG;rw [h1];simp only [lS,h2]
 refine ⟨hd,⟨λj hj=>rfl,λ_ _=>trivial⟩,VG,⟨λj hj=>by rw [hst],λ_ _=>trivial⟩,VG,VG⟩
 obtain rfl:d=0:=VG;exact ⟨⟨rfl,λj hj=>rfl,λ_ _=>trivial⟩,λE hE=>by cases hE;exact hQ⟩
end
theorem sG{S:Code->UF->Prop}{c:Code}{s0 s1 s2:UF}(h0: ∀cj,VP c 0=some cj->S cj s0)(h1: ∀cj,VP c 1=some cj->S cj s1)(h2: ∀cj,VP c 2=some cj->S cj s2):
  ∀j cj,VP c j=some cj-> ∀sp,[s0,s1,s2][j]? =some sp->S cj sp:=by
 intro j cj hj sp hsp
 match j with
 | 0=>simp at hsp;subst hsp;exact h0 cj hj
 | 1=>simp at hsp;subst hsp;exact h1 cj hj
 | 2=>simp at hsp;subst hsp;exact h2 cj hj
 |j+3=>simp at hsp
section
variable (n:Nat)(a b c U O:Nat->Int)
theorem Wc7(VO:sV n a b c U O):DH VL 84 [.agg [i 4,i 10,sls n a b c U O]] (.ro [i 4,i 10,sls n a b c U O,.lst 1 (2^n) (λz=>[i (eD n a b c U O (2^n) z)]),.lst 1 (2^n) (λz=>[i (lS n a b c U O (2^n-1) z)])]):=by
 refine HE (L:=[Xx0 n a b c U O,Xw9 n a b c U O,Xw7 n a b c U O]) (Ae L9 (Ae DW (Ae PI Aa))) (Ai Ab (Ag dD Ac)) VW Tryz.func84 (UR Tryz.f84) (sG (lpE (b:= .loop Jq7) VQ<|(Jc8 n a b c U O VO).N) (lpE (b:= .loop bI) VQ<|Jc7 n a b c U O VO) (lpE (b:= .loop bH) VQ<|Jc5 n a b c U O VO)) (t:=let W:=W0 n a b c U O;(need [n<=8] (need [VI ((2:Int)^n-1+1)] (need [QP n a b c U O,QO,QD=QD,ZL,QG n,(0:Int)=(↑(0:Nat):Int),0=0,∀(i:Nat),i<0->[]=[iI (-1:Int)],0=0,∀(i:Nat),i<0->[]=ZV,W2,QY,W9,W,WG,WI,QY,W9,W] (need [UG 0 (↑(2^n):Int)] (need [(0:Int).toNat<2^n] (need [n<=8] (need [VI ((2:Int)^n-1+1)] (need [QP n a b c U O,QO,QD=QD,ZL,QG n,XT n,QG n,(0:Int)=(↑(0:Nat):Int),2^n=2^n,∀(i:Nat),i<2^n->[iI (-1:Int)]=[iI (-1:Int)],2^n=2^n,∀(i:Nat),i<2^n->H9 (decide (i=(0:Int).toNat)) [iI 0] ZV=[iI (eD n a b c U O 0 i)],W2,QY,W9,W,WG,WI,QY,W9,W] (need [n<=8] (need [(0:Int)<=2^n-1/\(2:Int)^n-1<(↑(2^n):Int)] (need [((2:Int)^n-1).toNat<2^n] (need [n<=8] (need [VI ((2:Int)^n-1-1)] (need [QP n a b c U O,QO,QD=QD,ZL,ZP,QG n,XT n,QG n,XT n,(2:Int)^n-1-1=(↑(pm n):Int)-1,2^n=2^n,∀(i:Nat),i<2^n->H9 (decide (i=((2:Int)^n-1).toNat)) ZV [iI (-1:Int)]=[iI (lS n a b c U O (2^n-1-pm n) i)],2^n=2^n,∀(i:Nat),i<2^n->[iI (eD n a b c U O (2^n) i)]=[iI (eD n a b c U O (2^n) i)],W2,QY,W9,W,WG,WI,QY,W9,W] (leaf (AV.ro [iI 4,iI 10,Q0 n a b c U O,lst 1 (2^n) λz=>[iI (eD n a b c U O (2^n) z)],lst 1 (2^n) λz=>[iI (lS n a b c U O (2^n-1-0) z)]]))))))))))))))))) VQ ?_
 have h8:=VO.1;have hp:=uO h8;have hpn:((2^n:Nat):Int)=2^n:=VS;have hp1:1<=2^n:=Cc;have hpt:((2:Int)^n-1).toNat=2^n-1:=VG;simp only [VJ.sat,U8,UE,VI,hpt,Int.toNat_zero]
 (with_reducible repeat' first|apply Al|intro _)
 all_goals first|exact Ak|omega|with_reducible rfl|rfl|skip
 rename_i q hq;exact uJ (F:=λ_=>101);have h1:((pm n:Nat):Int)=((2^n:Nat):Int)-1:=by
  unfold pm;omega
 rw [h1,hpn];rename_i q hq;rw [show 2^n-1-pm n=0 from Bs _];exact uJ (F:=λ_=> -1)
def Xn0:UU:=λl=>some ([l=[.agg [i 4,i 10,sls n a b c U O]]],.ro [i 4,i 10,sls n a b c U O,.lst 1 (2^n) (λz=>[i (eD n a b c U O (2^n) z)]),.lst 1 (2^n) (λz=>[i (lS n a b c U O (2^n-1) z)])])
theorem dF(VO:sV n a b c U O):L2 VL 84 (Xn0 n a b c U O):=by
 refine ⟨(UC Tryz.func84),?_⟩;intro avs ns res h hn;cases h;have e:=hn _ GB;subst e;exact Wc7 n a b c U O VO
def Wx7:UU:=λl=>some ([l=[.agg [i 4,i 10,sls n a b c U O]]],i (if zX n a b c U O then 0 else 1))
theorem v9(VO:n<=8):VM VL 83 (Wx7 n a b c U O):=by
 refine ⟨(UC Tryz.func83),?_⟩;intro avs ns res h hn;cases h;have e:=hn _ GB;subst e;exact NO n a b c U O VO
theorem Wc6(E F:Nat->Int)(VO:n<=8):VV VL 85 [.ro [i 4,i 10,sls n a b c U O,.lst 1 (2^n) (λz=>[i (E z)]),.lst 1 (2^n) (λz=>[i (F z)])]] (bl (E (2^n-1) != 101)):=by
 refine VY (L:=[]) (Ae L9 Aa) VW Tryz.func85 (UR Tryz.f85) U0 (t:=need [n<=8] (need [(0:Int)<=2^n-1/\(2:Int)^n-1<(↑(2^n):Int)] (leaf (RV.x (.bool (E ((2:Int)^n-1).toNat != 101)))))) VQ ?_;have hp:=uO VO;have hpn:((2^n:Nat):Int)=2^n:=VS;have hp1:1<=2^n:=Cc;have hpt:((2:Int)^n-1).toNat=2^n-1:=VG;simp only [VJ.sat,U8,UZ,GH,UB,UE,hpt]
 (with_reducible repeat' first|apply Al|intro _)
 all_goals first|exact VO|omega|rfl|trivial
def Xm9(E F:Nat->Int):UU:=λl=>some ([l=[.ro [i 4,i 10,sls n a b c U O,.lst 1 (2^n) (λz=>[i (E z)]),.lst 1 (2^n) (λz=>[i (F z)])]]],bl (E (2^n-1) != 101))
theorem dE(E F:Nat->Int)(VO:n<=8):VM VL 85 (Xm9 n a b c U O E F):=by
 refine ⟨(UC Tryz.func85),?_⟩;intro avs ns res h hn;cases h;have e:=hn _ GB;subst e;exact Wc6 n a b c U O E F VO
theorem cW(E F:Nat->Int)(d Z:Int)(VO:0<=d/\d<2^n):VV VL 87 [.ro [i 4,i 10,sls n a b c U O,.lst 1 (2^n) (λz=>[i (E z)]),.lst 1 (2^n) (λz=>[i (F z)])],i d,i Z] (bl (decide (E d.toNat<=Z)&&decide (F d.toNat>Z))):=by
 refine GS Tryz.func87 (t:=need [UG d (↑(2^n):Int)] (branch (decide (E (Int.toNat d)<=Z)) (need [UG d (↑(2^n):Int)] (leaf (RV.x (.bool (decide (F (Int.toNat d)>Z)))))) (leaf (RV.x (WK))))) VQ ?_;have hpn:((2^n:Nat):Int)=2^n:=VS;simp only [VJ.sat,U8,UZ,GH,UB,UE];have hd:d.toNat<2^n:=VG
 (with_reducible repeat' first|apply Al|intro _)
 all_goals first|omega|(rename_i h;rw [h];rfl)
def MD(E F:Nat->Int):UU
 |[bk,.x (.int .i64 d),.x (.int .i64 Z)]=>some ([bk= .ro [i 4,i 10,sls n a b c U O,.lst 1 (2^n) (λz=>[i (E z)]),.lst 1 (2^n) (λz=>[i (F z)])],0<=d/\d<2^n],bl (decide (E d.toNat<=Z)&&decide (F d.toNat>Z)))
 |_=>none
theorem uN(E F:Nat->Int):VM VL 87 (MD n a b c U O E F):=by
 refine ⟨(UC Tryz.func87),?_⟩;intro avs ns res h hn;unfold MD at h;split at h;cases h;rename_i bk d Z;have e:=hn _ GB;rw [e];exact cW n a b c U O E F d Z (hn _ VS);cases h
end
def hoF(n:Nat)(a b c:Nat->Int)(E F:Nat->Int)(ow Z:Int):Nat->Int×Int
 | 0=>(1001,-1)
 |d+1=>match decide (E d<=Z)&&decide (F d>Z) with
  |true=>(min (hoF n a b c E F ow Z d).1 (stF a b c d n ow.toNat),max (hoF n a b c E F ow Z d).2 (stF a b c d n ow.toNat))
  |false=>hoF n a b c E F ow Z d
theorem nth6(F:Nat->Int){q:Nat}(hq:q<6):U6 [F 0,F 1,F 2,F 3,F 4,F 5] q=F q:=by
 match q,hq with
 | 0,_=>rfl
 | 1,_=>rfl
 | 2,_=>rfl
 | 3,_=>rfl
 | 4,_=>rfl
 | 5,_=>rfl
section
variable (n:Nat)
abbrev WD(a:Nat->Int)(b:Nat->Int)(c:Nat->Int)(U:Nat->Int)(O:Nat->Int)(E:Nat->Int)(F:Nat->Int):AV:=AV.ro [iI 4,iI 10,Q0 n a b c U O,lst 1 (2^n) λz=>[iI (E z)],lst 1 (2^n) λz=>[iI (F z)]]
abbrev JN:List AV:=[iI 0,iI 0]
def Zr6(a b c U O:Nat->Int)(E F:Nat->Int)(ow Z:Int):St:={σ:=[WD n a b c U O E F,iI ow,iI Z,top,top,top,ptr 0 0,ptr 2 0]++HF 5 [ZE n]++HF 25 [],m:=[(2,GL.cells 118 [iI 1001,iI (-1:Int)]),(0,GL.cells 118 JN)],nx:=8}
noncomputable def Jq9:Code:=U7 (VP (U5 Tryz.f57) 0)
def Wj1(a b c U O:Nat->Int)(E F:Nat->Int)(ow Z:Int)(d:Nat):St:={σ:=H0 [(8,.top),(9,.top),(14,i d)] (Zr6 n a b c U O E F ow Z).σ,m:=[(2,.cells 118 [i (hoF n a b c E F ow Z (d)).1,i (hoF n a b c E F ow Z (d)).2]),(0,.cells 118 [i 0,i 0])],nx:=8}
def CY(a b c U O:Nat->Int)(E F:Nat->Int)(ow Z:Int)(d:Nat):G4->Option St
 | .exit 0=>some {σ:=H0 [(8,.top),(9,.top),(14,i (2^n))] (Zr6 n a b c U O E F ow Z).σ,m:=[(2,.cells 118 [i (hoF n a b c E F ow Z (2^n)).1,i (hoF n a b c E F ow Z (2^n)).2]),(0,.cells 118 [i 0,i 0])],nx:=8}
 |_=>none
def Jm0(a b c U O:Nat->Int)(E F:Nat->Int)(ow Z:Int):CT:= .leaf (.exit 0,(CY n a b c U O E F ow Z 0 (.exit 0)).getD (Zr6 n a b c U O E F ow Z))
def Xx2(a b c U O:Nat->Int)(E F:Nat->Int)(ow Z:Int):UF:=(HD (Wj1 n a b c U O E F ow Z (0)) (Jm0 n a b c U O E F ow Z))
abbrev ZA:Prop:=ptr 2 0=ptr 2 0
theorem Je6(a b c U O:Nat->Int)(E F:Nat->Int)(ow Z:Int)(VO:sV n a b c U O)(UD:0<=ow/\ow<4):G5 VL (.loop Jq9) (Xx2 n a b c U O E F ow Z):=by
 refine HC (L:=[]) (Ae PI (Ae DW (Ae L9 (Ae (uN n a b c U O E F) (Ae (qR n a b c U O VO) Aa))))) VW U0 (X:=Nat) (Wj1 n a b c U O E F ow Z) (λd=>d<=2^n) (λd=>2^n-d) (CY n a b c U O E F ow Z) (x0:=0) VS ?_ ?_ ?_;rintro d;kernel_rfl;rintro d y E h;unfold CY at h;split at h;cases h;kernel_rfl;cases h;rintro Q hQ d hx;refine ⟨(d+1),?_⟩;(with_reducible refine DA (t:=let W:=(U6 [stF a b c (d:Int) n 0,stF a b c (d:Int) n 1,stF a b c (d:Int) n 2,stF a b c (d:Int) n 3,stF a b c (d:Int) n 4,stF a b c (d:Int) n 5] (Int.toNat ow));let z2:=hoF n a b c E F ow Z;let z1:=(z2 d);let z3:=(VU (WD n a b c U O E F));(branch (decide ((d:Int)<2^n-1+1)) (need [z3,(0:Int)<=(d:Int)/\(d:Int)<2^n] (branch (decide (E d<=Z)&&decide (F d>Z)) (need [W0 n a b c U O,(0:Int)<=(d:Int)/\(d:Int)<256] (need [UG ow 6] (need [VI ((d:Int)+1)] (need [z3,ow=ow,Z=Z,QO,ZA,QG n,(d:Int)+1=(↑(d+1):Int),min (Prod.fst z1) W=Prod.fst (z2 (d+1)),max (Prod.snd z1) W=Prod.snd (z2 (d+1)),QI,QI] (leaf G4.normal))))) (need [VI ((d:Int)+1)] (need [z3,ow=ow,Z=Z,QO,ZA,QG n,(d:Int)+1=(↑(d+1):Int),Prod.fst z1=Prod.fst (z2 (d+1)),Prod.snd z1=Prod.snd (z2 (d+1)),QI,QI] (leaf G4.normal))))) (need [z3,ow=ow,Z=Z,QO,ZA,QG n,(d:Int)=2^n,Prod.fst z1=Prod.fst (z2 (2^n)),Prod.snd z1=Prod.snd (z2 (2^n)),QI,QI] (leaf (G4.exit 0))))) VQ ?_);simp only [Jm0,CY,VJ.sat,GQ] at hQ;simp only [VJ.sat,U8,UZ,GH,UB,VI,UE,H6,FW,R0,RT,GJ,CY]
 have h8:=VO.1;have hp:=uO h8;have hpn:((2^n:Nat):Int)=2^n:=VS;refine ⟨λh=>?_,λh=>?_⟩;have hd3:(d:Int)<2^n:=VG;have hd:d<2^n:=by
  have h':(d:Int)<((2^n:Nat):Int):=by rw [hpn];exact hd3
  exact Int.ofNat_lt.1 h'
 have hd2:=BY h8 hd;have h6:=nth6 (stF a b c d n) (show ow.toNat<6 by omega)
 refine ⟨⟨VG,hd3⟩,λhb=>?_,λhb=>?_⟩;refine ⟨hd2,⟨VG,VG⟩,VG,⟨VG,?_,?_⟩,hd,VG⟩;simp only [hoF,hb];rw [h6];simp only [hoF,hb];rw [h6];refine ⟨VG,⟨VG,?_,?_⟩,hd,VG⟩;simp only [hoF,hb];simp only [hoF,hb];have hd:d=2^n:=by
  have h': ¬(d:Int)<((2^n:Nat):Int):=by rw [hpn];omega
  omega
 subst hd;exact ⟨⟨hpn,rfl,rfl⟩,λE hE=>by cases hE;exact hQ⟩
theorem Qm0(a b c U O:Nat->Int)(E F:Nat->Int)(ow Z:Int)(VO:sV n a b c U O)(UD:0<=ow/\ow<4):VV VL 57 [.ro [i 4,i 10,sls n a b c U O,.lst 1 (2^n) (λz=>[i (E z)]),.lst 1 (2^n) (λz=>[i (F z)])],i ow,i Z] (.agg [i (hoF n a b c E F ow Z (2^n)).1,i (hoF n a b c E F ow Z (2^n)).2]):=by
 refine VY (L:=[Xx2 n a b c U O E F ow Z]) (Ae PI (Ae DW (Ae L9 (Ae (uN n a b c U O E F) (Ae (qR n a b c U O VO) Aa))))) VW Tryz.func57 (UR Tryz.f57) (G0 (lpE (b:= .loop Jq9) VQ<|Je6 n a b c U O E F ow Z VO UD)) (t:=let W:=hoF n a b c E F ow Z;(need [n<=8] (need [VI ((2:Int)^n-1+1)] (need [VU (WD n a b c U O E F),ow=ow,Z=Z,QO,ZA,QG n,(0:Int)=(↑(0:Nat):Int),(1001:Int)=Prod.fst (W 0),(-1:Int)=Prod.snd (W 0),QI,QI] (leaf (RV.agg [RV.x (.int .i64 (Prod.fst (W (2^n)))),RV.x (.int .i64 (Prod.snd (W (2^n))))])))))) VQ ?_
 have h8:=VO.1;have hp:=uO h8;have hpn:((2^n:Nat):Int)=2^n:=VS;simp only [VJ.sat,U8,UZ,GH,UB,UE,VI,Prod.fst,Prod.snd]
 (with_reducible repeat' first|apply Al|intro _)
 all_goals first|exact Ak|exact h8|omega|rfl
def mH(a b c U O:Nat->Int)(E F:Nat->Int):UU
 |[bk,.x (.int .i64 ow),.x (.int .i64 Z)]=>some ([bk= .ro [i 4,i 10,sls n a b c U O,.lst 1 (2^n) (λz=>[i (E z)]),.lst 1 (2^n) (λz=>[i (F z)])],0<=ow/\ow<4],.agg [i (hoF n a b c E F ow Z (2^n)).1,i (hoF n a b c E F ow Z (2^n)).2])
 |_=>none
theorem v8(a b c U O:Nat->Int)(E F:Nat->Int)(VO:sV n a b c U O):VM VL 57 (mH n a b c U O E F):=by
 refine ⟨(UC Tryz.func57),?_⟩;intro avs ns res h hn;unfold mH at h;split at h;cases h;rename_i bk ow Z;have e:=hn _ GB;rw [e];exact Qm0 n a b c U O E F ow Z VO (hn _ VS);cases h
def xI(a b c U O:Nat->Int):Bool:=eD n a b c U O (2^n) (2^n-1) != 101
end
theorem aT{n:Nat}{a b c U O:Nat->Int}(h:sV n a b c U O):zX n a b c U O=true:=GI.2 h.2
section
variable (n:Nat)
abbrev X4(a:Nat->Int)(b:Nat->Int)(c:Nat->Int)(U:Nat->Int)(O:Nat->Int):List AV:=[agg [iI 4,iI 10,Q0 n a b c U O]]
theorem Ql8(a b c U O:Nat->Int)(rt:Bool)(VO:sV n a b c U O):UH VL 55 [.agg [i 4,i 10,sls n a b c U O],bl rt] (.branch (!rt) (.leaf (.tup [Bo.nilP,i 2])) (.branch (!xI n a b c U O) (.leaf (.tup [Bo.nilP,i 9])) (.leaf (.tup [.ro [i 4,i 10,sls n a b c U O,.lst 1 (2^n) (λz=>[i (eD n a b c U O (2^n) z)]),.lst 1 (2^n) (λz=>[i (lS n a b c U O (2^n-1) z)])],i 0])))):=by
 refine GO (L:=[]) (Ae (v9 n a b c U O VO.1) (Ae (dE n a b c U O (eD n a b c U O (2^n)) (lS n a b c U O (2^n-1)) VO.1) Aa)) (Ai (Af (dF n a b c U O VO) Ab) Ac) VW Tryz.func55 (UR Tryz.f55) UV (t:=let W:=(AV.ro [iI 4,iI 10,Q0 n a b c U O,lst 1 (2^n) λz=>[iI (eD n a b c U O (2^n) z)],lst 1 (2^n) λz=>[iI (lS n a b c U O (2^n-1) z)]]);(need [VU (X4 n a b c U O)] (branch ((if zX n a b c U O=true then (0:Int) else (1:Int)) != 0) (leaf (tup [QD,iI (if zX n a b c U O=true then (0:Int) else (1:Int))])) (branch (!rt) (leaf (tup [QD,iI 2])) (need [VU (X4 n a b c U O)] (need [VU ([W])] (branch (!eD n a b c U O (2^n) (2^n-1) != 101) (leaf (tup [QD,iI 9])) (leaf (tup [W,iI 0]))))))))) VQ ?_
 intro Q hQ;simp only [VJ.sat,U8,UE] at hQ ⊢;rw [aT VO];refine ⟨λh=>by simp at h,λ_=>⟨λh=>⟨.tup [Bo.nilP,i 2],⟨rfl,⟨rfl,rfl⟩,Ak⟩,hQ.1 h⟩,λh=>⟨λh2=>⟨.tup [Bo.nilP,i 9],⟨rfl,⟨rfl,rfl⟩,Ak⟩,(hQ.2 h).1 h2⟩,λh2=>⟨.tup [.ro [i 4,i 10,sls n a b c U O,.lst 1 (2^n) (λz=>[i (eD n a b c U O (2^n) z)]),.lst 1 (2^n) (λz=>[i (lS n a b c U O (2^n-1) z)])],i 0],⟨rfl,⟨rfl,rfl⟩,Ak⟩,(hQ.2 h).2 h2⟩⟩⟩⟩
theorem CE(a b c U O:Nat->Int)(VO:sV n a b c U O):UH VL 55 [.agg [i 4,i 10,sls n a b c U O],.lit true] (.branch (!true) (.leaf (.tup [Bo.nilP,i 2])) (.branch (!xI n a b c U O) (.leaf (.tup [Bo.nilP,i 9])) (.leaf (.tup [.ro [i 4,i 10,sls n a b c U O,.lst 1 (2^n) (λz=>[i (eD n a b c U O (2^n) z)]),.lst 1 (2^n) (λz=>[i (lS n a b c U O (2^n-1) z)])],i 0])))):=by
 refine GO (L:=[]) (Ae (v9 n a b c U O VO.1) (Ae (dE n a b c U O (eD n a b c U O (2^n)) (lS n a b c U O (2^n-1)) VO.1) Aa)) (Ai (Af (dF n a b c U O VO) Ab) Ac) VW Tryz.func55 (UR Tryz.f55) UV (t:=let W:=(AV.ro [iI 4,iI 10,Q0 n a b c U O,lst 1 (2^n) λz=>[iI (eD n a b c U O (2^n) z)],lst 1 (2^n) λz=>[iI (lS n a b c U O (2^n-1) z)]]);(need [VU (X4 n a b c U O)] (branch ((if zX n a b c U O=true then (0:Int) else (1:Int)) != 0) (leaf (tup [QD,iI (if zX n a b c U O=true then (0:Int) else (1:Int))])) (need [VU (X4 n a b c U O)] (need [VU ([W])] (branch (!eD n a b c U O (2^n) (2^n-1) != 101) (leaf (tup [QD,iI 9])) (leaf (tup [W,iI 0])))))))) VQ ?_
 intro Q hQ;simp only [VJ.sat,U8,UE] at hQ ⊢;rw [aT VO]
 replace hQ:=hQ.2 rfl
 refine ⟨λh=>by simp at h,λ_=>⟨λh2=>⟨.tup [Bo.nilP,i 9],⟨rfl,⟨rfl,rfl⟩,Ak⟩,hQ.1 h2⟩,λh2=>⟨.tup [.ro [i 4,i 10,sls n a b c U O,.lst 1 (2^n) (λz=>[i (eD n a b c U O (2^n) z)]),.lst 1 (2^n) (λz=>[i (lS n a b c U O (2^n-1) z)])],i 0],⟨rfl,⟨rfl,rfl⟩,Ak⟩,hQ.2 h2⟩⟩⟩
theorem rP(a b c U O:Nat->Int)(VO:sV n a b c U O):UH VL 55 [.agg [i 4,i 10,sls n a b c U O],.lit false] (.branch (!false) (.leaf (.tup [Bo.nilP,i 2])) (.branch (!xI n a b c U O) (.leaf (.tup [Bo.nilP,i 9])) (.leaf (.tup [.ro [i 4,i 10,sls n a b c U O,.lst 1 (2^n) (λz=>[i (eD n a b c U O (2^n) z)]),.lst 1 (2^n) (λz=>[i (lS n a b c U O (2^n-1) z)])],i 0])))):=by
 refine GO (L:=[]) (Ae (v9 n a b c U O VO.1) (Ae (dE n a b c U O (eD n a b c U O (2^n)) (lS n a b c U O (2^n-1)) VO.1) Aa)) (Ai (Af (dF n a b c U O VO) Ab) Ac) VW Tryz.func55 (UR Tryz.f55) UV (t:=need [VU (X4 n a b c U O)] (branch ((if zX n a b c U O=true then (0:Int) else (1:Int)) != 0) (leaf (tup [QD,iI (if zX n a b c U O=true then (0:Int) else (1:Int))])) (leaf (tup [QD,iI 2])))) VQ ?_
 intro Q hQ;simp only [VJ.sat,U8,UE] at hQ ⊢;rw [aT VO];exact ⟨λh=>by simp at h,λ_=>⟨.tup [Bo.nilP,i 2],⟨rfl,⟨rfl,rfl⟩,Ak⟩,hQ.1 rfl⟩⟩
def MC(a b c U O:Nat->Int):HZ:=λl=>match l with
 |[bt,.x (.bool rt)]=>some (.need [bt= .agg [i 4,i 10,sls n a b c U O]] (.branch (!rt) (.leaf (.tup [Bo.nilP,i 2])) (.branch (!xI n a b c U O) (.leaf (.tup [Bo.nilP,i 9])) (.leaf (.tup [.ro [i 4,i 10,sls n a b c U O,.lst 1 (2^n) (λz=>[i (eD n a b c U O (2^n) z)]),.lst 1 (2^n) (λz=>[i (lS n a b c U O (2^n-1) z)])],i 0])))))
 |[bt,.lit rt]=>some (.need [bt= .agg [i 4,i 10,sls n a b c U O]] (.branch (!rt) (.leaf (.tup [Bo.nilP,i 2])) (.branch (!xI n a b c U O) (.leaf (.tup [Bo.nilP,i 9])) (.leaf (.tup [.ro [i 4,i 10,sls n a b c U O,.lst 1 (2^n) (λz=>[i (eD n a b c U O (2^n) z)]),.lst 1 (2^n) (λz=>[i (lS n a b c U O (2^n-1) z)])],i 0])))))
 |_=>none
theorem v6(a b c U O:Nat->Int)(VO:sV n a b c U O):Sx.Enters Tryz.prog 55/\ ∀avs t,MC n a b c U O avs=some t->UH VL 55 avs t:=by
 refine ⟨(UC Tryz.func55),?_⟩;intro avs t h;unfold MC at h;split at h;cases h;intro Q hQ;have e:=hQ.1
 dsimp only [U8] at e
 subst e;exact Ql8 n a b c U O _ VO Q hQ.2;cases h;intro Q hQ;have e:=hQ.1
 dsimp only [U8] at e
 subst e;rename_i rt;cases rt;exact rP n a b c U O VO Q hQ.2;exact CE n a b c U O VO Q hQ.2;cases h
def dY{α:Type}(f:Nat->Option α):Nat->Nat->Option α
 |_,0=>none
 |s,k+1=>match f s with
  |some r=>some r
  |none=>dY f (s+1) k
def orQ(a b c U O:Nat->Int)(g:Nat->Int->Option (List (Nat×Int)))(d:Nat)(Z:Int)(q:Nat):Option (List (Nat×Int)):=
 if max Z (U (UI (quB n a b c d) n q))>O (UI (quB n a b c d) n q) then none else
  match g (d ||| 2^UI (quB n a b c d) n q) (max Z (U (UI (quB n a b c d) n q))) with
  |some l=>some (l++[(UI (quB n a b c d) n q,max Z (U (UI (quB n a b c d) n q)))])
  |none=>none
end
def orF(n:Nat)(a b c U O:Nat->Int):Nat->Nat->Int->Option (List (Nat×Int))
 | 0,_,_=>none
 |N+1,d,Z=>if d=2^n-1 then some [] else dY (orQ n a b c U O (orF n a b c U O N) d Z) 0 (quN n a b c d)
def orS(n:Nat)(a b c U O:Nat->Int)(d:Nat)(Z:Int):Option (List (Nat×Int)):=orF n a b c U O (2^n) d Z
def orL(l:List (Nat×Int)):List Int:=l.map λp=>(p.1:Int)
def dyU:List (Nat×Int)->(Nat->Int)->Nat->Int
 |[],f=>f
 |p::t,f=>dyU t (UP p.1 p.2 f)
section
variable (n:Nat)(a b c U O:Nat->Int)
def orG(d:Nat)(Z:Int):List (Nat×Int):=(orS n a b c U O d Z).getD []
def orH(x:Value):Prop:= ∃(d:Nat) (Z:Int),x= .agg #[.int .i64 d,.int .i64 Z]/\d<2^n/\orS n a b c U O d Z=none
end
def orV:Value->Value:=λ_=> .bool true
def stK(x:Value):Prop:= ∃(d Z:Int),x= .agg #[.int .i64 d,.int .i64 Z]
theorem We7(l m:List Int): ∀k,U6 (l++m) k=if k<l.length then U6 l k else U6 m (k-l.length):=by
 induction l with
 |nil=>intro k;simp
 |cons x l ih=>
  intro k;cases k with
  |zero=>simp [U6]
  |succ k=>
   show U6 (l++m) k=_;rw [ih];simp only [Bj,Nat.add_lt_add_iff_right,Nat.add_sub_add_right];rfl
theorem EI: ∀{l:List Int} {k:Nat} (h:k<l.length),U6 l k=l[k]
 |x::l,0,h=>rfl
 |x::l,k+1,h=>EI (l:=l) (k:=k) (by simpa using h)
theorem dX{α:Type}{f:Nat->Option α}: ∀{k s:Nat},dY f s k=none↔ ∀j,s<=j->j<s+k->f j=none
 | 0,s=>⟨λ_ j h1 h2=>VG,λ_=>rfl⟩
 |k+1,s=>by
  unfold dY;cases h:f s with
  |some r=>exact ⟨λh1=>(by cases h1),λh1=>(by rw [h1 s (Am _) VG] at h;cases h)⟩
  |none=>
   simp only;rw [dX];refine ⟨λh1 j h2 h3=>?_,λh1 j h2 h3=>h1 j VG VG⟩;rcases (show j=s\/s+1<=j by omega) with rfl|h4
   exact h;exact h1 j h4 VG
theorem OK{α:Type}{f:Nat->Option α}{r:α}{q:Nat}(hq:f q=some r): ∀{k s:Nat},s<=q->q<s+k->(∀j,s<=j->j<q->f j=none)->dY f s k=some r
 | 0,s,h1,h2,_=>VG
 |k+1,s,h1,h2,h3=>by
  unfold dY;rcases (show s=q\/s<q by omega) with rfl|h4
  rw [hq];rw [h3 s (Am _) h4];exact OK hq h4 VG (λj h5 h6=>h3 j VG h6)
theorem IC{α:Type}{f g:Nat->Option α}: ∀{k s:Nat},(∀j,s<=j->j<s+k->f j=g j)->dY f s k=dY g s k
 | 0,_,_=>rfl
 |k+1,s,h=>by
  unfold dY;rw [h s (Am _) VG,IC (λj h1 h2=>h j VG VG)]
theorem A1{n:Nat}(h:n<=8):2^n<=256:=by
 have:=uO h;have hpn:((2^n:Nat):Int)=2^n:=VS;omega
theorem Xr8{n:Nat}{a b c:Nat->Int}{d q:Nat}(h8:n<=8)(hd:d<2^n)(hq:q<quN n a b c d):d<d ||| 2^UI (quB n a b c d) n q:=by
 have hs:=uF hq;have h2:=A1 h8;have hb:MZ d (UI (quB n a b c d) n q)=false:=by
  have:=hs.2;unfold quB at this;rw [GZ] at this;have h1:=this.1;unfold quB;simpa using h1
 rw [Wo4 VG] at hb;have hle:d<=d ||| 2^UI (quB n a b c d) n q:=Nat.left_le_or
 rcases Nat.lt_or_eq_of_le hle with h|h;exact h;exfalso;have:(d ||| 2^UI (quB n a b c d) n q).testBit (UI (quB n a b c d) n q)=true:=by
  rw [Nat.testBit_or,Nat.testBit_two_pow_self,Bool.or_true]
 rw [←h,hb] at this;cases this
theorem e9{n:Nat}{a b c U O:Nat->Int}(h8:n<=8): ∀(N N' d:Nat) (Z:Int),d<2^n->2^n-d<=N->2^n-d<=N'->orF n a b c U O N d Z=orF n a b c U O N' d Z
 | 0,_,d,_,h1,h2,_=>VG
 |N+1,0,d,_,h1,_,h3=>VG
 |N+1,N'+1,d,Z,h1,h2,h3=>by
  simp only [orF];split;rfl;refine IC λq _ hq=>?_;have hq:q<quN n a b c d:=VG;have hg:=Xr8 h8 h1 hq;have hl:=Qb0 h1 (uF hq).1;unfold orQ;rw [e9 h8 N N' _ _ hl VG VG]
section
variable {n:Nat}{a b c U O:Nat->Int}
theorem oF(h8:n<=8){d:Nat}(Z:Int)(hd:d<2^n):orS n a b c U O d Z=if d=2^n-1 then some [] else dY (orQ n a b c U O (orS n a b c U O) d Z) 0 (quN n a b c d):=by
 have h:orS n a b c U O d Z=orF n a b c U O (2^n+1) d Z:=e9 h8 _ _ _ _ hd VG VG;rw [h];rfl
theorem Wd5(h8:n<=8)(Z:Int):orS n a b c U O (2^n-1) Z=some []:=by
 have:=A1 h8;have:0<2^n:=Nat.two_pow_pos n;rw [oF h8 Z VG,if_pos rfl]
end
theorem Xf0(l:List (Nat×Int))(p:Nat×Int):orL (l++[p])=orL l++[(p.1:Int)]:=by simp [orL]
theorem Qd9: ∀(l:List (Nat×Int)) (p:Nat×Int) (f:Nat->Int),dyU (l++[p]) f=UP p.1 p.2 (dyU l f)
 |[],_,_=>rfl
 |_::t,p,f=>Qd9 t p _
theorem Qb2{n:Nat}{a b c U O:Nat->Int}: ∀(N d:Nat) (Z:Int) (l:List (Nat×Int)),orF n a b c U O N d Z=some l->l.length<=N
 | 0,_,_,_,h=>by simp [orF] at h
 |N+1,d,Z,l,h=>by
  simp only [orF] at h;split at h;cases h;exact Ao _;obtain ⟨q,hq⟩: ∃q,orQ n a b c U O (orF n a b c U O N) d Z q=some l:=by
   refine Classical.byContradiction λhno=>?_;rw [dX.2 (λj _ _=>?_)] at h;cases h;cases hj:orQ n a b c U O (orF n a b c U O N) d Z j with
   |none=>rfl
   |some r=>
    exfalso;have: ∀(f:Nat->Option (List (Nat×Int))) (k s:Nat) (r:List (Nat×Int)),dY f s k=some r-> ∃q,f q=some r:=by
     intro f k
     induction k with
     |zero=>intro s r h;cases h
     |succ k ih=>
      intro s r h;unfold dY at h;cases hf:f s with
      |some r'=>rw [hf] at h;cases h;exact ⟨s,hf⟩
      |none=>rw [hf] at h;exact ih _ _ h
    exact hno (this _ _ _ _ h)
  unfold orQ at hq;split at hq;cases hq;split at hq;rename_i l' hl';cases hq;have:=Qb2 N _ _ _ hl';rw [Be];simp;omega;cases hq
theorem Qb1(n:Nat)(a b c U O:Nat->Int)(d:Nat)(Z:Int):(orG n a b c U O d Z).length<=2^n:=by
 unfold orG;cases h:orS n a b c U O d Z with
 |none=>exact Ao _
 |some l=>exact Qb2 _ _ _ _ h
theorem NV(d Z:Int):F8 Tryz.prog 340 stK (.agg #[.int .i64 d,.int .i64 Z]) (.bool false):=by
 refine ⟨⟨343,4,(match Tryz.prog.underlying 343 with|some (.struct fs)=>fs|_=>#[]),VQ,VQ,?_,?_,?_⟩,by simp [Instr.sameBits]⟩
 intro b' w;kernel_rfl;rintro k' ⟨d',day',rfl⟩ w;refine ⟨d==d'&&(Z==day'&&true),xJ (P:=Tryz.prog) (e:=PA w w) Op.maxDepth 343 (.agg [i d,i Z]) (.agg [i d',i day']) _ _ _ VQ (Rep.aggL (VZ.cons (.x _) (VZ.one (.x _)))) (Rep.aggL (VZ.cons (.x _) (VZ.one (.x _)))),λh=>?_⟩;simp only [Bool.and_true,GZ,beq_iff_eq] at h;obtain ⟨rfl,rfl⟩:=h;rfl;intro w;kernel_rfl
theorem Wd6{n:Nat}{a b c U O:Nat->Int}{x:Value}(h:orH n a b c U O x):stK x:=by
 obtain ⟨d,Z,h,_⟩:=h;exact ⟨_,_,h⟩
section
variable (n:Nat)(a b c U O:Nat->Int)(ea la:AV)
def OM(d:Nat)(Z:Int)(ord:List Int)(dy:Nat->Int)(oa:Option Addr)(ol oc:Nat)(da:Option Addr)(dl dc:Nat):GW:=[(3,.cells 22 [.row 900]),(3,.cells 22 [.x (.slice oa ol oc)]),(900,.row 3 1 ord.length (λj=>[i (U6 ord j)])),(5,.memo (orH n a b c U O) orV),(7,.row 3 1 n (λj=>[i (dy j)])),(0,.keep 134 [.ro [i 4,i 10,sls n a b c U O,ea,la]]),(1,.keep 340 [.mp 5]),(2,.keep 341 [.fn (.func 237) [] [.ptr 0 0,.ptr 1 0,.ptr 2 0,.ptr 3 0,.ptr 4 0]]),(4,.cells 22 [.row 7]),(4,.cells 22 [.x (.slice da dl dc)])]
def OT_(d:Nat)(Z:Int)(ord:List Int)(dy:Nat->Int)(oa:Option Addr)(ol oc:Nat)(da:Option Addr)(dl dc:Nat)(l:List (Nat×Int)):St:={σ:=[],m:=[(3,.cells 22 [.row 900]),(900,.row 3 1 (ord++orL l).length (λj=>[i (U6 (ord++orL l) j)])),(5,.memo (orH n a b c U O) orV),(7,.row 3 1 n (λj=>[i ((dyU l dy) j)])),(0,.keep 134 [.ro [i 4,i 10,sls n a b c U O,ea,la]]),(1,.keep 340 [.mp 5]),(2,.keep 341 [.fn (.func 237) [] [.ptr 0 0,.ptr 1 0,.ptr 2 0,.ptr 3 0,.ptr 4 0]]),(4,.cells 22 [.row 7]),(4,.cells 22 [.x (.slice da dl dc)])],nx:=901,sv:=[[.ptr 0 0,.ptr 1 0,.ptr 2 0,.ptr 3 0,.ptr 4 0]] }
def OF_(d:Nat)(Z:Int)(ord:List Int)(dy:Nat->Int)(oa:Option Addr)(ol oc:Nat)(da:Option Addr)(dl dc:Nat):St:={σ:=[],m:=[(3,.cells 22 [.row 900]),(3,.cells 22 [.x (.slice oa ol oc)]),(900,.row 3 1 ord.length (λj=>[i (U6 ord j)])),(5,.memo (orH n a b c U O) orV),(7,.row 3 1 n (λj=>[i (dy j)])),(0,.keep 134 [.ro [i 4,i 10,sls n a b c U O,ea,la]]),(1,.keep 340 [.mp 5]),(2,.keep 341 [.fn (.func 237) [] [.ptr 0 0,.ptr 1 0,.ptr 2 0,.ptr 3 0,.ptr 4 0]]),(4,.cells 22 [.row 7]),(4,.cells 22 [.x (.slice da dl dc)])],nx:=901,sv:=[[.ptr 0 0,.ptr 1 0,.ptr 2 0,.ptr 3 0,.ptr 4 0]] }
end
def NT:List (Nat×Nat)->Bool
 |[]=>true
 |(x,y)::t=>match Nat.beq x y with
  |true=>NT t
  |false=>false
def Xg5:GL->Bool
 | .aka _ _ _ _ _=>true
 |_=>false
def oO:GW->GW
 |[]=>[]
 |(k,r)::t=>match Xg5 r with
  |true=>oO t
  |false=>(k,r)::oO t
def xA(k:Nat)(g:Nat->List AV):List Int:=(List.range k).map (col 0 g)
def mV(n:Nat)(a b c U O:Nat->Int)(N:Nat):HY:=λavs m nx sv=>match avs with
 |[.agg [.x (.int .i64 d),.x (.int .i64 Z)],.ptr k W,.ptr g z1,.ptr f z2,.ptr o z3,.ptr dd z4]=>match D8 m k,D8 m g,D8 m f,D8 m o,D8 m dd with
  |some (.keep Tk [.ro [c1,c2,sl,ea,la]]),some (.keep Tg [.mp mg]),some (.keep Tf [.fn (.func fg) [] [.ptr k' y0,.ptr g' y1,.ptr f' y2,.ptr o' y3,.ptr d' y4]]),some (.cells To [.row q]),some (.cells Td [.row r])=>match D8 m mg,D8 m q,D8 m r with
   |some (.memo h ff),some (.row T1 s1 k1 g1),some (.row T2 s2 k2 g2)=>
    match NT [(W,0),(z1,0),(z2,0),(z3,0),(z4,0),(y0,0),(y1,0),(y2,0),(y3,0),(y4,0),(Tk,134),(Tg,340),(Tf,341),(To,22),(Td,22),(fg,237),(k,k'),(g,g'),(f,f'),(o,o'),(dd,d'),(T1,3),(s1,1),(T2,3),(s2,1)]&&(!Nat.beq q r&& !Nat.beq o dd) with
    |true=>some (.needT [c1=i 4,c2=i 10,sl=sls n a b c U O,∀x,h x->orH n a b c U O x/\ff x=orV x,U9 1 k1 g1,U9 1 k2 g2,k2=n,0<=d/\d<2^n,2^n-d.toNat<=N,0<=Z/\Z<=100,k1<=1000]
      (.branch (orS n a b c U O d.toNat Z).isSome
       (.leaf (.lit true,(nx,.row 3 1 (xA k1 g1++orL (orG n a b c U O d.toNat Z)).length (λj=>[i (U6 (xA k1 g1++orL (orG n a b c U O d.toNat Z)) j)]))::qC (qC (qC (jC (oO m) q) o (.cells 22 [.row nx])) r (.row 3 1 n (λj=>[i (dyU (orG n a b c U O d.toNat Z) (col 0 g2) j)]))) mg (.memo (orH n a b c U O) orV),nx+1,sv))
       (.leaf (.lit false,qC (qC (qC (oO m) q (.row 3 1 k1 g1)) r (.row 3 1 n g2)) mg (.memo (orH n a b c U O) orV),nx,sv))))
    |false=>none
   |_,_,_=>none
  |_,_,_,_,_=>none
 |_=>none
theorem Ji3{l:List Int}{x:Int}{j:Nat}(h:j<l.length+1):GE l.length (λj=>[i (U6 l j)]) (U3 1 [i x]) j=[i (U6 (l++[x]) j)]:=by
 rw [We7];show H9 (decide (j<l.length)) _ (U3 1 [i x] (j-l.length))=_;rw [show j-l.length=0 by omega]
 by_cases hj:j<l.length;rw [decide_eq_true hj,if_pos hj];rfl;rw [decide_eq_false hj,if_neg hj];rfl
theorem nP(n:Nat)(f:Nat->Int):U9 1 n (λj=>[i (f j)]):=λj _=>rfl
theorem TA(l:List Int):xA l.length (λj=>[i (U6 l j)])=l:=by
 unfold xA;apply List.ext_getElem?;intro j;rcases An j l.length with hj|hj;rw [Bn,List.getElem?_range hj,HX VG];simp only [Bt,HA];unfold col;show U6 l j=l[j];exact EI VG;rw [Br (by simp;omega),Br VG]
abbrev QM:AV:=AV.fn (Fn.func 237) [] [ptr 0 0,ptr 1 0,ptr 2 0,ptr 3 0,ptr 4 0]
section
variable (n:Nat)(a b c U O:Nat->Int)(ea la:AV)(d:Nat)(Z:Int)(ord:List Int)(dy:Nat->Int)(oa:Option Addr)(ol oc:Nat)(da:Option Addr)(dl dc:Nat)
def Xb0(N:Nat):St:={σ:=[agg [iI (d:Int),iI Z],ptr 0 0,ptr 1 0,ptr 2 0,ptr 3 0,ptr 4 0,ptr 901 0,ptr 902 0]++HF 14 [AV.fn (Fn.func 171) [] [AV.ro [QQ n a b c U O ea la],AV.ro [iI (d:Int)]]]++HF 33 [],m:=[(902,GL.cells 4 [AV.x (WK)]),(901,GL.cells 343 [iI (d:Int),iI Z]),(3,GL.cells 22 [AV.row 900]),(3,GL.cells 22 [AV.x (.slice oa ol oc)]),(900,GL.row 3 1 (List.length ord) λj=>[iI (U6 ord j)]),(5,GL.memo (λx=>orH n a b c U O x) λa=>Value.bool true),(7,GL.row 3 1 n λj=>[iI (dy j)]),(0,GL.keep 134 [QQ n a b c U O ea la]),(1,GL.keep 340 [AV.mp 5]),(2,GL.keep 341 [QM]),(4,GL.cells 22 [AV.row 7]),(4,GL.cells 22 [AV.x (.slice da dl dc)])],nx:=915,sv:=[[ptr 0 0,ptr 1 0,ptr 2 0,ptr 3 0,ptr 4 0]] }
noncomputable def Js3:Code:=SW (VP (U5 Tryz.f237) 0)
noncomputable def Jq3:Code:=SV (VP (U5 Tryz.f237) 0)
def Wi4(N:Nat)(k:Nat):St:={σ:=H0 [(8,.top),(9,.top),(10,.top)] (Xb0 n a b c U O ea la d Z ord dy oa ol oc da dl dc N).σ,m:=[(902,.cells 4 [.x (.bool false)]),(901,.cells 343 [i d,i Z]),(3,.cells 22 [.row 900]),(3,.cells 22 [.x (.slice oa ol oc)]),(900,.row 3 1 ord.length (λj=>[i (U6 ord j)])),(5,.memo (orH n a b c U O) orV),(7,.row 3 1 n (λj=>[i (dy j)])),(0,.keep 134 [.ro [i 4,i 10,sls n a b c U O,ea,la]]),(1,.keep 340 [.mp 5]),(2,.keep 341 [.fn (.func 237) [] [.ptr 0 0,.ptr 1 0,.ptr 2 0,.ptr 3 0,.ptr 4 0]]),(4,.cells 22 [.row 7]),(4,.cells 22 [.x (.slice da dl dc)])],nx:=920,sv:=[[.ptr 0 0,.ptr 1 0,.ptr 2 0,.ptr 3 0,.ptr 4 0]] }
def vC(N:Nat)(k:Nat):G4->Option St
 | .normal=>some {σ:=H0 [(8,.top),(9,.top),(10,.top)] (Xb0 n a b c U O ea la d Z ord dy oa ol oc da dl dc N).σ,m:=[(902,.cells 4 [.x (.bool false)]),(901,.cells 343 [i d,i Z]),(3,.cells 22 [.row 900]),(3,.cells 22 [.x (.slice oa ol oc)]),(900,.row 3 1 ord.length (λj=>[i (U6 ord j)])),(5,.memo (orH n a b c U O) orV),(7,.row 3 1 n (λj=>[i (dy j)])),(0,.keep 134 [.ro [i 4,i 10,sls n a b c U O,ea,la]]),(1,.keep 340 [.mp 5]),(2,.keep 341 [.fn (.func 237) [] [.ptr 0 0,.ptr 1 0,.ptr 2 0,.ptr 3 0,.ptr 4 0]]),(4,.cells 22 [.row 7]),(4,.cells 22 [.x (.slice da dl dc)])],nx:=920,sv:=[[.ptr 0 0,.ptr 1 0,.ptr 2 0,.ptr 3 0,.ptr 4 0]] }
 | .ret=>some {σ:=H0 [(8,.top),(9,.top),(10,.top)] (Xb0 n a b c U O ea la d Z ord dy oa ol oc da dl dc N).σ,m:=[(902,.cells 4 [.lit true]),(901,.cells 343 [i d,i Z]),(3,.cells 22 [.row 900]),(900,.row 3 1 (ord++orL (orG n a b c U O d Z)).length (λj=>[i (U6 (ord++orL (orG n a b c U O d Z)) j)])),(5,.memo (orH n a b c U O) orV),(7,.row 3 1 n (λj=>[i ((dyU (orG n a b c U O d Z) dy) j)])),(0,.keep 134 [.ro [i 4,i 10,sls n a b c U O,ea,la]]),(1,.keep 340 [.mp 5]),(2,.keep 341 [.fn (.func 237) [] [.ptr 0 0,.ptr 1 0,.ptr 2 0,.ptr 3 0,.ptr 4 0]]),(4,.cells 22 [.row 7]),(4,.cells 22 [.x (.slice da dl dc)])],nx:=920,sv:=[[.ptr 0 0,.ptr 1 0,.ptr 2 0,.ptr 3 0,.ptr 4 0]] }
 |_=>none
def Zo4(N:Nat):CT:= .branch (orS n a b c U O d Z).isSome (.leaf (.ret,(vC n a b c U O ea la d Z ord dy oa ol oc da dl dc N 0 .ret).getD (Xb0 n a b c U O ea la d Z ord dy oa ol oc da dl dc N))) (.leaf (.normal,(vC n a b c U O ea la d Z ord dy oa ol oc da dl dc N 0 .normal).getD (Xb0 n a b c U O ea la d Z ord dy oa ol oc da dl dc N)))
def Xw3(N:Nat):UF:=GG [(.cell 3 0,900,3,1)] (HD (Wi4 n a b c U O ea la d Z ord dy oa ol oc da dl dc N (0)) (Zo4 n a b c U O ea la d Z ord dy oa ol oc da dl dc N))
end
abbrev ZU:Prop:=AV.row 900=AV.row 900
abbrev J6:Prop:=AV.row 7=AV.row 7
abbrev JH:Prop:=AV.mp 5=AV.mp 5
abbrev JT(ord:List Int):Prop:=List.length ord=List.length ord
abbrev KR:Prop:=ptr 901 0=ptr 901 0
abbrev KS:Prop:=ptr 902 0=ptr 902 0
theorem Jb4(n:Nat)(a b c U O:Nat->Int)(ea la:AV)(d:Nat)(Z:Int)(ord:List Int)(dy:Nat->Int)(oa:Option Addr)(ol oc:Nat)(da:Option Addr)(dl dc:Nat)(N:Nat)(VO:sV n a b c U O)(UD:d<2^n/\d≠2^n-1)(HO:2^n-d<=N+1)(DZ:0<=Z/\Z<=100)(BM:ord.length<=1000)(z9:G8 VL 237 (mV n a b c U O N)):HN VL (.rangeFunc (rfF (VP (U5 Tryz.f237) 0)) (jK (VP (U5 Tryz.f237) 0)) Js3 Jq3) (Xw3 n a b c U O ea la d Z ord dy oa ol oc da dl dc N):=by
 refine P6 [(.cell 3 0,900,3,1)] (X:={R:=[(131,AE)],H:=[(237,(mV n a b c U O N))] }) (L:=[]) (Ae DW (Ae L9 Aa)) (Ai (Af NL Ab) (Ag z9 Ac)) VW U0 (V:=Nat) (Wi4 n a b c U O ea la d Z ord dy oa ol oc da dl dc N) (λk=>k<=(quN n a b c d)/\ ∀j,j<k->orQ n a b c U O (orS n a b c U O) d Z j=none) (λk=>k) (vC n a b c U O ea la d Z ord dy oa ol oc da dl dc N) (x0:=0) ⟨Ao _,λj h=>absurd h (Aq _)⟩ rfl ?_ ?_ ?_ ?_ (g:=171) (caps:=[.ro [.ro [i 4,i 10,sls n a b c U O,ea,la]],.ro [i d]]) VQ VQ (v7 ea la n a b c U O d VO (BY VO.1 UD.1)) (λ_=>rfl) ?_;rintro k;kernel_rfl;rintro k y E h;unfold vC at h;split at h;cases h;kernel_rfl;cases h;kernel_rfl;cases h;rintro k;rfl;rintro k y E h;unfold vC at h;split at h;cases h;rfl;cases h;rfl;cases h;rintro Q hQ k hx;refine ⟨λhlt=>⟨(k+1),rfl,?_⟩,λPG=>?_⟩;(with_reducible refine DA (t:=let z5:=(quB n a b c (d:Int));let z3:=(UI z5 n k);let z6:=(VU (AV.fn (Fn.func 171) [] [AV.ro [QQ n a b c U O ea la],AV.ro [iI (d:Int)]]));let z10:=(xA (List.length ord) λj=>[i (U6 ord j)]);let z1:=(BitVec.toNat (BitVec.ofInt 64 (d:Int) ||| BitVec.ofInt 64 ((1:Int)*2^UI z5 n k)));let z8:=(IntKind.wrap IntKind.i64 (z1:Int));let z4:=(orG n a b c U O (Int.toNat z8) (max Z (U z3)));let z9:=(orG n a b c U O d Z);let z7:=orH n a b c U O;let W:=(need [UG z3 n] (need [UI z5 n k<n] (need [VU (agg [iI (d:Int),iI Z]),QO,XV,ZA,ZF,W2,KR,KS,z6,VU (AV.lit true),VU (d:Int),Z=Z,ZU,List.length (z10++orL z4)+1=List.length (ord++orL z9),∀(i:Nat),i<List.length (ord++orL z9)->GE (List.length ((xA (List.length ord) λj=>[iI (U6 ord j)])++orL z4)) (λj=>[iI (U6 ((xA (List.length ord) λj=>[iI (U6 ord j)])++orL z4) j)]) (U3 1 [iI (z3:Int)]) i=[iI (U6 (ord++orL z9) i)],∀(k:Value),z7 k->z7 k/\orV k=orV k,n=n,∀(i:Nat),i<n->H9 (decide (i=UI z5 n k)) [iI (max Z (U z3))] [iI (dyU z4 dy i)]=[iI (dyU z9 dy i)],ZM n a b c U O ea la,JH,QM=QM,J6,VU (AV.x (.slice da dl dc)),QO,XV,ZA,ZF,W2] (leaf G4.ret))));let z2:=(need [VU (agg [iI (d:Int),iI Z]),QO,XV,ZA,ZF,W2,KR,KS,z6,false=false,VU (d:Int),Z=Z,ZU,VU (AV.x (.slice oa ol oc)),JT ord,∀(i:Nat),i<List.length ord->[iI (U6 ord i)]=[iI (U6 ord i)],∀(k:Value),z7 k->z7 k/\orV k=orV k,n=n,∀(i:Nat),i<n->[iI (dy i)]=[iI (dy i)],ZM n a b c U O ea la,JH,QM=QM,J6,VU (AV.x (.slice da dl dc)),QO,XV,ZA,ZF,W2] (leaf G4.normal));(branch (decide (max Z (U z3)>O z3)) z2 (need [(0:Int)<=(z3:Int)/\(z3:Int)<=64,VI ((1:Int)*2^UI z5 n k)] (need [VU (iI 4),VU (iI 10),W0 n a b c U O,∀(x:Value),z7 x->z7 x/\orV x=orV x,U9 1 (List.length ord) λj=>[i (U6 ord j)],U9 1 n λj=>[i (dy j)],n=n,(0:Int)<=IntKind.wrap IntKind.i64 (z1:Int)/\IntKind.wrap IntKind.i64 (z1:Int)<2^n,2^n-Int.toNat z8<=N,(0:Int)<=max Z (U z3)/\max Z (U z3)<=100,List.length ord<=1000] (branch (Option.isSome (orS n a b c U O (Int.toNat z8) (max Z (U z3)))) (need [(List.length (z10++orL z4)+1)*8<=140737488355328,RQ 1 (U3 1 [iI (z3:Int)])] (VJ.may True W (VJ.may True W W))) z2))))) VQ ?_)
 simp only [Zo4,vC,VJ.sat,GQ] at hQ;obtain ⟨x1,x2⟩:=hx;have h8:=VO.1;have hd:=UD.1;have hd2:=BY h8 hd;have hpn:((2^n:Nat):Int)=2^n:=VS;have h256:=A1 h8;have hs:=uF hlt;have hor:=Wd2 h8 hd hs.1;have hol:=Qb0 hd hs.1;have hgt:=Xr8 h8 hd hlt;have hsv:=Qa1 VO hs.1;have h2s:(1:Int)<=2^UI (quB n a b c d) n k/\(2:Int)^UI (quB n a b c d) n k<=256:=uO VG;have BR:orS n a b c U O d Z=dY (orQ n a b c U O (orS n a b c U O) d Z) 0 (quN n a b c d):=by
  rw [oF h8 Z hd,if_neg UD.2]
 simp only [VJ.sat,U8,UE,hor,FC,H6,TA]
 have Qp2:((d ||| 2^UI (quB n a b c d) n k:Nat):Int)<2^n:=by
  have h:((d ||| 2^UI (quB n a b c d) n k:Nat):Int)<((2^n:Nat):Int):=Int.ofNat_lt.2 hol
  rwa [hpn] at h
 have Xs9:orQ n a b c U O (orS n a b c U O) d Z k=none-> ∀j,j<k+1->orQ n a b c U O (orS n a b c U O) d Z j=none:=by
  intro h1 j h2;rcases (show j=k\/j<k by omega) with rfl|h3
  exact h1;exact x2 j h3
 have hQe:orQ n a b c U O (orS n a b c U O) d Z k=(if max Z (U (UI (quB n a b c d) n k))>O (UI (quB n a b c d) n k) then none else match orS n a b c U O (d ||| 2^UI (quB n a b c d) n k) (max Z (U (UI (quB n a b c d) n k))) with
   |some l=>some (l++[(UI (quB n a b c d) n k,max Z (U (UI (quB n a b c d) n k)))])
   |none=>none):=rfl
 have gK: ¬max Z (U (UI (quB n a b c d) n k))>O (UI (quB n a b c d) n k)->(orS n a b c U O (d ||| 2^UI (quB n a b c d) n k) (max Z (U (UI (quB n a b c d) n k)))).isSome=true->
   (orS n a b c U O d Z).isSome=true/\orG n a b c U O d Z=orG n a b c U O (d ||| 2^UI (quB n a b c d) n k) (max Z (U (UI (quB n a b c d) n k)))++[(UI (quB n a b c d) n k,max Z (U (UI (quB n a b c d) n k)))]:=by
  intro h1 h2;obtain ⟨l,hl⟩:=Option.isSome_iff_exists.1 h2;rw [if_neg h1,hl] at hQe;have h3:orS n a b c U O d Z=some (l++[(UI (quB n a b c d) n k,max Z (U (UI (quB n a b c d) n k)))]):=by
   rw [BR];exact OK (q:=k) hQe (Ao _) VG (λj _ h4=>x2 j h4)
  unfold orG;rw [h3,hl];exact ⟨rfl,rfl⟩
 have hk1:k+1<=quN n a b c d:=hlt;have hc1: ∀x:Int,∀(j:Nat),j<1-> ∀y,y∈U3 1 [iI x] j->AV.one y=true:=λx j _ y hy=>FM hy (by simp [AV.one,Value.oneCell'])
 have hGl:=Qb1 n a b c U O (d ||| 2^UI (quB n a b c d) n k) (max Z (U (UI (quB n a b c d) n k)))
 have hoL: ∀l:List (Nat×Int),(orL l).length=l.length:=λl=>by simp [orL]
 refine ⟨λh=>?_,λh=>?_⟩;have hno:orQ n a b c U O (orS n a b c U O) d Z k=none:=by
  rw [hQe,if_pos h]
 exact ⟨⟨λ_ _=>trivial,λ_ h=>h,λ_ _=>trivial⟩,hk1,Xs9 hno⟩;refine ⟨⟨⟨VG,VG⟩,by simp only [VI,Int.one_mul];omega⟩,⟨λ_ h=>h,nP _ _,nP _ _,⟨VG,Qp2⟩,VG,⟨VG,VG⟩,BM⟩,λh2=>?_,λh2=>?_⟩
 ·obtain ⟨g1,g2⟩:=gK VG h2;rw [g2];have hln:(ord++orL (orG n a b c U O (d ||| 2^UI (quB n a b c d) n k) (max Z (U (UI (quB n a b c d) n k))))).length<=2000:=by
   rw [Be,hoL];omega
  have hap:ord++orL (orG n a b c U O (d ||| 2^UI (quB n a b c d) n k) (max Z (U (UI (quB n a b c d) n k)))++[(UI (quB n a b c d) n k,max Z (U (UI (quB n a b c d) n k)))])=(ord++orL (orG n a b c U O (d ||| 2^UI (quB n a b c d) n k) (max Z (U (UI (quB n a b c d) n k)))))++[((UI (quB n a b c d) n k:Nat):Int)]:=by
   rw [Xf0,List.append_assoc]
  have hdy:dyU (orG n a b c U O (d ||| 2^UI (quB n a b c d) n k) (max Z (U (UI (quB n a b c d) n k)))++[(UI (quB n a b c d) n k,max Z (U (UI (quB n a b c d) n k)))]) dy=UP (UI (quB n a b c d) n k) (max Z (U (UI (quB n a b c d) n k))) (dyU (orG n a b c U O (d ||| 2^UI (quB n a b c d) n k) (max Z (U (UI (quB n a b c d) n k)))) dy):=Qd9 _ _ _
  rw [hap,hdy];refine ⟨⟨VG,hc1 _⟩,?_⟩;have hin:(0<=((UI (quB n a b c d) n k:Nat):Int)/\((UI (quB n a b c d) n k:Nat):Int)<n):=⟨VG,by have:=hs.1;omega⟩
  have hrw: ∀j,j<((ord++orL (orG n a b c U O (d ||| 2^UI (quB n a b c d) n k) (max Z (U (UI (quB n a b c d) n k)))))++[((UI (quB n a b c d) n k:Nat):Int)]).length->j<(ord++orL (orG n a b c U O (d ||| 2^UI (quB n a b c d) n k) (max Z (U (UI (quB n a b c d) n k))))).length+1:=λj hj=>by
   rw [Be] at hj;simpa using hj
  (with_reducible repeat' first|apply Al|intro _)
  all_goals first|exact Ak|exact hin.1|exact hin.2|exact hs.1|(rename_i E hE;cases hE;exact hQ.1 g1)|rfl|exact Ji3 (hrw _ (by assumption))|exact uJ|(rw [Be (bs:=[_])];rfl)|assumption
 have hno:orQ n a b c U O (orS n a b c U O) d Z k=none:=by
  rw [hQe,if_neg VG];cases ho:orS n a b c U O (d ||| 2^UI (quB n a b c d) n k) (max Z (U (UI (quB n a b c d) n k))) with
  |none=>rfl
  |some l=>rw [ho] at h2;cases h2
 exact ⟨⟨λ_ _=>trivial,λ_ h=>h,λ_ _=>trivial⟩,hk1,Xs9 hno⟩;have hk:k=quN n a b c d:=VG;subst hk;simp only [Zo4,vC,VJ.sat,GQ] at hQ;refine hQ.2 ?_;rw [oF VO.1 Z UD.1,if_neg UD.2,dX.2 (λj _ hj=>hx.2 j VG)];rfl
theorem EH{x y:Nat}{t:List (Nat×Nat)}:NT ((x,y)::t)=true↔x=y/\NT t=true:=by
 show (match Nat.beq x y with|true=>NT t|false=>false)=true↔_
 cases h:Nat.beq x y with
 |true=>simp [GU h]
 |false=>
  simp only [Bw,false_iff,not_and];intro he;rw [he,Nat.beq_refl] at h;cases h
theorem EK{m:GW}{p:Nat×GL}(h:p∈oO m):p∈m/\Xg5 p.2=false:=by
 induction m with
 |nil=>cases h
 |cons q t ih=>
  obtain ⟨k,r⟩:=q;unfold oO at h;split at h;exact ⟨HM _ (ih h).1,(ih h).2⟩;rename_i hb;rcases GK.1 h with rfl|h;exact ⟨GB,hb⟩;exact ⟨HM _ (ih h).1,(ih h).2⟩
theorem L0{m:GW}{id:Nat}{p:Nat×GL}(h:p∈jC m id):p∈m/\p.1≠id:=by
 induction m with
 |nil=>cases h
 |cons q t ih=>
  obtain ⟨k,r⟩:=q;unfold jC at h;split at h;exact ⟨HM _ (ih h).1,(ih h).2⟩;rename_i hb;rcases GK.1 h with rfl|h;refine ⟨GB,?_⟩;rintro rfl;simp at hb;exact ⟨HM _ (ih h).1,(ih h).2⟩
theorem Ql2{e:UJ}{w:World}{id o n:Nat}{f:Nat->List AV}(h:Jn5 e w id o 3 1 n f)(hr:U9 1 n f):w.ownsRow 0 3 1 (e.val id) n ((xA n f).map (Value.int .i64)):=by
 obtain ⟨h2,hf,xs,h3,h4⟩:=h;have hx:xs=(xA n f).map (Value.int .i64):=by
  apply List.ext_getElem?;intro j;unfold xA;have hl:xs.length=n*1:=h3.1;rcases An j n with hj|hj;have hx:xs[j]? =some xs[j]:=HX VG;have e1:(f j)[0]? =some (iI (col 0 f j)):=by
   rw [hr j hj];rfl
  have:=h4 j 0 _ xs[j] hj e1 (by rw [show j*1+0=j by omega];exact hx)
  rw [hx,this.x_inv];simp [hj];rw [Br VG,Br (by simp;omega)]
 subst hx;exact h3
theorem qD{e:UJ}{w:World}{id n:Nat}{f:Nat->List AV}(h:GD e w id (.row 3 1 n f))(hr:U9 1 n f):w.ownsRow 0 3 1 (e.val id) n ((xA n f).map (Value.int .i64)):=Ql2 (o:=id) h.2 hr
theorem Qa9(n:Nat)(f:Nat->Int):xA n (λj=>[i (f j)])=(List.range n).map f:=rfl
theorem xF{e:UJ}{w:World}{id n:Nat}{f:Nat->Int}{ov:Value}{l:List Int}(hl:e.live id)(hv:e.val id=ov)(hob: ∀x,ov.ownBlock=some x->e.own x=some id)(HR:l.length=n)(hf: ∀j,j<n->l[j]? =some (f j))(ho:w.ownsRow 0 3 1 ov n (l.map (Value.int .i64))):GD e w id (.row 3 1 n (λj=>[i (f j)])):=by
 subst hv;refine ⟨hl,hob,λi O=>⟨rfl,λa ha=>by rw [qL.1 ha];exact .x _⟩,_,ho,λi j a v O ha hv=>?_⟩
 cases j with
 |zero=>
  simp only [List.getElem?_cons_zero,HA] at ha;subst ha;rw [show i*1+0=i by omega,Bn,hf i O] at hv
  simp only [Bt,HA] at hv;rw [←hv];exact .x _
 |succ j=>simp at ha
theorem Qb3{l:List Int}{j:Nat}(h:j<l.length):l[j]? =some (U6 l j):=by
 rw [EI h,HX h]
theorem CD{n:Nat}{f:Nat->Int}{j:Nat}(h:j<n):((List.range n).map f)[j]? =some (f j):=by
 rw [Bn,List.getElem?_range h];rfl
abbrev LO(b:Nat):Value:= .pointer (some ⟨b,0,none⟩)
abbrev Zh8(bk bg bf bo bd:Nat):Value:= .func (.func 237) #[] #[LO bk,LO bg,LO bf,LO bo,LO bd]
def Qj2(n:Nat)(a b c U O:Nat->Int)(N:Nat):Prop:= ∀(ea la:AV) (d:Nat) (Z:Int) (ord:List Int) (dy:Nat->Int) (oa:Option Addr) (ol oc:Nat) (da:Option Addr) (dl dc:Nat),d<2^n->2^n-d<=N->(0<=Z/\Z<=100)->ord.length<=1000->
 Xa3 VL 237 [.agg [i d,i Z],.ptr 0 0,.ptr 1 0,.ptr 2 0,.ptr 3 0,.ptr 4 0] (OM n a b c U O ea la d Z ord dy oa ol oc da dl dc) 901 [[.ptr 0 0,.ptr 1 0,.ptr 2 0,.ptr 3 0,.ptr 4 0]] (OT_ n a b c U O ea la d Z ord dy oa ol oc da dl dc (orG n a b c U O d Z)) (OF_ n a b c U O ea la d Z ord dy oa ol oc da dl dc) (orS n a b c U O d Z).isSome
theorem Qa3{w:World}{ov:Value}{n:Nat}{xs:List Value}(h:w.ownsRow 0 3 1 ov n xs){b:Nat}(hb:ov.ownBlock=some b):b<w.heap.size:=(h.lt b hb).2
theorem Wd1{n:Nat}{a b c U O:Nat->Int}{N:Nat}(hs:Qj2 n a b c U O N){d:Nat}{Z:Int}{ord:List Int}{dy:Nat->Int}(h1:d<2^n)(h2:2^n-d<=N)(h3:0<=Z/\Z<=100)(h4:ord.length<=1000)
  {w:World}{bk bg bf bo bd bm:Nat}{rb dv ov:Value}{ea la:AV}{R:UJ}{es:Array MapEntry}{cn:Nat}(hgl:D9 R w)
  (hk:w.heap[bk]? =some (.cells #[rb] 134 (0,0)))(hg:w.heap[bg]? =some (.cells #[.map (some bm)] 340 (0,0)))(hf:w.heap[bf]? =some (.cells #[Zh8 bk bg bf bo bd] 341 (0,0)))(hdb:w.heap[bd]? =some (.cells #[dv] 22 (0,0)))
  (ho:w.heap[bo]? =some (.cells #[ov] 22 (0,0)))(hm:w.heap[bm]? =some (.map es cn))(hes: ∀x∈es.toList,orH n a b c U O x.key/\x.val=orV x.key)
  (I2:w.ownsRow 0 3 1 ov ord.length (ord.map (Value.int .i64)))(Xt0:w.ownsRow 0 3 1 dv n (((List.range n).map dy).map (Value.int .i64)))(hov: ∃p q r,ov= .slice p q r)(hdv: ∃p q r,dv= .slice p q r)
  (hobm:bo≠bm)(hobd:bo≠bd)(hmbd:bm≠bd)(hoo: ∀x,ov.ownBlock=some x->x≠bo/\x≠bm/\x≠bd/\dv.ownBlock≠some x)(hdo: ∀x,dv.ownBlock=some x->x≠bo/\x≠bm/\x≠bd)
  (hR:Rep R w (.ro [i 4,i 10,sls n a b c U O,ea,la]) rb)(hro: ∀x,R.ro x->x<w.heap.size/\x≠bo/\x≠bm/\x≠bd/\ov.ownBlock≠some x/\dv.ownBlock≠some x)(rk:R.ro bk)(rg:R.ro bg)(rf:R.ro bf):
  Calls Tryz.prog 237 #[.agg #[.int .i64 d,.int .i64 Z],LO bk,LO bg,LO bf,LO bo,LO bd] w λen w1=>en= .returned (.bool (orS n a b c U O d Z).isSome)/\w.heap.size<=w1.heap.size/\w1.os=w.os/\w1.tape=w.tape/\w1.output=w.output/\
   (∀x,x<w.heap.size->x≠bo->x≠bm->ov.ownBlock≠some x->dv.ownBlock≠some x->w1.heap[x]? =w.heap[x]?)/\(∃(es':Array MapEntry) (c':Nat),w1.heap[bm]? =some (.map es' c')/\ ∀x∈es'.toList,orH n a b c U O x.key/\x.val=orV x.key)/\
   ((orS n a b c U O d Z).isSome=false->w1.heap[bo]? =some (.cells #[ov] 22 (0,0))/\w1.ownsRow 0 3 1 ov ord.length (ord.map (Value.int .i64))/\w1.ownsRow 0 3 1 dv n (((List.range n).map dy).map (Value.int .i64)))/\
   ((orS n a b c U O d Z).isSome=true-> ∃y',w1.heap[bo]? =some (.cells #[y'] 22 (0,0))/\(∃p q r,y'= .slice p q r)/\w1.ownsRow 0 3 1 y' (ord++orL (orG n a b c U O d Z)).length ((ord++orL (orG n a b c U O d Z)).map (Value.int .i64))/\
    (∀x,y'.ownBlock=some x->w.heap.size<=x\/ov.ownBlock=some x)/\w1.ownsRow 0 3 1 dv n (((List.range n).map (dyU (orG n a b c U O d Z) dy)).map (Value.int .i64))):=by
 have hob:=(P2.1 ho).1;have hmb:=(P2.1 hm).1;have hbb:=(P2.1 hdb).1;obtain ⟨oa,ol,oc,hov⟩:=hov;obtain ⟨da,dl,dc,hdv⟩:=hdv
 let e0:UJ:={ro:=λx=>x<w.heap.size/\x≠bo/\x≠bm/\x≠bd/\ov.ownBlock≠some x/\dv.ownBlock≠some x,own:=λx=>if x=bo then some 3 else if x=bm then some 5 else if x=bd then some 4 else if ov.ownBlock=some x then some 900 else if dv.ownBlock=some x then some 7 else none,live:=λk=>k<901,blk:=λk=>if k=0 then bk else if k=1 then bg else if k=2 then bf else if k=3 then bo else if k=4 then bd else bm,val:=λk=>if k=7 then dv else ov}
 let c0:Cx:={M:=λ_=>False,Φ:=λ_ _ _=>True,K:=λx o=>e0.ro x/\w.heap[x]? =some o,saved:=[[LO bk,LO bg,LO bf,LO bo,LO bd]],sz:=w.heap.size}
 let w00:World:={w with heap:=#[] }
 have Wm2: ∀x,R.ro x->e0.ro x:=λx hx=>hro x hx;have o3:e0.own bo=some 3:=if_pos rfl;have o5:e0.own bm=some 5:=by simp [e0,Ne.symm hobm]
 have o4:e0.own bd=some 4:=by simp [e0,Ne.symm hobd,Ne.symm hmbd]
 have o9: ∀x,ov.ownBlock=some x->e0.own x=some 900:=by
  intro x hx;obtain ⟨q1,q2,q2',q3⟩:=hoo x hx;simp [e0,q1,q2,q2',hx]
 have o7: ∀x,dv.ownBlock=some x->e0.own x=some 7:=by
  intro x hx;obtain ⟨q1,q2,q2'⟩:=hdo x hx;have q3:ov.ownBlock≠some x:=λh=>(hoo x h).2.2.2 hx;simp [e0,q1,q2,q2',q3,hx]
 have hE:UX e0 w00.heap.size w:=by
  refine ⟨λx hx=>?_,λx k hk=>⟨Ao _,?_⟩,λq p hp=>?_⟩;obtain ⟨q0,q1,q2,q2',q3,q4⟩:=hx;exact ⟨by simp [e0,q1,q2,q2',q3,q4],q0⟩
  have hk:(if x=bo then some 3 else if x=bm then some 5 else if x=bd then some 4 else if ov.ownBlock=some x then some 900 else if dv.ownBlock=some x then some 7 else none)=some k:=hk
  split at hk;rename_i h;rw [h];exact hob;split at hk;rename_i h;rw [h];exact hmb;split at hk;rename_i h;rw [h];exact hbb;split at hk;rename_i h;exact Qa3 I2 h;split at hk;rename_i h;exact Qa3 Xt0 h;cases hk;obtain ⟨q1,q2⟩:=hgl q p hp;exact ⟨Wm2 _ q1,q2⟩
 have p0:Rep e0 w (.ptr 0 0) (LO bk):= .ptr 0 0 (show 0<901 by omega)
 have p1:Rep e0 w (.ptr 1 0) (LO bg):= .ptr 1 0 (show 1<901 by omega)
 have p2:Rep e0 w (.ptr 2 0) (LO bf):= .ptr 2 0 (show 2<901 by omega)
 have p3:Rep e0 w (.ptr 3 0) (LO bo):= .ptr 3 0 (show 3<901 by omega)
 have p4:Rep e0 w (.ptr 4 0) (LO bd):= .ptr 4 0 (show 4<901 by omega)
 have p9:Rep e0 w (.row 900) ov:=by
  rw [hov];exact .row 900 _ _ _ (show 900<901 by omega) hov
 have p7:Rep e0 w (.row 7) dv:=by
  rw [hdv];exact .row 7 _ _ _ (show 7<901 by omega) hdv
 have p5:Rep e0 w (.mp 5) (.map (some bm)):= .mp 5 (show 5<901 by omega)
 have yS:VZ e0 w [.ptr 0 0,.ptr 1 0,.ptr 2 0,.ptr 3 0,.ptr 4 0] [LO bk,LO bg,LO bf,LO bo,LO bd]:= .cons p0 (.cons p1 (.cons p2 (.cons p3 (.cons p4 (.nil _ _)))));have hfn:Rep e0 w (.fn (.func 237) [] [.ptr 0 0,.ptr 1 0,.ptr 2 0,.ptr 3 0,.ptr 4 0]) (Zh8 bk bg bf bo bd):= .fn _ [] _ [] _ rfl (λi a v h=>by simp at h) yS.1 yS.2
 have hrb:Rep e0 w (.ro [i 4,i 10,sls n a b c U O,ea,la]) rb:=by
  refine Rep.idf (e:=R) (e':=e0) Wm2 hR ?_;cases hR with
  |ro l vs b' o' g1 g2 g3 g4 g5 g6=>exact .ro _ g3
 have hM:US e0 (OM n a b c U O ea la d Z ord dy oa ol oc da dl dc) w:=by
  intro p hp;unfold OM at hp;simp only [GK,DP,or_false] at hp;rcases hp with rfl|rfl|rfl|rfl|rfl|rfl|rfl|rfl|rfl|rfl;exact ⟨show 3<901 by omega,o3,[ov],ho,.cons p9 (.nil _ _)⟩
  exact ⟨show 3<901 by omega,o3,[ov],ho,.cons (by rw [hov];exact .x _) (.nil _ _)⟩
  exact xF (show 900<901 by omega) rfl o9 rfl (λj hj=>Qb3 hj) I2
  exact ⟨show 5<901 by omega,o5,es,cn,hm,hes⟩
  exact xF (show 7<901 by omega) rfl o7 VS (λj hj=>CD hj) Xt0
  exact ⟨show 0<901 by omega,Wm2 _ rk,(hro _ rk).1,[rb],hk,.cons hrb (.nil _ _)⟩
  exact ⟨show 1<901 by omega,Wm2 _ rg,(hro _ rg).1,[.map (some bm)],hg,.cons p5 (.nil _ _)⟩
  exact ⟨show 2<901 by omega,Wm2 _ rf,(hro _ rf).1,[Zh8 bk bg bf bo bd],hf,.cons hfn (.nil _ _)⟩
  exact ⟨show 4<901 by omega,o4,[dv],hdb,.cons p7 (.nil _ _)⟩
  exact ⟨show 4<901 by omega,o4,[dv],hdb,.cons (by rw [hdv];exact .x _) (.nil _ _)⟩
 have hX:Xt c0 e0 [[.ptr 0 0,.ptr 1 0,.ptr 2 0,.ptr 3 0,.ptr 4 0]] [] w:=
  ⟨⟨λd hd=>(by cases hd),By⟩,λx o hk=>⟨hk.1,hk.1.1,hk.2⟩,L4.cons yS ⟨rfl,λi a v h=>by simp at h⟩,Am _⟩
 have hA:VZ e0 w [.agg [i d,i Z],.ptr 0 0,.ptr 1 0,.ptr 2 0,.ptr 3 0,.ptr 4 0] [.agg #[.int .i64 d,.int .i64 Z],LO bk,LO bg,LO bf,LO bo,LO bd]:= .cons (Rep.aggL (.cons (.x _) (.cons (.x _) (.nil _ _)))) yS;have FD:=hs ea la d Z ord dy oa ol oc da dl dc h1 h2 h3 h4 c0 w00 (λ_=>False) e0 _ w hE ⟨rfl,rfl,rfl,Ao _,λk hk=>absurd hk (Aq _)⟩ hM (λk hk=>hk) (λ_ h=>h.elim) hX rfl hA;refine FD.mono ?_;rintro en w1 ⟨hen,e1,g1,g2,g3,g4,_,g6⟩;have hsz:w.heap.size<=w1.heap.size:=g6.size;have OC: ∀x,x<w.heap.size->x≠bo->x≠bm->x≠bd->ov.ownBlock≠some x->dv.ownBlock≠some x->e1.ro x/\w1.heap[x]? =w.heap[x]? :=by
  intro x hx n1 n2 n2' n3 n4;have hk:=g6.kept x w.heap[x] ⟨⟨hx,n1,n2,n2',n3,n4⟩,by simp [hx]⟩
  exact ⟨hk.1,by rw [hk.2.2];simp [hx]⟩
 have keptR: ∀x,R.ro x->w1.heap[x]? =w.heap[x]? :=λx hx=>(OC x (hro x hx).1 (hro x hx).2.1 (hro x hx).2.2.1 (hro x hx).2.2.2.1 (hro x hx).2.2.2.2.1 (hro x hx).2.2.2.2.2).2;have hsv:(cond (orS n a b c U O d Z).isSome (OT_ n a b c U O ea la d Z ord dy oa ol oc da dl dc (orG n a b c U O d Z)) (OF_ n a b c U O ea la d Z ord dy oa ol oc da dl dc)).sv=[[.ptr 0 0,.ptr 1 0,.ptr 2 0,.ptr 3 0,.ptr 4 0]]:=by
  cases (orS n a b c U O d Z).isSome<;>rfl
 have hsd:=g6.saved;rw [hsv] at hsd;have hs1:=hsd.2 0 _ _ rfl rfl;obtain ⟨v0,l0,q,r0,hs1⟩:=hs1.cons_inv;obtain ⟨rfl,rfl⟩:=List.cons.inj q;obtain ⟨v1,l1,q,r1,hs1⟩:=hs1.cons_inv;obtain ⟨rfl,rfl⟩:=List.cons.inj q;obtain ⟨v2,l2,q,r2,hs1⟩:=hs1.cons_inv;obtain ⟨rfl,rfl⟩:=List.cons.inj q;obtain ⟨v3,l3,q,r3,hs1⟩:=hs1.cons_inv;obtain ⟨rfl,rfl⟩:=List.cons.inj q;obtain ⟨v4,l4,q,r4,_⟩:=hs1.cons_inv;obtain ⟨rfl,rfl⟩:=List.cons.inj q;have ptr_inv: ∀{k x:Nat},Rep e1 w1 (.ptr k 0) (LO x)->e1.blk k=x:=by
  intro k x h;cases h;rfl
 have b1:=ptr_inv r1;have b3:=ptr_inv r3;have b4:=ptr_inv r4;have gJ: ∀p,(p∈(OT_ n a b c U O ea la d Z ord dy oa ol oc da dl dc (orG n a b c U O d Z)).m/\p∈(OF_ n a b c U O ea la d Z ord dy oa ol oc da dl dc).m)->GD e1 w1 p.1 p.2:=by
  intro p hp;refine g3 p ?_;cases (orS n a b c U O d Z).isSome;exact hp.2;exact hp.1
 -- the days' row and the map bear their numbers still
 have hbd:w1.heap[bd]? =some (.cells #[dv] 22 (0,0)):=by
  obtain ⟨_,_,vs,q1,q2⟩:=gJ (4,.cells 22 [.x (.slice da dl dc)]) ⟨by simp [OT_],by simp [OF_]⟩
  obtain ⟨x,xs,rfl,t1,q2⟩:=q2.cons_inv;obtain rfl:=q2.nil_inv;rw [b4,t1.x_inv,←hdv] at q1;exact q1
 have b7:e1.val 7=dv:=by
  obtain ⟨_,_,vs,q1,q2⟩:=gJ (4,.cells 22 [.row 7]) ⟨by simp [OT_],by simp [OF_]⟩
  obtain ⟨x,xs,rfl,t1,q2⟩:=q2.cons_inv;obtain rfl:=q2.nil_inv;rw [b4,hbd] at q1;simp only [HA,Obj.cells.injEq] at q1;have:dv=x:=by simpa using q1.1
  subst this;clear q1 hbd;generalize dv=z at t1;cases t1 with
  |row _ a n c _ hv=>exact hv
 have hsm: ∀x,x<w.heap.size->x≠bo->x≠bm->ov.ownBlock≠some x->dv.ownBlock≠some x->w1.heap[x]? =w.heap[x]? :=by
  intro x hx n1 n2 n3 n4;rcases Classical.em (x=bd) with rfl|n5;rw [hbd,hdb];exact (OC x hx n1 n2 n5 n3 n4).2
 have b5:e1.blk 5=bm:=by
  obtain ⟨_,_,_,vs,q1,q2⟩:=gJ (1,.keep 340 [.mp 5]) ⟨by simp [OT_],by simp [OF_]⟩
  obtain ⟨x,xs,rfl,t1,q2⟩:=q2.cons_inv;obtain rfl:=q2.nil_inv;rw [b1,keptR _ rg,hg] at q1;simp only [HA,Obj.cells.injEq] at q1;have:Value.map (some bm)=x:=by simpa using q1.1
  subst this;cases t1;rfl
 have Jf0: ∃(es':Array MapEntry) (c':Nat),w1.heap[bm]? =some (.map es' c')/\ ∀x∈es'.toList,orH n a b c U O x.key/\x.val=orV x.key:=by
  obtain ⟨_,_,es',c',q1,q2⟩:=gJ (5,.memo (orH n a b c U O) orV) ⟨by simp [OT_],by simp [OF_]⟩
  rw [b5] at q1;exact ⟨es',c',q1,q2⟩
 refine ⟨hen,hsz,g2.os,g2.tape,g2.output,hsm,Jf0,λhb=>?_,λhb=>?_⟩;rw [hb] at g3;have k3:=g3 (3,.cells 22 [.row 900]) (by simp [OF_])
 have k3':=g3 (3,.cells 22 [.x (.slice oa ol oc)]) (by simp [OF_])
 have k9:=g3 (900,.row 3 1 ord.length (λj=>[i (U6 ord j)])) (by simp [OF_])
 have k7:=g3 (7,.row 3 1 n (λj=>[i (dy j)])) (by simp [OF_])
 obtain ⟨_,_,vs,q1,q2⟩:=k3';obtain ⟨x,xs,rfl,t1,q2⟩:=q2.cons_inv;obtain rfl:=q2.nil_inv;have hx:x=ov:=by rw [hov];exact t1.x_inv
 subst hx;have q1':w1.heap[e1.blk 3]? =some (.cells #[x] 22 (0,0)):=q1;rw [b3] at q1';have h9:e1.val 900=x:=by
  obtain ⟨_,_,vs,u1,u2⟩:=k3;obtain ⟨y,ys,rfl,t2,u2⟩:=u2.cons_inv;obtain rfl:=u2.nil_inv;have u1':w1.heap[e1.blk 3]? =some (.cells #[y] 22 (0,0)):=u1;rw [b3,q1'] at u1';simp only [HA,Obj.cells.injEq] at u1';have:x=y:=by simpa using u1'.1
  subst this;clear q1' u1' q1 u1 t1;generalize x=z at t2;cases t2 with
  |row _ a n c _ hv=>exact hv
 have r9:=qD k9 (nP _ _);have r7:=qD k7 (nP _ _);rw [h9,TA] at r9;rw [b7,Qa9] at r7;exact ⟨q1',r9,r7⟩;rw [hb] at g3;have k3:=g3 (3,.cells 22 [.row 900]) (by simp [OT_])
 have k9:=g3 (900,.row 3 1 (ord++orL (orG n a b c U O d Z)).length (λj=>[i (U6 (ord++orL (orG n a b c U O d Z)) j)])) (by simp [OT_])
 have k7:=g3 (7,.row 3 1 n (λj=>[i (dyU (orG n a b c U O d Z) dy j)])) (by simp [OT_])
 have k5:=g3 (5,.memo (orH n a b c U O) orV) (by simp [OT_])
 have o3':=k3.2.1;rw [b3] at o3';have o5':=k5.2.1;rw [b5] at o5';obtain ⟨_,_,vs,q1,q2⟩:=k3;obtain ⟨y,ys,rfl,t1,q2⟩:=q2.cons_inv;obtain rfl:=q2.nil_inv;have q1':w1.heap[e1.blk 3]? =some (.cells #[y] 22 (0,0)):=q1;rw [b3] at q1';have hy:(∃p q r,y= .slice p q r)/\e1.val 900=y:=by
  cases t1 with
  |row _ a n c _ hv=>exact ⟨⟨a,n,c,rfl⟩,hv⟩
 have r9:=qD k9 (nP _ _);have r7:=qD k7 (nP _ _);rw [hy.2,TA] at r9;rw [b7,Qa9] at r7;refine ⟨y,q1',hy.1,r9,λz hz=>?_,r7⟩;rcases An z w.heap.size with hlt|hge;refine .inr ?_;have hoz:e1.own z=some 900:=k9.2.1 z (by show (e1.val 900).ownBlock=some z;rw [hy.2];exact hz)
 refine Classical.byContradiction λn3=>?_;have n1:z≠bo:=by
  rintro rfl;rw [o3'] at hoz;cases hoz
 have n2:z≠bm:=by
  rintro rfl;rw [o5'] at hoz;cases hoz
 have n4:dv.ownBlock≠some z:=by
  intro h;have:=k7.2.1 z (by show (e1.val 7).ownBlock=some z;rw [b7];exact h)
  rw [this] at hoz;cases hoz
 have n5:z≠bd:=by
  rintro rfl;have:=(g3 (4,.cells 22 [.row 7]) (by simp [OT_])).2.1
  rw [b4] at this;rw [this] at hoz;cases hoz
 have hk:=OC z hlt n1 n2 n5 n3 n4;rw [(g1.apart z hk.1).1] at hoz;cases hoz;exact .inl hge
theorem LF{e e':UJ}{w w1:World}{id:Nat}{r:GL}(st:Step e e' w w1)(H2: ∀x,e.own x=some id->e'.own x=some id/\w1.heap[x]? =w.heap[x]?)(hna:Xg5 r=false)(h:GD e w id r):GD e' w1 id r:=by
 cases r with
 |cells T l=>
  obtain ⟨h1,h2,vs,h3,h4⟩:=h;obtain ⟨l1,l2,l3⟩:=st.live id h1;obtain ⟨k1,k2⟩:=H2 _ h2;exact ⟨l1,by rw [l2];exact k1,vs,by rw [l2,k2];exact h3,h4.step st⟩
 |ints T pre n f=>
  obtain ⟨h1,h2,vs,h3,h4⟩:=h;obtain ⟨l1,l2,l3⟩:=st.live id h1;obtain ⟨k1,k2⟩:=H2 _ h2;exact ⟨l1,by rw [l2];exact k1,vs,by rw [l2,k2];exact h3,h4.step st⟩
 |memo g f=>
  obtain ⟨h1,h2,es,c,h3,h4⟩:=h;obtain ⟨l1,l2,l3⟩:=st.live id h1;obtain ⟨k1,k2⟩:=H2 _ h2;exact ⟨l1,by rw [l2];exact k1,es,c,by rw [l2,k2];exact h3,h4⟩
 |keep T l=>exact LC st h
 |aka _ _ _ _ _=>cases hna
 |row T sz n f=>
  obtain ⟨h1,h2,hf,ys,h3,h4⟩:=h;obtain ⟨l1,l2,l3⟩:=st.live id h1;refine ⟨l1,λx hx=>(H2 _ (h2 x (by rw [←l3];exact hx))).1,hf,ys,?_,λi j a v O ha hv=>(h4 i j a v O ha hv).step st⟩
  rw [l3];refine ⟨h3.1,h3.2.imp (λh=>h) ?_⟩;rintro ⟨g',cap',cur',hv,hg,hh,rest⟩;exact ⟨g',cap',cur',hv,hg,(H2 g' (h2 g' (by rw [hv];rfl))).2.trans hh,rest⟩
theorem I7{e:UJ}{w:World}{id n:Nat}{g:Nat->List AV}{ov:Value}(hr:U9 1 n g)(hl:e.live id)(hv:e.val id=ov)(hob: ∀x,ov.ownBlock=some x->e.own x=some id)(ho:w.ownsRow 0 3 1 ov n (((List.range n).map (col 0 g)).map (Value.int .i64))):GD e w id (.row 3 1 n g):=by
 have h:=xF (f:=col 0 g) hl hv hob VS (λj hj=>CD hj) ho;obtain ⟨h1,h2,h3,xs,h4,h5⟩:=h;refine ⟨h1,h2,λj hj=>?_,xs,h4,λi j a v O ha hv=>?_⟩;rw [hr j hj];exact h3 j hj;rw [hr i O] at ha;exact h5 i j a v O ha hv
theorem e8{n:Nat}{a b c U O:Nat->Int}{N:Nat}(hs:Qj2 n a b c U O N):G8 VL 237 (mV n a b c U O N):=by
 refine ⟨(UC Tryz.func237),?_⟩;intro avs m nx sv tr ht Q hQ cx w0 TT e ds args w hE hB hm hlv LL hxt hr;unfold mV at ht;split at ht;rename_i d Z k W g z1 f z2 o z3 dd z4;split at ht;rename_i Tk c1 c2 sl ea la Tg mg Tf fg k' y0 g' y1 f' y2 o' y3 d' y4 To q Td r h1 h2 h3 h4 h5;split at ht;rename_i hh ff T1 s1 k1 g1 T2 s2 k2 g2 h6 h7 h8;split at ht;rename_i hb;rw [GZ] at hb;obtain ⟨hb1,hb2⟩:=hb;simp only [EH] at hb1;obtain ⟨rfl,rfl,rfl,rfl,rfl,rfl,rfl,rfl,rfl,rfl,rfl,rfl,rfl,rfl,rfl,rfl,rfl,rfl,rfl,rfl,rfl,rfl,rfl,rfl,rfl,_⟩:=hb1;rw [GZ] at hb2;have hqr:q≠r:=by
  rintro rfl;simp at hb2
 have hod:o≠dd:=by
  rintro rfl;simp at hb2
 cases ht;obtain ⟨hn,hq⟩:=VJ.sat_needT hQ;have hn:=GA hn;have n1:c1=i 4:=hn _ VS;have n2:c2=i 10:=hn _ VS;have n3:sl=sls n a b c U O:=hn _ VS;have n4: ∀x,hh x->orH n a b c U O x/\ff x=orV x:=hn _ VS;have n6:U9 1 k1 g1:=hn _ VS;have n7:U9 1 k2 g2:=hn _ VS;have n8:k2=n:=hn _ VS;have n9:0<=d/\d<2^n:=hn _ VS;have n10:2^n-d.toNat<=N:=hn _ VS;have n11:0<=Z/\Z<=100:=hn _ VS;have n12:k1<=1000:=hn _ VS;clear hn hQ;subst n1 n2 n3 n8;obtain ⟨d,rfl⟩: ∃d':Nat,d=d':=⟨d.toNat,VG⟩;simp only [FC] at hq n10;have hpn:((2^k2:Nat):Int)=2^k2:=VS;have hdn:d<2^k2:=by
  have h:=n9.2;rw [←hpn] at h;exact Int.ofNat_lt.1 h
 obtain ⟨v0,l1,rfl,r1,hr⟩:=hr.cons_inv;obtain ⟨v1,l1,rfl,r2,hr⟩:=hr.cons_inv;obtain ⟨v2,l2,rfl,r3,hr⟩:=hr.cons_inv;obtain ⟨v3,l3,rfl,r4,hr⟩:=hr.cons_inv;obtain ⟨v4,l4,rfl,r5,hr⟩:=hr.cons_inv;obtain ⟨v5,l5,rfl,r6,hr⟩:=hr.cons_inv;obtain rfl:=hr.nil_inv;obtain ⟨us,rfl,ru⟩:=r1.agg_inv;obtain ⟨u1,us1,rfl,q1,ru⟩:=ru.cons_inv;obtain ⟨u2,us2,rfl,q2,ru⟩:=ru.cons_inv;obtain rfl:=ru.nil_inv;obtain rfl:=q1.x_inv;obtain rfl:=q2.x_inv;have z: ∀{k:Nat} {x:Value},Rep e w (.ptr k 0) x->x=LO (e.blk k):=by
  intro k x h;cases h;rfl
 obtain rfl:=z r2;obtain rfl:=z r3;obtain rfl:=z r4;obtain rfl:=z r5;obtain rfl:=z r6;have m4:=UW h4;obtain ⟨_,ro1,_,vs1,hp1,e1⟩:=hm _ (UW h1);obtain ⟨rb,xs,rfl,t1,e1⟩:=e1.cons_inv;obtain rfl:=e1.nil_inv;obtain ⟨_,ro2,_,vs2,hp2,e2⟩:=hm _ (UW h2);obtain ⟨mv,xs,rfl,t2,e2⟩:=e2.cons_inv;obtain rfl:=e2.nil_inv;have hmv:mv= .map (some (e.blk mg)):=by
  cases t2;rfl
 subst hmv;obtain ⟨_,ro3,_,vs3,hp3,e3⟩:=hm _ (UW h3);obtain ⟨fv,xs,rfl,t3,e3⟩:=e3.cons_inv;obtain rfl:=e3.nil_inv;obtain ⟨us,us',rfl,t6,t7⟩:=t3.fn_inv;obtain rfl:=t6.nil_inv;obtain ⟨x1,xs,rfl,s1,t7⟩:=t7.cons_inv;obtain ⟨x2,xs,rfl,s2,t7⟩:=t7.cons_inv;obtain ⟨x3,xs,rfl,s3,t7⟩:=t7.cons_inv;obtain ⟨x4,xs,rfl,s4,t7⟩:=t7.cons_inv;obtain ⟨x5,xs,rfl,s5,t7⟩:=t7.cons_inv;obtain rfl:=t7.nil_inv;obtain rfl:=z s1;obtain rfl:=z s2;obtain rfl:=z s3;obtain rfl:=z s4;obtain rfl:=z s5;obtain ⟨live4,own4,vs4,hp4,e4⟩:=hm _ m4;obtain ⟨ov,xs,rfl,t4,e4⟩:=e4.cons_inv;obtain rfl:=e4.nil_inv;obtain ⟨_,own5,vs5,hp5,e5⟩:=hm _ (UW h5);obtain ⟨dv,xs,rfl,t5,e5⟩:=e5.cons_inv;obtain rfl:=e5.nil_inv;have hov:(∃p q r,ov= .slice p q r)/\e.val q=ov:=by
  cases t4 with
  |row _ a n c _ hv=>exact ⟨⟨a,n,c,rfl⟩,hv⟩
 have hdv:(∃p q r,dv= .slice p q r)/\e.val r=dv:=by
  cases t5 with
  |row _ a n c _ hv=>exact ⟨⟨a,n,c,rfl⟩,hv⟩
 obtain ⟨live6,own6,es,cn,hp6,hes0⟩:=hm _ (UW h6);have hes: ∀x∈es.toList,orH k2 a b c U O x.key/\x.val=orV x.key:=λx hx=>by
  obtain ⟨g1,g2⟩:=hes0 x hx;exact ⟨(n4 _ g1).1,by rw [g2,(n4 _ g1).2]⟩
 have H7:=hm _ (UW h7);have H8:=hm _ (UW h8);have R7:=qD H7 n6;have R8:=qD H8 n7;simp only at hp1 hp2 hp3 hp4 hp5 hp6 own4 own6 live4 live6 R7 R8 ro1 ro2 ro3 own5;rw [hov.2] at R7;rw [hdv.2] at R8;have own7: ∀x,ov.ownBlock=some x->e.own x=some q:=λx hx=>H7.2.1 x (by show (e.val q).ownBlock=some x;rw [hov.2];exact hx)
 have own8: ∀x,dv.ownBlock=some x->e.own x=some r:=λx hx=>H8.2.1 x (by show (e.val r).ownBlock=some x;rw [hdv.2];exact hx)
 have live7:e.live q:=H7.1;have live8:e.live r:=H8.1;have ho_q:o≠q:=by
  rintro rfl;rw [h7] at h4;cases h4
 have ho_r:o≠r:=by
  rintro rfl;rw [h8] at h4;cases h4
 have ho_m:o≠mg:=by
  rintro rfl;rw [h6] at h4;cases h4
 have hm_q:mg≠q:=by
  rintro rfl;rw [h7] at h6;cases h6
 have hm_r:mg≠r:=by
  rintro rfl;rw [h8] at h6;cases h6
 have hd_q:dd≠q:=by
  rintro rfl;rw [h7] at h5;cases h5
 have hd_r:dd≠r:=by
  rintro rfl;rw [h8] at h5;cases h5
 have hd_m:dd≠mg:=by
  rintro rfl;rw [h6] at h5;cases h5
 have dne: ∀{x y j j':Nat},e.own x=some j->e.own y=some j'->j≠j'->x≠y:=by
  rintro x y j j' hx hy hj rfl;rw [hx] at hy;exact hj (Bb hy)
 have HR:(xA k1 g1).length=k1:=by simp [xA]
 have hro: ∀x,e.ro x->x<w.heap.size/\x≠e.blk o/\x≠e.blk mg/\x≠e.blk dd/\ov.ownBlock≠some x/\dv.ownBlock≠some x:=by
  intro x hx;obtain ⟨hx1,hx2⟩:=hE.apart x hx;have nx_: ∀{y j:Nat},e.own y=some j->x≠y:=by
   rintro y j hy rfl;rw [hx1] at hy;cases hy
  exact ⟨hx2,nx_ own4,nx_ own6,nx_ own5,λh=>(nx_ (own7 x h)) rfl,λh=>(nx_ (own8 x h)) rfl⟩
 have FD:=Wd1 hs (ord:=xA k1 g1) (dy:=col 0 g2) hdn n10 n11 (by rw [HR];exact n12) (w:=w) (bk:=e.blk k) (bg:=e.blk g) (bf:=e.blk f) (bo:=e.blk o) (bd:=e.blk dd) (bm:=e.blk mg) (R:=e) hE.glob
  hp1 hp2 hp3 hp5 hp4 hp6 hes (by rw [HR];exact R7) R8 hov.1 hdv.1 (dne own4 own6 ho_m) (dne own4 own5 hod) (dne own6 own5 (Ne.symm hd_m)) (λx hx=>⟨dne (own7 x hx) own4 (Ne.symm ho_q),dne (own7 x hx) own6 (Ne.symm hm_q),dne (own7 x hx) own5 (Ne.symm hd_q),λh=>dne (own7 x hx) (own8 x h) hqr rfl⟩)
  (λx hx=>⟨dne (own8 x hx) own4 (Ne.symm ho_r),dne (own8 x hx) own6 (Ne.symm hm_r),dne (own8 x hx) own5 (Ne.symm hd_r)⟩) t1 hro ro1 ro2 ro3
 refine FD.mono ?_;rintro en w1 ⟨rfl,hsz,q1,q2,q3,j6,⟨es',c',hmp,hes'⟩,hF,hT⟩;rw [HR] at hF;have hlt: ∀{x j:Nat},e.own x=some j->w0.heap.size<=x:=λh=>(hE.owned _ _ h).1;have hBel:Below w0.heap.size w0 w1:=by
  refine ⟨q1.trans hB.os,q2.trans hB.tape,q3.trans hB.output,Ar hB.size hsz,λx hx=>?_⟩;have ne_: ∀{y j:Nat},e.own y=some j->x≠y:=λh he=>by have:=hlt h;omega
  rw [j6 x (xS hx hB.size) (ne_ own4) (ne_ own6) (λh=>ne_ (own7 x h) rfl) (λh=>ne_ (own8 x h) rfl)];exact hB.block x hx
 have Xh7: ∀x,x<w.heap.size->e.ro x->w1.heap[x]? =w.heap[x]? :=λx hx hx2=>j6 x hx (hro x hx2).2.1 (hro x hx2).2.2.1 (hro x hx2).2.2.2.2.1 (hro x hx2).2.2.2.2.2;cases hb:(orS k2 a b c U O d Z).isSome with
 |false=>
  have hq:=hq.2 hb;obtain ⟨f1,f2,f3⟩:=hF hb;have st:Step e e w w1:=⟨λx hx hx2=>⟨hx2,Xh7 x hx hx2⟩,λ_ h=>⟨h,rfl,rfl⟩,hsz⟩;refine ⟨_,_,_,_,_,e,rfl,hq,⟨λx hx=>⟨(hE.apart x hx).1,xS (hE.apart x hx).2 hsz⟩,λx j hx=>⟨(hE.owned x j hx).1,xS (hE.owned x j hx).2 hsz⟩,hE.glob.step st⟩,hBel,?_,hlv,LL,hxt.step st,.lit false⟩;intro p hp;rcases FS hp with rfl|⟨hp,Zl6,_⟩;exact ⟨live6,own6,es',c',hmp,hes'⟩;rcases FS hp with rfl|⟨hp,vN,_⟩;exact I7 n7 live8 hdv.2 own8 f3;rcases FS hp with rfl|⟨hp,Zl5,_⟩;exact I7 n6 live7 hov.2 own7 f2;obtain ⟨hpm,hna⟩:=EK hp;refine LF st (λx hx=>⟨hx,?_⟩) hna (hm p hpm);rcases Classical.em (x=e.blk o) with rfl|hxo;rw [f1,hp4];exact j6 x (hE.owned x _ hx).2 hxo (dne hx own6 Zl6) (λh=>dne hx (own7 x h) Zl5 rfl) (λh=>dne hx (own8 x h) vN rfl)
 |true=>
  have hq:=hq.1 hb;obtain ⟨y',t1,⟨ya,yn,yc,hy0⟩,t2,t3,t4⟩:=hT hb;have hid: ¬e.live nx:=λh=>Bf _ (hlv _ h);have hfr: ∀x j,e.own x=some j->j≠q->y'.ownBlock≠some x:=by
   intro x j hx hj h;rcases t3 x h with h|h;have:=(hE.owned x j hx).2;omega;exact dne hx (own7 x h) hj rfl
  have hfr2: ∀x,e.ro x->y'.ownBlock≠some x:=by
   intro x hx h;rcases t3 x h with h|h;have:=(hro x hx).1;omega;exact (hro x hx).2.2.2.2.1 h
  have H2: ∀x j,e.own x=some j->j≠q->(e.app nx y').own x=some j:=by
   intro x j hx hj;simp only [UJ.app];rw [if_neg (hfr x j hx hj)];exact hx
  have st:Step e (e.app nx y') w w1:=⟨λx hx hx2=>⟨hx2,Xh7 x hx hx2⟩,λj hj=>⟨.inr hj,rfl,by
   have:j≠nx:=λh=>hid (h▸hj);simp [UJ.app,this]⟩,hsz⟩
  have vne: ∀{j:Nat},e.live j->(e.app nx y').val j=e.val j:=λ{j} hj=>by
   have:j≠nx:=λh=>hid (h▸hj);simp [UJ.app,this]
  refine ⟨_,_,_,_,_,e.app nx y',rfl,hq,⟨λx hx=>⟨?_,xS (hE.apart x hx).2 hsz⟩,λx j hx=>?_,hE.glob.step st⟩,hBel,?_,?_,LL,hxt.step st,.lit true⟩;simp only [UJ.app];rw [if_neg (hfr2 x hx)];exact (hE.apart x hx).1;simp only [UJ.app] at hx;split at hx;rename_i hxb;refine ⟨?_,(t2.lt x hxb).2⟩;rcases t3 x hxb with h|h;exact Ar hB.size h;exact hlt (own7 x h);exact ⟨(hE.owned x j hx).1,xS (hE.owned x j hx).2 hsz⟩;intro p hp;rcases GK.1 hp with rfl|hp;exact xF (ov:=y') (.inl rfl) (by simp [UJ.app]) (λx hx=>by simp [UJ.app,hx]) rfl (λj hj=>Qb3 hj) t2
  rcases FS hp with rfl|⟨hp,Zl6,_⟩;exact ⟨.inr live6,H2 _ _ own6 hm_q,es',c',hmp,hes'⟩;rcases FS hp with rfl|⟨hp,vN,_⟩;exact xF (ov:=dv) (.inr live8) (by rw [vne live8];exact hdv.2) (λx hx=>H2 _ _ (own8 x hx) (Ne.symm hqr)) VS (λj hj=>CD hj) t4
  rcases FS hp with rfl|⟨hp,Zl5,_⟩;refine ⟨.inr live4,H2 _ _ own4 ho_q,[y'],t1,.cons ?_ (.nil _ _)⟩;rw [hy0];exact .row nx _ _ _ (.inl rfl) (by simp [UJ.app])
  obtain ⟨hp,Je8⟩:=L0 hp;obtain ⟨hpm,hna⟩:=EK hp;refine LF st (λx hx=>⟨H2 _ _ hx Je8,?_⟩) hna (hm p hpm);exact j6 x (hE.owned x _ hx).2 (dne hx own4 Zl5) (dne hx own6 Zl6) (λh=>dne hx (own7 x h) Je8 rfl) (λh=>dne hx (own8 x h) vN rfl);rintro j (rfl|hj);exact Bk _;exact Nat.lt_succ_of_lt (hlv j hj)
 cases ht;cases ht;cases ht;cases ht
end Go.Proofs.YtakpdkmhclhlnaaGreatDoor.Hd
