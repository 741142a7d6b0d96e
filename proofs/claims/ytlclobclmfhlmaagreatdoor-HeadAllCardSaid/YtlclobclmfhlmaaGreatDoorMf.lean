/- Contracts, put together. Conditions: those of each. -/
import Derived.Test.YtlclobclmfhlmaaGreatDoorMe
set_option linter.unusedSimpArgs false
set_option linter.unusedVariables false
set_option maxRecDepth 100000
namespace Go.Proofs.YtlclobclmfhlmaaGreatDoor.Hd
open Go Go.Sx Go.RowKit Bo
open Go.Sx.VL (need branch leaf)
open Go.Sx.AV (lst ptr agg roI tup top)
section
variable (N:Nat)(lo hi:Nat->Int)(m:Nat->Nat)(r v:Nat->Nat->Int)
def Xa0:St:={σ:=[AV.ro [lst 2 3 λk=>[iI (oL k),iI (oH k)],iI 1,Q1 N lo hi m r v,Q2 m N,top],agg QD,top,ptr 0 0,top,top,ptr 4 0]++HG 15 [iI 13]++HG 20 [lst 2 3 λk=>[iI (oL k),iI (oH k)],iI (↑(3:Nat):Int),iI 3]++HG 20 [Q1 N lo hi m r v,iI (N:Int),iI (N:Int)]++HG 14 [Q2 m N,iI (↑(HB m N):Int),iI (↑(HB m N):Int)]++HG 50 [iI 13]++HG 54 [],m:=[(4,GM.ints 237 [] 169 λk=>UY (fwO 12 (r0M N lo hi m r v) 13) k),(0,KX)],nx:=29}
noncomputable def Jp0:Code:=U8 (VQ (U6 Tryz.f93) 5)
def Wi1(k:Nat):St:=(upE [(178,i k)] [(4,.ints 237 [] 169 (UY (PE N lo hi m r v))),(0,.cells 191 [.x (.int .u64 0)])] (Xa0 N lo hi m r v))
def d8(k:Nat):G6->Option St
 | .ret=>some (upE [(4,.x (.pointer none)),(5,.lit false),(178,.top)] [(4,.ints 237 [] 169 (UY (PE N lo hi m r v))),(0,.cells 191 [.x (.int .u64 0)])] (Xa0 N lo hi m r v))
 | .exit 16=>some (upE [(178,.top)] [(4,.ints 237 [] 169 (UY (PE N lo hi m r v))),(0,.cells 191 [.x (.int .u64 0)])] (Xa0 N lo hi m r v))
 |_=>none
def Jk6:CT:= .branch (xF N lo hi m r v) (.leaf (.exit 16,(d8 N lo hi m r v 0 (.exit 16)).getD (Xa0 N lo hi m r v))) (.leaf (.ret,(d8 N lo hi m r v 0 .ret).getD (Xa0 N lo hi m r v)))
def Xw1:UH:=GJ [] (HF (Wi1 N lo hi m r v (0)) (Jk6 N lo hi m r v))
theorem Jf1(VR:bOK N lo hi m r v):G7 VN (.loop Jp0) (Xw1 N lo hi m r v):=by
 refine UX [] (L:=[]) (VJ.cons RG (VJ.cons LS (VJ.cons FX (VJ.nil _)))) (VV.of (VP.nil _) (VM.cons RK (VM.nil _))) VY U2 (X:=Nat) (Wi1 N lo hi m r v) (λk=>k<=13/\ ∀j,j<k->0<=PE N lo hi m r v j j) (λk=>13-k) (d8 N lo hi m r v) (x0:=0) VU ?_ ?_ ?_
 ·rintro k;kernel_rfl
 ·rintro k y E h;unfold d8 at h;split at h
  ·cases h;kernel_rfl
  ·cases h;kernel_rfl
  ·cases h
 ·rintro Q hQ k hx;refine ⟨(k+1),?_⟩;(with_reducible refine DF (t:=let z0:=(VX (AV.ro [lst 2 3 λk=>[iI (oL k),iI (oH k)],iI 1,Q1 N lo hi m r v,Q2 m N,top]));let z1:=(VX (↑(HB m N):Int));let z2:=PE N lo hi m r v;let z3:=(VX (lst 2 3 λk=>[iI (oL k),iI (oH k)]));(branch (decide ((k:Int)<13)) (need [UI k 13] (need [UI k 13] (need [k*1+(k*13+0)<169] (branch (decide (UY (z2) (k*1+(k*13+0))<0)) (need [z0,VX (agg QD),QO,QE=QE,WK,W5,XA,z3,VX (↑(3:Nat):Int),XE,WS N lo hi m r v,VX (N:Int),VX (N:Int),VX (Q2 m N),z1,z1,XA,169=169,GN 169 (UY (z2)),QT] (leaf G6.ret)) (need [VK ((k:Int)+1)] (need [z0,VX (agg QD),QO,W5,XA,z3,VX (↑(3:Nat):Int),XE,WS N lo hi m r v,VX (N:Int),VX (N:Int),VX (Q2 m N),z1,z1,XA,(k:Int)+1=(↑(k+1):Int),169=169,GN 169 (UY (z2)),QT] (leaf G6.normal))))))) (need [z0,VX (agg QD),QO,W5,XA,z3,VX (↑(3:Nat):Int),XE,WS N lo hi m r v,VX (N:Int),VX (N:Int),VX (Q2 m N),z1,z1,XA,169=169,GN 169 (UY (z2)),QT] (leaf (G6.exit 16))))) VS ?_)
  simp only [Jk6,d8,VL.sat,GS] at hQ;simp only [VL.sat,UA,UZ,GI,UC,VK,UG,H9,R0,RF,L1,GL,d8]
  have h1:UY (PE N lo hi m r v) (k*1+(k*13+0))=PE N lo hi m r v k k\/13<=k:=by
   rcases Nat.lt_or_ge k 13 with h|h
   ·exact .inl (kY _ VI h)
   ·exact .inr h
  refine ⟨λh=>?_,λh=>?_⟩
  ·have h2:=h1.resolve_right VI;rw [h2];refine ⟨VI,VI,VI,λhneg=>?_,λWl3=>?_⟩
   ·have hno:xF N lo hi m r v=false:=by
     cases ho:xF N lo hi m r v
     ·rfl
     ·have:=GR.1 ho k VI;simp at this;omega
    (with_reducible repeat' first|apply And.intro|intro _)
    all_goals first|exact P7|(rename_i E hE;cases hE;exact hQ.2 hno)
   ·exact VE
  ·obtain ⟨hx1,hx2⟩:=hx;obtain rfl:k=13:=VI;have Wk1:xF N lo hi m r v=true:=GR.2 (λj hj=>by simpa using hx2 j hj)
   (with_reducible repeat' first|apply And.intro|intro _)
   all_goals first|exact P7|(rename_i E hE;cases hE;exact hQ.1 Wk1)
end
theorem Qj4{S:Code->UH->Prop}{c:Code}{s0 s1 s2 s3 s4 s5:UH}(h0: ∀cj,VQ c 0=some cj->S cj s0)(h1: ∀cj,VQ c 1=some cj->S cj s1)(h2: ∀cj,VQ c 2=some cj->S cj s2)(h3: ∀cj,VQ c 3=some cj->S cj s3)(h4: ∀cj,VQ c 4=some cj->S cj s4)(h5: ∀cj,VQ c 5=some cj->S cj s5):
  ∀j cj,VQ c j=some cj-> ∀sp,[s0,s1,s2,s3,s4,s5][j]? =some sp->S cj sp:=by
 intro j cj hj sp hsp
 match j with
 | 0=>simp at hsp;subst hsp;exact h0 cj hj
 | 1=>simp at hsp;subst hsp;exact h1 cj hj
 | 2=>simp at hsp;subst hsp;exact h2 cj hj
 | 3=>simp at hsp;subst hsp;exact h3 cj hj
 | 4=>simp at hsp;subst hsp;exact h4 cj hj
 | 5=>simp at hsp;subst hsp;exact h5 cj hj
 |j+6=>simp at hsp
section
variable (N:Nat)
abbrev KC(lo:Nat->Int)(hi:Nat->Int)(m:Nat->Nat)(r:Nat->Nat->Int)(v:Nat->Nat->Int):AV:=roI [] 169 (λk=>UY (PE N lo hi m r v) k) 0
theorem Xj7(lo hi:Nat->Int)(m:Nat->Nat)(r v:Nat->Nat->Int)(VR:bOK N lo hi m r v):UM VN 93 [.ro [ofs,i 1,bds N lo hi m r v,.lst 2 (HB m N) (plF m N),.top],.agg [.x (.int .u64 0)]] (.branch (xF N lo hi m r v) (.leaf (.tup [.roI [] 169 (UY (PE N lo hi m r v)) 0,.lit true])) (.leaf (.tup [Bo.nilP,.lit false]))):=by
 refine GQ (L:=[Xw9 N lo hi m r v,Xw7 N lo hi m r v,Xw6 N lo hi m r v,Xw5 N lo hi m r v,Xw4 N lo hi m r v,Xw1 N lo hi m r v]) (VJ.cons RG (VJ.cons LS (VJ.cons FX (VJ.nil _)))) (VV.of (VP.nil _) (VM.cons RK (VM.nil _))) VY Tryz.func93 (US Tryz.f93) (Qj4 (lpE (b:= .loop Zr9) VS<|(Jf9 N lo hi m r v).N) (lpE (b:= .loop Jp4) VS<|(Jf7 N lo hi m r v).N) (lpE (b:= .loop Jp3) VS<|(Jf6 N lo hi m r v VR).N) (lpE (b:= .loop Jp2) VS<|(Jf5 N lo hi m r v VR).N) (lpE (b:= .loop Zr8) VS<|(Jf4 N lo hi m r v VR).N) (lpE (b:= .loop Jp0) VS<|(Jf1 N lo hi m r v VR).N)) (t:=let z0:=(VX (AV.ro [lst 2 3 λk=>[iI (oL k),iI (oH k)],iI 1,Q1 N lo hi m r v,Q2 m N,top]));let z1:=(VX (lst 2 3 λk=>[iI (oL k),iI (oH k)]));let z2:=(VX (↑(HB m N):Int));let z3:=(VX (↑(3:Nat):Int));(need [z0,VX (agg QD),QO,QE=QE,WK,W5,(0:Int)=(↑(0:Nat):Int),169=169,GT 169 (U7 QL) (UY (LR 0 0)),QT] (need [z0,VX (agg QD),QO,QE=QE,WK,W5,XA,z1,z3,(0:Int)=(↑(0:Nat):Int),169=169,GT 169 (UY (LR 13 0)) (UY (ofM 0)),QT] (need [z0,VX (agg QD),QO,QE=QE,WK,W5,XA,z1,z3,XE,WS N lo hi m r v,VX (N:Int),(0:Int)=(↑(0:Nat):Int),169=169,GT 169 (UY (ofM 3)) (UY (btM lo hi 0)),QT] (need [z0,VX (agg QD),QO,QE=QE,WK,W5,XA,z1,z3,XE,WS N lo hi m r v,VX (N:Int),VX (N:Int),VX (Q2 m N),z2,(0:Int)=(↑(0:Nat):Int),169=169,GT 169 (UY (btM lo hi N)) (UY (rF N lo hi m r v 0)),QT] (need [z0,VX (agg QD),QO,QE=QE,WK,W5,XA,z1,z3,XE,WS N lo hi m r v,VX (N:Int),VX (N:Int),VX (Q2 m N),z2,z2,(0:Int)=(↑(0:Nat):Int),169=169,GT 169 (UY (rF N lo hi m r v (HB m N))) (UY (fwO 12 (r0M N lo hi m r v) 0)),QT] (need [z0,VX (agg QD),QO,W5,XA,z1,z3,XE,WS N lo hi m r v,VX (N:Int),VX (N:Int),VX (Q2 m N),z2,z2,XA,(0:Int)=(↑(0:Nat):Int),169=169,GT 169 (UY (fwO 12 (r0M N lo hi m r v) 13)) (UY (PE N lo hi m r v)),QT] (branch (xF N lo hi m r v) (leaf (tup [KC N lo hi m r v,AV.lit true])) (leaf (tup [QE,AV.lit false])))))))))) VS ?_
 intro Q hQ;simp only [VL.sat,UA,UG,VK,L1,GL] at hQ ⊢
 (with_reducible repeat' first|apply And.intro|intro _)
 all_goals first|exact True.intro|omega|with_reducible rfl|rfl|exact Xh9 _|(rename_i h;exact h.elim)|(rename_i h;exact ⟨.tup [.roI [] 169 (UY (PE N lo hi m r v)) 0,.lit true],⟨⟨rfl,rfl,λ_ _=>rfl,rfl⟩,rfl,True.intro⟩,hQ.1 h⟩)|(rename_i h;exact ⟨.tup [Bo.nilP,.lit false],⟨rfl,rfl,True.intro⟩,hQ.2 h⟩)
def Zn7(lo hi:Nat->Int)(m:Nat->Nat)(r v:Nat->Nat->Int):D7:=λl=>some (.need [l=[.ro [ofs,i 1,bds N lo hi m r v,.lst 2 (HB m N) (plF m N),.top],.agg [.x (.int .u64 0)]]] (.branch (xF N lo hi m r v) (.leaf (.tup [.roI [] 169 (UY (PE N lo hi m r v)) 0,.lit true])) (.leaf (.tup [Bo.nilP,.lit false]))))
theorem Ws6(lo hi:Nat->Int)(m:Nat->Nat)(r v:Nat->Nat->Int)(VR:bOK N lo hi m r v):Sx.Enters Tryz.prog 93/\ ∀avs t,Zn7 N lo hi m r v avs=some t->UM VN 93 avs t:=by
 refine ⟨(UF Tryz.func93),?_⟩;intro avs t h;cases h;intro Q hQ;have e:=hQ.1
 dsimp only [UA] at e
 subst e;exact Xj7 N lo hi m r v VR Q hQ.2
def bV(lo hi:Nat->Int)(m:Nat->Nat)(r v:Nat->Nat->Int):Prop:=bOK N lo hi m r v/\ ∀b,b<N-> ∀j k,j<k->k<m b->r b j≠r b k
end
section
variable {N:Nat}{lo hi:Nat->Int}{m:Nat->Nat}{r v:Nat->Nat->Int}
theorem Zu9(h:bV N lo hi m r v):vB N (λk=>[i (lo k),i (hi k),bts (m k) (r k) (v k)]):=by
 refine ⟨h.1.1,lo,hi,m,λk j=>[i (r k j),i (v k j)],λ_ _=>rfl,λk hk=>⟨λ_ _=>rfl,⟨?_,λj hj=>?_,λj q hj hq=>?_⟩,?_⟩⟩
 ·have:=(h.1.2 k hk).1;omega
 ·obtain ⟨h1,h2,h3,h4,h5⟩:=h.1.2 k hk;exact h5 j hj
 ·exact h.2 k hk j q hj hq
 ·obtain ⟨h1,h2,h3,h4,h5⟩:=h.1.2 k hk;exact (insB_iff _ _ _ _).2 ⟨h2,h3,h4⟩
theorem Wt3(h:bV N lo hi m r v):N<=1000/\ ∀b,b<N->m b<=1000:=⟨by have:=h.1.1;omega,λb hb=>by have:=(h.1.2 b hb).1;omega⟩
end
section
variable (f:Nat->List AV)(er:Int)(N:Nat)(lo hi:Nat->Int)(m:Nat->Nat)(r v:Nat->Nat->Int)
def Xm0:UV:=λl=>some ([l=[.agg [.lst 2 3 f,i er,bds N lo hi m r v]]],.ro [.lst 2 3 f,i er,bds N lo hi m r v,.lst 2 (HB m N) (plF m N),.top])
theorem Qq4(VR:N<=1000)(UE: ∀b,b<N->m b<=1000):LZ VN 92 (Xm0 f er N lo hi m r v):=by
 refine ⟨(UF Tryz.func92),?_⟩;intro avs ns res h hn;cases h;have e:=hn _ GD;subst e;exact Wr7 f er N lo hi m r v VR UE
end
section
variable (N:Nat)(lo hi:Nat->Int)(m:Nat->Nat)(r v:Nat->Nat->Int)
theorem Qq5(VR:bV N lo hi m r v):UM VN 68 [.agg [ofs,i 1,bds N lo hi m r v],.lit true] (.branch (xF N lo hi m r v) (.leaf (.tup [.roI [] 169 (UY (PE N lo hi m r v)) 0,i 0])) (.leaf (.tup [Bo.nilP,i 9]))):=by
 refine GQ (L:=[]) (VJ.cons Qr3 (VJ.nil _)) (VV.ofC (VP.cons (Qq4 (λk=>[i (oL k),i (oH k)]) 1 N lo hi m r v (Wt3 VR).1 (Wt3 VR).2) (VP.nil _)) (VM.nil _) (U9.cons (Ws6 N lo hi m r v VR.1) (U9.nil _))) VY Tryz.func68 (US Tryz.f68) G4 (t:=need [ofB λk=>[i (oL k),i (oH k)],vB N λk=>[i (lo k),i (hi k),bts (m k) (r k) (v k)]] (branch ((0:Int) != 0) (leaf (tup [QE,iI 0])) (need [VX ([agg [lst 2 3 λk=>[iI (oL k),iI (oH k)],iI 1,Q1 N lo hi m r v]])] (need [VX ([AV.ro [lst 2 3 λk=>[iI (oL k),iI (oH k)],iI 1,Q1 N lo hi m r v,Q2 m N,top],agg QD])] (branch (xF N lo hi m r v) (leaf (tup [KC N lo hi m r v,iI 0])) (leaf (tup [QE,iI 9]))))))) VS ?_
 intro Q hQ;simp only [VL.sat,UA,UG] at hQ ⊢;refine ⟨⟨λ_ _=>rfl,Zu9 VR⟩,λh=>by simp at h,λ_=>⟨λh=>⟨.tup [.roI [] 169 (UY (PE N lo hi m r v)) 0,i 0],⟨⟨rfl,rfl,λ_ _=>rfl,rfl⟩,⟨rfl,rfl⟩,True.intro⟩,hQ.1 h⟩,λh=>⟨.tup [Bo.nilP,i 9],⟨rfl,⟨rfl,rfl⟩,True.intro⟩,hQ.2 h⟩⟩⟩
def Wx1:D7:=λl=>some (.need [l=[.agg [ofs,i 1,bds N lo hi m r v],.lit true]] (.branch (xF N lo hi m r v) (.leaf (.tup [.roI [] 169 (UY (PE N lo hi m r v)) 0,i 0])) (.leaf (.tup [Bo.nilP,i 9]))))
theorem IM(VR:bV N lo hi m r v):Sx.Enters Tryz.prog 68/\ ∀avs t,Wx1 N lo hi m r v avs=some t->UM VN 68 avs t:=by
 refine ⟨(UF Tryz.func68),?_⟩;intro avs t h;cases h;intro Q hQ;have e:=hQ.1
 dsimp only [UA] at e
 subst e;exact Qq5 N lo hi m r v VR Q hQ.2
end
def Wv4:UV
 |[.roI [] 169 F 0,.x (.int .i64 a),.x (.int .i64 b)]=>some ([0<=a/\a<=12,0<=b/\b<=12,-1000000000000000<=F (b.toNat*13+a.toNat)/\F (b.toNat*13+a.toNat)<=1000000000000000],i (-(F (b.toNat*13+a.toNat))))
 |_=>none
theorem Xj6(F:Nat->Int)(a b:Int)(VR:0<=a/\a<=12)(UE:0<=b/\b<=12)(HP: -1000000000000000<=F (b.toNat*13+a.toNat)/\F (b.toNat*13+a.toNat)<=1000000000000000):VW VN 94 [.roI [] 169 F 0,i a,i b] (i (-(F (b.toNat*13+a.toNat)))):=by
 refine GU Tryz.func94 (t:=need [UI b 13] (need [UI a 13] (need [Int.toNat a*1+(Int.toNat b*13+0)<169] (need [VK (-F (Int.toNat a*1+(Int.toNat b*13+0)))] (leaf (RV.x (.int .i64 (-F (Int.toNat a*1+(Int.toNat b*13+0)))))))))) VS ?_;simp only [VL.sat,UA,UZ,GI,UC,UG,F9];rw [show a.toNat*1+(b.toNat*13+0)=b.toNat*13+a.toNat by omega]
 simp only [VK];simp;omega
theorem Xj5:VO VN 94 Wv4:=by
 refine ⟨(UF Tryz.func94),?_⟩;intro avs ns res h hn;unfold Wv4 at h;split at h
 ·cases h;exact Xj6 _ _ _ (hn _ VU) (hn _ VU) (hn _ VU)
 ·cases h
def Qf5:UV
 |[.roI [] 169 F 0,.x (.int .i64 a),.x (.int .i64 b)]=>some ([0<=a/\a<=12,0<=b/\b<=12,-1000000000000000<=F (a.toNat*13+b.toNat)/\F (a.toNat*13+b.toNat)<=1000000000000000],i (F (a.toNat*13+b.toNat)))
 |_=>none
theorem Ws4(F:Nat->Int)(a b:Int)(VR:0<=a/\a<=12)(UE:0<=b/\b<=12)(HP: -1000000000000000<=F (a.toNat*13+b.toNat)/\F (a.toNat*13+b.toNat)<=1000000000000000):VW VN 95 [.roI [] 169 F 0,i a,i b] (i (F (a.toNat*13+b.toNat))):=by
 refine GU Tryz.func95 (t:=need [UI a 13] (need [UI b 13] (need [Int.toNat b*1+(Int.toNat a*13+0)<169] (leaf (RV.x (.int .i64 (F (Int.toNat b*1+(Int.toNat a*13+0))))))))) VS ?_;simp only [VL.sat,UA,UZ,GI,UC,UG,F9];rw [show b.toNat*1+(a.toNat*13+0)=a.toNat*13+b.toNat by omega]
 simp only [VK];simp;omega
theorem Ws3:VO VN 95 Qf5:=by
 refine ⟨(UF Tryz.func95),?_⟩;intro avs ns res h hn;unfold Qf5 at h;split at h
 ·cases h;exact Ws4 _ _ _ (hn _ VU) (hn _ VU) (hn _ VU)
 ·cases h
def M5:UV
 |[.roI [] 169 F 0,.x (.int .i64 a),.x (.int .i64 b)]=>some ([0<=a/\a<=12,0<=b/\b<=12,-1000000000000000<=F (b.toNat*13+a.toNat)/\F (b.toNat*13+a.toNat)<=1000000000000000,-1000000000000000<=F (a.toNat*13+b.toNat)/\F (a.toNat*13+b.toNat)<=1000000000000000],.agg [i (-(F (b.toNat*13+a.toNat))),i (F (a.toNat*13+b.toNat))])
 |_=>none
theorem lI(F:Nat->Int)(a b:Int)(VR:0<=a/\a<=12)(UE:0<=b/\b<=12)(HP: -1000000000000000<=F (b.toNat*13+a.toNat)/\F (b.toNat*13+a.toNat)<=1000000000000000)(DZ: -1000000000000000<=F (a.toNat*13+b.toNat)/\F (a.toNat*13+b.toNat)<=1000000000000000):VW VN 69 [.roI [] 169 F 0,i a,i b] (.agg [i (-(F (b.toNat*13+a.toNat))),i (F (a.toNat*13+b.toNat))]):=by
 refine U0 (L:=[]) (VJ.cons Xj5 (VJ.cons Ws3 (VJ.nil _))) VY Tryz.func69 (US Tryz.f69) U2 (t:=need [(0:Int)<=a/\a<=12,(0:Int)<=b/\b<=12,(-1000000000000000:Int)<=F (Int.toNat b*13+Int.toNat a)/\F (Int.toNat b*13+Int.toNat a)<=1000000000000000] (need [(0:Int)<=a/\a<=12,(0:Int)<=b/\b<=12,(-1000000000000000:Int)<=F (Int.toNat a*13+Int.toNat b)/\F (Int.toNat a*13+Int.toNat b)<=1000000000000000] (leaf (RV.agg [RV.x (.int .i64 (-F (Int.toNat b*13+Int.toNat a))),RV.x (.int .i64 (F (Int.toNat a*13+Int.toNat b)))])))) VS ?_;exact YZ
theorem rA:VO VN 69 M5:=by
 refine ⟨(UF Tryz.func69),?_⟩;intro avs ns res h hn;unfold M5 at h;split at h
 ·cases h;exact lI _ _ _ (hn _ VU) (hn _ VU) (hn _ VU) (hn _ VU)
 ·cases h
theorem Xi0{N:Nat}{lo hi:Nat->Int}{m:Nat->Nat}{r v:Nat->Nat->Int}(h:bOK N lo hi m r v)(x y:Nat): -1000000000000000<=PE N lo hi m r v x y/\PE N lo hi m r v x y<=1000000000000000:=by
 have:=Wy0 (c:=12) (ST h (HB m N) (Nat.le_refl _)) 13 x y;rw [show (8001:Int)*6^13=104498612822016 by decide] at this
 unfold PE r0M;omega
section
variable (N:Nat)(lo hi:Nat->Int)(m:Nat->Nat)(r v:Nat->Nat->Int)
def boE:Int:=if xF N lo hi m r v=true then 0 else 9
def boN:Nat:=if xF N lo hi m r v=true then 3 else 0
def boL(k:Nat):Int:= -(PE N lo hi m r v 0 (1+k))
def boH(k:Nat):Int:=PE N lo hi m r v (1+k) 0
abbrev QA:AV:=AV.x (.slice none 0 0)
def t9:St:={σ:=[agg [lst 2 3 λk=>[iI (oL k),iI (oH k)],iI 1,Q1 N lo hi m r v],ptr 0 0,QA,iI 0,QE,iI 9]++HG 12 [iI (↑(3:Nat):Int)]++HG 12 [],m:=[(901,GM.row 68 2 0 λx=>[]),(0,GM.cells 103 [lst 2 3 λk=>[iI (oL k),iI (oH k)],iI 1,Q1 N lo hi m r v])],nx:=902}
noncomputable def Qs7:Code:=U8 (VQ (U6 Tryz.f35) 0)
def vG(k:Nat):St:={σ:=H3 [(19,i k),(6,.row 901),(4,.roI [] 169 (UY (PE N lo hi m r v)) 0),(5,i 0)] (t9 N lo hi m r v).σ,m:=[(901,.row 68 2 k (λk=>[i (boL N lo hi m r v k),i (boH N lo hi m r v k)])),(0,.cells 103 [ofs,i 1,bds N lo hi m r v])],nx:=902}
def PN(k:Nat):G6->Option St
 | .exit 0=>some {σ:=H3 [(19,i 3),(6,.row 901),(4,.roI [] 169 (UY (PE N lo hi m r v)) 0),(5,i 0)] (t9 N lo hi m r v).σ,m:=[(901,.row 68 2 3 (λk=>[i (boL N lo hi m r v k),i (boH N lo hi m r v k)])),(0,.cells 103 [ofs,i 1,bds N lo hi m r v])],nx:=902}
 |_=>none
def Wu6:CT:= .leaf (.exit 0,(PN N lo hi m r v 0 (.exit 0)).getD (t9 N lo hi m r v))
def mJ:UH:=GJ [(.slot 6,901,68,2)] (HF (vG N lo hi m r v (0)) (Wu6 N lo hi m r v))
abbrev KR:Prop:=(1:Int)=1
theorem Jh1(VR:bV N lo hi m r v):G7 VN (.loop Qs7) (mJ N lo hi m r v):=by
 refine UX [(.slot 6,901,68,2)] (L:=[]) (VJ.cons RG (VJ.cons rA (VJ.nil _))) (VV.ofC (VP.nil _) (VM.nil _) (U9.cons (IM N lo hi m r v VR) (U9.nil _))) VY U2 (X:=Nat) (vG N lo hi m r v) (λk=>k<=3) (λk=>3-k) (PN N lo hi m r v) (x0:=0) VU ?_ ?_ ?_
 ·rintro k;kernel_rfl
 ·rintro k y E h;unfold PN at h;split at h
  ·cases h;kernel_rfl
  ·cases h
 ·rintro Q hQ k hx;refine ⟨(k+1),?_⟩;(with_reducible refine DF (t:=let z0:=PE N lo hi m r v;let z1:=(VX (agg [lst 2 3 λk=>[iI (oL k),iI (oH k)],iI 1,Q1 N lo hi m r v]));let z2:=(UY (z0) (((1:Int)+(k:Int)).toNat*13+(0:Int).toNat));(branch (decide ((k:Int)<(↑(3:Nat):Int))) (need [(0:Int)<=(k:Int)/\(k:Int)<=1000] (need [(0:Int)<=1+(k:Int)/\(1:Int)+(k:Int)<=12,(0:Int)<=0/\(0:Int)<=12,(-1000000000000000:Int)<=UY (z0) (0+((1:Int)+(k:Int)).toNat)/\UY (z0) (0+((1:Int)+(k:Int)).toNat)<=1000000000000000,(-1000000000000000:Int)<=UY (z0) (((1:Int)+(k:Int)).toNat*13+(0:Int).toNat)/\UY (z0) (((1:Int)+(k:Int)).toNat*13+(0:Int).toNat)<=1000000000000000] (need [(k+1)*16<=140737488355328,RS 1 (U4 2 [iI (-UY (z0) (0+((1:Int)+(k:Int)).toNat)),iI z2])] (need [VK ((k:Int)+1)] (need [z1,QO,QA=QA,QT,VX (KC N lo hi m r v),QT,WG,VX (↑(3:Nat):Int),(k:Int)+1=(↑(k+1):Int),k+1=k+1,GT (k+1) (GG k (λk=>[iI (boL N lo hi m r v k),iI (boH N lo hi m r v k)]) (U4 2 [iI (-UY (z0) (0+((1:Int)+(k:Int)).toNat)),iI z2])) (λi=>[iI (boL N lo hi m r v i),iI (boH N lo hi m r v i)]),VX (lst 2 3 λk=>[iI (oL k),iI (oH k)]),KR,WS N lo hi m r v] (leaf G6.normal)))))) (need [z1,QO,QA=QA,QT,VX (KC N lo hi m r v),QT,WG,VX (↑(3:Nat):Int),(k:Int)=3,k=3,∀(i:Nat),i<3->[iI (boL N lo hi m r v i),iI (boH N lo hi m r v i)]=[iI (boL N lo hi m r v i),iI (boH N lo hi m r v i)],VX (lst 2 3 λk=>[iI (oL k),iI (oH k)]),KR,WS N lo hi m r v] (leaf (G6.exit 0))))) VS ?_)
  simp only [Wu6,PN,VL.sat,GS] at hQ;simp only [VL.sat,UA,UZ,GI,UC,VK,UG,H9,R0,RF,L1,GL,PN]
  have hb:=λx y=>Xi0 VR.1 x y
  have e1:(1+(k:Int)).toNat=1+k:=VI;have g1:k<3->UY (PE N lo hi m r v) (0*13+(1+k))=PE N lo hi m r v 0 (1+k):=λ_=>kY _ VI VI
  have g2:k<3->UY (PE N lo hi m r v) ((1+k)*13+0)=PE N lo hi m r v (1+k) 0:=λ_=>kY _ VI VI
  have b1:=hb 0 (1+k);have b2:=hb (1+k) 0;refine ⟨λh=>?_,λh=>?_⟩
  ·have hk:k<3:=VI;have f1:=g1 hk;have f2:=g2 hk;rw [e1];simp only [Int.toNat_zero,f1,f2]
   (with_reducible repeat' first|apply And.intro|intro _)
   all_goals first|exact True.intro|omega|rfl|exact FN (by assumption) (by simp [AV.one,Value.oneCell'])|exact Zm1 rfl rfl (by assumption)
  ·obtain rfl:k=3:=VI;exact YY
abbrev J3:Value:=Value.slice none 0 0
abbrev Y6:Value:=Value.pointer none
theorem kC(VR:bV N lo hi m r v):VW VN 35 [.agg [ofs,i 1,bds N lo hi m r v]] (.tup [.lst 2 (boN N lo hi m r v) (λk=>[i (boL N lo hi m r v k),i (boH N lo hi m r v k)]),i (boE N lo hi m r v)]):=by
 refine GA (L:=[mJ N lo hi m r v]) (VJ.cons RG (VJ.cons rA (VJ.nil _))) (VV.ofC (VP.nil _) (VM.nil _) (U9.cons (IM N lo hi m r v VR) (U9.nil _))) VY Tryz.func35 (US Tryz.f35) (G0 (lpE (b:= .loop Qs7) VS<|(Jh1 N lo hi m r v VR).N)) (t:=let z0:=([lst 2 3 λk=>[iI (oL k),iI (oH k)],iI 1,Q1 N lo hi m r v]);let z1:=(leaf (RV.tup [RV.lst 2 3 λk=>[iI (boL N lo hi m r v k),iI (boH N lo hi m r v k)],RV.x (X0)]));(need [VX ([agg z0,AV.lit true])] (branch (xF N lo hi m r v) (branch ((0:Int) != 0) (leaf (RV.tup [RV.x (J3),RV.x (X0)])) (need [VX (agg z0),QO,QA=QA,QT,VX (KC N lo hi m r v),QT,WG,VX (↑(3:Nat):Int),(0:Int)=(↑(0:Nat):Int),0=0,∀(i:Nat),i<0->[]=[iI (boL N lo hi m r v i),iI (boH N lo hi m r v i)],VX (lst 2 3 λk=>[iI (oL k),iI (oH k)]),KR,WS N lo hi m r v] z1)) (branch ((9:Int) != 0) (leaf (RV.tup [RV.x (J3),RV.x (.int .i64 (9:Int))])) (need [VX (agg z0),QO,QA=QA,QT,AV.x (Y6)=roI [] 169 (λk=>UY (PE N lo hi m r v) k) 0,(9:Int)=0,WG,VX (↑(3:Nat):Int),(0:Int)=(↑(0:Nat):Int),0=0,∀(i:Nat),i<0->[]=[iI (boL N lo hi m r v i),iI (boH N lo hi m r v i)],VX (lst 2 3 λk=>[iI (oL k),iI (oH k)]),KR,WS N lo hi m r v] z1))))) VS ?_
 simp only [VL.sat,UA,UZ,GI,UC,UG];refine ⟨λhok=>⟨λh=>by simp at h,λ_=>?_⟩,λhno=>⟨λ_=>?_,λh=>by simp at h⟩⟩
 ·unfold boN boE;rw [if_pos hok,if_pos hok]
  (with_reducible repeat' first|apply And.intro|intro _)
  all_goals first|exact True.intro|omega|rfl|(rename_i hm;simp only [GK,DQ,or_false] at hm;rcases hm with rfl|rfl<;>exact True.intro)
 ·unfold boN boE;rw [if_neg (by simp [hno]),if_neg (by simp [hno])]
  exact ⟨⟨True.intro,rfl⟩,rfl⟩
def sM:UV:=λl=>some ([l=[.agg [ofs,i 1,bds N lo hi m r v]]],.tup [.lst 2 (boN N lo hi m r v) (λk=>[i (boL N lo hi m r v k),i (boH N lo hi m r v k)]),i (boE N lo hi m r v)])
theorem aH(VR:bV N lo hi m r v):VO VN 35 (sM N lo hi m r v):=by
 refine ⟨(UF Tryz.func35),?_⟩;intro avs ns res h hn;cases h;have e:=hn _ GD;subst e;exact kC N lo hi m r v VR
end
def OZ:UV
 |[.x (.int .i64 n),.x (.int .i64 lo),.x (.int .i64 hi)]=>some ([],bl (bt lo n hi))
 |_=>none
theorem nN(n lo hi:Int):VW VN 27 [i n,i lo,i hi] (bl (bt lo n hi)):=by
 refine GU Tryz.func27 (t:=branch (decide (lo<=n)) (leaf (RV.x (.bool (decide (n<=hi))))) (leaf (RV.x (WM)))) VS ?_;exact V8
theorem xZ:VO VN 27 OZ:=by
 refine ⟨(UF Tryz.func27),?_⟩;intro avs ns res h hn;unfold OZ at h;split at h
 ·cases h;exact nN _ _ _
 ·cases h
def Wu8:UV
 |[.x (.int .i64 n)]=>some ([],bl (bt 0 n 100))
 |_=>none
theorem Xd1(n:Int):VW VN 28 [i n] (bl (bt 0 n 100)):=by
 refine U0 (L:=[]) (VJ.cons xZ (VJ.nil _)) VY Tryz.func28 (US Tryz.f28) U2 (t:=leaf (RV.x (.bool (bt (0:Int) n (100:Int))))) VS ?_;exact YZ
theorem rW:VO VN 28 Wu8:=by
 refine ⟨(UF Tryz.func28),?_⟩;intro avs ns res h hn;unfold Wu8 at h;split at h
 ·cases h;exact Xd1 _
 ·cases h
def IZ:UV:=kF
theorem Qk4(a b:Int):VW VN 54 [.lst 1 2 (λk=>[i (if k=0 then a else b)])] (i (min a b)):=by
 refine U0 (L:=[]) (VJ.cons SN (VJ.nil _)) VY Tryz.func54 (US Tryz.f54) U2 (t:=leaf (RV.x (.int .i64 (min (if 0=0 then a else b) (if 1=0 then a else b))))) VS ?_
 simp [VL.sat,UZ,UC]
theorem PL:VO VN 54 IZ:=by
 refine ⟨(UF Tryz.func54),?_⟩;intro avs ns res h hn;unfold IZ kF at h;split at h
 ·rename_i f;split at h
  ·rename_i a b h0 h1;cases h;refine (Qk4 a b).same (.cons (.lst 1 2 _ _ ?_) .nil);intro k hk;rcases (show k=0\/k=1 by omega) with rfl|rfl
   ·exact h0
   ·exact h1
  ·cases h
 ·cases h
def kG:UV:=dU
theorem SU(a b:Int):VW VN 55 [.lst 1 2 (λk=>[i (if k=0 then a else b)])] (i (max a b)):=by
 refine U0 (L:=[]) (VJ.cons tI (VJ.nil _)) VY Tryz.func55 (US Tryz.f55) U2 (t:=leaf (RV.x (.int .i64 (max (if 0=0 then a else b) (if 1=0 then a else b))))) VS ?_
 simp [VL.sat,UZ,UC]
theorem DW:VO VN 55 kG:=by
 refine ⟨(UF Tryz.func55),?_⟩;intro avs ns res h hn;unfold kG dU at h;split at h
 ·rename_i f;split at h
  ·rename_i a b h0 h1;cases h;refine (SU a b).same (.cons (.lst 1 2 _ _ ?_) .nil);intro k hk;rcases (show k=0\/k=1 by omega) with rfl|rfl
   ·exact h0
   ·exact h1
  ·cases h
 ·cases h
def saB(f t q lo hi:Int):Bool:=bt 0 f 3&&bt 0 t 3&&(f != t)&&bt 1 q 1000&&bt 0 lo 100&&bt 0 hi 100&&decide (lo<=hi)
abbrev sls(n:Nat)(f t q lo hi:Nat->Int):AV:= .lst 5 n (λk=>[i (f k),i (t k),i (q k),i (lo k),i (hi k)])
def gD(d:Int)(n:Nat):Bool:=Xk6 (d / 2^n) 1==1
theorem Xb9{f t q lo hi:Int}:saB f t q lo hi=true↔(0<=f/\f<=3)/\(0<=t/\t<=3)/\f≠t/\(1<=q/\q<=1000)/\(0<=lo/\lo<=100)/\(0<=hi/\hi<=100)/\lo<=hi:=by
 simp [saB,bt_iff,and_assoc]
theorem bH{q:Nat}(h:q<2^40):IntKind.i64.wrap (q:Int)=q:=by
 have e:IntKind.i64.wrap (q:Int)=if (true&&decide ((q:Int)%2^64>=2^63))=true then (q:Int)%2^64-2^64 else (q:Int)%2^64:=rfl
 have e2:(q:Int)%2^64=q:=Int.emod_eq_of_lt VI VI;rw [e,e2,if_neg];rw [Bool.true_and,j8];omega
theorem pV{z:Nat}(hz:z<8192):(BitVec.ofInt 64 (z:Int)).toNat=z:=by
 rw [BitVec.toNat_ofInt];omega
theorem Xd7{x y:Nat}(hx:x<8192)(hy:y<8192):orI x y=((x ||| y:Nat):Int):=by
 unfold orI;rw [BitVec.toNat_or,pV hx,pV hy];have hlt:x ||| y<2^13:=Nat.or_lt_two_pow VI VI
 exact bH VI
theorem Wt6{x:Nat}(hx:x<8192):Xk6 x 1=((x%2:Nat):Int):=by
 unfold Xk6;rw [BitVec.toNat_and,pV hx,show (BitVec.ofInt 64 1).toNat=1 from rfl,Nat.and_one_is_mod];exact bH VI
theorem Zl2(d n:Nat):((d:Int) / 2^n)=((d / 2^n:Nat):Int):=by
 rw [Int.natCast_ediv,Int.natCast_pow];rfl
theorem gC{d n:Nat}(hd:d<8192):gD d n=d.testBit n:=by
 unfold gD;rw [Zl2,Wt6 (Nat.lt_of_le_of_lt (Nat.div_le_self _ _) hd),Nat.testBit_eq_decide_div_mod_eq,Bool.eq_iff_iff,beq_iff_eq,j8];omega
def sB:UV
 |[.x (.int .i64 d),.x (.int .i64 n)]=>some ([0<=n/\n<=64],bl (gD d n.toNat))
 |_=>none
theorem Xd0(d n:Int)(VR:0<=n/\n<=64):VW VN 81 [i d,i n] (bl (gD d n.toNat)):=by
 refine GU Tryz.func81 (t:=need [(0:Int)<=n/\n<=64] (leaf (RV.x (.bool (IntKind.wrap IntKind.i64 (↑(BitVec.toNat (BitVec.ofInt 64 (d / (2:Int)^Int.toNat n) &&& BitVec.ofInt 64 (1:Int))):Int)==1))))) VS ?_;exact YZ
theorem rV:VO VN 81 sB:=by
 refine ⟨(UF Tryz.func81),?_⟩;intro avs ns res h hn;unfold sB at h;split at h
 ·cases h;exact Xd0 _ _ (hn _ VU)
 ·cases h
def Qe6:UV
 |[.agg [.x (.int .i64 4),.x (.int .i64 10),.lst 5 n f],.agg [.x (.int .i64 a),.x (.int .i64 b),.x (.int .i64 c),.x (.int .i64 lo),.x (.int .i64 hi)]]=>some ([],bl (saB a b c lo hi))
 |_=>none
theorem Wb3(f:Nat->List AV)(n:Nat)(a b c lo hi:Int):VW VN 77 [.agg [i 4,i 10,.lst 5 n f],.agg [i a,i b,i c,i lo,i hi]] (bl (saB a b c lo hi)):=by
 refine U0 (L:=[]) (VJ.cons xZ (VJ.cons rW (VJ.nil _))) VY Tryz.func77 (US Tryz.f77) U2 (t:=need [VK ((4:Int)-1)] (branch (bt (0:Int) a ((4:Int)-1)) (need [VK ((4:Int)-1)] (branch (bt (0:Int) b ((4:Int)-1)) (branch (a != b) (branch (bt (1:Int) c (1000:Int)) (branch (bt (0:Int) lo (100:Int)) (branch (bt (0:Int) hi (100:Int)) (leaf (RV.x (.bool (decide (lo<=hi))))) (leaf (RV.x (WM)))) (leaf (RV.x (WM)))) (leaf (RV.x (WM)))) (leaf (RV.x (WM)))) (leaf (RV.x (WM))))) (leaf (RV.x (WM))))) VS ?_;simp only [VL.sat,UA,UZ,GI,UC,UG,VK,saB];refine ⟨VI,?_⟩;cases h1:bt 0 a 3<;>cases h2:bt 0 b 3<;>cases h3:(a != b)<;>cases h4:bt 1 c 1000<;>cases h5:bt 0 lo 100<;>cases h6:bt 0 hi 100<;>simp [h1,h2,h3,h4,h5,h6]
theorem Wb2:VO VN 77 Qe6:=by
 refine ⟨(UF Tryz.func77),?_⟩;intro avs ns res h hn;unfold Qe6 at h;split at h
 ·cases h;exact Wb3 _ _ _ _ _ _ _
 ·cases h
def Qe7:UV
 |[.agg [.x (.int .i64 a),.x (.int .i64 b),.x (.int .i64 c),.x (.int .i64 lo),.x (.int .i64 hi)],.ro [.fn (.func 77) [.agg [.x (.int .i64 4),.x (.int .i64 10),.lst 5 n f]] []]]=>some ([],bl (!saB a b c lo hi))
 |_=>none
theorem Wb7(f:Nat->List AV)(n:Nat)(a b c lo hi:Int):VW VN 107 [.agg [i a,i b,i c,i lo,i hi],.ro [.fn (.func 77) [.agg [i 4,i 10,.lst 5 n f]] []]] (bl (!saB a b c lo hi)):=by
 refine U0 (L:=[]) (VJ.cons Wb2 (VJ.nil _)) VY Tryz.func107 (US Tryz.f107) U2 (t:=leaf (RV.x (.bool !saB a b c lo hi))) VS ?_;exact YZ
theorem cP:VO VN 107 Qe7:=by
 refine ⟨(UF Tryz.func107),?_⟩;intro avs ns res h hn;unfold Qe7 at h;split at h
 ·cases h;exact Wb7 _ _ _ _ _ _ _
 ·cases h
def nsB(a b c lo hi:Nat->Int)(j:Nat):Bool:= !saB (a j) (b j) (c j) (lo j) (hi j)
def zT(n:Nat)(a b c lo hi:Nat->Int):Bool:=D4 (λj=>saB (a j) (b j) (c j) (lo j) (hi j)) n
abbrev Q0(n:Nat)(a:Nat->Int)(b:Nat->Int)(c:Nat->Int)(lo:Nat->Int)(hi:Nat->Int):AV:=lst 5 n λk=>[iI (a k),iI (b k),iI (c k),iI (lo k),iI (hi k)]
abbrev WH(n1:Nat)(f:Nat->List AV):AV:=AV.fn (Fn.func 107) [] [AV.ro [AV.fn (Fn.func 77) [agg [iI 4,iI 10,lst 5 n1 λa=>f a]] []]]
section
variable (n:Nat)(a b c lo hi:Nat->Int)(f:Nat->List AV)(n1:Nat)
def M9:St:={σ:=[Q0 n a b c lo hi,WH n1 f]++HG 5 [iI (n:Int)]++HG 11 [],m:=[],nx:=4}
noncomputable def Xa4:Code:=U8 (VQ (U6 Tryz.f139) 0)
def eS(k:Nat):St:=(upM [(8,i k)] (M9 n a b c lo hi f n1))
def wZ(k:Nat):G6->Option St
 | .ret=>some (upM [(4,i (GV ((nsB a b c lo hi)) n))] (M9 n a b c lo hi f n1))
 | .exit 0=>some (upM [] (M9 n a b c lo hi f n1))
 |_=>none
def Wu2:CT:= .branch (decide (GV ((nsB a b c lo hi)) n<n)) (.leaf (.ret,(wZ n a b c lo hi f n1 0 .ret).getD (M9 n a b c lo hi f n1))) (.leaf (.exit 0,(wZ n a b c lo hi f n1 0 (.exit 0)).getD (M9 n a b c lo hi f n1)))
def Qh7:UH:=(HF (eS n a b c lo hi f n1 (0)) (Wu2 n a b c lo hi f n1))
end
abbrev W2(n:Nat)(a:Nat->Int)(b:Nat->Int)(c:Nat->Int)(lo:Nat->Int)(hi:Nat->Int):Prop:=(Q0 n a b c lo hi)=Q0 n a b c lo hi
theorem VC{p:Prop}(h:p:=by
 refine ⟨by have:=Xg4 hk hb;omega,λE hE=>?_⟩
 cases hE;exact hQ.1 (by rw [Xg4 hk hb];exact hk)):p:=h
section
variable (n:Nat)(a b c lo hi:Nat->Int)(f:Nat->List AV)(n1:Nat)
theorem Xa7(VR:n<=100000):G7 VN (.loop Xa4) (Qh7 n a b c lo hi f n1):=by
 refine HE (L:=[]) (VJ.cons cP (VJ.nil _)) VY U2 (X:=Nat) (eS n a b c lo hi f n1) (λk=>k<=n/\ ∀j,j<k->(nsB a b c lo hi) j=false) (λk=>n-k) (wZ n a b c lo hi f n1) (x0:=0) ⟨VI,λj hj=>VI⟩ ?_ ?_ ?_
 ·rintro k;kernel_rfl
 ·rintro k y E h;unfold wZ at h;split at h
  ·cases h;kernel_rfl
  ·cases h;kernel_rfl
  ·cases h
 ·rintro Q hQ k hx;refine ⟨(k+1),?_⟩;(with_reducible refine DF (t:=branch (decide ((k:Int)<(n:Int))) (need [UI k n] (branch (!saB (a k) (b k) (c k) (lo k) (hi k)) (need [W2 n a b c lo hi,VX (WH n1 f),(k:Int)=(↑(GV (nsB a b c lo hi) n):Int),VX (n:Int)] (leaf G6.ret)) (need [VK ((k:Int)+1)] (need [W2 n a b c lo hi,VX (WH n1 f),VX (n:Int),(k:Int)+1=(↑(k+1):Int)] (leaf G6.normal))))) (need [W2 n a b c lo hi,VX (WH n1 f),VX (n:Int)] (leaf (G6.exit 0)))) VS ?_);simp only [Wu2,wZ,VL.sat,GS,H9] at hQ;simp only [VL.sat,UA,UG,H9,VK,wZ,F9];have Xg4:k<n->((nsB a b c lo hi)) k=true->GV ((nsB a b c lo hi)) n=k:=λh hb=>zJ h hb hx.2
  have PJ: ¬k<n->GV ((nsB a b c lo hi)) n=n:=λh=>BW (λj hj=>hx.2 j VI)
  have hgo:((nsB a b c lo hi)) k=false-> ∀j,j<k+1->((nsB a b c lo hi)) j=false:=by
   intro hb j hj;rcases (show j<k\/j=k by omega) with h1|rfl
   ·exact hx.2 j h1
   ·exact hb
  refine ⟨λh=>⟨VI,?_⟩,λh=>?_⟩
  rotate_left
  ·intro E hE;cases hE;exact hQ.2 (by rw [PJ VI];omega)
  have hk:k<n:=VI;refine ⟨λhb=>?_,λhb=>?_⟩
  ·exact VC
  ·exact ⟨VI,VI,⟨VI,hgo hb⟩,VI⟩
theorem Zf7(VR:n<=100000):VW VN 139 [sls n a b c lo hi,.fn (.func 107) [] [.ro [.fn (.func 77) [.agg [i 4,i 10,.lst 5 n1 f]] []]]] (i (if GV ((nsB a b c lo hi)) n<n then (GV ((nsB a b c lo hi)) n:Int) else -1)):=by
 refine U0 (L:=[Qh7 n a b c lo hi f n1]) (VJ.cons cP (VJ.nil _)) VY Tryz.func139 (US Tryz.f139) (G0 (lpE (b:= .loop Xa4) VS<|Xa7 n a b c lo hi f n1 VR)) (t:=need [W2 n a b c lo hi,VX (WH n1 f),VX (n:Int),(0:Int)=(↑(0:Nat):Int)] (branch (decide (GV (nsB a b c lo hi) n<n)) (leaf (RV.x (.int .i64 (↑(GV (nsB a b c lo hi) n):Int)))) (leaf (RV.x (KH))))) VS ?_
 exact VA
end
def Xs6:UV
 |[.lst 5 n f,.fn (.func 107) [] [.ro [.fn (.func 77) [.agg [.x (.int .i64 4),.x (.int .i64 10),.lst 5 n1 f1]] []]]]=>some ([UD 5 n f,n<=100000],i (if GV (nsB (col 0 f) (col 1 f) (col 2 f) (col 3 f) (col 4 f)) n<n then (GV (nsB (col 0 f) (col 1 f) (col 2 f) (col 3 f) (col 4 f)) n:Int) else -1))
 |_=>none
theorem Zf6:VO VN 139 Xs6:=by
 refine ⟨(UF Tryz.func139),?_⟩;intro avs ns res h hn;unfold Xs6 at h;split at h
 ·cases h;have hr:_:=hn _ (GD);have hr1:_:=hn _ (HN _ (GD));exact (Zf7 _ (col 0 _) (col 1 _) (col 2 _) (col 3 _) (col 4 _) _ _ hr1).same (.cons (.lst 5 _ _ _ hr) (.cons (.refl _) .nil))
 ·cases h
theorem Zf9(n:Nat)(a b c lo hi:Nat->Int)(f:Nat->List AV)(n1:Nat)(VR:n<=100000):VW VN 106 [sls n a b c lo hi,.fn (.func 107) [] [.ro [.fn (.func 77) [.agg [i 4,i 10,.lst 5 n1 f]] []]]] (bl (!zT n a b c lo hi)):=by
 refine U0 (L:=[]) (VJ.cons Zf6 (VJ.nil _)) VY Tryz.func106 (US Tryz.f106) U2 (t:=need [UD 5 n λk=>[i (a k),i (b k),i (c k),i (lo k),i (hi k)],n<=100000] (leaf (RV.x (.bool (decide ((if GV (nsB a b c lo hi) n<n then (↑(GV (nsB a b c lo hi) n):Int) else (-1:Int))>=(0:Int))))))) VS ?_
 simp only [VL.sat,UA,UZ,UC,UG];refine ⟨⟨λ_ _=>rfl,VR⟩,?_⟩
 unfold zT;rw [kD];have:=F0 (nsB a b c lo hi) n;have e:(λk=> !(λk=>saB (a k) (b k) (c k) (lo k) (hi k)) k)=nsB a b c lo hi:=rfl
 rw [e];show decide ((if GV (nsB a b c lo hi) n<n then (GV (nsB a b c lo hi) n:Int) else -1)>=0)=_
 split<;>simp<;>omega
def Xs7:UV
 |[.lst 5 n f,.fn (.func 107) [] [.ro [.fn (.func 77) [.agg [.x (.int .i64 4),.x (.int .i64 10),.lst 5 n1 f1]] []]]]=>some ([UD 5 n f,n<=100000],bl (!zT n (col 0 f) (col 1 f) (col 2 f) (col 3 f) (col 4 f)))
 |_=>none
theorem Zf8:VO VN 106 Xs7:=by
 refine ⟨(UF Tryz.func106),?_⟩;intro avs ns res h hn;unfold Xs7 at h;split at h
 ·cases h;have hr:_:=hn _ (GD);have hr1:_:=hn _ (HN _ (GD));exact (Zf9 _ (col 0 _) (col 1 _) (col 2 _) (col 3 _) (col 4 _) _ _ hr1).same (.cons (.lst 5 _ _ _ hr) (.cons (.refl _) .nil))
 ·cases h
theorem Xd3(n:Nat)(a b c lo hi:Nat->Int)(f:Nat->List AV)(n1:Nat)(VR:n<=100000):VW VN 78 [sls n a b c lo hi,.fn (.func 77) [.agg [i 4,i 10,.lst 5 n1 f]] []] (bl (zT n a b c lo hi)):=by
 refine U0 (L:=[]) (VJ.cons Zf8 (VJ.nil _)) VY Tryz.func78 (US Tryz.f78) U2 (t:=need [UD 5 n λk=>[i (a k),i (b k),i (c k),i (lo k),i (hi k)],n<=100000] (leaf (RV.x (.bool !!zT n a b c lo hi)))) VS ?_
 simp only [VL.sat,UA,UZ,UC,UG];refine ⟨⟨λ_ _=>rfl,VR⟩,?_⟩
 show (!!zT n a b c lo hi)=_;simp
def Wu9:UV
 |[.lst 5 n f,.fn (.func 77) [.agg [.x (.int .i64 4),.x (.int .i64 10),.lst 5 n1 f1]] []]=>some ([UD 5 n f,n<=100000],bl (zT n (col 0 f) (col 1 f) (col 2 f) (col 3 f) (col 4 f)))
 |_=>none
theorem Xd2:VO VN 78 Wu9:=by
 refine ⟨(UF Tryz.func78),?_⟩;intro avs ns res h hn;unfold Wu9 at h;split at h
 ·cases h;have hr:_:=hn _ (GD);have hr1:_:=hn _ (HN _ (GD));exact (Xd3 _ (col 0 _) (col 1 _) (col 2 _) (col 3 _) (col 4 _) _ _ hr1).same (.cons (.lst 5 _ _ _ hr) (.cons (.refl _) .nil))
 ·cases h
theorem NH(n:Nat)(a b c lo hi:Nat->Int)(VR:n<=8):VW VN 48 [.agg [i 4,i 10,sls n a b c lo hi]] (i (if zT n a b c lo hi then 0 else 1)):=by
 refine U0 (L:=[]) (VJ.cons Xd2 (VJ.cons xZ (VJ.nil _))) VY Tryz.func48 (US Tryz.f48) U2 (t:=branch (decide ((n:Int)>8)) (leaf (RV.x (KJ))) (branch (!bt (1:Int) (4:Int) (6:Int)) (leaf (RV.x (JU))) (branch (!bt (0:Int) (10:Int) (1000:Int)) (leaf (RV.x (JU))) (need [UD 5 n λk=>[i (a k),i (b k),i (c k),i (lo k),i (hi k)],n<=100000] (branch (!zT n a b c lo hi) (leaf (RV.x (JU))) (leaf (RV.x (X0)))))))) VS ?_
 simp only [VL.sat,UA,UZ,UC,UG];have h1:(!bt 1 4 6)=false:=by decide
 have h2:(!bt 0 10 1000)=false:=by decide
 rw [h1,h2];refine ⟨λh=>absurd h (by simp;omega),λ_=>⟨λh=>(Bool.noConfusion h),λ_=>⟨λh=>(Bool.noConfusion h),λ_=>⟨⟨λ_ _=>rfl,VI⟩,λh=>?_,λh=>?_⟩⟩⟩⟩
 ·rw [Bool.not_eq_true'] at h;rw [h];rfl
 ·rw [Bool.not_eq_false'] at h;rw [h];rfl
def sg0(k:Nat):Int:=if k=0 then 10 else 0
def sld(F:Nat->Int)(a b c:Int)(k:Nat):Int:=if (k:Int)=b then (if (k:Int)=a then F k-c else F k)+c else if (k:Int)=a then F k-c else F k
abbrev sgs(F:Nat->Int):AV:= .agg [i (F 0),i (F 1),i (F 2),i (F 3),i (F 4),i (F 5)]
def lR:UV
 |[.agg [.x (.int .i64 4),.x (.int .i64 10),.lst 5 n f]]=>some ([],.agg [i 10,i 0,i 0,i 0,i 0,i 0])
 |_=>none
abbrev Q3:List Int:=[(0:Int),0,0,0,0,0]
theorem Qk6(f:Nat->List AV)(n:Nat):VW VN 80 [.agg [i 4,i 10,.lst 5 n f]] (.agg [i 10,i 0,i 0,i 0,i 0,i 0]):=by
 refine GU Tryz.func80 (t:=let z0:=(UO 4 (UO 0 (10:Int) (BE Q3) 4) (UO 3 (UO 0 (10:Int) (BE Q3) 3) (UO 2 (UO 0 (10:Int) (BE Q3) 2) (UO 1 (UO 0 (10:Int) (BE Q3) 1) (UO 0 (UO 0 (10:Int) (BE Q3) 0) (j5 0 [(10:Int)] (BE Q3)))))));let z1:=(UO 0 (10:Int) (BE Q3) 5);(need [UI 0 6] (need [1<=6] (need [6<=6] (need [6<=6] (leaf (RV.agg [RV.x (.int .i64 (UO 5 z1 z0 0)),RV.x (.int .i64 (UO 5 z1 z0 1)),RV.x (.int .i64 (UO 5 z1 z0 2)),RV.x (.int .i64 (UO 5 z1 z0 3)),RV.x (.int .i64 (UO 5 z1 z0 4)),RV.x (.int .i64 (UO 5 z1 z0 5))]))))))) VS ?_;exact YZ
theorem NF:VO VN 80 lR:=by
 refine ⟨(UF Tryz.func80),?_⟩;intro avs ns res h hn;unfold lR at h;split at h
 ·cases h;exact Qk6 _ _
 ·cases h
theorem Wb1(F:Nat->Int)(a b c lo hi:Int)(VR: ∀k,k<6-> -1000000<=F k/\F k<=1000000)(UE:0<=a/\a<=3)(HP:0<=b/\b<=3)(DZ:a≠b)(BM:1<=c/\c<=1000):VW VN 82 [sgs F,.agg [i a,i b,i c,i lo,i hi]] (sgs (sld F a b c)):=by
 refine GU Tryz.func82 (t:=let z1:=(j5 (Int.toNat a*1+0) [U7 [F 0,F 1,F 2,F 3,F 4,F 5] (Int.toNat a*1+0)-c] (U7 [F 0,F 1,F 2,F 3,F 4,F 5]));let z0:=(UO 4 (UO (Int.toNat b*1+0) (UO (Int.toNat a*1+0) (U7 [F 0,F 1,F 2,F 3,F 4,F 5] (Int.toNat a*1+0)-c) (U7 [F 0,F 1,F 2,F 3,F 4,F 5]) (Int.toNat b*1+0)+c) z1 4) (UO 3 (UO (Int.toNat b*1+0) (UO (Int.toNat a*1+0) (U7 [F 0,F 1,F 2,F 3,F 4,F 5] (Int.toNat a*1+0)-c) (U7 [F 0,F 1,F 2,F 3,F 4,F 5]) (Int.toNat b*1+0)+c) z1 3) (UO 2 (UO (Int.toNat b*1+0) (UO (Int.toNat a*1+0) (U7 [F 0,F 1,F 2,F 3,F 4,F 5] (Int.toNat a*1+0)-c) (U7 [F 0,F 1,F 2,F 3,F 4,F 5]) (Int.toNat b*1+0)+c) z1 2) (UO 1 (UO (Int.toNat b*1+0) (UO (Int.toNat a*1+0) (U7 [F 0,F 1,F 2,F 3,F 4,F 5] (Int.toNat a*1+0)-c) (U7 [F 0,F 1,F 2,F 3,F 4,F 5]) (Int.toNat b*1+0)+c) z1 1) (UO 0 (UO (Int.toNat b*1+0) (UO (Int.toNat a*1+0) (U7 [F 0,F 1,F 2,F 3,F 4,F 5] (Int.toNat a*1+0)-c) (U7 [F 0,F 1,F 2,F 3,F 4,F 5]) (Int.toNat b*1+0)+c) z1 0) (BE Q3))))));let z2:=(UO (Int.toNat b*1+0) (UO (Int.toNat a*1+0) (U7 [F 0,F 1,F 2,F 3,F 4,F 5] (Int.toNat a*1+0)-c) (U7 [F 0,F 1,F 2,F 3,F 4,F 5]) (Int.toNat b*1+0)+c) z1 5);(need [UI a 6] (need [Int.toNat a*1+0<List.length [F 0,F 1,F 2,F 3,F 4,F 5]] (need [VK (U7 [F 0,F 1,F 2,F 3,F 4,F 5] (Int.toNat a*1+0)-c)] (need [UI a 6] (need [Int.toNat a*1+0+List.length [U7 [F 0,F 1,F 2,F 3,F 4,F 5] (Int.toNat a*1+0)-c]<=List.length [F 0,F 1,F 2,F 3,F 4,F 5]] (need [UI b 6] (need [Int.toNat b*1+0<List.length [F 0,F 1,F 2,F 3,F 4,F 5]] (need [VK (UO (Int.toNat a*1+0) (U7 [F 0,F 1,F 2,F 3,F 4,F 5] (Int.toNat a*1+0)-c) (U7 [F 0,F 1,F 2,F 3,F 4,F 5]) (Int.toNat b*1+0)+c)] (need [UI b 6] (need [Int.toNat b*1+0+List.length [UO (Int.toNat a*1+0) (U7 [F 0,F 1,F 2,F 3,F 4,F 5] (Int.toNat a*1+0)-c) (U7 [F 0,F 1,F 2,F 3,F 4,F 5]) (Int.toNat b*1+0)+c]<=List.length [F 0,F 1,F 2,F 3,F 4,F 5]] (need [6<=List.length [F 0,F 1,F 2,F 3,F 4,F 5]] (need [0+List.length [UO (Int.toNat b*1+0) (UO (Int.toNat a*1+0) (U7 [F 0,F 1,F 2,F 3,F 4,F 5] (Int.toNat a*1+0)-c) (U7 [F 0,F 1,F 2,F 3,F 4,F 5]) (Int.toNat b*1+0)+c) z1 0,UO (Int.toNat b*1+0) (UO (Int.toNat a*1+0) (U7 [F 0,F 1,F 2,F 3,F 4,F 5] (Int.toNat a*1+0)-c) (U7 [F 0,F 1,F 2,F 3,F 4,F 5]) (Int.toNat b*1+0)+c) z1 1,UO (Int.toNat b*1+0) (UO (Int.toNat a*1+0) (U7 [F 0,F 1,F 2,F 3,F 4,F 5] (Int.toNat a*1+0)-c) (U7 [F 0,F 1,F 2,F 3,F 4,F 5]) (Int.toNat b*1+0)+c) z1 2,UO (Int.toNat b*1+0) (UO (Int.toNat a*1+0) (U7 [F 0,F 1,F 2,F 3,F 4,F 5] (Int.toNat a*1+0)-c) (U7 [F 0,F 1,F 2,F 3,F 4,F 5]) (Int.toNat b*1+0)+c) z1 3,UO (Int.toNat b*1+0) (UO (Int.toNat a*1+0) (U7 [F 0,F 1,F 2,F 3,F 4,F 5] (Int.toNat a*1+0)-c) (U7 [F 0,F 1,F 2,F 3,F 4,F 5]) (Int.toNat b*1+0)+c) z1 4,UO (Int.toNat b*1+0) (UO (Int.toNat a*1+0) (U7 [F 0,F 1,F 2,F 3,F 4,F 5] (Int.toNat a*1+0)-c) (U7 [F 0,F 1,F 2,F 3,F 4,F 5]) (Int.toNat b*1+0)+c) z1 5]<=6] (leaf (RV.agg [RV.x (.int .i64 (UO 5 z2 z0 0)),RV.x (.int .i64 (UO 5 z2 z0 1)),RV.x (.int .i64 (UO 5 z2 z0 2)),RV.x (.int .i64 (UO 5 z2 z0 3)),RV.x (.int .i64 (UO 5 z2 z0 4)),RV.x (.int .i64 (UO 5 z2 z0 5))]))))))))))))))) VS ?_;simp only [VL.sat,UA,UZ,GI,UC,UG,VK];obtain ⟨A,rfl⟩: ∃A:Nat,a=A:=⟨a.toNat,VI⟩;obtain ⟨B,rfl⟩: ∃B:Nat,b=B:=⟨b.toNat,VI⟩;have h0:=VR 0 VI;have h1:=VR 1 VI;have h2:=VR 2 VI;have h3:=VR 3 VI
 have h4:=VR 4 VI;have h5:=VR 5 VI;rcases (show A=0\/A=1\/A=2\/A=3 by omega) with rfl|rfl|rfl|rfl<;>rcases (show B=0\/B=1\/B=2\/B=3 by omega) with rfl|rfl|rfl|rfl<;>first|(exfalso;omega)|(simp [GL,UO,U7,sld];omega)
def Qe5:UV
 |[.agg [.x (.int .i64 s0),.x (.int .i64 s1),.x (.int .i64 s2),.x (.int .i64 s3),.x (.int .i64 s4),.x (.int .i64 s5)],.agg [.x (.int .i64 a),.x (.int .i64 b),.x (.int .i64 c),.x (.int .i64 lo),.x (.int .i64 hi)]]=>some ([-1000000<=s0/\s0<=1000000,-1000000<=s1/\s1<=1000000,-1000000<=s2/\s2<=1000000,-1000000<=s3/\s3<=1000000,-1000000<=s4/\s4<=1000000,-1000000<=s5/\s5<=1000000,0<=a/\a<=3,0<=b/\b<=3,a≠b,1<=c/\c<=1000],sgs (sld (U7 [s0,s1,s2,s3,s4,s5]) a b c))
 |_=>none
def sV(n:Nat)(a b c lo hi:Nat->Int):Prop:=n<=8/\ ∀k,k<n->saB (a k) (b k) (c k) (lo k) (hi k)=true
def stF(a b c:Nat->Int)(d:Int):Nat->Nat->Int
 | 0=>sg0
 |k+1=>if gD d k then sld (stF a b c d k) (a k) (b k) (c k) else stF a b c d k
theorem cM:VO VN 82 Qe5:=by
 refine ⟨(UF Tryz.func82),?_⟩;intro avs ns res h hn;unfold Qe5 at h;split at h
 ·cases h;rename_i s0 s1 s2 s3 s4 s5 a b c lo hi;refine Wb1 (U7 [s0,s1,s2,s3,s4,s5]) a b c lo hi ?_ (hn _ VU) (hn _ VU) (hn _ VU) (hn _ VU);intro k hk
  match k,hk with
  | 0,_=>exact hn (-1000000<=s0/\s0<=1000000) VU
  | 1,_=>exact hn (-1000000<=s1/\s1<=1000000) VU
  | 2,_=>exact hn (-1000000<=s2/\s2<=1000000) VU
  | 3,_=>exact hn (-1000000<=s3/\s3<=1000000) VU
  | 4,_=>exact hn (-1000000<=s4/\s4<=1000000) VU
  | 5,_=>exact hn (-1000000<=s5/\s5<=1000000) VU
 ·cases h
theorem upd6(F:Nat->Int)(a b c:Int)(q:Nat)(hq:q<6):
  UO 5 (sld (U7 [F 0,F 1,F 2,F 3,F 4,F 5]) a b c 5) (UO 4 (sld (U7 [F 0,F 1,F 2,F 3,F 4,F 5]) a b c 4) (UO 3 (sld (U7 [F 0,F 1,F 2,F 3,F 4,F 5]) a b c 3)
   (UO 2 (sld (U7 [F 0,F 1,F 2,F 3,F 4,F 5]) a b c 2) (UO 1 (sld (U7 [F 0,F 1,F 2,F 3,F 4,F 5]) a b c 1) (UO 0 (sld (U7 [F 0,F 1,F 2,F 3,F 4,F 5]) a b c 0) F))))) q=sld F a b c q:=by
 match q,hq with
 | 0,_=>rfl
 | 1,_=>rfl
 | 2,_=>rfl
 | 3,_=>rfl
 | 4,_=>rfl
 | 5,_=>rfl
theorem Xp1(F:Nat->Int)(x0 x1 x2 x3 x4 x5:Int)(q:Nat)(hq:q<6):
  UO 5 x5 (UO 4 x4 (UO 3 x3 (UO 2 x2 (UO 1 x1 (UO 0 x0 F))))) q=U7 [x0,x1,x2,x3,x4,x5] q:=by
 match q,hq with
 | 0,_=>rfl
 | 1,_=>rfl
 | 2,_=>rfl
 | 3,_=>rfl
 | 4,_=>rfl
 | 5,_=>rfl
theorem AU{n:Nat}{a b c lo hi:Nat->Int}(h:sV n a b c lo hi){k:Nat}(hk:k<n):(0<=a k/\a k<=3)/\(0<=b k/\b k<=3)/\a k≠b k/\(1<=c k/\c k<=1000)/\(0<=lo k/\lo k<=100)/\(0<=hi k/\hi k<=100)/\lo k<=hi k:=Xb9.1 (h.2 k hk)
theorem Qy5{n:Nat}{a b c lo hi:Nat->Int}(h:sV n a b c lo hi)(d:Int): ∀k,k<=n-> ∀j,-(1000*k:Int)<=stF a b c d k j/\stF a b c d k j<=10+1000*k
 | 0,_,j=>by
  simp only [stF,sg0];split<;>omega
 |k+1,hk,j=>by
  obtain ⟨_,_,h3,h4,_⟩:=AU h (show k<n by omega)
  have ih:=Qy5 h d k VI j;simp only [stF];split
  ·unfold sld
   repeat' split
   all_goals omega
  ·omega
theorem Zb5{n:Nat}{a b c lo hi:Nat->Int}(h:sV n a b c lo hi)(d:Int){k:Nat}(hk:k<=n)(j:Nat): -1000000<=stF a b c d k j/\stF a b c d k j<=1000000:=by
 have:=Qy5 h d k hk j;have:=h.1;omega
abbrev QQ(n:Nat)(a:Nat->Int)(b:Nat->Int)(c:Nat->Int)(lo:Nat->Int)(hi:Nat->Int)(ea:AV)(la:AV):AV:=AV.ro [iI 4,iI 10,Q0 n a b c lo hi,ea,la]
section
variable (ea la:AV)(n:Nat)(a b c lo hi:Nat->Int)(d:Int)
def Zo4:St:={σ:=[QQ n a b c lo hi ea la,iI d,top,top,ptr 0 0,ptr 6 0]++HG 11 [Q0 n a b c lo hi,iI (n:Int)]++HG 13 [],m:=[(6,GM.ints 137 [] 6 λa=>UO 5 (0:Int) (UO 4 (0:Int) (UO 3 (0:Int) (UO 2 (0:Int) (UO 1 (0:Int) (UO 0 (10:Int) (BE Q3)))))) a),(0,GM.ints 137 [] 6 λa=>(0:Int))],nx:=15}
noncomputable def Jn3:Code:=U8 (VQ (U6 Tryz.f53) 0)
def Wg1(k:Nat):St:={σ:=H3 [(6,.top),(7,.top),(19,i k)] (Zo4 ea la n a b c lo hi d).σ,m:=[(6,.ints 137 [] 6 (stF a b c d (k))),(0,.ints 137 [] 6 (λ_=>0))],nx:=15}
def CB(k:Nat):G6->Option St
 | .exit 0=>some {σ:=H3 [(6,.top),(7,.top),(19,i n)] (Zo4 ea la n a b c lo hi d).σ,m:=[(6,.ints 137 [] 6 (stF a b c d (n))),(0,.ints 137 [] 6 (λ_=>0))],nx:=15}
 |_=>none
def Ji4:CT:= .leaf (.exit 0,(CB ea la n a b c lo hi d 0 (.exit 0)).getD (Zo4 ea la n a b c lo hi d))
def Xt7:UH:=(HF (Wg1 ea la n a b c lo hi d (0)) (Ji4 ea la n a b c lo hi d))
end
abbrev ZN(n:Nat)(a:Nat->Int)(b:Nat->Int)(c:Nat->Int)(lo:Nat->Int)(hi:Nat->Int)(ea:AV)(la:AV):Prop:=QQ n a b c lo hi ea la=QQ n a b c lo hi ea la
section
variable (ea la:AV)(n:Nat)(a b c lo hi:Nat->Int)(d:Int)
theorem Zw1(VR:sV n a b c lo hi)(UE:0<=d/\d<256):G7 VN (.loop Jn3) (Xt7 ea la n a b c lo hi d):=by
 refine HE (L:=[]) (VJ.cons rV (VJ.cons cM (VJ.cons NF (VJ.nil _)))) VY U2 (X:=Nat) (Wg1 ea la n a b c lo hi d) (λk=>k<=n) (λk=>n-k) (CB ea la n a b c lo hi d) (x0:=0) VI ?_ ?_ ?_
 ·rintro k;kernel_rfl
 ·rintro k y E h;unfold CB at h;split at h
  ·cases h;kernel_rfl
  ·cases h
 ·rintro Q hQ k hx;refine ⟨(k+1),?_⟩;(with_reducible refine DF (t:=let z1:=stF a b c d k;let z0:=(U7 [z1 0,z1 1,z1 2,z1 3,z1 4,z1 5]);(branch (decide ((k:Int)<(n:Int))) (need [UI k n] (need [(0:Int)<=(k:Int)/\(k:Int)<=64] (branch (gD d k) (need [6<=6] (need [(-1000000:Int)<=z1 0/\z1 0<=1000000,(-1000000:Int)<=z1 1/\z1 1<=1000000,(-1000000:Int)<=z1 2/\z1 2<=1000000,(-1000000:Int)<=z1 3/\z1 3<=1000000,(-1000000:Int)<=z1 4/\z1 4<=1000000,(-1000000:Int)<=z1 5/\z1 5<=1000000,(0:Int)<=a k/\a k<=3,(0:Int)<=b k/\b k<=3,a k≠b k,(1:Int)<=c k/\c k<=1000] (need [0+List.length [sld z0 (a k) (b k) (c k) 0,sld z0 (a k) (b k) (c k) 1,sld z0 (a k) (b k) (c k) 2,sld z0 (a k) (b k) (c k) 3,sld z0 (a k) (b k) (c k) 4,sld z0 (a k) (b k) (c k) 5]<=6] (need [VK ((k:Int)+1)] (need [ZN n a b c lo hi ea la,d=d,QO,YO,W2 n a b c lo hi,VX (n:Int),(k:Int)+1=(↑(k+1):Int),6=6,GT 6 (UO 5 (sld z0 (a k) (b k) (c k) 5) (UO 4 (sld z0 (a k) (b k) (c k) 4) (UO 3 (sld z0 (a k) (b k) (c k) 3) (UO 2 (sld z0 (a k) (b k) (c k) 2) (UO 1 (sld z0 (a k) (b k) (c k) 1) (UO 0 (sld z0 (a k) (b k) (c k) 0) (z1))))))) (stF a b c d (k+1)),6=6,∀(k:Nat),k<6->(0:Int)=0] (leaf G6.normal)))))) (need [VK ((k:Int)+1)] (need [ZN n a b c lo hi ea la,d=d,QO,YO,W2 n a b c lo hi,VX (n:Int),(k:Int)+1=(↑(k+1):Int),6=6,GT 6 z1 (stF a b c d (k+1)),6=6,∀(k:Nat),k<6->(0:Int)=0] (leaf G6.normal)))))) (need [ZN n a b c lo hi ea la,d=d,QO,YO,W2 n a b c lo hi,VX (n:Int),(k:Int)=(n:Int),6=6,GT 6 z1 (stF a b c d n),6=6,∀(k:Nat),k<6->(0:Int)=0] (leaf (G6.exit 0))))) VS ?_);simp only [Ji4,CB,VL.sat,GS] at hQ;simp only [VL.sat,UA,UZ,GI,UC,VK,UG,H9,R0,RF,L1,GL,CB]
  have h8:=VR.1;refine ⟨λh=>?_,λh=>?_⟩
  ·have hs:=AU VR (show k<n by omega)
   have hl:=Zb5 VR d (show k<=n by omega)
   cases hb:gD d k
   ·(with_reducible repeat' first|apply And.intro|intro _)
    all_goals first|exact P7|(first|contradiction|(simp [stF,hb]))
   ·(with_reducible repeat' first|apply And.intro|intro _)
    all_goals first|exact P7|(first|contradiction|exact (hl _).1|exact (hl _).2|(simp only [stF,hb,if_true];exact upd6 _ _ _ _ _ (by assumption)))
  ·obtain rfl:k=n:=VI;exact YY
theorem nO(VR:sV n a b c lo hi)(UE:0<=d/\d<256):VW VN 53 [.ro [i 4,i 10,sls n a b c lo hi,ea,la],i d] (sgs (stF a b c d n)):=by
 refine U0 (L:=[Xt7 ea la n a b c lo hi d]) (VJ.cons rV (VJ.cons cM (VJ.cons NF (VJ.nil _)))) VY Tryz.func53 (US Tryz.f53) (G0 (lpE (b:= .loop Jn3) VS<|Zw1 ea la n a b c lo hi d VR UE)) (t:=let z1:=stF a b c d n;let z0:=(UO 4 (z1 4) (UO 3 (z1 3) (UO 2 (z1 2) (UO 1 (z1 1) (UO 0 (z1 0) λx=>(0:Int))))));(need [6<=6] (need [ZN n a b c lo hi ea la,d=d,QO,YO,W2 n a b c lo hi,VX (n:Int),(0:Int)=(↑(0:Nat):Int),6=6,GT 6 (UO 5 (0:Int) (UO 4 (0:Int) (UO 3 (0:Int) (UO 2 (0:Int) (UO 1 (0:Int) (UO 0 (10:Int) (BE Q3))))))) (stF a b c d 0),6=6,∀(k:Nat),k<6->(0:Int)=0] (need [6<=6] (need [0+List.length [z1 0,z1 1,z1 2,z1 3,z1 4,z1 5]<=6] (leaf (RV.agg [RV.x (.int .i64 (UO 5 (z1 5) z0 0)),RV.x (.int .i64 (UO 5 (z1 5) z0 1)),RV.x (.int .i64 (UO 5 (z1 5) z0 2)),RV.x (.int .i64 (UO 5 (z1 5) z0 3)),RV.x (.int .i64 (UO 5 (z1 5) z0 4)),RV.x (.int .i64 (UO 5 (z1 5) z0 5))]))))))) VS ?_
 simp only [VL.sat,UA,UZ,GI,UC,UG]
 (with_reducible repeat' first|apply And.intro|intro _)
 all_goals first|exact True.intro|omega|with_reducible rfl|rfl|(simp;done)|skip
 rename_i q hq;rw [Xp1 _ _ _ _ _ _ _ q hq]
 match q,hq with
 | 0,_=>rfl
 | 1,_=>rfl
 | 2,_=>rfl
 | 3,_=>rfl
 | 4,_=>rfl
 | 5,_=>rfl
end
section
variable (n:Nat)(a b c lo hi:Nat->Int)
def dY:UV
 |[.ro [.x (.int .i64 4),.x (.int .i64 10),.lst 5 n1 f1,ea,la],.x (.int .i64 d)]=>some ([lst 5 n1 f1=sls n a b c lo hi,0<=d/\d<256],sgs (stF a b c d n))
 |_=>none
theorem qT(VR:sV n a b c lo hi):VO VN 53 (dY n a b c lo hi):=by
 refine ⟨(UF Tryz.func53),?_⟩;intro avs ns res h hn;unfold dY at h;split at h
 ·cases h;rename_i n1 f1 ea la d;have e:=hn _ GD;rw [e];exact nO ea la n a b c lo hi d VR (hn _ VU)
 ·cases h
end
theorem uG{n:Nat}(h:n<=8):(1:Int)<=2^n/\(2:Int)^n<=256:=by
 rcases (show n=0\/n=1\/n=2\/n=3\/n=4\/n=5\/n=6\/n=7\/n=8 by omega) with rfl|rfl|rfl|rfl|rfl|rfl|rfl|rfl|rfl<;>decide
def IY:UV
 |[.ro [.x (.int .i64 4),.x (.int .i64 10),.lst 5 n f,ea,la]]=>some ([n<=8],i (2^n-1))
 |_=>none
theorem Qk2(ea la:AV)(n:Nat)(f:Nat->List AV)(VR:n<=8):VW VN 51 [.ro [i 4,i 10,.lst 5 n f,ea,la]] (i (2^n-1)):=by
 refine GU Tryz.func51 (t:=need [(0:Int)<=(n:Int)/\(n:Int)<=64,VK ((1:Int)*2^n)] (need [VK ((1:Int)*2^n-1)] (leaf (RV.x (.int .i64 ((1:Int)*2^n-1)))))) VS ?_;simp only [VL.sat,UA,UZ,GI,UC,UG,Int.one_mul,VK];have h:=uG VR;omega
theorem L9:VO VN 51 IY:=by
 refine ⟨(UF Tryz.func51),?_⟩;intro avs ns res h hn;unfold IY at h;split at h
 ·cases h;exact Qk2 _ _ _ _ (hn _ VU)
 ·cases h
def G5(p:Nat->Bool):Nat->Nat
 | 0=>0
 |k+1=>G5 p k+(match p k with|true=>1|false=>0)
def UQ(p:Nat->Bool)(n q:Nat):Nat:=GV (λj=>p j&&Nat.beq (G5 p j) q) n
def st6(F:Nat->Int):Nat->Int:=UO 5 (F 5) (UO 4 (F 4) (UO 3 (F 3) (UO 2 (F 2) (UO 1 (F 1) (UO 0 (F 0) (BE [0,0,0,0,0,0]))))))
def DR(n:Nat)(a b c:Nat->Int)(d:Int)(j:Nat):Bool:= !gD d j&&decide (stF a b c d n (a j).toNat>=c j)
def saV(a b c lo hi:Nat->Int)(j:Nat):List Value:=[.int .i64 j,.agg #[.int .i64 (a j),.int .i64 (b j),.int .i64 (c j),.int .i64 (lo j),.int .i64 (hi j)]]
def quV(n:Nat)(a b c lo hi:Nat->Int)(d:Int)(q:Nat):List Value:=saV a b c lo hi (UQ (DR n a b c d) n q)
def quN(n:Nat)(a b c:Nat->Int)(d:Int):Nat:=G5 (DR n a b c d) n
theorem Zb6(F:Nat->Int){q:Nat}(hq:q<6):st6 F q=F q:=by
 unfold st6;rw [Xp1 _ _ _ _ _ _ _ q hq]
 match q,hq with
 | 0,_=>rfl
 | 1,_=>rfl
 | 2,_=>rfl
 | 3,_=>rfl
 | 4,_=>rfl
 | 5,_=>rfl
theorem OJ(p:Nat->Bool){b c:Nat}(h:b<=c):G5 p b<=G5 p c:=by
 induction h with
 |refl=>exact Nat.le_refl _
 |step _ ih=>exact Nat.le_trans ih (Nat.le_add_right _ _)
section
variable {p:Nat->Bool}
theorem F8{k:Nat}(h:p k=true):G5 p (k+1)=G5 p k+1:=by
 simp only [G5,h]
theorem RE{k:Nat}(h:p k=false):G5 p (k+1)=G5 p k:=by
 simp only [G5,h,Nat.add_zero]
theorem BK{n k:Nat}(hk:k<n)(h:p k=true):UQ p n (G5 p k)=k:=by
 refine zJ hk ?_ λj hj=>?_
 ·simp [h]
 ·cases hp:p j
  ·rfl
  ·have h1:=F8 hp;have h2:=OJ p (show j+1<=k by omega)
   simp only [Bool.true_and];cases hb:Nat.beq (G5 p j) (G5 p k)
   ·rfl
   ·have:=GW hb;omega
end
theorem A5(p:Nat->Bool): ∀k,G5 p k<=k
 | 0=>Nat.le_refl 0
 |k+1=>by
  have:=A5 p k;unfold G5;split<;>omega
theorem lB{p:Nat->Bool}: ∀{k q:Nat},q<G5 p k-> ∃j,j<k/\p j=true/\G5 p j=q
 | 0,q,h=>absurd h (by simp [G5])
 |k+1,q,h=>by
  rcases Nat.lt_or_ge q (G5 p k) with h1|h1
  ·obtain ⟨j,hj,h2⟩:=lB h1;exact ⟨j,VI,h2⟩
  ·cases hp:p k
   ·rw [RE hp] at h;omega
   ·rw [F8 hp] at h;exact ⟨k,VI,hp,VI⟩
theorem xW{p:Nat->Bool}{n q:Nat}(h:q<G5 p n):UQ p n q<n/\p (UQ p n q)=true:=by
 obtain ⟨j,hj,hp,hc⟩:=lB h;rw [←hc,BK hj hp];exact ⟨hj,hp⟩
def A6:UV
 |[.ro [.x (.int .i64 4),.x (.int .i64 10),.lst 5 n f,ea,la],.x (.int .i64 d)]=>some ([],.fn (.func 108) [] [.ro [.ro [i 4,i 10,.lst 5 n f,ea,la]],.ro [i d]])
 |_=>none
theorem Wb4(ea la:AV)(n:Nat)(f:Nat->List AV)(d:Int):FB VN 79 [.ro [i 4,i 10,.lst 5 n f,ea,la],i d] (.fn (.func 108) [] [.ro [.ro [i 4,i 10,.lst 5 n f,ea,la]],.ro [i d]]):=by
 refine HU (L:=[]) (VJ.nil _) (VV.of (VP.nil _) (VM.nil _)) VY Tryz.func79 (US Tryz.f79) G4 (t:=leaf (AV.fn (Fn.func 108) [] [AV.ro [AV.ro [iI 4,iI 10,lst 5 n λa=>f a,ea,la]],AV.ro [iI d]])) VS ?_
 exact rfl
theorem NE:LZ VN 79 A6:=by
 refine ⟨(UF Tryz.func79),?_⟩;intro avs ns res h hn;unfold A6 at h;split at h
 ·cases h;exact Wb4 _ _ _ _ _
 ·cases h
section
variable (l:Nat)(ea la:AV)(n:Nat)(a b c lo hi:Nat->Int)(d:Int)
def Wz5:St:={σ:=[AV.fn (Fn.yield l) [] [],AV.ro [QQ n a b c lo hi ea la],AV.ro [iI d],top,ptr 3 0]++HG 9 [Q0 n a b c lo hi,iI (n:Int)]++HG 26 [],m:=[(3,GM.ints 137 [] 6 λa_1=>UO 5 (stF a b c d n 5) (UO 4 (stF a b c d n 4) (UO 3 (stF a b c d n 3) (UO 2 (stF a b c d n 2) (UO 1 (stF a b c d n 1) (UO 0 (stF a b c d n 0) (BE Q3)))))) a_1)],nx:=12,gh:=some 0}
noncomputable def Zr5:Code:=U8 (VQ (U6 Tryz.f108) 0)
def TP(k:Nat):St:={σ:=H3 [(4,.roI [] 6 (st6 (stF a b c d n)) 0),(5,.top),(6,.top),(16,i k)] (Wz5 l ea la n a b c lo hi d).σ,m:=[],nx:=12,gh:=some (G5 (DR n a b c d) k) }
def jK(k:Nat):G6->Option St
 | .exit 0=>some {σ:=H3 [(4,.roI [] 6 (st6 (stF a b c d n)) 0),(5,.top),(6,.top),(16,i n)] (Wz5 l ea la n a b c lo hi d).σ,m:=[],nx:=12,gh:=some (quN n a b c d) }
 | .ret=>some {σ:=H3 [(4,.roI [] 6 (st6 (stF a b c d n)) 0),(5,.top),(6,.top),(16,.top)] (Wz5 l ea la n a b c lo hi d).σ,m:=[],nx:=12,gh:=none}
 |_=>none
def Jj4:CT:= .may True (.leaf (.exit 0,(jK l ea la n a b c lo hi d 0 (.exit 0)).getD (Wz5 l ea la n a b c lo hi d))) (.leaf (.ret,(jK l ea la n a b c lo hi d 0 .ret).getD (Wz5 l ea la n a b c lo hi d)))
def Xu7:UH:=GJ [(.slot 4,3,137,1)] (HF (TP l ea la n a b c lo hi d (0)) (Jj4 l ea la n a b c lo hi d))
end
abbrev ZR(a:Nat->Int)(b:Nat->Int)(c:Nat->Int)(d:Int)(n:Nat):Prop:=roI [] 6 (λa_1=>st6 (stF a b c d n) a_1) 0=roI [] 6 (λa_1=>st6 (stF a b c d n) a_1) 0
abbrev Y0(d:Int):Prop:=AV.ro [iI d]=AV.ro [iI d]
abbrev Y9(n:Nat)(a:Nat->Int)(b:Nat->Int)(c:Nat->Int)(lo:Nat->Int)(hi:Nat->Int)(ea:AV)(la:AV):Prop:=AV.ro [QQ n a b c lo hi ea la]=AV.ro [QQ n a b c lo hi ea la]
theorem Zz3(l:Nat)(ea la:AV)(n:Nat)(a b c lo hi:Nat->Int)(d:Int)(VR:sV n a b c lo hi)(UE:0<=d/\d<256){cx:Cx}(hX:VV VN {Y:=some (l,(quN n a b c d),(quV n a b c lo hi d)) } cx):HH VN none cx (.loop Zr5) (Xu7 l ea la n a b c lo hi d):=by
 refine FI [(.slot 4,3,137,1)] (L:=[]) (VJ.cons rV (VJ.cons (qT n a b c lo hi VR) (VJ.nil _))) hX VY G4 (V:=Nat) (TP l ea la n a b c lo hi d) (λk=>k<=n) (λk=>n-k) (jK l ea la n a b c lo hi d) (x0:=0) VU ?_ ?_ ?_
 ·rintro k;kernel_rfl
 ·rintro k y E h;unfold jK at h;split at h
  ·cases h;kernel_rfl
  ·cases h;kernel_rfl
  ·cases h
 ·rintro Q hQ k hx;refine ⟨(k+1),?_⟩;have e:HV VN [(81,sB),(53,(dY n a b c lo hi))] {Y:=some (l,(quN n a b c d),(quV n a b c lo hi d)) } [] [(.slot 4,3,137,1)] Zr5 (TP l ea la n a b c lo hi d k) (TP l ea la n a b c lo hi d ((k+1))) (jK l ea la n a b c lo hi d k)=(let z3:=Y9 n a b c lo hi ea la;let z2:=DR n a b c d;let z0:=(need [VK ((k:Int)+1)] (need [XG l,z3,Y0 d,ZR a b c d n,W2 n a b c lo hi,VX (n:Int),(k:Int)+1=(↑(k+1):Int),G5 (z2) k=G5 (z2) (k+1)] (leaf G6.normal)));let z1:=(UQ (z2) n (G5 (z2) k));(branch (decide ((k:Int)<(n:Int))) (need [UI k n] (need [(0:Int)<=(k:Int)/\(k:Int)<=64] (branch (!gD d k) (need [UI (a k) 6] (need [(a k).toNat*1+0<6] (branch (decide (st6 (stF a b c d n) ((a k).toNat*1+0)>=c k)) (need [l=l,G5 (z2) k<quN n a b c d,[Value.int IntKind.i64 (k:Int),Value.agg {toList:=[Value.int IntKind.i64 (a k),Value.int IntKind.i64 (b k),Value.int IntKind.i64 (c k),Value.int IntKind.i64 (lo k),Value.int IntKind.i64 (hi k)] }]=[Value.int IntKind.i64 (z1:Int),Value.agg {toList:=[Value.int IntKind.i64 (a z1),Value.int IntKind.i64 (b z1),Value.int IntKind.i64 (c z1),Value.int IntKind.i64 (lo z1),Value.int IntKind.i64 (hi z1)] }]] (VL.may True (need [VK ((k:Int)+1)] (need [XG l,z3,Y0 d,ZR a b c d n,W2 n a b c lo hi,VX (n:Int),(k:Int)+1=(↑(k+1):Int),G5 (z2) k+1=G5 (z2) (k+1)] (leaf G6.normal))) (need [XG l,z3,Y0 d,ZR a b c d n,W2 n a b c lo hi,VX (n:Int)] (leaf G6.ret)))) z0))) z0))) (need [XG l,z3,Y0 d,ZR a b c d n,W2 n a b c lo hi,VX (n:Int),(k:Int)=(n:Int),G5 (z2) k=quN n a b c d] (leaf (G6.exit 0))))):=VS;rw [e];simp only [Jj4,jK,VL.sat,GS] at hQ;have hQ1: ∀E,jK l ea la n a b c lo hi d k (.exit 0)=some E->Q (.exit 0,E):=λE hE=>by cases hE;exact hQ.1 trivial
  have hQ2: ∀E,jK l ea la n a b c lo hi d k .ret=some E->Q (.ret,E):=λE hE=>by cases hE;exact hQ.2
  simp only [VL.sat,UA,UG,H9,VK,F9];clear e hQ;have h8:=VR.1;have hX:(a k).toNat*1+0=(a k).toNat:=VI;rw [hX];refine ⟨λh=>?_,λh=>?_⟩
  ·have hk:k<n:=VI;have hs:=AU VR hk;have hno:DR n a b c d k=false->G5 (DR n a b c d) k=G5 (DR n a b c d) (k+1):=λh=>(RE h).symm
   rw [Zb6 _ (show (a k).toNat<6 by omega)]
   refine ⟨VI,VI,λh1=>⟨VI,VI,λh2=>?_,λh2=>?_⟩,λh1=>?_⟩
   ·have hq:DR n a b c d k=true:=by
     unfold DR;rw [h1,decide_eq_true h2];rfl
    have hy:=F8 hq;have hm:=OJ (DR n a b c d) (show k+1<=n by omega)
    rw [BK hk hq]
    (with_reducible repeat' first|apply And.intro|intro _)
    all_goals first|exact True.intro|(simp only [quN];omega)|omega|rfl|exact hQ1 _ (by assumption)|exact hQ2 _ (by assumption)
   ·have hq:DR n a b c d k=false:=by
     unfold DR;rw [decide_eq_false h2,Bool.and_false]
    have hy:=RE hq;all_goals exact V5
   ·have hq:DR n a b c d k=false:=by
     unfold DR;rw [h1];rfl
    have hy:=RE hq;all_goals exact V5
  ·obtain rfl:k=n:=VI;all_goals exact V5
theorem yX(ea la:AV)(n:Nat)(a b c lo hi:Nat->Int)(d:Int)(VR:sV n a b c lo hi)(UE:0<=d/\d<256):B6 Tryz.prog 108 [.ro [.ro [i 4,i 10,sls n a b c lo hi,ea,la]],.ro [i d]] ((quN n a b c d)) (quV n a b c lo hi d):=by
 refine BI (L:=λl=>[Xu7 l ea la n a b c lo hi d]) (VJ.cons rV (VJ.cons (qT n a b c lo hi VR) (VJ.nil _))) VY (UF Tryz.func108) Tryz.func108 (US Tryz.f108) VS (λl cx hX=>G0 (lpE (b:= .loop Zr5) VS<|Zz3 l ea la n a b c lo hi d VR UE hX)) (t:=λl=>(let z0:=stF a b c d n;(need [W2 n a b c lo hi,(0:Int)<=d/\d<256] (need [0+List.length [z0 0,z0 1,z0 2,z0 3,z0 4,z0 5]<=6] (need [VX (AV.fn (Fn.yield l) [] []),Y9 n a b c lo hi ea la,Y0 d,roI [] 6 (λa_1=>UO 5 (z0 5) (UO 4 (z0 4) (UO 3 (z0 3) (UO 2 (z0 2) (UO 1 (z0 1) (UO 0 (z0 0) (BE Q3)))))) a_1) 0=roI [] 6 (λa_1=>st6 (z0) a_1) 0,W2 n a b c lo hi,VX (n:Int),(0:Int)=(↑(0:Nat):Int),0=G5 (DR n a b c d) 0] (VL.may True (need [VX (quN n a b c d)] (leaf PUnit.unit)) (leaf PUnit.unit))))))) (λl=>VS) ?_
 intro l;simp only [VL.sat,UA,UZ,GI,UC,UG];exact ⟨UE,VU,⟨rfl,rfl,rfl⟩,λ_=>trivial⟩
noncomputable def Qh9:HY:=rO Tryz.prog [] {} [] Tryz.f79 (U6 Tryz.f79)
theorem hO:G9 VN 79 Qh9:=
 RJ (G:=[]) (X:=WE) (L:=[]) (VJ.nil _) (VV.of (VP.nil _) (VM.nil _)) VY (UF Tryz.func79) Tryz.func79 (US Tryz.f79) U2
section
variable (n:Nat)
abbrev ZF:AV:=iI ((2:Int)^n-1+1)
abbrev ZS(a:Nat->Int)(b:Nat->Int)(c:Nat->Int)(lo:Nat->Int)(hi:Nat->Int):List AV:=[iI 4,iI 10,Q0 n a b c lo hi]
abbrev KO(a:Nat->Int)(b:Nat->Int)(c:Nat->Int)(lo:Nat->Int)(hi:Nat->Int):List AV:=[iI 4,iI 10,Q0 n a b c lo hi,AV.row 901,AV.row 902]
abbrev Y7:GM:=GM.row 3 1 0 λx=>[]
abbrev YL:GM:=GM.cells 84 [ptr 4 0]
def Zp6(a b c lo hi:Nat->Int):St:={σ:=[agg (ZS n a b c lo hi),ptr 0 0,QE,ptr 5 0]++HG 14 [ZF n]++HG 140 [],m:=[(902,Y7),(901,Y7),(5,YL),(4,GM.cells 174 (KO n a b c lo hi)),(0,GM.cells 42 (ZS n a b c lo hi))],nx:=903}
noncomputable def Jo6:Code:=U8 (VQ (U6 Tryz.f49) 0)
def Wh7(a b c lo hi:Nat->Int)(k:Nat):St:={σ:=H3 [(19,i k)] (Zp6 n a b c lo hi).σ,m:=[(902,.row 3 1 (k) (λz=>[i ((λ_=> -1) z)])),(901,.row 3 1 (k) (λz=>[i ((λ_=>101) z)])),(5,.cells 84 [.ptr 4 0]),(4,.cells 174 [i 4,i 10,sls n a b c lo hi,.row 901,.row 902]),(0,.cells 42 [i 4,i 10,sls n a b c lo hi])],nx:=903}
def CM(a b c lo hi:Nat->Int)(k:Nat):G6->Option St
 | .exit 0=>some {σ:=H3 [(19,i (2^n))] (Zp6 n a b c lo hi).σ,m:=[(902,.row 3 1 (2^n) (λz=>[i ((λ_=> -1) z)])),(901,.row 3 1 (2^n) (λz=>[i ((λ_=>101) z)])),(5,.cells 84 [.ptr 4 0]),(4,.cells 174 [i 4,i 10,sls n a b c lo hi,.row 901,.row 902]),(0,.cells 42 [i 4,i 10,sls n a b c lo hi])],nx:=903}
 |_=>none
def Jk2(a b c lo hi:Nat->Int):CT:= .leaf (.exit 0,(CM n a b c lo hi 0 (.exit 0)).getD (Zp6 n a b c lo hi))
abbrev K2:List (Pl×Nat×TypeId×Nat):=[(.cell 4 3,0,0,1),(.cell 4 4,0,0,1),(.cell 4 3,901,3,1),(.cell 4 4,902,3,1)]
def Xv7(a b c lo hi:Nat->Int):UH:=GJ K2 (HF (Wh7 n a b c lo hi (0)) (Jk2 n a b c lo hi))
abbrev QH:Prop:=(2:Int)^n-1+1=2^n-1+1
abbrev QP(a:Nat->Int)(b:Nat->Int)(c:Nat->Int)(lo:Nat->Int)(hi:Nat->Int):Prop:=agg (ZS n a b c lo hi)=agg (ZS n a b c lo hi)
abbrev QZ:Prop:=(4:Int)=4
abbrev W8:Prop:=(10:Int)=10
abbrev WI:Prop:=AV.row 902=AV.row 902
abbrev ZW:List AV:=[iI 101]
abbrev YM:Nat->List AV:=λz=>[iI (-1:Int)]
theorem Jb4(a b c lo hi:Nat->Int)(VR:sV n a b c lo hi):G7 VN (.loop Jo6) (Xv7 n a b c lo hi):=by
 refine zE K2 (L:=[]) (VJ.cons L9 (VJ.nil _)) VY U2 (X:=Nat) (Wh7 n a b c lo hi) (λk=>k<=2^n) (λk=>2^n-k) (CM n a b c lo hi) (x0:=0) VU ?_ ?_ ?_
 ·rintro k;kernel_rfl
 ·rintro k y E h;unfold CM at h;split at h
  ·cases h;kernel_rfl
  ·cases h
 ·rintro Q hQ k hx;refine ⟨(k+1),?_⟩;(with_reducible refine DF (t:=let z0:=(need [VK ((k:Int)+1)] (need [QP n a b c lo hi,QO,QE=QE,ZM,QH n,(k:Int)+1=(↑(k+1):Int),k+1=k+1,GT (k+1) (GG k (YM) (U4 1 [iI (-1:Int)])) (λi=>[iI (-1:Int)]),k+1=k+1,GT (k+1) (GG k (λz=>ZW) (U4 1 ZW)) (λi=>ZW),W5,QZ,W8,W2 n a b c lo hi,WG,WI,QZ,W8,W2 n a b c lo hi] (leaf G6.normal)));(branch (decide ((k:Int)<2^n-1+1)) (need [(k+1)*8<=140737488355328,∀(i:Nat),i<1-> ∀(a:AV),a∈U4 1 ZW i->AV.one a=true] (need [(k+1)*8<=140737488355328,RS 1 (U4 1 [iI (-1:Int)])] (VL.may True z0 (VL.may True z0 (VL.may True z0 (VL.may True z0 z0)))))) (need [QP n a b c lo hi,QO,QE=QE,ZM,QH n,(k:Int)=2^n,k=2^n,∀(i:Nat),i<2^n->[iI (-1:Int)]=[iI (-1:Int)],k=2^n,∀(i:Nat),i<2^n->ZW=ZW,W5,QZ,W8,W2 n a b c lo hi,WG,WI,QZ,W8,W2 n a b c lo hi] (leaf (G6.exit 0))))) VS ?_)
  simp only [Jk2,CM,VL.sat,GS] at hQ;simp only [VL.sat,UA,UZ,GI,UC,VK,UG,H9,R0,RF,L1,GL,CM]
  have h8:=VR.1;have hp:=uG h8;have hpn:((2^n:Nat):Int)=2^n:=VU;refine ⟨λh=>?_,λh=>?_⟩
  ·have hk:k<2^n:=VI
   (with_reducible repeat' first|apply And.intro|intro _)
   all_goals first|exact P7|(first|exact FN (by assumption) (by simp [AV.one,Value.oneCell'])|exact Pt.catF1 (a:=λ_=>101) (by assumption) rfl|exact Pt.catF1 (a:=λ_=> -1) (by assumption) rfl)
  ·obtain rfl:k=2^n:=VI;exact YY
end
def eQ(p:Nat->Bool)(n:Nat)(lo hi:Nat->Int)(d:Nat)(E:Nat->Int):Nat->Nat->Int
 | 0=>E
 |q+1=>if max (eQ p n lo hi d E q d) (lo (UQ p n q))<=hi (UQ p n q) then UO (d ||| 2^UQ p n q) (min (eQ p n lo hi d E q (d ||| 2^UQ p n q)) (max (eQ p n lo hi d E q d) (lo (UQ p n q)))) (eQ p n lo hi d E q) else eQ p n lo hi d E q
def eD(n:Nat)(a b c lo hi:Nat->Int):Nat->Nat->Int
 | 0=>λk=>if k=0 then 0 else 101
 |d+1=>if eD n a b c lo hi d d=101 then eD n a b c lo hi d else eQ (DR n a b c d) n lo hi d (eD n a b c lo hi d) (quN n a b c d)
section
variable (n:Nat)(a b c lo hi:Nat->Int)
noncomputable def Zp5:St:={σ:=[agg (ZS n a b c lo hi),ptr 0 0,QE,ptr 5 0]++HG 14 [ZF n,iI ((2:Int)^n)]++HG 27 [ZF n]++HG 111 [],m:=[(902,GM.row 3 1 (2^n) λz=>[iI (-1:Int)]),(901,GM.row 3 1 (2^n) λk=>iI (if decide (k=(0:Int).toNat)=true then (0:Int) else (101:Int))::Bool.rec ([]) ([]) (decide (k=(0:Int).toNat))),(5,YL),(4,GM.keep 174 (KO n a b c lo hi)),(0,GM.cells 42 (ZS n a b c lo hi))],nx:=913}
noncomputable def bB:Code:=U8 (VQ (U6 Tryz.f49) 1)
noncomputable def Wh6(d:Nat):St:={σ:=H3 [(4,.top),(48,i d),(5,.top),(6,.top),(7,.top),(8,.top)] (Zp5 n a b c lo hi).σ,m:=[(902,.row 3 1 (2^n) (λz=>[i ((λ_=> -1) z)])),(901,.row 3 1 (2^n) (λz=>[i ((eD n a b c lo hi (d)) z)])),(5,.cells 84 [.ptr 4 0]),(4,.keep 174 [i 4,i 10,sls n a b c lo hi,.row 901,.row 902]),(0,.cells 42 [i 4,i 10,sls n a b c lo hi])],nx:=903}
noncomputable def CL(d:Nat):G6->Option St
 | .exit 2=>some {σ:=H3 [(4,.top),(48,i (2^n)),(5,.top),(6,.top),(7,.top),(8,.top)] (Zp5 n a b c lo hi).σ,m:=[(902,.row 3 1 (2^n) (λz=>[i ((λ_=> -1) z)])),(901,.row 3 1 (2^n) (λz=>[i ((eD n a b c lo hi (2^n)) z)])),(5,.cells 84 [.ptr 4 0]),(4,.keep 174 [i 4,i 10,sls n a b c lo hi,.row 901,.row 902]),(0,.cells 42 [i 4,i 10,sls n a b c lo hi])],nx:=903}
 |_=>none
noncomputable def Jk1:CT:= .leaf (.exit 2,(CL n a b c lo hi 0 (.exit 2)).getD (Zp5 n a b c lo hi))
noncomputable def Xv6:UH:=GJ [(.cell 5 0,0,0,0)] (HF (Wh6 n a b c lo hi (0)) (Jk1 n a b c lo hi))
end
theorem B9{n d:Nat}(h8:n<=8)(h:d<2^n):(0:Int)<=d/\(d:Int)<256:=by
 have hp:=uG h8;have hpn:((2^n:Nat):Int)=2^n:=VU;omega
theorem cU{n d s:Nat}(h:d<2^n)(hs:s<n):d ||| 2^s<2^n:=Nat.or_lt_two_pow h (Nat.pow_lt_pow_right (by decide) hs)
theorem Wc2{n d s:Nat}(h8:n<=8)(h:d<2^n)(hs:s<n):IntKind.i64.wrap ((BitVec.ofInt 64 (d:Int) ||| BitVec.ofInt 64 (1*2^s)).toNat:Int)=((d ||| 2^s:Nat):Int):=by
 have h2:=B9 h8 h;have h3:2^s<2^n:=Nat.pow_lt_pow_right (by decide) hs
 have h4:=B9 h8 h3;have e:(1*2^s:Int)=((2^s:Nat):Int):=by rw [Int.one_mul];simp
 rw [e];exact Xd7 VI VI
theorem uC{F:Nat->Int}{v:Int}{q j:Nat}:H6 (decide (j=q)) [i v] [i (F j)]=[i (UO q v F j)]:=by
 unfold UO;by_cases h:j=q
 ·rw [decide_eq_true h,if_pos h];rfl
 ·rw [decide_eq_false h,if_neg h];rfl
abbrev ZX:AV:=AV.fn (Fn.func 108) [] [ptr 917 0,ptr 918 0]
section
variable (n:Nat)(a b c lo hi:Nat->Int)(d:Nat)
def Jm5:St:={σ:=[agg (ZS n a b c lo hi),ptr 0 0,QE,ptr 5 0,ptr 905 0]++HG 13 [ZF n,iI ((2:Int)^n)]++HG 27 [ZF n,iI (d:Int)]++HG 12 [ZX]++HG 97 [],m:=[(918,GM.keep 133 [iI (d:Int)]),(917,GM.keep 84 [ptr 4 0]),(905,GM.cells 133 [iI (d:Int)]),(902,GM.row 3 1 (2^n) λz=>[iI (-1:Int)]),(901,GM.row 3 1 (2^n) λz=>[iI (eD n a b c lo hi d z)]),(5,YL),(4,GM.keep 174 (KO n a b c lo hi)),(0,GM.cells 42 (ZS n a b c lo hi))],nx:=922}
noncomputable def Jq5:Code:=SP (VQ bB 0)
noncomputable def Jo5:Code:=SO (VQ bB 0)
def oP(k:Nat):St:={σ:=H3 [(5,.top),(6,.top),(7,.top),(8,.top)] (Jm5 n a b c lo hi d).σ,m:=[(918,.keep 133 [i d]),(917,.keep 84 [.ptr 4 0]),(905,.cells 133 [i d]),(902,.row 3 1 (2^n) (λz=>[i ((λ_=> -1) z)])),(901,.row 3 1 (2^n) (λz=>[i ((eQ (DR n a b c d) n lo hi d (eD n a b c lo hi d) (k)) z)])),(5,.cells 84 [.ptr 4 0]),(4,.keep 174 [i 4,i 10,sls n a b c lo hi,.row 901,.row 902]),(0,.cells 42 [i 4,i 10,sls n a b c lo hi])],nx:=922}
def nV(k:Nat):G6->Option St
 | .normal=>some {σ:=H3 [(5,.top),(6,.top),(7,.top),(8,.top)] (Jm5 n a b c lo hi d).σ,m:=[(918,.keep 133 [i d]),(917,.keep 84 [.ptr 4 0]),(905,.cells 133 [i d]),(902,.row 3 1 (2^n) (λz=>[i ((λ_=> -1) z)])),(901,.row 3 1 (2^n) (λz=>[i ((eQ (DR n a b c d) n lo hi d (eD n a b c lo hi d) ((quN n a b c d))) z)])),(5,.cells 84 [.ptr 4 0]),(4,.keep 174 [i 4,i 10,sls n a b c lo hi,.row 901,.row 902]),(0,.cells 42 [i 4,i 10,sls n a b c lo hi])],nx:=922}
 |_=>none
def T_kc:CT:= .leaf (.normal,oP n a b c lo hi d (quN n a b c d))
def Xv5:UH:=GJ [(.slot 61,0,0,0)] (HF (oP n a b c lo hi d (0)) (T_kc n a b c lo hi d))
end
abbrev XT(n:Nat):Prop:=(2:Int)^n=2^n
theorem Jb2(n:Nat)(a b c lo hi:Nat->Int)(d:Nat)(VR:sV n a b c lo hi)(UE:d<2^n):HO VN (.rangeFunc (rfF (VQ bB 0)) (jG (VQ bB 0)) Jq5 Jo5) (Xv5 n a b c lo hi d):=by
 refine yH [(.slot 61,0,0,0)] (L:=[]) (VJ.cons DW (VJ.cons PL (VJ.nil _))) (VV.of (VP.nil _) (VM.nil _)) VY U2 (V:=Nat) (oP n a b c lo hi d) (λk=>k<=(quN n a b c d)) (λk=>k) (nV n a b c lo hi d) (x0:=0) VU rfl ?_ ?_ ?_ ?_ (g:=108) (caps:=[.ro [.ro [i 4,i 10,sls n a b c lo hi,.top,.top]],.ro [i d]]) (caps0:=[.ptr 917 0,.ptr 918 0]) VS VS (yX .top .top n a b c lo hi d VR (B9 VR.1 UE)) (λ_=>rfl) ?_
 ·rintro k;kernel_rfl
 ·rintro k y E h;unfold nV at h;split at h
  ·cases h;kernel_rfl
  ·cases h
 ·rintro k;rfl
 ·rintro k y E h;unfold nV at h;split at h
  ·cases h;rfl
  ·cases h
 ·rintro Q hQ k hx;refine ⟨λhlt=>⟨(k+1),rfl,?_⟩,λPJ=>?_⟩
  ·(with_reducible refine DF (t:=let z1:=(DR n a b c (d:Int));let z0:=(BitVec.toNat (BitVec.ofInt 64 (d:Int) ||| BitVec.ofInt 64 ((1:Int)*2^UQ z1 n k)));let z2:=(IntKind.wrap IntKind.i64 (z0:Int));let z3:=eD n a b c lo hi d;let z4:=eQ z1 n lo hi d;(need [UI d (↑(2^n):Int)] (need [d<2^n] (branch (decide (max (z4 (z3) k d) (lo (UQ z1 n k))<=hi (UQ z1 n k))) (need [(0:Int)<=(↑(UQ z1 n k):Int)/\(↑(UQ z1 n k):Int)<=64,VK ((1:Int)*2^UQ z1 n k)] (need [UI (IntKind.wrap IntKind.i64 (z0:Int)) (↑(2^n):Int)] (need [Int.toNat z2<2^n] (need [UI (IntKind.wrap IntKind.i64 (z0:Int)) (↑(2^n):Int)] (need [Int.toNat z2<2^n] (need [QP n a b c lo hi,QO,QE=QE,ZM,VX (ptr 905 0),QH n,XT n,QH n,VX (d:Int),ZX=ZX,VX (d:Int),W5,VX (d:Int),2^n=2^n,∀(i:Nat),i<2^n->[iI (-1:Int)]=[iI (-1:Int)],2^n=2^n,∀(i:Nat),i<2^n->H6 (decide (i=Int.toNat z2)) [iI (min (z4 (z3) k (Int.toNat z2)) (max (z4 (z3) k d) (lo (UQ z1 n k))))] [iI (z4 (z3) k i)]=[iI (z4 (z3) (k+1) i)],W5,QZ,W8,W2 n a b c lo hi,WG,WI,QZ,W8,W2 n a b c lo hi] (leaf G6.normal))))))) (need [QP n a b c lo hi,QO,QE=QE,ZM,VX (ptr 905 0),QH n,XT n,QH n,VX (d:Int),ZX=ZX,VX (d:Int),W5,VX (d:Int),2^n=2^n,∀(i:Nat),i<2^n->[iI (-1:Int)]=[iI (-1:Int)],2^n=2^n,∀(i:Nat),i<2^n->[iI (z4 (z3) k i)]=[iI (z4 (z3) (k+1) i)],W5,QZ,W8,W2 n a b c lo hi,WG,WI,QZ,W8,W2 n a b c lo hi] (leaf G6.normal)))))) VS ?_)
   have h8:=VR.1;have hd:=B9 h8 UE;have hpn:((2^n:Nat):Int)=2^n:=VU;have hs:=xW hlt;have hor:=Wc2 h8 UE hs.1;have hol:=cU UE hs.1;simp only [VL.sat,UA,UG,hor,F9,H9]
   have hd2:(d:Int)<2^n:=by
    have h:(d:Int)<((2^n:Nat):Int):=Int.ofNat_lt.2 UE
    rwa [hpn] at h
   have Qn7:((d ||| 2^UQ (DR n a b c d) n k:Nat):Int)<2^n:=by
    have h:((d ||| 2^UQ (DR n a b c d) n k:Nat):Int)<((2^n:Nat):Int):=Int.ofNat_lt.2 hol
    rwa [hpn] at h
   have hk1:k+1<=quN n a b c d:=hlt;have h2s:(1:Int)<=2^UQ (DR n a b c d) n k/\(2:Int)^UQ (DR n a b c d) n k<=256:=uG VI;have h64:=hs.1;refine ⟨⟨VI,hd2⟩,UE,λh=>?_,λh=>?_⟩
   ·refine ⟨⟨⟨VI,VI⟩,by simp only [VK,Int.one_mul];omega⟩,⟨VI,Qn7⟩,hol,⟨VI,Qn7⟩,hol,⟨λ_ _=>trivial,λj hj=>?_⟩,hk1⟩
    simp only [eQ,if_pos h];exact uC
   ·refine ⟨⟨λ_ _=>trivial,λj hj=>?_⟩,hk1⟩
    simp only [eQ,if_neg h]
  ·have hk:k=quN n a b c d:=VI;subst hk;exact hQ
theorem uO{P:Program}{G:List (Nat×UV)}{E:Ext}{L:List UH}(N:List (Pl×Nat×TypeId×Nat))(hG:VJ P G)(hX: ∀cx,VV P E cx)(GO:P.follows .mixedOrders=true){body:Code}(hL: ∀j cj,VQ body j=some cj-> ∀sp,L[j]? =some sp->HO P cj sp)
  {X:Type}(inv:X->St)(I:X->Prop)(μ:X->Nat)(out:X->G6->Option St){t:CT}{x0:X}(h0:I x0)
  (hok: ∀x,Go.Sx.okB (inv x)=true)(qP: ∀x y E,out x y=some E->Go.Sx.okB E=true)
  (round: ∀(Q:G6×St->Prop),t.sat Q-> ∀x,I x-> ∃x',(HV P G E L N body (inv x) (inv x') (out x)).sat (λy=>match y with
   | .normal=>I x'/\μ x'<μ x
   |y=> ∀E,out x y=some E->Q (y,E))):HO P (.loop body) (GJ N (HF (inv x0) t)):=
 λcx hf=>FI N hG (hX cx) GO (λj cj hj sp hsp=>hL j cj hj sp hsp cx hf) inv I μ out h0 hok qP round
theorem gJ{P:Program}{c:Code}{t:Nat}{F:Nat->UH}(h: ∀k,HO P c (F k)):HO P c (BF t F):=by
 intro cx hf n s tr ht Q hQ a w r;unfold BF at ht;split at ht
 ·exact h _ cx hf n s tr ht Q hQ a w r
 ·cases ht
abbrev JN:List (Nat×UV):=[(51,IY),(55,kG),(54,IZ)]
noncomputable abbrev KE:Ext:={R:=[],H:=[(79,Qh9)] }
theorem Jb3(n:Nat)(a b c lo hi:Nat->Int)(VR:sV n a b c lo hi):HO VN (.loop bB) (Xv6 n a b c lo hi):=by
 refine uO [(.cell 5 0,0,0,0)] (L:=[BF 48 (λd=>FO [d<2^n] (Xv5 n a b c lo hi d))]) (VJ.cons L9 (VJ.cons DW (VJ.cons PL (VJ.nil _)))) (VV.of (VP.nil _) (VM.cons hO (VM.nil _))) VY (G0 (λcj hcj=>by
  have e:VQ bB 0=some (.rangeFunc (rfF (VQ bB 0)) (jG (VQ bB 0)) Jq5 Jo5):=VS;rw [e] at hcj;cases hcj;exact gJ (λd=>PW (λh=>Jb2 n a b c lo hi d VR h)))) (X:=Nat) (Wh6 n a b c lo hi) (λd=>d<=2^n) (λd=>2^n-d) (CL n a b c lo hi) (x0:=0) VU ?_ ?_ ?_
 ·rintro d;kernel_rfl
 ·rintro d y E h;unfold CL at h;split at h
  ·cases h;kernel_rfl
  ·cases h
 ·rintro Q hQ d hx;refine ⟨(d+1),?_⟩;(with_reducible refine DF (t:=let z0:=W2 n a b c lo hi;let z1:=eD n a b c lo hi d;(branch (decide ((d:Int)<2^n-1+1)) (need [UI d (↑(2^n):Int)] (need [d<2^n] (branch (z1 d==101) (need [VK ((d:Int)+1)] (need [QP n a b c lo hi,QO,QE=QE,ZM,QH n,XT n,QH n,(d:Int)+1=(↑(d+1):Int),2^n=2^n,∀(i:Nat),i<2^n->[iI (-1:Int)]=[iI (-1:Int)],2^n=2^n,∀(i:Nat),i<2^n->[iI (z1 i)]=[iI (eD n a b c lo hi (d+1) i)],W5,QZ,W8,z0,WG,WI,QZ,W8,z0] (leaf G6.normal))) (need [d<2^n] (need [QP n a b c lo hi,QO,QE=QE,ZM,VX (ptr 905 0),QH n,XT n,QH n,VX (d:Int),ZX=ZX,VX (d:Int),W5,VX (d:Int),2^n=2^n,∀(i:Nat),i<2^n->[iI (-1:Int)]=[iI (-1:Int)],2^n=2^n,∀(i:Nat),i<2^n->[iI (z1 i)]=[iI (eQ (DR n a b c (d:Int)) n lo hi d (z1) 0 i)],W5,QZ,W8,z0,WG,WI,QZ,W8,z0] (need [VK ((d:Int)+1)] (need [QP n a b c lo hi,QO,QE=QE,ZM,QH n,XT n,QH n,(d:Int)+1=(↑(d+1):Int),2^n=2^n,∀(i:Nat),i<2^n->[iI (-1:Int)]=[iI (-1:Int)],2^n=2^n,∀(i:Nat),i<2^n->[iI (eQ (DR n a b c (d:Int)) n lo hi d (z1) (quN n a b c (d:Int)) i)]=[iI (eD n a b c lo hi (d+1) i)],W5,QZ,W8,z0,WG,WI,QZ,W8,z0] (leaf G6.normal)))))))) (need [QP n a b c lo hi,QO,QE=QE,ZM,QH n,XT n,QH n,(d:Int)=2^n,2^n=2^n,∀(i:Nat),i<2^n->[iI (-1:Int)]=[iI (-1:Int)],2^n=2^n,∀(i:Nat),i<2^n->[iI (z1 i)]=[iI (eD n a b c lo hi (2^n) i)],W5,QZ,W8,z0,WG,WI,QZ,W8,z0] (leaf (G6.exit 2))))) VS ?_);simp only [Jk1,CL,VL.sat,GS] at hQ;simp only [VL.sat,UA,UZ,GI,UC,VK,UG,H9,R0,RF,L1,GL,CL]
  have h8:=VR.1;have hp:=uG h8;have hpn:((2^n:Nat):Int)=2^n:=VU;refine ⟨λh=>?_,λh=>?_⟩
  ·have hd3:(d:Int)<2^n:=VI;have hd:d<2^n:=by
    have h':(d:Int)<((2^n:Nat):Int):=by rw [hpn];exact hd3
    exact Int.ofNat_lt.1 h'
   have hd2:=B9 h8 hd;refine ⟨⟨VI,hd3⟩,hd,λhb=>?_,λhb=>?_⟩
   ·rw [beq_iff_eq] at hb;refine ⟨VI,⟨VI,λ_ _=>trivial,λj hj=>by simp only [eD,if_pos hb]⟩,hd,VI⟩
   ·rw [beq_eq_false_iff_ne] at hb;refine ⟨hd,⟨λ_ _=>trivial,λj hj=>rfl⟩,VI,⟨VI,λ_ _=>trivial,λj hj=>by simp only [eD,if_neg hb]⟩,hd,VI⟩
  ·have hd:d=2^n:=by
    have h': ¬(d:Int)<((2^n:Nat):Int):=by rw [hpn];omega
    omega
   subst hd;exact ⟨⟨hpn,λ_ _=>trivial,λj hj=>rfl⟩,λE hE=>by cases hE;exact hQ⟩
def pm(n:Nat):Nat:=2^n-1
def lQ(p:Nat->Bool)(n:Nat)(lo hi:Nat->Int)(d:Nat)(F:Nat->Int):Nat->Nat->Int
 | 0=>F
 |q+1=>if min (lQ p n lo hi d F q (d ||| 2^UQ p n q)) (hi (UQ p n q))>=lo (UQ p n q) then UO d (max (lQ p n lo hi d F q d) (min (lQ p n lo hi d F q (d ||| 2^UQ p n q)) (hi (UQ p n q)))) (lQ p n lo hi d F q) else lQ p n lo hi d F q
def lS(n:Nat)(a b c lo hi:Nat->Int):Nat->Nat->Int
 | 0=>UO (2^n-1) 101 (λ_=> -1)
 |s+1=>lQ (DR n a b c ((2^n-2-s:Nat):Int)) n lo hi (2^n-2-s) (lS n a b c lo hi s) (quN n a b c ((2^n-2-s:Nat):Int))
section
variable (n:Nat)(a b c lo hi:Nat->Int)
noncomputable def Zp4:St:={σ:=[agg (ZS n a b c lo hi),ptr 0 0,QE,ptr 5 0]++HG 14 [ZF n,iI ((2:Int)^n)]++HG 27 [ZF n,iI ((2:Int)^n)]++HG 110 [],m:=[(903,GM.cells 133 [iI ((2:Int)^n-1-1)]),(902,GM.row 3 1 (2^n) λk=>iI (if decide (k=((2:Int)^n-1).toNat)=true then (101:Int) else (-1:Int))::Bool.rec ([]) ([]) (decide (k=((2:Int)^n-1).toNat))),(901,GM.row 3 1 (2^n) λz=>[iI (eD n a b c lo hi (2^n) z)]),(5,YL),(4,GM.keep 174 (KO n a b c lo hi)),(0,GM.cells 42 (ZS n a b c lo hi))],nx:=916}
noncomputable def bA:Code:=U8 (VQ (U6 Tryz.f49) 2)
noncomputable def Wh5(d:Nat):St:={σ:=H3 [(9,.ptr 903 0),(10,.top),(11,.top),(12,.top)] (Zp4 n a b c lo hi).σ,m:=[(903,.cells 133 [i (((d:Nat):Int)-1)]),(902,.row 3 1 (2^n) (λz=>[i ((lS n a b c lo hi (2^n-1-(d))) z)])),(901,.row 3 1 (2^n) (λz=>[i ((eD n a b c lo hi (2^n)) z)])),(5,.cells 84 [.ptr 4 0]),(4,.keep 174 [i 4,i 10,sls n a b c lo hi,.row 901,.row 902]),(0,.cells 42 [i 4,i 10,sls n a b c lo hi])],nx:=904}
noncomputable def CK(d:Nat):G6->Option St
 | .exit 6=>some {σ:=H3 [(9,.ptr 903 0),(10,.top),(11,.top),(12,.top)] (Zp4 n a b c lo hi).σ,m:=[(903,.cells 133 [i (((0:Nat):Int)-1)]),(902,.row 3 1 (2^n) (λz=>[i ((lS n a b c lo hi (2^n-1-(0))) z)])),(901,.row 3 1 (2^n) (λz=>[i ((eD n a b c lo hi (2^n)) z)])),(5,.cells 84 [.ptr 4 0]),(4,.keep 174 [i 4,i 10,sls n a b c lo hi,.row 901,.row 902]),(0,.cells 42 [i 4,i 10,sls n a b c lo hi])],nx:=904}
 |_=>none
noncomputable def Jk0:CT:= .leaf (.exit 6,(CK n a b c lo hi (pm n) (.exit 6)).getD (Zp4 n a b c lo hi))
noncomputable def Xv4:UH:=GJ [(.slot 9,903,133,2),(.cell 5 0,0,0,0)] (HF (Wh5 n a b c lo hi (pm n)) (Jk0 n a b c lo hi))
abbrev ZY:AV:=AV.fn (Fn.func 108) [] [ptr 908 0,ptr 909 0]
def Jm4(d:Nat):St:={σ:=[agg (ZS n a b c lo hi),ptr 0 0,QE,ptr 5 0]++HG 5 [ptr 903 0]++HG 8 [ZF n,iI ((2:Int)^n)]++HG 27 [ZF n,iI ((2:Int)^n)]++HG 69 [ZY]++HG 40 [],m:=[(909,GM.keep 133 [iI ((d:Int)-1)]),(908,GM.keep 84 [ptr 4 0]),(903,GM.cells 133 [iI ((d:Int)-1)]),(902,GM.row 3 1 (2^n) λz=>[iI (lS n a b c lo hi (2^n-1-d) z)]),(901,GM.row 3 1 (2^n) λz=>[iI (eD n a b c lo hi (2^n) z)]),(5,YL),(4,GM.keep 174 (KO n a b c lo hi)),(0,GM.cells 42 (ZS n a b c lo hi))],nx:=913}
noncomputable def Jq4:Code:=SP (VQ bA 0)
noncomputable def Jo4:Code:=SO (VQ bA 0)
def oO(d:Nat)(k:Nat):St:={σ:=H3 [(10,.top),(11,.top),(12,.top)] (Jm4 n a b c lo hi d).σ,m:=[(909,.keep 133 [i ((d:Int)-1)]),(908,.keep 84 [.ptr 4 0]),(903,.cells 133 [i (((d:Nat):Int)-1)]),(902,.row 3 1 (2^n) (λz=>[i ((lQ (DR n a b c ((d:Int)-1)) n lo hi (d-1) (lS n a b c lo hi (2^n-1-d)) (k)) z)])),(901,.row 3 1 (2^n) (λz=>[i ((eD n a b c lo hi (2^n)) z)])),(5,.cells 84 [.ptr 4 0]),(4,.keep 174 [i 4,i 10,sls n a b c lo hi,.row 901,.row 902]),(0,.cells 42 [i 4,i 10,sls n a b c lo hi])],nx:=913}
def nU(d:Nat)(k:Nat):G6->Option St
 | .normal=>some {σ:=H3 [(10,.top),(11,.top),(12,.top)] (Jm4 n a b c lo hi d).σ,m:=[(909,.keep 133 [i ((d:Int)-1)]),(908,.keep 84 [.ptr 4 0]),(903,.cells 133 [i (((d:Nat):Int)-1)]),(902,.row 3 1 (2^n) (λz=>[i ((lQ (DR n a b c ((d:Int)-1)) n lo hi (d-1) (lS n a b c lo hi (2^n-1-d)) ((quN n a b c ((d:Int)-1)))) z)])),(901,.row 3 1 (2^n) (λz=>[i ((eD n a b c lo hi (2^n)) z)])),(5,.cells 84 [.ptr 4 0]),(4,.keep 174 [i 4,i 10,sls n a b c lo hi,.row 901,.row 902]),(0,.cells 42 [i 4,i 10,sls n a b c lo hi])],nx:=913}
 |_=>none
def T_ke(d:Nat):CT:= .leaf (.normal,oO n a b c lo hi d (quN n a b c ((d:Int)-1)))
def Xv3(d:Nat):UH:=GJ [(.slot 118,0,0,0)] (HF (oO n a b c lo hi d (0)) (T_ke n a b c lo hi d))
abbrev ZQ:Prop:=ptr 903 0=ptr 903 0
theorem Jb0(d:Nat)(VR:sV n a b c lo hi)(UE:1<=d)(HP:d<2^n):HO VN (.rangeFunc (rfF (VQ bA 0)) (jG (VQ bA 0)) Jq4 Jo4) (Xv3 n a b c lo hi d):=by
 refine yH [(.slot 118,0,0,0)] (L:=[]) (VJ.cons DW (VJ.cons PL (VJ.nil _))) (VV.of (VP.nil _) (VM.nil _)) VY U2 (V:=Nat) (oO n a b c lo hi d) (λk=>k<=(quN n a b c ((d:Int)-1))) (λk=>k) (nU n a b c lo hi d) (x0:=0) VU rfl ?_ ?_ ?_ ?_ (g:=108) (caps:=[.ro [.ro [i 4,i 10,sls n a b c lo hi,.top,.top]],.ro [i ((d:Int)-1)]]) (caps0:=[.ptr 908 0,.ptr 909 0]) VS VS (yX .top .top n a b c lo hi ((d:Int)-1) VR (by have:=B9 VR.1 HP;omega)) (λ_=>rfl) ?_
 ·rintro k;kernel_rfl
 ·rintro k y E h;unfold nU at h;split at h
  ·cases h;kernel_rfl
  ·cases h
 ·rintro k;rfl
 ·rintro k y E h;unfold nU at h;split at h
  ·cases h;rfl
  ·cases h
 ·rintro Q hQ k hx;refine ⟨λhlt=>⟨(k+1),rfl,?_⟩,λPJ=>?_⟩
  ·(with_reducible refine DF (t:=let z0:=(DR n a b c ((d:Int)-1));let z1:=(BitVec.toNat (BitVec.ofInt 64 ((d:Int)-1) ||| BitVec.ofInt 64 ((1:Int)*2^UQ z0 n k)));let z2:=(lS n a b c lo hi (2^n-1-d));let z3:=(VX ((d:Int)-1));let z5:=lQ z0 n lo hi;let z4:=(z5 (d-1) z2 k (IntKind.wrap IntKind.i64 (z1:Int)).toNat);(need [(0:Int)<=(↑(UQ z0 n k):Int)/\(↑(UQ z0 n k):Int)<=64,VK ((1:Int)*2^UQ z0 n k)] (need [UI (IntKind.wrap IntKind.i64 (z1:Int)) (↑(2^n):Int)] (need [(IntKind.wrap IntKind.i64 (z1:Int)).toNat<2^n] (branch (decide (min z4 (hi (UQ z0 n k))>=lo (UQ z0 n k))) (need [UI ((d:Int)-1) (↑(2^n):Int)] (need [((d:Int)-1).toNat<2^n] (need [UI ((d:Int)-1) (↑(2^n):Int)] (need [((d:Int)-1).toNat<2^n] (need [QP n a b c lo hi,QO,QE=QE,ZM,ZQ,QH n,XT n,QH n,XT n,ZY=ZY,z3,W5,z3,2^n=2^n,∀(i:Nat),i<2^n->H6 (decide (i=((d:Int)-1).toNat)) [iI (max (z5 (d-1) z2 k ((d:Int)-1).toNat) (min z4 (hi (UQ z0 n k))))] [iI (z5 (d-1) z2 k i)]=[iI (z5 (d-1) z2 (k+1) i)],2^n=2^n,∀(i:Nat),i<2^n->[iI (eD n a b c lo hi (2^n) i)]=[iI (eD n a b c lo hi (2^n) i)],W5,QZ,W8,W2 n a b c lo hi,WG,WI,QZ,W8,W2 n a b c lo hi] (leaf G6.normal)))))) (need [QP n a b c lo hi,QO,QE=QE,ZM,ZQ,QH n,XT n,QH n,XT n,ZY=ZY,z3,W5,z3,2^n=2^n,∀(i:Nat),i<2^n->[iI (z5 (d-1) z2 k i)]=[iI (z5 (d-1) z2 (k+1) i)],2^n=2^n,∀(i:Nat),i<2^n->[iI (eD n a b c lo hi (2^n) i)]=[iI (eD n a b c lo hi (2^n) i)],W5,QZ,W8,W2 n a b c lo hi,WG,WI,QZ,W8,W2 n a b c lo hi] (leaf G6.normal))))))) VS ?_)
   have h8:=VR.1;obtain ⟨D,rfl⟩: ∃D,d=D+1:=⟨d-1,VI⟩;have hD:(((D+1:Nat):Int)-1)=(D:Int):=VI;have hd:D<2^n:=VI;have hdi:=B9 h8 hd;have hpn:((2^n:Nat):Int)=2^n:=VU;simp only [hD] at*;have hs:=xW hlt;have hor:=Wc2 h8 hd hs.1;have hol:=cU hd hs.1;simp only [VL.sat,UA,UG,hor,F9,H9,Nat.add_sub_cancel]
   have hd2:(D:Int)<2^n:=by
    have h:(D:Int)<((2^n:Nat):Int):=Int.ofNat_lt.2 hd
    rwa [hpn] at h
   have Qn7:((D ||| 2^UQ (DR n a b c D) n k:Nat):Int)<2^n:=by
    have h:((D ||| 2^UQ (DR n a b c D) n k:Nat):Int)<((2^n:Nat):Int):=Int.ofNat_lt.2 hol
    rwa [hpn] at h
   have hk1:k+1<=quN n a b c D:=hlt;have h2s:(1:Int)<=2^UQ (DR n a b c D) n k/\(2:Int)^UQ (DR n a b c D) n k<=256:=uG VI;have h64:=hs.1;refine ⟨⟨⟨VI,VI⟩,by simp only [VK,Int.one_mul];omega⟩,⟨VI,Qn7⟩,hol,λh=>?_,λh=>?_⟩
   ·refine ⟨⟨VI,hd2⟩,hd,⟨VI,hd2⟩,hd,⟨λj hj=>?_,λ_ _=>trivial⟩,hk1⟩
    simp only [lQ,if_pos h];exact uC
   ·refine ⟨⟨λj hj=>?_,λ_ _=>trivial⟩,hk1⟩
    simp only [lQ,if_neg h]
  ·have hk:k=quN n a b c ((d:Int)-1):=VI;subst hk;exact hQ
theorem Jb1(VR:sV n a b c lo hi):HO VN (.loop bA) (Xv4 n a b c lo hi):=by
 refine uO [(.slot 9,903,133,2),(.cell 5 0,0,0,0)] (L:=[BF 117 (λd=>FO [d+1<2^n] (Xv3 n a b c lo hi (d+1)))]) (VJ.cons L9 (VJ.cons DW (VJ.cons PL (VJ.nil _)))) (VV.of (VP.nil _) (VM.cons hO (VM.nil _))) VY (G0 (λcj hcj=>by
  have e:VQ bA 0=some (.rangeFunc (rfF (VQ bA 0)) (jG (VQ bA 0)) Jq4 Jo4):=VS;rw [e] at hcj;cases hcj;exact gJ (λd=>PW (λh=>Jb0 n a b c lo hi (d+1) VR (Nat.succ_le_succ (Nat.zero_le _)) h)))) (X:=Nat) (Wh5 n a b c lo hi) (λd=>d<=pm n) (λd=>d) (CK n a b c lo hi) (x0:=pm n) (Nat.le_refl _) ?_ ?_ ?_
 ·rintro d;kernel_rfl
 ·rintro d y E h;unfold CK at h;split at h
  ·cases h;kernel_rfl
  ·cases h
 ·rintro Q hQ d hx;refine ⟨(d-1),?_⟩;(with_reducible refine DF (t:=let z0:=(DR n a b c ((↑(((d:Int)-1).toNat+1):Int)-1));let z4:=lS n a b c lo hi;let z1:=(z4 (2^n-1-(((d:Int)-1).toNat+1)));let z2:=eD n a b c lo hi;let z3:=W2 n a b c lo hi;(branch (decide ((d:Int)-1>=(0:Int))) (need [((d:Int)-1).toNat+1<2^n] (need [QP n a b c lo hi,QO,QE=QE,ZM,ZQ,QH n,XT n,QH n,XT n,ZY=ZY,(d:Int)-1=(↑(((d:Int)-1).toNat+1):Int)-1,W5,(d:Int)-1=(↑(((d:Int)-1).toNat+1):Int)-1,2^n=2^n,∀(i:Nat),i<2^n->[iI (z4 (2^n-1-d) i)]=[iI (lQ z0 n lo hi (((d:Int)-1).toNat+1-1) z1 0 i)],2^n=2^n,∀(i:Nat),i<2^n->[iI (z2 (2^n) i)]=[iI (z2 (2^n) i)],W5,QZ,W8,z3,WG,WI,QZ,W8,z3] (need [VK ((↑(((d:Int)-1).toNat+1):Int)-1-1)] (need [QP n a b c lo hi,QO,QE=QE,ZM,ZQ,QH n,XT n,QH n,XT n,(↑(((d:Int)-1).toNat+1):Int)-1-1=(↑(d-1):Int)-1,2^n=2^n,∀(i:Nat),i<2^n->[iI (lQ z0 n lo hi (((d:Int)-1).toNat+1-1) z1 (quN n a b c ((↑(((d:Int)-1).toNat+1):Int)-1)) i)]=[iI (z4 (2^n-1-(d-1)) i)],2^n=2^n,∀(i:Nat),i<2^n->[iI (z2 (2^n) i)]=[iI (z2 (2^n) i)],W5,QZ,W8,z3,WG,WI,QZ,W8,z3] (leaf G6.normal))))) (need [QP n a b c lo hi,QO,QE=QE,ZM,ZQ,QH n,XT n,QH n,XT n,(d:Int)-1=(↑(0:Nat):Int)-1,2^n=2^n,∀(i:Nat),i<2^n->[iI (z4 (2^n-1-d) i)]=[iI (z4 (2^n-1-0) i)],2^n=2^n,∀(i:Nat),i<2^n->[iI (z2 (2^n) i)]=[iI (z2 (2^n) i)],W5,QZ,W8,z3,WG,WI,QZ,W8,z3] (leaf (G6.exit 6))))) VS ?_);simp only [Jk0,CK,VL.sat,GS] at hQ;simp only [VL.sat,UA,UZ,GI,UC,VK,UG,H9,R0,RF,L1,GL,CK]
  have h8:=VR.1;have hpm:pm n=2^n-1:=rfl;rw [hpm] at hx ⊢;have hp:=uG h8;have hpn:((2^n:Nat):Int)=2^n:=VU;refine ⟨λh=>?_,λh=>?_⟩
  ·obtain ⟨D,rfl⟩: ∃D,d=D+1:=⟨d-1,VI⟩;have e1:(((D+1:Nat):Int)-1).toNat=D:=VI;have e2:(((D+1:Nat):Int)-1)=(D:Int):=VI;have hd:D+1<2^n:=VI;have hdi:=B9 h8 hd;simp only [e2,F9,Nat.add_sub_cancel,true_and];have hst:lQ (DR n a b c D) n lo hi D (lS n a b c lo hi (2^n-1-(D+1))) (quN n a b c D)=lS n a b c lo hi (2^n-1-D):=by
    have h1:2^n-1-D=(2^n-1-(D+1))+1:=VI;have h2:2^n-2-(2^n-1-(D+1))=D:=VI;rw [h1];simp only [lS,h2]
   refine ⟨hd,⟨λj hj=>rfl,λ_ _=>trivial⟩,VI,⟨λj hj=>by rw [hst],λ_ _=>trivial⟩,VI,VI⟩
  ·obtain rfl:d=0:=VI;exact ⟨⟨rfl,λj hj=>rfl,λ_ _=>trivial⟩,λE hE=>by cases hE;exact hQ⟩
end
theorem pW{S:Code->UH->Prop}{c:Code}{s0 s1 s2:UH}(h0: ∀cj,VQ c 0=some cj->S cj s0)(h1: ∀cj,VQ c 1=some cj->S cj s1)(h2: ∀cj,VQ c 2=some cj->S cj s2):
  ∀j cj,VQ c j=some cj-> ∀sp,[s0,s1,s2][j]? =some sp->S cj sp:=by
 intro j cj hj sp hsp
 match j with
 | 0=>simp at hsp;subst hsp;exact h0 cj hj
 | 1=>simp at hsp;subst hsp;exact h1 cj hj
 | 2=>simp at hsp;subst hsp;exact h2 cj hj
 |j+3=>simp at hsp
section
variable (n:Nat)(a b c lo hi:Nat->Int)
theorem Wb6(VR:sV n a b c lo hi):FB VN 49 [.agg [i 4,i 10,sls n a b c lo hi]] (.ro [i 4,i 10,sls n a b c lo hi,.lst 1 (2^n) (λz=>[i (eD n a b c lo hi (2^n) z)]),.lst 1 (2^n) (λz=>[i (lS n a b c lo hi (2^n-1) z)])]):=by
 refine HU (L:=[Xv7 n a b c lo hi,Xv6 n a b c lo hi,Xv4 n a b c lo hi]) (VJ.cons L9 (VJ.cons DW (VJ.cons PL (VJ.nil _)))) (VV.of (VP.nil _) (VM.cons hO (VM.nil _))) VY Tryz.func49 (US Tryz.f49) (pW (lpE (b:= .loop Jo6) VS<|(Jb4 n a b c lo hi VR).N) (lpE (b:= .loop bB) VS<|Jb3 n a b c lo hi VR) (lpE (b:= .loop bA) VS<|Jb1 n a b c lo hi VR)) (t:=let z0:=W2 n a b c lo hi;(need [n<=8] (need [VK ((2:Int)^n-1+1)] (need [QP n a b c lo hi,QO,QE=QE,ZM,QH n,(0:Int)=(↑(0:Nat):Int),0=0,∀(i:Nat),i<0->[]=[iI (-1:Int)],0=0,∀(i:Nat),i<0->[]=ZW,W5,QZ,W8,z0,WG,WI,QZ,W8,z0] (need [UI 0 (↑(2^n):Int)] (need [(0:Int).toNat<2^n] (need [n<=8] (need [VK ((2:Int)^n-1+1)] (need [QP n a b c lo hi,QO,QE=QE,ZM,QH n,XT n,QH n,(0:Int)=(↑(0:Nat):Int),2^n=2^n,∀(i:Nat),i<2^n->[iI (-1:Int)]=[iI (-1:Int)],2^n=2^n,∀(i:Nat),i<2^n->H6 (decide (i=(0:Int).toNat)) [iI 0] ZW=[iI (eD n a b c lo hi 0 i)],W5,QZ,W8,z0,WG,WI,QZ,W8,z0] (need [n<=8] (need [(0:Int)<=2^n-1/\(2:Int)^n-1<(↑(2^n):Int)] (need [((2:Int)^n-1).toNat<2^n] (need [n<=8] (need [VK ((2:Int)^n-1-1)] (need [QP n a b c lo hi,QO,QE=QE,ZM,ZQ,QH n,XT n,QH n,XT n,(2:Int)^n-1-1=(↑(pm n):Int)-1,2^n=2^n,∀(i:Nat),i<2^n->H6 (decide (i=((2:Int)^n-1).toNat)) ZW [iI (-1:Int)]=[iI (lS n a b c lo hi (2^n-1-pm n) i)],2^n=2^n,∀(i:Nat),i<2^n->[iI (eD n a b c lo hi (2^n) i)]=[iI (eD n a b c lo hi (2^n) i)],W5,QZ,W8,z0,WG,WI,QZ,W8,z0] (leaf (AV.ro [iI 4,iI 10,Q0 n a b c lo hi,lst 1 (2^n) λz=>[iI (eD n a b c lo hi (2^n) z)],lst 1 (2^n) λz=>[iI (lS n a b c lo hi (2^n-1-0) z)]]))))))))))))))))) VS ?_
 have h8:=VR.1;have hp:=uG h8;have hpn:((2^n:Nat):Int)=2^n:=VU;have hp1:1<=2^n:=Nat.one_le_two_pow;have hpt:((2:Int)^n-1).toNat=2^n-1:=VI;simp only [VL.sat,UA,UG,VK,hpt,Int.toNat_zero]
 (with_reducible repeat' first|apply And.intro|intro _)
 all_goals first|exact True.intro|omega|with_reducible rfl|rfl|skip
 ·rename_i q hq;exact uC (F:=λ_=>101)
 ·have h1:((pm n:Nat):Int)=((2^n:Nat):Int)-1:=by
   unfold pm;omega
  rw [h1,hpn]
 ·rename_i q hq;rw [show 2^n-1-pm n=0 from Nat.sub_self _];exact uC (F:=λ_=> -1)
def Xl6:UV:=λl=>some ([l=[.agg [i 4,i 10,sls n a b c lo hi]]],.ro [i 4,i 10,sls n a b c lo hi,.lst 1 (2^n) (λz=>[i (eD n a b c lo hi (2^n) z)]),.lst 1 (2^n) (λz=>[i (lS n a b c lo hi (2^n-1) z)])])
theorem hZ(VR:sV n a b c lo hi):LZ VN 49 (Xl6 n a b c lo hi):=by
 refine ⟨(UF Tryz.func49),?_⟩;intro avs ns res h hn;cases h;have e:=hn _ GD;subst e;exact Wb6 n a b c lo hi VR
def Ww2:UV:=λl=>some ([l=[.agg [i 4,i 10,sls n a b c lo hi]]],i (if zT n a b c lo hi then 0 else 1))
theorem yZ(VR:n<=8):VO VN 48 (Ww2 n a b c lo hi):=by
 refine ⟨(UF Tryz.func48),?_⟩;intro avs ns res h hn;cases h;have e:=hn _ GD;subst e;exact NH n a b c lo hi VR
theorem Wb5(E F:Nat->Int)(VR:n<=8):VW VN 50 [.ro [i 4,i 10,sls n a b c lo hi,.lst 1 (2^n) (λz=>[i (E z)]),.lst 1 (2^n) (λz=>[i (F z)])]] (bl (E (2^n-1) != 101)):=by
 refine U0 (L:=[]) (VJ.cons L9 (VJ.nil _)) VY Tryz.func50 (US Tryz.f50) U2 (t:=need [n<=8] (need [(0:Int)<=2^n-1/\(2:Int)^n-1<(↑(2^n):Int)] (leaf (RV.x (.bool (E ((2:Int)^n-1).toNat != 101)))))) VS ?_;have hp:=uG VR;have hpn:((2^n:Nat):Int)=2^n:=VU;have hp1:1<=2^n:=Nat.one_le_two_pow;have hpt:((2:Int)^n-1).toNat=2^n-1:=VI;simp only [VL.sat,UA,UZ,GI,UC,UG,hpt]
 (with_reducible repeat' first|apply And.intro|intro _)
 all_goals first|exact VR|omega|rfl|trivial
def Xl5(E F:Nat->Int):UV:=λl=>some ([l=[.ro [i 4,i 10,sls n a b c lo hi,.lst 1 (2^n) (λz=>[i (E z)]),.lst 1 (2^n) (λz=>[i (F z)])]]],bl (E (2^n-1) != 101))
theorem hU(E F:Nat->Int)(VR:n<=8):VO VN 50 (Xl5 n a b c lo hi E F):=by
 refine ⟨(UF Tryz.func50),?_⟩;intro avs ns res h hn;cases h;have e:=hn _ GD;subst e;exact Wb5 n a b c lo hi E F VR
theorem cO(E F:Nat->Int)(d day:Int)(VR:0<=d/\d<2^n):VW VN 52 [.ro [i 4,i 10,sls n a b c lo hi,.lst 1 (2^n) (λz=>[i (E z)]),.lst 1 (2^n) (λz=>[i (F z)])],i d,i day] (bl (decide (E d.toNat<=day)&&decide (F d.toNat>day))):=by
 refine GU Tryz.func52 (t:=need [UI d (↑(2^n):Int)] (branch (decide (E (Int.toNat d)<=day)) (need [UI d (↑(2^n):Int)] (leaf (RV.x (.bool (decide (F (Int.toNat d)>day)))))) (leaf (RV.x (WM))))) VS ?_;have hpn:((2^n:Nat):Int)=2^n:=VU;simp only [VL.sat,UA,UZ,GI,UC,UG];have hd:d.toNat<2^n:=VI
 (with_reducible repeat' first|apply And.intro|intro _)
 all_goals first|omega|(rename_i h;rw [h];rfl)
def M7(E F:Nat->Int):UV
 |[bk,.x (.int .i64 d),.x (.int .i64 day)]=>some ([bk= .ro [i 4,i 10,sls n a b c lo hi,.lst 1 (2^n) (λz=>[i (E z)]),.lst 1 (2^n) (λz=>[i (F z)])],0<=d/\d<2^n],bl (decide (E d.toNat<=day)&&decide (F d.toNat>day)))
 |_=>none
theorem uF(E F:Nat->Int):VO VN 52 (M7 n a b c lo hi E F):=by
 refine ⟨(UF Tryz.func52),?_⟩;intro avs ns res h hn;unfold M7 at h;split at h
 ·cases h;rename_i bk d day;have e:=hn _ GD;rw [e];exact cO n a b c lo hi E F d day (hn _ VU)
 ·cases h
end
def hoF(n:Nat)(a b c:Nat->Int)(E F:Nat->Int)(ow day:Int):Nat->Int×Int
 | 0=>(1001,-1)
 |d+1=>match decide (E d<=day)&&decide (F d>day) with
  |true=>(min (hoF n a b c E F ow day d).1 (stF a b c d n ow.toNat),max (hoF n a b c E F ow day d).2 (stF a b c d n ow.toNat))
  |false=>hoF n a b c E F ow day d
theorem nth6(F:Nat->Int){q:Nat}(hq:q<6):U7 [F 0,F 1,F 2,F 3,F 4,F 5] q=F q:=by
 match q,hq with
 | 0,_=>rfl
 | 1,_=>rfl
 | 2,_=>rfl
 | 3,_=>rfl
 | 4,_=>rfl
 | 5,_=>rfl
section
variable (n:Nat)
abbrev WC(a:Nat->Int)(b:Nat->Int)(c:Nat->Int)(lo:Nat->Int)(hi:Nat->Int)(E:Nat->Int)(F:Nat->Int):AV:=AV.ro [iI 4,iI 10,Q0 n a b c lo hi,lst 1 (2^n) λz=>[iI (E z)],lst 1 (2^n) λz=>[iI (F z)]]
abbrev JP:List AV:=[iI 0,iI 0]
def Zp8(a b c lo hi:Nat->Int)(E F:Nat->Int)(ow day:Int):St:={σ:=[WC n a b c lo hi E F,iI ow,iI day,top,top,top,ptr 0 0,ptr 2 0]++HG 5 [ZF n]++HG 25 [],m:=[(2,GM.cells 37 [iI 1001,iI (-1:Int)]),(0,GM.cells 37 JP)],nx:=8}
noncomputable def Jo8:Code:=U8 (VQ (U6 Tryz.f29) 0)
def Wh9(a b c lo hi:Nat->Int)(E F:Nat->Int)(ow day:Int)(d:Nat):St:={σ:=H3 [(8,.top),(9,.top),(14,i d)] (Zp8 n a b c lo hi E F ow day).σ,m:=[(2,.cells 37 [i (hoF n a b c E F ow day (d)).1,i (hoF n a b c E F ow day (d)).2]),(0,.cells 37 [i 0,i 0])],nx:=8}
def CO(a b c lo hi:Nat->Int)(E F:Nat->Int)(ow day:Int)(d:Nat):G6->Option St
 | .exit 0=>some {σ:=H3 [(8,.top),(9,.top),(14,i (2^n))] (Zp8 n a b c lo hi E F ow day).σ,m:=[(2,.cells 37 [i (hoF n a b c E F ow day (2^n)).1,i (hoF n a b c E F ow day (2^n)).2]),(0,.cells 37 [i 0,i 0])],nx:=8}
 |_=>none
def Jk4(a b c lo hi:Nat->Int)(E F:Nat->Int)(ow day:Int):CT:= .leaf (.exit 0,(CO n a b c lo hi E F ow day 0 (.exit 0)).getD (Zp8 n a b c lo hi E F ow day))
def Xv9(a b c lo hi:Nat->Int)(E F:Nat->Int)(ow day:Int):UH:=(HF (Wh9 n a b c lo hi E F ow day (0)) (Jk4 n a b c lo hi E F ow day))
abbrev ZA:Prop:=ptr 2 0=ptr 2 0
theorem Jd2(a b c lo hi:Nat->Int)(E F:Nat->Int)(ow day:Int)(VR:sV n a b c lo hi)(UE:0<=ow/\ow<4):G7 VN (.loop Jo8) (Xv9 n a b c lo hi E F ow day):=by
 refine HE (L:=[]) (VJ.cons PL (VJ.cons DW (VJ.cons L9 (VJ.cons (uF n a b c lo hi E F) (VJ.cons (qT n a b c lo hi VR) (VJ.nil _)))))) VY U2 (X:=Nat) (Wh9 n a b c lo hi E F ow day) (λd=>d<=2^n) (λd=>2^n-d) (CO n a b c lo hi E F ow day) (x0:=0) VU ?_ ?_ ?_
 ·rintro d;kernel_rfl
 ·rintro d y E h;unfold CO at h;split at h
  ·cases h;kernel_rfl
  ·cases h
 ·rintro Q hQ d hx;refine ⟨(d+1),?_⟩;(with_reducible refine DF (t:=let z0:=(U7 [stF a b c (d:Int) n 0,stF a b c (d:Int) n 1,stF a b c (d:Int) n 2,stF a b c (d:Int) n 3,stF a b c (d:Int) n 4,stF a b c (d:Int) n 5] (Int.toNat ow));let z2:=hoF n a b c E F ow day;let z1:=(z2 d);let z3:=(VX (WC n a b c lo hi E F));(branch (decide ((d:Int)<2^n-1+1)) (need [z3,(0:Int)<=(d:Int)/\(d:Int)<2^n] (branch (decide (E d<=day)&&decide (F d>day)) (need [W2 n a b c lo hi,(0:Int)<=(d:Int)/\(d:Int)<256] (need [UI ow 6] (need [VK ((d:Int)+1)] (need [z3,ow=ow,day=day,QO,ZA,QH n,(d:Int)+1=(↑(d+1):Int),min (Prod.fst z1) z0=Prod.fst (z2 (d+1)),max (Prod.snd z1) z0=Prod.snd (z2 (d+1)),QT,QT] (leaf G6.normal))))) (need [VK ((d:Int)+1)] (need [z3,ow=ow,day=day,QO,ZA,QH n,(d:Int)+1=(↑(d+1):Int),Prod.fst z1=Prod.fst (z2 (d+1)),Prod.snd z1=Prod.snd (z2 (d+1)),QT,QT] (leaf G6.normal))))) (need [z3,ow=ow,day=day,QO,ZA,QH n,(d:Int)=2^n,Prod.fst z1=Prod.fst (z2 (2^n)),Prod.snd z1=Prod.snd (z2 (2^n)),QT,QT] (leaf (G6.exit 0))))) VS ?_);simp only [Jk4,CO,VL.sat,GS] at hQ;simp only [VL.sat,UA,UZ,GI,UC,VK,UG,H9,R0,RF,L1,GL,CO]
  have h8:=VR.1;have hp:=uG h8;have hpn:((2^n:Nat):Int)=2^n:=VU;refine ⟨λh=>?_,λh=>?_⟩
  ·have hd3:(d:Int)<2^n:=VI;have hd:d<2^n:=by
    have h':(d:Int)<((2^n:Nat):Int):=by rw [hpn];exact hd3
    exact Int.ofNat_lt.1 h'
   have hd2:=B9 h8 hd;have h6:=nth6 (stF a b c d n) (show ow.toNat<6 by omega)
   refine ⟨⟨VI,hd3⟩,λhb=>?_,λhb=>?_⟩
   ·refine ⟨hd2,⟨VI,VI⟩,VI,⟨VI,?_,?_⟩,hd,VI⟩
    ·simp only [hoF,hb];rw [h6]
    ·simp only [hoF,hb];rw [h6]
   ·refine ⟨VI,⟨VI,?_,?_⟩,hd,VI⟩
    ·simp only [hoF,hb]
    ·simp only [hoF,hb]
  ·have hd:d=2^n:=by
    have h': ¬(d:Int)<((2^n:Nat):Int):=by rw [hpn];omega
    omega
   subst hd;exact ⟨⟨hpn,rfl,rfl⟩,λE hE=>by cases hE;exact hQ⟩
theorem Qk5(a b c lo hi:Nat->Int)(E F:Nat->Int)(ow day:Int)(VR:sV n a b c lo hi)(UE:0<=ow/\ow<4):VW VN 29 [.ro [i 4,i 10,sls n a b c lo hi,.lst 1 (2^n) (λz=>[i (E z)]),.lst 1 (2^n) (λz=>[i (F z)])],i ow,i day] (.agg [i (hoF n a b c E F ow day (2^n)).1,i (hoF n a b c E F ow day (2^n)).2]):=by
 refine U0 (L:=[Xv9 n a b c lo hi E F ow day]) (VJ.cons PL (VJ.cons DW (VJ.cons L9 (VJ.cons (uF n a b c lo hi E F) (VJ.cons (qT n a b c lo hi VR) (VJ.nil _)))))) VY Tryz.func29 (US Tryz.f29) (G0 (lpE (b:= .loop Jo8) VS<|Jd2 n a b c lo hi E F ow day VR UE)) (t:=let z0:=hoF n a b c E F ow day;(need [n<=8] (need [VK ((2:Int)^n-1+1)] (need [VX (WC n a b c lo hi E F),ow=ow,day=day,QO,ZA,QH n,(0:Int)=(↑(0:Nat):Int),(1001:Int)=Prod.fst (z0 0),(-1:Int)=Prod.snd (z0 0),QT,QT] (leaf (RV.agg [RV.x (.int .i64 (Prod.fst (z0 (2^n)))),RV.x (.int .i64 (Prod.snd (z0 (2^n))))])))))) VS ?_
 have h8:=VR.1;have hp:=uG h8;have hpn:((2^n:Nat):Int)=2^n:=VU;simp only [VL.sat,UA,UZ,GI,UC,UG,VK,Prod.fst,Prod.snd]
 (with_reducible repeat' first|apply And.intro|intro _)
 all_goals first|exact True.intro|exact h8|omega|rfl
def mB(a b c lo hi:Nat->Int)(E F:Nat->Int):UV
 |[bk,.x (.int .i64 ow),.x (.int .i64 day)]=>some ([bk= .ro [i 4,i 10,sls n a b c lo hi,.lst 1 (2^n) (λz=>[i (E z)]),.lst 1 (2^n) (λz=>[i (F z)])],0<=ow/\ow<4],.agg [i (hoF n a b c E F ow day (2^n)).1,i (hoF n a b c E F ow day (2^n)).2])
 |_=>none
theorem yY(a b c lo hi:Nat->Int)(E F:Nat->Int)(VR:sV n a b c lo hi):VO VN 29 (mB n a b c lo hi E F):=by
 refine ⟨(UF Tryz.func29),?_⟩;intro avs ns res h hn;unfold mB at h;split at h
 ·cases h;rename_i bk ow day;have e:=hn _ GD;rw [e];exact Qk5 n a b c lo hi E F ow day VR (hn _ VU)
 ·cases h
def qJ(a b c lo hi:Nat->Int):Bool:=eD n a b c lo hi (2^n) (2^n-1) != 101
end
theorem aL{n:Nat}{a b c lo hi:Nat->Int}(h:sV n a b c lo hi):zT n a b c lo hi=true:=GR.2 h.2
section
variable (n:Nat)
abbrev X4(a:Nat->Int)(b:Nat->Int)(c:Nat->Int)(lo:Nat->Int)(hi:Nat->Int):List AV:=[agg [iI 4,iI 10,Q0 n a b c lo hi]]
theorem Qk3(a b c lo hi:Nat->Int)(rt:Bool)(VR:sV n a b c lo hi):UM VN 26 [.agg [i 4,i 10,sls n a b c lo hi],bl rt] (.branch (!rt) (.leaf (.tup [Bo.nilP,i 2])) (.branch (!qJ n a b c lo hi) (.leaf (.tup [Bo.nilP,i 9])) (.leaf (.tup [.ro [i 4,i 10,sls n a b c lo hi,.lst 1 (2^n) (λz=>[i (eD n a b c lo hi (2^n) z)]),.lst 1 (2^n) (λz=>[i (lS n a b c lo hi (2^n-1) z)])],i 0])))):=by
 refine GQ (L:=[]) (VJ.cons (yZ n a b c lo hi VR.1) (VJ.cons (hU n a b c lo hi (eD n a b c lo hi (2^n)) (lS n a b c lo hi (2^n-1)) VR.1) (VJ.nil _))) (VV.of (VP.cons (hZ n a b c lo hi VR) (VP.nil _)) (VM.nil _)) VY Tryz.func26 (US Tryz.f26) G4 (t:=let z0:=(AV.ro [iI 4,iI 10,Q0 n a b c lo hi,lst 1 (2^n) λz=>[iI (eD n a b c lo hi (2^n) z)],lst 1 (2^n) λz=>[iI (lS n a b c lo hi (2^n-1) z)]]);(need [VX (X4 n a b c lo hi)] (branch ((if zT n a b c lo hi=true then (0:Int) else (1:Int)) != 0) (leaf (tup [QE,iI (if zT n a b c lo hi=true then (0:Int) else (1:Int))])) (branch (!rt) (leaf (tup [QE,iI 2])) (need [VX (X4 n a b c lo hi)] (need [VX ([z0])] (branch (!eD n a b c lo hi (2^n) (2^n-1) != 101) (leaf (tup [QE,iI 9])) (leaf (tup [z0,iI 0]))))))))) VS ?_
 intro Q hQ;simp only [VL.sat,UA,UG] at hQ ⊢;rw [aL VR];refine ⟨λh=>by simp at h,λ_=>⟨λh=>⟨.tup [Bo.nilP,i 2],⟨rfl,⟨rfl,rfl⟩,True.intro⟩,hQ.1 h⟩,λh=>⟨λh2=>⟨.tup [Bo.nilP,i 9],⟨rfl,⟨rfl,rfl⟩,True.intro⟩,(hQ.2 h).1 h2⟩,λh2=>⟨.tup [.ro [i 4,i 10,sls n a b c lo hi,.lst 1 (2^n) (λz=>[i (eD n a b c lo hi (2^n) z)]),.lst 1 (2^n) (λz=>[i (lS n a b c lo hi (2^n-1) z)])],i 0],⟨rfl,⟨rfl,rfl⟩,True.intro⟩,(hQ.2 h).2 h2⟩⟩⟩⟩
theorem C6(a b c lo hi:Nat->Int)(VR:sV n a b c lo hi):UM VN 26 [.agg [i 4,i 10,sls n a b c lo hi],.lit true] (.branch (!true) (.leaf (.tup [Bo.nilP,i 2])) (.branch (!qJ n a b c lo hi) (.leaf (.tup [Bo.nilP,i 9])) (.leaf (.tup [.ro [i 4,i 10,sls n a b c lo hi,.lst 1 (2^n) (λz=>[i (eD n a b c lo hi (2^n) z)]),.lst 1 (2^n) (λz=>[i (lS n a b c lo hi (2^n-1) z)])],i 0])))):=by
 refine GQ (L:=[]) (VJ.cons (yZ n a b c lo hi VR.1) (VJ.cons (hU n a b c lo hi (eD n a b c lo hi (2^n)) (lS n a b c lo hi (2^n-1)) VR.1) (VJ.nil _))) (VV.of (VP.cons (hZ n a b c lo hi VR) (VP.nil _)) (VM.nil _)) VY Tryz.func26 (US Tryz.f26) G4 (t:=let z0:=(AV.ro [iI 4,iI 10,Q0 n a b c lo hi,lst 1 (2^n) λz=>[iI (eD n a b c lo hi (2^n) z)],lst 1 (2^n) λz=>[iI (lS n a b c lo hi (2^n-1) z)]]);(need [VX (X4 n a b c lo hi)] (branch ((if zT n a b c lo hi=true then (0:Int) else (1:Int)) != 0) (leaf (tup [QE,iI (if zT n a b c lo hi=true then (0:Int) else (1:Int))])) (need [VX (X4 n a b c lo hi)] (need [VX ([z0])] (branch (!eD n a b c lo hi (2^n) (2^n-1) != 101) (leaf (tup [QE,iI 9])) (leaf (tup [z0,iI 0])))))))) VS ?_
 intro Q hQ;simp only [VL.sat,UA,UG] at hQ ⊢;rw [aL VR]
 replace hQ:=hQ.2 rfl
 refine ⟨λh=>by simp at h,λ_=>⟨λh2=>⟨.tup [Bo.nilP,i 9],⟨rfl,⟨rfl,rfl⟩,True.intro⟩,hQ.1 h2⟩,λh2=>⟨.tup [.ro [i 4,i 10,sls n a b c lo hi,.lst 1 (2^n) (λz=>[i (eD n a b c lo hi (2^n) z)]),.lst 1 (2^n) (λz=>[i (lS n a b c lo hi (2^n-1) z)])],i 0],⟨rfl,⟨rfl,rfl⟩,True.intro⟩,hQ.2 h2⟩⟩⟩
theorem rG(a b c lo hi:Nat->Int)(VR:sV n a b c lo hi):UM VN 26 [.agg [i 4,i 10,sls n a b c lo hi],.lit false] (.branch (!false) (.leaf (.tup [Bo.nilP,i 2])) (.branch (!qJ n a b c lo hi) (.leaf (.tup [Bo.nilP,i 9])) (.leaf (.tup [.ro [i 4,i 10,sls n a b c lo hi,.lst 1 (2^n) (λz=>[i (eD n a b c lo hi (2^n) z)]),.lst 1 (2^n) (λz=>[i (lS n a b c lo hi (2^n-1) z)])],i 0])))):=by
 refine GQ (L:=[]) (VJ.cons (yZ n a b c lo hi VR.1) (VJ.cons (hU n a b c lo hi (eD n a b c lo hi (2^n)) (lS n a b c lo hi (2^n-1)) VR.1) (VJ.nil _))) (VV.of (VP.cons (hZ n a b c lo hi VR) (VP.nil _)) (VM.nil _)) VY Tryz.func26 (US Tryz.f26) G4 (t:=need [VX (X4 n a b c lo hi)] (branch ((if zT n a b c lo hi=true then (0:Int) else (1:Int)) != 0) (leaf (tup [QE,iI (if zT n a b c lo hi=true then (0:Int) else (1:Int))])) (leaf (tup [QE,iI 2])))) VS ?_
 intro Q hQ;simp only [VL.sat,UA,UG] at hQ ⊢;rw [aL VR];exact ⟨λh=>by simp at h,λ_=>⟨.tup [Bo.nilP,i 2],⟨rfl,⟨rfl,rfl⟩,True.intro⟩,hQ.1 rfl⟩⟩
def M6(a b c lo hi:Nat->Int):D7:=λl=>match l with
 |[bt,.x (.bool rt)]=>some (.need [bt= .agg [i 4,i 10,sls n a b c lo hi]] (.branch (!rt) (.leaf (.tup [Bo.nilP,i 2])) (.branch (!qJ n a b c lo hi) (.leaf (.tup [Bo.nilP,i 9])) (.leaf (.tup [.ro [i 4,i 10,sls n a b c lo hi,.lst 1 (2^n) (λz=>[i (eD n a b c lo hi (2^n) z)]),.lst 1 (2^n) (λz=>[i (lS n a b c lo hi (2^n-1) z)])],i 0])))))
 |[bt,.lit rt]=>some (.need [bt= .agg [i 4,i 10,sls n a b c lo hi]] (.branch (!rt) (.leaf (.tup [Bo.nilP,i 2])) (.branch (!qJ n a b c lo hi) (.leaf (.tup [Bo.nilP,i 9])) (.leaf (.tup [.ro [i 4,i 10,sls n a b c lo hi,.lst 1 (2^n) (λz=>[i (eD n a b c lo hi (2^n) z)]),.lst 1 (2^n) (λz=>[i (lS n a b c lo hi (2^n-1) z)])],i 0])))))
 |_=>none
theorem yW(a b c lo hi:Nat->Int)(VR:sV n a b c lo hi):Sx.Enters Tryz.prog 26/\ ∀avs t,M6 n a b c lo hi avs=some t->UM VN 26 avs t:=by
 refine ⟨(UF Tryz.func26),?_⟩;intro avs t h;unfold M6 at h;split at h
 ·cases h;intro Q hQ;have e:=hQ.1
  dsimp only [UA] at e
  subst e;exact Qk3 n a b c lo hi _ VR Q hQ.2
 ·cases h;intro Q hQ;have e:=hQ.1
  dsimp only [UA] at e
  subst e;rename_i rt;cases rt
  ·exact rG n a b c lo hi VR Q hQ.2
  ·exact C6 n a b c lo hi VR Q hQ.2
 ·cases h
def dM{α:Type}(f:Nat->Option α):Nat->Nat->Option α
 |_,0=>none
 |s,k+1=>match f s with
  |some r=>some r
  |none=>dM f (s+1) k
def orQ(a b c lo hi:Nat->Int)(g:Nat->Int->Option (List (Nat×Int)))(d:Nat)(day:Int)(q:Nat):Option (List (Nat×Int)):=
 if max day (lo (UQ (DR n a b c d) n q))>hi (UQ (DR n a b c d) n q) then none else
  match g (d ||| 2^UQ (DR n a b c d) n q) (max day (lo (UQ (DR n a b c d) n q))) with
  |some l=>some (l++[(UQ (DR n a b c d) n q,max day (lo (UQ (DR n a b c d) n q)))])
  |none=>none
end
def orF(n:Nat)(a b c lo hi:Nat->Int):Nat->Nat->Int->Option (List (Nat×Int))
 | 0,_,_=>none
 |N+1,d,day=>if d=2^n-1 then some [] else dM (orQ n a b c lo hi (orF n a b c lo hi N) d day) 0 (quN n a b c d)
def orS(n:Nat)(a b c lo hi:Nat->Int)(d:Nat)(day:Int):Option (List (Nat×Int)):=orF n a b c lo hi (2^n) d day
def orL(l:List (Nat×Int)):List Int:=l.map λp=>(p.1:Int)
def dyU:List (Nat×Int)->(Nat->Int)->Nat->Int
 |[],f=>f
 |p::t,f=>dyU t (UO p.1 p.2 f)
section
variable (n:Nat)(a b c lo hi:Nat->Int)
def orG(d:Nat)(day:Int):List (Nat×Int):=(orS n a b c lo hi d day).getD []
def orH(x:Value):Prop:= ∃(d:Nat) (day:Int),x= .agg #[.int .i64 d,.int .i64 day]/\d<2^n/\orS n a b c lo hi d day=none
end
def orV:Value->Value:=λ_=> .bool true
def stK(x:Value):Prop:= ∃(d day:Int),x= .agg #[.int .i64 d,.int .i64 day]
theorem Wd4(l m:List Int): ∀k,U7 (l++m) k=if k<l.length then U7 l k else U7 m (k-l.length):=by
 induction l with
 |nil=>intro k;simp
 |cons x l ih=>
  intro k;cases k with
  |zero=>simp [U7]
  |succ k=>
   show U7 (l++m) k=_;rw [ih];simp only [List.length_cons,Nat.add_lt_add_iff_right,Nat.add_sub_add_right];rfl
theorem E9: ∀{l:List Int} {k:Nat} (h:k<l.length),U7 l k=l[k]
 |x::l,0,h=>rfl
 |x::l,k+1,h=>E9 (l:=l) (k:=k) (by simpa using h)
theorem dL{α:Type}{f:Nat->Option α}: ∀{k s:Nat},dM f s k=none↔ ∀j,s<=j->j<s+k->f j=none
 | 0,s=>⟨λ_ j h1 h2=>VI,λ_=>rfl⟩
 |k+1,s=>by
  unfold dM;cases h:f s with
  |some r=>exact ⟨λh1=>(by cases h1),λh1=>(by rw [h1 s (Nat.le_refl _) VI] at h;cases h)⟩
  |none=>
   simp only;rw [dL];refine ⟨λh1 j h2 h3=>?_,λh1 j h2 h3=>h1 j VI VI⟩
   rcases (show j=s\/s+1<=j by omega) with rfl|h4
   ·exact h
   ·exact h1 j h4 VI
theorem OD{α:Type}{f:Nat->Option α}{r:α}{q:Nat}(hq:f q=some r): ∀{k s:Nat},s<=q->q<s+k->(∀j,s<=j->j<q->f j=none)->dM f s k=some r
 | 0,s,h1,h2,_=>VI
 |k+1,s,h1,h2,h3=>by
  unfold dM;rcases (show s=q\/s<q by omega) with rfl|h4
  ·rw [hq]
  ·rw [h3 s (Nat.le_refl _) h4];exact OD hq h4 VI (λj h5 h6=>h3 j VI h6)
theorem I7{α:Type}{f g:Nat->Option α}: ∀{k s:Nat},(∀j,s<=j->j<s+k->f j=g j)->dM f s k=dM g s k
 | 0,_,_=>rfl
 |k+1,s,h=>by
  unfold dM;rw [h s (Nat.le_refl _) VI,I7 (λj h1 h2=>h j VI VI)]
theorem rS{n:Nat}(h:n<=8):2^n<=256:=by
 have:=uG h;have hpn:((2^n:Nat):Int)=2^n:=VU;omega
theorem Xq3{n:Nat}{a b c:Nat->Int}{d q:Nat}(h8:n<=8)(hd:d<2^n)(hq:q<quN n a b c d):d<d ||| 2^UQ (DR n a b c d) n q:=by
 have hs:=xW hq;have h2:=rS h8;have hb:gD d (UQ (DR n a b c d) n q)=false:=by
  have:=hs.2;unfold DR at this;rw [H2] at this;have h1:=this.1;unfold DR;simpa using h1
 rw [gC VI] at hb;have hle:d<=d ||| 2^UQ (DR n a b c d) n q:=Nat.left_le_or
 rcases Nat.lt_or_eq_of_le hle with h|h
 ·exact h
 ·exfalso;have:(d ||| 2^UQ (DR n a b c d) n q).testBit (UQ (DR n a b c d) n q)=true:=by
   rw [Nat.testBit_or,Nat.testBit_two_pow_self,Bool.or_true]
  rw [←h,hb] at this;cases this
theorem cW{n:Nat}{a b c lo hi:Nat->Int}(h8:n<=8): ∀(N N' d:Nat) (day:Int),d<2^n->2^n-d<=N->2^n-d<=N'->orF n a b c lo hi N d day=orF n a b c lo hi N' d day
 | 0,_,d,_,h1,h2,_=>VI
 |N+1,0,d,_,h1,_,h3=>VI
 |N+1,N'+1,d,day,h1,h2,h3=>by
  simp only [orF];split
  ·rfl
  ·refine I7 λq _ hq=>?_
   have hq:q<quN n a b c d:=VI;have hg:=Xq3 h8 h1 hq;have hl:=cU h1 (xW hq).1;unfold orQ;rw [cW h8 N N' _ _ hl VI VI]
section
variable {n:Nat}{a b c lo hi:Nat->Int}
theorem nY(h8:n<=8){d:Nat}(day:Int)(hd:d<2^n):orS n a b c lo hi d day=if d=2^n-1 then some [] else dM (orQ n a b c lo hi (orS n a b c lo hi) d day) 0 (quN n a b c d):=by
 have h:orS n a b c lo hi d day=orF n a b c lo hi (2^n+1) d day:=cW h8 _ _ _ _ hd VI VI;rw [h];rfl
theorem Wc4(h8:n<=8)(day:Int):orS n a b c lo hi (2^n-1) day=some []:=by
 have:=rS h8;have:0<2^n:=Nat.two_pow_pos n;rw [nY h8 day VI,if_pos rfl]
end
theorem Xd6(l:List (Nat×Int))(p:Nat×Int):orL (l++[p])=orL l++[(p.1:Int)]:=by simp [orL]
theorem Qc3: ∀(l:List (Nat×Int)) (p:Nat×Int) (f:Nat->Int),dyU (l++[p]) f=UO p.1 p.2 (dyU l f)
 |[],_,_=>rfl
 |_::t,p,f=>Qc3 t p _
theorem tU{n:Nat}{a b c lo hi:Nat->Int}: ∀(N d:Nat) (day:Int) (l:List (Nat×Int)),orF n a b c lo hi N d day=some l->l.length<=N
 | 0,_,_,_,h=>by simp [orF] at h
 |N+1,d,day,l,h=>by
  simp only [orF] at h;split at h
  ·cases h;exact Nat.zero_le _
  ·obtain ⟨q,hq⟩: ∃q,orQ n a b c lo hi (orF n a b c lo hi N) d day q=some l:=by
    refine Classical.byContradiction λhno=>?_
    rw [dL.2 (λj _ _=>?_)] at h
    ·cases h
    ·cases hj:orQ n a b c lo hi (orF n a b c lo hi N) d day j with
     |none=>rfl
     |some r=>
      exfalso;have: ∀(f:Nat->Option (List (Nat×Int))) (k s:Nat) (r:List (Nat×Int)),dM f s k=some r-> ∃q,f q=some r:=by
       intro f k
       induction k with
       |zero=>intro s r h;cases h
       |succ k ih=>
        intro s r h;unfold dM at h;cases hf:f s with
        |some r'=>rw [hf] at h;cases h;exact ⟨s,hf⟩
        |none=>rw [hf] at h;exact ih _ _ h
      exact hno (this _ _ _ _ h)
   unfold orQ at hq;split at hq
   ·cases hq
   ·split at hq
    ·rename_i l' hl';cases hq;have:=tU N _ _ _ hl';rw [List.length_append];simp;omega
    ·cases hq
theorem tQ(n:Nat)(a b c lo hi:Nat->Int)(d:Nat)(day:Int):(orG n a b c lo hi d day).length<=2^n:=by
 unfold orG;cases h:orS n a b c lo hi d day with
 |none=>exact Nat.zero_le _
 |some l=>exact tU _ _ _ _ h
theorem NP(d day:Int):FC Tryz.prog 329 stK (.agg #[.int .i64 d,.int .i64 day]) (.bool false):=by
 refine ⟨⟨332,4,(match Tryz.prog.underlying 332 with|some (.struct fs)=>fs|_=>#[]),VS,VS,?_,?_,?_⟩,by simp [Instr.sameBits]⟩
 ·intro b' w;kernel_rfl
 ·rintro k' ⟨d',day',rfl⟩ w;refine ⟨d==d'&&(day==day'&&true),xG (P:=Tryz.prog) (e:=PD w w) Op.maxDepth 332 (.agg [i d,i day]) (.agg [i d',i day']) _ _ _ VS (Rep.aggL (U1.cons (.x _) (U1.one (.x _)))) (Rep.aggL (U1.cons (.x _) (U1.one (.x _)))),λh=>?_⟩
  simp only [Bool.and_true,H2,beq_iff_eq] at h;obtain ⟨rfl,rfl⟩:=h;rfl
 ·intro w;kernel_rfl
theorem Wc5{n:Nat}{a b c lo hi:Nat->Int}{x:Value}(h:orH n a b c lo hi x):stK x:=by
 obtain ⟨d,day,h,_⟩:=h;exact ⟨_,_,h⟩
section
variable (n:Nat)(a b c lo hi:Nat->Int)(ea la:AV)
def OM(d:Nat)(day:Int)(ord:List Int)(dy:Nat->Int)(oa:Option Addr)(ol oc:Nat)(da:Option Addr)(dl dc:Nat):GY:=[(3,.cells 61 [.row 900]),(3,.cells 61 [.x (.slice oa ol oc)]),(900,.row 3 1 ord.length (λj=>[i (U7 ord j)])),(5,.memo (orH n a b c lo hi) orV),(7,.row 3 1 n (λj=>[i (dy j)])),(0,.keep 84 [.ro [i 4,i 10,sls n a b c lo hi,ea,la]]),(1,.keep 329 [.mp 5]),(2,.keep 330 [.fn (.func 222) [] [.ptr 0 0,.ptr 1 0,.ptr 2 0,.ptr 3 0,.ptr 4 0]]),(4,.cells 61 [.row 7]),(4,.cells 61 [.x (.slice da dl dc)])]
def OT_(d:Nat)(day:Int)(ord:List Int)(dy:Nat->Int)(oa:Option Addr)(ol oc:Nat)(da:Option Addr)(dl dc:Nat)(l:List (Nat×Int)):St:={σ:=[],m:=[(3,.cells 61 [.row 900]),(900,.row 3 1 (ord++orL l).length (λj=>[i (U7 (ord++orL l) j)])),(5,.memo (orH n a b c lo hi) orV),(7,.row 3 1 n (λj=>[i ((dyU l dy) j)])),(0,.keep 84 [.ro [i 4,i 10,sls n a b c lo hi,ea,la]]),(1,.keep 329 [.mp 5]),(2,.keep 330 [.fn (.func 222) [] [.ptr 0 0,.ptr 1 0,.ptr 2 0,.ptr 3 0,.ptr 4 0]]),(4,.cells 61 [.row 7]),(4,.cells 61 [.x (.slice da dl dc)])],nx:=901,sv:=[[.ptr 0 0,.ptr 1 0,.ptr 2 0,.ptr 3 0,.ptr 4 0]] }
def OF_(d:Nat)(day:Int)(ord:List Int)(dy:Nat->Int)(oa:Option Addr)(ol oc:Nat)(da:Option Addr)(dl dc:Nat):St:={σ:=[],m:=[(3,.cells 61 [.row 900]),(3,.cells 61 [.x (.slice oa ol oc)]),(900,.row 3 1 ord.length (λj=>[i (U7 ord j)])),(5,.memo (orH n a b c lo hi) orV),(7,.row 3 1 n (λj=>[i (dy j)])),(0,.keep 84 [.ro [i 4,i 10,sls n a b c lo hi,ea,la]]),(1,.keep 329 [.mp 5]),(2,.keep 330 [.fn (.func 222) [] [.ptr 0 0,.ptr 1 0,.ptr 2 0,.ptr 3 0,.ptr 4 0]]),(4,.cells 61 [.row 7]),(4,.cells 61 [.x (.slice da dl dc)])],nx:=901,sv:=[[.ptr 0 0,.ptr 1 0,.ptr 2 0,.ptr 3 0,.ptr 4 0]] }
end
def NN:List (Nat×Nat)->Bool
 |[]=>true
 |(x,y)::t=>match Nat.beq x y with
  |true=>NN t
  |false=>false
def Xf0:GM->Bool
 | .aka _ _ _ _ _=>true
 |_=>false
def oA:GY->GY
 |[]=>[]
 |(k,r)::t=>match Xf0 r with
  |true=>oA t
  |false=>(k,r)::oA t
def x8(k:Nat)(g:Nat->List AV):List Int:=(List.range k).map (col 0 g)
def mO(n:Nat)(a b c lo hi:Nat->Int)(N:Nat):HY:=λavs m nx sv=>match avs with
 |[.agg [.x (.int .i64 d),.x (.int .i64 day)],.ptr k z0,.ptr g z1,.ptr f z2,.ptr o z3,.ptr dd z4]=>match DA m k,DA m g,DA m f,DA m o,DA m dd with
  |some (.keep Tk [.ro [c1,c2,sl,ea,la]]),some (.keep Tg [.mp mg]),some (.keep Tf [.fn (.func fg) [] [.ptr k' y0,.ptr g' y1,.ptr f' y2,.ptr o' y3,.ptr d' y4]]),some (.cells To [.row q]),some (.cells Td [.row r])=>match DA m mg,DA m q,DA m r with
   |some (.memo h ff),some (.row T1 s1 k1 g1),some (.row T2 s2 k2 g2)=>
    match NN [(z0,0),(z1,0),(z2,0),(z3,0),(z4,0),(y0,0),(y1,0),(y2,0),(y3,0),(y4,0),(Tk,84),(Tg,329),(Tf,330),(To,61),(Td,61),(fg,222),(k,k'),(g,g'),(f,f'),(o,o'),(dd,d'),(T1,3),(s1,1),(T2,3),(s2,1)]&&(!Nat.beq q r&& !Nat.beq o dd) with
    |true=>some (.needT [c1=i 4,c2=i 10,sl=sls n a b c lo hi,∀x,h x->orH n a b c lo hi x/\ff x=orV x,UD 1 k1 g1,UD 1 k2 g2,k2=n,0<=d/\d<2^n,2^n-d.toNat<=N,0<=day/\day<=100,k1<=1000]
      (.branch (orS n a b c lo hi d.toNat day).isSome
       (.leaf (.lit true,(nx,.row 3 1 (x8 k1 g1++orL (orG n a b c lo hi d.toNat day)).length (λj=>[i (U7 (x8 k1 g1++orL (orG n a b c lo hi d.toNat day)) j)]))::qA (qA (qA (j6 (oA m) q) o (.cells 61 [.row nx])) r (.row 3 1 n (λj=>[i (dyU (orG n a b c lo hi d.toNat day) (col 0 g2) j)]))) mg (.memo (orH n a b c lo hi) orV),nx+1,sv))
       (.leaf (.lit false,qA (qA (qA (oA m) q (.row 3 1 k1 g1)) r (.row 3 1 n g2)) mg (.memo (orH n a b c lo hi) orV),nx,sv))))
    |false=>none
   |_,_,_=>none
  |_,_,_,_,_=>none
 |_=>none
theorem Jg9{l:List Int}{x:Int}{j:Nat}(h:j<l.length+1):GG l.length (λj=>[i (U7 l j)]) (U4 1 [i x]) j=[i (U7 (l++[x]) j)]:=by
 rw [Wd4];show H6 (decide (j<l.length)) _ (U4 1 [i x] (j-l.length))=_;rw [show j-l.length=0 by omega]
 by_cases hj:j<l.length
 ·rw [decide_eq_true hj,if_pos hj];rfl
 ·rw [decide_eq_false hj,if_neg hj];rfl
theorem nI(n:Nat)(f:Nat->Int):UD 1 n (λj=>[i (f j)]):=λj _=>rfl
theorem SZ(l:List Int):x8 l.length (λj=>[i (U7 l j)])=l:=by
 unfold x8;apply List.ext_getElem?;intro j;rcases Nat.lt_or_ge j l.length with hj|hj
 ·rw [List.getElem?_map,List.getElem?_range hj,HX VI];simp only [Option.map_some,HC];unfold col;show U7 l j=l[j];exact E9 VI
 ·rw [List.getElem?_eq_none (by simp;omega),List.getElem?_eq_none VI]
abbrev QM:AV:=AV.fn (Fn.func 222) [] [ptr 0 0,ptr 1 0,ptr 2 0,ptr 3 0,ptr 4 0]
section
variable (n:Nat)(a b c lo hi:Nat->Int)(ea la:AV)(d:Nat)(day:Int)(ord:List Int)(dy:Nat->Int)(oa:Option Addr)(ol oc:Nat)(da:Option Addr)(dl dc:Nat)
def Wz6(N:Nat):St:={σ:=[agg [iI (d:Int),iI day],ptr 0 0,ptr 1 0,ptr 2 0,ptr 3 0,ptr 4 0,ptr 901 0,ptr 902 0]++HG 14 [AV.fn (Fn.func 108) [] [AV.ro [QQ n a b c lo hi ea la],AV.ro [iI (d:Int)]]]++HG 33 [],m:=[(902,GM.cells 4 [AV.x (WM)]),(901,GM.cells 332 [iI (d:Int),iI day]),(3,GM.cells 61 [AV.row 900]),(3,GM.cells 61 [AV.x (.slice oa ol oc)]),(900,GM.row 3 1 (List.length ord) λj=>[iI (U7 ord j)]),(5,GM.memo (λx=>orH n a b c lo hi x) λa=>Value.bool true),(7,GM.row 3 1 n λj=>[iI (dy j)]),(0,GM.keep 84 [QQ n a b c lo hi ea la]),(1,GM.keep 329 [AV.mp 5]),(2,GM.keep 330 [QM]),(4,GM.cells 61 [AV.row 7]),(4,GM.cells 61 [AV.x (.slice da dl dc)])],nx:=915,sv:=[[ptr 0 0,ptr 1 0,ptr 2 0,ptr 3 0,ptr 4 0]] }
noncomputable def Jq3:Code:=SP (VQ (U6 Tryz.f222) 0)
noncomputable def Jo2:Code:=SO (VQ (U6 Tryz.f222) 0)
def Wh2(N:Nat)(k:Nat):St:={σ:=H3 [(8,.top),(9,.top),(10,.top)] (Wz6 n a b c lo hi ea la d day ord dy oa ol oc da dl dc N).σ,m:=[(902,.cells 4 [.x (.bool false)]),(901,.cells 332 [i d,i day]),(3,.cells 61 [.row 900]),(3,.cells 61 [.x (.slice oa ol oc)]),(900,.row 3 1 ord.length (λj=>[i (U7 ord j)])),(5,.memo (orH n a b c lo hi) orV),(7,.row 3 1 n (λj=>[i (dy j)])),(0,.keep 84 [.ro [i 4,i 10,sls n a b c lo hi,ea,la]]),(1,.keep 329 [.mp 5]),(2,.keep 330 [.fn (.func 222) [] [.ptr 0 0,.ptr 1 0,.ptr 2 0,.ptr 3 0,.ptr 4 0]]),(4,.cells 61 [.row 7]),(4,.cells 61 [.x (.slice da dl dc)])],nx:=920,sv:=[[.ptr 0 0,.ptr 1 0,.ptr 2 0,.ptr 3 0,.ptr 4 0]] }
def v8(N:Nat)(k:Nat):G6->Option St
 | .normal=>some {σ:=H3 [(8,.top),(9,.top),(10,.top)] (Wz6 n a b c lo hi ea la d day ord dy oa ol oc da dl dc N).σ,m:=[(902,.cells 4 [.x (.bool false)]),(901,.cells 332 [i d,i day]),(3,.cells 61 [.row 900]),(3,.cells 61 [.x (.slice oa ol oc)]),(900,.row 3 1 ord.length (λj=>[i (U7 ord j)])),(5,.memo (orH n a b c lo hi) orV),(7,.row 3 1 n (λj=>[i (dy j)])),(0,.keep 84 [.ro [i 4,i 10,sls n a b c lo hi,ea,la]]),(1,.keep 329 [.mp 5]),(2,.keep 330 [.fn (.func 222) [] [.ptr 0 0,.ptr 1 0,.ptr 2 0,.ptr 3 0,.ptr 4 0]]),(4,.cells 61 [.row 7]),(4,.cells 61 [.x (.slice da dl dc)])],nx:=920,sv:=[[.ptr 0 0,.ptr 1 0,.ptr 2 0,.ptr 3 0,.ptr 4 0]] }
 | .ret=>some {σ:=H3 [(8,.top),(9,.top),(10,.top)] (Wz6 n a b c lo hi ea la d day ord dy oa ol oc da dl dc N).σ,m:=[(902,.cells 4 [.lit true]),(901,.cells 332 [i d,i day]),(3,.cells 61 [.row 900]),(900,.row 3 1 (ord++orL (orG n a b c lo hi d day)).length (λj=>[i (U7 (ord++orL (orG n a b c lo hi d day)) j)])),(5,.memo (orH n a b c lo hi) orV),(7,.row 3 1 n (λj=>[i ((dyU (orG n a b c lo hi d day) dy) j)])),(0,.keep 84 [.ro [i 4,i 10,sls n a b c lo hi,ea,la]]),(1,.keep 329 [.mp 5]),(2,.keep 330 [.fn (.func 222) [] [.ptr 0 0,.ptr 1 0,.ptr 2 0,.ptr 3 0,.ptr 4 0]]),(4,.cells 61 [.row 7]),(4,.cells 61 [.x (.slice da dl dc)])],nx:=920,sv:=[[.ptr 0 0,.ptr 1 0,.ptr 2 0,.ptr 3 0,.ptr 4 0]] }
 |_=>none
def Zm6(N:Nat):CT:= .branch (orS n a b c lo hi d day).isSome (.leaf (.ret,(v8 n a b c lo hi ea la d day ord dy oa ol oc da dl dc N 0 .ret).getD (Wz6 n a b c lo hi ea la d day ord dy oa ol oc da dl dc N))) (.leaf (.normal,(v8 n a b c lo hi ea la d day ord dy oa ol oc da dl dc N 0 .normal).getD (Wz6 n a b c lo hi ea la d day ord dy oa ol oc da dl dc N)))
def Xv0(N:Nat):UH:=GJ [(.cell 3 0,900,3,1)] (HF (Wh2 n a b c lo hi ea la d day ord dy oa ol oc da dl dc N (0)) (Zm6 n a b c lo hi ea la d day ord dy oa ol oc da dl dc N))
end
abbrev ZV:Prop:=AV.row 900=AV.row 900
abbrev J6:Prop:=AV.row 7=AV.row 7
abbrev JK:Prop:=AV.mp 5=AV.mp 5
abbrev JV(ord:List Int):Prop:=List.length ord=List.length ord
abbrev KS:Prop:=ptr 901 0=ptr 901 0
abbrev KT:Prop:=ptr 902 0=ptr 902 0
theorem Zz9(n:Nat)(a b c lo hi:Nat->Int)(ea la:AV)(d:Nat)(day:Int)(ord:List Int)(dy:Nat->Int)(oa:Option Addr)(ol oc:Nat)(da:Option Addr)(dl dc:Nat)(N:Nat)(VR:sV n a b c lo hi)(UE:d<2^n/\d≠2^n-1)(HP:2^n-d<=N+1)(DZ:0<=day/\day<=100)(BM:ord.length<=1000)(z6:G9 VN 222 (mO n a b c lo hi N)):HO VN (.rangeFunc (rfF (VQ (U6 Tryz.f222) 0)) (jG (VQ (U6 Tryz.f222) 0)) Jq3 Jo2) (Xv0 n a b c lo hi ea la d day ord dy oa ol oc da dl dc N):=by
 refine P9 [(.cell 3 0,900,3,1)] (X:={R:=[(79,A6)],H:=[(222,(mO n a b c lo hi N))] }) (L:=[]) (VJ.cons DW (VJ.cons L9 (VJ.nil _))) (VV.of (VP.cons NE (VP.nil _)) (VM.cons z6 (VM.nil _))) VY U2 (V:=Nat) (Wh2 n a b c lo hi ea la d day ord dy oa ol oc da dl dc N) (λk=>k<=(quN n a b c d)/\ ∀j,j<k->orQ n a b c lo hi (orS n a b c lo hi) d day j=none) (λk=>k) (v8 n a b c lo hi ea la d day ord dy oa ol oc da dl dc N) (x0:=0) ⟨Nat.zero_le _,λj h=>absurd h (Nat.not_lt_zero _)⟩ rfl ?_ ?_ ?_ ?_ (g:=108) (caps:=[.ro [.ro [i 4,i 10,sls n a b c lo hi,ea,la]],.ro [i d]]) VS VS (yX ea la n a b c lo hi d VR (B9 VR.1 UE.1)) (λ_=>rfl) ?_
 ·rintro k;kernel_rfl
 ·rintro k y E h;unfold v8 at h;split at h
  ·cases h;kernel_rfl
  ·cases h;kernel_rfl
  ·cases h
 ·rintro k;rfl
 ·rintro k y E h;unfold v8 at h;split at h
  ·cases h;rfl
  ·cases h;rfl
  ·cases h
 ·rintro Q hQ k hx;refine ⟨λhlt=>⟨(k+1),rfl,?_⟩,λPJ=>?_⟩
  ·(with_reducible refine DF (t:=let z5:=(DR n a b c (d:Int));let z3:=(UQ z5 n k);let z6:=(VX (AV.fn (Fn.func 108) [] [AV.ro [QQ n a b c lo hi ea la],AV.ro [iI (d:Int)]]));let z10:=(x8 (List.length ord) λj=>[i (U7 ord j)]);let z1:=(BitVec.toNat (BitVec.ofInt 64 (d:Int) ||| BitVec.ofInt 64 ((1:Int)*2^UQ z5 n k)));let z8:=(IntKind.wrap IntKind.i64 (z1:Int));let z4:=(orG n a b c lo hi (Int.toNat z8) (max day (lo z3)));let z9:=(orG n a b c lo hi d day);let z7:=orH n a b c lo hi;let z0:=(need [UI z3 n] (need [UQ z5 n k<n] (need [VX (agg [iI (d:Int),iI day]),QO,XV,ZA,ZG,W5,KS,KT,z6,VX (AV.lit true),VX (d:Int),day=day,ZV,List.length (z10++orL z4)+1=List.length (ord++orL z9),∀(i:Nat),i<List.length (ord++orL z9)->GG (List.length ((x8 (List.length ord) λj=>[iI (U7 ord j)])++orL z4)) (λj=>[iI (U7 ((x8 (List.length ord) λj=>[iI (U7 ord j)])++orL z4) j)]) (U4 1 [iI (z3:Int)]) i=[iI (U7 (ord++orL z9) i)],∀(k:Value),z7 k->z7 k/\orV k=orV k,n=n,∀(i:Nat),i<n->H6 (decide (i=UQ z5 n k)) [iI (max day (lo z3))] [iI (dyU z4 dy i)]=[iI (dyU z9 dy i)],ZN n a b c lo hi ea la,JK,QM=QM,J6,VX (AV.x (.slice da dl dc)),QO,XV,ZA,ZG,W5] (leaf G6.ret))));let z2:=(need [VX (agg [iI (d:Int),iI day]),QO,XV,ZA,ZG,W5,KS,KT,z6,false=false,VX (d:Int),day=day,ZV,VX (AV.x (.slice oa ol oc)),JV ord,∀(i:Nat),i<List.length ord->[iI (U7 ord i)]=[iI (U7 ord i)],∀(k:Value),z7 k->z7 k/\orV k=orV k,n=n,∀(i:Nat),i<n->[iI (dy i)]=[iI (dy i)],ZN n a b c lo hi ea la,JK,QM=QM,J6,VX (AV.x (.slice da dl dc)),QO,XV,ZA,ZG,W5] (leaf G6.normal));(branch (decide (max day (lo z3)>hi z3)) z2 (need [(0:Int)<=(z3:Int)/\(z3:Int)<=64,VK ((1:Int)*2^UQ z5 n k)] (need [VX (iI 4),VX (iI 10),W2 n a b c lo hi,∀(x:Value),z7 x->z7 x/\orV x=orV x,UD 1 (List.length ord) λj=>[i (U7 ord j)],UD 1 n λj=>[i (dy j)],n=n,(0:Int)<=IntKind.wrap IntKind.i64 (z1:Int)/\IntKind.wrap IntKind.i64 (z1:Int)<2^n,2^n-Int.toNat z8<=N,(0:Int)<=max day (lo z3)/\max day (lo z3)<=100,List.length ord<=1000] (branch (Option.isSome (orS n a b c lo hi (Int.toNat z8) (max day (lo z3)))) (need [(List.length (z10++orL z4)+1)*8<=140737488355328,RS 1 (U4 1 [iI (z3:Int)])] (VL.may True z0 (VL.may True z0 z0))) z2))))) VS ?_)
   simp only [Zm6,v8,VL.sat,GS] at hQ;obtain ⟨x1,x2⟩:=hx;have h8:=VR.1;have hd:=UE.1;have hd2:=B9 h8 hd;have hpn:((2^n:Nat):Int)=2^n:=VU;have h256:=rS h8;have hs:=xW hlt;have hor:=Wc2 h8 hd hs.1;have hol:=cU hd hs.1;have hgt:=Xq3 h8 hd hlt;have hsv:=AU VR hs.1;have h2s:(1:Int)<=2^UQ (DR n a b c d) n k/\(2:Int)^UQ (DR n a b c d) n k<=256:=uG VI;have BR:orS n a b c lo hi d day=dM (orQ n a b c lo hi (orS n a b c lo hi) d day) 0 (quN n a b c d):=by
    rw [nY h8 day hd,if_neg UE.2]
   simp only [VL.sat,UA,UG,hor,F9,H9,SZ]
   have Qn7:((d ||| 2^UQ (DR n a b c d) n k:Nat):Int)<2^n:=by
    have h:((d ||| 2^UQ (DR n a b c d) n k:Nat):Int)<((2^n:Nat):Int):=Int.ofNat_lt.2 hol
    rwa [hpn] at h
   have Xr3:orQ n a b c lo hi (orS n a b c lo hi) d day k=none-> ∀j,j<k+1->orQ n a b c lo hi (orS n a b c lo hi) d day j=none:=by
    intro h1 j h2;rcases (show j=k\/j<k by omega) with rfl|h3
    ·exact h1
    ·exact x2 j h3
   have hQe:orQ n a b c lo hi (orS n a b c lo hi) d day k=(if max day (lo (UQ (DR n a b c d) n k))>hi (UQ (DR n a b c d) n k) then none else match orS n a b c lo hi (d ||| 2^UQ (DR n a b c d) n k) (max day (lo (UQ (DR n a b c d) n k))) with
     |some l=>some (l++[(UQ (DR n a b c d) n k,max day (lo (UQ (DR n a b c d) n k)))])
     |none=>none):=rfl
   have uZ: ¬max day (lo (UQ (DR n a b c d) n k))>hi (UQ (DR n a b c d) n k)->(orS n a b c lo hi (d ||| 2^UQ (DR n a b c d) n k) (max day (lo (UQ (DR n a b c d) n k)))).isSome=true->
     (orS n a b c lo hi d day).isSome=true/\orG n a b c lo hi d day=orG n a b c lo hi (d ||| 2^UQ (DR n a b c d) n k) (max day (lo (UQ (DR n a b c d) n k)))++[(UQ (DR n a b c d) n k,max day (lo (UQ (DR n a b c d) n k)))]:=by
    intro h1 h2;obtain ⟨l,hl⟩:=Option.isSome_iff_exists.1 h2;rw [if_neg h1,hl] at hQe;have h3:orS n a b c lo hi d day=some (l++[(UQ (DR n a b c d) n k,max day (lo (UQ (DR n a b c d) n k)))]):=by
     rw [BR];exact OD (q:=k) hQe (Nat.zero_le _) VI (λj _ h4=>x2 j h4)
    unfold orG;rw [h3,hl];exact ⟨rfl,rfl⟩
   have hk1:k+1<=quN n a b c d:=hlt;have hc1: ∀x:Int,∀(j:Nat),j<1-> ∀y,y∈U4 1 [iI x] j->AV.one y=true:=λx j _ y hy=>FN hy (by simp [AV.one,Value.oneCell'])
   have hGl:=tQ n a b c lo hi (d ||| 2^UQ (DR n a b c d) n k) (max day (lo (UQ (DR n a b c d) n k)))
   have hoL: ∀l:List (Nat×Int),(orL l).length=l.length:=λl=>by simp [orL]
   refine ⟨λh=>?_,λh=>?_⟩
   ·have hno:orQ n a b c lo hi (orS n a b c lo hi) d day k=none:=by
     rw [hQe,if_pos h]
    exact ⟨⟨λ_ _=>trivial,λ_ h=>h,λ_ _=>trivial⟩,hk1,Xr3 hno⟩
   ·refine ⟨⟨⟨VI,VI⟩,by simp only [VK,Int.one_mul];omega⟩,⟨λ_ h=>h,nI _ _,nI _ _,⟨VI,Qn7⟩,VI,⟨VI,VI⟩,BM⟩,λh2=>?_,λh2=>?_⟩
    ·obtain ⟨g1,g2⟩:=uZ VI h2;rw [g2];have hln:(ord++orL (orG n a b c lo hi (d ||| 2^UQ (DR n a b c d) n k) (max day (lo (UQ (DR n a b c d) n k))))).length<=2000:=by
      rw [List.length_append,hoL];omega
     have hap:ord++orL (orG n a b c lo hi (d ||| 2^UQ (DR n a b c d) n k) (max day (lo (UQ (DR n a b c d) n k)))++[(UQ (DR n a b c d) n k,max day (lo (UQ (DR n a b c d) n k)))])=(ord++orL (orG n a b c lo hi (d ||| 2^UQ (DR n a b c d) n k) (max day (lo (UQ (DR n a b c d) n k)))))++[((UQ (DR n a b c d) n k:Nat):Int)]:=by
      rw [Xd6,List.append_assoc]
     have hdy:dyU (orG n a b c lo hi (d ||| 2^UQ (DR n a b c d) n k) (max day (lo (UQ (DR n a b c d) n k)))++[(UQ (DR n a b c d) n k,max day (lo (UQ (DR n a b c d) n k)))]) dy=UO (UQ (DR n a b c d) n k) (max day (lo (UQ (DR n a b c d) n k))) (dyU (orG n a b c lo hi (d ||| 2^UQ (DR n a b c d) n k) (max day (lo (UQ (DR n a b c d) n k)))) dy):=Qc3 _ _ _
     rw [hap,hdy];refine ⟨⟨VI,hc1 _⟩,?_⟩;have hin:(0<=((UQ (DR n a b c d) n k:Nat):Int)/\((UQ (DR n a b c d) n k:Nat):Int)<n):=⟨VI,by have:=hs.1;omega⟩
     have hrw: ∀j,j<((ord++orL (orG n a b c lo hi (d ||| 2^UQ (DR n a b c d) n k) (max day (lo (UQ (DR n a b c d) n k)))))++[((UQ (DR n a b c d) n k:Nat):Int)]).length->j<(ord++orL (orG n a b c lo hi (d ||| 2^UQ (DR n a b c d) n k) (max day (lo (UQ (DR n a b c d) n k))))).length+1:=λj hj=>by
      rw [List.length_append] at hj;simpa using hj
     (with_reducible repeat' first|apply And.intro|intro _)
     all_goals first|exact True.intro|exact hin.1|exact hin.2|exact hs.1|(rename_i E hE;cases hE;exact hQ.1 g1)|rfl|exact Jg9 (hrw _ (by assumption))|exact uC|(rw [List.length_append (bs:=[_])];rfl)|assumption
    ·have hno:orQ n a b c lo hi (orS n a b c lo hi) d day k=none:=by
      rw [hQe,if_neg VI];cases ho:orS n a b c lo hi (d ||| 2^UQ (DR n a b c d) n k) (max day (lo (UQ (DR n a b c d) n k))) with
      |none=>rfl
      |some l=>rw [ho] at h2;cases h2
     exact ⟨⟨λ_ _=>trivial,λ_ h=>h,λ_ _=>trivial⟩,hk1,Xr3 hno⟩
  ·have hk:k=quN n a b c d:=VI;subst hk;simp only [Zm6,v8,VL.sat,GS] at hQ;refine hQ.2 ?_;rw [nY VR.1 day UE.1,if_neg UE.2,dL.2 (λj _ hj=>hx.2 j VI)]
   rfl
theorem E8{x y:Nat}{t:List (Nat×Nat)}:NN ((x,y)::t)=true↔x=y/\NN t=true:=by
 show (match Nat.beq x y with|true=>NN t|false=>false)=true↔_
 cases h:Nat.beq x y with
 |true=>simp [GW h]
 |false=>
  simp only [Bool.false_eq_true,false_iff,not_and];intro he;rw [he,Nat.beq_refl] at h;cases h
theorem EB{m:GY}{p:Nat×GM}(h:p∈oA m):p∈m/\Xf0 p.2=false:=by
 induction m with
 |nil=>cases h
 |cons q t ih=>
  obtain ⟨k,r⟩:=q;unfold oA at h;split at h
  ·exact ⟨HN _ (ih h).1,(ih h).2⟩
  ·rename_i hb;rcases GK.1 h with rfl|h
   ·exact ⟨GD,hb⟩
   ·exact ⟨HN _ (ih h).1,(ih h).2⟩
theorem L0{m:GY}{id:Nat}{p:Nat×GM}(h:p∈j6 m id):p∈m/\p.1≠id:=by
 induction m with
 |nil=>cases h
 |cons q t ih=>
  obtain ⟨k,r⟩:=q;unfold j6 at h;split at h
  ·exact ⟨HN _ (ih h).1,(ih h).2⟩
  ·rename_i hb;rcases GK.1 h with rfl|h
   ·refine ⟨GD,?_⟩;rintro rfl;simp at hb
   ·exact ⟨HN _ (ih h).1,(ih h).2⟩
theorem Qj7{e:UJ}{w:World}{id o n:Nat}{f:Nat->List AV}(h:Jm0 e w id o 3 1 n f)(hr:UD 1 n f):w.ownsRow 0 3 1 (e.val id) n ((x8 n f).map (Value.int .i64)):=by
 obtain ⟨h2,hf,xs,h3,h4⟩:=h;have hx:xs=(x8 n f).map (Value.int .i64):=by
  apply List.ext_getElem?;intro j;unfold x8;have hl:xs.length=n*1:=h3.1;rcases Nat.lt_or_ge j n with hj|hj
  ·have hx:xs[j]? =some xs[j]:=HX VI;have e1:(f j)[0]? =some (iI (col 0 f j)):=by
    rw [hr j hj];rfl
   have:=h4 j 0 _ xs[j] hj e1 (by rw [show j*1+0=j by omega];exact hx)
   rw [hx,this.x_inv];simp [hj]
  ·rw [List.getElem?_eq_none VI,List.getElem?_eq_none (by simp;omega)]
 subst hx;exact h3
theorem qB{e:UJ}{w:World}{id n:Nat}{f:Nat->List AV}(h:GF e w id (.row 3 1 n f))(hr:UD 1 n f):w.ownsRow 0 3 1 (e.val id) n ((x8 n f).map (Value.int .i64)):=Qj7 (o:=id) h.2 hr
theorem tP(n:Nat)(f:Nat->Int):x8 n (λj=>[i (f j)])=(List.range n).map f:=rfl
theorem xD{e:UJ}{w:World}{id n:Nat}{f:Nat->Int}{ov:Value}{l:List Int}(hl:e.live id)(hv:e.val id=ov)(hob: ∀x,ov.ownBlock=some x->e.own x=some id)(HT:l.length=n)(hf: ∀j,j<n->l[j]? =some (f j))(ho:w.ownsRow 0 3 1 ov n (l.map (Value.int .i64))):GF e w id (.row 3 1 n (λj=>[i (f j)])):=by
 subst hv;refine ⟨hl,hob,λi hi=>⟨rfl,λa ha=>by rw [qM.1 ha];exact .x _⟩,_,ho,λi j a v hi ha hv=>?_⟩
 cases j with
 |zero=>
  simp only [List.getElem?_cons_zero,HC] at ha;subst ha;rw [show i*1+0=i by omega,List.getElem?_map,hf i hi] at hv
  simp only [Option.map_some,HC] at hv;rw [←hv];exact .x _
 |succ j=>simp at ha
theorem tW{l:List Int}{j:Nat}(h:j<l.length):l[j]? =some (U7 l j):=by
 rw [E9 h,HX h]
theorem C5{n:Nat}{f:Nat->Int}{j:Nat}(h:j<n):((List.range n).map f)[j]? =some (f j):=by
 rw [List.getElem?_map,List.getElem?_range h];rfl
abbrev LO(b:Nat):Value:= .pointer (some ⟨b,0,none⟩)
abbrev Zg3(bk bg bf bo bd:Nat):Value:= .func (.func 222) #[] #[LO bk,LO bg,LO bf,LO bo,LO bd]
def Qh6(n:Nat)(a b c lo hi:Nat->Int)(N:Nat):Prop:= ∀(ea la:AV) (d:Nat) (day:Int) (ord:List Int) (dy:Nat->Int) (oa:Option Addr) (ol oc:Nat) (da:Option Addr) (dl dc:Nat),d<2^n->2^n-d<=N->(0<=day/\day<=100)->ord.length<=1000->
 Wy8 VN 222 [.agg [i d,i day],.ptr 0 0,.ptr 1 0,.ptr 2 0,.ptr 3 0,.ptr 4 0] (OM n a b c lo hi ea la d day ord dy oa ol oc da dl dc) 901 [[.ptr 0 0,.ptr 1 0,.ptr 2 0,.ptr 3 0,.ptr 4 0]] (OT_ n a b c lo hi ea la d day ord dy oa ol oc da dl dc (orG n a b c lo hi d day)) (OF_ n a b c lo hi ea la d day ord dy oa ol oc da dl dc) (orS n a b c lo hi d day).isSome
theorem tJ{w:World}{ov:Value}{n:Nat}{xs:List Value}(h:w.ownsRow 0 3 1 ov n xs){b:Nat}(hb:ov.ownBlock=some b):b<w.heap.size:=(h.lt b hb).2
theorem Wc1{n:Nat}{a b c lo hi:Nat->Int}{N:Nat}(hs:Qh6 n a b c lo hi N){d:Nat}{day:Int}{ord:List Int}{dy:Nat->Int}(h1:d<2^n)(h2:2^n-d<=N)(h3:0<=day/\day<=100)(h4:ord.length<=1000)
  {w:World}{bk bg bf bo bd bm:Nat}{rb dv ov:Value}{ea la:AV}{R:UJ}{es:Array MapEntry}{cn:Nat}(hgl:DB R w)
  (hk:w.heap[bk]? =some (.cells #[rb] 84 (0,0)))(hg:w.heap[bg]? =some (.cells #[.map (some bm)] 329 (0,0)))(hf:w.heap[bf]? =some (.cells #[Zg3 bk bg bf bo bd] 330 (0,0)))(hdb:w.heap[bd]? =some (.cells #[dv] 61 (0,0)))
  (ho:w.heap[bo]? =some (.cells #[ov] 61 (0,0)))(hm:w.heap[bm]? =some (.map es cn))(hes: ∀x∈es.toList,orH n a b c lo hi x.key/\x.val=orV x.key)
  (EW:w.ownsRow 0 3 1 ov ord.length (ord.map (Value.int .i64)))(Xr4:w.ownsRow 0 3 1 dv n (((List.range n).map dy).map (Value.int .i64)))(hov: ∃p q r,ov= .slice p q r)(hdv: ∃p q r,dv= .slice p q r)
  (hobm:bo≠bm)(hobd:bo≠bd)(hmbd:bm≠bd)(hoo: ∀x,ov.ownBlock=some x->x≠bo/\x≠bm/\x≠bd/\dv.ownBlock≠some x)(hdo: ∀x,dv.ownBlock=some x->x≠bo/\x≠bm/\x≠bd)
  (hR:Rep R w (.ro [i 4,i 10,sls n a b c lo hi,ea,la]) rb)(hro: ∀x,R.ro x->x<w.heap.size/\x≠bo/\x≠bm/\x≠bd/\ov.ownBlock≠some x/\dv.ownBlock≠some x)(rk:R.ro bk)(rg:R.ro bg)(rf:R.ro bf):
  Calls Tryz.prog 222 #[.agg #[.int .i64 d,.int .i64 day],LO bk,LO bg,LO bf,LO bo,LO bd] w λen w1=>en= .returned (.bool (orS n a b c lo hi d day).isSome)/\w.heap.size<=w1.heap.size/\w1.os=w.os/\w1.tape=w.tape/\w1.output=w.output/\
   (∀x,x<w.heap.size->x≠bo->x≠bm->ov.ownBlock≠some x->dv.ownBlock≠some x->w1.heap[x]? =w.heap[x]?)/\(∃(es':Array MapEntry) (c':Nat),w1.heap[bm]? =some (.map es' c')/\ ∀x∈es'.toList,orH n a b c lo hi x.key/\x.val=orV x.key)/\
   ((orS n a b c lo hi d day).isSome=false->w1.heap[bo]? =some (.cells #[ov] 61 (0,0))/\w1.ownsRow 0 3 1 ov ord.length (ord.map (Value.int .i64))/\w1.ownsRow 0 3 1 dv n (((List.range n).map dy).map (Value.int .i64)))/\
   ((orS n a b c lo hi d day).isSome=true-> ∃y',w1.heap[bo]? =some (.cells #[y'] 61 (0,0))/\(∃p q r,y'= .slice p q r)/\w1.ownsRow 0 3 1 y' (ord++orL (orG n a b c lo hi d day)).length ((ord++orL (orG n a b c lo hi d day)).map (Value.int .i64))/\
    (∀x,y'.ownBlock=some x->w.heap.size<=x\/ov.ownBlock=some x)/\w1.ownsRow 0 3 1 dv n (((List.range n).map (dyU (orG n a b c lo hi d day) dy)).map (Value.int .i64))):=by
 have hob:=(P5.1 ho).1;have hmb:=(P5.1 hm).1;have hbb:=(P5.1 hdb).1;obtain ⟨oa,ol,oc,hov⟩:=hov;obtain ⟨da,dl,dc,hdv⟩:=hdv
 let e0:UJ:={ro:=λx=>x<w.heap.size/\x≠bo/\x≠bm/\x≠bd/\ov.ownBlock≠some x/\dv.ownBlock≠some x,own:=λx=>if x=bo then some 3 else if x=bm then some 5 else if x=bd then some 4 else if ov.ownBlock=some x then some 900 else if dv.ownBlock=some x then some 7 else none,live:=λk=>k<901,blk:=λk=>if k=0 then bk else if k=1 then bg else if k=2 then bf else if k=3 then bo else if k=4 then bd else bm,val:=λk=>if k=7 then dv else ov}
 let c0:Cx:={M:=λ_=>False,Φ:=λ_ _ _=>True,K:=λx o=>e0.ro x/\w.heap[x]? =some o,saved:=[[LO bk,LO bg,LO bf,LO bo,LO bd]],sz:=w.heap.size}
 let w00:World:={w with heap:=#[] }
 have Wl1: ∀x,R.ro x->e0.ro x:=λx hx=>hro x hx
 have o3:e0.own bo=some 3:=if_pos rfl;have o5:e0.own bm=some 5:=by simp [e0,Ne.symm hobm]
 have o4:e0.own bd=some 4:=by simp [e0,Ne.symm hobd,Ne.symm hmbd]
 have o9: ∀x,ov.ownBlock=some x->e0.own x=some 900:=by
  intro x hx;obtain ⟨q1,q2,q2',q3⟩:=hoo x hx;simp [e0,q1,q2,q2',hx]
 have o7: ∀x,dv.ownBlock=some x->e0.own x=some 7:=by
  intro x hx;obtain ⟨q1,q2,q2'⟩:=hdo x hx;have q3:ov.ownBlock≠some x:=λh=>(hoo x h).2.2.2 hx
  simp [e0,q1,q2,q2',q3,hx]
 have hE:UW e0 w00.heap.size w:=by
  refine ⟨λx hx=>?_,λx k hk=>⟨Nat.zero_le _,?_⟩,λq p hp=>?_⟩
  ·obtain ⟨q0,q1,q2,q2',q3,q4⟩:=hx;exact ⟨by simp [e0,q1,q2,q2',q3,q4],q0⟩
  ·have hk:(if x=bo then some 3 else if x=bm then some 5 else if x=bd then some 4 else if ov.ownBlock=some x then some 900 else if dv.ownBlock=some x then some 7 else none)=some k:=hk
   split at hk
   ·rename_i h;rw [h];exact hob
   split at hk
   ·rename_i h;rw [h];exact hmb
   split at hk
   ·rename_i h;rw [h];exact hbb
   split at hk
   ·rename_i h;exact tJ EW h
   split at hk
   ·rename_i h;exact tJ Xr4 h
   ·cases hk
  ·obtain ⟨q1,q2⟩:=hgl q p hp;exact ⟨Wl1 _ q1,q2⟩
 have p0:Rep e0 w (.ptr 0 0) (LO bk):= .ptr 0 0 (show 0<901 by omega)
 have p1:Rep e0 w (.ptr 1 0) (LO bg):= .ptr 1 0 (show 1<901 by omega)
 have p2:Rep e0 w (.ptr 2 0) (LO bf):= .ptr 2 0 (show 2<901 by omega)
 have p3:Rep e0 w (.ptr 3 0) (LO bo):= .ptr 3 0 (show 3<901 by omega)
 have p4:Rep e0 w (.ptr 4 0) (LO bd):= .ptr 4 0 (show 4<901 by omega)
 have p9:Rep e0 w (.row 900) ov:=by
  rw [hov];exact .row 900 _ _ _ (show 900<901 by omega) hov
 have p7:Rep e0 w (.row 7) dv:=by
  rw [hdv];exact .row 7 _ _ _ (show 7<901 by omega) hdv
 have p5:Rep e0 w (.mp 5) (.map (some bm)):= .mp 5 (show 5<901 by omega)
 have yO:U1 e0 w [.ptr 0 0,.ptr 1 0,.ptr 2 0,.ptr 3 0,.ptr 4 0] [LO bk,LO bg,LO bf,LO bo,LO bd]:= .cons p0 (.cons p1 (.cons p2 (.cons p3 (.cons p4 (.nil _ _)))));have hfn:Rep e0 w (.fn (.func 222) [] [.ptr 0 0,.ptr 1 0,.ptr 2 0,.ptr 3 0,.ptr 4 0]) (Zg3 bk bg bf bo bd):= .fn _ [] _ [] _ rfl (λi a v h=>by simp at h) yO.1 yO.2
 have hrb:Rep e0 w (.ro [i 4,i 10,sls n a b c lo hi,ea,la]) rb:=by
  refine Rep.idf (e:=R) (e':=e0) Wl1 hR ?_;cases hR with
  |ro l vs b' o' g1 g2 g3 g4 g5 g6=>exact .ro _ g3
 have hM:UT e0 (OM n a b c lo hi ea la d day ord dy oa ol oc da dl dc) w:=by
  intro p hp;unfold OM at hp;simp only [GK,DQ,or_false] at hp;rcases hp with rfl|rfl|rfl|rfl|rfl|rfl|rfl|rfl|rfl|rfl
  ·exact ⟨show 3<901 by omega,o3,[ov],ho,.cons p9 (.nil _ _)⟩
  ·exact ⟨show 3<901 by omega,o3,[ov],ho,.cons (by rw [hov];exact .x _) (.nil _ _)⟩
  ·exact xD (show 900<901 by omega) rfl o9 rfl (λj hj=>tW hj) EW
  ·exact ⟨show 5<901 by omega,o5,es,cn,hm,hes⟩
  ·exact xD (show 7<901 by omega) rfl o7 VU (λj hj=>C5 hj) Xr4
  ·exact ⟨show 0<901 by omega,Wl1 _ rk,(hro _ rk).1,[rb],hk,.cons hrb (.nil _ _)⟩
  ·exact ⟨show 1<901 by omega,Wl1 _ rg,(hro _ rg).1,[.map (some bm)],hg,.cons p5 (.nil _ _)⟩
  ·exact ⟨show 2<901 by omega,Wl1 _ rf,(hro _ rf).1,[Zg3 bk bg bf bo bd],hf,.cons hfn (.nil _ _)⟩
  ·exact ⟨show 4<901 by omega,o4,[dv],hdb,.cons p7 (.nil _ _)⟩
  ·exact ⟨show 4<901 by omega,o4,[dv],hdb,.cons (by rw [hdv];exact .x _) (.nil _ _)⟩
 have hX:Xt c0 e0 [[.ptr 0 0,.ptr 1 0,.ptr 2 0,.ptr 3 0,.ptr 4 0]] [] w:=
  ⟨⟨λd hd=>(by cases hd),List.nodup_nil⟩,λx o hk=>⟨hk.1,hk.1.1,hk.2⟩,L4.cons yO ⟨rfl,λi a v h=>by simp at h⟩,Nat.le_refl _⟩
 have hA:U1 e0 w [.agg [i d,i day],.ptr 0 0,.ptr 1 0,.ptr 2 0,.ptr 3 0,.ptr 4 0] [.agg #[.int .i64 d,.int .i64 day],LO bk,LO bg,LO bf,LO bo,LO bd]:= .cons (Rep.aggL (.cons (.x _) (.cons (.x _) (.nil _ _)))) yO;have FF:=hs ea la d day ord dy oa ol oc da dl dc h1 h2 h3 h4 c0 w00 (λ_=>False) e0 _ w hE ⟨rfl,rfl,rfl,Nat.zero_le _,λk hk=>absurd hk (Nat.not_lt_zero _)⟩ hM (λk hk=>hk) (λ_ h=>h.elim) hX rfl hA
 refine FF.mono ?_;rintro en w1 ⟨hen,e1,g1,g2,g3,g4,_,g6⟩;have hsz:w.heap.size<=w1.heap.size:=g6.size;have O6: ∀x,x<w.heap.size->x≠bo->x≠bm->x≠bd->ov.ownBlock≠some x->dv.ownBlock≠some x->e1.ro x/\w1.heap[x]? =w.heap[x]? :=by
  intro x hx n1 n2 n2' n3 n4;have hk:=g6.kept x w.heap[x] ⟨⟨hx,n1,n2,n2',n3,n4⟩,by simp [hx]⟩
  exact ⟨hk.1,by rw [hk.2.2];simp [hx]⟩
 have keptR: ∀x,R.ro x->w1.heap[x]? =w.heap[x]? :=λx hx=>(O6 x (hro x hx).1 (hro x hx).2.1 (hro x hx).2.2.1 (hro x hx).2.2.2.1 (hro x hx).2.2.2.2.1 (hro x hx).2.2.2.2.2).2
 have hsv:(cond (orS n a b c lo hi d day).isSome (OT_ n a b c lo hi ea la d day ord dy oa ol oc da dl dc (orG n a b c lo hi d day)) (OF_ n a b c lo hi ea la d day ord dy oa ol oc da dl dc)).sv=[[.ptr 0 0,.ptr 1 0,.ptr 2 0,.ptr 3 0,.ptr 4 0]]:=by
  cases (orS n a b c lo hi d day).isSome<;>rfl
 have hsd:=g6.saved;rw [hsv] at hsd;have hs1:=hsd.2 0 _ _ rfl rfl;obtain ⟨v0,l0,q,r0,hs1⟩:=hs1.cons_inv;obtain ⟨rfl,rfl⟩:=List.cons.inj q;obtain ⟨v1,l1,q,r1,hs1⟩:=hs1.cons_inv;obtain ⟨rfl,rfl⟩:=List.cons.inj q;obtain ⟨v2,l2,q,r2,hs1⟩:=hs1.cons_inv;obtain ⟨rfl,rfl⟩:=List.cons.inj q;obtain ⟨v3,l3,q,r3,hs1⟩:=hs1.cons_inv;obtain ⟨rfl,rfl⟩:=List.cons.inj q;obtain ⟨v4,l4,q,r4,_⟩:=hs1.cons_inv;obtain ⟨rfl,rfl⟩:=List.cons.inj q;have ptr_inv: ∀{k x:Nat},Rep e1 w1 (.ptr k 0) (LO x)->e1.blk k=x:=by
  intro k x h;cases h;rfl
 have b1:=ptr_inv r1;have b3:=ptr_inv r3;have b4:=ptr_inv r4;have uY: ∀p,(p∈(OT_ n a b c lo hi ea la d day ord dy oa ol oc da dl dc (orG n a b c lo hi d day)).m/\p∈(OF_ n a b c lo hi ea la d day ord dy oa ol oc da dl dc).m)->GF e1 w1 p.1 p.2:=by
  intro p hp;refine g3 p ?_;cases (orS n a b c lo hi d day).isSome
  ·exact hp.2
  ·exact hp.1
 -- the days' row and the map bear their numbers still
 have hbd:w1.heap[bd]? =some (.cells #[dv] 61 (0,0)):=by
  obtain ⟨_,_,vs,q1,q2⟩:=uY (4,.cells 61 [.x (.slice da dl dc)]) ⟨by simp [OT_],by simp [OF_]⟩
  obtain ⟨x,xs,rfl,t1,q2⟩:=q2.cons_inv;obtain rfl:=q2.nil_inv;rw [b4,t1.x_inv,←hdv] at q1;exact q1
 have b7:e1.val 7=dv:=by
  obtain ⟨_,_,vs,q1,q2⟩:=uY (4,.cells 61 [.row 7]) ⟨by simp [OT_],by simp [OF_]⟩
  obtain ⟨x,xs,rfl,t1,q2⟩:=q2.cons_inv;obtain rfl:=q2.nil_inv;rw [b4,hbd] at q1;simp only [HC,Obj.cells.injEq] at q1;have:dv=x:=by simpa using q1.1
  subst this;clear q1 hbd;generalize dv=z at t1;cases t1 with
  |row _ a n c _ hv=>exact hv
 have hsm: ∀x,x<w.heap.size->x≠bo->x≠bm->ov.ownBlock≠some x->dv.ownBlock≠some x->w1.heap[x]? =w.heap[x]? :=by
  intro x hx n1 n2 n3 n4;rcases Classical.em (x=bd) with rfl|n5
  ·rw [hbd,hdb]
  ·exact (O6 x hx n1 n2 n5 n3 n4).2
 have b5:e1.blk 5=bm:=by
  obtain ⟨_,_,_,vs,q1,q2⟩:=uY (1,.keep 329 [.mp 5]) ⟨by simp [OT_],by simp [OF_]⟩
  obtain ⟨x,xs,rfl,t1,q2⟩:=q2.cons_inv;obtain rfl:=q2.nil_inv;rw [b1,keptR _ rg,hg] at q1;simp only [HC,Obj.cells.injEq] at q1;have:Value.map (some bm)=x:=by simpa using q1.1
  subst this;cases t1;rfl
 have Jd6: ∃(es':Array MapEntry) (c':Nat),w1.heap[bm]? =some (.map es' c')/\ ∀x∈es'.toList,orH n a b c lo hi x.key/\x.val=orV x.key:=by
  obtain ⟨_,_,es',c',q1,q2⟩:=uY (5,.memo (orH n a b c lo hi) orV) ⟨by simp [OT_],by simp [OF_]⟩
  rw [b5] at q1;exact ⟨es',c',q1,q2⟩
 refine ⟨hen,hsz,g2.os,g2.tape,g2.output,hsm,Jd6,λhb=>?_,λhb=>?_⟩
 ·rw [hb] at g3;have k3:=g3 (3,.cells 61 [.row 900]) (by simp [OF_])
  have k3':=g3 (3,.cells 61 [.x (.slice oa ol oc)]) (by simp [OF_])
  have k9:=g3 (900,.row 3 1 ord.length (λj=>[i (U7 ord j)])) (by simp [OF_])
  have k7:=g3 (7,.row 3 1 n (λj=>[i (dy j)])) (by simp [OF_])
  obtain ⟨_,_,vs,q1,q2⟩:=k3';obtain ⟨x,xs,rfl,t1,q2⟩:=q2.cons_inv;obtain rfl:=q2.nil_inv;have hx:x=ov:=by rw [hov];exact t1.x_inv
  subst hx;have q1':w1.heap[e1.blk 3]? =some (.cells #[x] 61 (0,0)):=q1;rw [b3] at q1';have h9:e1.val 900=x:=by
   obtain ⟨_,_,vs,u1,u2⟩:=k3;obtain ⟨y,ys,rfl,t2,u2⟩:=u2.cons_inv;obtain rfl:=u2.nil_inv;have u1':w1.heap[e1.blk 3]? =some (.cells #[y] 61 (0,0)):=u1;rw [b3,q1'] at u1';simp only [HC,Obj.cells.injEq] at u1';have:x=y:=by simpa using u1'.1
   subst this;clear q1' u1' q1 u1 t1;generalize x=z at t2;cases t2 with
   |row _ a n c _ hv=>exact hv
  have r9:=qB k9 (nI _ _);have r7:=qB k7 (nI _ _);rw [h9,SZ] at r9;rw [b7,tP] at r7;exact ⟨q1',r9,r7⟩
 ·rw [hb] at g3;have k3:=g3 (3,.cells 61 [.row 900]) (by simp [OT_])
  have k9:=g3 (900,.row 3 1 (ord++orL (orG n a b c lo hi d day)).length (λj=>[i (U7 (ord++orL (orG n a b c lo hi d day)) j)])) (by simp [OT_])
  have k7:=g3 (7,.row 3 1 n (λj=>[i (dyU (orG n a b c lo hi d day) dy j)])) (by simp [OT_])
  have k5:=g3 (5,.memo (orH n a b c lo hi) orV) (by simp [OT_])
  have o3':=k3.2.1;rw [b3] at o3';have o5':=k5.2.1;rw [b5] at o5';obtain ⟨_,_,vs,q1,q2⟩:=k3;obtain ⟨y,ys,rfl,t1,q2⟩:=q2.cons_inv;obtain rfl:=q2.nil_inv;have q1':w1.heap[e1.blk 3]? =some (.cells #[y] 61 (0,0)):=q1;rw [b3] at q1';have hy:(∃p q r,y= .slice p q r)/\e1.val 900=y:=by
   cases t1 with
   |row _ a n c _ hv=>exact ⟨⟨a,n,c,rfl⟩,hv⟩
  have r9:=qB k9 (nI _ _);have r7:=qB k7 (nI _ _);rw [hy.2,SZ] at r9;rw [b7,tP] at r7;refine ⟨y,q1',hy.1,r9,λz hz=>?_,r7⟩
  rcases Nat.lt_or_ge z w.heap.size with hlt|hge
  ·refine .inr ?_;have hoz:e1.own z=some 900:=k9.2.1 z (by show (e1.val 900).ownBlock=some z;rw [hy.2];exact hz)
   refine Classical.byContradiction λn3=>?_
   have n1:z≠bo:=by
    rintro rfl;rw [o3'] at hoz;cases hoz
   have n2:z≠bm:=by
    rintro rfl;rw [o5'] at hoz;cases hoz
   have n4:dv.ownBlock≠some z:=by
    intro h;have:=k7.2.1 z (by show (e1.val 7).ownBlock=some z;rw [b7];exact h)
    rw [this] at hoz;cases hoz
   have n5:z≠bd:=by
    rintro rfl;have:=(g3 (4,.cells 61 [.row 7]) (by simp [OT_])).2.1
    rw [b4] at this;rw [this] at hoz;cases hoz
   have hk:=O6 z hlt n1 n2 n5 n3 n4;rw [(g1.apart z hk.1).1] at hoz;cases hoz
  ·exact .inl hge
theorem LF{e e':UJ}{w w1:World}{id:Nat}{r:GM}(st:Step e e' w w1)(H4: ∀x,e.own x=some id->e'.own x=some id/\w1.heap[x]? =w.heap[x]?)(hna:Xf0 r=false)(h:GF e w id r):GF e' w1 id r:=by
 cases r with
 |cells T l=>
  obtain ⟨h1,h2,vs,h3,h4⟩:=h;obtain ⟨l1,l2,l3⟩:=st.live id h1;obtain ⟨k1,k2⟩:=H4 _ h2;exact ⟨l1,by rw [l2];exact k1,vs,by rw [l2,k2];exact h3,h4.step st⟩
 |ints T pre n f=>
  obtain ⟨h1,h2,vs,h3,h4⟩:=h;obtain ⟨l1,l2,l3⟩:=st.live id h1;obtain ⟨k1,k2⟩:=H4 _ h2;exact ⟨l1,by rw [l2];exact k1,vs,by rw [l2,k2];exact h3,h4.step st⟩
 |memo g f=>
  obtain ⟨h1,h2,es,c,h3,h4⟩:=h;obtain ⟨l1,l2,l3⟩:=st.live id h1;obtain ⟨k1,k2⟩:=H4 _ h2;exact ⟨l1,by rw [l2];exact k1,es,c,by rw [l2,k2];exact h3,h4⟩
 |keep T l=>exact LC st h
 |aka _ _ _ _ _=>cases hna
 |row T sz n f=>
  obtain ⟨h1,h2,hf,ys,h3,h4⟩:=h;obtain ⟨l1,l2,l3⟩:=st.live id h1;refine ⟨l1,λx hx=>(H4 _ (h2 x (by rw [←l3];exact hx))).1,hf,ys,?_,λi j a v hi ha hv=>(h4 i j a v hi ha hv).step st⟩
  rw [l3];refine ⟨h3.1,h3.2.imp (λh=>h) ?_⟩
  rintro ⟨g',cap',cur',hv,hg,hh,rest⟩;exact ⟨g',cap',cur',hv,hg,(H4 g' (h2 g' (by rw [hv];rfl))).2.trans hh,rest⟩
theorem I1{e:UJ}{w:World}{id n:Nat}{g:Nat->List AV}{ov:Value}(hr:UD 1 n g)(hl:e.live id)(hv:e.val id=ov)(hob: ∀x,ov.ownBlock=some x->e.own x=some id)(ho:w.ownsRow 0 3 1 ov n (((List.range n).map (col 0 g)).map (Value.int .i64))):GF e w id (.row 3 1 n g):=by
 have h:=xD (f:=col 0 g) hl hv hob VU (λj hj=>C5 hj) ho
 obtain ⟨h1,h2,h3,xs,h4,h5⟩:=h;refine ⟨h1,h2,λj hj=>?_,xs,h4,λi j a v hi ha hv=>?_⟩
 ·rw [hr j hj];exact h3 j hj
 ·rw [hr i hi] at ha;exact h5 i j a v hi ha hv
theorem cV{n:Nat}{a b c lo hi:Nat->Int}{N:Nat}(hs:Qh6 n a b c lo hi N):G9 VN 222 (mO n a b c lo hi N):=by
 refine ⟨(UF Tryz.func222),?_⟩;intro avs m nx sv tr ht Q hQ cx w0 TT e ds args w hE hB hm hlv LL hxt hr;unfold mO at ht;split at ht
 ·rename_i d day k z0 g z1 f z2 o z3 dd z4;split at ht
  ·rename_i Tk c1 c2 sl ea la Tg mg Tf fg k' y0 g' y1 f' y2 o' y3 d' y4 To q Td r h1 h2 h3 h4 h5;split at ht
   ·rename_i hh ff T1 s1 k1 g1 T2 s2 k2 g2 h6 h7 h8;split at ht
    ·rename_i hb;rw [H2] at hb;obtain ⟨hb1,hb2⟩:=hb;simp only [E8] at hb1;obtain ⟨rfl,rfl,rfl,rfl,rfl,rfl,rfl,rfl,rfl,rfl,rfl,rfl,rfl,rfl,rfl,rfl,rfl,rfl,rfl,rfl,rfl,rfl,rfl,rfl,rfl,_⟩:=hb1;rw [H2] at hb2;have hqr:q≠r:=by
      rintro rfl;simp at hb2
     have hod:o≠dd:=by
      rintro rfl;simp at hb2
     cases ht;obtain ⟨hn,hq⟩:=VL.sat_needT hQ;have hn:=GB hn;have n1:c1=i 4:=hn _ VU;have n2:c2=i 10:=hn _ VU;have n3:sl=sls n a b c lo hi:=hn _ VU;have n4: ∀x,hh x->orH n a b c lo hi x/\ff x=orV x:=hn _ VU;have n6:UD 1 k1 g1:=hn _ VU;have n7:UD 1 k2 g2:=hn _ VU;have n8:k2=n:=hn _ VU;have n9:0<=d/\d<2^n:=hn _ VU;have n10:2^n-d.toNat<=N:=hn _ VU;have n11:0<=day/\day<=100:=hn _ VU;have n12:k1<=1000:=hn _ VU;clear hn hQ;subst n1 n2 n3 n8;obtain ⟨d,rfl⟩: ∃d':Nat,d=d':=⟨d.toNat,VI⟩;simp only [F9] at hq n10;have hpn:((2^k2:Nat):Int)=2^k2:=VU;have hdn:d<2^k2:=by
      have h:=n9.2;rw [←hpn] at h;exact Int.ofNat_lt.1 h
     obtain ⟨v0,l1,rfl,r1,hr⟩:=hr.cons_inv;obtain ⟨v1,l1,rfl,r2,hr⟩:=hr.cons_inv;obtain ⟨v2,l2,rfl,r3,hr⟩:=hr.cons_inv;obtain ⟨v3,l3,rfl,r4,hr⟩:=hr.cons_inv;obtain ⟨v4,l4,rfl,r5,hr⟩:=hr.cons_inv;obtain ⟨v5,l5,rfl,r6,hr⟩:=hr.cons_inv;obtain rfl:=hr.nil_inv;obtain ⟨us,rfl,ru⟩:=r1.agg_inv;obtain ⟨u1,us1,rfl,q1,ru⟩:=ru.cons_inv;obtain ⟨u2,us2,rfl,q2,ru⟩:=ru.cons_inv;obtain rfl:=ru.nil_inv;obtain rfl:=q1.x_inv;obtain rfl:=q2.x_inv;have z: ∀{k:Nat} {x:Value},Rep e w (.ptr k 0) x->x=LO (e.blk k):=by
      intro k x h;cases h;rfl
     obtain rfl:=z r2;obtain rfl:=z r3;obtain rfl:=z r4;obtain rfl:=z r5;obtain rfl:=z r6;have m4:=UU h4;obtain ⟨_,ro1,_,vs1,hp1,e1⟩:=hm _ (UU h1);obtain ⟨rb,xs,rfl,t1,e1⟩:=e1.cons_inv;obtain rfl:=e1.nil_inv;obtain ⟨_,ro2,_,vs2,hp2,e2⟩:=hm _ (UU h2);obtain ⟨mv,xs,rfl,t2,e2⟩:=e2.cons_inv;obtain rfl:=e2.nil_inv;have hmv:mv= .map (some (e.blk mg)):=by
      cases t2;rfl
     subst hmv;obtain ⟨_,ro3,_,vs3,hp3,e3⟩:=hm _ (UU h3);obtain ⟨fv,xs,rfl,t3,e3⟩:=e3.cons_inv;obtain rfl:=e3.nil_inv;obtain ⟨us,us',rfl,t6,t7⟩:=t3.fn_inv;obtain rfl:=t6.nil_inv;obtain ⟨x1,xs,rfl,s1,t7⟩:=t7.cons_inv;obtain ⟨x2,xs,rfl,s2,t7⟩:=t7.cons_inv;obtain ⟨x3,xs,rfl,s3,t7⟩:=t7.cons_inv;obtain ⟨x4,xs,rfl,s4,t7⟩:=t7.cons_inv;obtain ⟨x5,xs,rfl,s5,t7⟩:=t7.cons_inv;obtain rfl:=t7.nil_inv;obtain rfl:=z s1;obtain rfl:=z s2;obtain rfl:=z s3;obtain rfl:=z s4;obtain rfl:=z s5;obtain ⟨live4,own4,vs4,hp4,e4⟩:=hm _ m4;obtain ⟨ov,xs,rfl,t4,e4⟩:=e4.cons_inv;obtain rfl:=e4.nil_inv;obtain ⟨_,own5,vs5,hp5,e5⟩:=hm _ (UU h5);obtain ⟨dv,xs,rfl,t5,e5⟩:=e5.cons_inv;obtain rfl:=e5.nil_inv;have hov:(∃p q r,ov= .slice p q r)/\e.val q=ov:=by
      cases t4 with
      |row _ a n c _ hv=>exact ⟨⟨a,n,c,rfl⟩,hv⟩
     have hdv:(∃p q r,dv= .slice p q r)/\e.val r=dv:=by
      cases t5 with
      |row _ a n c _ hv=>exact ⟨⟨a,n,c,rfl⟩,hv⟩
     obtain ⟨live6,own6,es,cn,hp6,hes0⟩:=hm _ (UU h6);have hes: ∀x∈es.toList,orH k2 a b c lo hi x.key/\x.val=orV x.key:=λx hx=>by
      obtain ⟨g1,g2⟩:=hes0 x hx;exact ⟨(n4 _ g1).1,by rw [g2,(n4 _ g1).2]⟩
     have H7:=hm _ (UU h7);have H8:=hm _ (UU h8);have R7:=qB H7 n6;have R8:=qB H8 n7;simp only at hp1 hp2 hp3 hp4 hp5 hp6 own4 own6 live4 live6 R7 R8 ro1 ro2 ro3 own5;rw [hov.2] at R7;rw [hdv.2] at R8;have own7: ∀x,ov.ownBlock=some x->e.own x=some q:=λx hx=>H7.2.1 x (by show (e.val q).ownBlock=some x;rw [hov.2];exact hx)
     have own8: ∀x,dv.ownBlock=some x->e.own x=some r:=λx hx=>H8.2.1 x (by show (e.val r).ownBlock=some x;rw [hdv.2];exact hx)
     have live7:e.live q:=H7.1;have live8:e.live r:=H8.1;have ho_q:o≠q:=by
      rintro rfl;rw [h7] at h4;cases h4
     have ho_r:o≠r:=by
      rintro rfl;rw [h8] at h4;cases h4
     have ho_m:o≠mg:=by
      rintro rfl;rw [h6] at h4;cases h4
     have hm_q:mg≠q:=by
      rintro rfl;rw [h7] at h6;cases h6
     have hm_r:mg≠r:=by
      rintro rfl;rw [h8] at h6;cases h6
     have hd_q:dd≠q:=by
      rintro rfl;rw [h7] at h5;cases h5
     have hd_r:dd≠r:=by
      rintro rfl;rw [h8] at h5;cases h5
     have hd_m:dd≠mg:=by
      rintro rfl;rw [h6] at h5;cases h5
     have dne: ∀{x y j j':Nat},e.own x=some j->e.own y=some j'->j≠j'->x≠y:=by
      rintro x y j j' hx hy hj rfl;rw [hx] at hy;exact hj (Option.some.inj hy)
     have HT:(x8 k1 g1).length=k1:=by simp [x8]
     have hro: ∀x,e.ro x->x<w.heap.size/\x≠e.blk o/\x≠e.blk mg/\x≠e.blk dd/\ov.ownBlock≠some x/\dv.ownBlock≠some x:=by
      intro x hx;obtain ⟨hx1,hx2⟩:=hE.apart x hx;have nx_: ∀{y j:Nat},e.own y=some j->x≠y:=by
       rintro y j hy rfl;rw [hx1] at hy;cases hy
      exact ⟨hx2,nx_ own4,nx_ own6,nx_ own5,λh=>(nx_ (own7 x h)) rfl,λh=>(nx_ (own8 x h)) rfl⟩
     have FF:=Wc1 hs (ord:=x8 k1 g1) (dy:=col 0 g2) hdn n10 n11 (by rw [HT];exact n12) (w:=w) (bk:=e.blk k) (bg:=e.blk g) (bf:=e.blk f) (bo:=e.blk o) (bd:=e.blk dd) (bm:=e.blk mg) (R:=e) hE.glob
      hp1 hp2 hp3 hp5 hp4 hp6 hes (by rw [HT];exact R7) R8 hov.1 hdv.1 (dne own4 own6 ho_m) (dne own4 own5 hod) (dne own6 own5 (Ne.symm hd_m)) (λx hx=>⟨dne (own7 x hx) own4 (Ne.symm ho_q),dne (own7 x hx) own6 (Ne.symm hm_q),dne (own7 x hx) own5 (Ne.symm hd_q),λh=>dne (own7 x hx) (own8 x h) hqr rfl⟩)
      (λx hx=>⟨dne (own8 x hx) own4 (Ne.symm ho_r),dne (own8 x hx) own6 (Ne.symm hm_r),dne (own8 x hx) own5 (Ne.symm hd_r)⟩) t1 hro ro1 ro2 ro3
     refine FF.mono ?_;rintro en w1 ⟨rfl,hsz,q1,q2,q3,zW,⟨es',c',hmp,hes'⟩,hF,hT⟩;rw [HT] at hF;have hlt: ∀{x j:Nat},e.own x=some j->w0.heap.size<=x:=λh=>(hE.owned _ _ h).1
     have hBel:Below w0.heap.size w0 w1:=by
      refine ⟨q1.trans hB.os,q2.trans hB.tape,q3.trans hB.output,Nat.le_trans hB.size hsz,λx hx=>?_⟩
      have ne_: ∀{y j:Nat},e.own y=some j->x≠y:=λh he=>by have:=hlt h;omega
      rw [zW x (xO hx hB.size) (ne_ own4) (ne_ own6) (λh=>ne_ (own7 x h) rfl) (λh=>ne_ (own8 x h) rfl)]
      exact hB.block x hx
     have Xg2: ∀x,x<w.heap.size->e.ro x->w1.heap[x]? =w.heap[x]? :=λx hx hx2=>zW x hx (hro x hx2).2.1 (hro x hx2).2.2.1 (hro x hx2).2.2.2.2.1 (hro x hx2).2.2.2.2.2
     cases hb:(orS k2 a b c lo hi d day).isSome with
     |false=>
      have hq:=hq.2 hb;obtain ⟨f1,f2,f3⟩:=hF hb;have st:Step e e w w1:=⟨λx hx hx2=>⟨hx2,Xg2 x hx hx2⟩,λ_ h=>⟨h,rfl,rfl⟩,hsz⟩
      refine ⟨_,_,_,_,_,e,rfl,hq,⟨λx hx=>⟨(hE.apart x hx).1,xO (hE.apart x hx).2 hsz⟩,λx j hx=>⟨(hE.owned x j hx).1,xO (hE.owned x j hx).2 hsz⟩,hE.glob.step st⟩,hBel,?_,hlv,LL,hxt.step st,.lit false⟩
      intro p hp;rcases FT hp with rfl|⟨hp,Zj8,_⟩
      ·exact ⟨live6,own6,es',c',hmp,hes'⟩
      rcases FT hp with rfl|⟨hp,vI,_⟩
      ·exact I1 n7 live8 hdv.2 own8 f3
      rcases FT hp with rfl|⟨hp,Zj7,_⟩
      ·exact I1 n6 live7 hov.2 own7 f2
      obtain ⟨hpm,hna⟩:=EB hp;refine LF st (λx hx=>⟨hx,?_⟩) hna (hm p hpm)
      rcases Classical.em (x=e.blk o) with rfl|hxo
      ·rw [f1,hp4]
      ·exact zW x (hE.owned x _ hx).2 hxo (dne hx own6 Zj8) (λh=>dne hx (own7 x h) Zj7 rfl) (λh=>dne hx (own8 x h) vI rfl)
     |true=>
      have hq:=hq.1 hb;obtain ⟨y',t1,⟨ya,yn,yc,hy0⟩,t2,t3,t4⟩:=hT hb;have hid: ¬e.live nx:=λh=>Nat.lt_irrefl _ (hlv _ h)
      have hfr: ∀x j,e.own x=some j->j≠q->y'.ownBlock≠some x:=by
       intro x j hx hj h;rcases t3 x h with h|h
       ·have:=(hE.owned x j hx).2;omega
       ·exact dne hx (own7 x h) hj rfl
      have hfr2: ∀x,e.ro x->y'.ownBlock≠some x:=by
       intro x hx h;rcases t3 x h with h|h
       ·have:=(hro x hx).1;omega
       ·exact (hro x hx).2.2.2.2.1 h
      have H4: ∀x j,e.own x=some j->j≠q->(e.app nx y').own x=some j:=by
       intro x j hx hj;simp only [UJ.app];rw [if_neg (hfr x j hx hj)];exact hx
      have st:Step e (e.app nx y') w w1:=⟨λx hx hx2=>⟨hx2,Xg2 x hx hx2⟩,λj hj=>⟨.inr hj,rfl,by
       have:j≠nx:=λh=>hid (h▸hj)
       simp [UJ.app,this]⟩,hsz⟩
      have vne: ∀{j:Nat},e.live j->(e.app nx y').val j=e.val j:=λ{j} hj=>by
       have:j≠nx:=λh=>hid (h▸hj)
       simp [UJ.app,this]
      refine ⟨_,_,_,_,_,e.app nx y',rfl,hq,⟨λx hx=>⟨?_,xO (hE.apart x hx).2 hsz⟩,λx j hx=>?_,hE.glob.step st⟩,hBel,?_,?_,LL,hxt.step st,.lit true⟩
      ·simp only [UJ.app];rw [if_neg (hfr2 x hx)];exact (hE.apart x hx).1
      ·simp only [UJ.app] at hx;split at hx
       ·rename_i hxb;refine ⟨?_,(t2.lt x hxb).2⟩;rcases t3 x hxb with h|h
        ·exact Nat.le_trans hB.size h
        ·exact hlt (own7 x h)
       ·exact ⟨(hE.owned x j hx).1,xO (hE.owned x j hx).2 hsz⟩
      ·intro p hp;rcases GK.1 hp with rfl|hp
       ·exact xD (ov:=y') (.inl rfl) (by simp [UJ.app]) (λx hx=>by simp [UJ.app,hx]) rfl (λj hj=>tW hj) t2
       rcases FT hp with rfl|⟨hp,Zj8,_⟩
       ·exact ⟨.inr live6,H4 _ _ own6 hm_q,es',c',hmp,hes'⟩
       rcases FT hp with rfl|⟨hp,vI,_⟩
       ·exact xD (ov:=dv) (.inr live8) (by rw [vne live8];exact hdv.2) (λx hx=>H4 _ _ (own8 x hx) (Ne.symm hqr)) VU (λj hj=>C5 hj) t4
       rcases FT hp with rfl|⟨hp,Zj7,_⟩
       ·refine ⟨.inr live4,H4 _ _ own4 ho_q,[y'],t1,.cons ?_ (.nil _ _)⟩;rw [hy0];exact .row nx _ _ _ (.inl rfl) (by simp [UJ.app])
       obtain ⟨hp,Jd4⟩:=L0 hp;obtain ⟨hpm,hna⟩:=EB hp;refine LF st (λx hx=>⟨H4 _ _ hx Jd4,?_⟩) hna (hm p hpm)
       exact zW x (hE.owned x _ hx).2 (dne hx own4 Zj7) (dne hx own6 Zj8) (λh=>dne hx (own7 x h) Jd4 rfl) (λh=>dne hx (own8 x h) vI rfl)
      ·rintro j (rfl|hj)
       ·exact Nat.lt_succ_self _
       ·exact Nat.lt_succ_of_lt (hlv j hj)
    ·cases ht
   ·cases ht
  ·cases ht
 ·cases ht
end Go.Proofs.YtlclobclmfhlmaaGreatDoor.Hd
