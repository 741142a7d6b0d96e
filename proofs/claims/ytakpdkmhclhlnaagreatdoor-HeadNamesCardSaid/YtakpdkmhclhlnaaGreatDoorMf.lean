/- Contracts, put together. Conditions: those of each. -/
import Derived.Test.YtakpdkmhclhlnaaGreatDoorMe
set_option linter.unusedSimpArgs false
set_option linter.unusedVariables false
set_option maxRecDepth 100000
namespace Go.Proofs.YtakpdkmhclhlnaaGreatDoor.Hd
open Go Go.Sx Go.RowKit Bo
open Go.Sx.VO (need branch leaf)
open Go.Sx.AV (lst ptr agg roI tup top)
section
variable (N:Nat)(U O:Nat->Int)(m:Nat->Nat)(r v:Nat->Nat->Int)
def Wy0:St:={σ:=[AV.ro [lst 2 3 λk=>[iI (oL k),iI (oH k)],iI 1,Q1 N U O m r v,Q2 m N,top],agg QC,top,ptr 0 0,top,top,ptr 4 0]++HK 15 [iI 13]++HK 20 [lst 2 3 λk=>[iI (oL k),iI (oH k)],iI (↑(3:Nat):Int),iI 3]++HK 20 [Q1 N U O m r v,iI (N:Int),iI (N:Int)]++HK 14 [Q2 m N,iI (↑(HC m N):Int),iI (↑(HC m N):Int)]++HK 50 [iI 13]++HK 54 [],m:=[(4,GQ.ints 244 [] 169 λk=>UZ (fwO 12 (r0M N U O m r v) 13) k),(0,KT)],nx:=29}
noncomputable def Jn2:Code:=UC (VU (UA Tryz.f80) 5)
def Wg2(k:Nat):St:=(upE [(178,i k)] [(4,.ints 244 [] 169 (UZ (PF N U O m r v))),(0,.cells 183 [.x (.int .u64 0)])] (Wy0 N U O m r v))
def hU(k:Nat):GB->Option St
 | .ret=>some (upE [(4,.x (.pointer none)),(5,.lit false),(178,.top)] [(4,.ints 244 [] 169 (UZ (PF N U O m r v))),(0,.cells 183 [.x (.int .u64 0)])] (Wy0 N U O m r v))
 | .exit 16=>some (upE [(178,.top)] [(4,.ints 244 [] 169 (UZ (PF N U O m r v))),(0,.cells 183 [.x (.int .u64 0)])] (Wy0 N U O m r v))
 |_=>none
def Jj1:CT:= .branch (xF N U O m r v) (.leaf (.exit 16,(hU N U O m r v 0 (.exit 16)).getD (Wy0 N U O m r v))) (.leaf (.ret,(hU N U O m r v 0 .ret).getD (Wy0 N U O m r v)))
def Xt5:UL:=GN [] (HM (Wg2 N U O m r v (0)) (Jj1 N U O m r v))
theorem Jd8(VV:bOK N U O m r v):GD VQ (.loop Jn2) (Xt5 N U O m r v):=by
 refine G6 [] (L:=[]) (Ae RH (Ae LV (Ae R0 Aa))) (Ai Ab (Ag RL Ac)) U0 U7 (X:=Nat) (Wg2 N U O m r v) (λk=>k<=13/\ ∀j,j<k->0<=PF N U O m r v j j) (λk=>13-k) (hU N U O m r v) (x0:=0) VW ?_ ?_ ?_
 ·rintro k;kernel_rfl
 ·rintro k y E h;unfold hU at h;split at h
  ·cases h;kernel_rfl
  ·cases h;kernel_rfl
  ·cases h
 ·rintro Q hQ k hx;refine ⟨(k+1),?_⟩;(with_reducible refine DU (t:=let W:=(U1 (AV.ro [lst 2 3 λk=>[iI (oL k),iI (oH k)],iI 1,Q1 N U O m r v,Q2 m N,top]));let z1:=(U1 (↑(HC m N):Int));let z2:=PF N U O m r v;let z3:=(U1 (lst 2 3 λk=>[iI (oL k),iI (oH k)]));(branch (decide ((k:Int)<13)) (need [UN k 13] (need [UN k 13] (need [k*1+(k*13+0)<169] (branch (decide (UZ (z2) (k*1+(k*13+0))<0)) (need [W,U1 (agg QC),QO,QD=QD,X6,W5,XA,z3,U1 (↑(3:Nat):Int),XE,WS N U O m r v,U1 (N:Int),U1 (N:Int),U1 (Q2 m N),z1,z1,XA,169=169,GO 169 (UZ (z2)),QX] (leaf GB.ret)) (need [VN ((k:Int)+1)] (need [W,U1 (agg QC),QO,W5,XA,z3,U1 (↑(3:Nat):Int),XE,WS N U O m r v,U1 (N:Int),U1 (N:Int),U1 (Q2 m N),z1,z1,XA,(k:Int)+1=(↑(k+1):Int),169=169,GO 169 (UZ (z2)),QX] (leaf GB.normal))))))) (need [W,U1 (agg QC),QO,W5,XA,z3,U1 (↑(3:Nat):Int),XE,WS N U O m r v,U1 (N:Int),U1 (N:Int),U1 (Q2 m N),z1,z1,XA,169=169,GO 169 (UZ (z2)),QX] (leaf (GB.exit 16))))) VX ?_)
  simp only [Jj1,hU,VO.sat,GX] at hQ;simp only [VO.sat,UE,G5,GL,UH,VN,UK,HG,RX,RP,LO,GS,hU]
  have h1:UZ (PF N U O m r v) (k*1+(k*13+0))=PF N U O m r v k k\/13<=k:=by
   rcases An k 13 with h|h
   ·exact .inl (kW _ VL h)
   ·exact .inr h
  refine ⟨λh=>?_,λh=>?_⟩
  ·have h2:=h1.resolve_right VL;rw [h2];refine ⟨VL,VL,VL,λhneg=>?_,λWj3=>?_⟩
   ·have hno:xF N U O m r v=false:=by
     cases ho:xF N U O m r v
     ·rfl
     ·have:=H3.1 ho k VL;simp at this;omega
    (with_reducible repeat' first|apply Al|intro _)
    all_goals first|exact PM|(rename_i E hE;cases hE;exact hQ.2 hno)
   ·exact VF
  ·obtain ⟨hx1,hx2⟩:=hx;obtain rfl:k=13:=VL;have Wi1:xF N U O m r v=true:=H3.2 (λj hj=>by simpa using hx2 j hj)
   (with_reducible repeat' first|apply Al|intro _)
   all_goals first|exact PM|(rename_i E hE;cases hE;exact hQ.1 Wi1)
end
theorem Qi3{S:Code->UL->Prop}{c:Code}{s0 s1 s2 s3 s4 s5:UL}(h0: ∀cj,VU c 0=some cj->S cj s0)(h1: ∀cj,VU c 1=some cj->S cj s1)(h2: ∀cj,VU c 2=some cj->S cj s2)(h3: ∀cj,VU c 3=some cj->S cj s3)(h4: ∀cj,VU c 4=some cj->S cj s4)(h5: ∀cj,VU c 5=some cj->S cj s5):
  ∀j cj,VU c j=some cj-> ∀sp,[s0,s1,s2,s3,s4,s5][j]? =some sp->S cj sp:=by
 intro j cj hj sp hsp
 match j with
 | 0=>simp at hsp;subst hsp;exact h0 cj hj
 | 1=>simp at hsp;subst hsp;exact h1 cj hj
 | 2=>simp at hsp;subst hsp;exact h2 cj hj
 | 3=>simp at hsp;subst hsp;exact h3 cj hj
 | 4=>simp at hsp;subst hsp;exact h4 cj hj
 | 5=>simp at hsp;subst hsp;exact h5 cj hj
 |j+6=>simp at hsp
section
variable (N:Nat)
abbrev KC(U:Nat->Int)(O:Nat->Int)(m:Nat->Nat)(r:Nat->Nat->Int)(v:Nat->Nat->Int):AV:=roI [] 169 (λk=>UZ (PF N U O m r v) k) 0
theorem Xh8(U O:Nat->Int)(m:Nat->Nat)(r v:Nat->Nat->Int)(VV:bOK N U O m r v):UP VQ 80 [.ro [ofs,i 1,bds N U O m r v,.lst 2 (HC m N) (plF m N),.top],.agg [.x (.int .u64 0)]] (.branch (xF N U O m r v) (.leaf (.tup [.roI [] 169 (UZ (PF N U O m r v)) 0,.lit true])) (.leaf (.tup [Bo.nilP,.lit false]))):=by
 refine GU (L:=[Xu3 N U O m r v,Xu1 N U O m r v,Xu0 N U O m r v,Xt9 N U O m r v,Xt8 N U O m r v,Xt5 N U O m r v]) (Ae RH (Ae LV (Ae R0 Aa))) (Ai Ab (Ag RL Ac)) U0 Tryz.func80 (UV Tryz.f80) (Qi3 (lpE (b:= .loop Zp1) VX<|(Je6 N U O m r v).N) (lpE (b:= .loop Jn6) VX<|(Je4 N U O m r v).N) (lpE (b:= .loop Jn5) VX<|(Je3 N U O m r v VV).N) (lpE (b:= .loop Jn4) VX<|(Je2 N U O m r v VV).N) (lpE (b:= .loop Zp0) VX<|(Je1 N U O m r v VV).N) (lpE (b:= .loop Jn2) VX<|(Jd8 N U O m r v VV).N)) (t:=let W:=(U1 (AV.ro [lst 2 3 λk=>[iI (oL k),iI (oH k)],iI 1,Q1 N U O m r v,Q2 m N,top]));let z1:=(U1 (lst 2 3 λk=>[iI (oL k),iI (oH k)]));let z2:=(U1 (↑(HC m N):Int));let z3:=(U1 (↑(3:Nat):Int));(need [W,U1 (agg QC),QO,QD=QD,X6,W5,(0:Int)=(↑(0:Nat):Int),169=169,GV 169 (U9 QL) (UZ (LU 0 0)),QX] (need [W,U1 (agg QC),QO,QD=QD,X6,W5,XA,z1,z3,(0:Int)=(↑(0:Nat):Int),169=169,GV 169 (UZ (LU 13 0)) (UZ (ofM 0)),QX] (need [W,U1 (agg QC),QO,QD=QD,X6,W5,XA,z1,z3,XE,WS N U O m r v,U1 (N:Int),(0:Int)=(↑(0:Nat):Int),169=169,GV 169 (UZ (ofM 3)) (UZ (btM U O 0)),QX] (need [W,U1 (agg QC),QO,QD=QD,X6,W5,XA,z1,z3,XE,WS N U O m r v,U1 (N:Int),U1 (N:Int),U1 (Q2 m N),z2,(0:Int)=(↑(0:Nat):Int),169=169,GV 169 (UZ (btM U O N)) (UZ (rA N U O m r v 0)),QX] (need [W,U1 (agg QC),QO,QD=QD,X6,W5,XA,z1,z3,XE,WS N U O m r v,U1 (N:Int),U1 (N:Int),U1 (Q2 m N),z2,z2,(0:Int)=(↑(0:Nat):Int),169=169,GV 169 (UZ (rA N U O m r v (HC m N))) (UZ (fwO 12 (r0M N U O m r v) 0)),QX] (need [W,U1 (agg QC),QO,W5,XA,z1,z3,XE,WS N U O m r v,U1 (N:Int),U1 (N:Int),U1 (Q2 m N),z2,z2,XA,(0:Int)=(↑(0:Nat):Int),169=169,GV 169 (UZ (fwO 12 (r0M N U O m r v) 13)) (UZ (PF N U O m r v)),QX] (branch (xF N U O m r v) (leaf (tup [KC N U O m r v,AV.lit true])) (leaf (tup [QD,AV.lit false])))))))))) VX ?_
 intro Q hQ;simp only [VO.sat,UE,UK,VN,LO,GS] at hQ ⊢
 (with_reducible repeat' first|apply Al|intro _)
 all_goals first|exact Ak|omega|with_reducible rfl|rfl|exact Xg0 _|(rename_i h;exact h.elim)|(rename_i h;exact ⟨.tup [.roI [] 169 (UZ (PF N U O m r v)) 0,.lit true],⟨⟨rfl,rfl,λ_ _=>rfl,rfl⟩,rfl,Ak⟩,hQ.1 h⟩)|(rename_i h;exact ⟨.tup [Bo.nilP,.lit false],⟨rfl,rfl,Ak⟩,hQ.2 h⟩)
def Zl1(U O:Nat->Int)(m:Nat->Nat)(r v:Nat->Nat->Int):D8:=λl=>some (.need [l=[.ro [ofs,i 1,bds N U O m r v,.lst 2 (HC m N) (plF m N),.top],.agg [.x (.int .u64 0)]]] (.branch (xF N U O m r v) (.leaf (.tup [.roI [] 169 (UZ (PF N U O m r v)) 0,.lit true])) (.leaf (.tup [Bo.nilP,.lit false]))))
theorem Wq7(U O:Nat->Int)(m:Nat->Nat)(r v:Nat->Nat->Int)(VV:bOK N U O m r v):Sx.Enters Tryz.prog 80/\ ∀avs t,Zl1 N U O m r v avs=some t->UP VQ 80 avs t:=by
 refine ⟨(UJ Tryz.func80),?_⟩;intro avs t h;cases h;intro Q hQ;have e:=hQ.1
 dsimp only [UE] at e
 subst e;exact Xh8 N U O m r v VV Q hQ.2
def bV(U O:Nat->Int)(m:Nat->Nat)(r v:Nat->Nat->Int):Prop:=bOK N U O m r v/\ ∀b,b<N-> ∀j k,j<k->k<m b->r b j≠r b k
end
section
variable {N:Nat}{U O:Nat->Int}{m:Nat->Nat}{r v:Nat->Nat->Int}
theorem Zs0(h:bV N U O m r v):vB N (λk=>[i (U k),i (O k),bts (m k) (r k) (v k)]):=by
 refine ⟨h.1.1,U,O,m,λk j=>[i (r k j),i (v k j)],λ_ _=>rfl,λk hk=>⟨λ_ _=>rfl,⟨?_,λj hj=>?_,λj q hj hq=>?_⟩,?_⟩⟩
 ·have:=(h.1.2 k hk).1;omega
 ·obtain ⟨h1,h2,h3,h4,h5⟩:=h.1.2 k hk;exact h5 j hj
 ·exact h.2 k hk j q hj hq
 ·obtain ⟨h1,h2,h3,h4,h5⟩:=h.1.2 k hk;exact (insB_iff _ _ _ _).2 ⟨h2,h3,h4⟩
theorem Wr4(h:bV N U O m r v):N<=1000/\ ∀b,b<N->m b<=1000:=⟨by have:=h.1.1;omega,λb hb=>by have:=(h.1.2 b hb).1;omega⟩
end
section
variable (f:Nat->List AV)(er:Int)(N:Nat)(U O:Nat->Int)(m:Nat->Nat)(r v:Nat->Nat->Int)
def Xj9:G0:=λl=>some ([l=[.agg [.lst 2 3 f,i er,bds N U O m r v]]],.ro [.lst 2 3 f,i er,bds N U O m r v,.lst 2 (HC m N) (plF m N),.top])
theorem Qo9(VV:N<=1000)(UI: ∀b,b<N->m b<=1000):PI VQ 79 (Xj9 f er N U O m r v):=by
 refine ⟨(UJ Tryz.func79),?_⟩;intro avs ns res h hn;cases h;have e:=hn _ GI;subst e;exact Wp8 f er N U O m r v VV UI
end
section
variable (N:Nat)(U O:Nat->Int)(m:Nat->Nat)(r v:Nat->Nat->Int)
theorem Qp0(VV:bV N U O m r v):UP VQ 52 [.agg [ofs,i 1,bds N U O m r v],.lit true] (.branch (xF N U O m r v) (.leaf (.tup [.roI [] 169 (UZ (PF N U O m r v)) 0,i 0])) (.leaf (.tup [Bo.nilP,i 9]))):=by
 refine GU (L:=[]) (Ae Qp8 Aa) (Aj (Af (Qo9 (λk=>[i (oL k),i (oH k)]) 1 N U O m r v (Wr4 VV).1 (Wr4 VV).2) Ab) Ac (Ah (Wq7 N U O m r v VV.1) (UB.nil _))) U0 Tryz.func52 (UV Tryz.f52) G4 (t:=need [ofB λk=>[i (oL k),i (oH k)],vB N λk=>[i (U k),i (O k),bts (m k) (r k) (v k)]] (branch ((0:Int) != 0) (leaf (tup [QD,iI 0])) (need [U1 ([agg [lst 2 3 λk=>[iI (oL k),iI (oH k)],iI 1,Q1 N U O m r v]])] (need [U1 ([AV.ro [lst 2 3 λk=>[iI (oL k),iI (oH k)],iI 1,Q1 N U O m r v,Q2 m N,top],agg QC])] (branch (xF N U O m r v) (leaf (tup [KC N U O m r v,iI 0])) (leaf (tup [QD,iI 9]))))))) VX ?_
 intro Q hQ;simp only [VO.sat,UE,UK] at hQ ⊢;refine ⟨⟨λ_ _=>rfl,Zs0 VV⟩,λh=>by simp at h,λ_=>⟨λh=>⟨.tup [.roI [] 169 (UZ (PF N U O m r v)) 0,i 0],⟨⟨rfl,rfl,λ_ _=>rfl,rfl⟩,⟨rfl,rfl⟩,Ak⟩,hQ.1 h⟩,λh=>⟨.tup [Bo.nilP,i 9],⟨rfl,⟨rfl,rfl⟩,Ak⟩,hQ.2 h⟩⟩⟩
def Wv2:D8:=λl=>some (.need [l=[.agg [ofs,i 1,bds N U O m r v],.lit true]] (.branch (xF N U O m r v) (.leaf (.tup [.roI [] 169 (UZ (PF N U O m r v)) 0,i 0])) (.leaf (.tup [Bo.nilP,i 9]))))
theorem I6(VV:bV N U O m r v):Sx.Enters Tryz.prog 52/\ ∀avs t,Wv2 N U O m r v avs=some t->UP VQ 52 avs t:=by
 refine ⟨(UJ Tryz.func52),?_⟩;intro avs t h;cases h;intro Q hQ;have e:=hQ.1
 dsimp only [UE] at e
 subst e;exact Qp0 N U O m r v VV Q hQ.2
end
def Wt5:G0
 |[.roI [] 169 F 0,.x (.int .i64 a),.x (.int .i64 b)]=>some ([0<=a/\a<=12,0<=b/\b<=12,-1000000000000000<=F (b.toNat*13+a.toNat)/\F (b.toNat*13+a.toNat)<=1000000000000000],i (-(F (b.toNat*13+a.toNat))))
 |_=>none
theorem Xh7(F:Nat->Int)(a b:Int)(VV:0<=a/\a<=12)(UI:0<=b/\b<=12)(HR: -1000000000000000<=F (b.toNat*13+a.toNat)/\F (b.toNat*13+a.toNat)<=1000000000000000):VZ VQ 81 [.roI [] 169 F 0,i a,i b] (i (-(F (b.toNat*13+a.toNat)))):=by
 refine GT Tryz.func81 (t:=need [UN b 13] (need [UN a 13] (need [Int.toNat a*1+(Int.toNat b*13+0)<169] (need [VN (-F (Int.toNat a*1+(Int.toNat b*13+0)))] (leaf (RV.x (.int .i64 (-F (Int.toNat a*1+(Int.toNat b*13+0)))))))))) VX ?_;simp only [VO.sat,UE,G5,GL,UH,UK,FF];rw [show a.toNat*1+(b.toNat*13+0)=b.toNat*13+a.toNat by omega]
 simp only [VN];simp;omega
theorem Xh6:VS VQ 81 Wt5:=by
 refine ⟨(UJ Tryz.func81),?_⟩;intro avs ns res h hn;unfold Wt5 at h;split at h
 ·cases h;exact Xh7 _ _ _ (hn _ VW) (hn _ VW) (hn _ VW)
 ·cases h
def Qe3:G0
 |[.roI [] 169 F 0,.x (.int .i64 a),.x (.int .i64 b)]=>some ([0<=a/\a<=12,0<=b/\b<=12,-1000000000000000<=F (a.toNat*13+b.toNat)/\F (a.toNat*13+b.toNat)<=1000000000000000],i (F (a.toNat*13+b.toNat)))
 |_=>none
theorem Wq5(F:Nat->Int)(a b:Int)(VV:0<=a/\a<=12)(UI:0<=b/\b<=12)(HR: -1000000000000000<=F (a.toNat*13+b.toNat)/\F (a.toNat*13+b.toNat)<=1000000000000000):VZ VQ 82 [.roI [] 169 F 0,i a,i b] (i (F (a.toNat*13+b.toNat))):=by
 refine GT Tryz.func82 (t:=need [UN a 13] (need [UN b 13] (need [Int.toNat b*1+(Int.toNat a*13+0)<169] (leaf (RV.x (.int .i64 (F (Int.toNat b*1+(Int.toNat a*13+0))))))))) VX ?_;simp only [VO.sat,UE,G5,GL,UH,UK,FF];rw [show b.toNat*1+(a.toNat*13+0)=a.toNat*13+b.toNat by omega]
 simp only [VN];simp;omega
theorem Wq4:VS VQ 82 Qe3:=by
 refine ⟨(UJ Tryz.func82),?_⟩;intro avs ns res h hn;unfold Qe3 at h;split at h
 ·cases h;exact Wq5 _ _ _ (hn _ VW) (hn _ VW) (hn _ VW)
 ·cases h
def IP:G0
 |[.roI [] 169 F 0,.x (.int .i64 a),.x (.int .i64 b)]=>some ([0<=a/\a<=12,0<=b/\b<=12,-1000000000000000<=F (b.toNat*13+a.toNat)/\F (b.toNat*13+a.toNat)<=1000000000000000,-1000000000000000<=F (a.toNat*13+b.toNat)/\F (a.toNat*13+b.toNat)<=1000000000000000],.agg [i (-(F (b.toNat*13+a.toNat))),i (F (a.toNat*13+b.toNat))])
 |_=>none
theorem iV(F:Nat->Int)(a b:Int)(VV:0<=a/\a<=12)(UI:0<=b/\b<=12)(HR: -1000000000000000<=F (b.toNat*13+a.toNat)/\F (b.toNat*13+a.toNat)<=1000000000000000)(DY: -1000000000000000<=F (a.toNat*13+b.toNat)/\F (a.toNat*13+b.toNat)<=1000000000000000):VZ VQ 53 [.roI [] 169 F 0,i a,i b] (.agg [i (-(F (b.toNat*13+a.toNat))),i (F (a.toNat*13+b.toNat))]):=by
 refine U4 (L:=[]) (Ae Xh6 (Ae Wq4 Aa)) U0 Tryz.func53 (UV Tryz.f53) U7 (t:=need [(0:Int)<=a/\a<=12,(0:Int)<=b/\b<=12,(-1000000000000000:Int)<=F (Int.toNat b*13+Int.toNat a)/\F (Int.toNat b*13+Int.toNat a)<=1000000000000000] (need [(0:Int)<=a/\a<=12,(0:Int)<=b/\b<=12,(-1000000000000000:Int)<=F (Int.toNat a*13+Int.toNat b)/\F (Int.toNat a*13+Int.toNat b)<=1000000000000000] (leaf (RV.agg [RV.x (.int .i64 (-F (Int.toNat b*13+Int.toNat a))),RV.x (.int .i64 (F (Int.toNat a*13+Int.toNat b)))])))) VX ?_;exact YZ
theorem fW:VS VQ 53 IP:=by
 refine ⟨(UJ Tryz.func53),?_⟩;intro avs ns res h hn;unfold IP at h;split at h
 ·cases h;exact iV _ _ _ (hn _ VW) (hn _ VW) (hn _ VW) (hn _ VW)
 ·cases h
theorem Xg1{N:Nat}{U O:Nat->Int}{m:Nat->Nat}{r v:Nat->Nat->Int}(h:bOK N U O m r v)(x y:Nat): -1000000000000000<=PF N U O m r v x y/\PF N U O m r v x y<=1000000000000000:=by
 have:=Ww1 (c:=12) (SD h (HC m N) (Am _)) 13 x y;rw [show (8001:Int)*6^13=104498612822016 by decide] at this
 unfold PF r0M;omega
section
variable (N:Nat)(U O:Nat->Int)(m:Nat->Nat)(r v:Nat->Nat->Int)
def boE:Int:=if xF N U O m r v=true then 0 else 9
def boN:Nat:=if xF N U O m r v=true then 3 else 0
def boL(k:Nat):Int:= -(PF N U O m r v 0 (1+k))
def boH(k:Nat):Int:=PF N U O m r v (1+k) 0
abbrev QI:AV:=AV.x (.slice none 0 0)
def sE:St:={σ:=[agg [lst 2 3 λk=>[iI (oL k),iI (oH k)],iI 1,Q1 N U O m r v],ptr 0 0,QI,iI 0,QD,iI 9]++HK 12 [iI (↑(3:Nat):Int)]++HK 12 [],m:=[(901,GQ.row 68 2 0 λx=>[]),(0,GQ.cells 59 [lst 2 3 λk=>[iI (oL k),iI (oH k)],iI 1,Q1 N U O m r v])],nx:=902}
noncomputable def Qr1:Code:=UC (VU (UA Tryz.f19) 0)
def vE(k:Nat):St:={σ:=H6 [(19,i k),(6,.row 901),(4,.roI [] 169 (UZ (PF N U O m r v)) 0),(5,i 0)] (sE N U O m r v).σ,m:=[(901,.row 68 2 k (λk=>[i (boL N U O m r v k),i (boH N U O m r v k)])),(0,.cells 59 [ofs,i 1,bds N U O m r v])],nx:=902}
def PO(k:Nat):GB->Option St
 | .exit 0=>some {σ:=H6 [(19,i 3),(6,.row 901),(4,.roI [] 169 (UZ (PF N U O m r v)) 0),(5,i 0)] (sE N U O m r v).σ,m:=[(901,.row 68 2 3 (λk=>[i (boL N U O m r v k),i (boH N U O m r v k)])),(0,.cells 59 [ofs,i 1,bds N U O m r v])],nx:=902}
 |_=>none
def Ws6:CT:= .leaf (.exit 0,(PO N U O m r v 0 (.exit 0)).getD (sE N U O m r v))
def lV:UL:=GN [(.slot 6,901,68,2)] (HM (vE N U O m r v (0)) (Ws6 N U O m r v))
abbrev KO:Prop:=(1:Int)=1
theorem Jf8(VV:bV N U O m r v):GD VQ (.loop Qr1) (lV N U O m r v):=by
 refine G6 [(.slot 6,901,68,2)] (L:=[]) (Ae RH (Ae fW Aa)) (Aj Ab Ac (Ah (I6 N U O m r v VV) (UB.nil _))) U0 U7 (X:=Nat) (vE N U O m r v) (λk=>k<=3) (λk=>3-k) (PO N U O m r v) (x0:=0) VW ?_ ?_ ?_
 ·rintro k;kernel_rfl
 ·rintro k y E h;unfold PO at h;split at h
  ·cases h;kernel_rfl
  ·cases h
 ·rintro Q hQ k hx;refine ⟨(k+1),?_⟩;(with_reducible refine DU (t:=let W:=PF N U O m r v;let z1:=(U1 (agg [lst 2 3 λk=>[iI (oL k),iI (oH k)],iI 1,Q1 N U O m r v]));let z2:=(UZ (W) (((1:Int)+(k:Int)).toNat*13+(0:Int).toNat));(branch (decide ((k:Int)<(↑(3:Nat):Int))) (need [(0:Int)<=(k:Int)/\(k:Int)<=1000] (need [(0:Int)<=1+(k:Int)/\(1:Int)+(k:Int)<=12,(0:Int)<=0/\(0:Int)<=12,(-1000000000000000:Int)<=UZ (W) (0+((1:Int)+(k:Int)).toNat)/\UZ (W) (0+((1:Int)+(k:Int)).toNat)<=1000000000000000,(-1000000000000000:Int)<=UZ (W) (((1:Int)+(k:Int)).toNat*13+(0:Int).toNat)/\UZ (W) (((1:Int)+(k:Int)).toNat*13+(0:Int).toNat)<=1000000000000000] (need [(k+1)*16<=140737488355328,L0 1 (U8 2 [iI (-UZ (W) (0+((1:Int)+(k:Int)).toNat)),iI z2])] (need [VN ((k:Int)+1)] (need [z1,QO,QI=QI,QX,U1 (KC N U O m r v),QX,WG,U1 (↑(3:Nat):Int),(k:Int)+1=(↑(k+1):Int),k+1=k+1,GV (k+1) (GJ k (λk=>[iI (boL N U O m r v k),iI (boH N U O m r v k)]) (U8 2 [iI (-UZ (W) (0+((1:Int)+(k:Int)).toNat)),iI z2])) (λi=>[iI (boL N U O m r v i),iI (boH N U O m r v i)]),U1 (lst 2 3 λk=>[iI (oL k),iI (oH k)]),KO,WS N U O m r v] (leaf GB.normal)))))) (need [z1,QO,QI=QI,QX,U1 (KC N U O m r v),QX,WG,U1 (↑(3:Nat):Int),(k:Int)=3,k=3,∀(i:Nat),i<3->[iI (boL N U O m r v i),iI (boH N U O m r v i)]=[iI (boL N U O m r v i),iI (boH N U O m r v i)],U1 (lst 2 3 λk=>[iI (oL k),iI (oH k)]),KO,WS N U O m r v] (leaf (GB.exit 0))))) VX ?_)
  simp only [Ws6,PO,VO.sat,GX] at hQ;simp only [VO.sat,UE,G5,GL,UH,VN,UK,HG,RX,RP,LO,GS,PO]
  have hb:=λx y=>Xg1 VV.1 x y
  have e1:(1+(k:Int)).toNat=1+k:=VL;have g1:k<3->UZ (PF N U O m r v) (0*13+(1+k))=PF N U O m r v 0 (1+k):=λ_=>kW _ VL VL
  have g2:k<3->UZ (PF N U O m r v) ((1+k)*13+0)=PF N U O m r v (1+k) 0:=λ_=>kW _ VL VL
  have b1:=hb 0 (1+k);have b2:=hb (1+k) 0;refine ⟨λh=>?_,λh=>?_⟩
  ·have hk:k<3:=VL;have f1:=g1 hk;have f2:=g2 hk;rw [e1];simp only [Int.toNat_zero,f1,f2]
   (with_reducible repeat' first|apply Al|intro _)
   all_goals first|exact Ak|omega|rfl|exact FD (by assumption) (by simp [AV.one,Value.oneCell'])|exact Zj6 rfl rfl (by assumption)
  ·obtain rfl:k=3:=VL;exact YY
abbrev J4:Value:=Value.slice none 0 0
abbrev Y4:Value:=Value.pointer none
theorem kA(VV:bV N U O m r v):VZ VQ 19 [.agg [ofs,i 1,bds N U O m r v]] (.tup [.lst 2 (boN N U O m r v) (λk=>[i (boL N U O m r v k),i (boH N U O m r v k)]),i (boE N U O m r v)]):=by
 refine G9 (L:=[lV N U O m r v]) (Ae RH (Ae fW Aa)) (Aj Ab Ac (Ah (I6 N U O m r v VV) (UB.nil _))) U0 Tryz.func19 (UV Tryz.f19) (GA (lpE (b:= .loop Qr1) VX<|(Jf8 N U O m r v VV).N)) (t:=let W:=([lst 2 3 λk=>[iI (oL k),iI (oH k)],iI 1,Q1 N U O m r v]);let z1:=(leaf (RV.tup [RV.lst 2 3 λk=>[iI (boL N U O m r v k),iI (boH N U O m r v k)],RV.x (X0)]));(need [U1 ([agg W,AV.lit true])] (branch (xF N U O m r v) (branch ((0:Int) != 0) (leaf (RV.tup [RV.x (J4),RV.x (X0)])) (need [U1 (agg W),QO,QI=QI,QX,U1 (KC N U O m r v),QX,WG,U1 (↑(3:Nat):Int),(0:Int)=(↑(0:Nat):Int),0=0,∀(i:Nat),i<0->[]=[iI (boL N U O m r v i),iI (boH N U O m r v i)],U1 (lst 2 3 λk=>[iI (oL k),iI (oH k)]),KO,WS N U O m r v] z1)) (branch ((9:Int) != 0) (leaf (RV.tup [RV.x (J4),RV.x (.int .i64 (9:Int))])) (need [U1 (agg W),QO,QI=QI,QX,AV.x (Y4)=roI [] 169 (λk=>UZ (PF N U O m r v) k) 0,(9:Int)=0,WG,U1 (↑(3:Nat):Int),(0:Int)=(↑(0:Nat):Int),0=0,∀(i:Nat),i<0->[]=[iI (boL N U O m r v i),iI (boH N U O m r v i)],U1 (lst 2 3 λk=>[iI (oL k),iI (oH k)]),KO,WS N U O m r v] z1))))) VX ?_
 simp only [VO.sat,UE,G5,GL,UH,UK];refine ⟨λhok=>⟨λh=>by simp at h,λ_=>?_⟩,λhno=>⟨λ_=>?_,λh=>by simp at h⟩⟩
 ·unfold boN boE;rw [if_pos hok,if_pos hok]
  (with_reducible repeat' first|apply Al|intro _)
  all_goals first|exact Ak|omega|rfl|(rename_i hm;simp only [GM,DL,or_false] at hm;rcases hm with rfl|rfl<;>exact Ak)
 ·unfold boN boE;rw [if_neg (by simp [hno]),if_neg (by simp [hno])]
  exact ⟨⟨Ak,rfl⟩,rfl⟩
def pW:G0:=λl=>some ([l=[.agg [ofs,i 1,bds N U O m r v]]],.tup [.lst 2 (boN N U O m r v) (λk=>[i (boL N U O m r v k),i (boH N U O m r v k)]),i (boE N U O m r v)])
theorem TW(VV:bV N U O m r v):VS VQ 19 (pW N U O m r v):=by
 refine ⟨(UJ Tryz.func19),?_⟩;intro avs ns res h hn;cases h;have e:=hn _ GI;subst e;exact kA N U O m r v VV
end
def OF:G0
 |[.x (.int .i64 n),.x (.int .i64 U),.x (.int .i64 O)]=>some ([],bl (bt U n O))
 |_=>none
theorem mV(n U O:Int):VZ VQ 73 [i n,i U,i O] (bl (bt U n O)):=by
 refine GT Tryz.func73 (t:=branch (decide (U<=n)) (leaf (RV.x (.bool (decide (n<=O))))) (leaf (RV.x (W6)))) VX ?_;exact V9
theorem xY:VS VQ 73 OF:=by
 refine ⟨(UJ Tryz.func73),?_⟩;intro avs ns res h hn;unfold OF at h;split at h
 ·cases h;exact mV _ _ _
 ·cases h
def Ws8:G0
 |[.x (.int .i64 n)]=>some ([],bl (bt 0 n 100))
 |_=>none
theorem Xb0(n:Int):VZ VQ 56 [i n] (bl (bt 0 n 100)):=by
 refine U4 (L:=[]) (Ae xY Aa) U0 Tryz.func56 (UV Tryz.f56) U7 (t:=leaf (RV.x (.bool (bt (0:Int) n (100:Int))))) VX ?_;exact YZ
theorem rQ:VS VQ 56 Ws8:=by
 refine ⟨(UJ Tryz.func56),?_⟩;intro avs ns res h hn;unfold Ws8 at h;split at h
 ·cases h;exact Xb0 _
 ·cases h
def IJ:G0:=kD
theorem Qj3(a b:Int):VZ VQ 89 [.lst 1 2 (λk=>[i (if k=0 then a else b)])] (i (min a b)):=by
 refine U4 (L:=[]) (Ae S7 Aa) U0 Tryz.func89 (UV Tryz.f89) U7 (t:=leaf (RV.x (.int .i64 (min (if 0=0 then a else b) (if 1=0 then a else b))))) VX ?_
 simp [VO.sat,G5,UH]
theorem PN:VS VQ 89 IJ:=by
 refine ⟨(UJ Tryz.func89),?_⟩;intro avs ns res h hn;unfold IJ kD at h;split at h
 ·rename_i f;split at h
  ·rename_i a b h0 h1;cases h;refine (Qj3 a b).same (.cons (.lst 1 2 _ _ ?_) .nil);intro k hk;rcases (show k=0\/k=1 by omega) with rfl|rfl
   ·exact h0
   ·exact h1
  ·cases h
 ·cases h
def kE:G0:=dQ
theorem SE(a b:Int):VZ VQ 90 [.lst 1 2 (λk=>[i (if k=0 then a else b)])] (i (max a b)):=by
 refine U4 (L:=[]) (Ae sP Aa) U0 Tryz.func90 (UV Tryz.f90) U7 (t:=leaf (RV.x (.int .i64 (max (if 0=0 then a else b) (if 1=0 then a else b))))) VX ?_
 simp [VO.sat,G5,UH]
theorem DV:VS VQ 90 kE:=by
 refine ⟨(UJ Tryz.func90),?_⟩;intro avs ns res h hn;unfold kE dQ at h;split at h
 ·rename_i f;split at h
  ·rename_i a b h0 h1;cases h;refine (SE a b).same (.cons (.lst 1 2 _ _ ?_) .nil);intro k hk;rcases (show k=0\/k=1 by omega) with rfl|rfl
   ·exact h0
   ·exact h1
  ·cases h
 ·cases h
def saB(f t q U O:Int):Bool:=bt 0 f 3&&bt 0 t 3&&(f != t)&&bt 1 q 1000&&bt 0 U 100&&bt 0 O 100&&decide (U<=O)
abbrev sls(n:Nat)(f t q U O:Nat->Int):AV:= .lst 5 n (λk=>[i (f k),i (t k),i (q k),i (U k),i (O k)])
def MC(d:Int)(n:Nat):Bool:=Xi7 (d / 2^n) 1==1
theorem Wz8{f t q U O:Int}:saB f t q U O=true↔(0<=f/\f<=3)/\(0<=t/\t<=3)/\f≠t/\(1<=q/\q<=1000)/\(0<=U/\U<=100)/\(0<=O/\O<=100)/\U<=O:=by
 simp [saB,bt_iff,and_assoc]
theorem aU{q:Nat}(h:q<2^40):IntKind.i64.wrap (q:Int)=q:=by
 have e:IntKind.i64.wrap (q:Int)=if (true&&decide ((q:Int)%2^64>=2^63))=true then (q:Int)%2^64-2^64 else (q:Int)%2^64:=rfl
 have e2:(q:Int)%2^64=q:=Int.emod_eq_of_lt VL VL;rw [e,e2,if_neg];rw [Bool.true_and,gJ];omega
theorem pC{z:Nat}(hz:z<8192):(BitVec.ofInt 64 (z:Int)).toNat=z:=by
 rw [BitVec.toNat_ofInt];omega
theorem Xb6{x y:Nat}(hx:x<8192)(hy:y<8192):orI x y=((x ||| y:Nat):Int):=by
 unfold orI;rw [BitVec.toNat_or,pC hx,pC hy];have hlt:x ||| y<2^13:=Nat.or_lt_two_pow VL VL
 exact aU VL
theorem Wr7{x:Nat}(hx:x<8192):Xi7 x 1=((x%2:Nat):Int):=by
 unfold Xi7;rw [BitVec.toNat_and,pC hx,show (BitVec.ofInt 64 1).toNat=1 from rfl,Nat.and_one_is_mod];exact aU VL
theorem Zi7(d n:Nat):((d:Int) / 2^n)=((d / 2^n:Nat):Int):=by
 rw [Int.natCast_ediv,Int.natCast_pow];rfl
theorem Wl2{d n:Nat}(hd:d<8192):MC d n=d.testBit n:=by
 unfold MC;rw [Zi7,Wr7 (Nat.lt_of_le_of_lt (Nat.div_le_self _ _) hd),Nat.testBit_eq_decide_div_mod_eq,Bool.eq_iff_iff,beq_iff_eq,gJ];omega
def pM:G0
 |[.x (.int .i64 d),.x (.int .i64 n)]=>some ([0<=n/\n<=64],bl (MC d n.toNat))
 |_=>none
theorem Xa9(d n:Int)(VV:0<=n/\n<=64):VZ VQ 133 [i d,i n] (bl (MC d n.toNat)):=by
 refine GT Tryz.func133 (t:=need [(0:Int)<=n/\n<=64] (leaf (RV.x (.bool (IntKind.wrap IntKind.i64 (↑(BitVec.toNat (BitVec.ofInt 64 (d / (2:Int)^Int.toNat n) &&& BitVec.ofInt 64 (1:Int))):Int)==1))))) VX ?_;exact YZ
theorem rP:VS VQ 133 pM:=by
 refine ⟨(UJ Tryz.func133),?_⟩;intro avs ns res h hn;unfold pM at h;split at h
 ·cases h;exact Xa9 _ _ (hn _ VW)
 ·cases h
def Qd4:G0
 |[.agg [.x (.int .i64 4),.x (.int .i64 10),.lst 5 n f],.agg [.x (.int .i64 a),.x (.int .i64 b),.x (.int .i64 c),.x (.int .i64 U),.x (.int .i64 O)]]=>some ([],bl (saB a b c U O))
 |_=>none
theorem Qz8(f:Nat->List AV)(n:Nat)(a b c U O:Int):VZ VQ 129 [.agg [i 4,i 10,.lst 5 n f],.agg [i a,i b,i c,i U,i O]] (bl (saB a b c U O)):=by
 refine U4 (L:=[]) (Ae xY (Ae rQ Aa)) U0 Tryz.func129 (UV Tryz.f129) U7 (t:=need [VN ((4:Int)-1)] (branch (bt (0:Int) a ((4:Int)-1)) (need [VN ((4:Int)-1)] (branch (bt (0:Int) b ((4:Int)-1)) (branch (a != b) (branch (bt (1:Int) c (1000:Int)) (branch (bt (0:Int) U (100:Int)) (branch (bt (0:Int) O (100:Int)) (leaf (RV.x (.bool (decide (U<=O))))) (leaf (RV.x (W6)))) (leaf (RV.x (W6)))) (leaf (RV.x (W6)))) (leaf (RV.x (W6)))) (leaf (RV.x (W6))))) (leaf (RV.x (W6))))) VX ?_;simp only [VO.sat,UE,G5,GL,UH,UK,VN,saB];refine ⟨VL,?_⟩;cases h1:bt 0 a 3<;>cases h2:bt 0 b 3<;>cases h3:(a != b)<;>cases h4:bt 1 c 1000<;>cases h5:bt 0 U 100<;>cases h6:bt 0 O 100<;>simp [h1,h2,h3,h4,h5,h6]
theorem Qz7:VS VQ 129 Qd4:=by
 refine ⟨(UJ Tryz.func129),?_⟩;intro avs ns res h hn;unfold Qd4 at h;split at h
 ·cases h;exact Qz8 _ _ _ _ _ _ _
 ·cases h
def Qd5:G0
 |[.agg [.x (.int .i64 a),.x (.int .i64 b),.x (.int .i64 c),.x (.int .i64 U),.x (.int .i64 O)],.ro [.fn (.func 129) [.agg [.x (.int .i64 4),.x (.int .i64 10),.lst 5 n f]] []]]=>some ([],bl (!saB a b c U O))
 |_=>none
theorem Wa2(f:Nat->List AV)(n:Nat)(a b c U O:Int):VZ VQ 170 [.agg [i a,i b,i c,i U,i O],.ro [.fn (.func 129) [.agg [i 4,i 10,.lst 5 n f]] []]] (bl (!saB a b c U O)):=by
 refine U4 (L:=[]) (Ae Qz7 Aa) U0 Tryz.func170 (UV Tryz.f170) U7 (t:=leaf (RV.x (.bool !saB a b c U O))) VX ?_;exact YZ
theorem c9:VS VQ 170 Qd5:=by
 refine ⟨(UJ Tryz.func170),?_⟩;intro avs ns res h hn;unfold Qd5 at h;split at h
 ·cases h;exact Wa2 _ _ _ _ _ _ _
 ·cases h
def nsB(a b c U O:Nat->Int)(j:Nat):Bool:= !saB (a j) (b j) (c j) (U j) (O j)
def zT(n:Nat)(a b c U O:Nat->Int):Bool:=FN (λj=>saB (a j) (b j) (c j) (U j) (O j)) n
abbrev Q0(n:Nat)(a:Nat->Int)(b:Nat->Int)(c:Nat->Int)(U:Nat->Int)(O:Nat->Int):AV:=lst 5 n λk=>[iI (a k),iI (b k),iI (c k),iI (U k),iI (O k)]
abbrev WI(n1:Nat)(f:Nat->List AV):AV:=AV.fn (Fn.func 170) [] [AV.ro [AV.fn (Fn.func 129) [agg [iI 4,iI 10,lst 5 n1 λa=>f a]] []]]
section
variable (n:Nat)(a b c U O:Nat->Int)(f:Nat->List AV)(n1:Nat)
def IT:St:={σ:=[Q0 n a b c U O,WI n1 f]++HK 5 [iI (n:Int)]++HK 11 [],m:=[],nx:=4}
noncomputable def Wy4:Code:=UC (VU (UA Tryz.f199) 0)
def cZ(k:Nat):St:=(upM [(8,i k)] (IT n a b c U O f n1))
def wZ(k:Nat):GB->Option St
 | .ret=>some (upM [(4,i (GW ((nsB a b c U O)) n))] (IT n a b c U O f n1))
 | .exit 0=>some (upM [] (IT n a b c U O f n1))
 |_=>none
def Ws3:CT:= .branch (decide (GW ((nsB a b c U O)) n<n)) (.leaf (.ret,(wZ n a b c U O f n1 0 .ret).getD (IT n a b c U O f n1))) (.leaf (.exit 0,(wZ n a b c U O f n1 0 (.exit 0)).getD (IT n a b c U O f n1)))
def Qg5:UL:=(HM (cZ n a b c U O f n1 (0)) (Ws3 n a b c U O f n1))
end
abbrev W2(n:Nat)(a:Nat->Int)(b:Nat->Int)(c:Nat->Int)(U:Nat->Int)(O:Nat->Int):Prop:=(Q0 n a b c U O)=Q0 n a b c U O
theorem VE{p:Prop}(h:p:=by
 refine ⟨by have:=Xe6 hk hb;omega,λE hE=>?_⟩
 cases hE;exact hQ.1 (by rw [Xe6 hk hb];exact hk)):p:=h
section
variable (n:Nat)(a b c U O:Nat->Int)(f:Nat->List AV)(n1:Nat)
theorem Wy6(VV:n<=100000):GD VQ (.loop Wy4) (Qg5 n a b c U O f n1):=by
 refine HT (L:=[]) (Ae c9 Aa) U0 U7 (X:=Nat) (cZ n a b c U O f n1) (λk=>k<=n/\ ∀j,j<k->(nsB a b c U O) j=false) (λk=>n-k) (wZ n a b c U O f n1) (x0:=0) ⟨VL,λj hj=>VL⟩ ?_ ?_ ?_
 ·rintro k;kernel_rfl
 ·rintro k y E h;unfold wZ at h;split at h
  ·cases h;kernel_rfl
  ·cases h;kernel_rfl
  ·cases h
 ·rintro Q hQ k hx;refine ⟨(k+1),?_⟩;(with_reducible refine DU (t:=branch (decide ((k:Int)<(n:Int))) (need [UN k n] (branch (!saB (a k) (b k) (c k) (U k) (O k)) (need [W2 n a b c U O,U1 (WI n1 f),(k:Int)=(↑(GW (nsB a b c U O) n):Int),U1 (n:Int)] (leaf GB.ret)) (need [VN ((k:Int)+1)] (need [W2 n a b c U O,U1 (WI n1 f),U1 (n:Int),(k:Int)+1=(↑(k+1):Int)] (leaf GB.normal))))) (need [W2 n a b c U O,U1 (WI n1 f),U1 (n:Int)] (leaf (GB.exit 0)))) VX ?_);simp only [Ws3,wZ,VO.sat,GX,HG] at hQ;simp only [VO.sat,UE,UK,HG,VN,wZ,FF];have Xe6:k<n->((nsB a b c U O)) k=true->GW ((nsB a b c U O)) n=k:=λh hb=>zI h hb hx.2
  have PS: ¬k<n->GW ((nsB a b c U O)) n=n:=λh=>BX (λj hj=>hx.2 j VL)
  have hgo:((nsB a b c U O)) k=false-> ∀j,j<k+1->((nsB a b c U O)) j=false:=by
   intro hb j hj;rcases (show j<k\/j=k by omega) with h1|rfl
   ·exact hx.2 j h1
   ·exact hb
  refine ⟨λh=>⟨VL,?_⟩,λh=>?_⟩
  rotate_left
  ·intro E hE;cases hE;exact hQ.2 (by rw [PS VL];omega)
  have hk:k<n:=VL;refine ⟨λhb=>?_,λhb=>?_⟩
  ·exact VE
  ·exact ⟨VL,VL,⟨VL,hgo hb⟩,VL⟩
theorem Zd1(VV:n<=100000):VZ VQ 199 [sls n a b c U O,.fn (.func 170) [] [.ro [.fn (.func 129) [.agg [i 4,i 10,.lst 5 n1 f]] []]]] (i (if GW ((nsB a b c U O)) n<n then (GW ((nsB a b c U O)) n:Int) else -1)):=by
 refine U4 (L:=[Qg5 n a b c U O f n1]) (Ae c9 Aa) U0 Tryz.func199 (UV Tryz.f199) (GA (lpE (b:= .loop Wy4) VX<|Wy6 n a b c U O f n1 VV)) (t:=need [W2 n a b c U O,U1 (WI n1 f),U1 (n:Int),(0:Int)=(↑(0:Nat):Int)] (branch (decide (GW (nsB a b c U O) n<n)) (leaf (RV.x (.int .i64 (↑(GW (nsB a b c U O) n):Int)))) (leaf (RV.x (JO))))) VX ?_
 exact VB
end
def Xq1:G0
 |[.lst 5 n f,.fn (.func 170) [] [.ro [.fn (.func 129) [.agg [.x (.int .i64 4),.x (.int .i64 10),.lst 5 n1 f1]] []]]]=>some ([UG 5 n f,n<=100000],i (if GW (nsB (col 0 f) (col 1 f) (col 2 f) (col 3 f) (col 4 f)) n<n then (GW (nsB (col 0 f) (col 1 f) (col 2 f) (col 3 f) (col 4 f)) n:Int) else -1))
 |_=>none
theorem Zd0:VS VQ 199 Xq1:=by
 refine ⟨(UJ Tryz.func199),?_⟩;intro avs ns res h hn;unfold Xq1 at h;split at h
 ·cases h;have hr:_:=hn _ (GI);have hr1:_:=hn _ (HP _ (GI));exact (Zd1 _ (col 0 _) (col 1 _) (col 2 _) (col 3 _) (col 4 _) _ _ hr1).same (.cons (.lst 5 _ _ _ hr) (.cons (.refl _) .nil))
 ·cases h
theorem Zd3(n:Nat)(a b c U O:Nat->Int)(f:Nat->List AV)(n1:Nat)(VV:n<=100000):VZ VQ 169 [sls n a b c U O,.fn (.func 170) [] [.ro [.fn (.func 129) [.agg [i 4,i 10,.lst 5 n1 f]] []]]] (bl (!zT n a b c U O)):=by
 refine U4 (L:=[]) (Ae Zd0 Aa) U0 Tryz.func169 (UV Tryz.f169) U7 (t:=need [UG 5 n λk=>[i (a k),i (b k),i (c k),i (U k),i (O k)],n<=100000] (leaf (RV.x (.bool (decide ((if GW (nsB a b c U O) n<n then (↑(GW (nsB a b c U O) n):Int) else (-1:Int))>=(0:Int))))))) VX ?_
 simp only [VO.sat,UE,G5,UH,UK];refine ⟨⟨λ_ _=>rfl,VV⟩,?_⟩
 unfold zT;rw [kB];have:=DZ (nsB a b c U O) n;have e:(λk=> !(λk=>saB (a k) (b k) (c k) (U k) (O k)) k)=nsB a b c U O:=rfl
 rw [e];show decide ((if GW (nsB a b c U O) n<n then (GW (nsB a b c U O) n:Int) else -1)>=0)=_
 split<;>simp<;>omega
def Xq2:G0
 |[.lst 5 n f,.fn (.func 170) [] [.ro [.fn (.func 129) [.agg [.x (.int .i64 4),.x (.int .i64 10),.lst 5 n1 f1]] []]]]=>some ([UG 5 n f,n<=100000],bl (!zT n (col 0 f) (col 1 f) (col 2 f) (col 3 f) (col 4 f)))
 |_=>none
theorem Zd2:VS VQ 169 Xq2:=by
 refine ⟨(UJ Tryz.func169),?_⟩;intro avs ns res h hn;unfold Xq2 at h;split at h
 ·cases h;have hr:_:=hn _ (GI);have hr1:_:=hn _ (HP _ (GI));exact (Zd3 _ (col 0 _) (col 1 _) (col 2 _) (col 3 _) (col 4 _) _ _ hr1).same (.cons (.lst 5 _ _ _ hr) (.cons (.refl _) .nil))
 ·cases h
theorem Xb2(n:Nat)(a b c U O:Nat->Int)(f:Nat->List AV)(n1:Nat)(VV:n<=100000):VZ VQ 130 [sls n a b c U O,.fn (.func 129) [.agg [i 4,i 10,.lst 5 n1 f]] []] (bl (zT n a b c U O)):=by
 refine U4 (L:=[]) (Ae Zd2 Aa) U0 Tryz.func130 (UV Tryz.f130) U7 (t:=need [UG 5 n λk=>[i (a k),i (b k),i (c k),i (U k),i (O k)],n<=100000] (leaf (RV.x (.bool !!zT n a b c U O)))) VX ?_
 simp only [VO.sat,UE,G5,UH,UK];refine ⟨⟨λ_ _=>rfl,VV⟩,?_⟩
 show (!!zT n a b c U O)=_;simp
def Ws9:G0
 |[.lst 5 n f,.fn (.func 129) [.agg [.x (.int .i64 4),.x (.int .i64 10),.lst 5 n1 f1]] []]=>some ([UG 5 n f,n<=100000],bl (zT n (col 0 f) (col 1 f) (col 2 f) (col 3 f) (col 4 f)))
 |_=>none
theorem Xb1:VS VQ 130 Ws9:=by
 refine ⟨(UJ Tryz.func130),?_⟩;intro avs ns res h hn;unfold Ws9 at h;split at h
 ·cases h;have hr:_:=hn _ (GI);have hr1:_:=hn _ (HP _ (GI));exact (Xb2 _ (col 0 _) (col 1 _) (col 2 _) (col 3 _) (col 4 _) _ _ hr1).same (.cons (.lst 5 _ _ _ hr) (.cons (.refl _) .nil))
 ·cases h
theorem N0(n:Nat)(a b c U O:Nat->Int)(VV:n<=8):VZ VQ 83 [.agg [i 4,i 10,sls n a b c U O]] (i (if zT n a b c U O then 0 else 1)):=by
 refine U4 (L:=[]) (Ae Xb1 (Ae xY Aa)) U0 Tryz.func83 (UV Tryz.f83) U7 (t:=branch (decide ((n:Int)>8)) (leaf (RV.x (KI))) (branch (!bt (1:Int) (4:Int) (6:Int)) (leaf (RV.x (JU))) (branch (!bt (0:Int) (10:Int) (1000:Int)) (leaf (RV.x (JU))) (need [UG 5 n λk=>[i (a k),i (b k),i (c k),i (U k),i (O k)],n<=100000] (branch (!zT n a b c U O) (leaf (RV.x (JU))) (leaf (RV.x (X0)))))))) VX ?_
 simp only [VO.sat,UE,G5,UH,UK];have h1:(!bt 1 4 6)=false:=by decide
 have h2:(!bt 0 10 1000)=false:=by decide
 rw [h1,h2];refine ⟨λh=>absurd h (by simp;omega),λ_=>⟨λh=>(Bool.noConfusion h),λ_=>⟨λh=>(Bool.noConfusion h),λ_=>⟨⟨λ_ _=>rfl,VL⟩,λh=>?_,λh=>?_⟩⟩⟩⟩
 ·rw [Ax] at h;rw [h];rfl
 ·rw [Bool.not_eq_false'] at h;rw [h];rfl
def sg0(k:Nat):Int:=if k=0 then 10 else 0
def sld(F:Nat->Int)(a b c:Int)(k:Nat):Int:=if (k:Int)=b then (if (k:Int)=a then F k-c else F k)+c else if (k:Int)=a then F k-c else F k
abbrev sgs(F:Nat->Int):AV:= .agg [i (F 0),i (F 1),i (F 2),i (F 3),i (F 4),i (F 5)]
def lA:G0
 |[.agg [.x (.int .i64 4),.x (.int .i64 10),.lst 5 n f]]=>some ([],.agg [i 10,i 0,i 0,i 0,i 0,i 0])
 |_=>none
abbrev Q3:List Int:=[(0:Int),0,0,0,0,0]
theorem Qj5(f:Nat->List AV)(n:Nat):VZ VQ 132 [.agg [i 4,i 10,.lst 5 n f]] (.agg [i 10,i 0,i 0,i 0,i 0,i 0]):=by
 refine GT Tryz.func132 (t:=let W:=(US 4 (US 0 (10:Int) (BF Q3) 4) (US 3 (US 0 (10:Int) (BF Q3) 3) (US 2 (US 0 (10:Int) (BF Q3) 2) (US 1 (US 0 (10:Int) (BF Q3) 1) (US 0 (US 0 (10:Int) (BF Q3) 0) (j5 0 [(10:Int)] (BF Q3)))))));let z1:=(US 0 (10:Int) (BF Q3) 5);(need [UN 0 6] (need [1<=6] (need [6<=6] (need [6<=6] (leaf (RV.agg [RV.x (.int .i64 (US 5 z1 W 0)),RV.x (.int .i64 (US 5 z1 W 1)),RV.x (.int .i64 (US 5 z1 W 2)),RV.x (.int .i64 (US 5 z1 W 3)),RV.x (.int .i64 (US 5 z1 W 4)),RV.x (.int .i64 (US 5 z1 W 5))]))))))) VX ?_;exact YZ
theorem MZ:VS VQ 132 lA:=by
 refine ⟨(UJ Tryz.func132),?_⟩;intro avs ns res h hn;unfold lA at h;split at h
 ·cases h;exact Qj5 _ _
 ·cases h
theorem Qz6(F:Nat->Int)(a b c U O:Int)(VV: ∀k,k<6-> -1000000<=F k/\F k<=1000000)(UI:0<=a/\a<=3)(HR:0<=b/\b<=3)(DY:a≠b)(BM:1<=c/\c<=1000):VZ VQ 134 [sgs F,.agg [i a,i b,i c,i U,i O]] (sgs (sld F a b c)):=by
 refine GT Tryz.func134 (t:=let z1:=(j5 (Int.toNat a*1+0) [U9 [F 0,F 1,F 2,F 3,F 4,F 5] (Int.toNat a*1+0)-c] (U9 [F 0,F 1,F 2,F 3,F 4,F 5]));let W:=(US 4 (US (Int.toNat b*1+0) (US (Int.toNat a*1+0) (U9 [F 0,F 1,F 2,F 3,F 4,F 5] (Int.toNat a*1+0)-c) (U9 [F 0,F 1,F 2,F 3,F 4,F 5]) (Int.toNat b*1+0)+c) z1 4) (US 3 (US (Int.toNat b*1+0) (US (Int.toNat a*1+0) (U9 [F 0,F 1,F 2,F 3,F 4,F 5] (Int.toNat a*1+0)-c) (U9 [F 0,F 1,F 2,F 3,F 4,F 5]) (Int.toNat b*1+0)+c) z1 3) (US 2 (US (Int.toNat b*1+0) (US (Int.toNat a*1+0) (U9 [F 0,F 1,F 2,F 3,F 4,F 5] (Int.toNat a*1+0)-c) (U9 [F 0,F 1,F 2,F 3,F 4,F 5]) (Int.toNat b*1+0)+c) z1 2) (US 1 (US (Int.toNat b*1+0) (US (Int.toNat a*1+0) (U9 [F 0,F 1,F 2,F 3,F 4,F 5] (Int.toNat a*1+0)-c) (U9 [F 0,F 1,F 2,F 3,F 4,F 5]) (Int.toNat b*1+0)+c) z1 1) (US 0 (US (Int.toNat b*1+0) (US (Int.toNat a*1+0) (U9 [F 0,F 1,F 2,F 3,F 4,F 5] (Int.toNat a*1+0)-c) (U9 [F 0,F 1,F 2,F 3,F 4,F 5]) (Int.toNat b*1+0)+c) z1 0) (BF Q3))))));let z2:=(US (Int.toNat b*1+0) (US (Int.toNat a*1+0) (U9 [F 0,F 1,F 2,F 3,F 4,F 5] (Int.toNat a*1+0)-c) (U9 [F 0,F 1,F 2,F 3,F 4,F 5]) (Int.toNat b*1+0)+c) z1 5);(need [UN a 6] (need [Int.toNat a*1+0<List.length [F 0,F 1,F 2,F 3,F 4,F 5]] (need [VN (U9 [F 0,F 1,F 2,F 3,F 4,F 5] (Int.toNat a*1+0)-c)] (need [UN a 6] (need [Int.toNat a*1+0+List.length [U9 [F 0,F 1,F 2,F 3,F 4,F 5] (Int.toNat a*1+0)-c]<=List.length [F 0,F 1,F 2,F 3,F 4,F 5]] (need [UN b 6] (need [Int.toNat b*1+0<List.length [F 0,F 1,F 2,F 3,F 4,F 5]] (need [VN (US (Int.toNat a*1+0) (U9 [F 0,F 1,F 2,F 3,F 4,F 5] (Int.toNat a*1+0)-c) (U9 [F 0,F 1,F 2,F 3,F 4,F 5]) (Int.toNat b*1+0)+c)] (need [UN b 6] (need [Int.toNat b*1+0+List.length [US (Int.toNat a*1+0) (U9 [F 0,F 1,F 2,F 3,F 4,F 5] (Int.toNat a*1+0)-c) (U9 [F 0,F 1,F 2,F 3,F 4,F 5]) (Int.toNat b*1+0)+c]<=List.length [F 0,F 1,F 2,F 3,F 4,F 5]] (need [6<=List.length [F 0,F 1,F 2,F 3,F 4,F 5]] (need [0+List.length [US (Int.toNat b*1+0) (US (Int.toNat a*1+0) (U9 [F 0,F 1,F 2,F 3,F 4,F 5] (Int.toNat a*1+0)-c) (U9 [F 0,F 1,F 2,F 3,F 4,F 5]) (Int.toNat b*1+0)+c) z1 0,US (Int.toNat b*1+0) (US (Int.toNat a*1+0) (U9 [F 0,F 1,F 2,F 3,F 4,F 5] (Int.toNat a*1+0)-c) (U9 [F 0,F 1,F 2,F 3,F 4,F 5]) (Int.toNat b*1+0)+c) z1 1,US (Int.toNat b*1+0) (US (Int.toNat a*1+0) (U9 [F 0,F 1,F 2,F 3,F 4,F 5] (Int.toNat a*1+0)-c) (U9 [F 0,F 1,F 2,F 3,F 4,F 5]) (Int.toNat b*1+0)+c) z1 2,US (Int.toNat b*1+0) (US (Int.toNat a*1+0) (U9 [F 0,F 1,F 2,F 3,F 4,F 5] (Int.toNat a*1+0)-c) (U9 [F 0,F 1,F 2,F 3,F 4,F 5]) (Int.toNat b*1+0)+c) z1 3,US (Int.toNat b*1+0) (US (Int.toNat a*1+0) (U9 [F 0,F 1,F 2,F 3,F 4,F 5] (Int.toNat a*1+0)-c) (U9 [F 0,F 1,F 2,F 3,F 4,F 5]) (Int.toNat b*1+0)+c) z1 4,US (Int.toNat b*1+0) (US (Int.toNat a*1+0) (U9 [F 0,F 1,F 2,F 3,F 4,F 5] (Int.toNat a*1+0)-c) (U9 [F 0,F 1,F 2,F 3,F 4,F 5]) (Int.toNat b*1+0)+c) z1 5]<=6] (leaf (RV.agg [RV.x (.int .i64 (US 5 z2 W 0)),RV.x (.int .i64 (US 5 z2 W 1)),RV.x (.int .i64 (US 5 z2 W 2)),RV.x (.int .i64 (US 5 z2 W 3)),RV.x (.int .i64 (US 5 z2 W 4)),RV.x (.int .i64 (US 5 z2 W 5))]))))))))))))))) VX ?_;simp only [VO.sat,UE,G5,GL,UH,UK,VN];obtain ⟨A,rfl⟩: ∃A:Nat,a=A:=⟨a.toNat,VL⟩;obtain ⟨B,rfl⟩: ∃B:Nat,b=B:=⟨b.toNat,VL⟩;have h0:=VV 0 VL;have h1:=VV 1 VL;have h2:=VV 2 VL;have h3:=VV 3 VL
 have h4:=VV 4 VL;have h5:=VV 5 VL;rcases (show A=0\/A=1\/A=2\/A=3 by omega) with rfl|rfl|rfl|rfl<;>rcases (show B=0\/B=1\/B=2\/B=3 by omega) with rfl|rfl|rfl|rfl<;>first|(exfalso;omega)|(simp [GS,US,U9,sld];omega)
def Qd3:G0
 |[.agg [.x (.int .i64 s0),.x (.int .i64 s1),.x (.int .i64 s2),.x (.int .i64 s3),.x (.int .i64 s4),.x (.int .i64 s5)],.agg [.x (.int .i64 a),.x (.int .i64 b),.x (.int .i64 c),.x (.int .i64 U),.x (.int .i64 O)]]=>some ([-1000000<=s0/\s0<=1000000,-1000000<=s1/\s1<=1000000,-1000000<=s2/\s2<=1000000,-1000000<=s3/\s3<=1000000,-1000000<=s4/\s4<=1000000,-1000000<=s5/\s5<=1000000,0<=a/\a<=3,0<=b/\b<=3,a≠b,1<=c/\c<=1000],sgs (sld (U9 [s0,s1,s2,s3,s4,s5]) a b c))
 |_=>none
def sV(n:Nat)(a b c U O:Nat->Int):Prop:=n<=8/\ ∀k,k<n->saB (a k) (b k) (c k) (U k) (O k)=true
def stF(a b c:Nat->Int)(d:Int):Nat->Nat->Int
 | 0=>sg0
 |k+1=>if MC d k then sld (stF a b c d k) (a k) (b k) (c k) else stF a b c d k
theorem c7:VS VQ 134 Qd3:=by
 refine ⟨(UJ Tryz.func134),?_⟩;intro avs ns res h hn;unfold Qd3 at h;split at h
 ·cases h;rename_i s0 s1 s2 s3 s4 s5 a b c U O;refine Qz6 (U9 [s0,s1,s2,s3,s4,s5]) a b c U O ?_ (hn _ VW) (hn _ VW) (hn _ VW) (hn _ VW);intro k hk
  match k,hk with
  | 0,_=>exact hn (-1000000<=s0/\s0<=1000000) VW
  | 1,_=>exact hn (-1000000<=s1/\s1<=1000000) VW
  | 2,_=>exact hn (-1000000<=s2/\s2<=1000000) VW
  | 3,_=>exact hn (-1000000<=s3/\s3<=1000000) VW
  | 4,_=>exact hn (-1000000<=s4/\s4<=1000000) VW
  | 5,_=>exact hn (-1000000<=s5/\s5<=1000000) VW
 ·cases h
theorem upd6(F:Nat->Int)(a b c:Int)(q:Nat)(hq:q<6):
  US 5 (sld (U9 [F 0,F 1,F 2,F 3,F 4,F 5]) a b c 5) (US 4 (sld (U9 [F 0,F 1,F 2,F 3,F 4,F 5]) a b c 4) (US 3 (sld (U9 [F 0,F 1,F 2,F 3,F 4,F 5]) a b c 3)
   (US 2 (sld (U9 [F 0,F 1,F 2,F 3,F 4,F 5]) a b c 2) (US 1 (sld (U9 [F 0,F 1,F 2,F 3,F 4,F 5]) a b c 1) (US 0 (sld (U9 [F 0,F 1,F 2,F 3,F 4,F 5]) a b c 0) F))))) q=sld F a b c q:=by
 match q,hq with
 | 0,_=>rfl
 | 1,_=>rfl
 | 2,_=>rfl
 | 3,_=>rfl
 | 4,_=>rfl
 | 5,_=>rfl
theorem Xn1(F:Nat->Int)(x0 x1 x2 x3 x4 x5:Int)(q:Nat)(hq:q<6):
  US 5 x5 (US 4 x4 (US 3 x3 (US 2 x2 (US 1 x1 (US 0 x0 F))))) q=U9 [x0,x1,x2,x3,x4,x5] q:=by
 match q,hq with
 | 0,_=>rfl
 | 1,_=>rfl
 | 2,_=>rfl
 | 3,_=>rfl
 | 4,_=>rfl
 | 5,_=>rfl
theorem sO{n:Nat}{a b c U O:Nat->Int}(h:sV n a b c U O){k:Nat}(hk:k<n):(0<=a k/\a k<=3)/\(0<=b k/\b k<=3)/\a k≠b k/\(1<=c k/\c k<=1000)/\(0<=U k/\U k<=100)/\(0<=O k/\O k<=100)/\U k<=O k:=Wz8.1 (h.2 k hk)
theorem Qx2{n:Nat}{a b c U O:Nat->Int}(h:sV n a b c U O)(d:Int): ∀k,k<=n-> ∀j,-(1000*k:Int)<=stF a b c d k j/\stF a b c d k j<=10+1000*k
 | 0,_,j=>by
  simp only [stF,sg0];split<;>omega
 |k+1,hk,j=>by
  obtain ⟨_,_,h3,h4,_⟩:=sO h (show k<n by omega)
  have ih:=Qx2 h d k VL j;simp only [stF];split
  ·unfold sld
   repeat' split
   all_goals omega
  ·omega
theorem Xy9{n:Nat}{a b c U O:Nat->Int}(h:sV n a b c U O)(d:Int){k:Nat}(hk:k<=n)(j:Nat): -1000000<=stF a b c d k j/\stF a b c d k j<=1000000:=by
 have:=Qx2 h d k hk j;have:=h.1;omega
abbrev QQ(n:Nat)(a:Nat->Int)(b:Nat->Int)(c:Nat->Int)(U:Nat->Int)(O:Nat->Int)(ea:AV)(la:AV):AV:=AV.ro [iI 4,iI 10,Q0 n a b c U O,ea,la]
section
variable (ea la:AV)(n:Nat)(a b c U O:Nat->Int)(d:Int)
def Zl7:St:={σ:=[QQ n a b c U O ea la,iI d,top,top,ptr 0 0,ptr 6 0]++HK 11 [Q0 n a b c U O,iI (n:Int)]++HK 13 [],m:=[(6,GQ.ints 193 [] 6 λa=>US 5 (0:Int) (US 4 (0:Int) (US 3 (0:Int) (US 2 (0:Int) (US 1 (0:Int) (US 0 (10:Int) (BF Q3)))))) a),(0,GQ.ints 193 [] 6 λa=>(0:Int))],nx:=15}
noncomputable def Jl5:Code:=UC (VU (UA Tryz.f88) 0)
def We2(k:Nat):St:={σ:=H6 [(6,.top),(7,.top),(19,i k)] (Zl7 ea la n a b c U O d).σ,m:=[(6,.ints 193 [] 6 (stF a b c d (k))),(0,.ints 193 [] 6 (λ_=>0))],nx:=15}
def C0(k:Nat):GB->Option St
 | .exit 0=>some {σ:=H6 [(6,.top),(7,.top),(19,i n)] (Zl7 ea la n a b c U O d).σ,m:=[(6,.ints 193 [] 6 (stF a b c d (n))),(0,.ints 193 [] 6 (λ_=>0))],nx:=15}
 |_=>none
def Jg9:CT:= .leaf (.exit 0,(C0 ea la n a b c U O d 0 (.exit 0)).getD (Zl7 ea la n a b c U O d))
def Xr1:UL:=(HM (We2 ea la n a b c U O d (0)) (Jg9 ea la n a b c U O d))
end
abbrev ZN(n:Nat)(a:Nat->Int)(b:Nat->Int)(c:Nat->Int)(U:Nat->Int)(O:Nat->Int)(ea:AV)(la:AV):Prop:=QQ n a b c U O ea la=QQ n a b c U O ea la
section
variable (ea la:AV)(n:Nat)(a b c U O:Nat->Int)(d:Int)
theorem Zt1(VV:sV n a b c U O)(UI:0<=d/\d<256):GD VQ (.loop Jl5) (Xr1 ea la n a b c U O d):=by
 refine HT (L:=[]) (Ae rP (Ae c7 (Ae MZ Aa))) U0 U7 (X:=Nat) (We2 ea la n a b c U O d) (λk=>k<=n) (λk=>n-k) (C0 ea la n a b c U O d) (x0:=0) VL ?_ ?_ ?_
 ·rintro k;kernel_rfl
 ·rintro k y E h;unfold C0 at h;split at h
  ·cases h;kernel_rfl
  ·cases h
 ·rintro Q hQ k hx;refine ⟨(k+1),?_⟩;(with_reducible refine DU (t:=let z1:=stF a b c d k;let W:=(U9 [z1 0,z1 1,z1 2,z1 3,z1 4,z1 5]);(branch (decide ((k:Int)<(n:Int))) (need [UN k n] (need [(0:Int)<=(k:Int)/\(k:Int)<=64] (branch (MC d k) (need [6<=6] (need [(-1000000:Int)<=z1 0/\z1 0<=1000000,(-1000000:Int)<=z1 1/\z1 1<=1000000,(-1000000:Int)<=z1 2/\z1 2<=1000000,(-1000000:Int)<=z1 3/\z1 3<=1000000,(-1000000:Int)<=z1 4/\z1 4<=1000000,(-1000000:Int)<=z1 5/\z1 5<=1000000,(0:Int)<=a k/\a k<=3,(0:Int)<=b k/\b k<=3,a k≠b k,(1:Int)<=c k/\c k<=1000] (need [0+List.length [sld W (a k) (b k) (c k) 0,sld W (a k) (b k) (c k) 1,sld W (a k) (b k) (c k) 2,sld W (a k) (b k) (c k) 3,sld W (a k) (b k) (c k) 4,sld W (a k) (b k) (c k) 5]<=6] (need [VN ((k:Int)+1)] (need [ZN n a b c U O ea la,d=d,QO,YL,W2 n a b c U O,U1 (n:Int),(k:Int)+1=(↑(k+1):Int),6=6,GV 6 (US 5 (sld W (a k) (b k) (c k) 5) (US 4 (sld W (a k) (b k) (c k) 4) (US 3 (sld W (a k) (b k) (c k) 3) (US 2 (sld W (a k) (b k) (c k) 2) (US 1 (sld W (a k) (b k) (c k) 1) (US 0 (sld W (a k) (b k) (c k) 0) (z1))))))) (stF a b c d (k+1)),6=6,∀(k:Nat),k<6->(0:Int)=0] (leaf GB.normal)))))) (need [VN ((k:Int)+1)] (need [ZN n a b c U O ea la,d=d,QO,YL,W2 n a b c U O,U1 (n:Int),(k:Int)+1=(↑(k+1):Int),6=6,GV 6 z1 (stF a b c d (k+1)),6=6,∀(k:Nat),k<6->(0:Int)=0] (leaf GB.normal)))))) (need [ZN n a b c U O ea la,d=d,QO,YL,W2 n a b c U O,U1 (n:Int),(k:Int)=(n:Int),6=6,GV 6 z1 (stF a b c d n),6=6,∀(k:Nat),k<6->(0:Int)=0] (leaf (GB.exit 0))))) VX ?_);simp only [Jg9,C0,VO.sat,GX] at hQ;simp only [VO.sat,UE,G5,GL,UH,VN,UK,HG,RX,RP,LO,GS,C0]
  have h8:=VV.1;refine ⟨λh=>?_,λh=>?_⟩
  ·have hs:=sO VV (show k<n by omega)
   have hl:=Xy9 VV d (show k<=n by omega)
   cases hb:MC d k
   ·(with_reducible repeat' first|apply Al|intro _)
    all_goals first|exact PM|(first|contradiction|(simp [stF,hb]))
   ·(with_reducible repeat' first|apply Al|intro _)
    all_goals first|exact PM|(first|contradiction|exact (hl _).1|exact (hl _).2|(simp only [stF,hb,if_true];exact upd6 _ _ _ _ _ (by assumption)))
  ·obtain rfl:k=n:=VL;exact YY
theorem mW(VV:sV n a b c U O)(UI:0<=d/\d<256):VZ VQ 88 [.ro [i 4,i 10,sls n a b c U O,ea,la],i d] (sgs (stF a b c d n)):=by
 refine U4 (L:=[Xr1 ea la n a b c U O d]) (Ae rP (Ae c7 (Ae MZ Aa))) U0 Tryz.func88 (UV Tryz.f88) (GA (lpE (b:= .loop Jl5) VX<|Zt1 ea la n a b c U O d VV UI)) (t:=let z1:=stF a b c d n;let W:=(US 4 (z1 4) (US 3 (z1 3) (US 2 (z1 2) (US 1 (z1 1) (US 0 (z1 0) λx=>(0:Int))))));(need [6<=6] (need [ZN n a b c U O ea la,d=d,QO,YL,W2 n a b c U O,U1 (n:Int),(0:Int)=(↑(0:Nat):Int),6=6,GV 6 (US 5 (0:Int) (US 4 (0:Int) (US 3 (0:Int) (US 2 (0:Int) (US 1 (0:Int) (US 0 (10:Int) (BF Q3))))))) (stF a b c d 0),6=6,∀(k:Nat),k<6->(0:Int)=0] (need [6<=6] (need [0+List.length [z1 0,z1 1,z1 2,z1 3,z1 4,z1 5]<=6] (leaf (RV.agg [RV.x (.int .i64 (US 5 (z1 5) W 0)),RV.x (.int .i64 (US 5 (z1 5) W 1)),RV.x (.int .i64 (US 5 (z1 5) W 2)),RV.x (.int .i64 (US 5 (z1 5) W 3)),RV.x (.int .i64 (US 5 (z1 5) W 4)),RV.x (.int .i64 (US 5 (z1 5) W 5))]))))))) VX ?_
 simp only [VO.sat,UE,G5,GL,UH,UK]
 (with_reducible repeat' first|apply Al|intro _)
 all_goals first|exact Ak|omega|with_reducible rfl|rfl|(simp;done)|skip
 rename_i q hq;rw [Xn1 _ _ _ _ _ _ _ q hq]
 match q,hq with
 | 0,_=>rfl
 | 1,_=>rfl
 | 2,_=>rfl
 | 3,_=>rfl
 | 4,_=>rfl
 | 5,_=>rfl
end
section
variable (n:Nat)(a b c U O:Nat->Int)
def dU:G0
 |[.ro [.x (.int .i64 4),.x (.int .i64 10),.lst 5 n1 f1,ea,la],.x (.int .i64 d)]=>some ([lst 5 n1 f1=sls n a b c U O,0<=d/\d<256],sgs (stF a b c d n))
 |_=>none
theorem qS(VV:sV n a b c U O):VS VQ 88 (dU n a b c U O):=by
 refine ⟨(UJ Tryz.func88),?_⟩;intro avs ns res h hn;unfold dU at h;split at h
 ·cases h;rename_i n1 f1 ea la d;have e:=hn _ GI;rw [e];exact mW ea la n a b c U O d VV (hn _ VW)
 ·cases h
end
theorem uF{n:Nat}(h:n<=8):(1:Int)<=2^n/\(2:Int)^n<=256:=by
 rcases (show n=0\/n=1\/n=2\/n=3\/n=4\/n=5\/n=6\/n=7\/n=8 by omega) with rfl|rfl|rfl|rfl|rfl|rfl|rfl|rfl|rfl<;>decide
def II:G0
 |[.ro [.x (.int .i64 4),.x (.int .i64 10),.lst 5 n f,ea,la]]=>some ([n<=8],i (2^n-1))
 |_=>none
theorem Qj1(ea la:AV)(n:Nat)(f:Nat->List AV)(VV:n<=8):VZ VQ 86 [.ro [i 4,i 10,.lst 5 n f,ea,la]] (i (2^n-1)):=by
 refine GT Tryz.func86 (t:=need [(0:Int)<=(n:Int)/\(n:Int)<=64,VN ((1:Int)*2^n)] (need [VN ((1:Int)*2^n-1)] (leaf (RV.x (.int .i64 ((1:Int)*2^n-1)))))) VX ?_;simp only [VO.sat,UE,G5,GL,UH,UK,Int.one_mul,VN];have h:=uF VV;omega
theorem LC:VS VQ 86 II:=by
 refine ⟨(UJ Tryz.func86),?_⟩;intro avs ns res h hn;unfold II at h;split at h
 ·cases h;exact Qj1 _ _ _ _ (hn _ VW)
 ·cases h
def G8(p:Nat->Bool):Nat->Nat
 | 0=>0
 |k+1=>G8 p k+(match p k with|true=>1|false=>0)
def UU(p:Nat->Bool)(n q:Nat):Nat:=GW (λj=>p j&&Nat.beq (G8 p j) q) n
def st6(F:Nat->Int):Nat->Int:=US 5 (F 5) (US 4 (F 4) (US 3 (F 3) (US 2 (F 2) (US 1 (F 1) (US 0 (F 0) (BF [0,0,0,0,0,0]))))))
def quB(n:Nat)(a b c:Nat->Int)(d:Int)(j:Nat):Bool:= !MC d j&&decide (stF a b c d n (a j).toNat>=c j)
def saV(a b c U O:Nat->Int)(j:Nat):List Value:=[.int .i64 j,.agg #[.int .i64 (a j),.int .i64 (b j),.int .i64 (c j),.int .i64 (U j),.int .i64 (O j)]]
def quV(n:Nat)(a b c U O:Nat->Int)(d:Int)(q:Nat):List Value:=saV a b c U O (UU (quB n a b c d) n q)
def quN(n:Nat)(a b c:Nat->Int)(d:Int):Nat:=G8 (quB n a b c d) n
theorem Xz0(F:Nat->Int){q:Nat}(hq:q<6):st6 F q=F q:=by
 unfold st6;rw [Xn1 _ _ _ _ _ _ _ q hq]
 match q,hq with
 | 0,_=>rfl
 | 1,_=>rfl
 | 2,_=>rfl
 | 3,_=>rfl
 | 4,_=>rfl
 | 5,_=>rfl
theorem NZ(p:Nat->Bool){b c:Nat}(h:b<=c):G8 p b<=G8 p c:=by
 induction h with
 |refl=>exact Am _
 |step _ ih=>exact Ar ih (Nat.le_add_right _ _)
section
variable {p:Nat->Bool}
theorem FM{k:Nat}(h:p k=true):G8 p (k+1)=G8 p k+1:=by
 simp only [G8,h]
theorem FU{k:Nat}(h:p k=false):G8 p (k+1)=G8 p k:=by
 simp only [G8,h,Bg]
theorem qQ{n k:Nat}(hk:k<n)(h:p k=true):UU p n (G8 p k)=k:=by
 refine zI hk ?_ λj hj=>?_
 ·simp [h]
 ·cases hp:p j
  ·rfl
  ·have h1:=FM hp;have h2:=NZ p (show j+1<=k by omega)
   simp only [Bool.true_and];cases hb:Nat.beq (G8 p j) (G8 p k)
   ·rfl
   ·have:=GY hb;omega
end
theorem TS(p:Nat->Bool): ∀k,G8 p k<=k
 | 0=>Am 0
 |k+1=>by
  have:=TS p k;unfold G8;split<;>omega
theorem iP{p:Nat->Bool}: ∀{k q:Nat},q<G8 p k-> ∃j,j<k/\p j=true/\G8 p j=q
 | 0,q,h=>absurd h (by simp [G8])
 |k+1,q,h=>by
  rcases An q (G8 p k) with h1|h1
  ·obtain ⟨j,hj,h2⟩:=iP h1;exact ⟨j,VL,h2⟩
  ·cases hp:p k
   ·rw [FU hp] at h;omega
   ·rw [FM hp] at h;exact ⟨k,VL,hp,VL⟩
theorem u6{p:Nat->Bool}{n q:Nat}(h:q<G8 p n):UU p n q<n/\p (UU p n q)=true:=by
 obtain ⟨j,hj,hp,hc⟩:=iP h;rw [←hc,qQ hj hp];exact ⟨hj,hp⟩
def rY:G0
 |[.ro [.x (.int .i64 4),.x (.int .i64 10),.lst 5 n f,ea,la],.x (.int .i64 d)]=>some ([],.fn (.func 171) [] [.ro [.ro [i 4,i 10,.lst 5 n f,ea,la]],.ro [i d]])
 |_=>none
theorem Qz9(ea la:AV)(n:Nat)(f:Nat->List AV)(d:Int):FO VQ 131 [.ro [i 4,i 10,.lst 5 n f,ea,la],i d] (.fn (.func 171) [] [.ro [.ro [i 4,i 10,.lst 5 n f,ea,la]],.ro [i d]]):=by
 refine D2 (L:=[]) Aa Ad U0 Tryz.func131 (UV Tryz.f131) G4 (t:=leaf (AV.fn (Fn.func 171) [] [AV.ro [AV.ro [iI 4,iI 10,lst 5 n λa=>f a,ea,la]],AV.ro [iI d]])) VX ?_
 exact rfl
theorem MY:PI VQ 131 rY:=by
 refine ⟨(UJ Tryz.func131),?_⟩;intro avs ns res h hn;unfold rY at h;split at h
 ·cases h;exact Qz9 _ _ _ _ _
 ·cases h
section
variable (l:Nat)(ea la:AV)(n:Nat)(a b c U O:Nat->Int)(d:Int)
def Wx5:St:={σ:=[AV.fn (Fn.yield l) [] [],AV.ro [QQ n a b c U O ea la],AV.ro [iI d],top,ptr 3 0]++HK 9 [Q0 n a b c U O,iI (n:Int)]++HK 26 [],m:=[(3,GQ.ints 193 [] 6 λa_1=>US 5 (stF a b c d n 5) (US 4 (stF a b c d n 4) (US 3 (stF a b c d n 3) (US 2 (stF a b c d n 2) (US 1 (stF a b c d n 1) (US 0 (stF a b c d n 0) (BF Q3)))))) a_1)],nx:=12,gh:=some 0}
noncomputable def Zo7:Code:=UC (VU (UA Tryz.f171) 0)
def TA(k:Nat):St:={σ:=H6 [(4,.roI [] 6 (st6 (stF a b c d n)) 0),(5,.top),(6,.top),(16,i k)] (Wx5 l ea la n a b c U O d).σ,m:=[],nx:=12,gh:=some (G8 (quB n a b c d) k) }
def jI(k:Nat):GB->Option St
 | .exit 0=>some {σ:=H6 [(4,.roI [] 6 (st6 (stF a b c d n)) 0),(5,.top),(6,.top),(16,i n)] (Wx5 l ea la n a b c U O d).σ,m:=[],nx:=12,gh:=some (quN n a b c d) }
 | .ret=>some {σ:=H6 [(4,.roI [] 6 (st6 (stF a b c d n)) 0),(5,.top),(6,.top),(16,.top)] (Wx5 l ea la n a b c U O d).σ,m:=[],nx:=12,gh:=none}
 |_=>none
def Ji0:CT:= .may True (.leaf (.exit 0,(jI l ea la n a b c U O d 0 (.exit 0)).getD (Wx5 l ea la n a b c U O d))) (.leaf (.ret,(jI l ea la n a b c U O d 0 .ret).getD (Wx5 l ea la n a b c U O d)))
def Xs2:UL:=GN [(.slot 4,3,193,1)] (HM (TA l ea la n a b c U O d (0)) (Ji0 l ea la n a b c U O d))
end
abbrev ZR(a:Nat->Int)(b:Nat->Int)(c:Nat->Int)(d:Int)(n:Nat):Prop:=roI [] 6 (λa_1=>st6 (stF a b c d n) a_1) 0=roI [] 6 (λa_1=>st6 (stF a b c d n) a_1) 0
abbrev KY(d:Int):Prop:=AV.ro [iI d]=AV.ro [iI d]
abbrev Y7(n:Nat)(a:Nat->Int)(b:Nat->Int)(c:Nat->Int)(U:Nat->Int)(O:Nat->Int)(ea:AV)(la:AV):Prop:=AV.ro [QQ n a b c U O ea la]=AV.ro [QQ n a b c U O ea la]
theorem Zw3(l:Nat)(ea la:AV)(n:Nat)(a b c U O:Nat->Int)(d:Int)(VV:sV n a b c U O)(UI:0<=d/\d<256){cx:Cx}(hX:VY VQ {Y:=some (l,(quN n a b c d),(quV n a b c U O d)) } cx):HH VQ none cx (.loop Zo7) (Xs2 l ea la n a b c U O d):=by
 refine FI [(.slot 4,3,193,1)] (L:=[]) (Ae rP (Ae (qS n a b c U O VV) Aa)) hX U0 G4 (V:=Nat) (TA l ea la n a b c U O d) (λk=>k<=n) (λk=>n-k) (jI l ea la n a b c U O d) (x0:=0) VW ?_ ?_ ?_
 ·rintro k;kernel_rfl
 ·rintro k y E h;unfold jI at h;split at h
  ·cases h;kernel_rfl
  ·cases h;kernel_rfl
  ·cases h
 ·rintro Q hQ k hx;refine ⟨(k+1),?_⟩;have e:HX VQ [(133,pM),(88,(dU n a b c U O))] {Y:=some (l,(quN n a b c d),(quV n a b c U O d)) } [] [(.slot 4,3,193,1)] Zo7 (TA l ea la n a b c U O d k) (TA l ea la n a b c U O d ((k+1))) (jI l ea la n a b c U O d k)=(let z3:=Y7 n a b c U O ea la;let z2:=quB n a b c d;let W:=(need [VN ((k:Int)+1)] (need [XG l,z3,KY d,ZR a b c d n,W2 n a b c U O,U1 (n:Int),(k:Int)+1=(↑(k+1):Int),G8 (z2) k=G8 (z2) (k+1)] (leaf GB.normal)));let z1:=(UU (z2) n (G8 (z2) k));(branch (decide ((k:Int)<(n:Int))) (need [UN k n] (need [(0:Int)<=(k:Int)/\(k:Int)<=64] (branch (!MC d k) (need [UN (a k) 6] (need [(a k).toNat*1+0<6] (branch (decide (st6 (stF a b c d n) ((a k).toNat*1+0)>=c k)) (need [l=l,G8 (z2) k<quN n a b c d,[Value.int IntKind.i64 (k:Int),Value.agg {toList:=[Value.int IntKind.i64 (a k),Value.int IntKind.i64 (b k),Value.int IntKind.i64 (c k),Value.int IntKind.i64 (U k),Value.int IntKind.i64 (O k)] }]=[Value.int IntKind.i64 (z1:Int),Value.agg {toList:=[Value.int IntKind.i64 (a z1),Value.int IntKind.i64 (b z1),Value.int IntKind.i64 (c z1),Value.int IntKind.i64 (U z1),Value.int IntKind.i64 (O z1)] }]] (VO.may True (need [VN ((k:Int)+1)] (need [XG l,z3,KY d,ZR a b c d n,W2 n a b c U O,U1 (n:Int),(k:Int)+1=(↑(k+1):Int),G8 (z2) k+1=G8 (z2) (k+1)] (leaf GB.normal))) (need [XG l,z3,KY d,ZR a b c d n,W2 n a b c U O,U1 (n:Int)] (leaf GB.ret)))) W))) W))) (need [XG l,z3,KY d,ZR a b c d n,W2 n a b c U O,U1 (n:Int),(k:Int)=(n:Int),G8 (z2) k=quN n a b c d] (leaf (GB.exit 0))))):=VX;rw [e];simp only [Ji0,jI,VO.sat,GX] at hQ;have hQ1: ∀E,jI l ea la n a b c U O d k (.exit 0)=some E->Q (.exit 0,E):=λE hE=>by cases hE;exact hQ.1 trivial
  have hQ2: ∀E,jI l ea la n a b c U O d k .ret=some E->Q (.ret,E):=λE hE=>by cases hE;exact hQ.2
  simp only [VO.sat,UE,UK,HG,VN,FF];clear e hQ;have h8:=VV.1;have hX:(a k).toNat*1+0=(a k).toNat:=VL;rw [hX];refine ⟨λh=>?_,λh=>?_⟩
  ·have hk:k<n:=VL;have hs:=sO VV hk;have hno:quB n a b c d k=false->G8 (quB n a b c d) k=G8 (quB n a b c d) (k+1):=λh=>(FU h).symm
   rw [Xz0 _ (show (a k).toNat<6 by omega)]
   refine ⟨VL,VL,λh1=>⟨VL,VL,λh2=>?_,λh2=>?_⟩,λh1=>?_⟩
   ·have hq:quB n a b c d k=true:=by
     unfold quB;rw [h1,decide_eq_true h2];rfl
    have hy:=FM hq;have hm:=NZ (quB n a b c d) (show k+1<=n by omega)
    rw [qQ hk hq]
    (with_reducible repeat' first|apply Al|intro _)
    all_goals first|exact Ak|(simp only [quN];omega)|omega|rfl|exact hQ1 _ (by assumption)|exact hQ2 _ (by assumption)
   ·have hq:quB n a b c d k=false:=by
     unfold quB;rw [decide_eq_false h2,Bool.and_false]
    have hy:=FU hq;all_goals exact V6
   ·have hq:quB n a b c d k=false:=by
     unfold quB;rw [h1];rfl
    have hy:=FU hq;all_goals exact V6
  ·obtain rfl:k=n:=VL;all_goals exact V6
theorem yW(ea la:AV)(n:Nat)(a b c U O:Nat->Int)(d:Int)(VV:sV n a b c U O)(UI:0<=d/\d<256):B8 Tryz.prog 171 [.ro [.ro [i 4,i 10,sls n a b c U O,ea,la]],.ro [i d]] ((quN n a b c d)) (quV n a b c U O d):=by
 refine BJ (L:=λl=>[Xs2 l ea la n a b c U O d]) (Ae rP (Ae (qS n a b c U O VV) Aa)) U0 (UJ Tryz.func171) Tryz.func171 (UV Tryz.f171) VX (λl cx hX=>GA (lpE (b:= .loop Zo7) VX<|Zw3 l ea la n a b c U O d VV UI hX)) (t:=λl=>(let W:=stF a b c d n;(need [W2 n a b c U O,(0:Int)<=d/\d<256] (need [0+List.length [W 0,W 1,W 2,W 3,W 4,W 5]<=6] (need [U1 (AV.fn (Fn.yield l) [] []),Y7 n a b c U O ea la,KY d,roI [] 6 (λa_1=>US 5 (W 5) (US 4 (W 4) (US 3 (W 3) (US 2 (W 2) (US 1 (W 1) (US 0 (W 0) (BF Q3)))))) a_1) 0=roI [] 6 (λa_1=>st6 (W) a_1) 0,W2 n a b c U O,U1 (n:Int),(0:Int)=(↑(0:Nat):Int),0=G8 (quB n a b c d) 0] (VO.may True (need [U1 (quN n a b c d)] (leaf PUnit.unit)) (leaf PUnit.unit))))))) (λl=>VX) ?_
 intro l;simp only [VO.sat,UE,G5,GL,UH,UK];exact ⟨UI,VW,⟨rfl,rfl,rfl⟩,λ_=>trivial⟩
noncomputable def Qg7:D0:=rJ Tryz.prog [] {} [] Tryz.f131 (UA Tryz.f131)
theorem gW:GC VQ 131 Qg7:=
 RK (G:=[]) (X:=WH) (L:=[]) Aa Ad U0 (UJ Tryz.func131) Tryz.func131 (UV Tryz.f131) U7
section
variable (n:Nat)
abbrev ZF:AV:=iI ((2:Int)^n-1+1)
abbrev ZS(a:Nat->Int)(b:Nat->Int)(c:Nat->Int)(U:Nat->Int)(O:Nat->Int):List AV:=[iI 4,iI 10,Q0 n a b c U O]
abbrev KN(a:Nat->Int)(b:Nat->Int)(c:Nat->Int)(U:Nat->Int)(O:Nat->Int):List AV:=[iI 4,iI 10,Q0 n a b c U O,AV.row 901,AV.row 902]
abbrev Y5:GQ:=GQ.row 3 1 0 λx=>[]
abbrev YD:GQ:=GQ.cells 134 [ptr 4 0]
def Zm9(a b c U O:Nat->Int):St:={σ:=[agg (ZS n a b c U O),ptr 0 0,QD,ptr 5 0]++HK 14 [ZF n]++HK 140 [],m:=[(902,Y5),(901,Y5),(5,YD),(4,GQ.cells 249 (KN n a b c U O)),(0,GQ.cells 65 (ZS n a b c U O))],nx:=903}
noncomputable def Jm8:Code:=UC (VU (UA Tryz.f84) 0)
def Wf8(a b c U O:Nat->Int)(k:Nat):St:={σ:=H6 [(19,i k)] (Zm9 n a b c U O).σ,m:=[(902,.row 3 1 (k) (λz=>[i ((λ_=> -1) z)])),(901,.row 3 1 (k) (λz=>[i ((λ_=>101) z)])),(5,.cells 134 [.ptr 4 0]),(4,.cells 249 [i 4,i 10,sls n a b c U O,.row 901,.row 902]),(0,.cells 65 [i 4,i 10,sls n a b c U O])],nx:=903}
def CB(a b c U O:Nat->Int)(k:Nat):GB->Option St
 | .exit 0=>some {σ:=H6 [(19,i (2^n))] (Zm9 n a b c U O).σ,m:=[(902,.row 3 1 (2^n) (λz=>[i ((λ_=> -1) z)])),(901,.row 3 1 (2^n) (λz=>[i ((λ_=>101) z)])),(5,.cells 134 [.ptr 4 0]),(4,.cells 249 [i 4,i 10,sls n a b c U O,.row 901,.row 902]),(0,.cells 65 [i 4,i 10,sls n a b c U O])],nx:=903}
 |_=>none
def Ji7(a b c U O:Nat->Int):CT:= .leaf (.exit 0,(CB n a b c U O 0 (.exit 0)).getD (Zm9 n a b c U O))
abbrev K2:List (Pl×Nat×TypeId×Nat):=[(.cell 4 3,0,0,1),(.cell 4 4,0,0,1),(.cell 4 3,901,3,1),(.cell 4 4,902,3,1)]
def Xt1(a b c U O:Nat->Int):UL:=GN K2 (HM (Wf8 n a b c U O (0)) (Ji7 n a b c U O))
abbrev QH:Prop:=(2:Int)^n-1+1=2^n-1+1
abbrev QP(a:Nat->Int)(b:Nat->Int)(c:Nat->Int)(U:Nat->Int)(O:Nat->Int):Prop:=agg (ZS n a b c U O)=agg (ZS n a b c U O)
abbrev QZ:Prop:=(4:Int)=4
abbrev WA:Prop:=(10:Int)=10
abbrev WJ:Prop:=AV.row 902=AV.row 902
abbrev ZW:List AV:=[iI 101]
abbrev YJ:Nat->List AV:=λz=>[iI (-1:Int)]
theorem Ja1(a b c U O:Nat->Int)(VV:sV n a b c U O):GD VQ (.loop Jm8) (Xt1 n a b c U O):=by
 refine zD K2 (L:=[]) (Ae LC Aa) U0 U7 (X:=Nat) (Wf8 n a b c U O) (λk=>k<=2^n) (λk=>2^n-k) (CB n a b c U O) (x0:=0) VW ?_ ?_ ?_
 ·rintro k;kernel_rfl
 ·rintro k y E h;unfold CB at h;split at h
  ·cases h;kernel_rfl
  ·cases h
 ·rintro Q hQ k hx;refine ⟨(k+1),?_⟩;(with_reducible refine DU (t:=let W:=(need [VN ((k:Int)+1)] (need [QP n a b c U O,QO,QD=QD,ZM,QH n,(k:Int)+1=(↑(k+1):Int),k+1=k+1,GV (k+1) (GJ k (YJ) (U8 1 [iI (-1:Int)])) (λi=>[iI (-1:Int)]),k+1=k+1,GV (k+1) (GJ k (λz=>ZW) (U8 1 ZW)) (λi=>ZW),W5,QZ,WA,W2 n a b c U O,WG,WJ,QZ,WA,W2 n a b c U O] (leaf GB.normal)));(branch (decide ((k:Int)<2^n-1+1)) (need [(k+1)*8<=140737488355328,∀(i:Nat),i<1-> ∀(a:AV),a∈U8 1 ZW i->AV.one a=true] (need [(k+1)*8<=140737488355328,L0 1 (U8 1 [iI (-1:Int)])] (VO.may True W (VO.may True W (VO.may True W (VO.may True W W)))))) (need [QP n a b c U O,QO,QD=QD,ZM,QH n,(k:Int)=2^n,k=2^n,∀(i:Nat),i<2^n->[iI (-1:Int)]=[iI (-1:Int)],k=2^n,∀(i:Nat),i<2^n->ZW=ZW,W5,QZ,WA,W2 n a b c U O,WG,WJ,QZ,WA,W2 n a b c U O] (leaf (GB.exit 0))))) VX ?_)
  simp only [Ji7,CB,VO.sat,GX] at hQ;simp only [VO.sat,UE,G5,GL,UH,VN,UK,HG,RX,RP,LO,GS,CB]
  have h8:=VV.1;have hp:=uF h8;have hpn:((2^n:Nat):Int)=2^n:=VW;refine ⟨λh=>?_,λh=>?_⟩
  ·have hk:k<2^n:=VL
   (with_reducible repeat' first|apply Al|intro _)
   all_goals first|exact PM|(first|exact FD (by assumption) (by simp [AV.one,Value.oneCell'])|exact Pt.catF1 (a:=λ_=>101) (by assumption) rfl|exact Pt.catF1 (a:=λ_=> -1) (by assumption) rfl)
  ·obtain rfl:k=2^n:=VL;exact YY
end
def eQ(p:Nat->Bool)(n:Nat)(U O:Nat->Int)(d:Nat)(E:Nat->Int):Nat->Nat->Int
 | 0=>E
 |q+1=>if max (eQ p n U O d E q d) (U (UU p n q))<=O (UU p n q) then US (d ||| 2^UU p n q) (min (eQ p n U O d E q (d ||| 2^UU p n q)) (max (eQ p n U O d E q d) (U (UU p n q)))) (eQ p n U O d E q) else eQ p n U O d E q
def eD(n:Nat)(a b c U O:Nat->Int):Nat->Nat->Int
 | 0=>λk=>if k=0 then 0 else 101
 |d+1=>if eD n a b c U O d d=101 then eD n a b c U O d else eQ (quB n a b c d) n U O d (eD n a b c U O d) (quN n a b c d)
section
variable (n:Nat)(a b c U O:Nat->Int)
noncomputable def Zm8:St:={σ:=[agg (ZS n a b c U O),ptr 0 0,QD,ptr 5 0]++HK 14 [ZF n,iI ((2:Int)^n)]++HK 27 [ZF n]++HK 111 [],m:=[(902,GQ.row 3 1 (2^n) λz=>[iI (-1:Int)]),(901,GQ.row 3 1 (2^n) λk=>iI (if decide (k=(0:Int).toNat)=true then (0:Int) else (101:Int))::Bool.rec ([]) ([]) (decide (k=(0:Int).toNat))),(5,YD),(4,GQ.keep 249 (KN n a b c U O)),(0,GQ.cells 65 (ZS n a b c U O))],nx:=913}
noncomputable def aM:Code:=UC (VU (UA Tryz.f84) 1)
noncomputable def Wf7(d:Nat):St:={σ:=H6 [(4,.top),(48,i d),(5,.top),(6,.top),(7,.top),(8,.top)] (Zm8 n a b c U O).σ,m:=[(902,.row 3 1 (2^n) (λz=>[i ((λ_=> -1) z)])),(901,.row 3 1 (2^n) (λz=>[i ((eD n a b c U O (d)) z)])),(5,.cells 134 [.ptr 4 0]),(4,.keep 249 [i 4,i 10,sls n a b c U O,.row 901,.row 902]),(0,.cells 65 [i 4,i 10,sls n a b c U O])],nx:=903}
noncomputable def CA(d:Nat):GB->Option St
 | .exit 2=>some {σ:=H6 [(4,.top),(48,i (2^n)),(5,.top),(6,.top),(7,.top),(8,.top)] (Zm8 n a b c U O).σ,m:=[(902,.row 3 1 (2^n) (λz=>[i ((λ_=> -1) z)])),(901,.row 3 1 (2^n) (λz=>[i ((eD n a b c U O (2^n)) z)])),(5,.cells 134 [.ptr 4 0]),(4,.keep 249 [i 4,i 10,sls n a b c U O,.row 901,.row 902]),(0,.cells 65 [i 4,i 10,sls n a b c U O])],nx:=903}
 |_=>none
noncomputable def Ji6:CT:= .leaf (.exit 2,(CA n a b c U O 0 (.exit 2)).getD (Zm8 n a b c U O))
noncomputable def Xt0:UL:=GN [(.cell 5 0,0,0,0)] (HM (Wf7 n a b c U O (0)) (Ji6 n a b c U O))
end
theorem BY{n d:Nat}(h8:n<=8)(h:d<2^n):(0:Int)<=d/\(d:Int)<256:=by
 have hp:=uF h8;have hpn:((2^n:Nat):Int)=2^n:=VW;omega
theorem t8{n d s:Nat}(h:d<2^n)(hs:s<n):d ||| 2^s<2^n:=Nat.or_lt_two_pow h (Nat.pow_lt_pow_right (by decide) hs)
theorem Wa6{n d s:Nat}(h8:n<=8)(h:d<2^n)(hs:s<n):IntKind.i64.wrap ((BitVec.ofInt 64 (d:Int) ||| BitVec.ofInt 64 (1*2^s)).toNat:Int)=((d ||| 2^s:Nat):Int):=by
 have h2:=BY h8 h;have h3:2^s<2^n:=Nat.pow_lt_pow_right (by decide) hs
 have h4:=BY h8 h3;have e:(1*2^s:Int)=((2^s:Nat):Int):=by rw [Int.one_mul];simp
 rw [e];exact Xb6 VL VL
theorem uB{F:Nat->Int}{v:Int}{q j:Nat}:HF (decide (j=q)) [i v] [i (F j)]=[i (US q v F j)]:=by
 unfold US;by_cases h:j=q
 ·rw [decide_eq_true h,if_pos h];rfl
 ·rw [decide_eq_false h,if_neg h];rfl
abbrev ZX:AV:=AV.fn (Fn.func 171) [] [ptr 917 0,ptr 918 0]
section
variable (n:Nat)(a b c U O:Nat->Int)(d:Nat)
def Jk8:St:={σ:=[agg (ZS n a b c U O),ptr 0 0,QD,ptr 5 0,ptr 905 0]++HK 13 [ZF n,iI ((2:Int)^n)]++HK 27 [ZF n,iI (d:Int)]++HK 12 [ZX]++HK 97 [],m:=[(918,GQ.keep 189 [iI (d:Int)]),(917,GQ.keep 134 [ptr 4 0]),(905,GQ.cells 189 [iI (d:Int)]),(902,GQ.row 3 1 (2^n) λz=>[iI (-1:Int)]),(901,GQ.row 3 1 (2^n) λz=>[iI (eD n a b c U O d z)]),(5,YD),(4,GQ.keep 249 (KN n a b c U O)),(0,GQ.cells 65 (ZS n a b c U O))],nx:=922}
noncomputable def Jo6:Code:=S9 (VU aM 0)
noncomputable def Jm7:Code:=S8 (VU aM 0)
def nW(k:Nat):St:={σ:=H6 [(5,.top),(6,.top),(7,.top),(8,.top)] (Jk8 n a b c U O d).σ,m:=[(918,.keep 189 [i d]),(917,.keep 134 [.ptr 4 0]),(905,.cells 189 [i d]),(902,.row 3 1 (2^n) (λz=>[i ((λ_=> -1) z)])),(901,.row 3 1 (2^n) (λz=>[i ((eQ (quB n a b c d) n U O d (eD n a b c U O d) (k)) z)])),(5,.cells 134 [.ptr 4 0]),(4,.keep 249 [i 4,i 10,sls n a b c U O,.row 901,.row 902]),(0,.cells 65 [i 4,i 10,sls n a b c U O])],nx:=922}
def nD(k:Nat):GB->Option St
 | .normal=>some {σ:=H6 [(5,.top),(6,.top),(7,.top),(8,.top)] (Jk8 n a b c U O d).σ,m:=[(918,.keep 189 [i d]),(917,.keep 134 [.ptr 4 0]),(905,.cells 189 [i d]),(902,.row 3 1 (2^n) (λz=>[i ((λ_=> -1) z)])),(901,.row 3 1 (2^n) (λz=>[i ((eQ (quB n a b c d) n U O d (eD n a b c U O d) ((quN n a b c d))) z)])),(5,.cells 134 [.ptr 4 0]),(4,.keep 249 [i 4,i 10,sls n a b c U O,.row 901,.row 902]),(0,.cells 65 [i 4,i 10,sls n a b c U O])],nx:=922}
 |_=>none
def T_kc:CT:= .leaf (.normal,nW n a b c U O d (quN n a b c d))
def Xs9:UL:=GN [(.slot 61,0,0,0)] (HM (nW n a b c U O d (0)) (T_kc n a b c U O d))
end
abbrev XU(n:Nat):Prop:=(2:Int)^n=2^n
theorem Zz9(n:Nat)(a b c U O:Nat->Int)(d:Nat)(VV:sV n a b c U O)(UI:d<2^n):HQ VQ (.rangeFunc (rfF (VU aM 0)) (jE (VU aM 0)) Jo6 Jm7) (Xs9 n a b c U O d):=by
 refine yF [(.slot 61,0,0,0)] (L:=[]) (Ae DV (Ae PN Aa)) Ad U0 U7 (V:=Nat) (nW n a b c U O d) (λk=>k<=(quN n a b c d)) (λk=>k) (nD n a b c U O d) (x0:=0) VW rfl ?_ ?_ ?_ ?_ (g:=171) (caps:=[.ro [.ro [i 4,i 10,sls n a b c U O,.top,.top]],.ro [i d]]) (caps0:=[.ptr 917 0,.ptr 918 0]) VX VX (yW .top .top n a b c U O d VV (BY VV.1 UI)) (λ_=>rfl) ?_
 ·rintro k;kernel_rfl
 ·rintro k y E h;unfold nD at h;split at h
  ·cases h;kernel_rfl
  ·cases h
 ·rintro k;rfl
 ·rintro k y E h;unfold nD at h;split at h
  ·cases h;rfl
  ·cases h
 ·rintro Q hQ k hx;refine ⟨λhlt=>⟨(k+1),rfl,?_⟩,λPS=>?_⟩
  ·(with_reducible refine DU (t:=let z1:=(quB n a b c (d:Int));let W:=(BitVec.toNat (BitVec.ofInt 64 (d:Int) ||| BitVec.ofInt 64 ((1:Int)*2^UU z1 n k)));let z2:=(IntKind.wrap IntKind.i64 (W:Int));let z3:=eD n a b c U O d;let z4:=eQ z1 n U O d;(need [UN d (↑(2^n):Int)] (need [d<2^n] (branch (decide (max (z4 (z3) k d) (U (UU z1 n k))<=O (UU z1 n k))) (need [(0:Int)<=(↑(UU z1 n k):Int)/\(↑(UU z1 n k):Int)<=64,VN ((1:Int)*2^UU z1 n k)] (need [UN (IntKind.wrap IntKind.i64 (W:Int)) (↑(2^n):Int)] (need [Int.toNat z2<2^n] (need [UN (IntKind.wrap IntKind.i64 (W:Int)) (↑(2^n):Int)] (need [Int.toNat z2<2^n] (need [QP n a b c U O,QO,QD=QD,ZM,U1 (ptr 905 0),QH n,XU n,QH n,U1 (d:Int),ZX=ZX,U1 (d:Int),W5,U1 (d:Int),2^n=2^n,∀(i:Nat),i<2^n->[iI (-1:Int)]=[iI (-1:Int)],2^n=2^n,∀(i:Nat),i<2^n->HF (decide (i=Int.toNat z2)) [iI (min (z4 (z3) k (Int.toNat z2)) (max (z4 (z3) k d) (U (UU z1 n k))))] [iI (z4 (z3) k i)]=[iI (z4 (z3) (k+1) i)],W5,QZ,WA,W2 n a b c U O,WG,WJ,QZ,WA,W2 n a b c U O] (leaf GB.normal))))))) (need [QP n a b c U O,QO,QD=QD,ZM,U1 (ptr 905 0),QH n,XU n,QH n,U1 (d:Int),ZX=ZX,U1 (d:Int),W5,U1 (d:Int),2^n=2^n,∀(i:Nat),i<2^n->[iI (-1:Int)]=[iI (-1:Int)],2^n=2^n,∀(i:Nat),i<2^n->[iI (z4 (z3) k i)]=[iI (z4 (z3) (k+1) i)],W5,QZ,WA,W2 n a b c U O,WG,WJ,QZ,WA,W2 n a b c U O] (leaf GB.normal)))))) VX ?_)
   have h8:=VV.1;have hd:=BY h8 UI;have hpn:((2^n:Nat):Int)=2^n:=VW;have hs:=u6 hlt;have hor:=Wa6 h8 UI hs.1;have hol:=t8 UI hs.1;simp only [VO.sat,UE,UK,hor,FF,HG]
   have hd2:(d:Int)<2^n:=by
    have h:(d:Int)<((2^n:Nat):Int):=Int.ofNat_lt.2 UI
    rwa [hpn] at h
   have Qm3:((d ||| 2^UU (quB n a b c d) n k:Nat):Int)<2^n:=by
    have h:((d ||| 2^UU (quB n a b c d) n k:Nat):Int)<((2^n:Nat):Int):=Int.ofNat_lt.2 hol
    rwa [hpn] at h
   have hk1:k+1<=quN n a b c d:=hlt;have h2s:(1:Int)<=2^UU (quB n a b c d) n k/\(2:Int)^UU (quB n a b c d) n k<=256:=uF VL;have h64:=hs.1;refine ⟨⟨VL,hd2⟩,UI,λh=>?_,λh=>?_⟩
   ·refine ⟨⟨⟨VL,VL⟩,by simp only [VN,Int.one_mul];omega⟩,⟨VL,Qm3⟩,hol,⟨VL,Qm3⟩,hol,⟨λ_ _=>trivial,λj hj=>?_⟩,hk1⟩
    simp only [eQ,if_pos h];exact uB
   ·refine ⟨⟨λ_ _=>trivial,λj hj=>?_⟩,hk1⟩
    simp only [eQ,if_neg h]
  ·have hk:k=quN n a b c d:=VL;subst hk;exact hQ
theorem uN{P:Program}{G:List (Nat×G0)}{E:Ext}{L:List UL}(N:List (Pl×Nat×TypeId×Nat))(hG:VM P G)(hX: ∀cx,VY P E cx)(GR:P.follows .mixedOrders=true){body:Code}(hL: ∀j cj,VU body j=some cj-> ∀sp,L[j]? =some sp->HQ P cj sp)
  {X:Type}(inv:X->St)(I:X->Prop)(μ:X->Nat)(out:X->GB->Option St){t:CT}{x0:X}(h0:I x0)
  (hok: ∀x,Go.Sx.okB (inv x)=true)(qN: ∀x y E,out x y=some E->Go.Sx.okB E=true)
  (round: ∀(Q:GB×St->Prop),t.sat Q-> ∀x,I x-> ∃x',(HX P G E L N body (inv x) (inv x') (out x)).sat (λy=>match y with
   | .normal=>I x'/\μ x'<μ x
   |y=> ∀E,out x y=some E->Q (y,E))):HQ P (.loop body) (GN N (HM (inv x0) t)):=
 λcx hf=>FI N hG (hX cx) GR (λj cj hj sp hsp=>hL j cj hj sp hsp cx hf) inv I μ out h0 hok qN round
theorem gE{P:Program}{c:Code}{t:Nat}{F:Nat->UL}(h: ∀k,HQ P c (F k)):HQ P c (BG t F):=by
 intro cx hf n s tr ht Q hQ a w r;unfold BG at ht;split at ht
 ·exact h _ cx hf n s tr ht Q hQ a w r
 ·cases ht
abbrev JM:List (Nat×G0):=[(86,II),(90,kE),(89,IJ)]
noncomputable abbrev KD:Ext:={R:=[],H:=[(131,Qg7)] }
theorem Ja0(n:Nat)(a b c U O:Nat->Int)(VV:sV n a b c U O):HQ VQ (.loop aM) (Xt0 n a b c U O):=by
 refine uN [(.cell 5 0,0,0,0)] (L:=[BG 48 (λd=>RO [d<2^n] (Xs9 n a b c U O d))]) (Ae LC (Ae DV (Ae PN Aa))) (Ai Ab (Ag gW Ac)) U0 (GA (λcj hcj=>by
  have e:VU aM 0=some (.rangeFunc (rfF (VU aM 0)) (jE (VU aM 0)) Jo6 Jm7):=VX;rw [e] at hcj;cases hcj;exact gE (λd=>PY (λh=>Zz9 n a b c U O d VV h)))) (X:=Nat) (Wf7 n a b c U O) (λd=>d<=2^n) (λd=>2^n-d) (CA n a b c U O) (x0:=0) VW ?_ ?_ ?_
 ·rintro d;kernel_rfl
 ·rintro d y E h;unfold CA at h;split at h
  ·cases h;kernel_rfl
  ·cases h
 ·rintro Q hQ d hx;refine ⟨(d+1),?_⟩;(with_reducible refine DU (t:=let W:=W2 n a b c U O;let z1:=eD n a b c U O d;(branch (decide ((d:Int)<2^n-1+1)) (need [UN d (↑(2^n):Int)] (need [d<2^n] (branch (z1 d==101) (need [VN ((d:Int)+1)] (need [QP n a b c U O,QO,QD=QD,ZM,QH n,XU n,QH n,(d:Int)+1=(↑(d+1):Int),2^n=2^n,∀(i:Nat),i<2^n->[iI (-1:Int)]=[iI (-1:Int)],2^n=2^n,∀(i:Nat),i<2^n->[iI (z1 i)]=[iI (eD n a b c U O (d+1) i)],W5,QZ,WA,W,WG,WJ,QZ,WA,W] (leaf GB.normal))) (need [d<2^n] (need [QP n a b c U O,QO,QD=QD,ZM,U1 (ptr 905 0),QH n,XU n,QH n,U1 (d:Int),ZX=ZX,U1 (d:Int),W5,U1 (d:Int),2^n=2^n,∀(i:Nat),i<2^n->[iI (-1:Int)]=[iI (-1:Int)],2^n=2^n,∀(i:Nat),i<2^n->[iI (z1 i)]=[iI (eQ (quB n a b c (d:Int)) n U O d (z1) 0 i)],W5,QZ,WA,W,WG,WJ,QZ,WA,W] (need [VN ((d:Int)+1)] (need [QP n a b c U O,QO,QD=QD,ZM,QH n,XU n,QH n,(d:Int)+1=(↑(d+1):Int),2^n=2^n,∀(i:Nat),i<2^n->[iI (-1:Int)]=[iI (-1:Int)],2^n=2^n,∀(i:Nat),i<2^n->[iI (eQ (quB n a b c (d:Int)) n U O d (z1) (quN n a b c (d:Int)) i)]=[iI (eD n a b c U O (d+1) i)],W5,QZ,WA,W,WG,WJ,QZ,WA,W] (leaf GB.normal)))))))) (need [QP n a b c U O,QO,QD=QD,ZM,QH n,XU n,QH n,(d:Int)=2^n,2^n=2^n,∀(i:Nat),i<2^n->[iI (-1:Int)]=[iI (-1:Int)],2^n=2^n,∀(i:Nat),i<2^n->[iI (z1 i)]=[iI (eD n a b c U O (2^n) i)],W5,QZ,WA,W,WG,WJ,QZ,WA,W] (leaf (GB.exit 2))))) VX ?_);simp only [Ji6,CA,VO.sat,GX] at hQ;simp only [VO.sat,UE,G5,GL,UH,VN,UK,HG,RX,RP,LO,GS,CA]
  have h8:=VV.1;have hp:=uF h8;have hpn:((2^n:Nat):Int)=2^n:=VW;refine ⟨λh=>?_,λh=>?_⟩
  ·have hd3:(d:Int)<2^n:=VL;have hd:d<2^n:=by
    have h':(d:Int)<((2^n:Nat):Int):=by rw [hpn];exact hd3
    exact Int.ofNat_lt.1 h'
   have hd2:=BY h8 hd;refine ⟨⟨VL,hd3⟩,hd,λhb=>?_,λhb=>?_⟩
   ·rw [beq_iff_eq] at hb;refine ⟨VL,⟨VL,λ_ _=>trivial,λj hj=>by simp only [eD,if_pos hb]⟩,hd,VL⟩
   ·rw [beq_eq_false_iff_ne] at hb;refine ⟨hd,⟨λ_ _=>trivial,λj hj=>rfl⟩,VL,⟨VL,λ_ _=>trivial,λj hj=>by simp only [eD,if_neg hb]⟩,hd,VL⟩
  ·have hd:d=2^n:=by
    have h': ¬(d:Int)<((2^n:Nat):Int):=by rw [hpn];omega
    omega
   subst hd;exact ⟨⟨hpn,λ_ _=>trivial,λj hj=>rfl⟩,λE hE=>by cases hE;exact hQ⟩
def pm(n:Nat):Nat:=2^n-1
def lQ(p:Nat->Bool)(n:Nat)(U O:Nat->Int)(d:Nat)(F:Nat->Int):Nat->Nat->Int
 | 0=>F
 |q+1=>if min (lQ p n U O d F q (d ||| 2^UU p n q)) (O (UU p n q))>=U (UU p n q) then US d (max (lQ p n U O d F q d) (min (lQ p n U O d F q (d ||| 2^UU p n q)) (O (UU p n q)))) (lQ p n U O d F q) else lQ p n U O d F q
def lS(n:Nat)(a b c U O:Nat->Int):Nat->Nat->Int
 | 0=>US (2^n-1) 101 (λ_=> -1)
 |s+1=>lQ (quB n a b c ((2^n-2-s:Nat):Int)) n U O (2^n-2-s) (lS n a b c U O s) (quN n a b c ((2^n-2-s:Nat):Int))
section
variable (n:Nat)(a b c U O:Nat->Int)
noncomputable def Zm7:St:={σ:=[agg (ZS n a b c U O),ptr 0 0,QD,ptr 5 0]++HK 14 [ZF n,iI ((2:Int)^n)]++HK 27 [ZF n,iI ((2:Int)^n)]++HK 110 [],m:=[(903,GQ.cells 189 [iI ((2:Int)^n-1-1)]),(902,GQ.row 3 1 (2^n) λk=>iI (if decide (k=((2:Int)^n-1).toNat)=true then (101:Int) else (-1:Int))::Bool.rec ([]) ([]) (decide (k=((2:Int)^n-1).toNat))),(901,GQ.row 3 1 (2^n) λz=>[iI (eD n a b c U O (2^n) z)]),(5,YD),(4,GQ.keep 249 (KN n a b c U O)),(0,GQ.cells 65 (ZS n a b c U O))],nx:=916}
noncomputable def aL:Code:=UC (VU (UA Tryz.f84) 2)
noncomputable def Wf6(d:Nat):St:={σ:=H6 [(9,.ptr 903 0),(10,.top),(11,.top),(12,.top)] (Zm7 n a b c U O).σ,m:=[(903,.cells 189 [i (((d:Nat):Int)-1)]),(902,.row 3 1 (2^n) (λz=>[i ((lS n a b c U O (2^n-1-(d))) z)])),(901,.row 3 1 (2^n) (λz=>[i ((eD n a b c U O (2^n)) z)])),(5,.cells 134 [.ptr 4 0]),(4,.keep 249 [i 4,i 10,sls n a b c U O,.row 901,.row 902]),(0,.cells 65 [i 4,i 10,sls n a b c U O])],nx:=904}
noncomputable def C9(d:Nat):GB->Option St
 | .exit 6=>some {σ:=H6 [(9,.ptr 903 0),(10,.top),(11,.top),(12,.top)] (Zm7 n a b c U O).σ,m:=[(903,.cells 189 [i (((0:Nat):Int)-1)]),(902,.row 3 1 (2^n) (λz=>[i ((lS n a b c U O (2^n-1-(0))) z)])),(901,.row 3 1 (2^n) (λz=>[i ((eD n a b c U O (2^n)) z)])),(5,.cells 134 [.ptr 4 0]),(4,.keep 249 [i 4,i 10,sls n a b c U O,.row 901,.row 902]),(0,.cells 65 [i 4,i 10,sls n a b c U O])],nx:=904}
 |_=>none
noncomputable def Ji5:CT:= .leaf (.exit 6,(C9 n a b c U O (pm n) (.exit 6)).getD (Zm7 n a b c U O))
noncomputable def Xs8:UL:=GN [(.slot 9,903,189,2),(.cell 5 0,0,0,0)] (HM (Wf6 n a b c U O (pm n)) (Ji5 n a b c U O))
abbrev ZY:AV:=AV.fn (Fn.func 171) [] [ptr 908 0,ptr 909 0]
def Jk7(d:Nat):St:={σ:=[agg (ZS n a b c U O),ptr 0 0,QD,ptr 5 0]++HK 5 [ptr 903 0]++HK 8 [ZF n,iI ((2:Int)^n)]++HK 27 [ZF n,iI ((2:Int)^n)]++HK 69 [ZY]++HK 40 [],m:=[(909,GQ.keep 189 [iI ((d:Int)-1)]),(908,GQ.keep 134 [ptr 4 0]),(903,GQ.cells 189 [iI ((d:Int)-1)]),(902,GQ.row 3 1 (2^n) λz=>[iI (lS n a b c U O (2^n-1-d) z)]),(901,GQ.row 3 1 (2^n) λz=>[iI (eD n a b c U O (2^n) z)]),(5,YD),(4,GQ.keep 249 (KN n a b c U O)),(0,GQ.cells 65 (ZS n a b c U O))],nx:=913}
noncomputable def Jo5:Code:=S9 (VU aL 0)
noncomputable def Jm6:Code:=S8 (VU aL 0)
def nV(d:Nat)(k:Nat):St:={σ:=H6 [(10,.top),(11,.top),(12,.top)] (Jk7 n a b c U O d).σ,m:=[(909,.keep 189 [i ((d:Int)-1)]),(908,.keep 134 [.ptr 4 0]),(903,.cells 189 [i (((d:Nat):Int)-1)]),(902,.row 3 1 (2^n) (λz=>[i ((lQ (quB n a b c ((d:Int)-1)) n U O (d-1) (lS n a b c U O (2^n-1-d)) (k)) z)])),(901,.row 3 1 (2^n) (λz=>[i ((eD n a b c U O (2^n)) z)])),(5,.cells 134 [.ptr 4 0]),(4,.keep 249 [i 4,i 10,sls n a b c U O,.row 901,.row 902]),(0,.cells 65 [i 4,i 10,sls n a b c U O])],nx:=913}
def nC(d:Nat)(k:Nat):GB->Option St
 | .normal=>some {σ:=H6 [(10,.top),(11,.top),(12,.top)] (Jk7 n a b c U O d).σ,m:=[(909,.keep 189 [i ((d:Int)-1)]),(908,.keep 134 [.ptr 4 0]),(903,.cells 189 [i (((d:Nat):Int)-1)]),(902,.row 3 1 (2^n) (λz=>[i ((lQ (quB n a b c ((d:Int)-1)) n U O (d-1) (lS n a b c U O (2^n-1-d)) ((quN n a b c ((d:Int)-1)))) z)])),(901,.row 3 1 (2^n) (λz=>[i ((eD n a b c U O (2^n)) z)])),(5,.cells 134 [.ptr 4 0]),(4,.keep 249 [i 4,i 10,sls n a b c U O,.row 901,.row 902]),(0,.cells 65 [i 4,i 10,sls n a b c U O])],nx:=913}
 |_=>none
def T_ke(d:Nat):CT:= .leaf (.normal,nV n a b c U O d (quN n a b c ((d:Int)-1)))
def Xs7(d:Nat):UL:=GN [(.slot 118,0,0,0)] (HM (nV n a b c U O d (0)) (T_ke n a b c U O d))
abbrev ZQ:Prop:=ptr 903 0=ptr 903 0
theorem Zz7(d:Nat)(VV:sV n a b c U O)(UI:1<=d)(HR:d<2^n):HQ VQ (.rangeFunc (rfF (VU aL 0)) (jE (VU aL 0)) Jo5 Jm6) (Xs7 n a b c U O d):=by
 refine yF [(.slot 118,0,0,0)] (L:=[]) (Ae DV (Ae PN Aa)) Ad U0 U7 (V:=Nat) (nV n a b c U O d) (λk=>k<=(quN n a b c ((d:Int)-1))) (λk=>k) (nC n a b c U O d) (x0:=0) VW rfl ?_ ?_ ?_ ?_ (g:=171) (caps:=[.ro [.ro [i 4,i 10,sls n a b c U O,.top,.top]],.ro [i ((d:Int)-1)]]) (caps0:=[.ptr 908 0,.ptr 909 0]) VX VX (yW .top .top n a b c U O ((d:Int)-1) VV (by have:=BY VV.1 HR;omega)) (λ_=>rfl) ?_
 ·rintro k;kernel_rfl
 ·rintro k y E h;unfold nC at h;split at h
  ·cases h;kernel_rfl
  ·cases h
 ·rintro k;rfl
 ·rintro k y E h;unfold nC at h;split at h
  ·cases h;rfl
  ·cases h
 ·rintro Q hQ k hx;refine ⟨λhlt=>⟨(k+1),rfl,?_⟩,λPS=>?_⟩
  ·(with_reducible refine DU (t:=let W:=(quB n a b c ((d:Int)-1));let z1:=(BitVec.toNat (BitVec.ofInt 64 ((d:Int)-1) ||| BitVec.ofInt 64 ((1:Int)*2^UU W n k)));let z2:=(lS n a b c U O (2^n-1-d));let z3:=(U1 ((d:Int)-1));let z5:=lQ W n U O;let z4:=(z5 (d-1) z2 k (IntKind.wrap IntKind.i64 (z1:Int)).toNat);(need [(0:Int)<=(↑(UU W n k):Int)/\(↑(UU W n k):Int)<=64,VN ((1:Int)*2^UU W n k)] (need [UN (IntKind.wrap IntKind.i64 (z1:Int)) (↑(2^n):Int)] (need [(IntKind.wrap IntKind.i64 (z1:Int)).toNat<2^n] (branch (decide (min z4 (O (UU W n k))>=U (UU W n k))) (need [UN ((d:Int)-1) (↑(2^n):Int)] (need [((d:Int)-1).toNat<2^n] (need [UN ((d:Int)-1) (↑(2^n):Int)] (need [((d:Int)-1).toNat<2^n] (need [QP n a b c U O,QO,QD=QD,ZM,ZQ,QH n,XU n,QH n,XU n,ZY=ZY,z3,W5,z3,2^n=2^n,∀(i:Nat),i<2^n->HF (decide (i=((d:Int)-1).toNat)) [iI (max (z5 (d-1) z2 k ((d:Int)-1).toNat) (min z4 (O (UU W n k))))] [iI (z5 (d-1) z2 k i)]=[iI (z5 (d-1) z2 (k+1) i)],2^n=2^n,∀(i:Nat),i<2^n->[iI (eD n a b c U O (2^n) i)]=[iI (eD n a b c U O (2^n) i)],W5,QZ,WA,W2 n a b c U O,WG,WJ,QZ,WA,W2 n a b c U O] (leaf GB.normal)))))) (need [QP n a b c U O,QO,QD=QD,ZM,ZQ,QH n,XU n,QH n,XU n,ZY=ZY,z3,W5,z3,2^n=2^n,∀(i:Nat),i<2^n->[iI (z5 (d-1) z2 k i)]=[iI (z5 (d-1) z2 (k+1) i)],2^n=2^n,∀(i:Nat),i<2^n->[iI (eD n a b c U O (2^n) i)]=[iI (eD n a b c U O (2^n) i)],W5,QZ,WA,W2 n a b c U O,WG,WJ,QZ,WA,W2 n a b c U O] (leaf GB.normal))))))) VX ?_)
   have h8:=VV.1;obtain ⟨D,rfl⟩: ∃D,d=D+1:=⟨d-1,VL⟩;have hD:(((D+1:Nat):Int)-1)=(D:Int):=VL;have hd:D<2^n:=VL;have hdi:=BY h8 hd;have hpn:((2^n:Nat):Int)=2^n:=VW;simp only [hD] at*;have hs:=u6 hlt;have hor:=Wa6 h8 hd hs.1;have hol:=t8 hd hs.1;simp only [VO.sat,UE,UK,hor,FF,HG,Bi]
   have hd2:(D:Int)<2^n:=by
    have h:(D:Int)<((2^n:Nat):Int):=Int.ofNat_lt.2 hd
    rwa [hpn] at h
   have Qm3:((D ||| 2^UU (quB n a b c D) n k:Nat):Int)<2^n:=by
    have h:((D ||| 2^UU (quB n a b c D) n k:Nat):Int)<((2^n:Nat):Int):=Int.ofNat_lt.2 hol
    rwa [hpn] at h
   have hk1:k+1<=quN n a b c D:=hlt;have h2s:(1:Int)<=2^UU (quB n a b c D) n k/\(2:Int)^UU (quB n a b c D) n k<=256:=uF VL;have h64:=hs.1;refine ⟨⟨⟨VL,VL⟩,by simp only [VN,Int.one_mul];omega⟩,⟨VL,Qm3⟩,hol,λh=>?_,λh=>?_⟩
   ·refine ⟨⟨VL,hd2⟩,hd,⟨VL,hd2⟩,hd,⟨λj hj=>?_,λ_ _=>trivial⟩,hk1⟩
    simp only [lQ,if_pos h];exact uB
   ·refine ⟨⟨λj hj=>?_,λ_ _=>trivial⟩,hk1⟩
    simp only [lQ,if_neg h]
  ·have hk:k=quN n a b c ((d:Int)-1):=VL;subst hk;exact hQ
theorem Zz8(VV:sV n a b c U O):HQ VQ (.loop aL) (Xs8 n a b c U O):=by
 refine uN [(.slot 9,903,189,2),(.cell 5 0,0,0,0)] (L:=[BG 117 (λd=>RO [d+1<2^n] (Xs7 n a b c U O (d+1)))]) (Ae LC (Ae DV (Ae PN Aa))) (Ai Ab (Ag gW Ac)) U0 (GA (λcj hcj=>by
  have e:VU aL 0=some (.rangeFunc (rfF (VU aL 0)) (jE (VU aL 0)) Jo5 Jm6):=VX;rw [e] at hcj;cases hcj;exact gE (λd=>PY (λh=>Zz7 n a b c U O (d+1) VV (Nat.succ_le_succ (Ao _)) h)))) (X:=Nat) (Wf6 n a b c U O) (λd=>d<=pm n) (λd=>d) (C9 n a b c U O) (x0:=pm n) (Am _) ?_ ?_ ?_
 ·rintro d;kernel_rfl
 ·rintro d y E h;unfold C9 at h;split at h
  ·cases h;kernel_rfl
  ·cases h
 ·rintro Q hQ d hx;refine ⟨(d-1),?_⟩;(with_reducible refine DU (t:=let W:=(quB n a b c ((↑(((d:Int)-1).toNat+1):Int)-1));let z4:=lS n a b c U O;let z1:=(z4 (2^n-1-(((d:Int)-1).toNat+1)));let z2:=eD n a b c U O;let z3:=W2 n a b c U O;(branch (decide ((d:Int)-1>=(0:Int))) (need [((d:Int)-1).toNat+1<2^n] (need [QP n a b c U O,QO,QD=QD,ZM,ZQ,QH n,XU n,QH n,XU n,ZY=ZY,(d:Int)-1=(↑(((d:Int)-1).toNat+1):Int)-1,W5,(d:Int)-1=(↑(((d:Int)-1).toNat+1):Int)-1,2^n=2^n,∀(i:Nat),i<2^n->[iI (z4 (2^n-1-d) i)]=[iI (lQ W n U O (((d:Int)-1).toNat+1-1) z1 0 i)],2^n=2^n,∀(i:Nat),i<2^n->[iI (z2 (2^n) i)]=[iI (z2 (2^n) i)],W5,QZ,WA,z3,WG,WJ,QZ,WA,z3] (need [VN ((↑(((d:Int)-1).toNat+1):Int)-1-1)] (need [QP n a b c U O,QO,QD=QD,ZM,ZQ,QH n,XU n,QH n,XU n,(↑(((d:Int)-1).toNat+1):Int)-1-1=(↑(d-1):Int)-1,2^n=2^n,∀(i:Nat),i<2^n->[iI (lQ W n U O (((d:Int)-1).toNat+1-1) z1 (quN n a b c ((↑(((d:Int)-1).toNat+1):Int)-1)) i)]=[iI (z4 (2^n-1-(d-1)) i)],2^n=2^n,∀(i:Nat),i<2^n->[iI (z2 (2^n) i)]=[iI (z2 (2^n) i)],W5,QZ,WA,z3,WG,WJ,QZ,WA,z3] (leaf GB.normal))))) (need [QP n a b c U O,QO,QD=QD,ZM,ZQ,QH n,XU n,QH n,XU n,(d:Int)-1=(↑(0:Nat):Int)-1,2^n=2^n,∀(i:Nat),i<2^n->[iI (z4 (2^n-1-d) i)]=[iI (z4 (2^n-1-0) i)],2^n=2^n,∀(i:Nat),i<2^n->[iI (z2 (2^n) i)]=[iI (z2 (2^n) i)],W5,QZ,WA,z3,WG,WJ,QZ,WA,z3] (leaf (GB.exit 6))))) VX ?_);simp only [Ji5,C9,VO.sat,GX] at hQ;simp only [VO.sat,UE,G5,GL,UH,VN,UK,HG,RX,RP,LO,GS,C9]
  have h8:=VV.1;have hpm:pm n=2^n-1:=rfl;rw [hpm] at hx ⊢;have hp:=uF h8;have hpn:((2^n:Nat):Int)=2^n:=VW;refine ⟨λh=>?_,λh=>?_⟩
  ·obtain ⟨D,rfl⟩: ∃D,d=D+1:=⟨d-1,VL⟩;have e1:(((D+1:Nat):Int)-1).toNat=D:=VL;have e2:(((D+1:Nat):Int)-1)=(D:Int):=VL;have hd:D+1<2^n:=VL;have hdi:=BY h8 hd;simp only [e2,FF,Bi,true_and];have hst:lQ (quB n a b c D) n U O D (lS n a b c U O (2^n-1-(D+1))) (quN n a b c D)=lS n a b c U O (2^n-1-D):=by
    have h1:2^n-1-D=(2^n-1-(D+1))+1:=VL;have h2:2^n-2-(2^n-1-(D+1))=D:=VL;rw [h1];simp only [lS,h2]
   refine ⟨hd,⟨λj hj=>rfl,λ_ _=>trivial⟩,VL,⟨λj hj=>by rw [hst],λ_ _=>trivial⟩,VL,VL⟩
  ·obtain rfl:d=0:=VL;exact ⟨⟨rfl,λj hj=>rfl,λ_ _=>trivial⟩,λE hE=>by cases hE;exact hQ⟩
end
theorem pD{S:Code->UL->Prop}{c:Code}{s0 s1 s2:UL}(h0: ∀cj,VU c 0=some cj->S cj s0)(h1: ∀cj,VU c 1=some cj->S cj s1)(h2: ∀cj,VU c 2=some cj->S cj s2):
  ∀j cj,VU c j=some cj-> ∀sp,[s0,s1,s2][j]? =some sp->S cj sp:=by
 intro j cj hj sp hsp
 match j with
 | 0=>simp at hsp;subst hsp;exact h0 cj hj
 | 1=>simp at hsp;subst hsp;exact h1 cj hj
 | 2=>simp at hsp;subst hsp;exact h2 cj hj
 |j+3=>simp at hsp
section
variable (n:Nat)(a b c U O:Nat->Int)
theorem Wa1(VV:sV n a b c U O):FO VQ 84 [.agg [i 4,i 10,sls n a b c U O]] (.ro [i 4,i 10,sls n a b c U O,.lst 1 (2^n) (λz=>[i (eD n a b c U O (2^n) z)]),.lst 1 (2^n) (λz=>[i (lS n a b c U O (2^n-1) z)])]):=by
 refine D2 (L:=[Xt1 n a b c U O,Xt0 n a b c U O,Xs8 n a b c U O]) (Ae LC (Ae DV (Ae PN Aa))) (Ai Ab (Ag gW Ac)) U0 Tryz.func84 (UV Tryz.f84) (pD (lpE (b:= .loop Jm8) VX<|(Ja1 n a b c U O VV).N) (lpE (b:= .loop aM) VX<|Ja0 n a b c U O VV) (lpE (b:= .loop aL) VX<|Zz8 n a b c U O VV)) (t:=let W:=W2 n a b c U O;(need [n<=8] (need [VN ((2:Int)^n-1+1)] (need [QP n a b c U O,QO,QD=QD,ZM,QH n,(0:Int)=(↑(0:Nat):Int),0=0,∀(i:Nat),i<0->[]=[iI (-1:Int)],0=0,∀(i:Nat),i<0->[]=ZW,W5,QZ,WA,W,WG,WJ,QZ,WA,W] (need [UN 0 (↑(2^n):Int)] (need [(0:Int).toNat<2^n] (need [n<=8] (need [VN ((2:Int)^n-1+1)] (need [QP n a b c U O,QO,QD=QD,ZM,QH n,XU n,QH n,(0:Int)=(↑(0:Nat):Int),2^n=2^n,∀(i:Nat),i<2^n->[iI (-1:Int)]=[iI (-1:Int)],2^n=2^n,∀(i:Nat),i<2^n->HF (decide (i=(0:Int).toNat)) [iI 0] ZW=[iI (eD n a b c U O 0 i)],W5,QZ,WA,W,WG,WJ,QZ,WA,W] (need [n<=8] (need [(0:Int)<=2^n-1/\(2:Int)^n-1<(↑(2^n):Int)] (need [((2:Int)^n-1).toNat<2^n] (need [n<=8] (need [VN ((2:Int)^n-1-1)] (need [QP n a b c U O,QO,QD=QD,ZM,ZQ,QH n,XU n,QH n,XU n,(2:Int)^n-1-1=(↑(pm n):Int)-1,2^n=2^n,∀(i:Nat),i<2^n->HF (decide (i=((2:Int)^n-1).toNat)) ZW [iI (-1:Int)]=[iI (lS n a b c U O (2^n-1-pm n) i)],2^n=2^n,∀(i:Nat),i<2^n->[iI (eD n a b c U O (2^n) i)]=[iI (eD n a b c U O (2^n) i)],W5,QZ,WA,W,WG,WJ,QZ,WA,W] (leaf (AV.ro [iI 4,iI 10,Q0 n a b c U O,lst 1 (2^n) λz=>[iI (eD n a b c U O (2^n) z)],lst 1 (2^n) λz=>[iI (lS n a b c U O (2^n-1-0) z)]]))))))))))))))))) VX ?_
 have h8:=VV.1;have hp:=uF h8;have hpn:((2^n:Nat):Int)=2^n:=VW;have hp1:1<=2^n:=Nat.one_le_two_pow;have hpt:((2:Int)^n-1).toNat=2^n-1:=VL;simp only [VO.sat,UE,UK,VN,hpt,Int.toNat_zero]
 (with_reducible repeat' first|apply Al|intro _)
 all_goals first|exact Ak|omega|with_reducible rfl|rfl|skip
 ·rename_i q hq;exact uB (F:=λ_=>101)
 ·have h1:((pm n:Nat):Int)=((2^n:Nat):Int)-1:=by
   unfold pm;omega
  rw [h1,hpn]
 ·rename_i q hq;rw [show 2^n-1-pm n=0 from Nat.sub_self _];exact uB (F:=λ_=> -1)
def Xj7:G0:=λl=>some ([l=[.agg [i 4,i 10,sls n a b c U O]]],.ro [i 4,i 10,sls n a b c U O,.lst 1 (2^n) (λz=>[i (eD n a b c U O (2^n) z)]),.lst 1 (2^n) (λz=>[i (lS n a b c U O (2^n-1) z)])])
theorem gY(VV:sV n a b c U O):PI VQ 84 (Xj7 n a b c U O):=by
 refine ⟨(UJ Tryz.func84),?_⟩;intro avs ns res h hn;cases h;have e:=hn _ GI;subst e;exact Wa1 n a b c U O VV
def Wu3:G0:=λl=>some ([l=[.agg [i 4,i 10,sls n a b c U O]]],i (if zT n a b c U O then 0 else 1))
theorem yY(VV:n<=8):VS VQ 83 (Wu3 n a b c U O):=by
 refine ⟨(UJ Tryz.func83),?_⟩;intro avs ns res h hn;cases h;have e:=hn _ GI;subst e;exact N0 n a b c U O VV
theorem Wa0(E F:Nat->Int)(VV:n<=8):VZ VQ 85 [.ro [i 4,i 10,sls n a b c U O,.lst 1 (2^n) (λz=>[i (E z)]),.lst 1 (2^n) (λz=>[i (F z)])]] (bl (E (2^n-1) != 101)):=by
 refine U4 (L:=[]) (Ae LC Aa) U0 Tryz.func85 (UV Tryz.f85) U7 (t:=need [n<=8] (need [(0:Int)<=2^n-1/\(2:Int)^n-1<(↑(2^n):Int)] (leaf (RV.x (.bool (E ((2:Int)^n-1).toNat != 101)))))) VX ?_;have hp:=uF VV;have hpn:((2^n:Nat):Int)=2^n:=VW;have hp1:1<=2^n:=Nat.one_le_two_pow;have hpt:((2:Int)^n-1).toNat=2^n-1:=VL;simp only [VO.sat,UE,G5,GL,UH,UK,hpt]
 (with_reducible repeat' first|apply Al|intro _)
 all_goals first|exact VV|omega|rfl|trivial
def Xj6(E F:Nat->Int):G0:=λl=>some ([l=[.ro [i 4,i 10,sls n a b c U O,.lst 1 (2^n) (λz=>[i (E z)]),.lst 1 (2^n) (λz=>[i (F z)])]]],bl (E (2^n-1) != 101))
theorem gX(E F:Nat->Int)(VV:n<=8):VS VQ 85 (Xj6 n a b c U O E F):=by
 refine ⟨(UJ Tryz.func85),?_⟩;intro avs ns res h hn;cases h;have e:=hn _ GI;subst e;exact Wa0 n a b c U O E F VV
theorem c8(E F:Nat->Int)(d Z:Int)(VV:0<=d/\d<2^n):VZ VQ 87 [.ro [i 4,i 10,sls n a b c U O,.lst 1 (2^n) (λz=>[i (E z)]),.lst 1 (2^n) (λz=>[i (F z)])],i d,i Z] (bl (decide (E d.toNat<=Z)&&decide (F d.toNat>Z))):=by
 refine GT Tryz.func87 (t:=need [UN d (↑(2^n):Int)] (branch (decide (E (Int.toNat d)<=Z)) (need [UN d (↑(2^n):Int)] (leaf (RV.x (.bool (decide (F (Int.toNat d)>Z)))))) (leaf (RV.x (W6))))) VX ?_;have hpn:((2^n:Nat):Int)=2^n:=VW;simp only [VO.sat,UE,G5,GL,UH,UK];have hd:d.toNat<2^n:=VL
 (with_reducible repeat' first|apply Al|intro _)
 all_goals first|omega|(rename_i h;rw [h];rfl)
def IR(E F:Nat->Int):G0
 |[bk,.x (.int .i64 d),.x (.int .i64 Z)]=>some ([bk= .ro [i 4,i 10,sls n a b c U O,.lst 1 (2^n) (λz=>[i (E z)]),.lst 1 (2^n) (λz=>[i (F z)])],0<=d/\d<2^n],bl (decide (E d.toNat<=Z)&&decide (F d.toNat>Z)))
 |_=>none
theorem uE(E F:Nat->Int):VS VQ 87 (IR n a b c U O E F):=by
 refine ⟨(UJ Tryz.func87),?_⟩;intro avs ns res h hn;unfold IR at h;split at h
 ·cases h;rename_i bk d Z;have e:=hn _ GI;rw [e];exact c8 n a b c U O E F d Z (hn _ VW)
 ·cases h
end
def hoF(n:Nat)(a b c:Nat->Int)(E F:Nat->Int)(ow Z:Int):Nat->Int×Int
 | 0=>(1001,-1)
 |d+1=>match decide (E d<=Z)&&decide (F d>Z) with
  |true=>(min (hoF n a b c E F ow Z d).1 (stF a b c d n ow.toNat),max (hoF n a b c E F ow Z d).2 (stF a b c d n ow.toNat))
  |false=>hoF n a b c E F ow Z d
theorem nth6(F:Nat->Int){q:Nat}(hq:q<6):U9 [F 0,F 1,F 2,F 3,F 4,F 5] q=F q:=by
 match q,hq with
 | 0,_=>rfl
 | 1,_=>rfl
 | 2,_=>rfl
 | 3,_=>rfl
 | 4,_=>rfl
 | 5,_=>rfl
section
variable (n:Nat)
abbrev WD(a:Nat->Int)(b:Nat->Int)(c:Nat->Int)(U:Nat->Int)(O:Nat->Int)(E:Nat->Int)(F:Nat->Int):AV:=AV.ro [iI 4,iI 10,Q0 n a b c U O,lst 1 (2^n) λz=>[iI (E z)],lst 1 (2^n) λz=>[iI (F z)]]
abbrev JP:List AV:=[iI 0,iI 0]
def Zn1(a b c U O:Nat->Int)(E F:Nat->Int)(ow Z:Int):St:={σ:=[WD n a b c U O E F,iI ow,iI Z,top,top,top,ptr 0 0,ptr 2 0]++HK 5 [ZF n]++HK 25 [],m:=[(2,GQ.cells 118 [iI 1001,iI (-1:Int)]),(0,GQ.cells 118 JP)],nx:=8}
noncomputable def Jn0:Code:=UC (VU (UA Tryz.f57) 0)
def Wg0(a b c U O:Nat->Int)(E F:Nat->Int)(ow Z:Int)(d:Nat):St:={σ:=H6 [(8,.top),(9,.top),(14,i d)] (Zn1 n a b c U O E F ow Z).σ,m:=[(2,.cells 118 [i (hoF n a b c E F ow Z (d)).1,i (hoF n a b c E F ow Z (d)).2]),(0,.cells 118 [i 0,i 0])],nx:=8}
def CD(a b c U O:Nat->Int)(E F:Nat->Int)(ow Z:Int)(d:Nat):GB->Option St
 | .exit 0=>some {σ:=H6 [(8,.top),(9,.top),(14,i (2^n))] (Zn1 n a b c U O E F ow Z).σ,m:=[(2,.cells 118 [i (hoF n a b c E F ow Z (2^n)).1,i (hoF n a b c E F ow Z (2^n)).2]),(0,.cells 118 [i 0,i 0])],nx:=8}
 |_=>none
def Ji9(a b c U O:Nat->Int)(E F:Nat->Int)(ow Z:Int):CT:= .leaf (.exit 0,(CD n a b c U O E F ow Z 0 (.exit 0)).getD (Zn1 n a b c U O E F ow Z))
def Xt3(a b c U O:Nat->Int)(E F:Nat->Int)(ow Z:Int):UL:=(HM (Wg0 n a b c U O E F ow Z (0)) (Ji9 n a b c U O E F ow Z))
abbrev ZB:Prop:=ptr 2 0=ptr 2 0
theorem Jb9(a b c U O:Nat->Int)(E F:Nat->Int)(ow Z:Int)(VV:sV n a b c U O)(UI:0<=ow/\ow<4):GD VQ (.loop Jn0) (Xt3 n a b c U O E F ow Z):=by
 refine HT (L:=[]) (Ae PN (Ae DV (Ae LC (Ae (uE n a b c U O E F) (Ae (qS n a b c U O VV) Aa))))) U0 U7 (X:=Nat) (Wg0 n a b c U O E F ow Z) (λd=>d<=2^n) (λd=>2^n-d) (CD n a b c U O E F ow Z) (x0:=0) VW ?_ ?_ ?_
 ·rintro d;kernel_rfl
 ·rintro d y E h;unfold CD at h;split at h
  ·cases h;kernel_rfl
  ·cases h
 ·rintro Q hQ d hx;refine ⟨(d+1),?_⟩;(with_reducible refine DU (t:=let W:=(U9 [stF a b c (d:Int) n 0,stF a b c (d:Int) n 1,stF a b c (d:Int) n 2,stF a b c (d:Int) n 3,stF a b c (d:Int) n 4,stF a b c (d:Int) n 5] (Int.toNat ow));let z2:=hoF n a b c E F ow Z;let z1:=(z2 d);let z3:=(U1 (WD n a b c U O E F));(branch (decide ((d:Int)<2^n-1+1)) (need [z3,(0:Int)<=(d:Int)/\(d:Int)<2^n] (branch (decide (E d<=Z)&&decide (F d>Z)) (need [W2 n a b c U O,(0:Int)<=(d:Int)/\(d:Int)<256] (need [UN ow 6] (need [VN ((d:Int)+1)] (need [z3,ow=ow,Z=Z,QO,ZB,QH n,(d:Int)+1=(↑(d+1):Int),min (Prod.fst z1) W=Prod.fst (z2 (d+1)),max (Prod.snd z1) W=Prod.snd (z2 (d+1)),QX,QX] (leaf GB.normal))))) (need [VN ((d:Int)+1)] (need [z3,ow=ow,Z=Z,QO,ZB,QH n,(d:Int)+1=(↑(d+1):Int),Prod.fst z1=Prod.fst (z2 (d+1)),Prod.snd z1=Prod.snd (z2 (d+1)),QX,QX] (leaf GB.normal))))) (need [z3,ow=ow,Z=Z,QO,ZB,QH n,(d:Int)=2^n,Prod.fst z1=Prod.fst (z2 (2^n)),Prod.snd z1=Prod.snd (z2 (2^n)),QX,QX] (leaf (GB.exit 0))))) VX ?_);simp only [Ji9,CD,VO.sat,GX] at hQ;simp only [VO.sat,UE,G5,GL,UH,VN,UK,HG,RX,RP,LO,GS,CD]
  have h8:=VV.1;have hp:=uF h8;have hpn:((2^n:Nat):Int)=2^n:=VW;refine ⟨λh=>?_,λh=>?_⟩
  ·have hd3:(d:Int)<2^n:=VL;have hd:d<2^n:=by
    have h':(d:Int)<((2^n:Nat):Int):=by rw [hpn];exact hd3
    exact Int.ofNat_lt.1 h'
   have hd2:=BY h8 hd;have h6:=nth6 (stF a b c d n) (show ow.toNat<6 by omega)
   refine ⟨⟨VL,hd3⟩,λhb=>?_,λhb=>?_⟩
   ·refine ⟨hd2,⟨VL,VL⟩,VL,⟨VL,?_,?_⟩,hd,VL⟩
    ·simp only [hoF,hb];rw [h6]
    ·simp only [hoF,hb];rw [h6]
   ·refine ⟨VL,⟨VL,?_,?_⟩,hd,VL⟩
    ·simp only [hoF,hb]
    ·simp only [hoF,hb]
  ·have hd:d=2^n:=by
    have h': ¬(d:Int)<((2^n:Nat):Int):=by rw [hpn];omega
    omega
   subst hd;exact ⟨⟨hpn,rfl,rfl⟩,λE hE=>by cases hE;exact hQ⟩
theorem Qj4(a b c U O:Nat->Int)(E F:Nat->Int)(ow Z:Int)(VV:sV n a b c U O)(UI:0<=ow/\ow<4):VZ VQ 57 [.ro [i 4,i 10,sls n a b c U O,.lst 1 (2^n) (λz=>[i (E z)]),.lst 1 (2^n) (λz=>[i (F z)])],i ow,i Z] (.agg [i (hoF n a b c E F ow Z (2^n)).1,i (hoF n a b c E F ow Z (2^n)).2]):=by
 refine U4 (L:=[Xt3 n a b c U O E F ow Z]) (Ae PN (Ae DV (Ae LC (Ae (uE n a b c U O E F) (Ae (qS n a b c U O VV) Aa))))) U0 Tryz.func57 (UV Tryz.f57) (GA (lpE (b:= .loop Jn0) VX<|Jb9 n a b c U O E F ow Z VV UI)) (t:=let W:=hoF n a b c E F ow Z;(need [n<=8] (need [VN ((2:Int)^n-1+1)] (need [U1 (WD n a b c U O E F),ow=ow,Z=Z,QO,ZB,QH n,(0:Int)=(↑(0:Nat):Int),(1001:Int)=Prod.fst (W 0),(-1:Int)=Prod.snd (W 0),QX,QX] (leaf (RV.agg [RV.x (.int .i64 (Prod.fst (W (2^n)))),RV.x (.int .i64 (Prod.snd (W (2^n))))])))))) VX ?_
 have h8:=VV.1;have hp:=uF h8;have hpn:((2^n:Nat):Int)=2^n:=VW;simp only [VO.sat,UE,G5,GL,UH,UK,VN,Prod.fst,Prod.snd]
 (with_reducible repeat' first|apply Al|intro _)
 all_goals first|exact Ak|exact h8|omega|rfl
def lM(a b c U O:Nat->Int)(E F:Nat->Int):G0
 |[bk,.x (.int .i64 ow),.x (.int .i64 Z)]=>some ([bk= .ro [i 4,i 10,sls n a b c U O,.lst 1 (2^n) (λz=>[i (E z)]),.lst 1 (2^n) (λz=>[i (F z)])],0<=ow/\ow<4],.agg [i (hoF n a b c E F ow Z (2^n)).1,i (hoF n a b c E F ow Z (2^n)).2])
 |_=>none
theorem yX(a b c U O:Nat->Int)(E F:Nat->Int)(VV:sV n a b c U O):VS VQ 57 (lM n a b c U O E F):=by
 refine ⟨(UJ Tryz.func57),?_⟩;intro avs ns res h hn;unfold lM at h;split at h
 ·cases h;rename_i bk ow Z;have e:=hn _ GI;rw [e];exact Qj4 n a b c U O E F ow Z VV (hn _ VW)
 ·cases h
def zK(a b c U O:Nat->Int):Bool:=eD n a b c U O (2^n) (2^n-1) != 101
end
theorem a6{n:Nat}{a b c U O:Nat->Int}(h:sV n a b c U O):zT n a b c U O=true:=H3.2 h.2
section
variable (n:Nat)
abbrev X4(a:Nat->Int)(b:Nat->Int)(c:Nat->Int)(U:Nat->Int)(O:Nat->Int):List AV:=[agg [iI 4,iI 10,Q0 n a b c U O]]
theorem Qj2(a b c U O:Nat->Int)(rt:Bool)(VV:sV n a b c U O):UP VQ 55 [.agg [i 4,i 10,sls n a b c U O],bl rt] (.branch (!rt) (.leaf (.tup [Bo.nilP,i 2])) (.branch (!zK n a b c U O) (.leaf (.tup [Bo.nilP,i 9])) (.leaf (.tup [.ro [i 4,i 10,sls n a b c U O,.lst 1 (2^n) (λz=>[i (eD n a b c U O (2^n) z)]),.lst 1 (2^n) (λz=>[i (lS n a b c U O (2^n-1) z)])],i 0])))):=by
 refine GU (L:=[]) (Ae (yY n a b c U O VV.1) (Ae (gX n a b c U O (eD n a b c U O (2^n)) (lS n a b c U O (2^n-1)) VV.1) Aa)) (Ai (Af (gY n a b c U O VV) Ab) Ac) U0 Tryz.func55 (UV Tryz.f55) G4 (t:=let W:=(AV.ro [iI 4,iI 10,Q0 n a b c U O,lst 1 (2^n) λz=>[iI (eD n a b c U O (2^n) z)],lst 1 (2^n) λz=>[iI (lS n a b c U O (2^n-1) z)]]);(need [U1 (X4 n a b c U O)] (branch ((if zT n a b c U O=true then (0:Int) else (1:Int)) != 0) (leaf (tup [QD,iI (if zT n a b c U O=true then (0:Int) else (1:Int))])) (branch (!rt) (leaf (tup [QD,iI 2])) (need [U1 (X4 n a b c U O)] (need [U1 ([W])] (branch (!eD n a b c U O (2^n) (2^n-1) != 101) (leaf (tup [QD,iI 9])) (leaf (tup [W,iI 0]))))))))) VX ?_
 intro Q hQ;simp only [VO.sat,UE,UK] at hQ ⊢;rw [a6 VV];refine ⟨λh=>by simp at h,λ_=>⟨λh=>⟨.tup [Bo.nilP,i 2],⟨rfl,⟨rfl,rfl⟩,Ak⟩,hQ.1 h⟩,λh=>⟨λh2=>⟨.tup [Bo.nilP,i 9],⟨rfl,⟨rfl,rfl⟩,Ak⟩,(hQ.2 h).1 h2⟩,λh2=>⟨.tup [.ro [i 4,i 10,sls n a b c U O,.lst 1 (2^n) (λz=>[i (eD n a b c U O (2^n) z)]),.lst 1 (2^n) (λz=>[i (lS n a b c U O (2^n-1) z)])],i 0],⟨rfl,⟨rfl,rfl⟩,Ak⟩,(hQ.2 h).2 h2⟩⟩⟩⟩
theorem AU(a b c U O:Nat->Int)(VV:sV n a b c U O):UP VQ 55 [.agg [i 4,i 10,sls n a b c U O],.lit true] (.branch (!true) (.leaf (.tup [Bo.nilP,i 2])) (.branch (!zK n a b c U O) (.leaf (.tup [Bo.nilP,i 9])) (.leaf (.tup [.ro [i 4,i 10,sls n a b c U O,.lst 1 (2^n) (λz=>[i (eD n a b c U O (2^n) z)]),.lst 1 (2^n) (λz=>[i (lS n a b c U O (2^n-1) z)])],i 0])))):=by
 refine GU (L:=[]) (Ae (yY n a b c U O VV.1) (Ae (gX n a b c U O (eD n a b c U O (2^n)) (lS n a b c U O (2^n-1)) VV.1) Aa)) (Ai (Af (gY n a b c U O VV) Ab) Ac) U0 Tryz.func55 (UV Tryz.f55) G4 (t:=let W:=(AV.ro [iI 4,iI 10,Q0 n a b c U O,lst 1 (2^n) λz=>[iI (eD n a b c U O (2^n) z)],lst 1 (2^n) λz=>[iI (lS n a b c U O (2^n-1) z)]]);(need [U1 (X4 n a b c U O)] (branch ((if zT n a b c U O=true then (0:Int) else (1:Int)) != 0) (leaf (tup [QD,iI (if zT n a b c U O=true then (0:Int) else (1:Int))])) (need [U1 (X4 n a b c U O)] (need [U1 ([W])] (branch (!eD n a b c U O (2^n) (2^n-1) != 101) (leaf (tup [QD,iI 9])) (leaf (tup [W,iI 0])))))))) VX ?_
 intro Q hQ;simp only [VO.sat,UE,UK] at hQ ⊢;rw [a6 VV]
 replace hQ:=hQ.2 rfl
 refine ⟨λh=>by simp at h,λ_=>⟨λh2=>⟨.tup [Bo.nilP,i 9],⟨rfl,⟨rfl,rfl⟩,Ak⟩,hQ.1 h2⟩,λh2=>⟨.tup [.ro [i 4,i 10,sls n a b c U O,.lst 1 (2^n) (λz=>[i (eD n a b c U O (2^n) z)]),.lst 1 (2^n) (λz=>[i (lS n a b c U O (2^n-1) z)])],i 0],⟨rfl,⟨rfl,rfl⟩,Ak⟩,hQ.2 h2⟩⟩⟩
theorem rB(a b c U O:Nat->Int)(VV:sV n a b c U O):UP VQ 55 [.agg [i 4,i 10,sls n a b c U O],.lit false] (.branch (!false) (.leaf (.tup [Bo.nilP,i 2])) (.branch (!zK n a b c U O) (.leaf (.tup [Bo.nilP,i 9])) (.leaf (.tup [.ro [i 4,i 10,sls n a b c U O,.lst 1 (2^n) (λz=>[i (eD n a b c U O (2^n) z)]),.lst 1 (2^n) (λz=>[i (lS n a b c U O (2^n-1) z)])],i 0])))):=by
 refine GU (L:=[]) (Ae (yY n a b c U O VV.1) (Ae (gX n a b c U O (eD n a b c U O (2^n)) (lS n a b c U O (2^n-1)) VV.1) Aa)) (Ai (Af (gY n a b c U O VV) Ab) Ac) U0 Tryz.func55 (UV Tryz.f55) G4 (t:=need [U1 (X4 n a b c U O)] (branch ((if zT n a b c U O=true then (0:Int) else (1:Int)) != 0) (leaf (tup [QD,iI (if zT n a b c U O=true then (0:Int) else (1:Int))])) (leaf (tup [QD,iI 2])))) VX ?_
 intro Q hQ;simp only [VO.sat,UE,UK] at hQ ⊢;rw [a6 VV];exact ⟨λh=>by simp at h,λ_=>⟨.tup [Bo.nilP,i 2],⟨rfl,⟨rfl,rfl⟩,Ak⟩,hQ.1 rfl⟩⟩
def IQ(a b c U O:Nat->Int):D8:=λl=>match l with
 |[bt,.x (.bool rt)]=>some (.need [bt= .agg [i 4,i 10,sls n a b c U O]] (.branch (!rt) (.leaf (.tup [Bo.nilP,i 2])) (.branch (!zK n a b c U O) (.leaf (.tup [Bo.nilP,i 9])) (.leaf (.tup [.ro [i 4,i 10,sls n a b c U O,.lst 1 (2^n) (λz=>[i (eD n a b c U O (2^n) z)]),.lst 1 (2^n) (λz=>[i (lS n a b c U O (2^n-1) z)])],i 0])))))
 |[bt,.lit rt]=>some (.need [bt= .agg [i 4,i 10,sls n a b c U O]] (.branch (!rt) (.leaf (.tup [Bo.nilP,i 2])) (.branch (!zK n a b c U O) (.leaf (.tup [Bo.nilP,i 9])) (.leaf (.tup [.ro [i 4,i 10,sls n a b c U O,.lst 1 (2^n) (λz=>[i (eD n a b c U O (2^n) z)]),.lst 1 (2^n) (λz=>[i (lS n a b c U O (2^n-1) z)])],i 0])))))
 |_=>none
theorem yV(a b c U O:Nat->Int)(VV:sV n a b c U O):Sx.Enters Tryz.prog 55/\ ∀avs t,IQ n a b c U O avs=some t->UP VQ 55 avs t:=by
 refine ⟨(UJ Tryz.func55),?_⟩;intro avs t h;unfold IQ at h;split at h
 ·cases h;intro Q hQ;have e:=hQ.1
  dsimp only [UE] at e
  subst e;exact Qj2 n a b c U O _ VV Q hQ.2
 ·cases h;intro Q hQ;have e:=hQ.1
  dsimp only [UE] at e
  subst e;rename_i rt;cases rt
  ·exact rB n a b c U O VV Q hQ.2
  ·exact AU n a b c U O VV Q hQ.2
 ·cases h
def dI{α:Type}(f:Nat->Option α):Nat->Nat->Option α
 |_,0=>none
 |s,k+1=>match f s with
  |some r=>some r
  |none=>dI f (s+1) k
def orQ(a b c U O:Nat->Int)(g:Nat->Int->Option (List (Nat×Int)))(d:Nat)(Z:Int)(q:Nat):Option (List (Nat×Int)):=
 if max Z (U (UU (quB n a b c d) n q))>O (UU (quB n a b c d) n q) then none else
  match g (d ||| 2^UU (quB n a b c d) n q) (max Z (U (UU (quB n a b c d) n q))) with
  |some l=>some (l++[(UU (quB n a b c d) n q,max Z (U (UU (quB n a b c d) n q)))])
  |none=>none
end
def orF(n:Nat)(a b c U O:Nat->Int):Nat->Nat->Int->Option (List (Nat×Int))
 | 0,_,_=>none
 |N+1,d,Z=>if d=2^n-1 then some [] else dI (orQ n a b c U O (orF n a b c U O N) d Z) 0 (quN n a b c d)
def orS(n:Nat)(a b c U O:Nat->Int)(d:Nat)(Z:Int):Option (List (Nat×Int)):=orF n a b c U O (2^n) d Z
def orL(l:List (Nat×Int)):List Int:=l.map λp=>(p.1:Int)
def dyU:List (Nat×Int)->(Nat->Int)->Nat->Int
 |[],f=>f
 |p::t,f=>dyU t (US p.1 p.2 f)
section
variable (n:Nat)(a b c U O:Nat->Int)
def orG(d:Nat)(Z:Int):List (Nat×Int):=(orS n a b c U O d Z).getD []
def orH(x:Value):Prop:= ∃(d:Nat) (Z:Int),x= .agg #[.int .i64 d,.int .i64 Z]/\d<2^n/\orS n a b c U O d Z=none
end
def orV:Value->Value:=λ_=> .bool true
def stK(x:Value):Prop:= ∃(d Z:Int),x= .agg #[.int .i64 d,.int .i64 Z]
theorem Wb8(l m:List Int): ∀k,U9 (l++m) k=if k<l.length then U9 l k else U9 m (k-l.length):=by
 induction l with
 |nil=>intro k;simp
 |cons x l ih=>
  intro k;cases k with
  |zero=>simp [U9]
  |succ k=>
   show U9 (l++m) k=_;rw [ih];simp only [Bj,Nat.add_lt_add_iff_right,Nat.add_sub_add_right];rfl
theorem CX: ∀{l:List Int} {k:Nat} (h:k<l.length),U9 l k=l[k]
 |x::l,0,h=>rfl
 |x::l,k+1,h=>CX (l:=l) (k:=k) (by simpa using h)
theorem dH{α:Type}{f:Nat->Option α}: ∀{k s:Nat},dI f s k=none↔ ∀j,s<=j->j<s+k->f j=none
 | 0,s=>⟨λ_ j h1 h2=>VL,λ_=>rfl⟩
 |k+1,s=>by
  unfold dI;cases h:f s with
  |some r=>exact ⟨λh1=>(by cases h1),λh1=>(by rw [h1 s (Am _) VL] at h;cases h)⟩
  |none=>
   simp only;rw [dH];refine ⟨λh1 j h2 h3=>?_,λh1 j h2 h3=>h1 j VL VL⟩
   rcases (show j=s\/s+1<=j by omega) with rfl|h4
   ·exact h
   ·exact h1 j h4 VL
theorem NT{α:Type}{f:Nat->Option α}{r:α}{q:Nat}(hq:f q=some r): ∀{k s:Nat},s<=q->q<s+k->(∀j,s<=j->j<q->f j=none)->dI f s k=some r
 | 0,s,h1,h2,_=>VL
 |k+1,s,h1,h2,h3=>by
  unfold dI;rcases (show s=q\/s<q by omega) with rfl|h4
  ·rw [hq]
  ·rw [h3 s (Am _) h4];exact NT hq h4 VL (λj h5 h6=>h3 j VL h6)
theorem EQ{α:Type}{f g:Nat->Option α}: ∀{k s:Nat},(∀j,s<=j->j<s+k->f j=g j)->dI f s k=dI g s k
 | 0,_,_=>rfl
 |k+1,s,h=>by
  unfold dI;rw [h s (Am _) VL,EQ (λj h1 h2=>h j VL VL)]
theorem rN{n:Nat}(h:n<=8):2^n<=256:=by
 have:=uF h;have hpn:((2^n:Nat):Int)=2^n:=VW;omega
theorem Xo2{n:Nat}{a b c:Nat->Int}{d q:Nat}(h8:n<=8)(hd:d<2^n)(hq:q<quN n a b c d):d<d ||| 2^UU (quB n a b c d) n q:=by
 have hs:=u6 hq;have h2:=rN h8;have hb:MC d (UU (quB n a b c d) n q)=false:=by
  have:=hs.2;unfold quB at this;rw [HA] at this;have h1:=this.1;unfold quB;simpa using h1
 rw [Wl2 VL] at hb;have hle:d<=d ||| 2^UU (quB n a b c d) n q:=Nat.left_le_or
 rcases Nat.lt_or_eq_of_le hle with h|h
 ·exact h
 ·exfalso;have:(d ||| 2^UU (quB n a b c d) n q).testBit (UU (quB n a b c d) n q)=true:=by
   rw [Nat.testBit_or,Nat.testBit_two_pow_self,Bool.or_true]
  rw [←h,hb] at this;cases this
theorem cE{n:Nat}{a b c U O:Nat->Int}(h8:n<=8): ∀(N N' d:Nat) (Z:Int),d<2^n->2^n-d<=N->2^n-d<=N'->orF n a b c U O N d Z=orF n a b c U O N' d Z
 | 0,_,d,_,h1,h2,_=>VL
 |N+1,0,d,_,h1,_,h3=>VL
 |N+1,N'+1,d,Z,h1,h2,h3=>by
  simp only [orF];split
  ·rfl
  ·refine EQ λq _ hq=>?_
   have hq:q<quN n a b c d:=VL;have hg:=Xo2 h8 h1 hq;have hl:=t8 h1 (u6 hq).1;unfold orQ;rw [cE h8 N N' _ _ hl VL VL]
section
variable {n:Nat}{a b c U O:Nat->Int}
theorem nG(h8:n<=8){d:Nat}(Z:Int)(hd:d<2^n):orS n a b c U O d Z=if d=2^n-1 then some [] else dI (orQ n a b c U O (orS n a b c U O) d Z) 0 (quN n a b c d):=by
 have h:orS n a b c U O d Z=orF n a b c U O (2^n+1) d Z:=cE h8 _ _ _ _ hd VL VL;rw [h];rfl
theorem Wa8(h8:n<=8)(Z:Int):orS n a b c U O (2^n-1) Z=some []:=by
 have:=rN h8;have:0<2^n:=Nat.two_pow_pos n;rw [nG h8 Z VL,if_pos rfl]
end
theorem Xb5(l:List (Nat×Int))(p:Nat×Int):orL (l++[p])=orL l++[(p.1:Int)]:=by simp [orL]
theorem Qa9: ∀(l:List (Nat×Int)) (p:Nat×Int) (f:Nat->Int),dyU (l++[p]) f=US p.1 p.2 (dyU l f)
 |[],_,_=>rfl
 |_::t,p,f=>Qa9 t p _
theorem tA{n:Nat}{a b c U O:Nat->Int}: ∀(N d:Nat) (Z:Int) (l:List (Nat×Int)),orF n a b c U O N d Z=some l->l.length<=N
 | 0,_,_,_,h=>by simp [orF] at h
 |N+1,d,Z,l,h=>by
  simp only [orF] at h;split at h
  ·cases h;exact Ao _
  ·obtain ⟨q,hq⟩: ∃q,orQ n a b c U O (orF n a b c U O N) d Z q=some l:=by
    refine Classical.byContradiction λhno=>?_
    rw [dH.2 (λj _ _=>?_)] at h
    ·cases h
    ·cases hj:orQ n a b c U O (orF n a b c U O N) d Z j with
     |none=>rfl
     |some r=>
      exfalso;have: ∀(f:Nat->Option (List (Nat×Int))) (k s:Nat) (r:List (Nat×Int)),dI f s k=some r-> ∃q,f q=some r:=by
       intro f k
       induction k with
       |zero=>intro s r h;cases h
       |succ k ih=>
        intro s r h;unfold dI at h;cases hf:f s with
        |some r'=>rw [hf] at h;cases h;exact ⟨s,hf⟩
        |none=>rw [hf] at h;exact ih _ _ h
      exact hno (this _ _ _ _ h)
   unfold orQ at hq;split at hq
   ·cases hq
   ·split at hq
    ·rename_i l' hl';cases hq;have:=tA N _ _ _ hl';rw [Be];simp;omega
    ·cases hq
theorem t9(n:Nat)(a b c U O:Nat->Int)(d:Nat)(Z:Int):(orG n a b c U O d Z).length<=2^n:=by
 unfold orG;cases h:orS n a b c U O d Z with
 |none=>exact Ao _
 |some l=>exact tA _ _ _ _ h
theorem N9(d Z:Int):F8 Tryz.prog 340 stK (.agg #[.int .i64 d,.int .i64 Z]) (.bool false):=by
 refine ⟨⟨343,4,(match Tryz.prog.underlying 343 with|some (.struct fs)=>fs|_=>#[]),VX,VX,?_,?_,?_⟩,by simp [Instr.sameBits]⟩
 ·intro b' w;kernel_rfl
 ·rintro k' ⟨d',day',rfl⟩ w;refine ⟨d==d'&&(Z==day'&&true),xG (P:=Tryz.prog) (e:=PE w w) Op.maxDepth 343 (.agg [i d,i Z]) (.agg [i d',i day']) _ _ _ VX (Rep.aggL (U3.cons (.x _) (U3.one (.x _)))) (Rep.aggL (U3.cons (.x _) (U3.one (.x _)))),λh=>?_⟩
  simp only [Bool.and_true,HA,beq_iff_eq] at h;obtain ⟨rfl,rfl⟩:=h;rfl
 ·intro w;kernel_rfl
theorem Wa9{n:Nat}{a b c U O:Nat->Int}{x:Value}(h:orH n a b c U O x):stK x:=by
 obtain ⟨d,Z,h,_⟩:=h;exact ⟨_,_,h⟩
section
variable (n:Nat)(a b c U O:Nat->Int)(ea la:AV)
def OM(d:Nat)(Z:Int)(ord:List Int)(dy:Nat->Int)(oa:Option Addr)(ol oc:Nat)(da:Option Addr)(dl dc:Nat):H0:=[(3,.cells 22 [.row 900]),(3,.cells 22 [.x (.slice oa ol oc)]),(900,.row 3 1 ord.length (λj=>[i (U9 ord j)])),(5,.memo (orH n a b c U O) orV),(7,.row 3 1 n (λj=>[i (dy j)])),(0,.keep 134 [.ro [i 4,i 10,sls n a b c U O,ea,la]]),(1,.keep 340 [.mp 5]),(2,.keep 341 [.fn (.func 237) [] [.ptr 0 0,.ptr 1 0,.ptr 2 0,.ptr 3 0,.ptr 4 0]]),(4,.cells 22 [.row 7]),(4,.cells 22 [.x (.slice da dl dc)])]
def OT_(d:Nat)(Z:Int)(ord:List Int)(dy:Nat->Int)(oa:Option Addr)(ol oc:Nat)(da:Option Addr)(dl dc:Nat)(l:List (Nat×Int)):St:={σ:=[],m:=[(3,.cells 22 [.row 900]),(900,.row 3 1 (ord++orL l).length (λj=>[i (U9 (ord++orL l) j)])),(5,.memo (orH n a b c U O) orV),(7,.row 3 1 n (λj=>[i ((dyU l dy) j)])),(0,.keep 134 [.ro [i 4,i 10,sls n a b c U O,ea,la]]),(1,.keep 340 [.mp 5]),(2,.keep 341 [.fn (.func 237) [] [.ptr 0 0,.ptr 1 0,.ptr 2 0,.ptr 3 0,.ptr 4 0]]),(4,.cells 22 [.row 7]),(4,.cells 22 [.x (.slice da dl dc)])],nx:=901,sv:=[[.ptr 0 0,.ptr 1 0,.ptr 2 0,.ptr 3 0,.ptr 4 0]] }
def OF_(d:Nat)(Z:Int)(ord:List Int)(dy:Nat->Int)(oa:Option Addr)(ol oc:Nat)(da:Option Addr)(dl dc:Nat):St:={σ:=[],m:=[(3,.cells 22 [.row 900]),(3,.cells 22 [.x (.slice oa ol oc)]),(900,.row 3 1 ord.length (λj=>[i (U9 ord j)])),(5,.memo (orH n a b c U O) orV),(7,.row 3 1 n (λj=>[i (dy j)])),(0,.keep 134 [.ro [i 4,i 10,sls n a b c U O,ea,la]]),(1,.keep 340 [.mp 5]),(2,.keep 341 [.fn (.func 237) [] [.ptr 0 0,.ptr 1 0,.ptr 2 0,.ptr 3 0,.ptr 4 0]]),(4,.cells 22 [.row 7]),(4,.cells 22 [.x (.slice da dl dc)])],nx:=901,sv:=[[.ptr 0 0,.ptr 1 0,.ptr 2 0,.ptr 3 0,.ptr 4 0]] }
end
def N7:List (Nat×Nat)->Bool
 |[]=>true
 |(x,y)::t=>match Nat.beq x y with
  |true=>N7 t
  |false=>false
def Xd2:GQ->Bool
 | .aka _ _ _ _ _=>true
 |_=>false
def nL:H0->H0
 |[]=>[]
 |(k,r)::t=>match Xd2 r with
  |true=>nL t
  |false=>(k,r)::nL t
def x8(k:Nat)(g:Nat->List AV):List Int:=(List.range k).map (col 0 g)
def m6(n:Nat)(a b c U O:Nat->Int)(N:Nat):D0:=λavs m nx sv=>match avs with
 |[.agg [.x (.int .i64 d),.x (.int .i64 Z)],.ptr k W,.ptr g z1,.ptr f z2,.ptr o z3,.ptr dd z4]=>match DB m k,DB m g,DB m f,DB m o,DB m dd with
  |some (.keep Tk [.ro [c1,c2,sl,ea,la]]),some (.keep Tg [.mp mg]),some (.keep Tf [.fn (.func fg) [] [.ptr k' y0,.ptr g' y1,.ptr f' y2,.ptr o' y3,.ptr d' y4]]),some (.cells To [.row q]),some (.cells Td [.row r])=>match DB m mg,DB m q,DB m r with
   |some (.memo h ff),some (.row T1 s1 k1 g1),some (.row T2 s2 k2 g2)=>
    match N7 [(W,0),(z1,0),(z2,0),(z3,0),(z4,0),(y0,0),(y1,0),(y2,0),(y3,0),(y4,0),(Tk,134),(Tg,340),(Tf,341),(To,22),(Td,22),(fg,237),(k,k'),(g,g'),(f,f'),(o,o'),(dd,d'),(T1,3),(s1,1),(T2,3),(s2,1)]&&(!Nat.beq q r&& !Nat.beq o dd) with
    |true=>some (.needT [c1=i 4,c2=i 10,sl=sls n a b c U O,∀x,h x->orH n a b c U O x/\ff x=orV x,UG 1 k1 g1,UG 1 k2 g2,k2=n,0<=d/\d<2^n,2^n-d.toNat<=N,0<=Z/\Z<=100,k1<=1000]
      (.branch (orS n a b c U O d.toNat Z).isSome
       (.leaf (.lit true,(nx,.row 3 1 (x8 k1 g1++orL (orG n a b c U O d.toNat Z)).length (λj=>[i (U9 (x8 k1 g1++orL (orG n a b c U O d.toNat Z)) j)]))::qC (qC (qC (j6 (nL m) q) o (.cells 22 [.row nx])) r (.row 3 1 n (λj=>[i (dyU (orG n a b c U O d.toNat Z) (col 0 g2) j)]))) mg (.memo (orH n a b c U O) orV),nx+1,sv))
       (.leaf (.lit false,qC (qC (qC (nL m) q (.row 3 1 k1 g1)) r (.row 3 1 n g2)) mg (.memo (orH n a b c U O) orV),nx,sv))))
    |false=>none
   |_,_,_=>none
  |_,_,_,_,_=>none
 |_=>none
theorem Jf6{l:List Int}{x:Int}{j:Nat}(h:j<l.length+1):GJ l.length (λj=>[i (U9 l j)]) (U8 1 [i x]) j=[i (U9 (l++[x]) j)]:=by
 rw [Wb8];show HF (decide (j<l.length)) _ (U8 1 [i x] (j-l.length))=_;rw [show j-l.length=0 by omega]
 by_cases hj:j<l.length
 ·rw [decide_eq_true hj,if_pos hj];rfl
 ·rw [decide_eq_false hj,if_neg hj];rfl
theorem mQ(n:Nat)(f:Nat->Int):UG 1 n (λj=>[i (f j)]):=λj _=>rfl
theorem SJ(l:List Int):x8 l.length (λj=>[i (U9 l j)])=l:=by
 unfold x8;apply List.ext_getElem?;intro j;rcases An j l.length with hj|hj
 ·rw [Bn,List.getElem?_range hj,HZ VL];simp only [Bs,HD];unfold col;show U9 l j=l[j];exact CX VL
 ·rw [Br (by simp;omega),Br VL]
abbrev QM:AV:=AV.fn (Fn.func 237) [] [ptr 0 0,ptr 1 0,ptr 2 0,ptr 3 0,ptr 4 0]
section
variable (n:Nat)(a b c U O:Nat->Int)(ea la:AV)(d:Nat)(Z:Int)(ord:List Int)(dy:Nat->Int)(oa:Option Addr)(ol oc:Nat)(da:Option Addr)(dl dc:Nat)
def Wx6(N:Nat):St:={σ:=[agg [iI (d:Int),iI Z],ptr 0 0,ptr 1 0,ptr 2 0,ptr 3 0,ptr 4 0,ptr 901 0,ptr 902 0]++HK 14 [AV.fn (Fn.func 171) [] [AV.ro [QQ n a b c U O ea la],AV.ro [iI (d:Int)]]]++HK 33 [],m:=[(902,GQ.cells 4 [AV.x (W6)]),(901,GQ.cells 343 [iI (d:Int),iI Z]),(3,GQ.cells 22 [AV.row 900]),(3,GQ.cells 22 [AV.x (.slice oa ol oc)]),(900,GQ.row 3 1 (List.length ord) λj=>[iI (U9 ord j)]),(5,GQ.memo (λx=>orH n a b c U O x) λa=>Value.bool true),(7,GQ.row 3 1 n λj=>[iI (dy j)]),(0,GQ.keep 134 [QQ n a b c U O ea la]),(1,GQ.keep 340 [AV.mp 5]),(2,GQ.keep 341 [QM]),(4,GQ.cells 22 [AV.row 7]),(4,GQ.cells 22 [AV.x (.slice da dl dc)])],nx:=915,sv:=[[ptr 0 0,ptr 1 0,ptr 2 0,ptr 3 0,ptr 4 0]] }
noncomputable def Jo4:Code:=S9 (VU (UA Tryz.f237) 0)
noncomputable def Jm4:Code:=S8 (VU (UA Tryz.f237) 0)
def Wf3(N:Nat)(k:Nat):St:={σ:=H6 [(8,.top),(9,.top),(10,.top)] (Wx6 n a b c U O ea la d Z ord dy oa ol oc da dl dc N).σ,m:=[(902,.cells 4 [.x (.bool false)]),(901,.cells 343 [i d,i Z]),(3,.cells 22 [.row 900]),(3,.cells 22 [.x (.slice oa ol oc)]),(900,.row 3 1 ord.length (λj=>[i (U9 ord j)])),(5,.memo (orH n a b c U O) orV),(7,.row 3 1 n (λj=>[i (dy j)])),(0,.keep 134 [.ro [i 4,i 10,sls n a b c U O,ea,la]]),(1,.keep 340 [.mp 5]),(2,.keep 341 [.fn (.func 237) [] [.ptr 0 0,.ptr 1 0,.ptr 2 0,.ptr 3 0,.ptr 4 0]]),(4,.cells 22 [.row 7]),(4,.cells 22 [.x (.slice da dl dc)])],nx:=920,sv:=[[.ptr 0 0,.ptr 1 0,.ptr 2 0,.ptr 3 0,.ptr 4 0]] }
def v6(N:Nat)(k:Nat):GB->Option St
 | .normal=>some {σ:=H6 [(8,.top),(9,.top),(10,.top)] (Wx6 n a b c U O ea la d Z ord dy oa ol oc da dl dc N).σ,m:=[(902,.cells 4 [.x (.bool false)]),(901,.cells 343 [i d,i Z]),(3,.cells 22 [.row 900]),(3,.cells 22 [.x (.slice oa ol oc)]),(900,.row 3 1 ord.length (λj=>[i (U9 ord j)])),(5,.memo (orH n a b c U O) orV),(7,.row 3 1 n (λj=>[i (dy j)])),(0,.keep 134 [.ro [i 4,i 10,sls n a b c U O,ea,la]]),(1,.keep 340 [.mp 5]),(2,.keep 341 [.fn (.func 237) [] [.ptr 0 0,.ptr 1 0,.ptr 2 0,.ptr 3 0,.ptr 4 0]]),(4,.cells 22 [.row 7]),(4,.cells 22 [.x (.slice da dl dc)])],nx:=920,sv:=[[.ptr 0 0,.ptr 1 0,.ptr 2 0,.ptr 3 0,.ptr 4 0]] }
 | .ret=>some {σ:=H6 [(8,.top),(9,.top),(10,.top)] (Wx6 n a b c U O ea la d Z ord dy oa ol oc da dl dc N).σ,m:=[(902,.cells 4 [.lit true]),(901,.cells 343 [i d,i Z]),(3,.cells 22 [.row 900]),(900,.row 3 1 (ord++orL (orG n a b c U O d Z)).length (λj=>[i (U9 (ord++orL (orG n a b c U O d Z)) j)])),(5,.memo (orH n a b c U O) orV),(7,.row 3 1 n (λj=>[i ((dyU (orG n a b c U O d Z) dy) j)])),(0,.keep 134 [.ro [i 4,i 10,sls n a b c U O,ea,la]]),(1,.keep 340 [.mp 5]),(2,.keep 341 [.fn (.func 237) [] [.ptr 0 0,.ptr 1 0,.ptr 2 0,.ptr 3 0,.ptr 4 0]]),(4,.cells 22 [.row 7]),(4,.cells 22 [.x (.slice da dl dc)])],nx:=920,sv:=[[.ptr 0 0,.ptr 1 0,.ptr 2 0,.ptr 3 0,.ptr 4 0]] }
 |_=>none
def Zk0(N:Nat):CT:= .branch (orS n a b c U O d Z).isSome (.leaf (.ret,(v6 n a b c U O ea la d Z ord dy oa ol oc da dl dc N 0 .ret).getD (Wx6 n a b c U O ea la d Z ord dy oa ol oc da dl dc N))) (.leaf (.normal,(v6 n a b c U O ea la d Z ord dy oa ol oc da dl dc N 0 .normal).getD (Wx6 n a b c U O ea la d Z ord dy oa ol oc da dl dc N)))
def Xs4(N:Nat):UL:=GN [(.cell 3 0,900,3,1)] (HM (Wf3 n a b c U O ea la d Z ord dy oa ol oc da dl dc N (0)) (Zk0 n a b c U O ea la d Z ord dy oa ol oc da dl dc N))
end
abbrev ZV:Prop:=AV.row 900=AV.row 900
abbrev J7:Prop:=AV.row 7=AV.row 7
abbrev JJ:Prop:=AV.mp 5=AV.mp 5
abbrev JV(ord:List Int):Prop:=List.length ord=List.length ord
abbrev KP:Prop:=ptr 901 0=ptr 901 0
abbrev KR:Prop:=ptr 902 0=ptr 902 0
theorem Zw8(n:Nat)(a b c U O:Nat->Int)(ea la:AV)(d:Nat)(Z:Int)(ord:List Int)(dy:Nat->Int)(oa:Option Addr)(ol oc:Nat)(da:Option Addr)(dl dc:Nat)(N:Nat)(VV:sV n a b c U O)(UI:d<2^n/\d≠2^n-1)(HR:2^n-d<=N+1)(DY:0<=Z/\Z<=100)(BM:ord.length<=1000)(xZ:GC VQ 237 (m6 n a b c U O N)):HQ VQ (.rangeFunc (rfF (VU (UA Tryz.f237) 0)) (jE (VU (UA Tryz.f237) 0)) Jo4 Jm4) (Xs4 n a b c U O ea la d Z ord dy oa ol oc da dl dc N):=by
 refine PA [(.cell 3 0,900,3,1)] (X:={R:=[(131,rY)],H:=[(237,(m6 n a b c U O N))] }) (L:=[]) (Ae DV (Ae LC Aa)) (Ai (Af MY Ab) (Ag xZ Ac)) U0 U7 (V:=Nat) (Wf3 n a b c U O ea la d Z ord dy oa ol oc da dl dc N) (λk=>k<=(quN n a b c d)/\ ∀j,j<k->orQ n a b c U O (orS n a b c U O) d Z j=none) (λk=>k) (v6 n a b c U O ea la d Z ord dy oa ol oc da dl dc N) (x0:=0) ⟨Ao _,λj h=>absurd h (Aq _)⟩ rfl ?_ ?_ ?_ ?_ (g:=171) (caps:=[.ro [.ro [i 4,i 10,sls n a b c U O,ea,la]],.ro [i d]]) VX VX (yW ea la n a b c U O d VV (BY VV.1 UI.1)) (λ_=>rfl) ?_
 ·rintro k;kernel_rfl
 ·rintro k y E h;unfold v6 at h;split at h
  ·cases h;kernel_rfl
  ·cases h;kernel_rfl
  ·cases h
 ·rintro k;rfl
 ·rintro k y E h;unfold v6 at h;split at h
  ·cases h;rfl
  ·cases h;rfl
  ·cases h
 ·rintro Q hQ k hx;refine ⟨λhlt=>⟨(k+1),rfl,?_⟩,λPS=>?_⟩
  ·(with_reducible refine DU (t:=let z5:=(quB n a b c (d:Int));let z3:=(UU z5 n k);let z6:=(U1 (AV.fn (Fn.func 171) [] [AV.ro [QQ n a b c U O ea la],AV.ro [iI (d:Int)]]));let z10:=(x8 (List.length ord) λj=>[i (U9 ord j)]);let z1:=(BitVec.toNat (BitVec.ofInt 64 (d:Int) ||| BitVec.ofInt 64 ((1:Int)*2^UU z5 n k)));let z8:=(IntKind.wrap IntKind.i64 (z1:Int));let z4:=(orG n a b c U O (Int.toNat z8) (max Z (U z3)));let z9:=(orG n a b c U O d Z);let z7:=orH n a b c U O;let W:=(need [UN z3 n] (need [UU z5 n k<n] (need [U1 (agg [iI (d:Int),iI Z]),QO,Z8,ZB,ZG,W5,KP,KR,z6,U1 (AV.lit true),U1 (d:Int),Z=Z,ZV,List.length (z10++orL z4)+1=List.length (ord++orL z9),∀(i:Nat),i<List.length (ord++orL z9)->GJ (List.length ((x8 (List.length ord) λj=>[iI (U9 ord j)])++orL z4)) (λj=>[iI (U9 ((x8 (List.length ord) λj=>[iI (U9 ord j)])++orL z4) j)]) (U8 1 [iI (z3:Int)]) i=[iI (U9 (ord++orL z9) i)],∀(k:Value),z7 k->z7 k/\orV k=orV k,n=n,∀(i:Nat),i<n->HF (decide (i=UU z5 n k)) [iI (max Z (U z3))] [iI (dyU z4 dy i)]=[iI (dyU z9 dy i)],ZN n a b c U O ea la,JJ,QM=QM,J7,U1 (AV.x (.slice da dl dc)),QO,Z8,ZB,ZG,W5] (leaf GB.ret))));let z2:=(need [U1 (agg [iI (d:Int),iI Z]),QO,Z8,ZB,ZG,W5,KP,KR,z6,false=false,U1 (d:Int),Z=Z,ZV,U1 (AV.x (.slice oa ol oc)),JV ord,∀(i:Nat),i<List.length ord->[iI (U9 ord i)]=[iI (U9 ord i)],∀(k:Value),z7 k->z7 k/\orV k=orV k,n=n,∀(i:Nat),i<n->[iI (dy i)]=[iI (dy i)],ZN n a b c U O ea la,JJ,QM=QM,J7,U1 (AV.x (.slice da dl dc)),QO,Z8,ZB,ZG,W5] (leaf GB.normal));(branch (decide (max Z (U z3)>O z3)) z2 (need [(0:Int)<=(z3:Int)/\(z3:Int)<=64,VN ((1:Int)*2^UU z5 n k)] (need [U1 (iI 4),U1 (iI 10),W2 n a b c U O,∀(x:Value),z7 x->z7 x/\orV x=orV x,UG 1 (List.length ord) λj=>[i (U9 ord j)],UG 1 n λj=>[i (dy j)],n=n,(0:Int)<=IntKind.wrap IntKind.i64 (z1:Int)/\IntKind.wrap IntKind.i64 (z1:Int)<2^n,2^n-Int.toNat z8<=N,(0:Int)<=max Z (U z3)/\max Z (U z3)<=100,List.length ord<=1000] (branch (Option.isSome (orS n a b c U O (Int.toNat z8) (max Z (U z3)))) (need [(List.length (z10++orL z4)+1)*8<=140737488355328,L0 1 (U8 1 [iI (z3:Int)])] (VO.may True W (VO.may True W W))) z2))))) VX ?_)
   simp only [Zk0,v6,VO.sat,GX] at hQ;obtain ⟨x1,x2⟩:=hx;have h8:=VV.1;have hd:=UI.1;have hd2:=BY h8 hd;have hpn:((2^n:Nat):Int)=2^n:=VW;have h256:=rN h8;have hs:=u6 hlt;have hor:=Wa6 h8 hd hs.1;have hol:=t8 hd hs.1;have hgt:=Xo2 h8 hd hlt;have hsv:=sO VV hs.1;have h2s:(1:Int)<=2^UU (quB n a b c d) n k/\(2:Int)^UU (quB n a b c d) n k<=256:=uF VL;have BR:orS n a b c U O d Z=dI (orQ n a b c U O (orS n a b c U O) d Z) 0 (quN n a b c d):=by
    rw [nG h8 Z hd,if_neg UI.2]
   simp only [VO.sat,UE,UK,hor,FF,HG,SJ]
   have Qm3:((d ||| 2^UU (quB n a b c d) n k:Nat):Int)<2^n:=by
    have h:((d ||| 2^UU (quB n a b c d) n k:Nat):Int)<((2^n:Nat):Int):=Int.ofNat_lt.2 hol
    rwa [hpn] at h
   have Xp0:orQ n a b c U O (orS n a b c U O) d Z k=none-> ∀j,j<k+1->orQ n a b c U O (orS n a b c U O) d Z j=none:=by
    intro h1 j h2;rcases (show j=k\/j<k by omega) with rfl|h3
    ·exact h1
    ·exact x2 j h3
   have hQe:orQ n a b c U O (orS n a b c U O) d Z k=(if max Z (U (UU (quB n a b c d) n k))>O (UU (quB n a b c d) n k) then none else match orS n a b c U O (d ||| 2^UU (quB n a b c d) n k) (max Z (U (UU (quB n a b c d) n k))) with
     |some l=>some (l++[(UU (quB n a b c d) n k,max Z (U (UU (quB n a b c d) n k)))])
     |none=>none):=rfl
   have eO: ¬max Z (U (UU (quB n a b c d) n k))>O (UU (quB n a b c d) n k)->(orS n a b c U O (d ||| 2^UU (quB n a b c d) n k) (max Z (U (UU (quB n a b c d) n k)))).isSome=true->
     (orS n a b c U O d Z).isSome=true/\orG n a b c U O d Z=orG n a b c U O (d ||| 2^UU (quB n a b c d) n k) (max Z (U (UU (quB n a b c d) n k)))++[(UU (quB n a b c d) n k,max Z (U (UU (quB n a b c d) n k)))]:=by
    intro h1 h2;obtain ⟨l,hl⟩:=Option.isSome_iff_exists.1 h2;rw [if_neg h1,hl] at hQe;have h3:orS n a b c U O d Z=some (l++[(UU (quB n a b c d) n k,max Z (U (UU (quB n a b c d) n k)))]):=by
     rw [BR];exact NT (q:=k) hQe (Ao _) VL (λj _ h4=>x2 j h4)
    unfold orG;rw [h3,hl];exact ⟨rfl,rfl⟩
   have hk1:k+1<=quN n a b c d:=hlt;have hc1: ∀x:Int,∀(j:Nat),j<1-> ∀y,y∈U8 1 [iI x] j->AV.one y=true:=λx j _ y hy=>FD hy (by simp [AV.one,Value.oneCell'])
   have hGl:=t9 n a b c U O (d ||| 2^UU (quB n a b c d) n k) (max Z (U (UU (quB n a b c d) n k)))
   have hoL: ∀l:List (Nat×Int),(orL l).length=l.length:=λl=>by simp [orL]
   refine ⟨λh=>?_,λh=>?_⟩
   ·have hno:orQ n a b c U O (orS n a b c U O) d Z k=none:=by
     rw [hQe,if_pos h]
    exact ⟨⟨λ_ _=>trivial,λ_ h=>h,λ_ _=>trivial⟩,hk1,Xp0 hno⟩
   ·refine ⟨⟨⟨VL,VL⟩,by simp only [VN,Int.one_mul];omega⟩,⟨λ_ h=>h,mQ _ _,mQ _ _,⟨VL,Qm3⟩,VL,⟨VL,VL⟩,BM⟩,λh2=>?_,λh2=>?_⟩
    ·obtain ⟨g1,g2⟩:=eO VL h2;rw [g2];have hln:(ord++orL (orG n a b c U O (d ||| 2^UU (quB n a b c d) n k) (max Z (U (UU (quB n a b c d) n k))))).length<=2000:=by
      rw [Be,hoL];omega
     have hap:ord++orL (orG n a b c U O (d ||| 2^UU (quB n a b c d) n k) (max Z (U (UU (quB n a b c d) n k)))++[(UU (quB n a b c d) n k,max Z (U (UU (quB n a b c d) n k)))])=(ord++orL (orG n a b c U O (d ||| 2^UU (quB n a b c d) n k) (max Z (U (UU (quB n a b c d) n k)))))++[((UU (quB n a b c d) n k:Nat):Int)]:=by
      rw [Xb5,List.append_assoc]
     have hdy:dyU (orG n a b c U O (d ||| 2^UU (quB n a b c d) n k) (max Z (U (UU (quB n a b c d) n k)))++[(UU (quB n a b c d) n k,max Z (U (UU (quB n a b c d) n k)))]) dy=US (UU (quB n a b c d) n k) (max Z (U (UU (quB n a b c d) n k))) (dyU (orG n a b c U O (d ||| 2^UU (quB n a b c d) n k) (max Z (U (UU (quB n a b c d) n k)))) dy):=Qa9 _ _ _
     rw [hap,hdy];refine ⟨⟨VL,hc1 _⟩,?_⟩;have hin:(0<=((UU (quB n a b c d) n k:Nat):Int)/\((UU (quB n a b c d) n k:Nat):Int)<n):=⟨VL,by have:=hs.1;omega⟩
     have hrw: ∀j,j<((ord++orL (orG n a b c U O (d ||| 2^UU (quB n a b c d) n k) (max Z (U (UU (quB n a b c d) n k)))))++[((UU (quB n a b c d) n k:Nat):Int)]).length->j<(ord++orL (orG n a b c U O (d ||| 2^UU (quB n a b c d) n k) (max Z (U (UU (quB n a b c d) n k))))).length+1:=λj hj=>by
      rw [Be] at hj;simpa using hj
     (with_reducible repeat' first|apply Al|intro _)
     all_goals first|exact Ak|exact hin.1|exact hin.2|exact hs.1|(rename_i E hE;cases hE;exact hQ.1 g1)|rfl|exact Jf6 (hrw _ (by assumption))|exact uB|(rw [Be (bs:=[_])];rfl)|assumption
    ·have hno:orQ n a b c U O (orS n a b c U O) d Z k=none:=by
      rw [hQe,if_neg VL];cases ho:orS n a b c U O (d ||| 2^UU (quB n a b c d) n k) (max Z (U (UU (quB n a b c d) n k))) with
      |none=>rfl
      |some l=>rw [ho] at h2;cases h2
     exact ⟨⟨λ_ _=>trivial,λ_ h=>h,λ_ _=>trivial⟩,hk1,Xp0 hno⟩
  ·have hk:k=quN n a b c d:=VL;subst hk;simp only [Zk0,v6,VO.sat,GX] at hQ;refine hQ.2 ?_;rw [nG VV.1 Z UI.1,if_neg UI.2,dH.2 (λj _ hj=>hx.2 j VL)]
   rfl
theorem CW{x y:Nat}{t:List (Nat×Nat)}:N7 ((x,y)::t)=true↔x=y/\N7 t=true:=by
 show (match Nat.beq x y with|true=>N7 t|false=>false)=true↔_
 cases h:Nat.beq x y with
 |true=>simp [GY h]
 |false=>
  simp only [Bool.false_eq_true,false_iff,not_and];intro he;rw [he,Nat.beq_refl] at h;cases h
theorem CZ{m:H0}{p:Nat×GQ}(h:p∈nL m):p∈m/\Xd2 p.2=false:=by
 induction m with
 |nil=>cases h
 |cons q t ih=>
  obtain ⟨k,r⟩:=q;unfold nL at h;split at h
  ·exact ⟨HP _ (ih h).1,(ih h).2⟩
  ·rename_i hb;rcases GM.1 h with rfl|h
   ·exact ⟨GI,hb⟩
   ·exact ⟨HP _ (ih h).1,(ih h).2⟩
theorem L3{m:H0}{id:Nat}{p:Nat×GQ}(h:p∈j6 m id):p∈m/\p.1≠id:=by
 induction m with
 |nil=>cases h
 |cons q t ih=>
  obtain ⟨k,r⟩:=q;unfold j6 at h;split at h
  ·exact ⟨HP _ (ih h).1,(ih h).2⟩
  ·rename_i hb;rcases GM.1 h with rfl|h
   ·refine ⟨GI,?_⟩;rintro rfl;simp at hb
   ·exact ⟨HP _ (ih h).1,(ih h).2⟩
theorem Qi6{e:UM}{w:World}{id o n:Nat}{f:Nat->List AV}(h:Jk4 e w id o 3 1 n f)(hr:UG 1 n f):w.ownsRow 0 3 1 (e.val id) n ((x8 n f).map (Value.int .i64)):=by
 obtain ⟨h2,hf,xs,h3,h4⟩:=h;have hx:xs=(x8 n f).map (Value.int .i64):=by
  apply List.ext_getElem?;intro j;unfold x8;have hl:xs.length=n*1:=h3.1;rcases An j n with hj|hj
  ·have hx:xs[j]? =some xs[j]:=HZ VL;have e1:(f j)[0]? =some (iI (col 0 f j)):=by
    rw [hr j hj];rfl
   have:=h4 j 0 _ xs[j] hj e1 (by rw [show j*1+0=j by omega];exact hx)
   rw [hx,this.x_inv];simp [hj]
  ·rw [Br VL,Br (by simp;omega)]
 subst hx;exact h3
theorem qD{e:UM}{w:World}{id n:Nat}{f:Nat->List AV}(h:GH e w id (.row 3 1 n f))(hr:UG 1 n f):w.ownsRow 0 3 1 (e.val id) n ((x8 n f).map (Value.int .i64)):=Qi6 (o:=id) h.2 hr
theorem sZ(n:Nat)(f:Nat->Int):x8 n (λj=>[i (f j)])=(List.range n).map f:=rfl
theorem xD{e:UM}{w:World}{id n:Nat}{f:Nat->Int}{ov:Value}{l:List Int}(hl:e.live id)(hv:e.val id=ov)(hob: ∀x,ov.ownBlock=some x->e.own x=some id)(HW:l.length=n)(hf: ∀j,j<n->l[j]? =some (f j))(ho:w.ownsRow 0 3 1 ov n (l.map (Value.int .i64))):GH e w id (.row 3 1 n (λj=>[i (f j)])):=by
 subst hv;refine ⟨hl,hob,λi O=>⟨rfl,λa ha=>by rw [B7.1 ha];exact .x _⟩,_,ho,λi j a v O ha hv=>?_⟩
 cases j with
 |zero=>
  simp only [List.getElem?_cons_zero,HD] at ha;subst ha;rw [show i*1+0=i by omega,Bn,hf i O] at hv
  simp only [Bs,HD] at hv;rw [←hv];exact .x _
 |succ j=>simp at ha
theorem tD{l:List Int}{j:Nat}(h:j<l.length):l[j]? =some (U9 l j):=by
 rw [CX h,HZ h]
theorem AT{n:Nat}{f:Nat->Int}{j:Nat}(h:j<n):((List.range n).map f)[j]? =some (f j):=by
 rw [Bn,List.getElem?_range h];rfl
abbrev LR(b:Nat):Value:= .pointer (some ⟨b,0,none⟩)
abbrev Zd8(bk bg bf bo bd:Nat):Value:= .func (.func 237) #[] #[LR bk,LR bg,LR bf,LR bo,LR bd]
def Qg4(n:Nat)(a b c U O:Nat->Int)(N:Nat):Prop:= ∀(ea la:AV) (d:Nat) (Z:Int) (ord:List Int) (dy:Nat->Int) (oa:Option Addr) (ol oc:Nat) (da:Option Addr) (dl dc:Nat),d<2^n->2^n-d<=N->(0<=Z/\Z<=100)->ord.length<=1000->
 Ww9 VQ 237 [.agg [i d,i Z],.ptr 0 0,.ptr 1 0,.ptr 2 0,.ptr 3 0,.ptr 4 0] (OM n a b c U O ea la d Z ord dy oa ol oc da dl dc) 901 [[.ptr 0 0,.ptr 1 0,.ptr 2 0,.ptr 3 0,.ptr 4 0]] (OT_ n a b c U O ea la d Z ord dy oa ol oc da dl dc (orG n a b c U O d Z)) (OF_ n a b c U O ea la d Z ord dy oa ol oc da dl dc) (orS n a b c U O d Z).isSome
theorem sQ{w:World}{ov:Value}{n:Nat}{xs:List Value}(h:w.ownsRow 0 3 1 ov n xs){b:Nat}(hb:ov.ownBlock=some b):b<w.heap.size:=(h.lt b hb).2
theorem Wa5{n:Nat}{a b c U O:Nat->Int}{N:Nat}(hs:Qg4 n a b c U O N){d:Nat}{Z:Int}{ord:List Int}{dy:Nat->Int}(h1:d<2^n)(h2:2^n-d<=N)(h3:0<=Z/\Z<=100)(h4:ord.length<=1000)
  {w:World}{bk bg bf bo bd bm:Nat}{rb dv ov:Value}{ea la:AV}{R:UM}{es:Array MapEntry}{cn:Nat}(hgl:DD R w)
  (hk:w.heap[bk]? =some (.cells #[rb] 134 (0,0)))(hg:w.heap[bg]? =some (.cells #[.map (some bm)] 340 (0,0)))(hf:w.heap[bf]? =some (.cells #[Zd8 bk bg bf bo bd] 341 (0,0)))(hdb:w.heap[bd]? =some (.cells #[dv] 22 (0,0)))
  (ho:w.heap[bo]? =some (.cells #[ov] 22 (0,0)))(hm:w.heap[bm]? =some (.map es cn))(hes: ∀x∈es.toList,orH n a b c U O x.key/\x.val=orV x.key)
  (EE:w.ownsRow 0 3 1 ov ord.length (ord.map (Value.int .i64)))(Xp1:w.ownsRow 0 3 1 dv n (((List.range n).map dy).map (Value.int .i64)))(hov: ∃p q r,ov= .slice p q r)(hdv: ∃p q r,dv= .slice p q r)
  (hobm:bo≠bm)(hobd:bo≠bd)(hmbd:bm≠bd)(hoo: ∀x,ov.ownBlock=some x->x≠bo/\x≠bm/\x≠bd/\dv.ownBlock≠some x)(hdo: ∀x,dv.ownBlock=some x->x≠bo/\x≠bm/\x≠bd)
  (hR:Rep R w (.ro [i 4,i 10,sls n a b c U O,ea,la]) rb)(hro: ∀x,R.ro x->x<w.heap.size/\x≠bo/\x≠bm/\x≠bd/\ov.ownBlock≠some x/\dv.ownBlock≠some x)(rk:R.ro bk)(rg:R.ro bg)(rf:R.ro bf):
  Calls Tryz.prog 237 #[.agg #[.int .i64 d,.int .i64 Z],LR bk,LR bg,LR bf,LR bo,LR bd] w λen w1=>en= .returned (.bool (orS n a b c U O d Z).isSome)/\w.heap.size<=w1.heap.size/\w1.os=w.os/\w1.tape=w.tape/\w1.output=w.output/\
   (∀x,x<w.heap.size->x≠bo->x≠bm->ov.ownBlock≠some x->dv.ownBlock≠some x->w1.heap[x]? =w.heap[x]?)/\(∃(es':Array MapEntry) (c':Nat),w1.heap[bm]? =some (.map es' c')/\ ∀x∈es'.toList,orH n a b c U O x.key/\x.val=orV x.key)/\
   ((orS n a b c U O d Z).isSome=false->w1.heap[bo]? =some (.cells #[ov] 22 (0,0))/\w1.ownsRow 0 3 1 ov ord.length (ord.map (Value.int .i64))/\w1.ownsRow 0 3 1 dv n (((List.range n).map dy).map (Value.int .i64)))/\
   ((orS n a b c U O d Z).isSome=true-> ∃y',w1.heap[bo]? =some (.cells #[y'] 22 (0,0))/\(∃p q r,y'= .slice p q r)/\w1.ownsRow 0 3 1 y' (ord++orL (orG n a b c U O d Z)).length ((ord++orL (orG n a b c U O d Z)).map (Value.int .i64))/\
    (∀x,y'.ownBlock=some x->w.heap.size<=x\/ov.ownBlock=some x)/\w1.ownsRow 0 3 1 dv n (((List.range n).map (dyU (orG n a b c U O d Z) dy)).map (Value.int .i64))):=by
 have hob:=(P7.1 ho).1;have hmb:=(P7.1 hm).1;have hbb:=(P7.1 hdb).1;obtain ⟨oa,ol,oc,hov⟩:=hov;obtain ⟨da,dl,dc,hdv⟩:=hdv
 let e0:UM:={ro:=λx=>x<w.heap.size/\x≠bo/\x≠bm/\x≠bd/\ov.ownBlock≠some x/\dv.ownBlock≠some x,own:=λx=>if x=bo then some 3 else if x=bm then some 5 else if x=bd then some 4 else if ov.ownBlock=some x then some 900 else if dv.ownBlock=some x then some 7 else none,live:=λk=>k<901,blk:=λk=>if k=0 then bk else if k=1 then bg else if k=2 then bf else if k=3 then bo else if k=4 then bd else bm,val:=λk=>if k=7 then dv else ov}
 let c0:Cx:={M:=λ_=>False,Φ:=λ_ _ _=>True,K:=λx o=>e0.ro x/\w.heap[x]? =some o,saved:=[[LR bk,LR bg,LR bf,LR bo,LR bd]],sz:=w.heap.size}
 let w00:World:={w with heap:=#[] }
 have Wj1: ∀x,R.ro x->e0.ro x:=λx hx=>hro x hx
 have o3:e0.own bo=some 3:=if_pos rfl;have o5:e0.own bm=some 5:=by simp [e0,Ne.symm hobm]
 have o4:e0.own bd=some 4:=by simp [e0,Ne.symm hobd,Ne.symm hmbd]
 have o9: ∀x,ov.ownBlock=some x->e0.own x=some 900:=by
  intro x hx;obtain ⟨q1,q2,q2',q3⟩:=hoo x hx;simp [e0,q1,q2,q2',hx]
 have o7: ∀x,dv.ownBlock=some x->e0.own x=some 7:=by
  intro x hx;obtain ⟨q1,q2,q2'⟩:=hdo x hx;have q3:ov.ownBlock≠some x:=λh=>(hoo x h).2.2.2 hx
  simp [e0,q1,q2,q2',q3,hx]
 have hE:UY e0 w00.heap.size w:=by
  refine ⟨λx hx=>?_,λx k hk=>⟨Ao _,?_⟩,λq p hp=>?_⟩
  ·obtain ⟨q0,q1,q2,q2',q3,q4⟩:=hx;exact ⟨by simp [e0,q1,q2,q2',q3,q4],q0⟩
  ·have hk:(if x=bo then some 3 else if x=bm then some 5 else if x=bd then some 4 else if ov.ownBlock=some x then some 900 else if dv.ownBlock=some x then some 7 else none)=some k:=hk
   split at hk
   ·rename_i h;rw [h];exact hob
   split at hk
   ·rename_i h;rw [h];exact hmb
   split at hk
   ·rename_i h;rw [h];exact hbb
   split at hk
   ·rename_i h;exact sQ EE h
   split at hk
   ·rename_i h;exact sQ Xp1 h
   ·cases hk
  ·obtain ⟨q1,q2⟩:=hgl q p hp;exact ⟨Wj1 _ q1,q2⟩
 have p0:Rep e0 w (.ptr 0 0) (LR bk):= .ptr 0 0 (show 0<901 by omega)
 have p1:Rep e0 w (.ptr 1 0) (LR bg):= .ptr 1 0 (show 1<901 by omega)
 have p2:Rep e0 w (.ptr 2 0) (LR bf):= .ptr 2 0 (show 2<901 by omega)
 have p3:Rep e0 w (.ptr 3 0) (LR bo):= .ptr 3 0 (show 3<901 by omega)
 have p4:Rep e0 w (.ptr 4 0) (LR bd):= .ptr 4 0 (show 4<901 by omega)
 have p9:Rep e0 w (.row 900) ov:=by
  rw [hov];exact .row 900 _ _ _ (show 900<901 by omega) hov
 have p7:Rep e0 w (.row 7) dv:=by
  rw [hdv];exact .row 7 _ _ _ (show 7<901 by omega) hdv
 have p5:Rep e0 w (.mp 5) (.map (some bm)):= .mp 5 (show 5<901 by omega)
 have yM:U3 e0 w [.ptr 0 0,.ptr 1 0,.ptr 2 0,.ptr 3 0,.ptr 4 0] [LR bk,LR bg,LR bf,LR bo,LR bd]:= .cons p0 (.cons p1 (.cons p2 (.cons p3 (.cons p4 (.nil _ _)))));have hfn:Rep e0 w (.fn (.func 237) [] [.ptr 0 0,.ptr 1 0,.ptr 2 0,.ptr 3 0,.ptr 4 0]) (Zd8 bk bg bf bo bd):= .fn _ [] _ [] _ rfl (λi a v h=>by simp at h) yM.1 yM.2
 have hrb:Rep e0 w (.ro [i 4,i 10,sls n a b c U O,ea,la]) rb:=by
  refine Rep.idf (e:=R) (e':=e0) Wj1 hR ?_;cases hR with
  |ro l vs b' o' g1 g2 g3 g4 g5 g6=>exact .ro _ g3
 have hM:UW e0 (OM n a b c U O ea la d Z ord dy oa ol oc da dl dc) w:=by
  intro p hp;unfold OM at hp;simp only [GM,DL,or_false] at hp;rcases hp with rfl|rfl|rfl|rfl|rfl|rfl|rfl|rfl|rfl|rfl
  ·exact ⟨show 3<901 by omega,o3,[ov],ho,.cons p9 (.nil _ _)⟩
  ·exact ⟨show 3<901 by omega,o3,[ov],ho,.cons (by rw [hov];exact .x _) (.nil _ _)⟩
  ·exact xD (show 900<901 by omega) rfl o9 rfl (λj hj=>tD hj) EE
  ·exact ⟨show 5<901 by omega,o5,es,cn,hm,hes⟩
  ·exact xD (show 7<901 by omega) rfl o7 VW (λj hj=>AT hj) Xp1
  ·exact ⟨show 0<901 by omega,Wj1 _ rk,(hro _ rk).1,[rb],hk,.cons hrb (.nil _ _)⟩
  ·exact ⟨show 1<901 by omega,Wj1 _ rg,(hro _ rg).1,[.map (some bm)],hg,.cons p5 (.nil _ _)⟩
  ·exact ⟨show 2<901 by omega,Wj1 _ rf,(hro _ rf).1,[Zd8 bk bg bf bo bd],hf,.cons hfn (.nil _ _)⟩
  ·exact ⟨show 4<901 by omega,o4,[dv],hdb,.cons p7 (.nil _ _)⟩
  ·exact ⟨show 4<901 by omega,o4,[dv],hdb,.cons (by rw [hdv];exact .x _) (.nil _ _)⟩
 have hX:Xt c0 e0 [[.ptr 0 0,.ptr 1 0,.ptr 2 0,.ptr 3 0,.ptr 4 0]] [] w:=
  ⟨⟨λd hd=>(by cases hd),List.nodup_nil⟩,λx o hk=>⟨hk.1,hk.1.1,hk.2⟩,L6.cons yM ⟨rfl,λi a v h=>by simp at h⟩,Am _⟩
 have hA:U3 e0 w [.agg [i d,i Z],.ptr 0 0,.ptr 1 0,.ptr 2 0,.ptr 3 0,.ptr 4 0] [.agg #[.int .i64 d,.int .i64 Z],LR bk,LR bg,LR bf,LR bo,LR bd]:= .cons (Rep.aggL (.cons (.x _) (.cons (.x _) (.nil _ _)))) yM;have FC:=hs ea la d Z ord dy oa ol oc da dl dc h1 h2 h3 h4 c0 w00 (λ_=>False) e0 _ w hE ⟨rfl,rfl,rfl,Ao _,λk hk=>absurd hk (Aq _)⟩ hM (λk hk=>hk) (λ_ h=>h.elim) hX rfl hA
 refine FC.mono ?_;rintro en w1 ⟨hen,e1,g1,g2,g3,g4,_,g6⟩;have hsz:w.heap.size<=w1.heap.size:=g6.size;have NM: ∀x,x<w.heap.size->x≠bo->x≠bm->x≠bd->ov.ownBlock≠some x->dv.ownBlock≠some x->e1.ro x/\w1.heap[x]? =w.heap[x]? :=by
  intro x hx n1 n2 n2' n3 n4;have hk:=g6.kept x w.heap[x] ⟨⟨hx,n1,n2,n2',n3,n4⟩,by simp [hx]⟩
  exact ⟨hk.1,by rw [hk.2.2];simp [hx]⟩
 have keptR: ∀x,R.ro x->w1.heap[x]? =w.heap[x]? :=λx hx=>(NM x (hro x hx).1 (hro x hx).2.1 (hro x hx).2.2.1 (hro x hx).2.2.2.1 (hro x hx).2.2.2.2.1 (hro x hx).2.2.2.2.2).2
 have hsv:(cond (orS n a b c U O d Z).isSome (OT_ n a b c U O ea la d Z ord dy oa ol oc da dl dc (orG n a b c U O d Z)) (OF_ n a b c U O ea la d Z ord dy oa ol oc da dl dc)).sv=[[.ptr 0 0,.ptr 1 0,.ptr 2 0,.ptr 3 0,.ptr 4 0]]:=by
  cases (orS n a b c U O d Z).isSome<;>rfl
 have hsd:=g6.saved;rw [hsv] at hsd;have hs1:=hsd.2 0 _ _ rfl rfl;obtain ⟨v0,l0,q,r0,hs1⟩:=hs1.cons_inv;obtain ⟨rfl,rfl⟩:=List.cons.inj q;obtain ⟨v1,l1,q,r1,hs1⟩:=hs1.cons_inv;obtain ⟨rfl,rfl⟩:=List.cons.inj q;obtain ⟨v2,l2,q,r2,hs1⟩:=hs1.cons_inv;obtain ⟨rfl,rfl⟩:=List.cons.inj q;obtain ⟨v3,l3,q,r3,hs1⟩:=hs1.cons_inv;obtain ⟨rfl,rfl⟩:=List.cons.inj q;obtain ⟨v4,l4,q,r4,_⟩:=hs1.cons_inv;obtain ⟨rfl,rfl⟩:=List.cons.inj q;have ptr_inv: ∀{k x:Nat},Rep e1 w1 (.ptr k 0) (LR x)->e1.blk k=x:=by
  intro k x h;cases h;rfl
 have b1:=ptr_inv r1;have b3:=ptr_inv r3;have b4:=ptr_inv r4;have uX: ∀p,(p∈(OT_ n a b c U O ea la d Z ord dy oa ol oc da dl dc (orG n a b c U O d Z)).m/\p∈(OF_ n a b c U O ea la d Z ord dy oa ol oc da dl dc).m)->GH e1 w1 p.1 p.2:=by
  intro p hp;refine g3 p ?_;cases (orS n a b c U O d Z).isSome
  ·exact hp.2
  ·exact hp.1
 -- the days' row and the map bear their numbers still
 have hbd:w1.heap[bd]? =some (.cells #[dv] 22 (0,0)):=by
  obtain ⟨_,_,vs,q1,q2⟩:=uX (4,.cells 22 [.x (.slice da dl dc)]) ⟨by simp [OT_],by simp [OF_]⟩
  obtain ⟨x,xs,rfl,t1,q2⟩:=q2.cons_inv;obtain rfl:=q2.nil_inv;rw [b4,t1.x_inv,←hdv] at q1;exact q1
 have b7:e1.val 7=dv:=by
  obtain ⟨_,_,vs,q1,q2⟩:=uX (4,.cells 22 [.row 7]) ⟨by simp [OT_],by simp [OF_]⟩
  obtain ⟨x,xs,rfl,t1,q2⟩:=q2.cons_inv;obtain rfl:=q2.nil_inv;rw [b4,hbd] at q1;simp only [HD,Obj.cells.injEq] at q1;have:dv=x:=by simpa using q1.1
  subst this;clear q1 hbd;generalize dv=z at t1;cases t1 with
  |row _ a n c _ hv=>exact hv
 have hsm: ∀x,x<w.heap.size->x≠bo->x≠bm->ov.ownBlock≠some x->dv.ownBlock≠some x->w1.heap[x]? =w.heap[x]? :=by
  intro x hx n1 n2 n3 n4;rcases Classical.em (x=bd) with rfl|n5
  ·rw [hbd,hdb]
  ·exact (NM x hx n1 n2 n5 n3 n4).2
 have b5:e1.blk 5=bm:=by
  obtain ⟨_,_,_,vs,q1,q2⟩:=uX (1,.keep 340 [.mp 5]) ⟨by simp [OT_],by simp [OF_]⟩
  obtain ⟨x,xs,rfl,t1,q2⟩:=q2.cons_inv;obtain rfl:=q2.nil_inv;rw [b1,keptR _ rg,hg] at q1;simp only [HD,Obj.cells.injEq] at q1;have:Value.map (some bm)=x:=by simpa using q1.1
  subst this;cases t1;rfl
 have Jc3: ∃(es':Array MapEntry) (c':Nat),w1.heap[bm]? =some (.map es' c')/\ ∀x∈es'.toList,orH n a b c U O x.key/\x.val=orV x.key:=by
  obtain ⟨_,_,es',c',q1,q2⟩:=uX (5,.memo (orH n a b c U O) orV) ⟨by simp [OT_],by simp [OF_]⟩
  rw [b5] at q1;exact ⟨es',c',q1,q2⟩
 refine ⟨hen,hsz,g2.os,g2.tape,g2.output,hsm,Jc3,λhb=>?_,λhb=>?_⟩
 ·rw [hb] at g3;have k3:=g3 (3,.cells 22 [.row 900]) (by simp [OF_])
  have k3':=g3 (3,.cells 22 [.x (.slice oa ol oc)]) (by simp [OF_])
  have k9:=g3 (900,.row 3 1 ord.length (λj=>[i (U9 ord j)])) (by simp [OF_])
  have k7:=g3 (7,.row 3 1 n (λj=>[i (dy j)])) (by simp [OF_])
  obtain ⟨_,_,vs,q1,q2⟩:=k3';obtain ⟨x,xs,rfl,t1,q2⟩:=q2.cons_inv;obtain rfl:=q2.nil_inv;have hx:x=ov:=by rw [hov];exact t1.x_inv
  subst hx;have q1':w1.heap[e1.blk 3]? =some (.cells #[x] 22 (0,0)):=q1;rw [b3] at q1';have h9:e1.val 900=x:=by
   obtain ⟨_,_,vs,u1,u2⟩:=k3;obtain ⟨y,ys,rfl,t2,u2⟩:=u2.cons_inv;obtain rfl:=u2.nil_inv;have u1':w1.heap[e1.blk 3]? =some (.cells #[y] 22 (0,0)):=u1;rw [b3,q1'] at u1';simp only [HD,Obj.cells.injEq] at u1';have:x=y:=by simpa using u1'.1
   subst this;clear q1' u1' q1 u1 t1;generalize x=z at t2;cases t2 with
   |row _ a n c _ hv=>exact hv
  have r9:=qD k9 (mQ _ _);have r7:=qD k7 (mQ _ _);rw [h9,SJ] at r9;rw [b7,sZ] at r7;exact ⟨q1',r9,r7⟩
 ·rw [hb] at g3;have k3:=g3 (3,.cells 22 [.row 900]) (by simp [OT_])
  have k9:=g3 (900,.row 3 1 (ord++orL (orG n a b c U O d Z)).length (λj=>[i (U9 (ord++orL (orG n a b c U O d Z)) j)])) (by simp [OT_])
  have k7:=g3 (7,.row 3 1 n (λj=>[i (dyU (orG n a b c U O d Z) dy j)])) (by simp [OT_])
  have k5:=g3 (5,.memo (orH n a b c U O) orV) (by simp [OT_])
  have o3':=k3.2.1;rw [b3] at o3';have o5':=k5.2.1;rw [b5] at o5';obtain ⟨_,_,vs,q1,q2⟩:=k3;obtain ⟨y,ys,rfl,t1,q2⟩:=q2.cons_inv;obtain rfl:=q2.nil_inv;have q1':w1.heap[e1.blk 3]? =some (.cells #[y] 22 (0,0)):=q1;rw [b3] at q1';have hy:(∃p q r,y= .slice p q r)/\e1.val 900=y:=by
   cases t1 with
   |row _ a n c _ hv=>exact ⟨⟨a,n,c,rfl⟩,hv⟩
  have r9:=qD k9 (mQ _ _);have r7:=qD k7 (mQ _ _);rw [hy.2,SJ] at r9;rw [b7,sZ] at r7;refine ⟨y,q1',hy.1,r9,λz hz=>?_,r7⟩
  rcases An z w.heap.size with hlt|hge
  ·refine .inr ?_;have hoz:e1.own z=some 900:=k9.2.1 z (by show (e1.val 900).ownBlock=some z;rw [hy.2];exact hz)
   refine Classical.byContradiction λn3=>?_
   have n1:z≠bo:=by
    rintro rfl;rw [o3'] at hoz;cases hoz
   have n2:z≠bm:=by
    rintro rfl;rw [o5'] at hoz;cases hoz
   have n4:dv.ownBlock≠some z:=by
    intro h;have:=k7.2.1 z (by show (e1.val 7).ownBlock=some z;rw [b7];exact h)
    rw [this] at hoz;cases hoz
   have n5:z≠bd:=by
    rintro rfl;have:=(g3 (4,.cells 22 [.row 7]) (by simp [OT_])).2.1
    rw [b4] at this;rw [this] at hoz;cases hoz
   have hk:=NM z hlt n1 n2 n5 n3 n4;rw [(g1.apart z hk.1).1] at hoz;cases hoz
  ·exact .inl hge
theorem LH{e e':UM}{w w1:World}{id:Nat}{r:GQ}(st:Step e e' w w1)(H5: ∀x,e.own x=some id->e'.own x=some id/\w1.heap[x]? =w.heap[x]?)(hna:Xd2 r=false)(h:GH e w id r):GH e' w1 id r:=by
 cases r with
 |cells T l=>
  obtain ⟨h1,h2,vs,h3,h4⟩:=h;obtain ⟨l1,l2,l3⟩:=st.live id h1;obtain ⟨k1,k2⟩:=H5 _ h2;exact ⟨l1,by rw [l2];exact k1,vs,by rw [l2,k2];exact h3,h4.step st⟩
 |ints T pre n f=>
  obtain ⟨h1,h2,vs,h3,h4⟩:=h;obtain ⟨l1,l2,l3⟩:=st.live id h1;obtain ⟨k1,k2⟩:=H5 _ h2;exact ⟨l1,by rw [l2];exact k1,vs,by rw [l2,k2];exact h3,h4.step st⟩
 |memo g f=>
  obtain ⟨h1,h2,es,c,h3,h4⟩:=h;obtain ⟨l1,l2,l3⟩:=st.live id h1;obtain ⟨k1,k2⟩:=H5 _ h2;exact ⟨l1,by rw [l2];exact k1,es,c,by rw [l2,k2];exact h3,h4⟩
 |keep T l=>exact LE st h
 |aka _ _ _ _ _=>cases hna
 |row T sz n f=>
  obtain ⟨h1,h2,hf,ys,h3,h4⟩:=h;obtain ⟨l1,l2,l3⟩:=st.live id h1;refine ⟨l1,λx hx=>(H5 _ (h2 x (by rw [←l3];exact hx))).1,hf,ys,?_,λi j a v O ha hv=>(h4 i j a v O ha hv).step st⟩
  rw [l3];refine ⟨h3.1,h3.2.imp (λh=>h) ?_⟩
  rintro ⟨g',cap',cur',hv,hg,hh,rest⟩;exact ⟨g',cap',cur',hv,hg,(H5 g' (h2 g' (by rw [hv];rfl))).2.trans hh,rest⟩
theorem EK{e:UM}{w:World}{id n:Nat}{g:Nat->List AV}{ov:Value}(hr:UG 1 n g)(hl:e.live id)(hv:e.val id=ov)(hob: ∀x,ov.ownBlock=some x->e.own x=some id)(ho:w.ownsRow 0 3 1 ov n (((List.range n).map (col 0 g)).map (Value.int .i64))):GH e w id (.row 3 1 n g):=by
 have h:=xD (f:=col 0 g) hl hv hob VW (λj hj=>AT hj) ho
 obtain ⟨h1,h2,h3,xs,h4,h5⟩:=h;refine ⟨h1,h2,λj hj=>?_,xs,h4,λi j a v O ha hv=>?_⟩
 ·rw [hr j hj];exact h3 j hj
 ·rw [hr i O] at ha;exact h5 i j a v O ha hv
theorem cD{n:Nat}{a b c U O:Nat->Int}{N:Nat}(hs:Qg4 n a b c U O N):GC VQ 237 (m6 n a b c U O N):=by
 refine ⟨(UJ Tryz.func237),?_⟩;intro avs m nx sv tr ht Q hQ cx w0 TT e ds args w hE hB hm hlv LN hxt hr;unfold m6 at ht;split at ht
 ·rename_i d Z k W g z1 f z2 o z3 dd z4;split at ht
  ·rename_i Tk c1 c2 sl ea la Tg mg Tf fg k' y0 g' y1 f' y2 o' y3 d' y4 To q Td r h1 h2 h3 h4 h5;split at ht
   ·rename_i hh ff T1 s1 k1 g1 T2 s2 k2 g2 h6 h7 h8;split at ht
    ·rename_i hb;rw [HA] at hb;obtain ⟨hb1,hb2⟩:=hb;simp only [CW] at hb1;obtain ⟨rfl,rfl,rfl,rfl,rfl,rfl,rfl,rfl,rfl,rfl,rfl,rfl,rfl,rfl,rfl,rfl,rfl,rfl,rfl,rfl,rfl,rfl,rfl,rfl,rfl,_⟩:=hb1;rw [HA] at hb2;have hqr:q≠r:=by
      rintro rfl;simp at hb2
     have hod:o≠dd:=by
      rintro rfl;simp at hb2
     cases ht;obtain ⟨hn,hq⟩:=VO.sat_needT hQ;have hn:=GE hn;have n1:c1=i 4:=hn _ VW;have n2:c2=i 10:=hn _ VW;have n3:sl=sls n a b c U O:=hn _ VW;have n4: ∀x,hh x->orH n a b c U O x/\ff x=orV x:=hn _ VW;have n6:UG 1 k1 g1:=hn _ VW;have n7:UG 1 k2 g2:=hn _ VW;have n8:k2=n:=hn _ VW;have n9:0<=d/\d<2^n:=hn _ VW;have n10:2^n-d.toNat<=N:=hn _ VW;have n11:0<=Z/\Z<=100:=hn _ VW;have n12:k1<=1000:=hn _ VW;clear hn hQ;subst n1 n2 n3 n8;obtain ⟨d,rfl⟩: ∃d':Nat,d=d':=⟨d.toNat,VL⟩;simp only [FF] at hq n10;have hpn:((2^k2:Nat):Int)=2^k2:=VW;have hdn:d<2^k2:=by
      have h:=n9.2;rw [←hpn] at h;exact Int.ofNat_lt.1 h
     obtain ⟨v0,l1,rfl,r1,hr⟩:=hr.cons_inv;obtain ⟨v1,l1,rfl,r2,hr⟩:=hr.cons_inv;obtain ⟨v2,l2,rfl,r3,hr⟩:=hr.cons_inv;obtain ⟨v3,l3,rfl,r4,hr⟩:=hr.cons_inv;obtain ⟨v4,l4,rfl,r5,hr⟩:=hr.cons_inv;obtain ⟨v5,l5,rfl,r6,hr⟩:=hr.cons_inv;obtain rfl:=hr.nil_inv;obtain ⟨us,rfl,ru⟩:=r1.agg_inv;obtain ⟨u1,us1,rfl,q1,ru⟩:=ru.cons_inv;obtain ⟨u2,us2,rfl,q2,ru⟩:=ru.cons_inv;obtain rfl:=ru.nil_inv;obtain rfl:=q1.x_inv;obtain rfl:=q2.x_inv;have z: ∀{k:Nat} {x:Value},Rep e w (.ptr k 0) x->x=LR (e.blk k):=by
      intro k x h;cases h;rfl
     obtain rfl:=z r2;obtain rfl:=z r3;obtain rfl:=z r4;obtain rfl:=z r5;obtain rfl:=z r6;have m4:=UX h4;obtain ⟨_,ro1,_,vs1,hp1,e1⟩:=hm _ (UX h1);obtain ⟨rb,xs,rfl,t1,e1⟩:=e1.cons_inv;obtain rfl:=e1.nil_inv;obtain ⟨_,ro2,_,vs2,hp2,e2⟩:=hm _ (UX h2);obtain ⟨mv,xs,rfl,t2,e2⟩:=e2.cons_inv;obtain rfl:=e2.nil_inv;have hmv:mv= .map (some (e.blk mg)):=by
      cases t2;rfl
     subst hmv;obtain ⟨_,ro3,_,vs3,hp3,e3⟩:=hm _ (UX h3);obtain ⟨fv,xs,rfl,t3,e3⟩:=e3.cons_inv;obtain rfl:=e3.nil_inv;obtain ⟨us,us',rfl,t6,t7⟩:=t3.fn_inv;obtain rfl:=t6.nil_inv;obtain ⟨x1,xs,rfl,s1,t7⟩:=t7.cons_inv;obtain ⟨x2,xs,rfl,s2,t7⟩:=t7.cons_inv;obtain ⟨x3,xs,rfl,s3,t7⟩:=t7.cons_inv;obtain ⟨x4,xs,rfl,s4,t7⟩:=t7.cons_inv;obtain ⟨x5,xs,rfl,s5,t7⟩:=t7.cons_inv;obtain rfl:=t7.nil_inv;obtain rfl:=z s1;obtain rfl:=z s2;obtain rfl:=z s3;obtain rfl:=z s4;obtain rfl:=z s5;obtain ⟨live4,own4,vs4,hp4,e4⟩:=hm _ m4;obtain ⟨ov,xs,rfl,t4,e4⟩:=e4.cons_inv;obtain rfl:=e4.nil_inv;obtain ⟨_,own5,vs5,hp5,e5⟩:=hm _ (UX h5);obtain ⟨dv,xs,rfl,t5,e5⟩:=e5.cons_inv;obtain rfl:=e5.nil_inv;have hov:(∃p q r,ov= .slice p q r)/\e.val q=ov:=by
      cases t4 with
      |row _ a n c _ hv=>exact ⟨⟨a,n,c,rfl⟩,hv⟩
     have hdv:(∃p q r,dv= .slice p q r)/\e.val r=dv:=by
      cases t5 with
      |row _ a n c _ hv=>exact ⟨⟨a,n,c,rfl⟩,hv⟩
     obtain ⟨live6,own6,es,cn,hp6,hes0⟩:=hm _ (UX h6);have hes: ∀x∈es.toList,orH k2 a b c U O x.key/\x.val=orV x.key:=λx hx=>by
      obtain ⟨g1,g2⟩:=hes0 x hx;exact ⟨(n4 _ g1).1,by rw [g2,(n4 _ g1).2]⟩
     have H7:=hm _ (UX h7);have H8:=hm _ (UX h8);have R7:=qD H7 n6;have R8:=qD H8 n7;simp only at hp1 hp2 hp3 hp4 hp5 hp6 own4 own6 live4 live6 R7 R8 ro1 ro2 ro3 own5;rw [hov.2] at R7;rw [hdv.2] at R8;have own7: ∀x,ov.ownBlock=some x->e.own x=some q:=λx hx=>H7.2.1 x (by show (e.val q).ownBlock=some x;rw [hov.2];exact hx)
     have own8: ∀x,dv.ownBlock=some x->e.own x=some r:=λx hx=>H8.2.1 x (by show (e.val r).ownBlock=some x;rw [hdv.2];exact hx)
     have live7:e.live q:=H7.1;have live8:e.live r:=H8.1;have ho_q:o≠q:=by
      rintro rfl;rw [h7] at h4;cases h4
     have ho_r:o≠r:=by
      rintro rfl;rw [h8] at h4;cases h4
     have ho_m:o≠mg:=by
      rintro rfl;rw [h6] at h4;cases h4
     have hm_q:mg≠q:=by
      rintro rfl;rw [h7] at h6;cases h6
     have hm_r:mg≠r:=by
      rintro rfl;rw [h8] at h6;cases h6
     have hd_q:dd≠q:=by
      rintro rfl;rw [h7] at h5;cases h5
     have hd_r:dd≠r:=by
      rintro rfl;rw [h8] at h5;cases h5
     have hd_m:dd≠mg:=by
      rintro rfl;rw [h6] at h5;cases h5
     have dne: ∀{x y j j':Nat},e.own x=some j->e.own y=some j'->j≠j'->x≠y:=by
      rintro x y j j' hx hy hj rfl;rw [hx] at hy;exact hj (Bb hy)
     have HW:(x8 k1 g1).length=k1:=by simp [x8]
     have hro: ∀x,e.ro x->x<w.heap.size/\x≠e.blk o/\x≠e.blk mg/\x≠e.blk dd/\ov.ownBlock≠some x/\dv.ownBlock≠some x:=by
      intro x hx;obtain ⟨hx1,hx2⟩:=hE.apart x hx;have nx_: ∀{y j:Nat},e.own y=some j->x≠y:=by
       rintro y j hy rfl;rw [hx1] at hy;cases hy
      exact ⟨hx2,nx_ own4,nx_ own6,nx_ own5,λh=>(nx_ (own7 x h)) rfl,λh=>(nx_ (own8 x h)) rfl⟩
     have FC:=Wa5 hs (ord:=x8 k1 g1) (dy:=col 0 g2) hdn n10 n11 (by rw [HW];exact n12) (w:=w) (bk:=e.blk k) (bg:=e.blk g) (bf:=e.blk f) (bo:=e.blk o) (bd:=e.blk dd) (bm:=e.blk mg) (R:=e) hE.glob
      hp1 hp2 hp3 hp5 hp4 hp6 hes (by rw [HW];exact R7) R8 hov.1 hdv.1 (dne own4 own6 ho_m) (dne own4 own5 hod) (dne own6 own5 (Ne.symm hd_m)) (λx hx=>⟨dne (own7 x hx) own4 (Ne.symm ho_q),dne (own7 x hx) own6 (Ne.symm hm_q),dne (own7 x hx) own5 (Ne.symm hd_q),λh=>dne (own7 x hx) (own8 x h) hqr rfl⟩)
      (λx hx=>⟨dne (own8 x hx) own4 (Ne.symm ho_r),dne (own8 x hx) own6 (Ne.symm hm_r),dne (own8 x hx) own5 (Ne.symm hd_r)⟩) t1 hro ro1 ro2 ro3
     refine FC.mono ?_;rintro en w1 ⟨rfl,hsz,q1,q2,q3,zW,⟨es',c',hmp,hes'⟩,hF,hT⟩;rw [HW] at hF;have hlt: ∀{x j:Nat},e.own x=some j->w0.heap.size<=x:=λh=>(hE.owned _ _ h).1
     have hBel:Below w0.heap.size w0 w1:=by
      refine ⟨q1.trans hB.os,q2.trans hB.tape,q3.trans hB.output,Ar hB.size hsz,λx hx=>?_⟩
      have ne_: ∀{y j:Nat},e.own y=some j->x≠y:=λh he=>by have:=hlt h;omega
      rw [zW x (xO hx hB.size) (ne_ own4) (ne_ own6) (λh=>ne_ (own7 x h) rfl) (λh=>ne_ (own8 x h) rfl)]
      exact hB.block x hx
     have Xe4: ∀x,x<w.heap.size->e.ro x->w1.heap[x]? =w.heap[x]? :=λx hx hx2=>zW x hx (hro x hx2).2.1 (hro x hx2).2.2.1 (hro x hx2).2.2.2.2.1 (hro x hx2).2.2.2.2.2
     cases hb:(orS k2 a b c U O d Z).isSome with
     |false=>
      have hq:=hq.2 hb;obtain ⟨f1,f2,f3⟩:=hF hb;have st:Step e e w w1:=⟨λx hx hx2=>⟨hx2,Xe4 x hx hx2⟩,λ_ h=>⟨h,rfl,rfl⟩,hsz⟩
      refine ⟨_,_,_,_,_,e,rfl,hq,⟨λx hx=>⟨(hE.apart x hx).1,xO (hE.apart x hx).2 hsz⟩,λx j hx=>⟨(hE.owned x j hx).1,xO (hE.owned x j hx).2 hsz⟩,hE.glob.step st⟩,hBel,?_,hlv,LN,hxt.step st,.lit false⟩
      intro p hp;rcases FV hp with rfl|⟨hp,Zh3,_⟩
      ·exact ⟨live6,own6,es',c',hmp,hes'⟩
      rcases FV hp with rfl|⟨hp,vG,_⟩
      ·exact EK n7 live8 hdv.2 own8 f3
      rcases FV hp with rfl|⟨hp,Zh2,_⟩
      ·exact EK n6 live7 hov.2 own7 f2
      obtain ⟨hpm,hna⟩:=CZ hp;refine LH st (λx hx=>⟨hx,?_⟩) hna (hm p hpm)
      rcases Classical.em (x=e.blk o) with rfl|hxo
      ·rw [f1,hp4]
      ·exact zW x (hE.owned x _ hx).2 hxo (dne hx own6 Zh3) (λh=>dne hx (own7 x h) Zh2 rfl) (λh=>dne hx (own8 x h) vG rfl)
     |true=>
      have hq:=hq.1 hb;obtain ⟨y',t1,⟨ya,yn,yc,hy0⟩,t2,t3,t4⟩:=hT hb;have hid: ¬e.live nx:=λh=>Bf _ (hlv _ h)
      have hfr: ∀x j,e.own x=some j->j≠q->y'.ownBlock≠some x:=by
       intro x j hx hj h;rcases t3 x h with h|h
       ·have:=(hE.owned x j hx).2;omega
       ·exact dne hx (own7 x h) hj rfl
      have hfr2: ∀x,e.ro x->y'.ownBlock≠some x:=by
       intro x hx h;rcases t3 x h with h|h
       ·have:=(hro x hx).1;omega
       ·exact (hro x hx).2.2.2.2.1 h
      have H5: ∀x j,e.own x=some j->j≠q->(e.app nx y').own x=some j:=by
       intro x j hx hj;simp only [UM.app];rw [if_neg (hfr x j hx hj)];exact hx
      have st:Step e (e.app nx y') w w1:=⟨λx hx hx2=>⟨hx2,Xe4 x hx hx2⟩,λj hj=>⟨.inr hj,rfl,by
       have:j≠nx:=λh=>hid (h▸hj)
       simp [UM.app,this]⟩,hsz⟩
      have vne: ∀{j:Nat},e.live j->(e.app nx y').val j=e.val j:=λ{j} hj=>by
       have:j≠nx:=λh=>hid (h▸hj)
       simp [UM.app,this]
      refine ⟨_,_,_,_,_,e.app nx y',rfl,hq,⟨λx hx=>⟨?_,xO (hE.apart x hx).2 hsz⟩,λx j hx=>?_,hE.glob.step st⟩,hBel,?_,?_,LN,hxt.step st,.lit true⟩
      ·simp only [UM.app];rw [if_neg (hfr2 x hx)];exact (hE.apart x hx).1
      ·simp only [UM.app] at hx;split at hx
       ·rename_i hxb;refine ⟨?_,(t2.lt x hxb).2⟩;rcases t3 x hxb with h|h
        ·exact Ar hB.size h
        ·exact hlt (own7 x h)
       ·exact ⟨(hE.owned x j hx).1,xO (hE.owned x j hx).2 hsz⟩
      ·intro p hp;rcases GM.1 hp with rfl|hp
       ·exact xD (ov:=y') (.inl rfl) (by simp [UM.app]) (λx hx=>by simp [UM.app,hx]) rfl (λj hj=>tD hj) t2
       rcases FV hp with rfl|⟨hp,Zh3,_⟩
       ·exact ⟨.inr live6,H5 _ _ own6 hm_q,es',c',hmp,hes'⟩
       rcases FV hp with rfl|⟨hp,vG,_⟩
       ·exact xD (ov:=dv) (.inr live8) (by rw [vne live8];exact hdv.2) (λx hx=>H5 _ _ (own8 x hx) (Ne.symm hqr)) VW (λj hj=>AT hj) t4
       rcases FV hp with rfl|⟨hp,Zh2,_⟩
       ·refine ⟨.inr live4,H5 _ _ own4 ho_q,[y'],t1,.cons ?_ (.nil _ _)⟩;rw [hy0];exact .row nx _ _ _ (.inl rfl) (by simp [UM.app])
       obtain ⟨hp,Jc1⟩:=L3 hp;obtain ⟨hpm,hna⟩:=CZ hp;refine LH st (λx hx=>⟨H5 _ _ hx Jc1,?_⟩) hna (hm p hpm)
       exact zW x (hE.owned x _ hx).2 (dne hx own4 Zh2) (dne hx own6 Zh3) (λh=>dne hx (own7 x h) Jc1 rfl) (λh=>dne hx (own8 x h) vG rfl)
      ·rintro j (rfl|hj)
       ·exact Bk _
       ·exact Nat.lt_succ_of_lt (hlv j hj)
    ·cases ht
   ·cases ht
  ·cases ht
 ·cases ht
end Go.Proofs.YtakpdkmhclhlnaaGreatDoor.Hd
