/- Contracts, put together. Conditions: those of each. -/
import Derived.Test.YtakpdkmhclhlnaaGreatDoorMe
set_option linter.unusedSimpArgs false
set_option linter.unusedVariables false
set_option maxRecDepth 100000
namespace Go.Proofs.YtakpdkmhclhlnaaGreatDoor.Hd
open Go Go.Sx Go.RowKit Bo
open Go.Sx.VM (need branch leaf)
open Go.Sx.AV (lst ptr agg roI tup top)
section
variable (N:Nat)(U O:Nat->Int)(m:Nat->Nat)(r v:Nat->Nat->Int)
def Wz6:St:={σ:=[AV.ro [lst 2 3 λk=>[iI (oL k),iI (oH k)],iI 1,Q1 N U O m r v,Q2 m N,top],agg QD,top,ptr 0 0,top,top,ptr 4 0]++HH 15 [iI 13]++HH 20 [lst 2 3 λk=>[iI (oL k),iI (oH k)],iI (↑(3:Nat):Int),iI 3]++HH 20 [Q1 N U O m r v,iI (N:Int),iI (N:Int)]++HH 14 [Q2 m N,iI (↑(HC m N):Int),iI (↑(HC m N):Int)]++HH 50 [iI 13]++HH 54 [],m:=[(4,GN.ints 244 [] 169 λk=>UZ (fwO 12 (r0M N U O m r v) 13) k),(0,KW)],nx:=29}
noncomputable def Jq2:Code:=U9 (VS (U7 Tryz.f80) 5)
def Wh5(k:Nat):St:=(upE [(178,i k)] [(4,.ints 244 [] 169 (UZ (PC N U O m r v))),(0,.cells 183 [.x (.int .u64 0)])] (Wz6 N U O m r v))
def d7(k:Nat):G7->Option St
 | .ret=>some (upE [(4,.x (.pointer none)),(5,.lit false),(178,.top)] [(4,.ints 244 [] 169 (UZ (PC N U O m r v))),(0,.cells 183 [.x (.int .u64 0)])] (Wz6 N U O m r v))
 | .exit 16=>some (upE [(178,.top)] [(4,.ints 244 [] 169 (UZ (PC N U O m r v))),(0,.cells 183 [.x (.int .u64 0)])] (Wz6 N U O m r v))
 |_=>none
def Jl8:CT:= .branch (xD N U O m r v) (.leaf (.exit 16,(d7 N U O m r v 0 (.exit 16)).getD (Wz6 N U O m r v))) (.leaf (.ret,(d7 N U O m r v 0 .ret).getD (Wz6 N U O m r v)))
def Xw5:UI:=GK [] (HG (Wh5 N U O m r v (0)) (Jl8 N U O m r v))
theorem Jg3(VR:bOK N U O m r v):G8 VO (.loop Jq2) (Xw5 N U O m r v):=by
 refine UV [] (L:=[]) (Ae RH (Ae LT (Ae FZ Aa))) (Ai Ab (Ag RK Ac)) VY U3 (X:=Nat) (Wh5 N U O m r v) (λk=>k<=13/\ ∀j,j<k->0<=PC N U O m r v j j) (λk=>13-k) (d7 N U O m r v) (x0:=0) VV ?_ ?_ ?_
 ·rintro k;kernel_rfl
 ·rintro k y E h;unfold d7 at h;split at h
  ·cases h;kernel_rfl
  ·cases h;kernel_rfl
  ·cases h
 ·rintro Q hQ k hx;refine ⟨(k+1),?_⟩;(with_reducible refine DH (t:=let W:=(VZ (AV.ro [lst 2 3 λk=>[iI (oL k),iI (oH k)],iI 1,Q1 N U O m r v,Q2 m N,top]));let z1:=(VZ (↑(HC m N):Int));let z2:=PC N U O m r v;let z3:=(VZ (lst 2 3 λk=>[iI (oL k),iI (oH k)]));(branch (decide ((k:Int)<13)) (need [UJ k 13] (need [UJ k 13] (need [k*1+(k*13+0)<169] (branch (decide (UZ (z2) (k*1+(k*13+0))<0)) (need [W,VZ (agg QD),QO,QE=QE,WK,W5,XA,z3,VZ (↑(3:Nat):Int),XE,WS N U O m r v,VZ (N:Int),VZ (N:Int),VZ (Q2 m N),z1,z1,XA,169=169,GO 169 (UZ (z2)),QT] (leaf G7.ret)) (need [VL ((k:Int)+1)] (need [W,VZ (agg QD),QO,W5,XA,z3,VZ (↑(3:Nat):Int),XE,WS N U O m r v,VZ (N:Int),VZ (N:Int),VZ (Q2 m N),z1,z1,XA,(k:Int)+1=(↑(k+1):Int),169=169,GO 169 (UZ (z2)),QT] (leaf G7.normal))))))) (need [W,VZ (agg QD),QO,W5,XA,z3,VZ (↑(3:Nat):Int),XE,WS N U O m r v,VZ (N:Int),VZ (N:Int),VZ (Q2 m N),z1,z1,XA,169=169,GO 169 (UZ (z2)),QT] (leaf (G7.exit 16))))) VT ?_)
  simp only [Jl8,d7,VM.sat,GT] at hQ;simp only [VM.sat,UB,G4,GJ,UD,VL,UH,HA,FY,RA,RW,GL,d7]
  have h1:UZ (PC N U O m r v) (k*1+(k*13+0))=PC N U O m r v k k\/13<=k:=by
   rcases An k 13 with h|h
   ·exact .inl (kY _ VJ h)
   ·exact .inr h
  refine ⟨λh=>?_,λh=>?_⟩
  ·have h2:=h1.resolve_right VJ;rw [h2];refine ⟨VJ,VJ,VJ,λhneg=>?_,λWk6=>?_⟩
   ·have hno:xD N U O m r v=false:=by
     cases ho:xD N U O m r v
     ·rfl
     ·have:=GR.1 ho k VJ;simp at this;omega
    (with_reducible repeat' first|apply Al|intro _)
    all_goals first|exact P3|(rename_i E hE;cases hE;exact hQ.2 hno)
   ·exact VF
  ·obtain ⟨hx1,hx2⟩:=hx;obtain rfl:k=13:=VJ;have Wj4:xD N U O m r v=true:=GR.2 (λj hj=>by simpa using hx2 j hj)
   (with_reducible repeat' first|apply Al|intro _)
   all_goals first|exact P3|(rename_i E hE;cases hE;exact hQ.1 Wj4)
end
theorem Qi7{S:Code->UI->Prop}{c:Code}{s0 s1 s2 s3 s4 s5:UI}(h0: ∀cj,VS c 0=some cj->S cj s0)(h1: ∀cj,VS c 1=some cj->S cj s1)(h2: ∀cj,VS c 2=some cj->S cj s2)(h3: ∀cj,VS c 3=some cj->S cj s3)(h4: ∀cj,VS c 4=some cj->S cj s4)(h5: ∀cj,VS c 5=some cj->S cj s5):
  ∀j cj,VS c j=some cj-> ∀sp,[s0,s1,s2,s3,s4,s5][j]? =some sp->S cj sp:=by
 intro j cj hj sp hsp
 match j with
 | 0=>simp at hsp;subst hsp;exact h0 cj hj
 | 1=>simp at hsp;subst hsp;exact h1 cj hj
 | 2=>simp at hsp;subst hsp;exact h2 cj hj
 | 3=>simp at hsp;subst hsp;exact h3 cj hj
 | 4=>simp at hsp;subst hsp;exact h4 cj hj
 | 5=>simp at hsp;subst hsp;exact h5 cj hj
 |j+6=>simp at hsp
section
variable (N:Nat)
abbrev KD(U:Nat->Int)(O:Nat->Int)(m:Nat->Nat)(r:Nat->Nat->Int)(v:Nat->Nat->Int):AV:=roI [] 169 (λk=>UZ (PC N U O m r v) k) 0
theorem Xj8(U O:Nat->Int)(m:Nat->Nat)(r v:Nat->Nat->Int)(VR:bOK N U O m r v):UN VO 80 [.ro [ofs,i 1,bds N U O m r v,.lst 2 (HC m N) (plF m N),.top],.agg [.x (.int .u64 0)]] (.branch (xD N U O m r v) (.leaf (.tup [.roI [] 169 (UZ (PC N U O m r v)) 0,.lit true])) (.leaf (.tup [Bo.nilP,.lit false]))):=by
 refine GS (L:=[Xx3 N U O m r v,Xx1 N U O m r v,Xx0 N U O m r v,Xw9 N U O m r v,Xw8 N U O m r v,Xw5 N U O m r v]) (Ae RH (Ae LT (Ae FZ Aa))) (Ai Ab (Ag RK Ac)) VY Tryz.func80 (UT Tryz.f80) (Qi7 (lpE (b:= .loop Zs7) VT<|(Jh1 N U O m r v).N) (lpE (b:= .loop Jq6) VT<|(Jg9 N U O m r v).N) (lpE (b:= .loop Jq5) VT<|(Jg8 N U O m r v VR).N) (lpE (b:= .loop Jq4) VT<|(Jg7 N U O m r v VR).N) (lpE (b:= .loop Zs6) VT<|(Jg6 N U O m r v VR).N) (lpE (b:= .loop Jq2) VT<|(Jg3 N U O m r v VR).N)) (t:=let W:=(VZ (AV.ro [lst 2 3 λk=>[iI (oL k),iI (oH k)],iI 1,Q1 N U O m r v,Q2 m N,top]));let z1:=(VZ (lst 2 3 λk=>[iI (oL k),iI (oH k)]));let z2:=(VZ (↑(HC m N):Int));let z3:=(VZ (↑(3:Nat):Int));(need [W,VZ (agg QD),QO,QE=QE,WK,W5,(0:Int)=(↑(0:Nat):Int),169=169,GU 169 (U8 QL) (UZ (LS 0 0)),QT] (need [W,VZ (agg QD),QO,QE=QE,WK,W5,XA,z1,z3,(0:Int)=(↑(0:Nat):Int),169=169,GU 169 (UZ (LS 13 0)) (UZ (ofM 0)),QT] (need [W,VZ (agg QD),QO,QE=QE,WK,W5,XA,z1,z3,XE,WS N U O m r v,VZ (N:Int),(0:Int)=(↑(0:Nat):Int),169=169,GU 169 (UZ (ofM 3)) (UZ (btM U O 0)),QT] (need [W,VZ (agg QD),QO,QE=QE,WK,W5,XA,z1,z3,XE,WS N U O m r v,VZ (N:Int),VZ (N:Int),VZ (Q2 m N),z2,(0:Int)=(↑(0:Nat):Int),169=169,GU 169 (UZ (btM U O N)) (UZ (rE N U O m r v 0)),QT] (need [W,VZ (agg QD),QO,QE=QE,WK,W5,XA,z1,z3,XE,WS N U O m r v,VZ (N:Int),VZ (N:Int),VZ (Q2 m N),z2,z2,(0:Int)=(↑(0:Nat):Int),169=169,GU 169 (UZ (rE N U O m r v (HC m N))) (UZ (fwO 12 (r0M N U O m r v) 0)),QT] (need [W,VZ (agg QD),QO,W5,XA,z1,z3,XE,WS N U O m r v,VZ (N:Int),VZ (N:Int),VZ (Q2 m N),z2,z2,XA,(0:Int)=(↑(0:Nat):Int),169=169,GU 169 (UZ (fwO 12 (r0M N U O m r v) 13)) (UZ (PC N U O m r v)),QT] (branch (xD N U O m r v) (leaf (tup [KD N U O m r v,AV.lit true])) (leaf (tup [QE,AV.lit false])))))))))) VT ?_
 intro Q hQ;simp only [VM.sat,UB,UH,VL,RW,GL] at hQ ⊢
 (with_reducible repeat' first|apply Al|intro _)
 all_goals first|exact Ak|omega|with_reducible rfl|rfl|exact Xi0 _|(rename_i h;exact h.elim)|(rename_i h;exact ⟨.tup [.roI [] 169 (UZ (PC N U O m r v)) 0,.lit true],⟨⟨rfl,rfl,λ_ _=>rfl,rfl⟩,rfl,Ak⟩,hQ.1 h⟩)|(rename_i h;exact ⟨.tup [Bo.nilP,.lit false],⟨rfl,rfl,Ak⟩,hQ.2 h⟩)
def Zo5(U O:Nat->Int)(m:Nat->Nat)(r v:Nat->Nat->Int):DA:=λl=>some (.need [l=[.ro [ofs,i 1,bds N U O m r v,.lst 2 (HC m N) (plF m N),.top],.agg [.x (.int .u64 0)]]] (.branch (xD N U O m r v) (.leaf (.tup [.roI [] 169 (UZ (PC N U O m r v)) 0,.lit true])) (.leaf (.tup [Bo.nilP,.lit false]))))
theorem Ws2(U O:Nat->Int)(m:Nat->Nat)(r v:Nat->Nat->Int)(VR:bOK N U O m r v):Sx.Enters Tryz.prog 80/\ ∀avs t,Zo5 N U O m r v avs=some t->UN VO 80 avs t:=by
 refine ⟨(UG Tryz.func80),?_⟩;intro avs t h;cases h;intro Q hQ;have e:=hQ.1
 dsimp only [UB] at e
 subst e;exact Xj8 N U O m r v VR Q hQ.2
def bV(U O:Nat->Int)(m:Nat->Nat)(r v:Nat->Nat->Int):Prop:=bOK N U O m r v/\ ∀b,b<N-> ∀j k,j<k->k<m b->r b j≠r b k
end
section
variable {N:Nat}{U O:Nat->Int}{m:Nat->Nat}{r v:Nat->Nat->Int}
theorem Zw1(h:bV N U O m r v):vB N (λk=>[i (U k),i (O k),bts (m k) (r k) (v k)]):=by
 refine ⟨h.1.1,U,O,m,λk j=>[i (r k j),i (v k j)],λ_ _=>rfl,λk hk=>⟨λ_ _=>rfl,⟨?_,λj hj=>?_,λj q hj hq=>?_⟩,?_⟩⟩
 ·have:=(h.1.2 k hk).1;omega
 ·obtain ⟨h1,h2,h3,h4,h5⟩:=h.1.2 k hk;exact h5 j hj
 ·exact h.2 k hk j q hj hq
 ·obtain ⟨h1,h2,h3,h4,h5⟩:=h.1.2 k hk;exact (insB_iff _ _ _ _).2 ⟨h2,h3,h4⟩
theorem Ws9(h:bV N U O m r v):N<=1000/\ ∀b,b<N->m b<=1000:=⟨by have:=h.1.1;omega,λb hb=>by have:=(h.1.2 b hb).1;omega⟩
end
section
variable (f:Nat->List AV)(er:Int)(N:Nat)(U O:Nat->Int)(m:Nat->Nat)(r v:Nat->Nat->Int)
def Xm2:UW:=λl=>some ([l=[.agg [.lst 2 3 f,i er,bds N U O m r v]]],.ro [.lst 2 3 f,i er,bds N U O m r v,.lst 2 (HC m N) (plF m N),.top])
theorem Qp8(VR:N<=1000)(UE: ∀b,b<N->m b<=1000):PF VO 79 (Xm2 f er N U O m r v):=by
 refine ⟨(UG Tryz.func79),?_⟩;intro avs ns res h hn;cases h;have e:=hn _ GG;subst e;exact Wr3 f er N U O m r v VR UE
end
section
variable (N:Nat)(U O:Nat->Int)(m:Nat->Nat)(r v:Nat->Nat->Int)
theorem Qp9(VR:bV N U O m r v):UN VO 52 [.agg [ofs,i 1,bds N U O m r v],.lit true] (.branch (xD N U O m r v) (.leaf (.tup [.roI [] 169 (UZ (PC N U O m r v)) 0,i 0])) (.leaf (.tup [Bo.nilP,i 9]))):=by
 refine GS (L:=[]) (Ae Qq7 Aa) (Aj (Af (Qp8 (λk=>[i (oL k),i (oH k)]) 1 N U O m r v (Ws9 VR).1 (Ws9 VR).2) Ab) Ac (Ah (Ws2 N U O m r v VR.1) (UA.nil _))) VY Tryz.func52 (UT Tryz.f52) G5 (t:=need [ofB λk=>[i (oL k),i (oH k)],vB N λk=>[i (U k),i (O k),bts (m k) (r k) (v k)]] (branch ((0:Int) != 0) (leaf (tup [QE,iI 0])) (need [VZ ([agg [lst 2 3 λk=>[iI (oL k),iI (oH k)],iI 1,Q1 N U O m r v]])] (need [VZ ([AV.ro [lst 2 3 λk=>[iI (oL k),iI (oH k)],iI 1,Q1 N U O m r v,Q2 m N,top],agg QD])] (branch (xD N U O m r v) (leaf (tup [KD N U O m r v,iI 0])) (leaf (tup [QE,iI 9]))))))) VT ?_
 intro Q hQ;simp only [VM.sat,UB,UH] at hQ ⊢;refine ⟨⟨λ_ _=>rfl,Zw1 VR⟩,λh=>by simp at h,λ_=>⟨λh=>⟨.tup [.roI [] 169 (UZ (PC N U O m r v)) 0,i 0],⟨⟨rfl,rfl,λ_ _=>rfl,rfl⟩,⟨rfl,rfl⟩,Ak⟩,hQ.1 h⟩,λh=>⟨.tup [Bo.nilP,i 9],⟨rfl,⟨rfl,rfl⟩,Ak⟩,hQ.2 h⟩⟩⟩
def Ww7:DA:=λl=>some (.need [l=[.agg [ofs,i 1,bds N U O m r v],.lit true]] (.branch (xD N U O m r v) (.leaf (.tup [.roI [] 169 (UZ (PC N U O m r v)) 0,i 0])) (.leaf (.tup [Bo.nilP,i 9]))))
theorem IE(VR:bV N U O m r v):Sx.Enters Tryz.prog 52/\ ∀avs t,Ww7 N U O m r v avs=some t->UN VO 52 avs t:=by
 refine ⟨(UG Tryz.func52),?_⟩;intro avs t h;cases h;intro Q hQ;have e:=hQ.1
 dsimp only [UB] at e
 subst e;exact Qp9 N U O m r v VR Q hQ.2
end
def Wv0:UW
 |[.roI [] 169 F 0,.x (.int .i64 a),.x (.int .i64 b)]=>some ([0<=a/\a<=12,0<=b/\b<=12,-1000000000000000<=F (b.toNat*13+a.toNat)/\F (b.toNat*13+a.toNat)<=1000000000000000],i (-(F (b.toNat*13+a.toNat))))
 |_=>none
theorem Xj7(F:Nat->Int)(a b:Int)(VR:0<=a/\a<=12)(UE:0<=b/\b<=12)(HQ: -1000000000000000<=F (b.toNat*13+a.toNat)/\F (b.toNat*13+a.toNat)<=1000000000000000):VX VO 81 [.roI [] 169 F 0,i a,i b] (i (-(F (b.toNat*13+a.toNat)))):=by
 refine GV Tryz.func81 (t:=need [UJ b 13] (need [UJ a 13] (need [Int.toNat a*1+(Int.toNat b*13+0)<169] (need [VL (-F (Int.toNat a*1+(Int.toNat b*13+0)))] (leaf (RV.x (.int .i64 (-F (Int.toNat a*1+(Int.toNat b*13+0)))))))))) VT ?_;simp only [VM.sat,UB,G4,GJ,UD,UH,DZ];rw [show a.toNat*1+(b.toNat*13+0)=b.toNat*13+a.toNat by omega]
 simp only [VL];simp;omega
theorem Xj6:VP VO 81 Wv0:=by
 refine ⟨(UG Tryz.func81),?_⟩;intro avs ns res h hn;unfold Wv0 at h;split at h
 ·cases h;exact Xj7 _ _ _ (hn _ VV) (hn _ VV) (hn _ VV)
 ·cases h
def Qe8:UW
 |[.roI [] 169 F 0,.x (.int .i64 a),.x (.int .i64 b)]=>some ([0<=a/\a<=12,0<=b/\b<=12,-1000000000000000<=F (a.toNat*13+b.toNat)/\F (a.toNat*13+b.toNat)<=1000000000000000],i (F (a.toNat*13+b.toNat)))
 |_=>none
theorem Ws0(F:Nat->Int)(a b:Int)(VR:0<=a/\a<=12)(UE:0<=b/\b<=12)(HQ: -1000000000000000<=F (a.toNat*13+b.toNat)/\F (a.toNat*13+b.toNat)<=1000000000000000):VX VO 82 [.roI [] 169 F 0,i a,i b] (i (F (a.toNat*13+b.toNat))):=by
 refine GV Tryz.func82 (t:=need [UJ a 13] (need [UJ b 13] (need [Int.toNat b*1+(Int.toNat a*13+0)<169] (leaf (RV.x (.int .i64 (F (Int.toNat b*1+(Int.toNat a*13+0))))))))) VT ?_;simp only [VM.sat,UB,G4,GJ,UD,UH,DZ];rw [show b.toNat*1+(a.toNat*13+0)=a.toNat*13+b.toNat by omega]
 simp only [VL];simp;omega
theorem Wr9:VP VO 82 Qe8:=by
 refine ⟨(UG Tryz.func82),?_⟩;intro avs ns res h hn;unfold Qe8 at h;split at h
 ·cases h;exact Ws0 _ _ _ (hn _ VV) (hn _ VV) (hn _ VV)
 ·cases h
def IX:UW
 |[.roI [] 169 F 0,.x (.int .i64 a),.x (.int .i64 b)]=>some ([0<=a/\a<=12,0<=b/\b<=12,-1000000000000000<=F (b.toNat*13+a.toNat)/\F (b.toNat*13+a.toNat)<=1000000000000000,-1000000000000000<=F (a.toNat*13+b.toNat)/\F (a.toNat*13+b.toNat)<=1000000000000000],.agg [i (-(F (b.toNat*13+a.toNat))),i (F (a.toNat*13+b.toNat))])
 |_=>none
theorem l9(F:Nat->Int)(a b:Int)(VR:0<=a/\a<=12)(UE:0<=b/\b<=12)(HQ: -1000000000000000<=F (b.toNat*13+a.toNat)/\F (b.toNat*13+a.toNat)<=1000000000000000)(F1: -1000000000000000<=F (a.toNat*13+b.toNat)/\F (a.toNat*13+b.toNat)<=1000000000000000):VX VO 53 [.roI [] 169 F 0,i a,i b] (.agg [i (-(F (b.toNat*13+a.toNat))),i (F (a.toNat*13+b.toNat))]):=by
 refine U1 (L:=[]) (Ae Xj6 (Ae Wr9 Aa)) VY Tryz.func53 (UT Tryz.f53) U3 (t:=need [(0:Int)<=a/\a<=12,(0:Int)<=b/\b<=12,(-1000000000000000:Int)<=F (Int.toNat b*13+Int.toNat a)/\F (Int.toNat b*13+Int.toNat a)<=1000000000000000] (need [(0:Int)<=a/\a<=12,(0:Int)<=b/\b<=12,(-1000000000000000:Int)<=F (Int.toNat a*13+Int.toNat b)/\F (Int.toNat a*13+Int.toNat b)<=1000000000000000] (leaf (RV.agg [RV.x (.int .i64 (-F (Int.toNat b*13+Int.toNat a))),RV.x (.int .i64 (F (Int.toNat a*13+Int.toNat b)))])))) VT ?_;exact V0
theorem r8:VP VO 53 IX:=by
 refine ⟨(UG Tryz.func53),?_⟩;intro avs ns res h hn;unfold IX at h;split at h
 ·cases h;exact l9 _ _ _ (hn _ VV) (hn _ VV) (hn _ VV) (hn _ VV)
 ·cases h
theorem Xi1{N:Nat}{U O:Nat->Int}{m:Nat->Nat}{r v:Nat->Nat->Int}(h:bOK N U O m r v)(x y:Nat): -1000000000000000<=PC N U O m r v x y/\PC N U O m r v x y<=1000000000000000:=by
 have:=Wx6 (c:=12) (SN h (HC m N) (Am _)) 13 x y;rw [show (8001:Int)*6^13=104498612822016 by decide] at this
 unfold PC r0M;omega
section
variable (N:Nat)(U O:Nat->Int)(m:Nat->Nat)(r v:Nat->Nat->Int)
def boE:Int:=if xD N U O m r v=true then 0 else 9
def boN:Nat:=if xD N U O m r v=true then 3 else 0
def boL(k:Nat):Int:= -(PC N U O m r v 0 (1+k))
def boH(k:Nat):Int:=PC N U O m r v (1+k) 0
abbrev QA:AV:=AV.x (.slice none 0 0)
def sQ:St:={σ:=[agg [lst 2 3 λk=>[iI (oL k),iI (oH k)],iI 1,Q1 N U O m r v],ptr 0 0,QA,iI 0,QE,iI 9]++HH 12 [iI (↑(3:Nat):Int)]++HH 12 [],m:=[(901,GN.row 68 2 0 λx=>[]),(0,GN.cells 59 [lst 2 3 λk=>[iI (oL k),iI (oH k)],iI 1,Q1 N U O m r v])],nx:=902}
noncomputable def Qs1:Code:=U9 (VS (U7 Tryz.f19) 0)
def vG(k:Nat):St:={σ:=H4 [(19,i k),(6,.row 901),(4,.roI [] 169 (UZ (PC N U O m r v)) 0),(5,i 0)] (sQ N U O m r v).σ,m:=[(901,.row 68 2 k (λk=>[i (boL N U O m r v k),i (boH N U O m r v k)])),(0,.cells 59 [ofs,i 1,bds N U O m r v])],nx:=902}
def PM(k:Nat):G7->Option St
 | .exit 0=>some {σ:=H4 [(19,i 3),(6,.row 901),(4,.roI [] 169 (UZ (PC N U O m r v)) 0),(5,i 0)] (sQ N U O m r v).σ,m:=[(901,.row 68 2 3 (λk=>[i (boL N U O m r v k),i (boH N U O m r v k)])),(0,.cells 59 [ofs,i 1,bds N U O m r v])],nx:=902}
 |_=>none
def Wu2:CT:= .leaf (.exit 0,(PM N U O m r v 0 (.exit 0)).getD (sQ N U O m r v))
def m9:UI:=GK [(.slot 6,901,68,2)] (HG (vG N U O m r v (0)) (Wu2 N U O m r v))
abbrev KR:Prop:=(1:Int)=1
theorem Ji2(VR:bV N U O m r v):G8 VO (.loop Qs1) (m9 N U O m r v):=by
 refine UV [(.slot 6,901,68,2)] (L:=[]) (Ae RH (Ae r8 Aa)) (Aj Ab Ac (Ah (IE N U O m r v VR) (UA.nil _))) VY U3 (X:=Nat) (vG N U O m r v) (λk=>k<=3) (λk=>3-k) (PM N U O m r v) (x0:=0) VV ?_ ?_ ?_
 ·rintro k;kernel_rfl
 ·rintro k y E h;unfold PM at h;split at h
  ·cases h;kernel_rfl
  ·cases h
 ·rintro Q hQ k hx;refine ⟨(k+1),?_⟩;(with_reducible refine DH (t:=let W:=PC N U O m r v;let z1:=(VZ (agg [lst 2 3 λk=>[iI (oL k),iI (oH k)],iI 1,Q1 N U O m r v]));let z2:=(UZ (W) (((1:Int)+(k:Int)).toNat*13+(0:Int).toNat));(branch (decide ((k:Int)<(↑(3:Nat):Int))) (need [(0:Int)<=(k:Int)/\(k:Int)<=1000] (need [(0:Int)<=1+(k:Int)/\(1:Int)+(k:Int)<=12,(0:Int)<=0/\(0:Int)<=12,(-1000000000000000:Int)<=UZ (W) (0+((1:Int)+(k:Int)).toNat)/\UZ (W) (0+((1:Int)+(k:Int)).toNat)<=1000000000000000,(-1000000000000000:Int)<=UZ (W) (((1:Int)+(k:Int)).toNat*13+(0:Int).toNat)/\UZ (W) (((1:Int)+(k:Int)).toNat*13+(0:Int).toNat)<=1000000000000000] (need [(k+1)*16<=140737488355328,RT 1 (U4 2 [iI (-UZ (W) (0+((1:Int)+(k:Int)).toNat)),iI z2])] (need [VL ((k:Int)+1)] (need [z1,QO,QA=QA,QT,VZ (KD N U O m r v),QT,WG,VZ (↑(3:Nat):Int),(k:Int)+1=(↑(k+1):Int),k+1=k+1,GU (k+1) (GE k (λk=>[iI (boL N U O m r v k),iI (boH N U O m r v k)]) (U4 2 [iI (-UZ (W) (0+((1:Int)+(k:Int)).toNat)),iI z2])) (λi=>[iI (boL N U O m r v i),iI (boH N U O m r v i)]),VZ (lst 2 3 λk=>[iI (oL k),iI (oH k)]),KR,WS N U O m r v] (leaf G7.normal)))))) (need [z1,QO,QA=QA,QT,VZ (KD N U O m r v),QT,WG,VZ (↑(3:Nat):Int),(k:Int)=3,k=3,∀(i:Nat),i<3->[iI (boL N U O m r v i),iI (boH N U O m r v i)]=[iI (boL N U O m r v i),iI (boH N U O m r v i)],VZ (lst 2 3 λk=>[iI (oL k),iI (oH k)]),KR,WS N U O m r v] (leaf (G7.exit 0))))) VT ?_)
  simp only [Wu2,PM,VM.sat,GT] at hQ;simp only [VM.sat,UB,G4,GJ,UD,VL,UH,HA,FY,RA,RW,GL,PM]
  have hb:=λx y=>Xi1 VR.1 x y
  have e1:(1+(k:Int)).toNat=1+k:=VJ;have g1:k<3->UZ (PC N U O m r v) (0*13+(1+k))=PC N U O m r v 0 (1+k):=λ_=>kY _ VJ VJ
  have g2:k<3->UZ (PC N U O m r v) ((1+k)*13+0)=PC N U O m r v (1+k) 0:=λ_=>kY _ VJ VJ
  have b1:=hb 0 (1+k);have b2:=hb (1+k) 0;refine ⟨λh=>?_,λh=>?_⟩
  ·have hk:k<3:=VJ;have f1:=g1 hk;have f2:=g2 hk;rw [e1];simp only [Int.toNat_zero,f1,f2]
   (with_reducible repeat' first|apply Al|intro _)
   all_goals first|exact Ak|omega|rfl|exact FG (by assumption) (by simp [AV.one,Value.oneCell'])|exact Zn0 rfl rfl (by assumption)
  ·obtain rfl:k=3:=VJ;exact YZ
abbrev J4:Value:=Value.slice none 0 0
abbrev Y7:Value:=Value.pointer none
theorem kA(VR:bV N U O m r v):VX VO 19 [.agg [ofs,i 1,bds N U O m r v]] (.tup [.lst 2 (boN N U O m r v) (λk=>[i (boL N U O m r v k),i (boH N U O m r v k)]),i (boE N U O m r v)]):=by
 refine GA (L:=[m9 N U O m r v]) (Ae RH (Ae r8 Aa)) (Aj Ab Ac (Ah (IE N U O m r v VR) (UA.nil _))) VY Tryz.func19 (UT Tryz.f19) (G0 (lpE (b:= .loop Qs1) VT<|(Ji2 N U O m r v VR).N)) (t:=let W:=([lst 2 3 λk=>[iI (oL k),iI (oH k)],iI 1,Q1 N U O m r v]);let z1:=(leaf (RV.tup [RV.lst 2 3 λk=>[iI (boL N U O m r v k),iI (boH N U O m r v k)],RV.x (X0)]));(need [VZ ([agg W,AV.lit true])] (branch (xD N U O m r v) (branch ((0:Int) != 0) (leaf (RV.tup [RV.x (J4),RV.x (X0)])) (need [VZ (agg W),QO,QA=QA,QT,VZ (KD N U O m r v),QT,WG,VZ (↑(3:Nat):Int),(0:Int)=(↑(0:Nat):Int),0=0,∀(i:Nat),i<0->[]=[iI (boL N U O m r v i),iI (boH N U O m r v i)],VZ (lst 2 3 λk=>[iI (oL k),iI (oH k)]),KR,WS N U O m r v] z1)) (branch ((9:Int) != 0) (leaf (RV.tup [RV.x (J4),RV.x (.int .i64 (9:Int))])) (need [VZ (agg W),QO,QA=QA,QT,AV.x (Y7)=roI [] 169 (λk=>UZ (PC N U O m r v) k) 0,(9:Int)=0,WG,VZ (↑(3:Nat):Int),(0:Int)=(↑(0:Nat):Int),0=0,∀(i:Nat),i<0->[]=[iI (boL N U O m r v i),iI (boH N U O m r v i)],VZ (lst 2 3 λk=>[iI (oL k),iI (oH k)]),KR,WS N U O m r v] z1))))) VT ?_
 simp only [VM.sat,UB,G4,GJ,UD,UH];refine ⟨λhok=>⟨λh=>by simp at h,λ_=>?_⟩,λhno=>⟨λ_=>?_,λh=>by simp at h⟩⟩
 ·unfold boN boE;rw [if_pos hok,if_pos hok]
  (with_reducible repeat' first|apply Al|intro _)
  all_goals first|exact Ak|omega|rfl|(rename_i hm;simp only [GM,DO,or_false] at hm;rcases hm with rfl|rfl<;>exact Ak)
 ·unfold boN boE;rw [if_neg (by simp [hno]),if_neg (by simp [hno])]
  exact ⟨⟨Ak,rfl⟩,rfl⟩
def sC:UW:=λl=>some ([l=[.agg [ofs,i 1,bds N U O m r v]]],.tup [.lst 2 (boN N U O m r v) (λk=>[i (boL N U O m r v k),i (boH N U O m r v k)]),i (boE N U O m r v)])
theorem aA(VR:bV N U O m r v):VP VO 19 (sC N U O m r v):=by
 refine ⟨(UG Tryz.func19),?_⟩;intro avs ns res h hn;cases h;have e:=hn _ GG;subst e;exact kA N U O m r v VR
end
def OQ:UW
 |[.x (.int .i64 n),.x (.int .i64 U),.x (.int .i64 O)]=>some ([],bl (bt U n O))
 |_=>none
theorem nD(n U O:Int):VX VO 73 [i n,i U,i O] (bl (bt U n O)):=by
 refine GV Tryz.func73 (t:=branch (decide (U<=n)) (leaf (RV.x (.bool (decide (n<=O))))) (leaf (RV.x (WM)))) VT ?_;exact V9
theorem xW:VP VO 73 OQ:=by
 refine ⟨(UG Tryz.func73),?_⟩;intro avs ns res h hn;unfold OQ at h;split at h
 ·cases h;exact nD _ _ _
 ·cases h
def Wu4:UW
 |[.x (.int .i64 n)]=>some ([],bl (bt 0 n 100))
 |_=>none
theorem Xd2(n:Int):VX VO 56 [i n] (bl (bt 0 n 100)):=by
 refine U1 (L:=[]) (Ae xW Aa) VY Tryz.func56 (UT Tryz.f56) U3 (t:=leaf (RV.x (.bool (bt (0:Int) n (100:Int))))) VT ?_;exact V0
theorem rT:VP VO 56 Wu4:=by
 refine ⟨(UG Tryz.func56),?_⟩;intro avs ns res h hn;unfold Wu4 at h;split at h
 ·cases h;exact Xd2 _
 ·cases h
def IR:UW:=kE
theorem Qj7(a b:Int):VX VO 89 [.lst 1 2 (λk=>[i (if k=0 then a else b)])] (i (min a b)):=by
 refine U1 (L:=[]) (Ae SG Aa) VY Tryz.func89 (UT Tryz.f89) U3 (t:=leaf (RV.x (.int .i64 (min (if 0=0 then a else b) (if 1=0 then a else b))))) VT ?_
 simp [VM.sat,G4,UD]
theorem PK:VP VO 89 IR:=by
 refine ⟨(UG Tryz.func89),?_⟩;intro avs ns res h hn;unfold IR kE at h;split at h
 ·rename_i f;split at h
  ·rename_i a b h0 h1;cases h;refine (Qj7 a b).same (.cons (.lst 1 2 _ _ ?_) .nil);intro k hk;rcases (show k=0\/k=1 by omega) with rfl|rfl
   ·exact h0
   ·exact h1
  ·cases h
 ·cases h
def kF:UW:=dU
theorem SO(a b:Int):VX VO 90 [.lst 1 2 (λk=>[i (if k=0 then a else b)])] (i (max a b)):=by
 refine U1 (L:=[]) (Ae t9 Aa) VY Tryz.func90 (UT Tryz.f90) U3 (t:=leaf (RV.x (.int .i64 (max (if 0=0 then a else b) (if 1=0 then a else b))))) VT ?_
 simp [VM.sat,G4,UD]
theorem DX:VP VO 90 kF:=by
 refine ⟨(UG Tryz.func90),?_⟩;intro avs ns res h hn;unfold kF dU at h;split at h
 ·rename_i f;split at h
  ·rename_i a b h0 h1;cases h;refine (SO a b).same (.cons (.lst 1 2 _ _ ?_) .nil);intro k hk;rcases (show k=0\/k=1 by omega) with rfl|rfl
   ·exact h0
   ·exact h1
  ·cases h
 ·cases h
def saB(f t q U O:Int):Bool:=bt 0 f 3&&bt 0 t 3&&(f != t)&&bt 1 q 1000&&bt 0 U 100&&bt 0 O 100&&decide (U<=O)
abbrev sls(n:Nat)(f t q U O:Nat->Int):AV:= .lst 5 n (λk=>[i (f k),i (t k),i (q k),i (U k),i (O k)])
def ML(d:Int)(n:Nat):Bool:=Xk7 (d / 2^n) 1==1
theorem Xc0{f t q U O:Int}:saB f t q U O=true↔(0<=f/\f<=3)/\(0<=t/\t<=3)/\f≠t/\(1<=q/\q<=1000)/\(0<=U/\U<=100)/\(0<=O/\O<=100)/\U<=O:=by
 simp [saB,bt_iff,and_assoc]
theorem bA{q:Nat}(h:q<2^40):IntKind.i64.wrap (q:Int)=q:=by
 have e:IntKind.i64.wrap (q:Int)=if (true&&decide ((q:Int)%2^64>=2^63))=true then (q:Int)%2^64-2^64 else (q:Int)%2^64:=rfl
 have e2:(q:Int)%2^64=q:=Int.emod_eq_of_lt VJ VJ;rw [e,e2,if_neg];rw [Bool.true_and,kD];omega
theorem pM{z:Nat}(hz:z<8192):(BitVec.ofInt 64 (z:Int)).toNat=z:=by
 rw [BitVec.toNat_ofInt];omega
theorem Xd8{x y:Nat}(hx:x<8192)(hy:y<8192):orI x y=((x ||| y:Nat):Int):=by
 unfold orI;rw [BitVec.toNat_or,pM hx,pM hy];have hlt:x ||| y<2^13:=Nat.or_lt_two_pow VJ VJ
 exact bA VJ
theorem Wt2{x:Nat}(hx:x<8192):Xk7 x 1=((x%2:Nat):Int):=by
 unfold Xk7;rw [BitVec.toNat_and,pM hx,show (BitVec.ofInt 64 1).toNat=1 from rfl,Nat.and_one_is_mod];exact bA VJ
theorem Zm1(d n:Nat):((d:Int) / 2^n)=((d / 2^n:Nat):Int):=by
 rw [Int.natCast_ediv,Int.natCast_pow];rfl
theorem Wm7{d n:Nat}(hd:d<8192):ML d n=d.testBit n:=by
 unfold ML;rw [Zm1,Wt2 (Nat.lt_of_le_of_lt (Nat.div_le_self _ _) hd),Nat.testBit_eq_decide_div_mod_eq,Bool.eq_iff_iff,beq_iff_eq,kD];omega
def pW:UW
 |[.x (.int .i64 d),.x (.int .i64 n)]=>some ([0<=n/\n<=64],bl (ML d n.toNat))
 |_=>none
theorem Xd1(d n:Int)(VR:0<=n/\n<=64):VX VO 133 [i d,i n] (bl (ML d n.toNat)):=by
 refine GV Tryz.func133 (t:=need [(0:Int)<=n/\n<=64] (leaf (RV.x (.bool (IntKind.wrap IntKind.i64 (↑(BitVec.toNat (BitVec.ofInt 64 (d / (2:Int)^Int.toNat n) &&& BitVec.ofInt 64 (1:Int))):Int)==1))))) VT ?_;exact V0
theorem rS:VP VO 133 pW:=by
 refine ⟨(UG Tryz.func133),?_⟩;intro avs ns res h hn;unfold pW at h;split at h
 ·cases h;exact Xd1 _ _ (hn _ VV)
 ·cases h
def Qd9:UW
 |[.agg [.x (.int .i64 4),.x (.int .i64 10),.lst 5 n f],.agg [.x (.int .i64 a),.x (.int .i64 b),.x (.int .i64 c),.x (.int .i64 U),.x (.int .i64 O)]]=>some ([],bl (saB a b c U O))
 |_=>none
theorem Wa6(f:Nat->List AV)(n:Nat)(a b c U O:Int):VX VO 129 [.agg [i 4,i 10,.lst 5 n f],.agg [i a,i b,i c,i U,i O]] (bl (saB a b c U O)):=by
 refine U1 (L:=[]) (Ae xW (Ae rT Aa)) VY Tryz.func129 (UT Tryz.f129) U3 (t:=need [VL ((4:Int)-1)] (branch (bt (0:Int) a ((4:Int)-1)) (need [VL ((4:Int)-1)] (branch (bt (0:Int) b ((4:Int)-1)) (branch (a != b) (branch (bt (1:Int) c (1000:Int)) (branch (bt (0:Int) U (100:Int)) (branch (bt (0:Int) O (100:Int)) (leaf (RV.x (.bool (decide (U<=O))))) (leaf (RV.x (WM)))) (leaf (RV.x (WM)))) (leaf (RV.x (WM)))) (leaf (RV.x (WM)))) (leaf (RV.x (WM))))) (leaf (RV.x (WM))))) VT ?_;simp only [VM.sat,UB,G4,GJ,UD,UH,VL,saB];refine ⟨VJ,?_⟩;cases h1:bt 0 a 3<;>cases h2:bt 0 b 3<;>cases h3:(a != b)<;>cases h4:bt 1 c 1000<;>cases h5:bt 0 U 100<;>cases h6:bt 0 O 100<;>simp [h1,h2,h3,h4,h5,h6]
theorem Wa5:VP VO 129 Qd9:=by
 refine ⟨(UG Tryz.func129),?_⟩;intro avs ns res h hn;unfold Qd9 at h;split at h
 ·cases h;exact Wa6 _ _ _ _ _ _ _
 ·cases h
def Qe0:UW
 |[.agg [.x (.int .i64 a),.x (.int .i64 b),.x (.int .i64 c),.x (.int .i64 U),.x (.int .i64 O)],.ro [.fn (.func 129) [.agg [.x (.int .i64 4),.x (.int .i64 10),.lst 5 n f]] []]]=>some ([],bl (!saB a b c U O))
 |_=>none
theorem Wb0(f:Nat->List AV)(n:Nat)(a b c U O:Int):VX VO 170 [.agg [i a,i b,i c,i U,i O],.ro [.fn (.func 129) [.agg [i 4,i 10,.lst 5 n f]] []]] (bl (!saB a b c U O)):=by
 refine U1 (L:=[]) (Ae Wa5 Aa) VY Tryz.func170 (UT Tryz.f170) U3 (t:=leaf (RV.x (.bool !saB a b c U O))) VT ?_;exact V0
theorem cH:VP VO 170 Qe0:=by
 refine ⟨(UG Tryz.func170),?_⟩;intro avs ns res h hn;unfold Qe0 at h;split at h
 ·cases h;exact Wb0 _ _ _ _ _ _ _
 ·cases h
def nsB(a b c U O:Nat->Int)(j:Nat):Bool:= !saB (a j) (b j) (c j) (U j) (O j)
def zR(n:Nat)(a b c U O:Nat->Int):Bool:=D5 (λj=>saB (a j) (b j) (c j) (U j) (O j)) n
abbrev Q0(n:Nat)(a:Nat->Int)(b:Nat->Int)(c:Nat->Int)(U:Nat->Int)(O:Nat->Int):AV:=lst 5 n λk=>[iI (a k),iI (b k),iI (c k),iI (U k),iI (O k)]
abbrev WH(n1:Nat)(f:Nat->List AV):AV:=AV.fn (Fn.func 170) [] [AV.ro [AV.fn (Fn.func 129) [agg [iI 4,iI 10,lst 5 n1 λa=>f a]] []]]
section
variable (n:Nat)(a b c U O:Nat->Int)(f:Nat->List AV)(n1:Nat)
def M1:St:={σ:=[Q0 n a b c U O,WH n1 f]++HH 5 [iI (n:Int)]++HH 11 [],m:=[],nx:=4}
noncomputable def Xa0:Code:=U9 (VS (U7 Tryz.f199) 0)
def eG(k:Nat):St:=(upM [(8,i k)] (M1 n a b c U O f n1))
def wX(k:Nat):G7->Option St
 | .ret=>some (upM [(4,i (GW ((nsB a b c U O)) n))] (M1 n a b c U O f n1))
 | .exit 0=>some (upM [] (M1 n a b c U O f n1))
 |_=>none
def Wt8:CT:= .branch (decide (GW ((nsB a b c U O)) n<n)) (.leaf (.ret,(wX n a b c U O f n1 0 .ret).getD (M1 n a b c U O f n1))) (.leaf (.exit 0,(wX n a b c U O f n1 0 (.exit 0)).getD (M1 n a b c U O f n1)))
def Qh0:UI:=(HG (eG n a b c U O f n1 (0)) (Wt8 n a b c U O f n1))
end
abbrev W2(n:Nat)(a:Nat->Int)(b:Nat->Int)(c:Nat->Int)(U:Nat->Int)(O:Nat->Int):Prop:=(Q0 n a b c U O)=Q0 n a b c U O
theorem VD{p:Prop}(h:p:=by
 refine ⟨by have:=Xg6 hk hb;omega,λE hE=>?_⟩
 cases hE;exact hQ.1 (by rw [Xg6 hk hb];exact hk)):p:=h
section
variable (n:Nat)(a b c U O:Nat->Int)(f:Nat->List AV)(n1:Nat)
theorem Xa3(VR:n<=100000):G8 VO (.loop Xa0) (Qh0 n a b c U O f n1):=by
 refine HF (L:=[]) (Ae cH Aa) VY U3 (X:=Nat) (eG n a b c U O f n1) (λk=>k<=n/\ ∀j,j<k->(nsB a b c U O) j=false) (λk=>n-k) (wX n a b c U O f n1) (x0:=0) ⟨VJ,λj hj=>VJ⟩ ?_ ?_ ?_
 ·rintro k;kernel_rfl
 ·rintro k y E h;unfold wX at h;split at h
  ·cases h;kernel_rfl
  ·cases h;kernel_rfl
  ·cases h
 ·rintro Q hQ k hx;refine ⟨(k+1),?_⟩;(with_reducible refine DH (t:=branch (decide ((k:Int)<(n:Int))) (need [UJ k n] (branch (!saB (a k) (b k) (c k) (U k) (O k)) (need [W2 n a b c U O,VZ (WH n1 f),(k:Int)=(↑(GW (nsB a b c U O) n):Int),VZ (n:Int)] (leaf G7.ret)) (need [VL ((k:Int)+1)] (need [W2 n a b c U O,VZ (WH n1 f),VZ (n:Int),(k:Int)+1=(↑(k+1):Int)] (leaf G7.normal))))) (need [W2 n a b c U O,VZ (WH n1 f),VZ (n:Int)] (leaf (G7.exit 0)))) VT ?_);simp only [Wt8,wX,VM.sat,GT,HA] at hQ;simp only [VM.sat,UB,UH,HA,VL,wX,DZ];have Xg6:k<n->((nsB a b c U O)) k=true->GW ((nsB a b c U O)) n=k:=λh hb=>zG h hb hx.2
  have PI: ¬k<n->GW ((nsB a b c U O)) n=n:=λh=>BV (λj hj=>hx.2 j VJ)
  have hgo:((nsB a b c U O)) k=false-> ∀j,j<k+1->((nsB a b c U O)) j=false:=by
   intro hb j hj;rcases (show j<k\/j=k by omega) with h1|rfl
   ·exact hx.2 j h1
   ·exact hb
  refine ⟨λh=>⟨VJ,?_⟩,λh=>?_⟩
  rotate_left
  ·intro E hE;cases hE;exact hQ.2 (by rw [PI VJ];omega)
  have hk:k<n:=VJ;refine ⟨λhb=>?_,λhb=>?_⟩
  ·exact VD
  ·exact ⟨VJ,VJ,⟨VJ,hgo hb⟩,VJ⟩
theorem Zg5(VR:n<=100000):VX VO 199 [sls n a b c U O,.fn (.func 170) [] [.ro [.fn (.func 129) [.agg [i 4,i 10,.lst 5 n1 f]] []]]] (i (if GW ((nsB a b c U O)) n<n then (GW ((nsB a b c U O)) n:Int) else -1)):=by
 refine U1 (L:=[Qh0 n a b c U O f n1]) (Ae cH Aa) VY Tryz.func199 (UT Tryz.f199) (G0 (lpE (b:= .loop Xa0) VT<|Xa3 n a b c U O f n1 VR)) (t:=need [W2 n a b c U O,VZ (WH n1 f),VZ (n:Int),(0:Int)=(↑(0:Nat):Int)] (branch (decide (GW (nsB a b c U O) n<n)) (leaf (RV.x (.int .i64 (↑(GW (nsB a b c U O) n):Int)))) (leaf (RV.x (KI))))) VT ?_
 exact VB
end
def Xs7:UW
 |[.lst 5 n f,.fn (.func 170) [] [.ro [.fn (.func 129) [.agg [.x (.int .i64 4),.x (.int .i64 10),.lst 5 n1 f1]] []]]]=>some ([UF 5 n f,n<=100000],i (if GW (nsB (col 0 f) (col 1 f) (col 2 f) (col 3 f) (col 4 f)) n<n then (GW (nsB (col 0 f) (col 1 f) (col 2 f) (col 3 f) (col 4 f)) n:Int) else -1))
 |_=>none
theorem Zg4:VP VO 199 Xs7:=by
 refine ⟨(UG Tryz.func199),?_⟩;intro avs ns res h hn;unfold Xs7 at h;split at h
 ·cases h;have hr:_:=hn _ (GG);have hr1:_:=hn _ (HO _ (GG));exact (Zg5 _ (col 0 _) (col 1 _) (col 2 _) (col 3 _) (col 4 _) _ _ hr1).same (.cons (.lst 5 _ _ _ hr) (.cons (.refl _) .nil))
 ·cases h
theorem Zg7(n:Nat)(a b c U O:Nat->Int)(f:Nat->List AV)(n1:Nat)(VR:n<=100000):VX VO 169 [sls n a b c U O,.fn (.func 170) [] [.ro [.fn (.func 129) [.agg [i 4,i 10,.lst 5 n1 f]] []]]] (bl (!zR n a b c U O)):=by
 refine U1 (L:=[]) (Ae Zg4 Aa) VY Tryz.func169 (UT Tryz.f169) U3 (t:=need [UF 5 n λk=>[i (a k),i (b k),i (c k),i (U k),i (O k)],n<=100000] (leaf (RV.x (.bool (decide ((if GW (nsB a b c U O) n<n then (↑(GW (nsB a b c U O) n):Int) else (-1:Int))>=(0:Int))))))) VT ?_
 simp only [VM.sat,UB,G4,UD,UH];refine ⟨⟨λ_ _=>rfl,VR⟩,?_⟩
 unfold zR;rw [kB];have:=F2 (nsB a b c U O) n;have e:(λk=> !(λk=>saB (a k) (b k) (c k) (U k) (O k)) k)=nsB a b c U O:=rfl
 rw [e];show decide ((if GW (nsB a b c U O) n<n then (GW (nsB a b c U O) n:Int) else -1)>=0)=_
 split<;>simp<;>omega
def Xs8:UW
 |[.lst 5 n f,.fn (.func 170) [] [.ro [.fn (.func 129) [.agg [.x (.int .i64 4),.x (.int .i64 10),.lst 5 n1 f1]] []]]]=>some ([UF 5 n f,n<=100000],bl (!zR n (col 0 f) (col 1 f) (col 2 f) (col 3 f) (col 4 f)))
 |_=>none
theorem Zg6:VP VO 169 Xs8:=by
 refine ⟨(UG Tryz.func169),?_⟩;intro avs ns res h hn;unfold Xs8 at h;split at h
 ·cases h;have hr:_:=hn _ (GG);have hr1:_:=hn _ (HO _ (GG));exact (Zg7 _ (col 0 _) (col 1 _) (col 2 _) (col 3 _) (col 4 _) _ _ hr1).same (.cons (.lst 5 _ _ _ hr) (.cons (.refl _) .nil))
 ·cases h
theorem Xd4(n:Nat)(a b c U O:Nat->Int)(f:Nat->List AV)(n1:Nat)(VR:n<=100000):VX VO 130 [sls n a b c U O,.fn (.func 129) [.agg [i 4,i 10,.lst 5 n1 f]] []] (bl (zR n a b c U O)):=by
 refine U1 (L:=[]) (Ae Zg6 Aa) VY Tryz.func130 (UT Tryz.f130) U3 (t:=need [UF 5 n λk=>[i (a k),i (b k),i (c k),i (U k),i (O k)],n<=100000] (leaf (RV.x (.bool !!zR n a b c U O)))) VT ?_
 simp only [VM.sat,UB,G4,UD,UH];refine ⟨⟨λ_ _=>rfl,VR⟩,?_⟩
 show (!!zR n a b c U O)=_;simp
def Wu5:UW
 |[.lst 5 n f,.fn (.func 129) [.agg [.x (.int .i64 4),.x (.int .i64 10),.lst 5 n1 f1]] []]=>some ([UF 5 n f,n<=100000],bl (zR n (col 0 f) (col 1 f) (col 2 f) (col 3 f) (col 4 f)))
 |_=>none
theorem Xd3:VP VO 130 Wu5:=by
 refine ⟨(UG Tryz.func130),?_⟩;intro avs ns res h hn;unfold Wu5 at h;split at h
 ·cases h;have hr:_:=hn _ (GG);have hr1:_:=hn _ (HO _ (GG));exact (Xd4 _ (col 0 _) (col 1 _) (col 2 _) (col 3 _) (col 4 _) _ _ hr1).same (.cons (.lst 5 _ _ _ hr) (.cons (.refl _) .nil))
 ·cases h
theorem N9(n:Nat)(a b c U O:Nat->Int)(VR:n<=8):VX VO 83 [.agg [i 4,i 10,sls n a b c U O]] (i (if zR n a b c U O then 0 else 1)):=by
 refine U1 (L:=[]) (Ae Xd3 (Ae xW Aa)) VY Tryz.func83 (UT Tryz.f83) U3 (t:=branch (decide ((n:Int)>8)) (leaf (RV.x (KK))) (branch (!bt (1:Int) (4:Int) (6:Int)) (leaf (RV.x (JV))) (branch (!bt (0:Int) (10:Int) (1000:Int)) (leaf (RV.x (JV))) (need [UF 5 n λk=>[i (a k),i (b k),i (c k),i (U k),i (O k)],n<=100000] (branch (!zR n a b c U O) (leaf (RV.x (JV))) (leaf (RV.x (X0)))))))) VT ?_
 simp only [VM.sat,UB,G4,UD,UH];have h1:(!bt 1 4 6)=false:=by decide
 have h2:(!bt 0 10 1000)=false:=by decide
 rw [h1,h2];refine ⟨λh=>absurd h (by simp;omega),λ_=>⟨λh=>(Bool.noConfusion h),λ_=>⟨λh=>(Bool.noConfusion h),λ_=>⟨⟨λ_ _=>rfl,VJ⟩,λh=>?_,λh=>?_⟩⟩⟩⟩
 ·rw [Ax] at h;rw [h];rfl
 ·rw [Bool.not_eq_false'] at h;rw [h];rfl
def sg0(k:Nat):Int:=if k=0 then 10 else 0
def sld(F:Nat->Int)(a b c:Int)(k:Nat):Int:=if (k:Int)=b then (if (k:Int)=a then F k-c else F k)+c else if (k:Int)=a then F k-c else F k
abbrev sgs(F:Nat->Int):AV:= .agg [i (F 0),i (F 1),i (F 2),i (F 3),i (F 4),i (F 5)]
def lH:UW
 |[.agg [.x (.int .i64 4),.x (.int .i64 10),.lst 5 n f]]=>some ([],.agg [i 10,i 0,i 0,i 0,i 0,i 0])
 |_=>none
abbrev Q3:List Int:=[(0:Int),0,0,0,0,0]
theorem Qj9(f:Nat->List AV)(n:Nat):VX VO 132 [.agg [i 4,i 10,.lst 5 n f]] (.agg [i 10,i 0,i 0,i 0,i 0,i 0]):=by
 refine GV Tryz.func132 (t:=let W:=(UR 4 (UR 0 (10:Int) (BE Q3) 4) (UR 3 (UR 0 (10:Int) (BE Q3) 3) (UR 2 (UR 0 (10:Int) (BE Q3) 2) (UR 1 (UR 0 (10:Int) (BE Q3) 1) (UR 0 (UR 0 (10:Int) (BE Q3) 0) (zY 0 [(10:Int)] (BE Q3)))))));let z1:=(UR 0 (10:Int) (BE Q3) 5);(need [UJ 0 6] (need [1<=6] (need [6<=6] (need [6<=6] (leaf (RV.agg [RV.x (.int .i64 (UR 5 z1 W 0)),RV.x (.int .i64 (UR 5 z1 W 1)),RV.x (.int .i64 (UR 5 z1 W 2)),RV.x (.int .i64 (UR 5 z1 W 3)),RV.x (.int .i64 (UR 5 z1 W 4)),RV.x (.int .i64 (UR 5 z1 W 5))]))))))) VT ?_;exact V0
theorem N8:VP VO 132 lH:=by
 refine ⟨(UG Tryz.func132),?_⟩;intro avs ns res h hn;unfold lH at h;split at h
 ·cases h;exact Qj9 _ _
 ·cases h
theorem Wa4(F:Nat->Int)(a b c U O:Int)(VR: ∀k,k<6-> -1000000<=F k/\F k<=1000000)(UE:0<=a/\a<=3)(HQ:0<=b/\b<=3)(F1:a≠b)(BL:1<=c/\c<=1000):VX VO 134 [sgs F,.agg [i a,i b,i c,i U,i O]] (sgs (sld F a b c)):=by
 refine GV Tryz.func134 (t:=let z1:=(zY (Int.toNat a*1+0) [U8 [F 0,F 1,F 2,F 3,F 4,F 5] (Int.toNat a*1+0)-c] (U8 [F 0,F 1,F 2,F 3,F 4,F 5]));let W:=(UR 4 (UR (Int.toNat b*1+0) (UR (Int.toNat a*1+0) (U8 [F 0,F 1,F 2,F 3,F 4,F 5] (Int.toNat a*1+0)-c) (U8 [F 0,F 1,F 2,F 3,F 4,F 5]) (Int.toNat b*1+0)+c) z1 4) (UR 3 (UR (Int.toNat b*1+0) (UR (Int.toNat a*1+0) (U8 [F 0,F 1,F 2,F 3,F 4,F 5] (Int.toNat a*1+0)-c) (U8 [F 0,F 1,F 2,F 3,F 4,F 5]) (Int.toNat b*1+0)+c) z1 3) (UR 2 (UR (Int.toNat b*1+0) (UR (Int.toNat a*1+0) (U8 [F 0,F 1,F 2,F 3,F 4,F 5] (Int.toNat a*1+0)-c) (U8 [F 0,F 1,F 2,F 3,F 4,F 5]) (Int.toNat b*1+0)+c) z1 2) (UR 1 (UR (Int.toNat b*1+0) (UR (Int.toNat a*1+0) (U8 [F 0,F 1,F 2,F 3,F 4,F 5] (Int.toNat a*1+0)-c) (U8 [F 0,F 1,F 2,F 3,F 4,F 5]) (Int.toNat b*1+0)+c) z1 1) (UR 0 (UR (Int.toNat b*1+0) (UR (Int.toNat a*1+0) (U8 [F 0,F 1,F 2,F 3,F 4,F 5] (Int.toNat a*1+0)-c) (U8 [F 0,F 1,F 2,F 3,F 4,F 5]) (Int.toNat b*1+0)+c) z1 0) (BE Q3))))));let z2:=(UR (Int.toNat b*1+0) (UR (Int.toNat a*1+0) (U8 [F 0,F 1,F 2,F 3,F 4,F 5] (Int.toNat a*1+0)-c) (U8 [F 0,F 1,F 2,F 3,F 4,F 5]) (Int.toNat b*1+0)+c) z1 5);(need [UJ a 6] (need [Int.toNat a*1+0<List.length [F 0,F 1,F 2,F 3,F 4,F 5]] (need [VL (U8 [F 0,F 1,F 2,F 3,F 4,F 5] (Int.toNat a*1+0)-c)] (need [UJ a 6] (need [Int.toNat a*1+0+List.length [U8 [F 0,F 1,F 2,F 3,F 4,F 5] (Int.toNat a*1+0)-c]<=List.length [F 0,F 1,F 2,F 3,F 4,F 5]] (need [UJ b 6] (need [Int.toNat b*1+0<List.length [F 0,F 1,F 2,F 3,F 4,F 5]] (need [VL (UR (Int.toNat a*1+0) (U8 [F 0,F 1,F 2,F 3,F 4,F 5] (Int.toNat a*1+0)-c) (U8 [F 0,F 1,F 2,F 3,F 4,F 5]) (Int.toNat b*1+0)+c)] (need [UJ b 6] (need [Int.toNat b*1+0+List.length [UR (Int.toNat a*1+0) (U8 [F 0,F 1,F 2,F 3,F 4,F 5] (Int.toNat a*1+0)-c) (U8 [F 0,F 1,F 2,F 3,F 4,F 5]) (Int.toNat b*1+0)+c]<=List.length [F 0,F 1,F 2,F 3,F 4,F 5]] (need [6<=List.length [F 0,F 1,F 2,F 3,F 4,F 5]] (need [0+List.length [UR (Int.toNat b*1+0) (UR (Int.toNat a*1+0) (U8 [F 0,F 1,F 2,F 3,F 4,F 5] (Int.toNat a*1+0)-c) (U8 [F 0,F 1,F 2,F 3,F 4,F 5]) (Int.toNat b*1+0)+c) z1 0,UR (Int.toNat b*1+0) (UR (Int.toNat a*1+0) (U8 [F 0,F 1,F 2,F 3,F 4,F 5] (Int.toNat a*1+0)-c) (U8 [F 0,F 1,F 2,F 3,F 4,F 5]) (Int.toNat b*1+0)+c) z1 1,UR (Int.toNat b*1+0) (UR (Int.toNat a*1+0) (U8 [F 0,F 1,F 2,F 3,F 4,F 5] (Int.toNat a*1+0)-c) (U8 [F 0,F 1,F 2,F 3,F 4,F 5]) (Int.toNat b*1+0)+c) z1 2,UR (Int.toNat b*1+0) (UR (Int.toNat a*1+0) (U8 [F 0,F 1,F 2,F 3,F 4,F 5] (Int.toNat a*1+0)-c) (U8 [F 0,F 1,F 2,F 3,F 4,F 5]) (Int.toNat b*1+0)+c) z1 3,UR (Int.toNat b*1+0) (UR (Int.toNat a*1+0) (U8 [F 0,F 1,F 2,F 3,F 4,F 5] (Int.toNat a*1+0)-c) (U8 [F 0,F 1,F 2,F 3,F 4,F 5]) (Int.toNat b*1+0)+c) z1 4,UR (Int.toNat b*1+0) (UR (Int.toNat a*1+0) (U8 [F 0,F 1,F 2,F 3,F 4,F 5] (Int.toNat a*1+0)-c) (U8 [F 0,F 1,F 2,F 3,F 4,F 5]) (Int.toNat b*1+0)+c) z1 5]<=6] (leaf (RV.agg [RV.x (.int .i64 (UR 5 z2 W 0)),RV.x (.int .i64 (UR 5 z2 W 1)),RV.x (.int .i64 (UR 5 z2 W 2)),RV.x (.int .i64 (UR 5 z2 W 3)),RV.x (.int .i64 (UR 5 z2 W 4)),RV.x (.int .i64 (UR 5 z2 W 5))]))))))))))))))) VT ?_;simp only [VM.sat,UB,G4,GJ,UD,UH,VL];obtain ⟨A,rfl⟩: ∃A:Nat,a=A:=⟨a.toNat,VJ⟩;obtain ⟨B,rfl⟩: ∃B:Nat,b=B:=⟨b.toNat,VJ⟩;have h0:=VR 0 VJ;have h1:=VR 1 VJ;have h2:=VR 2 VJ;have h3:=VR 3 VJ
 have h4:=VR 4 VJ;have h5:=VR 5 VJ;rcases (show A=0\/A=1\/A=2\/A=3 by omega) with rfl|rfl|rfl|rfl<;>rcases (show B=0\/B=1\/B=2\/B=3 by omega) with rfl|rfl|rfl|rfl<;>first|(exfalso;omega)|(simp [GL,UR,U8,sld];omega)
def Qd8:UW
 |[.agg [.x (.int .i64 s0),.x (.int .i64 s1),.x (.int .i64 s2),.x (.int .i64 s3),.x (.int .i64 s4),.x (.int .i64 s5)],.agg [.x (.int .i64 a),.x (.int .i64 b),.x (.int .i64 c),.x (.int .i64 U),.x (.int .i64 O)]]=>some ([-1000000<=s0/\s0<=1000000,-1000000<=s1/\s1<=1000000,-1000000<=s2/\s2<=1000000,-1000000<=s3/\s3<=1000000,-1000000<=s4/\s4<=1000000,-1000000<=s5/\s5<=1000000,0<=a/\a<=3,0<=b/\b<=3,a≠b,1<=c/\c<=1000],sgs (sld (U8 [s0,s1,s2,s3,s4,s5]) a b c))
 |_=>none
def sV(n:Nat)(a b c U O:Nat->Int):Prop:=n<=8/\ ∀k,k<n->saB (a k) (b k) (c k) (U k) (O k)=true
def stF(a b c:Nat->Int)(d:Int):Nat->Nat->Int
 | 0=>sg0
 |k+1=>if ML d k then sld (stF a b c d k) (a k) (b k) (c k) else stF a b c d k
theorem cF:VP VO 134 Qd8:=by
 refine ⟨(UG Tryz.func134),?_⟩;intro avs ns res h hn;unfold Qd8 at h;split at h
 ·cases h;rename_i s0 s1 s2 s3 s4 s5 a b c U O;refine Wa4 (U8 [s0,s1,s2,s3,s4,s5]) a b c U O ?_ (hn _ VV) (hn _ VV) (hn _ VV) (hn _ VV);intro k hk
  match k,hk with
  | 0,_=>exact hn (-1000000<=s0/\s0<=1000000) VV
  | 1,_=>exact hn (-1000000<=s1/\s1<=1000000) VV
  | 2,_=>exact hn (-1000000<=s2/\s2<=1000000) VV
  | 3,_=>exact hn (-1000000<=s3/\s3<=1000000) VV
  | 4,_=>exact hn (-1000000<=s4/\s4<=1000000) VV
  | 5,_=>exact hn (-1000000<=s5/\s5<=1000000) VV
 ·cases h
theorem upd6(F:Nat->Int)(a b c:Int)(q:Nat)(hq:q<6):
  UR 5 (sld (U8 [F 0,F 1,F 2,F 3,F 4,F 5]) a b c 5) (UR 4 (sld (U8 [F 0,F 1,F 2,F 3,F 4,F 5]) a b c 4) (UR 3 (sld (U8 [F 0,F 1,F 2,F 3,F 4,F 5]) a b c 3)
   (UR 2 (sld (U8 [F 0,F 1,F 2,F 3,F 4,F 5]) a b c 2) (UR 1 (sld (U8 [F 0,F 1,F 2,F 3,F 4,F 5]) a b c 1) (UR 0 (sld (U8 [F 0,F 1,F 2,F 3,F 4,F 5]) a b c 0) F))))) q=sld F a b c q:=by
 match q,hq with
 | 0,_=>rfl
 | 1,_=>rfl
 | 2,_=>rfl
 | 3,_=>rfl
 | 4,_=>rfl
 | 5,_=>rfl
theorem Xp5(F:Nat->Int)(x0 x1 x2 x3 x4 x5:Int)(q:Nat)(hq:q<6):
  UR 5 x5 (UR 4 x4 (UR 3 x3 (UR 2 x2 (UR 1 x1 (UR 0 x0 F))))) q=U8 [x0,x1,x2,x3,x4,x5] q:=by
 match q,hq with
 | 0,_=>rfl
 | 1,_=>rfl
 | 2,_=>rfl
 | 3,_=>rfl
 | 4,_=>rfl
 | 5,_=>rfl
theorem t8{n:Nat}{a b c U O:Nat->Int}(h:sV n a b c U O){k:Nat}(hk:k<n):(0<=a k/\a k<=3)/\(0<=b k/\b k<=3)/\a k≠b k/\(1<=c k/\c k<=1000)/\(0<=U k/\U k<=100)/\(0<=O k/\O k<=100)/\U k<=O k:=Xc0.1 (h.2 k hk)
theorem Qx9{n:Nat}{a b c U O:Nat->Int}(h:sV n a b c U O)(d:Int): ∀k,k<=n-> ∀j,-(1000*k:Int)<=stF a b c d k j/\stF a b c d k j<=10+1000*k
 | 0,_,j=>by
  simp only [stF,sg0];split<;>omega
 |k+1,hk,j=>by
  obtain ⟨_,_,h3,h4,_⟩:=t8 h (show k<n by omega)
  have ih:=Qx9 h d k VJ j;simp only [stF];split
  ·unfold sld
   repeat' split
   all_goals omega
  ·omega
theorem Zc3{n:Nat}{a b c U O:Nat->Int}(h:sV n a b c U O)(d:Int){k:Nat}(hk:k<=n)(j:Nat): -1000000<=stF a b c d k j/\stF a b c d k j<=1000000:=by
 have:=Qx9 h d k hk j;have:=h.1;omega
abbrev QQ(n:Nat)(a:Nat->Int)(b:Nat->Int)(c:Nat->Int)(U:Nat->Int)(O:Nat->Int)(ea:AV)(la:AV):AV:=AV.ro [iI 4,iI 10,Q0 n a b c U O,ea,la]
section
variable (ea la:AV)(n:Nat)(a b c U O:Nat->Int)(d:Int)
def Zp3:St:={σ:=[QQ n a b c U O ea la,iI d,top,top,ptr 0 0,ptr 6 0]++HH 11 [Q0 n a b c U O,iI (n:Int)]++HH 13 [],m:=[(6,GN.ints 193 [] 6 λa=>UR 5 (0:Int) (UR 4 (0:Int) (UR 3 (0:Int) (UR 2 (0:Int) (UR 1 (0:Int) (UR 0 (10:Int) (BE Q3)))))) a),(0,GN.ints 193 [] 6 λa=>(0:Int))],nx:=15}
noncomputable def Jo5:Code:=U9 (VS (U7 Tryz.f88) 0)
def Wf5(k:Nat):St:={σ:=H4 [(6,.top),(7,.top),(19,i k)] (Zp3 ea la n a b c U O d).σ,m:=[(6,.ints 193 [] 6 (stF a b c d (k))),(0,.ints 193 [] 6 (λ_=>0))],nx:=15}
def C7(k:Nat):G7->Option St
 | .exit 0=>some {σ:=H4 [(6,.top),(7,.top),(19,i n)] (Zp3 ea la n a b c U O d).σ,m:=[(6,.ints 193 [] 6 (stF a b c d (n))),(0,.ints 193 [] 6 (λ_=>0))],nx:=15}
 |_=>none
def Jj6:CT:= .leaf (.exit 0,(C7 ea la n a b c U O d 0 (.exit 0)).getD (Zp3 ea la n a b c U O d))
def Xu1:UI:=(HG (Wf5 ea la n a b c U O d (0)) (Jj6 ea la n a b c U O d))
end
abbrev ZM(n:Nat)(a:Nat->Int)(b:Nat->Int)(c:Nat->Int)(U:Nat->Int)(O:Nat->Int)(ea:AV)(la:AV):Prop:=QQ n a b c U O ea la=QQ n a b c U O ea la
section
variable (ea la:AV)(n:Nat)(a b c U O:Nat->Int)(d:Int)
theorem Zx3(VR:sV n a b c U O)(UE:0<=d/\d<256):G8 VO (.loop Jo5) (Xu1 ea la n a b c U O d):=by
 refine HF (L:=[]) (Ae rS (Ae cF (Ae N8 Aa))) VY U3 (X:=Nat) (Wf5 ea la n a b c U O d) (λk=>k<=n) (λk=>n-k) (C7 ea la n a b c U O d) (x0:=0) VJ ?_ ?_ ?_
 ·rintro k;kernel_rfl
 ·rintro k y E h;unfold C7 at h;split at h
  ·cases h;kernel_rfl
  ·cases h
 ·rintro Q hQ k hx;refine ⟨(k+1),?_⟩;(with_reducible refine DH (t:=let z1:=stF a b c d k;let W:=(U8 [z1 0,z1 1,z1 2,z1 3,z1 4,z1 5]);(branch (decide ((k:Int)<(n:Int))) (need [UJ k n] (need [(0:Int)<=(k:Int)/\(k:Int)<=64] (branch (ML d k) (need [6<=6] (need [(-1000000:Int)<=z1 0/\z1 0<=1000000,(-1000000:Int)<=z1 1/\z1 1<=1000000,(-1000000:Int)<=z1 2/\z1 2<=1000000,(-1000000:Int)<=z1 3/\z1 3<=1000000,(-1000000:Int)<=z1 4/\z1 4<=1000000,(-1000000:Int)<=z1 5/\z1 5<=1000000,(0:Int)<=a k/\a k<=3,(0:Int)<=b k/\b k<=3,a k≠b k,(1:Int)<=c k/\c k<=1000] (need [0+List.length [sld W (a k) (b k) (c k) 0,sld W (a k) (b k) (c k) 1,sld W (a k) (b k) (c k) 2,sld W (a k) (b k) (c k) 3,sld W (a k) (b k) (c k) 4,sld W (a k) (b k) (c k) 5]<=6] (need [VL ((k:Int)+1)] (need [ZM n a b c U O ea la,d=d,QO,YP,W2 n a b c U O,VZ (n:Int),(k:Int)+1=(↑(k+1):Int),6=6,GU 6 (UR 5 (sld W (a k) (b k) (c k) 5) (UR 4 (sld W (a k) (b k) (c k) 4) (UR 3 (sld W (a k) (b k) (c k) 3) (UR 2 (sld W (a k) (b k) (c k) 2) (UR 1 (sld W (a k) (b k) (c k) 1) (UR 0 (sld W (a k) (b k) (c k) 0) (z1))))))) (stF a b c d (k+1)),6=6,∀(k:Nat),k<6->(0:Int)=0] (leaf G7.normal)))))) (need [VL ((k:Int)+1)] (need [ZM n a b c U O ea la,d=d,QO,YP,W2 n a b c U O,VZ (n:Int),(k:Int)+1=(↑(k+1):Int),6=6,GU 6 z1 (stF a b c d (k+1)),6=6,∀(k:Nat),k<6->(0:Int)=0] (leaf G7.normal)))))) (need [ZM n a b c U O ea la,d=d,QO,YP,W2 n a b c U O,VZ (n:Int),(k:Int)=(n:Int),6=6,GU 6 z1 (stF a b c d n),6=6,∀(k:Nat),k<6->(0:Int)=0] (leaf (G7.exit 0))))) VT ?_);simp only [Jj6,C7,VM.sat,GT] at hQ;simp only [VM.sat,UB,G4,GJ,UD,VL,UH,HA,FY,RA,RW,GL,C7]
  have h8:=VR.1;refine ⟨λh=>?_,λh=>?_⟩
  ·have hs:=t8 VR (show k<n by omega)
   have hl:=Zc3 VR d (show k<=n by omega)
   cases hb:ML d k
   ·(with_reducible repeat' first|apply Al|intro _)
    all_goals first|exact P3|(first|contradiction|(simp [stF,hb]))
   ·(with_reducible repeat' first|apply Al|intro _)
    all_goals first|exact P3|(first|contradiction|exact (hl _).1|exact (hl _).2|(simp only [stF,hb,if_true];exact upd6 _ _ _ _ _ (by assumption)))
  ·obtain rfl:k=n:=VJ;exact YZ
theorem nE(VR:sV n a b c U O)(UE:0<=d/\d<256):VX VO 88 [.ro [i 4,i 10,sls n a b c U O,ea,la],i d] (sgs (stF a b c d n)):=by
 refine U1 (L:=[Xu1 ea la n a b c U O d]) (Ae rS (Ae cF (Ae N8 Aa))) VY Tryz.func88 (UT Tryz.f88) (G0 (lpE (b:= .loop Jo5) VT<|Zx3 ea la n a b c U O d VR UE)) (t:=let z1:=stF a b c d n;let W:=(UR 4 (z1 4) (UR 3 (z1 3) (UR 2 (z1 2) (UR 1 (z1 1) (UR 0 (z1 0) λx=>(0:Int))))));(need [6<=6] (need [ZM n a b c U O ea la,d=d,QO,YP,W2 n a b c U O,VZ (n:Int),(0:Int)=(↑(0:Nat):Int),6=6,GU 6 (UR 5 (0:Int) (UR 4 (0:Int) (UR 3 (0:Int) (UR 2 (0:Int) (UR 1 (0:Int) (UR 0 (10:Int) (BE Q3))))))) (stF a b c d 0),6=6,∀(k:Nat),k<6->(0:Int)=0] (need [6<=6] (need [0+List.length [z1 0,z1 1,z1 2,z1 3,z1 4,z1 5]<=6] (leaf (RV.agg [RV.x (.int .i64 (UR 5 (z1 5) W 0)),RV.x (.int .i64 (UR 5 (z1 5) W 1)),RV.x (.int .i64 (UR 5 (z1 5) W 2)),RV.x (.int .i64 (UR 5 (z1 5) W 3)),RV.x (.int .i64 (UR 5 (z1 5) W 4)),RV.x (.int .i64 (UR 5 (z1 5) W 5))]))))))) VT ?_
 simp only [VM.sat,UB,G4,GJ,UD,UH]
 (with_reducible repeat' first|apply Al|intro _)
 all_goals first|exact Ak|omega|with_reducible rfl|rfl|(simp;done)|skip
 rename_i q hq;rw [Xp5 _ _ _ _ _ _ _ q hq]
 match q,hq with
 | 0,_=>rfl
 | 1,_=>rfl
 | 2,_=>rfl
 | 3,_=>rfl
 | 4,_=>rfl
 | 5,_=>rfl
end
section
variable (n:Nat)(a b c U O:Nat->Int)
def dY:UW
 |[.ro [.x (.int .i64 4),.x (.int .i64 10),.lst 5 n1 f1,ea,la],.x (.int .i64 d)]=>some ([lst 5 n1 f1=sls n a b c U O,0<=d/\d<256],sgs (stF a b c d n))
 |_=>none
theorem qR(VR:sV n a b c U O):VP VO 88 (dY n a b c U O):=by
 refine ⟨(UG Tryz.func88),?_⟩;intro avs ns res h hn;unfold dY at h;split at h
 ·cases h;rename_i n1 f1 ea la d;have e:=hn _ GG;rw [e];exact nE ea la n a b c U O d VR (hn _ VV)
 ·cases h
end
theorem uG{n:Nat}(h:n<=8):(1:Int)<=2^n/\(2:Int)^n<=256:=by
 rcases (show n=0\/n=1\/n=2\/n=3\/n=4\/n=5\/n=6\/n=7\/n=8 by omega) with rfl|rfl|rfl|rfl|rfl|rfl|rfl|rfl|rfl<;>decide
def IQ:UW
 |[.ro [.x (.int .i64 4),.x (.int .i64 10),.lst 5 n f,ea,la]]=>some ([n<=8],i (2^n-1))
 |_=>none
theorem Qj5(ea la:AV)(n:Nat)(f:Nat->List AV)(VR:n<=8):VX VO 86 [.ro [i 4,i 10,.lst 5 n f,ea,la]] (i (2^n-1)):=by
 refine GV Tryz.func86 (t:=need [(0:Int)<=(n:Int)/\(n:Int)<=64,VL ((1:Int)*2^n)] (need [VL ((1:Int)*2^n-1)] (leaf (RV.x (.int .i64 ((1:Int)*2^n-1)))))) VT ?_;simp only [VM.sat,UB,G4,GJ,UD,UH,Int.one_mul,VL];have h:=uG VR;omega
theorem LC:VP VO 86 IQ:=by
 refine ⟨(UG Tryz.func86),?_⟩;intro avs ns res h hn;unfold IQ at h;split at h
 ·cases h;exact Qj5 _ _ _ _ (hn _ VV)
 ·cases h
def G6(p:Nat->Bool):Nat->Nat
 | 0=>0
 |k+1=>G6 p k+(match p k with|true=>1|false=>0)
def UP(p:Nat->Bool)(n q:Nat):Nat:=GW (λj=>p j&&Nat.beq (G6 p j) q) n
def st6(F:Nat->Int):Nat->Int:=UR 5 (F 5) (UR 4 (F 4) (UR 3 (F 3) (UR 2 (F 2) (UR 1 (F 1) (UR 0 (F 0) (BE [0,0,0,0,0,0]))))))
def quB(n:Nat)(a b c:Nat->Int)(d:Int)(j:Nat):Bool:= !ML d j&&decide (stF a b c d n (a j).toNat>=c j)
def saV(a b c U O:Nat->Int)(j:Nat):List Value:=[.int .i64 j,.agg #[.int .i64 (a j),.int .i64 (b j),.int .i64 (c j),.int .i64 (U j),.int .i64 (O j)]]
def quV(n:Nat)(a b c U O:Nat->Int)(d:Int)(q:Nat):List Value:=saV a b c U O (UP (quB n a b c d) n q)
def quN(n:Nat)(a b c:Nat->Int)(d:Int):Nat:=G6 (quB n a b c d) n
theorem Zc4(F:Nat->Int){q:Nat}(hq:q<6):st6 F q=F q:=by
 unfold st6;rw [Xp5 _ _ _ _ _ _ _ q hq]
 match q,hq with
 | 0,_=>rfl
 | 1,_=>rfl
 | 2,_=>rfl
 | 3,_=>rfl
 | 4,_=>rfl
 | 5,_=>rfl
theorem OB(p:Nat->Bool){b c:Nat}(h:b<=c):G6 p b<=G6 p c:=by
 induction h with
 |refl=>exact Am _
 |step _ ih=>exact Ar ih (Nat.le_add_right _ _)
section
variable {p:Nat->Bool}
theorem F9{k:Nat}(h:p k=true):G6 p (k+1)=G6 p k+1:=by
 simp only [G6,h]
theorem RG{k:Nat}(h:p k=false):G6 p (k+1)=G6 p k:=by
 simp only [G6,h,Bg]
theorem BJ{n k:Nat}(hk:k<n)(h:p k=true):UP p n (G6 p k)=k:=by
 refine zG hk ?_ λj hj=>?_
 ·simp [h]
 ·cases hp:p j
  ·rfl
  ·have h1:=F9 hp;have h2:=OB p (show j+1<=k by omega)
   simp only [Bool.true_and];cases hb:Nat.beq (G6 p j) (G6 p k)
   ·rfl
   ·have:=GX hb;omega
end
theorem gL(p:Nat->Bool): ∀k,G6 p k<=k
 | 0=>Am 0
 |k+1=>by
  have:=gL p k;unfold G6;split<;>omega
theorem iW{p:Nat->Bool}: ∀{k q:Nat},q<G6 p k-> ∃j,j<k/\p j=true/\G6 p j=q
 | 0,q,h=>absurd h (by simp [G6])
 |k+1,q,h=>by
  rcases An q (G6 p k) with h1|h1
  ·obtain ⟨j,hj,h2⟩:=iW h1;exact ⟨j,VJ,h2⟩
  ·cases hp:p k
   ·rw [RG hp] at h;omega
   ·rw [F9 hp] at h;exact ⟨k,VJ,hp,VJ⟩
theorem kM{p:Nat->Bool}{n q:Nat}(h:q<G6 p n):UP p n q<n/\p (UP p n q)=true:=by
 obtain ⟨j,hj,hp,hc⟩:=iW h;rw [←hc,BJ hj hp];exact ⟨hj,hp⟩
def A2:UW
 |[.ro [.x (.int .i64 4),.x (.int .i64 10),.lst 5 n f,ea,la],.x (.int .i64 d)]=>some ([],.fn (.func 171) [] [.ro [.ro [i 4,i 10,.lst 5 n f,ea,la]],.ro [i d]])
 |_=>none
theorem Wa7(ea la:AV)(n:Nat)(f:Nat->List AV)(d:Int):FN VO 131 [.ro [i 4,i 10,.lst 5 n f,ea,la],i d] (.fn (.func 171) [] [.ro [.ro [i 4,i 10,.lst 5 n f,ea,la]],.ro [i d]]):=by
 refine D1 (L:=[]) Aa Ad VY Tryz.func131 (UT Tryz.f131) G5 (t:=leaf (AV.fn (Fn.func 171) [] [AV.ro [AV.ro [iI 4,iI 10,lst 5 n λa=>f a,ea,la]],AV.ro [iI d]])) VT ?_
 exact rfl
theorem N7:PF VO 131 A2:=by
 refine ⟨(UG Tryz.func131),?_⟩;intro avs ns res h hn;unfold A2 at h;split at h
 ·cases h;exact Wa7 _ _ _ _ _
 ·cases h
section
variable (l:Nat)(ea la:AV)(n:Nat)(a b c U O:Nat->Int)(d:Int)
def Wz1:St:={σ:=[AV.fn (Fn.yield l) [] [],AV.ro [QQ n a b c U O ea la],AV.ro [iI d],top,ptr 3 0]++HH 9 [Q0 n a b c U O,iI (n:Int)]++HH 26 [],m:=[(3,GN.ints 193 [] 6 λa_1=>UR 5 (stF a b c d n 5) (UR 4 (stF a b c d n 4) (UR 3 (stF a b c d n 3) (UR 2 (stF a b c d n 2) (UR 1 (stF a b c d n 1) (UR 0 (stF a b c d n 0) (BE Q3)))))) a_1)],nx:=12,gh:=some 0}
noncomputable def Zs3:Code:=U9 (VS (U7 Tryz.f171) 0)
def TJ(k:Nat):St:={σ:=H4 [(4,.roI [] 6 (st6 (stF a b c d n)) 0),(5,.top),(6,.top),(16,i k)] (Wz1 l ea la n a b c U O d).σ,m:=[],nx:=12,gh:=some (G6 (quB n a b c d) k) }
def jH(k:Nat):G7->Option St
 | .exit 0=>some {σ:=H4 [(4,.roI [] 6 (st6 (stF a b c d n)) 0),(5,.top),(6,.top),(16,i n)] (Wz1 l ea la n a b c U O d).σ,m:=[],nx:=12,gh:=some (quN n a b c d) }
 | .ret=>some {σ:=H4 [(4,.roI [] 6 (st6 (stF a b c d n)) 0),(5,.top),(6,.top),(16,.top)] (Wz1 l ea la n a b c U O d).σ,m:=[],nx:=12,gh:=none}
 |_=>none
def Jk6:CT:= .may True (.leaf (.exit 0,(jH l ea la n a b c U O d 0 (.exit 0)).getD (Wz1 l ea la n a b c U O d))) (.leaf (.ret,(jH l ea la n a b c U O d 0 .ret).getD (Wz1 l ea la n a b c U O d)))
def Xv1:UI:=GK [(.slot 4,3,193,1)] (HG (TJ l ea la n a b c U O d (0)) (Jk6 l ea la n a b c U O d))
end
abbrev ZR(a:Nat->Int)(b:Nat->Int)(c:Nat->Int)(d:Int)(n:Nat):Prop:=roI [] 6 (λa_1=>st6 (stF a b c d n) a_1) 0=roI [] 6 (λa_1=>st6 (stF a b c d n) a_1) 0
abbrev Y1(d:Int):Prop:=AV.ro [iI d]=AV.ro [iI d]
abbrev YA(n:Nat)(a:Nat->Int)(b:Nat->Int)(c:Nat->Int)(U:Nat->Int)(O:Nat->Int)(ea:AV)(la:AV):Prop:=AV.ro [QQ n a b c U O ea la]=AV.ro [QQ n a b c U O ea la]
theorem Ja4(l:Nat)(ea la:AV)(n:Nat)(a b c U O:Nat->Int)(d:Int)(VR:sV n a b c U O)(UE:0<=d/\d<256){cx:Cx}(hX:VW VO {Y:=some (l,(quN n a b c d),(quV n a b c U O d)) } cx):HI VO none cx (.loop Zs3) (Xv1 l ea la n a b c U O d):=by
 refine FJ [(.slot 4,3,193,1)] (L:=[]) (Ae rS (Ae (qR n a b c U O VR) Aa)) hX VY G5 (V:=Nat) (TJ l ea la n a b c U O d) (λk=>k<=n) (λk=>n-k) (jH l ea la n a b c U O d) (x0:=0) VV ?_ ?_ ?_
 ·rintro k;kernel_rfl
 ·rintro k y E h;unfold jH at h;split at h
  ·cases h;kernel_rfl
  ·cases h;kernel_rfl
  ·cases h
 ·rintro Q hQ k hx;refine ⟨(k+1),?_⟩;have e:HV VO [(133,pW),(88,(dY n a b c U O))] {Y:=some (l,(quN n a b c d),(quV n a b c U O d)) } [] [(.slot 4,3,193,1)] Zs3 (TJ l ea la n a b c U O d k) (TJ l ea la n a b c U O d ((k+1))) (jH l ea la n a b c U O d k)=(let z3:=YA n a b c U O ea la;let z2:=quB n a b c d;let W:=(need [VL ((k:Int)+1)] (need [XG l,z3,Y1 d,ZR a b c d n,W2 n a b c U O,VZ (n:Int),(k:Int)+1=(↑(k+1):Int),G6 (z2) k=G6 (z2) (k+1)] (leaf G7.normal)));let z1:=(UP (z2) n (G6 (z2) k));(branch (decide ((k:Int)<(n:Int))) (need [UJ k n] (need [(0:Int)<=(k:Int)/\(k:Int)<=64] (branch (!ML d k) (need [UJ (a k) 6] (need [(a k).toNat*1+0<6] (branch (decide (st6 (stF a b c d n) ((a k).toNat*1+0)>=c k)) (need [l=l,G6 (z2) k<quN n a b c d,[Value.int IntKind.i64 (k:Int),Value.agg {toList:=[Value.int IntKind.i64 (a k),Value.int IntKind.i64 (b k),Value.int IntKind.i64 (c k),Value.int IntKind.i64 (U k),Value.int IntKind.i64 (O k)] }]=[Value.int IntKind.i64 (z1:Int),Value.agg {toList:=[Value.int IntKind.i64 (a z1),Value.int IntKind.i64 (b z1),Value.int IntKind.i64 (c z1),Value.int IntKind.i64 (U z1),Value.int IntKind.i64 (O z1)] }]] (VM.may True (need [VL ((k:Int)+1)] (need [XG l,z3,Y1 d,ZR a b c d n,W2 n a b c U O,VZ (n:Int),(k:Int)+1=(↑(k+1):Int),G6 (z2) k+1=G6 (z2) (k+1)] (leaf G7.normal))) (need [XG l,z3,Y1 d,ZR a b c d n,W2 n a b c U O,VZ (n:Int)] (leaf G7.ret)))) W))) W))) (need [XG l,z3,Y1 d,ZR a b c d n,W2 n a b c U O,VZ (n:Int),(k:Int)=(n:Int),G6 (z2) k=quN n a b c d] (leaf (G7.exit 0))))):=VT;rw [e];simp only [Jk6,jH,VM.sat,GT] at hQ;have hQ1: ∀E,jH l ea la n a b c U O d k (.exit 0)=some E->Q (.exit 0,E):=λE hE=>by cases hE;exact hQ.1 trivial
  have hQ2: ∀E,jH l ea la n a b c U O d k .ret=some E->Q (.ret,E):=λE hE=>by cases hE;exact hQ.2
  simp only [VM.sat,UB,UH,HA,VL,DZ];clear e hQ;have h8:=VR.1;have hX:(a k).toNat*1+0=(a k).toNat:=VJ;rw [hX];refine ⟨λh=>?_,λh=>?_⟩
  ·have hk:k<n:=VJ;have hs:=t8 VR hk;have hno:quB n a b c d k=false->G6 (quB n a b c d) k=G6 (quB n a b c d) (k+1):=λh=>(RG h).symm
   rw [Zc4 _ (show (a k).toNat<6 by omega)]
   refine ⟨VJ,VJ,λh1=>⟨VJ,VJ,λh2=>?_,λh2=>?_⟩,λh1=>?_⟩
   ·have hq:quB n a b c d k=true:=by
     unfold quB;rw [h1,decide_eq_true h2];rfl
    have hy:=F9 hq;have hm:=OB (quB n a b c d) (show k+1<=n by omega)
    rw [BJ hk hq]
    (with_reducible repeat' first|apply Al|intro _)
    all_goals first|exact Ak|(simp only [quN];omega)|omega|rfl|exact hQ1 _ (by assumption)|exact hQ2 _ (by assumption)
   ·have hq:quB n a b c d k=false:=by
     unfold quB;rw [decide_eq_false h2,Bool.and_false]
    have hy:=RG hq;all_goals exact V6
   ·have hq:quB n a b c d k=false:=by
     unfold quB;rw [h1];rfl
    have hy:=RG hq;all_goals exact V6
  ·obtain rfl:k=n:=VJ;all_goals exact V6
theorem yX(ea la:AV)(n:Nat)(a b c U O:Nat->Int)(d:Int)(VR:sV n a b c U O)(UE:0<=d/\d<256):B6 Tryz.prog 171 [.ro [.ro [i 4,i 10,sls n a b c U O,ea,la]],.ro [i d]] ((quN n a b c d)) (quV n a b c U O d):=by
 refine BH (L:=λl=>[Xv1 l ea la n a b c U O d]) (Ae rS (Ae (qR n a b c U O VR) Aa)) VY (UG Tryz.func171) Tryz.func171 (UT Tryz.f171) VT (λl cx hX=>G0 (lpE (b:= .loop Zs3) VT<|Ja4 l ea la n a b c U O d VR UE hX)) (t:=λl=>(let W:=stF a b c d n;(need [W2 n a b c U O,(0:Int)<=d/\d<256] (need [0+List.length [W 0,W 1,W 2,W 3,W 4,W 5]<=6] (need [VZ (AV.fn (Fn.yield l) [] []),YA n a b c U O ea la,Y1 d,roI [] 6 (λa_1=>UR 5 (W 5) (UR 4 (W 4) (UR 3 (W 3) (UR 2 (W 2) (UR 1 (W 1) (UR 0 (W 0) (BE Q3)))))) a_1) 0=roI [] 6 (λa_1=>st6 (W) a_1) 0,W2 n a b c U O,VZ (n:Int),(0:Int)=(↑(0:Nat):Int),0=G6 (quB n a b c d) 0] (VM.may True (need [VZ (quN n a b c d)] (leaf PUnit.unit)) (leaf PUnit.unit))))))) (λl=>VT) ?_
 intro l;simp only [VM.sat,UB,G4,GJ,UD,UH];exact ⟨UE,VV,⟨rfl,rfl,rfl⟩,λ_=>trivial⟩
noncomputable def Qh2:HX:=dG Tryz.prog [] {} [] Tryz.f131 (U7 Tryz.f131)
theorem gZ:GB VO 131 Qh2:=
 FW (G:=[]) (X:=WA) (L:=[]) Aa Ad VY (UG Tryz.func131) Tryz.func131 (UT Tryz.f131) U3
section
variable (n:Nat)
abbrev ZE:AV:=iI ((2:Int)^n-1+1)
abbrev ZT(a:Nat->Int)(b:Nat->Int)(c:Nat->Int)(U:Nat->Int)(O:Nat->Int):List AV:=[iI 4,iI 10,Q0 n a b c U O]
abbrev KP(a:Nat->Int)(b:Nat->Int)(c:Nat->Int)(U:Nat->Int)(O:Nat->Int):List AV:=[iI 4,iI 10,Q0 n a b c U O,AV.row 901,AV.row 902]
abbrev Y8:GN:=GN.row 3 1 0 λx=>[]
abbrev YI:GN:=GN.cells 134 [ptr 4 0]
def Zq5(a b c U O:Nat->Int):St:={σ:=[agg (ZT n a b c U O),ptr 0 0,QE,ptr 5 0]++HH 14 [ZE n]++HH 140 [],m:=[(902,Y8),(901,Y8),(5,YI),(4,GN.cells 249 (KP n a b c U O)),(0,GN.cells 65 (ZT n a b c U O))],nx:=903}
noncomputable def Jp8:Code:=U9 (VS (U7 Tryz.f84) 0)
def Wh1(a b c U O:Nat->Int)(k:Nat):St:={σ:=H4 [(19,i k)] (Zq5 n a b c U O).σ,m:=[(902,.row 3 1 (k) (λz=>[i ((λ_=> -1) z)])),(901,.row 3 1 (k) (λz=>[i ((λ_=>101) z)])),(5,.cells 134 [.ptr 4 0]),(4,.cells 249 [i 4,i 10,sls n a b c U O,.row 901,.row 902]),(0,.cells 65 [i 4,i 10,sls n a b c U O])],nx:=903}
def CI(a b c U O:Nat->Int)(k:Nat):G7->Option St
 | .exit 0=>some {σ:=H4 [(19,i (2^n))] (Zq5 n a b c U O).σ,m:=[(902,.row 3 1 (2^n) (λz=>[i ((λ_=> -1) z)])),(901,.row 3 1 (2^n) (λz=>[i ((λ_=>101) z)])),(5,.cells 134 [.ptr 4 0]),(4,.cells 249 [i 4,i 10,sls n a b c U O,.row 901,.row 902]),(0,.cells 65 [i 4,i 10,sls n a b c U O])],nx:=903}
 |_=>none
def Jl4(a b c U O:Nat->Int):CT:= .leaf (.exit 0,(CI n a b c U O 0 (.exit 0)).getD (Zq5 n a b c U O))
abbrev K4:List (Pl×Nat×TypeId×Nat):=[(.cell 4 3,0,0,1),(.cell 4 4,0,0,1),(.cell 4 3,901,3,1),(.cell 4 4,902,3,1)]
def Xw1(a b c U O:Nat->Int):UI:=GK K4 (HG (Wh1 n a b c U O (0)) (Jl4 n a b c U O))
abbrev QH:Prop:=(2:Int)^n-1+1=2^n-1+1
abbrev QP(a:Nat->Int)(b:Nat->Int)(c:Nat->Int)(U:Nat->Int)(O:Nat->Int):Prop:=agg (ZT n a b c U O)=agg (ZT n a b c U O)
abbrev QZ:Prop:=(4:Int)=4
abbrev W9:Prop:=(10:Int)=10
abbrev WI:Prop:=AV.row 902=AV.row 902
abbrev ZX:List AV:=[iI 101]
abbrev YN:Nat->List AV:=λz=>[iI (-1:Int)]
theorem Jc6(a b c U O:Nat->Int)(VR:sV n a b c U O):G8 VO (.loop Jp8) (Xw1 n a b c U O):=by
 refine zA K4 (L:=[]) (Ae LC Aa) VY U3 (X:=Nat) (Wh1 n a b c U O) (λk=>k<=2^n) (λk=>2^n-k) (CI n a b c U O) (x0:=0) VV ?_ ?_ ?_
 ·rintro k;kernel_rfl
 ·rintro k y E h;unfold CI at h;split at h
  ·cases h;kernel_rfl
  ·cases h
 ·rintro Q hQ k hx;refine ⟨(k+1),?_⟩;(with_reducible refine DH (t:=let W:=(need [VL ((k:Int)+1)] (need [QP n a b c U O,QO,QE=QE,ZL,QH n,(k:Int)+1=(↑(k+1):Int),k+1=k+1,GU (k+1) (GE k (YN) (U4 1 [iI (-1:Int)])) (λi=>[iI (-1:Int)]),k+1=k+1,GU (k+1) (GE k (λz=>ZX) (U4 1 ZX)) (λi=>ZX),W5,QZ,W9,W2 n a b c U O,WG,WI,QZ,W9,W2 n a b c U O] (leaf G7.normal)));(branch (decide ((k:Int)<2^n-1+1)) (need [(k+1)*8<=140737488355328,∀(i:Nat),i<1-> ∀(a:AV),a∈U4 1 ZX i->AV.one a=true] (need [(k+1)*8<=140737488355328,RT 1 (U4 1 [iI (-1:Int)])] (VM.may True W (VM.may True W (VM.may True W (VM.may True W W)))))) (need [QP n a b c U O,QO,QE=QE,ZL,QH n,(k:Int)=2^n,k=2^n,∀(i:Nat),i<2^n->[iI (-1:Int)]=[iI (-1:Int)],k=2^n,∀(i:Nat),i<2^n->ZX=ZX,W5,QZ,W9,W2 n a b c U O,WG,WI,QZ,W9,W2 n a b c U O] (leaf (G7.exit 0))))) VT ?_)
  simp only [Jl4,CI,VM.sat,GT] at hQ;simp only [VM.sat,UB,G4,GJ,UD,VL,UH,HA,FY,RA,RW,GL,CI]
  have h8:=VR.1;have hp:=uG h8;have hpn:((2^n:Nat):Int)=2^n:=VV;refine ⟨λh=>?_,λh=>?_⟩
  ·have hk:k<2^n:=VJ
   (with_reducible repeat' first|apply Al|intro _)
   all_goals first|exact P3|(first|exact FG (by assumption) (by simp [AV.one,Value.oneCell'])|exact Pt.catF1 (a:=λ_=>101) (by assumption) rfl|exact Pt.catF1 (a:=λ_=> -1) (by assumption) rfl)
  ·obtain rfl:k=2^n:=VJ;exact YZ
end
def eQ(p:Nat->Bool)(n:Nat)(U O:Nat->Int)(d:Nat)(E:Nat->Int):Nat->Nat->Int
 | 0=>E
 |q+1=>if max (eQ p n U O d E q d) (U (UP p n q))<=O (UP p n q) then UR (d ||| 2^UP p n q) (min (eQ p n U O d E q (d ||| 2^UP p n q)) (max (eQ p n U O d E q d) (U (UP p n q)))) (eQ p n U O d E q) else eQ p n U O d E q
def eD(n:Nat)(a b c U O:Nat->Int):Nat->Nat->Int
 | 0=>λk=>if k=0 then 0 else 101
 |d+1=>if eD n a b c U O d d=101 then eD n a b c U O d else eQ (quB n a b c d) n U O d (eD n a b c U O d) (quN n a b c d)
section
variable (n:Nat)(a b c U O:Nat->Int)
noncomputable def Zq4:St:={σ:=[agg (ZT n a b c U O),ptr 0 0,QE,ptr 5 0]++HH 14 [ZE n,iI ((2:Int)^n)]++HH 27 [ZE n]++HH 111 [],m:=[(902,GN.row 3 1 (2^n) λz=>[iI (-1:Int)]),(901,GN.row 3 1 (2^n) λk=>iI (if decide (k=(0:Int).toNat)=true then (0:Int) else (101:Int))::Bool.rec ([]) ([]) (decide (k=(0:Int).toNat))),(5,YI),(4,GN.keep 249 (KP n a b c U O)),(0,GN.cells 65 (ZT n a b c U O))],nx:=913}
noncomputable def aX:Code:=U9 (VS (U7 Tryz.f84) 1)
noncomputable def Wh0(d:Nat):St:={σ:=H4 [(4,.top),(48,i d),(5,.top),(6,.top),(7,.top),(8,.top)] (Zq4 n a b c U O).σ,m:=[(902,.row 3 1 (2^n) (λz=>[i ((λ_=> -1) z)])),(901,.row 3 1 (2^n) (λz=>[i ((eD n a b c U O (d)) z)])),(5,.cells 134 [.ptr 4 0]),(4,.keep 249 [i 4,i 10,sls n a b c U O,.row 901,.row 902]),(0,.cells 65 [i 4,i 10,sls n a b c U O])],nx:=903}
noncomputable def CH(d:Nat):G7->Option St
 | .exit 2=>some {σ:=H4 [(4,.top),(48,i (2^n)),(5,.top),(6,.top),(7,.top),(8,.top)] (Zq4 n a b c U O).σ,m:=[(902,.row 3 1 (2^n) (λz=>[i ((λ_=> -1) z)])),(901,.row 3 1 (2^n) (λz=>[i ((eD n a b c U O (2^n)) z)])),(5,.cells 134 [.ptr 4 0]),(4,.keep 249 [i 4,i 10,sls n a b c U O,.row 901,.row 902]),(0,.cells 65 [i 4,i 10,sls n a b c U O])],nx:=903}
 |_=>none
noncomputable def Jl3:CT:= .leaf (.exit 2,(CH n a b c U O 0 (.exit 2)).getD (Zq4 n a b c U O))
noncomputable def Xw0:UI:=GK [(.cell 5 0,0,0,0)] (HG (Wh0 n a b c U O (0)) (Jl3 n a b c U O))
end
theorem BW{n d:Nat}(h8:n<=8)(h:d<2^n):(0:Int)<=d/\(d:Int)<256:=by
 have hp:=uG h8;have hpn:((2^n:Nat):Int)=2^n:=VV;omega
theorem tI{n d s:Nat}(h:d<2^n)(hs:s<n):d ||| 2^s<2^n:=Nat.or_lt_two_pow h (Nat.pow_lt_pow_right (by decide) hs)
theorem Wb4{n d s:Nat}(h8:n<=8)(h:d<2^n)(hs:s<n):IntKind.i64.wrap ((BitVec.ofInt 64 (d:Int) ||| BitVec.ofInt 64 (1*2^s)).toNat:Int)=((d ||| 2^s:Nat):Int):=by
 have h2:=BW h8 h;have h3:2^s<2^n:=Nat.pow_lt_pow_right (by decide) hs
 have h4:=BW h8 h3;have e:(1*2^s:Int)=((2^s:Nat):Int):=by rw [Int.one_mul];simp
 rw [e];exact Xd8 VJ VJ
theorem uC{F:Nat->Int}{v:Int}{q j:Nat}:H0 (decide (j=q)) [i v] [i (F j)]=[i (UR q v F j)]:=by
 unfold UR;by_cases h:j=q
 ·rw [decide_eq_true h,if_pos h];rfl
 ·rw [decide_eq_false h,if_neg h];rfl
abbrev ZY:AV:=AV.fn (Fn.func 171) [] [ptr 917 0,ptr 918 0]
section
variable (n:Nat)(a b c U O:Nat->Int)(d:Nat)
def Jn6:St:={σ:=[agg (ZT n a b c U O),ptr 0 0,QE,ptr 5 0,ptr 905 0]++HH 13 [ZE n,iI ((2:Int)^n)]++HH 27 [ZE n,iI (d:Int)]++HH 12 [ZY]++HH 97 [],m:=[(918,GN.keep 189 [iI (d:Int)]),(917,GN.keep 134 [ptr 4 0]),(905,GN.cells 189 [iI (d:Int)]),(902,GN.row 3 1 (2^n) λz=>[iI (-1:Int)]),(901,GN.row 3 1 (2^n) λz=>[iI (eD n a b c U O d z)]),(5,YI),(4,GN.keep 249 (KP n a b c U O)),(0,GN.cells 65 (ZT n a b c U O))],nx:=922}
noncomputable def Jr6:Code:=SI (VS aX 0)
noncomputable def Jp7:Code:=SH (VS aX 0)
def oF(k:Nat):St:={σ:=H4 [(5,.top),(6,.top),(7,.top),(8,.top)] (Jn6 n a b c U O d).σ,m:=[(918,.keep 189 [i d]),(917,.keep 134 [.ptr 4 0]),(905,.cells 189 [i d]),(902,.row 3 1 (2^n) (λz=>[i ((λ_=> -1) z)])),(901,.row 3 1 (2^n) (λz=>[i ((eQ (quB n a b c d) n U O d (eD n a b c U O d) (k)) z)])),(5,.cells 134 [.ptr 4 0]),(4,.keep 249 [i 4,i 10,sls n a b c U O,.row 901,.row 902]),(0,.cells 65 [i 4,i 10,sls n a b c U O])],nx:=922}
def nL(k:Nat):G7->Option St
 | .normal=>some {σ:=H4 [(5,.top),(6,.top),(7,.top),(8,.top)] (Jn6 n a b c U O d).σ,m:=[(918,.keep 189 [i d]),(917,.keep 134 [.ptr 4 0]),(905,.cells 189 [i d]),(902,.row 3 1 (2^n) (λz=>[i ((λ_=> -1) z)])),(901,.row 3 1 (2^n) (λz=>[i ((eQ (quB n a b c d) n U O d (eD n a b c U O d) ((quN n a b c d))) z)])),(5,.cells 134 [.ptr 4 0]),(4,.keep 249 [i 4,i 10,sls n a b c U O,.row 901,.row 902]),(0,.cells 65 [i 4,i 10,sls n a b c U O])],nx:=922}
 |_=>none
def T_kc:CT:= .leaf (.normal,oF n a b c U O d (quN n a b c d))
def Xv9:UI:=GK [(.slot 61,0,0,0)] (HG (oF n a b c U O d (0)) (T_kc n a b c U O d))
end
abbrev XT(n:Nat):Prop:=(2:Int)^n=2^n
theorem Jc4(n:Nat)(a b c U O:Nat->Int)(d:Nat)(VR:sV n a b c U O)(UE:d<2^n):HP VO (.rangeFunc (rfF (VS aX 0)) (jD (VS aX 0)) Jr6 Jp7) (Xv9 n a b c U O d):=by
 refine yH [(.slot 61,0,0,0)] (L:=[]) (Ae DX (Ae PK Aa)) Ad VY U3 (V:=Nat) (oF n a b c U O d) (λk=>k<=(quN n a b c d)) (λk=>k) (nL n a b c U O d) (x0:=0) VV rfl ?_ ?_ ?_ ?_ (g:=171) (caps:=[.ro [.ro [i 4,i 10,sls n a b c U O,.top,.top]],.ro [i d]]) (caps0:=[.ptr 917 0,.ptr 918 0]) VT VT (yX .top .top n a b c U O d VR (BW VR.1 UE)) (λ_=>rfl) ?_
 ·rintro k;kernel_rfl
 ·rintro k y E h;unfold nL at h;split at h
  ·cases h;kernel_rfl
  ·cases h
 ·rintro k;rfl
 ·rintro k y E h;unfold nL at h;split at h
  ·cases h;rfl
  ·cases h
 ·rintro Q hQ k hx;refine ⟨λhlt=>⟨(k+1),rfl,?_⟩,λPI=>?_⟩
  ·(with_reducible refine DH (t:=let z1:=(quB n a b c (d:Int));let W:=(BitVec.toNat (BitVec.ofInt 64 (d:Int) ||| BitVec.ofInt 64 ((1:Int)*2^UP z1 n k)));let z2:=(IntKind.wrap IntKind.i64 (W:Int));let z3:=eD n a b c U O d;let z4:=eQ z1 n U O d;(need [UJ d (↑(2^n):Int)] (need [d<2^n] (branch (decide (max (z4 (z3) k d) (U (UP z1 n k))<=O (UP z1 n k))) (need [(0:Int)<=(↑(UP z1 n k):Int)/\(↑(UP z1 n k):Int)<=64,VL ((1:Int)*2^UP z1 n k)] (need [UJ (IntKind.wrap IntKind.i64 (W:Int)) (↑(2^n):Int)] (need [Int.toNat z2<2^n] (need [UJ (IntKind.wrap IntKind.i64 (W:Int)) (↑(2^n):Int)] (need [Int.toNat z2<2^n] (need [QP n a b c U O,QO,QE=QE,ZL,VZ (ptr 905 0),QH n,XT n,QH n,VZ (d:Int),ZY=ZY,VZ (d:Int),W5,VZ (d:Int),2^n=2^n,∀(i:Nat),i<2^n->[iI (-1:Int)]=[iI (-1:Int)],2^n=2^n,∀(i:Nat),i<2^n->H0 (decide (i=Int.toNat z2)) [iI (min (z4 (z3) k (Int.toNat z2)) (max (z4 (z3) k d) (U (UP z1 n k))))] [iI (z4 (z3) k i)]=[iI (z4 (z3) (k+1) i)],W5,QZ,W9,W2 n a b c U O,WG,WI,QZ,W9,W2 n a b c U O] (leaf G7.normal))))))) (need [QP n a b c U O,QO,QE=QE,ZL,VZ (ptr 905 0),QH n,XT n,QH n,VZ (d:Int),ZY=ZY,VZ (d:Int),W5,VZ (d:Int),2^n=2^n,∀(i:Nat),i<2^n->[iI (-1:Int)]=[iI (-1:Int)],2^n=2^n,∀(i:Nat),i<2^n->[iI (z4 (z3) k i)]=[iI (z4 (z3) (k+1) i)],W5,QZ,W9,W2 n a b c U O,WG,WI,QZ,W9,W2 n a b c U O] (leaf G7.normal)))))) VT ?_)
   have h8:=VR.1;have hd:=BW h8 UE;have hpn:((2^n:Nat):Int)=2^n:=VV;have hs:=kM hlt;have hor:=Wb4 h8 UE hs.1;have hol:=tI UE hs.1;simp only [VM.sat,UB,UH,hor,DZ,HA]
   have hd2:(d:Int)<2^n:=by
    have h:(d:Int)<((2^n:Nat):Int):=Int.ofNat_lt.2 UE
    rwa [hpn] at h
   have Qn1:((d ||| 2^UP (quB n a b c d) n k:Nat):Int)<2^n:=by
    have h:((d ||| 2^UP (quB n a b c d) n k:Nat):Int)<((2^n:Nat):Int):=Int.ofNat_lt.2 hol
    rwa [hpn] at h
   have hk1:k+1<=quN n a b c d:=hlt;have h2s:(1:Int)<=2^UP (quB n a b c d) n k/\(2:Int)^UP (quB n a b c d) n k<=256:=uG VJ;have h64:=hs.1;refine ⟨⟨VJ,hd2⟩,UE,λh=>?_,λh=>?_⟩
   ·refine ⟨⟨⟨VJ,VJ⟩,by simp only [VL,Int.one_mul];omega⟩,⟨VJ,Qn1⟩,hol,⟨VJ,Qn1⟩,hol,⟨λ_ _=>trivial,λj hj=>?_⟩,hk1⟩
    simp only [eQ,if_pos h];exact uC
   ·refine ⟨⟨λ_ _=>trivial,λj hj=>?_⟩,hk1⟩
    simp only [eQ,if_neg h]
  ·have hk:k=quN n a b c d:=VJ;subst hk;exact hQ
theorem uO{P:Program}{G:List (Nat×UW)}{E:Ext}{L:List UI}(N:List (Pl×Nat×TypeId×Nat))(hG:VK P G)(hX: ∀cx,VW P E cx)(GQ:P.follows .mixedOrders=true){body:Code}(hL: ∀j cj,VS body j=some cj-> ∀sp,L[j]? =some sp->HP P cj sp)
  {X:Type}(inv:X->St)(I:X->Prop)(μ:X->Nat)(out:X->G7->Option St){t:CT}{x0:X}(h0:I x0)
  (hok: ∀x,Go.Sx.okB (inv x)=true)(qM: ∀x y E,out x y=some E->Go.Sx.okB E=true)
  (round: ∀(Q:G7×St->Prop),t.sat Q-> ∀x,I x-> ∃x',(HV P G E L N body (inv x) (inv x') (out x)).sat (λy=>match y with
   | .normal=>I x'/\μ x'<μ x
   |y=> ∀E,out x y=some E->Q (y,E))):HP P (.loop body) (GK N (HG (inv x0) t)):=
 λcx hf=>FJ N hG (hX cx) GQ (λj cj hj sp hsp=>hL j cj hj sp hsp cx hf) inv I μ out h0 hok qM round
theorem gI{P:Program}{c:Code}{t:Nat}{F:Nat->UI}(h: ∀k,HP P c (F k)):HP P c (B4 t F):=by
 intro cx hf n s tr ht Q hQ a w r;unfold B4 at ht;split at ht
 ·exact h _ cx hf n s tr ht Q hQ a w r
 ·cases ht
abbrev JO:List (Nat×UW):=[(86,IQ),(90,kF),(89,IR)]
noncomputable abbrev KE:Ext:={R:=[],H:=[(131,Qh2)] }
theorem Jc5(n:Nat)(a b c U O:Nat->Int)(VR:sV n a b c U O):HP VO (.loop aX) (Xw0 n a b c U O):=by
 refine uO [(.cell 5 0,0,0,0)] (L:=[B4 48 (λd=>FO [d<2^n] (Xv9 n a b c U O d))]) (Ae LC (Ae DX (Ae PK Aa))) (Ai Ab (Ag gZ Ac)) VY (G0 (λcj hcj=>by
  have e:VS aX 0=some (.rangeFunc (rfF (VS aX 0)) (jD (VS aX 0)) Jr6 Jp7):=VT;rw [e] at hcj;cases hcj;exact gI (λd=>PV (λh=>Jc4 n a b c U O d VR h)))) (X:=Nat) (Wh0 n a b c U O) (λd=>d<=2^n) (λd=>2^n-d) (CH n a b c U O) (x0:=0) VV ?_ ?_ ?_
 ·rintro d;kernel_rfl
 ·rintro d y E h;unfold CH at h;split at h
  ·cases h;kernel_rfl
  ·cases h
 ·rintro Q hQ d hx;refine ⟨(d+1),?_⟩;(with_reducible refine DH (t:=let W:=W2 n a b c U O;let z1:=eD n a b c U O d;(branch (decide ((d:Int)<2^n-1+1)) (need [UJ d (↑(2^n):Int)] (need [d<2^n] (branch (z1 d==101) (need [VL ((d:Int)+1)] (need [QP n a b c U O,QO,QE=QE,ZL,QH n,XT n,QH n,(d:Int)+1=(↑(d+1):Int),2^n=2^n,∀(i:Nat),i<2^n->[iI (-1:Int)]=[iI (-1:Int)],2^n=2^n,∀(i:Nat),i<2^n->[iI (z1 i)]=[iI (eD n a b c U O (d+1) i)],W5,QZ,W9,W,WG,WI,QZ,W9,W] (leaf G7.normal))) (need [d<2^n] (need [QP n a b c U O,QO,QE=QE,ZL,VZ (ptr 905 0),QH n,XT n,QH n,VZ (d:Int),ZY=ZY,VZ (d:Int),W5,VZ (d:Int),2^n=2^n,∀(i:Nat),i<2^n->[iI (-1:Int)]=[iI (-1:Int)],2^n=2^n,∀(i:Nat),i<2^n->[iI (z1 i)]=[iI (eQ (quB n a b c (d:Int)) n U O d (z1) 0 i)],W5,QZ,W9,W,WG,WI,QZ,W9,W] (need [VL ((d:Int)+1)] (need [QP n a b c U O,QO,QE=QE,ZL,QH n,XT n,QH n,(d:Int)+1=(↑(d+1):Int),2^n=2^n,∀(i:Nat),i<2^n->[iI (-1:Int)]=[iI (-1:Int)],2^n=2^n,∀(i:Nat),i<2^n->[iI (eQ (quB n a b c (d:Int)) n U O d (z1) (quN n a b c (d:Int)) i)]=[iI (eD n a b c U O (d+1) i)],W5,QZ,W9,W,WG,WI,QZ,W9,W] (leaf G7.normal)))))))) (need [QP n a b c U O,QO,QE=QE,ZL,QH n,XT n,QH n,(d:Int)=2^n,2^n=2^n,∀(i:Nat),i<2^n->[iI (-1:Int)]=[iI (-1:Int)],2^n=2^n,∀(i:Nat),i<2^n->[iI (z1 i)]=[iI (eD n a b c U O (2^n) i)],W5,QZ,W9,W,WG,WI,QZ,W9,W] (leaf (G7.exit 2))))) VT ?_);simp only [Jl3,CH,VM.sat,GT] at hQ;simp only [VM.sat,UB,G4,GJ,UD,VL,UH,HA,FY,RA,RW,GL,CH]
  have h8:=VR.1;have hp:=uG h8;have hpn:((2^n:Nat):Int)=2^n:=VV;refine ⟨λh=>?_,λh=>?_⟩
  ·have hd3:(d:Int)<2^n:=VJ;have hd:d<2^n:=by
    have h':(d:Int)<((2^n:Nat):Int):=by rw [hpn];exact hd3
    exact Int.ofNat_lt.1 h'
   have hd2:=BW h8 hd;refine ⟨⟨VJ,hd3⟩,hd,λhb=>?_,λhb=>?_⟩
   ·rw [beq_iff_eq] at hb;refine ⟨VJ,⟨VJ,λ_ _=>trivial,λj hj=>by simp only [eD,if_pos hb]⟩,hd,VJ⟩
   ·rw [beq_eq_false_iff_ne] at hb;refine ⟨hd,⟨λ_ _=>trivial,λj hj=>rfl⟩,VJ,⟨VJ,λ_ _=>trivial,λj hj=>by simp only [eD,if_neg hb]⟩,hd,VJ⟩
  ·have hd:d=2^n:=by
    have h': ¬(d:Int)<((2^n:Nat):Int):=by rw [hpn];omega
    omega
   subst hd;exact ⟨⟨hpn,λ_ _=>trivial,λj hj=>rfl⟩,λE hE=>by cases hE;exact hQ⟩
def pm(n:Nat):Nat:=2^n-1
def lQ(p:Nat->Bool)(n:Nat)(U O:Nat->Int)(d:Nat)(F:Nat->Int):Nat->Nat->Int
 | 0=>F
 |q+1=>if min (lQ p n U O d F q (d ||| 2^UP p n q)) (O (UP p n q))>=U (UP p n q) then UR d (max (lQ p n U O d F q d) (min (lQ p n U O d F q (d ||| 2^UP p n q)) (O (UP p n q)))) (lQ p n U O d F q) else lQ p n U O d F q
def lS(n:Nat)(a b c U O:Nat->Int):Nat->Nat->Int
 | 0=>UR (2^n-1) 101 (λ_=> -1)
 |s+1=>lQ (quB n a b c ((2^n-2-s:Nat):Int)) n U O (2^n-2-s) (lS n a b c U O s) (quN n a b c ((2^n-2-s:Nat):Int))
section
variable (n:Nat)(a b c U O:Nat->Int)
noncomputable def Zq3:St:={σ:=[agg (ZT n a b c U O),ptr 0 0,QE,ptr 5 0]++HH 14 [ZE n,iI ((2:Int)^n)]++HH 27 [ZE n,iI ((2:Int)^n)]++HH 110 [],m:=[(903,GN.cells 189 [iI ((2:Int)^n-1-1)]),(902,GN.row 3 1 (2^n) λk=>iI (if decide (k=((2:Int)^n-1).toNat)=true then (101:Int) else (-1:Int))::Bool.rec ([]) ([]) (decide (k=((2:Int)^n-1).toNat))),(901,GN.row 3 1 (2^n) λz=>[iI (eD n a b c U O (2^n) z)]),(5,YI),(4,GN.keep 249 (KP n a b c U O)),(0,GN.cells 65 (ZT n a b c U O))],nx:=916}
noncomputable def aW:Code:=U9 (VS (U7 Tryz.f84) 2)
noncomputable def Wg9(d:Nat):St:={σ:=H4 [(9,.ptr 903 0),(10,.top),(11,.top),(12,.top)] (Zq3 n a b c U O).σ,m:=[(903,.cells 189 [i (((d:Nat):Int)-1)]),(902,.row 3 1 (2^n) (λz=>[i ((lS n a b c U O (2^n-1-(d))) z)])),(901,.row 3 1 (2^n) (λz=>[i ((eD n a b c U O (2^n)) z)])),(5,.cells 134 [.ptr 4 0]),(4,.keep 249 [i 4,i 10,sls n a b c U O,.row 901,.row 902]),(0,.cells 65 [i 4,i 10,sls n a b c U O])],nx:=904}
noncomputable def CG(d:Nat):G7->Option St
 | .exit 6=>some {σ:=H4 [(9,.ptr 903 0),(10,.top),(11,.top),(12,.top)] (Zq3 n a b c U O).σ,m:=[(903,.cells 189 [i (((0:Nat):Int)-1)]),(902,.row 3 1 (2^n) (λz=>[i ((lS n a b c U O (2^n-1-(0))) z)])),(901,.row 3 1 (2^n) (λz=>[i ((eD n a b c U O (2^n)) z)])),(5,.cells 134 [.ptr 4 0]),(4,.keep 249 [i 4,i 10,sls n a b c U O,.row 901,.row 902]),(0,.cells 65 [i 4,i 10,sls n a b c U O])],nx:=904}
 |_=>none
noncomputable def Jl2:CT:= .leaf (.exit 6,(CG n a b c U O (pm n) (.exit 6)).getD (Zq3 n a b c U O))
noncomputable def Xv8:UI:=GK [(.slot 9,903,189,2),(.cell 5 0,0,0,0)] (HG (Wg9 n a b c U O (pm n)) (Jl2 n a b c U O))
abbrev ZZ:AV:=AV.fn (Fn.func 171) [] [ptr 908 0,ptr 909 0]
def Jn5(d:Nat):St:={σ:=[agg (ZT n a b c U O),ptr 0 0,QE,ptr 5 0]++HH 5 [ptr 903 0]++HH 8 [ZE n,iI ((2:Int)^n)]++HH 27 [ZE n,iI ((2:Int)^n)]++HH 69 [ZZ]++HH 40 [],m:=[(909,GN.keep 189 [iI ((d:Int)-1)]),(908,GN.keep 134 [ptr 4 0]),(903,GN.cells 189 [iI ((d:Int)-1)]),(902,GN.row 3 1 (2^n) λz=>[iI (lS n a b c U O (2^n-1-d) z)]),(901,GN.row 3 1 (2^n) λz=>[iI (eD n a b c U O (2^n) z)]),(5,YI),(4,GN.keep 249 (KP n a b c U O)),(0,GN.cells 65 (ZT n a b c U O))],nx:=913}
noncomputable def Jr5:Code:=SI (VS aW 0)
noncomputable def Jp6:Code:=SH (VS aW 0)
def oE(d:Nat)(k:Nat):St:={σ:=H4 [(10,.top),(11,.top),(12,.top)] (Jn5 n a b c U O d).σ,m:=[(909,.keep 189 [i ((d:Int)-1)]),(908,.keep 134 [.ptr 4 0]),(903,.cells 189 [i (((d:Nat):Int)-1)]),(902,.row 3 1 (2^n) (λz=>[i ((lQ (quB n a b c ((d:Int)-1)) n U O (d-1) (lS n a b c U O (2^n-1-d)) (k)) z)])),(901,.row 3 1 (2^n) (λz=>[i ((eD n a b c U O (2^n)) z)])),(5,.cells 134 [.ptr 4 0]),(4,.keep 249 [i 4,i 10,sls n a b c U O,.row 901,.row 902]),(0,.cells 65 [i 4,i 10,sls n a b c U O])],nx:=913}
def nK(d:Nat)(k:Nat):G7->Option St
 | .normal=>some {σ:=H4 [(10,.top),(11,.top),(12,.top)] (Jn5 n a b c U O d).σ,m:=[(909,.keep 189 [i ((d:Int)-1)]),(908,.keep 134 [.ptr 4 0]),(903,.cells 189 [i (((d:Nat):Int)-1)]),(902,.row 3 1 (2^n) (λz=>[i ((lQ (quB n a b c ((d:Int)-1)) n U O (d-1) (lS n a b c U O (2^n-1-d)) ((quN n a b c ((d:Int)-1)))) z)])),(901,.row 3 1 (2^n) (λz=>[i ((eD n a b c U O (2^n)) z)])),(5,.cells 134 [.ptr 4 0]),(4,.keep 249 [i 4,i 10,sls n a b c U O,.row 901,.row 902]),(0,.cells 65 [i 4,i 10,sls n a b c U O])],nx:=913}
 |_=>none
def T_ke(d:Nat):CT:= .leaf (.normal,oE n a b c U O d (quN n a b c ((d:Int)-1)))
def Xv7(d:Nat):UI:=GK [(.slot 118,0,0,0)] (HG (oE n a b c U O d (0)) (T_ke n a b c U O d))
abbrev ZQ:Prop:=ptr 903 0=ptr 903 0
theorem Jc2(d:Nat)(VR:sV n a b c U O)(UE:1<=d)(HQ:d<2^n):HP VO (.rangeFunc (rfF (VS aW 0)) (jD (VS aW 0)) Jr5 Jp6) (Xv7 n a b c U O d):=by
 refine yH [(.slot 118,0,0,0)] (L:=[]) (Ae DX (Ae PK Aa)) Ad VY U3 (V:=Nat) (oE n a b c U O d) (λk=>k<=(quN n a b c ((d:Int)-1))) (λk=>k) (nK n a b c U O d) (x0:=0) VV rfl ?_ ?_ ?_ ?_ (g:=171) (caps:=[.ro [.ro [i 4,i 10,sls n a b c U O,.top,.top]],.ro [i ((d:Int)-1)]]) (caps0:=[.ptr 908 0,.ptr 909 0]) VT VT (yX .top .top n a b c U O ((d:Int)-1) VR (by have:=BW VR.1 HQ;omega)) (λ_=>rfl) ?_
 ·rintro k;kernel_rfl
 ·rintro k y E h;unfold nK at h;split at h
  ·cases h;kernel_rfl
  ·cases h
 ·rintro k;rfl
 ·rintro k y E h;unfold nK at h;split at h
  ·cases h;rfl
  ·cases h
 ·rintro Q hQ k hx;refine ⟨λhlt=>⟨(k+1),rfl,?_⟩,λPI=>?_⟩
  ·(with_reducible refine DH (t:=let W:=(quB n a b c ((d:Int)-1));let z1:=(BitVec.toNat (BitVec.ofInt 64 ((d:Int)-1) ||| BitVec.ofInt 64 ((1:Int)*2^UP W n k)));let z2:=(lS n a b c U O (2^n-1-d));let z3:=(VZ ((d:Int)-1));let z5:=lQ W n U O;let z4:=(z5 (d-1) z2 k (IntKind.wrap IntKind.i64 (z1:Int)).toNat);(need [(0:Int)<=(↑(UP W n k):Int)/\(↑(UP W n k):Int)<=64,VL ((1:Int)*2^UP W n k)] (need [UJ (IntKind.wrap IntKind.i64 (z1:Int)) (↑(2^n):Int)] (need [(IntKind.wrap IntKind.i64 (z1:Int)).toNat<2^n] (branch (decide (min z4 (O (UP W n k))>=U (UP W n k))) (need [UJ ((d:Int)-1) (↑(2^n):Int)] (need [((d:Int)-1).toNat<2^n] (need [UJ ((d:Int)-1) (↑(2^n):Int)] (need [((d:Int)-1).toNat<2^n] (need [QP n a b c U O,QO,QE=QE,ZL,ZQ,QH n,XT n,QH n,XT n,ZZ=ZZ,z3,W5,z3,2^n=2^n,∀(i:Nat),i<2^n->H0 (decide (i=((d:Int)-1).toNat)) [iI (max (z5 (d-1) z2 k ((d:Int)-1).toNat) (min z4 (O (UP W n k))))] [iI (z5 (d-1) z2 k i)]=[iI (z5 (d-1) z2 (k+1) i)],2^n=2^n,∀(i:Nat),i<2^n->[iI (eD n a b c U O (2^n) i)]=[iI (eD n a b c U O (2^n) i)],W5,QZ,W9,W2 n a b c U O,WG,WI,QZ,W9,W2 n a b c U O] (leaf G7.normal)))))) (need [QP n a b c U O,QO,QE=QE,ZL,ZQ,QH n,XT n,QH n,XT n,ZZ=ZZ,z3,W5,z3,2^n=2^n,∀(i:Nat),i<2^n->[iI (z5 (d-1) z2 k i)]=[iI (z5 (d-1) z2 (k+1) i)],2^n=2^n,∀(i:Nat),i<2^n->[iI (eD n a b c U O (2^n) i)]=[iI (eD n a b c U O (2^n) i)],W5,QZ,W9,W2 n a b c U O,WG,WI,QZ,W9,W2 n a b c U O] (leaf G7.normal))))))) VT ?_)
   have h8:=VR.1;obtain ⟨D,rfl⟩: ∃D,d=D+1:=⟨d-1,VJ⟩;have hD:(((D+1:Nat):Int)-1)=(D:Int):=VJ;have hd:D<2^n:=VJ;have hdi:=BW h8 hd;have hpn:((2^n:Nat):Int)=2^n:=VV;simp only [hD] at*;have hs:=kM hlt;have hor:=Wb4 h8 hd hs.1;have hol:=tI hd hs.1;simp only [VM.sat,UB,UH,hor,DZ,HA,Bi]
   have hd2:(D:Int)<2^n:=by
    have h:(D:Int)<((2^n:Nat):Int):=Int.ofNat_lt.2 hd
    rwa [hpn] at h
   have Qn1:((D ||| 2^UP (quB n a b c D) n k:Nat):Int)<2^n:=by
    have h:((D ||| 2^UP (quB n a b c D) n k:Nat):Int)<((2^n:Nat):Int):=Int.ofNat_lt.2 hol
    rwa [hpn] at h
   have hk1:k+1<=quN n a b c D:=hlt;have h2s:(1:Int)<=2^UP (quB n a b c D) n k/\(2:Int)^UP (quB n a b c D) n k<=256:=uG VJ;have h64:=hs.1;refine ⟨⟨⟨VJ,VJ⟩,by simp only [VL,Int.one_mul];omega⟩,⟨VJ,Qn1⟩,hol,λh=>?_,λh=>?_⟩
   ·refine ⟨⟨VJ,hd2⟩,hd,⟨VJ,hd2⟩,hd,⟨λj hj=>?_,λ_ _=>trivial⟩,hk1⟩
    simp only [lQ,if_pos h];exact uC
   ·refine ⟨⟨λj hj=>?_,λ_ _=>trivial⟩,hk1⟩
    simp only [lQ,if_neg h]
  ·have hk:k=quN n a b c ((d:Int)-1):=VJ;subst hk;exact hQ
theorem Jc3(VR:sV n a b c U O):HP VO (.loop aW) (Xv8 n a b c U O):=by
 refine uO [(.slot 9,903,189,2),(.cell 5 0,0,0,0)] (L:=[B4 117 (λd=>FO [d+1<2^n] (Xv7 n a b c U O (d+1)))]) (Ae LC (Ae DX (Ae PK Aa))) (Ai Ab (Ag gZ Ac)) VY (G0 (λcj hcj=>by
  have e:VS aW 0=some (.rangeFunc (rfF (VS aW 0)) (jD (VS aW 0)) Jr5 Jp6):=VT;rw [e] at hcj;cases hcj;exact gI (λd=>PV (λh=>Jc2 n a b c U O (d+1) VR (Nat.succ_le_succ (Ao _)) h)))) (X:=Nat) (Wg9 n a b c U O) (λd=>d<=pm n) (λd=>d) (CG n a b c U O) (x0:=pm n) (Am _) ?_ ?_ ?_
 ·rintro d;kernel_rfl
 ·rintro d y E h;unfold CG at h;split at h
  ·cases h;kernel_rfl
  ·cases h
 ·rintro Q hQ d hx;refine ⟨(d-1),?_⟩;(with_reducible refine DH (t:=let W:=(quB n a b c ((↑(((d:Int)-1).toNat+1):Int)-1));let z4:=lS n a b c U O;let z1:=(z4 (2^n-1-(((d:Int)-1).toNat+1)));let z2:=eD n a b c U O;let z3:=W2 n a b c U O;(branch (decide ((d:Int)-1>=(0:Int))) (need [((d:Int)-1).toNat+1<2^n] (need [QP n a b c U O,QO,QE=QE,ZL,ZQ,QH n,XT n,QH n,XT n,ZZ=ZZ,(d:Int)-1=(↑(((d:Int)-1).toNat+1):Int)-1,W5,(d:Int)-1=(↑(((d:Int)-1).toNat+1):Int)-1,2^n=2^n,∀(i:Nat),i<2^n->[iI (z4 (2^n-1-d) i)]=[iI (lQ W n U O (((d:Int)-1).toNat+1-1) z1 0 i)],2^n=2^n,∀(i:Nat),i<2^n->[iI (z2 (2^n) i)]=[iI (z2 (2^n) i)],W5,QZ,W9,z3,WG,WI,QZ,W9,z3] (need [VL ((↑(((d:Int)-1).toNat+1):Int)-1-1)] (need [QP n a b c U O,QO,QE=QE,ZL,ZQ,QH n,XT n,QH n,XT n,(↑(((d:Int)-1).toNat+1):Int)-1-1=(↑(d-1):Int)-1,2^n=2^n,∀(i:Nat),i<2^n->[iI (lQ W n U O (((d:Int)-1).toNat+1-1) z1 (quN n a b c ((↑(((d:Int)-1).toNat+1):Int)-1)) i)]=[iI (z4 (2^n-1-(d-1)) i)],2^n=2^n,∀(i:Nat),i<2^n->[iI (z2 (2^n) i)]=[iI (z2 (2^n) i)],W5,QZ,W9,z3,WG,WI,QZ,W9,z3] (leaf G7.normal))))) (need [QP n a b c U O,QO,QE=QE,ZL,ZQ,QH n,XT n,QH n,XT n,(d:Int)-1=(↑(0:Nat):Int)-1,2^n=2^n,∀(i:Nat),i<2^n->[iI (z4 (2^n-1-d) i)]=[iI (z4 (2^n-1-0) i)],2^n=2^n,∀(i:Nat),i<2^n->[iI (z2 (2^n) i)]=[iI (z2 (2^n) i)],W5,QZ,W9,z3,WG,WI,QZ,W9,z3] (leaf (G7.exit 6))))) VT ?_);simp only [Jl2,CG,VM.sat,GT] at hQ;simp only [VM.sat,UB,G4,GJ,UD,VL,UH,HA,FY,RA,RW,GL,CG]
  have h8:=VR.1;have hpm:pm n=2^n-1:=rfl;rw [hpm] at hx ⊢;have hp:=uG h8;have hpn:((2^n:Nat):Int)=2^n:=VV;refine ⟨λh=>?_,λh=>?_⟩
  ·obtain ⟨D,rfl⟩: ∃D,d=D+1:=⟨d-1,VJ⟩;have e1:(((D+1:Nat):Int)-1).toNat=D:=VJ;have e2:(((D+1:Nat):Int)-1)=(D:Int):=VJ;have hd:D+1<2^n:=VJ;have hdi:=BW h8 hd;simp only [e2,DZ,Bi,true_and];have hst:lQ (quB n a b c D) n U O D (lS n a b c U O (2^n-1-(D+1))) (quN n a b c D)=lS n a b c U O (2^n-1-D):=by
    have h1:2^n-1-D=(2^n-1-(D+1))+1:=VJ;have h2:2^n-2-(2^n-1-(D+1))=D:=VJ;rw [h1];simp only [lS,h2]
   refine ⟨hd,⟨λj hj=>rfl,λ_ _=>trivial⟩,VJ,⟨λj hj=>by rw [hst],λ_ _=>trivial⟩,VJ,VJ⟩
  ·obtain rfl:d=0:=VJ;exact ⟨⟨rfl,λj hj=>rfl,λ_ _=>trivial⟩,λE hE=>by cases hE;exact hQ⟩
end
theorem pN{S:Code->UI->Prop}{c:Code}{s0 s1 s2:UI}(h0: ∀cj,VS c 0=some cj->S cj s0)(h1: ∀cj,VS c 1=some cj->S cj s1)(h2: ∀cj,VS c 2=some cj->S cj s2):
  ∀j cj,VS c j=some cj-> ∀sp,[s0,s1,s2][j]? =some sp->S cj sp:=by
 intro j cj hj sp hsp
 match j with
 | 0=>simp at hsp;subst hsp;exact h0 cj hj
 | 1=>simp at hsp;subst hsp;exact h1 cj hj
 | 2=>simp at hsp;subst hsp;exact h2 cj hj
 |j+3=>simp at hsp
section
variable (n:Nat)(a b c U O:Nat->Int)
theorem Wa9(VR:sV n a b c U O):FN VO 84 [.agg [i 4,i 10,sls n a b c U O]] (.ro [i 4,i 10,sls n a b c U O,.lst 1 (2^n) (λz=>[i (eD n a b c U O (2^n) z)]),.lst 1 (2^n) (λz=>[i (lS n a b c U O (2^n-1) z)])]):=by
 refine D1 (L:=[Xw1 n a b c U O,Xw0 n a b c U O,Xv8 n a b c U O]) (Ae LC (Ae DX (Ae PK Aa))) (Ai Ab (Ag gZ Ac)) VY Tryz.func84 (UT Tryz.f84) (pN (lpE (b:= .loop Jp8) VT<|(Jc6 n a b c U O VR).N) (lpE (b:= .loop aX) VT<|Jc5 n a b c U O VR) (lpE (b:= .loop aW) VT<|Jc3 n a b c U O VR)) (t:=let W:=W2 n a b c U O;(need [n<=8] (need [VL ((2:Int)^n-1+1)] (need [QP n a b c U O,QO,QE=QE,ZL,QH n,(0:Int)=(↑(0:Nat):Int),0=0,∀(i:Nat),i<0->[]=[iI (-1:Int)],0=0,∀(i:Nat),i<0->[]=ZX,W5,QZ,W9,W,WG,WI,QZ,W9,W] (need [UJ 0 (↑(2^n):Int)] (need [(0:Int).toNat<2^n] (need [n<=8] (need [VL ((2:Int)^n-1+1)] (need [QP n a b c U O,QO,QE=QE,ZL,QH n,XT n,QH n,(0:Int)=(↑(0:Nat):Int),2^n=2^n,∀(i:Nat),i<2^n->[iI (-1:Int)]=[iI (-1:Int)],2^n=2^n,∀(i:Nat),i<2^n->H0 (decide (i=(0:Int).toNat)) [iI 0] ZX=[iI (eD n a b c U O 0 i)],W5,QZ,W9,W,WG,WI,QZ,W9,W] (need [n<=8] (need [(0:Int)<=2^n-1/\(2:Int)^n-1<(↑(2^n):Int)] (need [((2:Int)^n-1).toNat<2^n] (need [n<=8] (need [VL ((2:Int)^n-1-1)] (need [QP n a b c U O,QO,QE=QE,ZL,ZQ,QH n,XT n,QH n,XT n,(2:Int)^n-1-1=(↑(pm n):Int)-1,2^n=2^n,∀(i:Nat),i<2^n->H0 (decide (i=((2:Int)^n-1).toNat)) ZX [iI (-1:Int)]=[iI (lS n a b c U O (2^n-1-pm n) i)],2^n=2^n,∀(i:Nat),i<2^n->[iI (eD n a b c U O (2^n) i)]=[iI (eD n a b c U O (2^n) i)],W5,QZ,W9,W,WG,WI,QZ,W9,W] (leaf (AV.ro [iI 4,iI 10,Q0 n a b c U O,lst 1 (2^n) λz=>[iI (eD n a b c U O (2^n) z)],lst 1 (2^n) λz=>[iI (lS n a b c U O (2^n-1-0) z)]]))))))))))))))))) VT ?_
 have h8:=VR.1;have hp:=uG h8;have hpn:((2^n:Nat):Int)=2^n:=VV;have hp1:1<=2^n:=Nat.one_le_two_pow;have hpt:((2:Int)^n-1).toNat=2^n-1:=VJ;simp only [VM.sat,UB,UH,VL,hpt,Int.toNat_zero]
 (with_reducible repeat' first|apply Al|intro _)
 all_goals first|exact Ak|omega|with_reducible rfl|rfl|skip
 ·rename_i q hq;exact uC (F:=λ_=>101)
 ·have h1:((pm n:Nat):Int)=((2^n:Nat):Int)-1:=by
   unfold pm;omega
  rw [h1,hpn]
 ·rename_i q hq;rw [show 2^n-1-pm n=0 from Bs _];exact uC (F:=λ_=> -1)
def Xl8:UW:=λl=>some ([l=[.agg [i 4,i 10,sls n a b c U O]]],.ro [i 4,i 10,sls n a b c U O,.lst 1 (2^n) (λz=>[i (eD n a b c U O (2^n) z)]),.lst 1 (2^n) (λz=>[i (lS n a b c U O (2^n-1) z)])])
theorem hU(VR:sV n a b c U O):PF VO 84 (Xl8 n a b c U O):=by
 refine ⟨(UG Tryz.func84),?_⟩;intro avs ns res h hn;cases h;have e:=hn _ GG;subst e;exact Wa9 n a b c U O VR
def Wv9:UW:=λl=>some ([l=[.agg [i 4,i 10,sls n a b c U O]]],i (if zR n a b c U O then 0 else 1))
theorem yZ(VR:n<=8):VP VO 83 (Wv9 n a b c U O):=by
 refine ⟨(UG Tryz.func83),?_⟩;intro avs ns res h hn;cases h;have e:=hn _ GG;subst e;exact N9 n a b c U O VR
theorem Wa8(E F:Nat->Int)(VR:n<=8):VX VO 85 [.ro [i 4,i 10,sls n a b c U O,.lst 1 (2^n) (λz=>[i (E z)]),.lst 1 (2^n) (λz=>[i (F z)])]] (bl (E (2^n-1) != 101)):=by
 refine U1 (L:=[]) (Ae LC Aa) VY Tryz.func85 (UT Tryz.f85) U3 (t:=need [n<=8] (need [(0:Int)<=2^n-1/\(2:Int)^n-1<(↑(2^n):Int)] (leaf (RV.x (.bool (E ((2:Int)^n-1).toNat != 101)))))) VT ?_;have hp:=uG VR;have hpn:((2^n:Nat):Int)=2^n:=VV;have hp1:1<=2^n:=Nat.one_le_two_pow;have hpt:((2:Int)^n-1).toNat=2^n-1:=VJ;simp only [VM.sat,UB,G4,GJ,UD,UH,hpt]
 (with_reducible repeat' first|apply Al|intro _)
 all_goals first|exact VR|omega|rfl|trivial
def Xl7(E F:Nat->Int):UW:=λl=>some ([l=[.ro [i 4,i 10,sls n a b c U O,.lst 1 (2^n) (λz=>[i (E z)]),.lst 1 (2^n) (λz=>[i (F z)])]]],bl (E (2^n-1) != 101))
theorem hO(E F:Nat->Int)(VR:n<=8):VP VO 85 (Xl7 n a b c U O E F):=by
 refine ⟨(UG Tryz.func85),?_⟩;intro avs ns res h hn;cases h;have e:=hn _ GG;subst e;exact Wa8 n a b c U O E F VR
theorem cG(E F:Nat->Int)(d Z:Int)(VR:0<=d/\d<2^n):VX VO 87 [.ro [i 4,i 10,sls n a b c U O,.lst 1 (2^n) (λz=>[i (E z)]),.lst 1 (2^n) (λz=>[i (F z)])],i d,i Z] (bl (decide (E d.toNat<=Z)&&decide (F d.toNat>Z))):=by
 refine GV Tryz.func87 (t:=need [UJ d (↑(2^n):Int)] (branch (decide (E (Int.toNat d)<=Z)) (need [UJ d (↑(2^n):Int)] (leaf (RV.x (.bool (decide (F (Int.toNat d)>Z)))))) (leaf (RV.x (WM))))) VT ?_;have hpn:((2^n:Nat):Int)=2^n:=VV;simp only [VM.sat,UB,G4,GJ,UD,UH];have hd:d.toNat<2^n:=VJ
 (with_reducible repeat' first|apply Al|intro _)
 all_goals first|omega|(rename_i h;rw [h];rfl)
def IZ(E F:Nat->Int):UW
 |[bk,.x (.int .i64 d),.x (.int .i64 Z)]=>some ([bk= .ro [i 4,i 10,sls n a b c U O,.lst 1 (2^n) (λz=>[i (E z)]),.lst 1 (2^n) (λz=>[i (F z)])],0<=d/\d<2^n],bl (decide (E d.toNat<=Z)&&decide (F d.toNat>Z)))
 |_=>none
theorem uF(E F:Nat->Int):VP VO 87 (IZ n a b c U O E F):=by
 refine ⟨(UG Tryz.func87),?_⟩;intro avs ns res h hn;unfold IZ at h;split at h
 ·cases h;rename_i bk d Z;have e:=hn _ GG;rw [e];exact cG n a b c U O E F d Z (hn _ VV)
 ·cases h
end
def hoF(n:Nat)(a b c:Nat->Int)(E F:Nat->Int)(ow Z:Int):Nat->Int×Int
 | 0=>(1001,-1)
 |d+1=>match decide (E d<=Z)&&decide (F d>Z) with
  |true=>(min (hoF n a b c E F ow Z d).1 (stF a b c d n ow.toNat),max (hoF n a b c E F ow Z d).2 (stF a b c d n ow.toNat))
  |false=>hoF n a b c E F ow Z d
theorem nth6(F:Nat->Int){q:Nat}(hq:q<6):U8 [F 0,F 1,F 2,F 3,F 4,F 5] q=F q:=by
 match q,hq with
 | 0,_=>rfl
 | 1,_=>rfl
 | 2,_=>rfl
 | 3,_=>rfl
 | 4,_=>rfl
 | 5,_=>rfl
section
variable (n:Nat)
abbrev WD(a:Nat->Int)(b:Nat->Int)(c:Nat->Int)(U:Nat->Int)(O:Nat->Int)(E:Nat->Int)(F:Nat->Int):AV:=AV.ro [iI 4,iI 10,Q0 n a b c U O,lst 1 (2^n) λz=>[iI (E z)],lst 1 (2^n) λz=>[iI (F z)]]
abbrev JQ:List AV:=[iI 0,iI 0]
def Zq7(a b c U O:Nat->Int)(E F:Nat->Int)(ow Z:Int):St:={σ:=[WD n a b c U O E F,iI ow,iI Z,top,top,top,ptr 0 0,ptr 2 0]++HH 5 [ZE n]++HH 25 [],m:=[(2,GN.cells 118 [iI 1001,iI (-1:Int)]),(0,GN.cells 118 JQ)],nx:=8}
noncomputable def Jq0:Code:=U9 (VS (U7 Tryz.f57) 0)
def Wh3(a b c U O:Nat->Int)(E F:Nat->Int)(ow Z:Int)(d:Nat):St:={σ:=H4 [(8,.top),(9,.top),(14,i d)] (Zq7 n a b c U O E F ow Z).σ,m:=[(2,.cells 118 [i (hoF n a b c E F ow Z (d)).1,i (hoF n a b c E F ow Z (d)).2]),(0,.cells 118 [i 0,i 0])],nx:=8}
def CK(a b c U O:Nat->Int)(E F:Nat->Int)(ow Z:Int)(d:Nat):G7->Option St
 | .exit 0=>some {σ:=H4 [(8,.top),(9,.top),(14,i (2^n))] (Zq7 n a b c U O E F ow Z).σ,m:=[(2,.cells 118 [i (hoF n a b c E F ow Z (2^n)).1,i (hoF n a b c E F ow Z (2^n)).2]),(0,.cells 118 [i 0,i 0])],nx:=8}
 |_=>none
def Jl6(a b c U O:Nat->Int)(E F:Nat->Int)(ow Z:Int):CT:= .leaf (.exit 0,(CK n a b c U O E F ow Z 0 (.exit 0)).getD (Zq7 n a b c U O E F ow Z))
def Xw3(a b c U O:Nat->Int)(E F:Nat->Int)(ow Z:Int):UI:=(HG (Wh3 n a b c U O E F ow Z (0)) (Jl6 n a b c U O E F ow Z))
abbrev ZA:Prop:=ptr 2 0=ptr 2 0
theorem Je4(a b c U O:Nat->Int)(E F:Nat->Int)(ow Z:Int)(VR:sV n a b c U O)(UE:0<=ow/\ow<4):G8 VO (.loop Jq0) (Xw3 n a b c U O E F ow Z):=by
 refine HF (L:=[]) (Ae PK (Ae DX (Ae LC (Ae (uF n a b c U O E F) (Ae (qR n a b c U O VR) Aa))))) VY U3 (X:=Nat) (Wh3 n a b c U O E F ow Z) (λd=>d<=2^n) (λd=>2^n-d) (CK n a b c U O E F ow Z) (x0:=0) VV ?_ ?_ ?_
 ·rintro d;kernel_rfl
 ·rintro d y E h;unfold CK at h;split at h
  ·cases h;kernel_rfl
  ·cases h
 ·rintro Q hQ d hx;refine ⟨(d+1),?_⟩;(with_reducible refine DH (t:=let W:=(U8 [stF a b c (d:Int) n 0,stF a b c (d:Int) n 1,stF a b c (d:Int) n 2,stF a b c (d:Int) n 3,stF a b c (d:Int) n 4,stF a b c (d:Int) n 5] (Int.toNat ow));let z2:=hoF n a b c E F ow Z;let z1:=(z2 d);let z3:=(VZ (WD n a b c U O E F));(branch (decide ((d:Int)<2^n-1+1)) (need [z3,(0:Int)<=(d:Int)/\(d:Int)<2^n] (branch (decide (E d<=Z)&&decide (F d>Z)) (need [W2 n a b c U O,(0:Int)<=(d:Int)/\(d:Int)<256] (need [UJ ow 6] (need [VL ((d:Int)+1)] (need [z3,ow=ow,Z=Z,QO,ZA,QH n,(d:Int)+1=(↑(d+1):Int),min (Prod.fst z1) W=Prod.fst (z2 (d+1)),max (Prod.snd z1) W=Prod.snd (z2 (d+1)),QT,QT] (leaf G7.normal))))) (need [VL ((d:Int)+1)] (need [z3,ow=ow,Z=Z,QO,ZA,QH n,(d:Int)+1=(↑(d+1):Int),Prod.fst z1=Prod.fst (z2 (d+1)),Prod.snd z1=Prod.snd (z2 (d+1)),QT,QT] (leaf G7.normal))))) (need [z3,ow=ow,Z=Z,QO,ZA,QH n,(d:Int)=2^n,Prod.fst z1=Prod.fst (z2 (2^n)),Prod.snd z1=Prod.snd (z2 (2^n)),QT,QT] (leaf (G7.exit 0))))) VT ?_);simp only [Jl6,CK,VM.sat,GT] at hQ;simp only [VM.sat,UB,G4,GJ,UD,VL,UH,HA,FY,RA,RW,GL,CK]
  have h8:=VR.1;have hp:=uG h8;have hpn:((2^n:Nat):Int)=2^n:=VV;refine ⟨λh=>?_,λh=>?_⟩
  ·have hd3:(d:Int)<2^n:=VJ;have hd:d<2^n:=by
    have h':(d:Int)<((2^n:Nat):Int):=by rw [hpn];exact hd3
    exact Int.ofNat_lt.1 h'
   have hd2:=BW h8 hd;have h6:=nth6 (stF a b c d n) (show ow.toNat<6 by omega)
   refine ⟨⟨VJ,hd3⟩,λhb=>?_,λhb=>?_⟩
   ·refine ⟨hd2,⟨VJ,VJ⟩,VJ,⟨VJ,?_,?_⟩,hd,VJ⟩
    ·simp only [hoF,hb];rw [h6]
    ·simp only [hoF,hb];rw [h6]
   ·refine ⟨VJ,⟨VJ,?_,?_⟩,hd,VJ⟩
    ·simp only [hoF,hb]
    ·simp only [hoF,hb]
  ·have hd:d=2^n:=by
    have h': ¬(d:Int)<((2^n:Nat):Int):=by rw [hpn];omega
    omega
   subst hd;exact ⟨⟨hpn,rfl,rfl⟩,λE hE=>by cases hE;exact hQ⟩
theorem Qj8(a b c U O:Nat->Int)(E F:Nat->Int)(ow Z:Int)(VR:sV n a b c U O)(UE:0<=ow/\ow<4):VX VO 57 [.ro [i 4,i 10,sls n a b c U O,.lst 1 (2^n) (λz=>[i (E z)]),.lst 1 (2^n) (λz=>[i (F z)])],i ow,i Z] (.agg [i (hoF n a b c E F ow Z (2^n)).1,i (hoF n a b c E F ow Z (2^n)).2]):=by
 refine U1 (L:=[Xw3 n a b c U O E F ow Z]) (Ae PK (Ae DX (Ae LC (Ae (uF n a b c U O E F) (Ae (qR n a b c U O VR) Aa))))) VY Tryz.func57 (UT Tryz.f57) (G0 (lpE (b:= .loop Jq0) VT<|Je4 n a b c U O E F ow Z VR UE)) (t:=let W:=hoF n a b c E F ow Z;(need [n<=8] (need [VL ((2:Int)^n-1+1)] (need [VZ (WD n a b c U O E F),ow=ow,Z=Z,QO,ZA,QH n,(0:Int)=(↑(0:Nat):Int),(1001:Int)=Prod.fst (W 0),(-1:Int)=Prod.snd (W 0),QT,QT] (leaf (RV.agg [RV.x (.int .i64 (Prod.fst (W (2^n)))),RV.x (.int .i64 (Prod.snd (W (2^n))))])))))) VT ?_
 have h8:=VR.1;have hp:=uG h8;have hpn:((2^n:Nat):Int)=2^n:=VV;simp only [VM.sat,UB,G4,GJ,UD,UH,VL,Prod.fst,Prod.snd]
 (with_reducible repeat' first|apply Al|intro _)
 all_goals first|exact Ak|exact h8|omega|rfl
def lV(a b c U O:Nat->Int)(E F:Nat->Int):UW
 |[bk,.x (.int .i64 ow),.x (.int .i64 Z)]=>some ([bk= .ro [i 4,i 10,sls n a b c U O,.lst 1 (2^n) (λz=>[i (E z)]),.lst 1 (2^n) (λz=>[i (F z)])],0<=ow/\ow<4],.agg [i (hoF n a b c E F ow Z (2^n)).1,i (hoF n a b c E F ow Z (2^n)).2])
 |_=>none
theorem yY(a b c U O:Nat->Int)(E F:Nat->Int)(VR:sV n a b c U O):VP VO 57 (lV n a b c U O E F):=by
 refine ⟨(UG Tryz.func57),?_⟩;intro avs ns res h hn;unfold lV at h;split at h
 ·cases h;rename_i bk ow Z;have e:=hn _ GG;rw [e];exact Qj8 n a b c U O E F ow Z VR (hn _ VV)
 ·cases h
def zI(a b c U O:Nat->Int):Bool:=eD n a b c U O (2^n) (2^n-1) != 101
end
theorem aE{n:Nat}{a b c U O:Nat->Int}(h:sV n a b c U O):zR n a b c U O=true:=GR.2 h.2
section
variable (n:Nat)
abbrev X4(a:Nat->Int)(b:Nat->Int)(c:Nat->Int)(U:Nat->Int)(O:Nat->Int):List AV:=[agg [iI 4,iI 10,Q0 n a b c U O]]
theorem Qj6(a b c U O:Nat->Int)(rt:Bool)(VR:sV n a b c U O):UN VO 55 [.agg [i 4,i 10,sls n a b c U O],bl rt] (.branch (!rt) (.leaf (.tup [Bo.nilP,i 2])) (.branch (!zI n a b c U O) (.leaf (.tup [Bo.nilP,i 9])) (.leaf (.tup [.ro [i 4,i 10,sls n a b c U O,.lst 1 (2^n) (λz=>[i (eD n a b c U O (2^n) z)]),.lst 1 (2^n) (λz=>[i (lS n a b c U O (2^n-1) z)])],i 0])))):=by
 refine GS (L:=[]) (Ae (yZ n a b c U O VR.1) (Ae (hO n a b c U O (eD n a b c U O (2^n)) (lS n a b c U O (2^n-1)) VR.1) Aa)) (Ai (Af (hU n a b c U O VR) Ab) Ac) VY Tryz.func55 (UT Tryz.f55) G5 (t:=let W:=(AV.ro [iI 4,iI 10,Q0 n a b c U O,lst 1 (2^n) λz=>[iI (eD n a b c U O (2^n) z)],lst 1 (2^n) λz=>[iI (lS n a b c U O (2^n-1) z)]]);(need [VZ (X4 n a b c U O)] (branch ((if zR n a b c U O=true then (0:Int) else (1:Int)) != 0) (leaf (tup [QE,iI (if zR n a b c U O=true then (0:Int) else (1:Int))])) (branch (!rt) (leaf (tup [QE,iI 2])) (need [VZ (X4 n a b c U O)] (need [VZ ([W])] (branch (!eD n a b c U O (2^n) (2^n-1) != 101) (leaf (tup [QE,iI 9])) (leaf (tup [W,iI 0]))))))))) VT ?_
 intro Q hQ;simp only [VM.sat,UB,UH] at hQ ⊢;rw [aE VR];refine ⟨λh=>by simp at h,λ_=>⟨λh=>⟨.tup [Bo.nilP,i 2],⟨rfl,⟨rfl,rfl⟩,Ak⟩,hQ.1 h⟩,λh=>⟨λh2=>⟨.tup [Bo.nilP,i 9],⟨rfl,⟨rfl,rfl⟩,Ak⟩,(hQ.2 h).1 h2⟩,λh2=>⟨.tup [.ro [i 4,i 10,sls n a b c U O,.lst 1 (2^n) (λz=>[i (eD n a b c U O (2^n) z)]),.lst 1 (2^n) (λz=>[i (lS n a b c U O (2^n-1) z)])],i 0],⟨rfl,⟨rfl,rfl⟩,Ak⟩,(hQ.2 h).2 h2⟩⟩⟩⟩
theorem C0(a b c U O:Nat->Int)(VR:sV n a b c U O):UN VO 55 [.agg [i 4,i 10,sls n a b c U O],.lit true] (.branch (!true) (.leaf (.tup [Bo.nilP,i 2])) (.branch (!zI n a b c U O) (.leaf (.tup [Bo.nilP,i 9])) (.leaf (.tup [.ro [i 4,i 10,sls n a b c U O,.lst 1 (2^n) (λz=>[i (eD n a b c U O (2^n) z)]),.lst 1 (2^n) (λz=>[i (lS n a b c U O (2^n-1) z)])],i 0])))):=by
 refine GS (L:=[]) (Ae (yZ n a b c U O VR.1) (Ae (hO n a b c U O (eD n a b c U O (2^n)) (lS n a b c U O (2^n-1)) VR.1) Aa)) (Ai (Af (hU n a b c U O VR) Ab) Ac) VY Tryz.func55 (UT Tryz.f55) G5 (t:=let W:=(AV.ro [iI 4,iI 10,Q0 n a b c U O,lst 1 (2^n) λz=>[iI (eD n a b c U O (2^n) z)],lst 1 (2^n) λz=>[iI (lS n a b c U O (2^n-1) z)]]);(need [VZ (X4 n a b c U O)] (branch ((if zR n a b c U O=true then (0:Int) else (1:Int)) != 0) (leaf (tup [QE,iI (if zR n a b c U O=true then (0:Int) else (1:Int))])) (need [VZ (X4 n a b c U O)] (need [VZ ([W])] (branch (!eD n a b c U O (2^n) (2^n-1) != 101) (leaf (tup [QE,iI 9])) (leaf (tup [W,iI 0])))))))) VT ?_
 intro Q hQ;simp only [VM.sat,UB,UH] at hQ ⊢;rw [aE VR]
 replace hQ:=hQ.2 rfl
 refine ⟨λh=>by simp at h,λ_=>⟨λh2=>⟨.tup [Bo.nilP,i 9],⟨rfl,⟨rfl,rfl⟩,Ak⟩,hQ.1 h2⟩,λh2=>⟨.tup [.ro [i 4,i 10,sls n a b c U O,.lst 1 (2^n) (λz=>[i (eD n a b c U O (2^n) z)]),.lst 1 (2^n) (λz=>[i (lS n a b c U O (2^n-1) z)])],i 0],⟨rfl,⟨rfl,rfl⟩,Ak⟩,hQ.2 h2⟩⟩⟩
theorem rF(a b c U O:Nat->Int)(VR:sV n a b c U O):UN VO 55 [.agg [i 4,i 10,sls n a b c U O],.lit false] (.branch (!false) (.leaf (.tup [Bo.nilP,i 2])) (.branch (!zI n a b c U O) (.leaf (.tup [Bo.nilP,i 9])) (.leaf (.tup [.ro [i 4,i 10,sls n a b c U O,.lst 1 (2^n) (λz=>[i (eD n a b c U O (2^n) z)]),.lst 1 (2^n) (λz=>[i (lS n a b c U O (2^n-1) z)])],i 0])))):=by
 refine GS (L:=[]) (Ae (yZ n a b c U O VR.1) (Ae (hO n a b c U O (eD n a b c U O (2^n)) (lS n a b c U O (2^n-1)) VR.1) Aa)) (Ai (Af (hU n a b c U O VR) Ab) Ac) VY Tryz.func55 (UT Tryz.f55) G5 (t:=need [VZ (X4 n a b c U O)] (branch ((if zR n a b c U O=true then (0:Int) else (1:Int)) != 0) (leaf (tup [QE,iI (if zR n a b c U O=true then (0:Int) else (1:Int))])) (leaf (tup [QE,iI 2])))) VT ?_
 intro Q hQ;simp only [VM.sat,UB,UH] at hQ ⊢;rw [aE VR];exact ⟨λh=>by simp at h,λ_=>⟨.tup [Bo.nilP,i 2],⟨rfl,⟨rfl,rfl⟩,Ak⟩,hQ.1 rfl⟩⟩
def IY(a b c U O:Nat->Int):DA:=λl=>match l with
 |[bt,.x (.bool rt)]=>some (.need [bt= .agg [i 4,i 10,sls n a b c U O]] (.branch (!rt) (.leaf (.tup [Bo.nilP,i 2])) (.branch (!zI n a b c U O) (.leaf (.tup [Bo.nilP,i 9])) (.leaf (.tup [.ro [i 4,i 10,sls n a b c U O,.lst 1 (2^n) (λz=>[i (eD n a b c U O (2^n) z)]),.lst 1 (2^n) (λz=>[i (lS n a b c U O (2^n-1) z)])],i 0])))))
 |[bt,.lit rt]=>some (.need [bt= .agg [i 4,i 10,sls n a b c U O]] (.branch (!rt) (.leaf (.tup [Bo.nilP,i 2])) (.branch (!zI n a b c U O) (.leaf (.tup [Bo.nilP,i 9])) (.leaf (.tup [.ro [i 4,i 10,sls n a b c U O,.lst 1 (2^n) (λz=>[i (eD n a b c U O (2^n) z)]),.lst 1 (2^n) (λz=>[i (lS n a b c U O (2^n-1) z)])],i 0])))))
 |_=>none
theorem yW(a b c U O:Nat->Int)(VR:sV n a b c U O):Sx.Enters Tryz.prog 55/\ ∀avs t,IY n a b c U O avs=some t->UN VO 55 avs t:=by
 refine ⟨(UG Tryz.func55),?_⟩;intro avs t h;unfold IY at h;split at h
 ·cases h;intro Q hQ;have e:=hQ.1
  dsimp only [UB] at e
  subst e;exact Qj6 n a b c U O _ VR Q hQ.2
 ·cases h;intro Q hQ;have e:=hQ.1
  dsimp only [UB] at e
  subst e;rename_i rt;cases rt
  ·exact rF n a b c U O VR Q hQ.2
  ·exact C0 n a b c U O VR Q hQ.2
 ·cases h
def dM{α:Type}(f:Nat->Option α):Nat->Nat->Option α
 |_,0=>none
 |s,k+1=>match f s with
  |some r=>some r
  |none=>dM f (s+1) k
def orQ(a b c U O:Nat->Int)(g:Nat->Int->Option (List (Nat×Int)))(d:Nat)(Z:Int)(q:Nat):Option (List (Nat×Int)):=
 if max Z (U (UP (quB n a b c d) n q))>O (UP (quB n a b c d) n q) then none else
  match g (d ||| 2^UP (quB n a b c d) n q) (max Z (U (UP (quB n a b c d) n q))) with
  |some l=>some (l++[(UP (quB n a b c d) n q,max Z (U (UP (quB n a b c d) n q)))])
  |none=>none
end
def orF(n:Nat)(a b c U O:Nat->Int):Nat->Nat->Int->Option (List (Nat×Int))
 | 0,_,_=>none
 |N+1,d,Z=>if d=2^n-1 then some [] else dM (orQ n a b c U O (orF n a b c U O N) d Z) 0 (quN n a b c d)
def orS(n:Nat)(a b c U O:Nat->Int)(d:Nat)(Z:Int):Option (List (Nat×Int)):=orF n a b c U O (2^n) d Z
def orL(l:List (Nat×Int)):List Int:=l.map λp=>(p.1:Int)
def dyU:List (Nat×Int)->(Nat->Int)->Nat->Int
 |[],f=>f
 |p::t,f=>dyU t (UR p.1 p.2 f)
section
variable (n:Nat)(a b c U O:Nat->Int)
def orG(d:Nat)(Z:Int):List (Nat×Int):=(orS n a b c U O d Z).getD []
def orH(x:Value):Prop:= ∃(d:Nat) (Z:Int),x= .agg #[.int .i64 d,.int .i64 Z]/\d<2^n/\orS n a b c U O d Z=none
end
def orV:Value->Value:=λ_=> .bool true
def stK(x:Value):Prop:= ∃(d Z:Int),x= .agg #[.int .i64 d,.int .i64 Z]
theorem Wc6(l m:List Int): ∀k,U8 (l++m) k=if k<l.length then U8 l k else U8 m (k-l.length):=by
 induction l with
 |nil=>intro k;simp
 |cons x l ih=>
  intro k;cases k with
  |zero=>simp [U8]
  |succ k=>
   show U8 (l++m) k=_;rw [ih];simp only [Bj,Nat.add_lt_add_iff_right,Nat.add_sub_add_right];rfl
theorem E4: ∀{l:List Int} {k:Nat} (h:k<l.length),U8 l k=l[k]
 |x::l,0,h=>rfl
 |x::l,k+1,h=>E4 (l:=l) (k:=k) (by simpa using h)
theorem dL{α:Type}{f:Nat->Option α}: ∀{k s:Nat},dM f s k=none↔ ∀j,s<=j->j<s+k->f j=none
 | 0,s=>⟨λ_ j h1 h2=>VJ,λ_=>rfl⟩
 |k+1,s=>by
  unfold dM;cases h:f s with
  |some r=>exact ⟨λh1=>(by cases h1),λh1=>(by rw [h1 s (Am _) VJ] at h;cases h)⟩
  |none=>
   simp only;rw [dL];refine ⟨λh1 j h2 h3=>?_,λh1 j h2 h3=>h1 j VJ VJ⟩
   rcases (show j=s\/s+1<=j by omega) with rfl|h4
   ·exact h
   ·exact h1 j h4 VJ
theorem O5{α:Type}{f:Nat->Option α}{r:α}{q:Nat}(hq:f q=some r): ∀{k s:Nat},s<=q->q<s+k->(∀j,s<=j->j<q->f j=none)->dM f s k=some r
 | 0,s,h1,h2,_=>VJ
 |k+1,s,h1,h2,h3=>by
  unfold dM;rcases (show s=q\/s<q by omega) with rfl|h4
  ·rw [hq]
  ·rw [h3 s (Am _) h4];exact O5 hq h4 VJ (λj h5 h6=>h3 j VJ h6)
theorem EZ{α:Type}{f g:Nat->Option α}: ∀{k s:Nat},(∀j,s<=j->j<s+k->f j=g j)->dM f s k=dM g s k
 | 0,_,_=>rfl
 |k+1,s,h=>by
  unfold dM;rw [h s (Am _) VJ,EZ (λj h1 h2=>h j VJ VJ)]
theorem rQ{n:Nat}(h:n<=8):2^n<=256:=by
 have:=uG h;have hpn:((2^n:Nat):Int)=2^n:=VV;omega
theorem Xq7{n:Nat}{a b c:Nat->Int}{d q:Nat}(h8:n<=8)(hd:d<2^n)(hq:q<quN n a b c d):d<d ||| 2^UP (quB n a b c d) n q:=by
 have hs:=kM hq;have h2:=rQ h8;have hb:ML d (UP (quB n a b c d) n q)=false:=by
  have:=hs.2;unfold quB at this;rw [H6] at this;have h1:=this.1;unfold quB;simpa using h1
 rw [Wm7 VJ] at hb;have hle:d<=d ||| 2^UP (quB n a b c d) n q:=Nat.left_le_or
 rcases Nat.lt_or_eq_of_le hle with h|h
 ·exact h
 ·exfalso;have:(d ||| 2^UP (quB n a b c d) n q).testBit (UP (quB n a b c d) n q)=true:=by
   rw [Nat.testBit_or,Nat.testBit_two_pow_self,Bool.or_true]
  rw [←h,hb] at this;cases this
theorem cM{n:Nat}{a b c U O:Nat->Int}(h8:n<=8): ∀(N N' d:Nat) (Z:Int),d<2^n->2^n-d<=N->2^n-d<=N'->orF n a b c U O N d Z=orF n a b c U O N' d Z
 | 0,_,d,_,h1,h2,_=>VJ
 |N+1,0,d,_,h1,_,h3=>VJ
 |N+1,N'+1,d,Z,h1,h2,h3=>by
  simp only [orF];split
  ·rfl
  ·refine EZ λq _ hq=>?_
   have hq:q<quN n a b c d:=VJ;have hg:=Xq7 h8 h1 hq;have hl:=tI h1 (kM hq).1;unfold orQ;rw [cM h8 N N' _ _ hl VJ VJ]
section
variable {n:Nat}{a b c U O:Nat->Int}
theorem nO(h8:n<=8){d:Nat}(Z:Int)(hd:d<2^n):orS n a b c U O d Z=if d=2^n-1 then some [] else dM (orQ n a b c U O (orS n a b c U O) d Z) 0 (quN n a b c d):=by
 have h:orS n a b c U O d Z=orF n a b c U O (2^n+1) d Z:=cM h8 _ _ _ _ hd VJ VJ;rw [h];rfl
theorem Wb6(h8:n<=8)(Z:Int):orS n a b c U O (2^n-1) Z=some []:=by
 have:=rQ h8;have:0<2^n:=Nat.two_pow_pos n;rw [nO h8 Z VJ,if_pos rfl]
end
theorem Xd7(l:List (Nat×Int))(p:Nat×Int):orL (l++[p])=orL l++[(p.1:Int)]:=by simp [orL]
theorem Qb6: ∀(l:List (Nat×Int)) (p:Nat×Int) (f:Nat->Int),dyU (l++[p]) f=UR p.1 p.2 (dyU l f)
 |[],_,_=>rfl
 |_::t,p,f=>Qb6 t p _
theorem tK{n:Nat}{a b c U O:Nat->Int}: ∀(N d:Nat) (Z:Int) (l:List (Nat×Int)),orF n a b c U O N d Z=some l->l.length<=N
 | 0,_,_,_,h=>by simp [orF] at h
 |N+1,d,Z,l,h=>by
  simp only [orF] at h;split at h
  ·cases h;exact Ao _
  ·obtain ⟨q,hq⟩: ∃q,orQ n a b c U O (orF n a b c U O N) d Z q=some l:=by
    refine Classical.byContradiction λhno=>?_
    rw [dL.2 (λj _ _=>?_)] at h
    ·cases h
    ·cases hj:orQ n a b c U O (orF n a b c U O N) d Z j with
     |none=>rfl
     |some r=>
      exfalso;have: ∀(f:Nat->Option (List (Nat×Int))) (k s:Nat) (r:List (Nat×Int)),dM f s k=some r-> ∃q,f q=some r:=by
       intro f k
       induction k with
       |zero=>intro s r h;cases h
       |succ k ih=>
        intro s r h;unfold dM at h;cases hf:f s with
        |some r'=>rw [hf] at h;cases h;exact ⟨s,hf⟩
        |none=>rw [hf] at h;exact ih _ _ h
      exact hno (this _ _ _ _ h)
   unfold orQ at hq;split at hq
   ·cases hq
   ·split at hq
    ·rename_i l' hl';cases hq;have:=tK N _ _ _ hl';rw [Be];simp;omega
    ·cases hq
theorem tJ(n:Nat)(a b c U O:Nat->Int)(d:Nat)(Z:Int):(orG n a b c U O d Z).length<=2^n:=by
 unfold orG;cases h:orS n a b c U O d Z with
 |none=>exact Ao _
 |some l=>exact tK _ _ _ _ h
theorem NH(d Z:Int):FB Tryz.prog 340 stK (.agg #[.int .i64 d,.int .i64 Z]) (.bool false):=by
 refine ⟨⟨343,4,(match Tryz.prog.underlying 343 with|some (.struct fs)=>fs|_=>#[]),VT,VT,?_,?_,?_⟩,by simp [Instr.sameBits]⟩
 ·intro b' w;kernel_rfl
 ·rintro k' ⟨d',day',rfl⟩ w;refine ⟨d==d'&&(Z==day'&&true),xE (P:=Tryz.prog) (e:=PB w w) Op.maxDepth 343 (.agg [i d,i Z]) (.agg [i d',i day']) _ _ _ VT (Rep.aggL (U2.cons (.x _) (U2.one (.x _)))) (Rep.aggL (U2.cons (.x _) (U2.one (.x _)))),λh=>?_⟩
  simp only [Bool.and_true,H6,beq_iff_eq] at h;obtain ⟨rfl,rfl⟩:=h;rfl
 ·intro w;kernel_rfl
theorem Wb7{n:Nat}{a b c U O:Nat->Int}{x:Value}(h:orH n a b c U O x):stK x:=by
 obtain ⟨d,Z,h,_⟩:=h;exact ⟨_,_,h⟩
section
variable (n:Nat)(a b c U O:Nat->Int)(ea la:AV)
def OM(d:Nat)(Z:Int)(ord:List Int)(dy:Nat->Int)(oa:Option Addr)(ol oc:Nat)(da:Option Addr)(dl dc:Nat):GZ:=[(3,.cells 22 [.row 900]),(3,.cells 22 [.x (.slice oa ol oc)]),(900,.row 3 1 ord.length (λj=>[i (U8 ord j)])),(5,.memo (orH n a b c U O) orV),(7,.row 3 1 n (λj=>[i (dy j)])),(0,.keep 134 [.ro [i 4,i 10,sls n a b c U O,ea,la]]),(1,.keep 340 [.mp 5]),(2,.keep 341 [.fn (.func 237) [] [.ptr 0 0,.ptr 1 0,.ptr 2 0,.ptr 3 0,.ptr 4 0]]),(4,.cells 22 [.row 7]),(4,.cells 22 [.x (.slice da dl dc)])]
def OT_(d:Nat)(Z:Int)(ord:List Int)(dy:Nat->Int)(oa:Option Addr)(ol oc:Nat)(da:Option Addr)(dl dc:Nat)(l:List (Nat×Int)):St:={σ:=[],m:=[(3,.cells 22 [.row 900]),(900,.row 3 1 (ord++orL l).length (λj=>[i (U8 (ord++orL l) j)])),(5,.memo (orH n a b c U O) orV),(7,.row 3 1 n (λj=>[i ((dyU l dy) j)])),(0,.keep 134 [.ro [i 4,i 10,sls n a b c U O,ea,la]]),(1,.keep 340 [.mp 5]),(2,.keep 341 [.fn (.func 237) [] [.ptr 0 0,.ptr 1 0,.ptr 2 0,.ptr 3 0,.ptr 4 0]]),(4,.cells 22 [.row 7]),(4,.cells 22 [.x (.slice da dl dc)])],nx:=901,sv:=[[.ptr 0 0,.ptr 1 0,.ptr 2 0,.ptr 3 0,.ptr 4 0]] }
def OF_(d:Nat)(Z:Int)(ord:List Int)(dy:Nat->Int)(oa:Option Addr)(ol oc:Nat)(da:Option Addr)(dl dc:Nat):St:={σ:=[],m:=[(3,.cells 22 [.row 900]),(3,.cells 22 [.x (.slice oa ol oc)]),(900,.row 3 1 ord.length (λj=>[i (U8 ord j)])),(5,.memo (orH n a b c U O) orV),(7,.row 3 1 n (λj=>[i (dy j)])),(0,.keep 134 [.ro [i 4,i 10,sls n a b c U O,ea,la]]),(1,.keep 340 [.mp 5]),(2,.keep 341 [.fn (.func 237) [] [.ptr 0 0,.ptr 1 0,.ptr 2 0,.ptr 3 0,.ptr 4 0]]),(4,.cells 22 [.row 7]),(4,.cells 22 [.x (.slice da dl dc)])],nx:=901,sv:=[[.ptr 0 0,.ptr 1 0,.ptr 2 0,.ptr 3 0,.ptr 4 0]] }
end
def NF:List (Nat×Nat)->Bool
 |[]=>true
 |(x,y)::t=>match Nat.beq x y with
  |true=>NF t
  |false=>false
def Xf2:GN->Bool
 | .aka _ _ _ _ _=>true
 |_=>false
def nT:GZ->GZ
 |[]=>[]
 |(k,r)::t=>match Xf2 r with
  |true=>nT t
  |false=>(k,r)::nT t
def x6(k:Nat)(g:Nat->List AV):List Int:=(List.range k).map (col 0 g)
def mE(n:Nat)(a b c U O:Nat->Int)(N:Nat):HX:=λavs m nx sv=>match avs with
 |[.agg [.x (.int .i64 d),.x (.int .i64 Z)],.ptr k W,.ptr g z1,.ptr f z2,.ptr o z3,.ptr dd z4]=>match DE m k,DE m g,DE m f,DE m o,DE m dd with
  |some (.keep Tk [.ro [c1,c2,sl,ea,la]]),some (.keep Tg [.mp mg]),some (.keep Tf [.fn (.func fg) [] [.ptr k' y0,.ptr g' y1,.ptr f' y2,.ptr o' y3,.ptr d' y4]]),some (.cells To [.row q]),some (.cells Td [.row r])=>match DE m mg,DE m q,DE m r with
   |some (.memo h ff),some (.row T1 s1 k1 g1),some (.row T2 s2 k2 g2)=>
    match NF [(W,0),(z1,0),(z2,0),(z3,0),(z4,0),(y0,0),(y1,0),(y2,0),(y3,0),(y4,0),(Tk,134),(Tg,340),(Tf,341),(To,22),(Td,22),(fg,237),(k,k'),(g,g'),(f,f'),(o,o'),(dd,d'),(T1,3),(s1,1),(T2,3),(s2,1)]&&(!Nat.beq q r&& !Nat.beq o dd) with
    |true=>some (.needT [c1=i 4,c2=i 10,sl=sls n a b c U O,∀x,h x->orH n a b c U O x/\ff x=orV x,UF 1 k1 g1,UF 1 k2 g2,k2=n,0<=d/\d<2^n,2^n-d.toNat<=N,0<=Z/\Z<=100,k1<=1000]
      (.branch (orS n a b c U O d.toNat Z).isSome
       (.leaf (.lit true,(nx,.row 3 1 (x6 k1 g1++orL (orG n a b c U O d.toNat Z)).length (λj=>[i (U8 (x6 k1 g1++orL (orG n a b c U O d.toNat Z)) j)]))::qA (qA (qA (zZ (nT m) q) o (.cells 22 [.row nx])) r (.row 3 1 n (λj=>[i (dyU (orG n a b c U O d.toNat Z) (col 0 g2) j)]))) mg (.memo (orH n a b c U O) orV),nx+1,sv))
       (.leaf (.lit false,qA (qA (qA (nT m) q (.row 3 1 k1 g1)) r (.row 3 1 n g2)) mg (.memo (orH n a b c U O) orV),nx,sv))))
    |false=>none
   |_,_,_=>none
  |_,_,_,_,_=>none
 |_=>none
theorem Ji0{l:List Int}{x:Int}{j:Nat}(h:j<l.length+1):GE l.length (λj=>[i (U8 l j)]) (U4 1 [i x]) j=[i (U8 (l++[x]) j)]:=by
 rw [Wc6];show H0 (decide (j<l.length)) _ (U4 1 [i x] (j-l.length))=_;rw [show j-l.length=0 by omega]
 by_cases hj:j<l.length
 ·rw [decide_eq_true hj,if_pos hj];rfl
 ·rw [decide_eq_false hj,if_neg hj];rfl
theorem mY(n:Nat)(f:Nat->Int):UF 1 n (λj=>[i (f j)]):=λj _=>rfl
theorem ST(l:List Int):x6 l.length (λj=>[i (U8 l j)])=l:=by
 unfold x6;apply List.ext_getElem?;intro j;rcases An j l.length with hj|hj
 ·rw [Bn,List.getElem?_range hj,HY VJ];simp only [Bt,HD];unfold col;show U8 l j=l[j];exact E4 VJ
 ·rw [Br (by simp;omega),Br VJ]
abbrev QM:AV:=AV.fn (Fn.func 237) [] [ptr 0 0,ptr 1 0,ptr 2 0,ptr 3 0,ptr 4 0]
section
variable (n:Nat)(a b c U O:Nat->Int)(ea la:AV)(d:Nat)(Z:Int)(ord:List Int)(dy:Nat->Int)(oa:Option Addr)(ol oc:Nat)(da:Option Addr)(dl dc:Nat)
def Wz2(N:Nat):St:={σ:=[agg [iI (d:Int),iI Z],ptr 0 0,ptr 1 0,ptr 2 0,ptr 3 0,ptr 4 0,ptr 901 0,ptr 902 0]++HH 14 [AV.fn (Fn.func 171) [] [AV.ro [QQ n a b c U O ea la],AV.ro [iI (d:Int)]]]++HH 33 [],m:=[(902,GN.cells 4 [AV.x (WM)]),(901,GN.cells 343 [iI (d:Int),iI Z]),(3,GN.cells 22 [AV.row 900]),(3,GN.cells 22 [AV.x (.slice oa ol oc)]),(900,GN.row 3 1 (List.length ord) λj=>[iI (U8 ord j)]),(5,GN.memo (λx=>orH n a b c U O x) λa=>Value.bool true),(7,GN.row 3 1 n λj=>[iI (dy j)]),(0,GN.keep 134 [QQ n a b c U O ea la]),(1,GN.keep 340 [AV.mp 5]),(2,GN.keep 341 [QM]),(4,GN.cells 22 [AV.row 7]),(4,GN.cells 22 [AV.x (.slice da dl dc)])],nx:=915,sv:=[[ptr 0 0,ptr 1 0,ptr 2 0,ptr 3 0,ptr 4 0]] }
noncomputable def Jr4:Code:=SI (VS (U7 Tryz.f237) 0)
noncomputable def Jp4:Code:=SH (VS (U7 Tryz.f237) 0)
def Wg6(N:Nat)(k:Nat):St:={σ:=H4 [(8,.top),(9,.top),(10,.top)] (Wz2 n a b c U O ea la d Z ord dy oa ol oc da dl dc N).σ,m:=[(902,.cells 4 [.x (.bool false)]),(901,.cells 343 [i d,i Z]),(3,.cells 22 [.row 900]),(3,.cells 22 [.x (.slice oa ol oc)]),(900,.row 3 1 ord.length (λj=>[i (U8 ord j)])),(5,.memo (orH n a b c U O) orV),(7,.row 3 1 n (λj=>[i (dy j)])),(0,.keep 134 [.ro [i 4,i 10,sls n a b c U O,ea,la]]),(1,.keep 340 [.mp 5]),(2,.keep 341 [.fn (.func 237) [] [.ptr 0 0,.ptr 1 0,.ptr 2 0,.ptr 3 0,.ptr 4 0]]),(4,.cells 22 [.row 7]),(4,.cells 22 [.x (.slice da dl dc)])],nx:=920,sv:=[[.ptr 0 0,.ptr 1 0,.ptr 2 0,.ptr 3 0,.ptr 4 0]] }
def v8(N:Nat)(k:Nat):G7->Option St
 | .normal=>some {σ:=H4 [(8,.top),(9,.top),(10,.top)] (Wz2 n a b c U O ea la d Z ord dy oa ol oc da dl dc N).σ,m:=[(902,.cells 4 [.x (.bool false)]),(901,.cells 343 [i d,i Z]),(3,.cells 22 [.row 900]),(3,.cells 22 [.x (.slice oa ol oc)]),(900,.row 3 1 ord.length (λj=>[i (U8 ord j)])),(5,.memo (orH n a b c U O) orV),(7,.row 3 1 n (λj=>[i (dy j)])),(0,.keep 134 [.ro [i 4,i 10,sls n a b c U O,ea,la]]),(1,.keep 340 [.mp 5]),(2,.keep 341 [.fn (.func 237) [] [.ptr 0 0,.ptr 1 0,.ptr 2 0,.ptr 3 0,.ptr 4 0]]),(4,.cells 22 [.row 7]),(4,.cells 22 [.x (.slice da dl dc)])],nx:=920,sv:=[[.ptr 0 0,.ptr 1 0,.ptr 2 0,.ptr 3 0,.ptr 4 0]] }
 | .ret=>some {σ:=H4 [(8,.top),(9,.top),(10,.top)] (Wz2 n a b c U O ea la d Z ord dy oa ol oc da dl dc N).σ,m:=[(902,.cells 4 [.lit true]),(901,.cells 343 [i d,i Z]),(3,.cells 22 [.row 900]),(900,.row 3 1 (ord++orL (orG n a b c U O d Z)).length (λj=>[i (U8 (ord++orL (orG n a b c U O d Z)) j)])),(5,.memo (orH n a b c U O) orV),(7,.row 3 1 n (λj=>[i ((dyU (orG n a b c U O d Z) dy) j)])),(0,.keep 134 [.ro [i 4,i 10,sls n a b c U O,ea,la]]),(1,.keep 340 [.mp 5]),(2,.keep 341 [.fn (.func 237) [] [.ptr 0 0,.ptr 1 0,.ptr 2 0,.ptr 3 0,.ptr 4 0]]),(4,.cells 22 [.row 7]),(4,.cells 22 [.x (.slice da dl dc)])],nx:=920,sv:=[[.ptr 0 0,.ptr 1 0,.ptr 2 0,.ptr 3 0,.ptr 4 0]] }
 |_=>none
def Zn4(N:Nat):CT:= .branch (orS n a b c U O d Z).isSome (.leaf (.ret,(v8 n a b c U O ea la d Z ord dy oa ol oc da dl dc N 0 .ret).getD (Wz2 n a b c U O ea la d Z ord dy oa ol oc da dl dc N))) (.leaf (.normal,(v8 n a b c U O ea la d Z ord dy oa ol oc da dl dc N 0 .normal).getD (Wz2 n a b c U O ea la d Z ord dy oa ol oc da dl dc N)))
def Xv4(N:Nat):UI:=GK [(.cell 3 0,900,3,1)] (HG (Wg6 n a b c U O ea la d Z ord dy oa ol oc da dl dc N (0)) (Zn4 n a b c U O ea la d Z ord dy oa ol oc da dl dc N))
end
abbrev ZW:Prop:=AV.row 900=AV.row 900
abbrev J7:Prop:=AV.row 7=AV.row 7
abbrev JL:Prop:=AV.mp 5=AV.mp 5
abbrev JW(ord:List Int):Prop:=List.length ord=List.length ord
abbrev KS:Prop:=ptr 901 0=ptr 901 0
abbrev KT:Prop:=ptr 902 0=ptr 902 0
theorem Jb0(n:Nat)(a b c U O:Nat->Int)(ea la:AV)(d:Nat)(Z:Int)(ord:List Int)(dy:Nat->Int)(oa:Option Addr)(ol oc:Nat)(da:Option Addr)(dl dc:Nat)(N:Nat)(VR:sV n a b c U O)(UE:d<2^n/\d≠2^n-1)(HQ:2^n-d<=N+1)(F1:0<=Z/\Z<=100)(BL:ord.length<=1000)(xX:GB VO 237 (mE n a b c U O N)):HP VO (.rangeFunc (rfF (VS (U7 Tryz.f237) 0)) (jD (VS (U7 Tryz.f237) 0)) Jr4 Jp4) (Xv4 n a b c U O ea la d Z ord dy oa ol oc da dl dc N):=by
 refine P7 [(.cell 3 0,900,3,1)] (X:={R:=[(131,A2)],H:=[(237,(mE n a b c U O N))] }) (L:=[]) (Ae DX (Ae LC Aa)) (Ai (Af N7 Ab) (Ag xX Ac)) VY U3 (V:=Nat) (Wg6 n a b c U O ea la d Z ord dy oa ol oc da dl dc N) (λk=>k<=(quN n a b c d)/\ ∀j,j<k->orQ n a b c U O (orS n a b c U O) d Z j=none) (λk=>k) (v8 n a b c U O ea la d Z ord dy oa ol oc da dl dc N) (x0:=0) ⟨Ao _,λj h=>absurd h (Aq _)⟩ rfl ?_ ?_ ?_ ?_ (g:=171) (caps:=[.ro [.ro [i 4,i 10,sls n a b c U O,ea,la]],.ro [i d]]) VT VT (yX ea la n a b c U O d VR (BW VR.1 UE.1)) (λ_=>rfl) ?_
 ·rintro k;kernel_rfl
 ·rintro k y E h;unfold v8 at h;split at h
  ·cases h;kernel_rfl
  ·cases h;kernel_rfl
  ·cases h
 ·rintro k;rfl
 ·rintro k y E h;unfold v8 at h;split at h
  ·cases h;rfl
  ·cases h;rfl
  ·cases h
 ·rintro Q hQ k hx;refine ⟨λhlt=>⟨(k+1),rfl,?_⟩,λPI=>?_⟩
  ·(with_reducible refine DH (t:=let z5:=(quB n a b c (d:Int));let z3:=(UP z5 n k);let z6:=(VZ (AV.fn (Fn.func 171) [] [AV.ro [QQ n a b c U O ea la],AV.ro [iI (d:Int)]]));let z10:=(x6 (List.length ord) λj=>[i (U8 ord j)]);let z1:=(BitVec.toNat (BitVec.ofInt 64 (d:Int) ||| BitVec.ofInt 64 ((1:Int)*2^UP z5 n k)));let z8:=(IntKind.wrap IntKind.i64 (z1:Int));let z4:=(orG n a b c U O (Int.toNat z8) (max Z (U z3)));let z9:=(orG n a b c U O d Z);let z7:=orH n a b c U O;let W:=(need [UJ z3 n] (need [UP z5 n k<n] (need [VZ (agg [iI (d:Int),iI Z]),QO,XV,ZA,ZF,W5,KS,KT,z6,VZ (AV.lit true),VZ (d:Int),Z=Z,ZW,List.length (z10++orL z4)+1=List.length (ord++orL z9),∀(i:Nat),i<List.length (ord++orL z9)->GE (List.length ((x6 (List.length ord) λj=>[iI (U8 ord j)])++orL z4)) (λj=>[iI (U8 ((x6 (List.length ord) λj=>[iI (U8 ord j)])++orL z4) j)]) (U4 1 [iI (z3:Int)]) i=[iI (U8 (ord++orL z9) i)],∀(k:Value),z7 k->z7 k/\orV k=orV k,n=n,∀(i:Nat),i<n->H0 (decide (i=UP z5 n k)) [iI (max Z (U z3))] [iI (dyU z4 dy i)]=[iI (dyU z9 dy i)],ZM n a b c U O ea la,JL,QM=QM,J7,VZ (AV.x (.slice da dl dc)),QO,XV,ZA,ZF,W5] (leaf G7.ret))));let z2:=(need [VZ (agg [iI (d:Int),iI Z]),QO,XV,ZA,ZF,W5,KS,KT,z6,false=false,VZ (d:Int),Z=Z,ZW,VZ (AV.x (.slice oa ol oc)),JW ord,∀(i:Nat),i<List.length ord->[iI (U8 ord i)]=[iI (U8 ord i)],∀(k:Value),z7 k->z7 k/\orV k=orV k,n=n,∀(i:Nat),i<n->[iI (dy i)]=[iI (dy i)],ZM n a b c U O ea la,JL,QM=QM,J7,VZ (AV.x (.slice da dl dc)),QO,XV,ZA,ZF,W5] (leaf G7.normal));(branch (decide (max Z (U z3)>O z3)) z2 (need [(0:Int)<=(z3:Int)/\(z3:Int)<=64,VL ((1:Int)*2^UP z5 n k)] (need [VZ (iI 4),VZ (iI 10),W2 n a b c U O,∀(x:Value),z7 x->z7 x/\orV x=orV x,UF 1 (List.length ord) λj=>[i (U8 ord j)],UF 1 n λj=>[i (dy j)],n=n,(0:Int)<=IntKind.wrap IntKind.i64 (z1:Int)/\IntKind.wrap IntKind.i64 (z1:Int)<2^n,2^n-Int.toNat z8<=N,(0:Int)<=max Z (U z3)/\max Z (U z3)<=100,List.length ord<=1000] (branch (Option.isSome (orS n a b c U O (Int.toNat z8) (max Z (U z3)))) (need [(List.length (z10++orL z4)+1)*8<=140737488355328,RT 1 (U4 1 [iI (z3:Int)])] (VM.may True W (VM.may True W W))) z2))))) VT ?_)
   simp only [Zn4,v8,VM.sat,GT] at hQ;obtain ⟨x1,x2⟩:=hx;have h8:=VR.1;have hd:=UE.1;have hd2:=BW h8 hd;have hpn:((2^n:Nat):Int)=2^n:=VV;have h256:=rQ h8;have hs:=kM hlt;have hor:=Wb4 h8 hd hs.1;have hol:=tI hd hs.1;have hgt:=Xq7 h8 hd hlt;have hsv:=t8 VR hs.1;have h2s:(1:Int)<=2^UP (quB n a b c d) n k/\(2:Int)^UP (quB n a b c d) n k<=256:=uG VJ;have BQ:orS n a b c U O d Z=dM (orQ n a b c U O (orS n a b c U O) d Z) 0 (quN n a b c d):=by
    rw [nO h8 Z hd,if_neg UE.2]
   simp only [VM.sat,UB,UH,hor,DZ,HA,ST]
   have Qn1:((d ||| 2^UP (quB n a b c d) n k:Nat):Int)<2^n:=by
    have h:((d ||| 2^UP (quB n a b c d) n k:Nat):Int)<((2^n:Nat):Int):=Int.ofNat_lt.2 hol
    rwa [hpn] at h
   have Xr5:orQ n a b c U O (orS n a b c U O) d Z k=none-> ∀j,j<k+1->orQ n a b c U O (orS n a b c U O) d Z j=none:=by
    intro h1 j h2;rcases (show j=k\/j<k by omega) with rfl|h3
    ·exact h1
    ·exact x2 j h3
   have hQe:orQ n a b c U O (orS n a b c U O) d Z k=(if max Z (U (UP (quB n a b c d) n k))>O (UP (quB n a b c d) n k) then none else match orS n a b c U O (d ||| 2^UP (quB n a b c d) n k) (max Z (U (UP (quB n a b c d) n k))) with
     |some l=>some (l++[(UP (quB n a b c d) n k,max Z (U (UP (quB n a b c d) n k)))])
     |none=>none):=rfl
   have uZ: ¬max Z (U (UP (quB n a b c d) n k))>O (UP (quB n a b c d) n k)->(orS n a b c U O (d ||| 2^UP (quB n a b c d) n k) (max Z (U (UP (quB n a b c d) n k)))).isSome=true->
     (orS n a b c U O d Z).isSome=true/\orG n a b c U O d Z=orG n a b c U O (d ||| 2^UP (quB n a b c d) n k) (max Z (U (UP (quB n a b c d) n k)))++[(UP (quB n a b c d) n k,max Z (U (UP (quB n a b c d) n k)))]:=by
    intro h1 h2;obtain ⟨l,hl⟩:=Option.isSome_iff_exists.1 h2;rw [if_neg h1,hl] at hQe;have h3:orS n a b c U O d Z=some (l++[(UP (quB n a b c d) n k,max Z (U (UP (quB n a b c d) n k)))]):=by
     rw [BQ];exact O5 (q:=k) hQe (Ao _) VJ (λj _ h4=>x2 j h4)
    unfold orG;rw [h3,hl];exact ⟨rfl,rfl⟩
   have hk1:k+1<=quN n a b c d:=hlt;have hc1: ∀x:Int,∀(j:Nat),j<1-> ∀y,y∈U4 1 [iI x] j->AV.one y=true:=λx j _ y hy=>FG hy (by simp [AV.one,Value.oneCell'])
   have hGl:=tJ n a b c U O (d ||| 2^UP (quB n a b c d) n k) (max Z (U (UP (quB n a b c d) n k)))
   have hoL: ∀l:List (Nat×Int),(orL l).length=l.length:=λl=>by simp [orL]
   refine ⟨λh=>?_,λh=>?_⟩
   ·have hno:orQ n a b c U O (orS n a b c U O) d Z k=none:=by
     rw [hQe,if_pos h]
    exact ⟨⟨λ_ _=>trivial,λ_ h=>h,λ_ _=>trivial⟩,hk1,Xr5 hno⟩
   ·refine ⟨⟨⟨VJ,VJ⟩,by simp only [VL,Int.one_mul];omega⟩,⟨λ_ h=>h,mY _ _,mY _ _,⟨VJ,Qn1⟩,VJ,⟨VJ,VJ⟩,BL⟩,λh2=>?_,λh2=>?_⟩
    ·obtain ⟨g1,g2⟩:=uZ VJ h2;rw [g2];have hln:(ord++orL (orG n a b c U O (d ||| 2^UP (quB n a b c d) n k) (max Z (U (UP (quB n a b c d) n k))))).length<=2000:=by
      rw [Be,hoL];omega
     have hap:ord++orL (orG n a b c U O (d ||| 2^UP (quB n a b c d) n k) (max Z (U (UP (quB n a b c d) n k)))++[(UP (quB n a b c d) n k,max Z (U (UP (quB n a b c d) n k)))])=(ord++orL (orG n a b c U O (d ||| 2^UP (quB n a b c d) n k) (max Z (U (UP (quB n a b c d) n k)))))++[((UP (quB n a b c d) n k:Nat):Int)]:=by
      rw [Xd7,List.append_assoc]
     have hdy:dyU (orG n a b c U O (d ||| 2^UP (quB n a b c d) n k) (max Z (U (UP (quB n a b c d) n k)))++[(UP (quB n a b c d) n k,max Z (U (UP (quB n a b c d) n k)))]) dy=UR (UP (quB n a b c d) n k) (max Z (U (UP (quB n a b c d) n k))) (dyU (orG n a b c U O (d ||| 2^UP (quB n a b c d) n k) (max Z (U (UP (quB n a b c d) n k)))) dy):=Qb6 _ _ _
     rw [hap,hdy];refine ⟨⟨VJ,hc1 _⟩,?_⟩;have hin:(0<=((UP (quB n a b c d) n k:Nat):Int)/\((UP (quB n a b c d) n k:Nat):Int)<n):=⟨VJ,by have:=hs.1;omega⟩
     have hrw: ∀j,j<((ord++orL (orG n a b c U O (d ||| 2^UP (quB n a b c d) n k) (max Z (U (UP (quB n a b c d) n k)))))++[((UP (quB n a b c d) n k:Nat):Int)]).length->j<(ord++orL (orG n a b c U O (d ||| 2^UP (quB n a b c d) n k) (max Z (U (UP (quB n a b c d) n k))))).length+1:=λj hj=>by
      rw [Be] at hj;simpa using hj
     (with_reducible repeat' first|apply Al|intro _)
     all_goals first|exact Ak|exact hin.1|exact hin.2|exact hs.1|(rename_i E hE;cases hE;exact hQ.1 g1)|rfl|exact Ji0 (hrw _ (by assumption))|exact uC|(rw [Be (bs:=[_])];rfl)|assumption
    ·have hno:orQ n a b c U O (orS n a b c U O) d Z k=none:=by
      rw [hQe,if_neg VJ];cases ho:orS n a b c U O (d ||| 2^UP (quB n a b c d) n k) (max Z (U (UP (quB n a b c d) n k))) with
      |none=>rfl
      |some l=>rw [ho] at h2;cases h2
     exact ⟨⟨λ_ _=>trivial,λ_ h=>h,λ_ _=>trivial⟩,hk1,Xr5 hno⟩
  ·have hk:k=quN n a b c d:=VJ;subst hk;simp only [Zn4,v8,VM.sat,GT] at hQ;refine hQ.2 ?_;rw [nO VR.1 Z UE.1,if_neg UE.2,dL.2 (λj _ hj=>hx.2 j VJ)]
   rfl
theorem E3{x y:Nat}{t:List (Nat×Nat)}:NF ((x,y)::t)=true↔x=y/\NF t=true:=by
 show (match Nat.beq x y with|true=>NF t|false=>false)=true↔_
 cases h:Nat.beq x y with
 |true=>simp [GX h]
 |false=>
  simp only [Bool.false_eq_true,false_iff,not_and];intro he;rw [he,Nat.beq_refl] at h;cases h
theorem E6{m:GZ}{p:Nat×GN}(h:p∈nT m):p∈m/\Xf2 p.2=false:=by
 induction m with
 |nil=>cases h
 |cons q t ih=>
  obtain ⟨k,r⟩:=q;unfold nT at h;split at h
  ·exact ⟨HO _ (ih h).1,(ih h).2⟩
  ·rename_i hb;rcases GM.1 h with rfl|h
   ·exact ⟨GG,hb⟩
   ·exact ⟨HO _ (ih h).1,(ih h).2⟩
theorem L3{m:GZ}{id:Nat}{p:Nat×GN}(h:p∈zZ m id):p∈m/\p.1≠id:=by
 induction m with
 |nil=>cases h
 |cons q t ih=>
  obtain ⟨k,r⟩:=q;unfold zZ at h;split at h
  ·exact ⟨HO _ (ih h).1,(ih h).2⟩
  ·rename_i hb;rcases GM.1 h with rfl|h
   ·refine ⟨GG,?_⟩;rintro rfl;simp at hb
   ·exact ⟨HO _ (ih h).1,(ih h).2⟩
theorem Qj0{e:UK}{w:World}{id o n:Nat}{f:Nat->List AV}(h:Jn1 e w id o 3 1 n f)(hr:UF 1 n f):w.ownsRow 0 3 1 (e.val id) n ((x6 n f).map (Value.int .i64)):=by
 obtain ⟨h2,hf,xs,h3,h4⟩:=h;have hx:xs=(x6 n f).map (Value.int .i64):=by
  apply List.ext_getElem?;intro j;unfold x6;have hl:xs.length=n*1:=h3.1;rcases An j n with hj|hj
  ·have hx:xs[j]? =some xs[j]:=HY VJ;have e1:(f j)[0]? =some (iI (col 0 f j)):=by
    rw [hr j hj];rfl
   have:=h4 j 0 _ xs[j] hj e1 (by rw [show j*1+0=j by omega];exact hx)
   rw [hx,this.x_inv];simp [hj]
  ·rw [Br VJ,Br (by simp;omega)]
 subst hx;exact h3
theorem qB{e:UK}{w:World}{id n:Nat}{f:Nat->List AV}(h:GH e w id (.row 3 1 n f))(hr:UF 1 n f):w.ownsRow 0 3 1 (e.val id) n ((x6 n f).map (Value.int .i64)):=Qj0 (o:=id) h.2 hr
theorem tH(n:Nat)(f:Nat->Int):x6 n (λj=>[i (f j)])=(List.range n).map f:=rfl
theorem xB{e:UK}{w:World}{id n:Nat}{f:Nat->Int}{ov:Value}{l:List Int}(hl:e.live id)(hv:e.val id=ov)(hob: ∀x,ov.ownBlock=some x->e.own x=some id)(HU:l.length=n)(hf: ∀j,j<n->l[j]? =some (f j))(ho:w.ownsRow 0 3 1 ov n (l.map (Value.int .i64))):GH e w id (.row 3 1 n (λj=>[i (f j)])):=by
 subst hv;refine ⟨hl,hob,λi O=>⟨rfl,λa ha=>by rw [BC.1 ha];exact .x _⟩,_,ho,λi j a v O ha hv=>?_⟩
 cases j with
 |zero=>
  simp only [List.getElem?_cons_zero,HD] at ha;subst ha;rw [show i*1+0=i by omega,Bn,hf i O] at hv
  simp only [Bt,HD] at hv;rw [←hv];exact .x _
 |succ j=>simp at ha
theorem tM{l:List Int}{j:Nat}(h:j<l.length):l[j]? =some (U8 l j):=by
 rw [E4 h,HY h]
theorem AZ{n:Nat}{f:Nat->Int}{j:Nat}(h:j<n):((List.range n).map f)[j]? =some (f j):=by
 rw [Bn,List.getElem?_range h];rfl
abbrev LP(b:Nat):Value:= .pointer (some ⟨b,0,none⟩)
abbrev Zh2(bk bg bf bo bd:Nat):Value:= .func (.func 237) #[] #[LP bk,LP bg,LP bf,LP bo,LP bd]
def Qg9(n:Nat)(a b c U O:Nat->Int)(N:Nat):Prop:= ∀(ea la:AV) (d:Nat) (Z:Int) (ord:List Int) (dy:Nat->Int) (oa:Option Addr) (ol oc:Nat) (da:Option Addr) (dl dc:Nat),d<2^n->2^n-d<=N->(0<=Z/\Z<=100)->ord.length<=1000->
 Wy4 VO 237 [.agg [i d,i Z],.ptr 0 0,.ptr 1 0,.ptr 2 0,.ptr 3 0,.ptr 4 0] (OM n a b c U O ea la d Z ord dy oa ol oc da dl dc) 901 [[.ptr 0 0,.ptr 1 0,.ptr 2 0,.ptr 3 0,.ptr 4 0]] (OT_ n a b c U O ea la d Z ord dy oa ol oc da dl dc (orG n a b c U O d Z)) (OF_ n a b c U O ea la d Z ord dy oa ol oc da dl dc) (orS n a b c U O d Z).isSome
theorem tA{w:World}{ov:Value}{n:Nat}{xs:List Value}(h:w.ownsRow 0 3 1 ov n xs){b:Nat}(hb:ov.ownBlock=some b):b<w.heap.size:=(h.lt b hb).2
theorem Wb3{n:Nat}{a b c U O:Nat->Int}{N:Nat}(hs:Qg9 n a b c U O N){d:Nat}{Z:Int}{ord:List Int}{dy:Nat->Int}(h1:d<2^n)(h2:2^n-d<=N)(h3:0<=Z/\Z<=100)(h4:ord.length<=1000)
  {w:World}{bk bg bf bo bd bm:Nat}{rb dv ov:Value}{ea la:AV}{R:UK}{es:Array MapEntry}{cn:Nat}(hgl:DF R w)
  (hk:w.heap[bk]? =some (.cells #[rb] 134 (0,0)))(hg:w.heap[bg]? =some (.cells #[.map (some bm)] 340 (0,0)))(hf:w.heap[bf]? =some (.cells #[Zh2 bk bg bf bo bd] 341 (0,0)))(hdb:w.heap[bd]? =some (.cells #[dv] 22 (0,0)))
  (ho:w.heap[bo]? =some (.cells #[ov] 22 (0,0)))(hm:w.heap[bm]? =some (.map es cn))(hes: ∀x∈es.toList,orH n a b c U O x.key/\x.val=orV x.key)
  (EN:w.ownsRow 0 3 1 ov ord.length (ord.map (Value.int .i64)))(Xr6:w.ownsRow 0 3 1 dv n (((List.range n).map dy).map (Value.int .i64)))(hov: ∃p q r,ov= .slice p q r)(hdv: ∃p q r,dv= .slice p q r)
  (hobm:bo≠bm)(hobd:bo≠bd)(hmbd:bm≠bd)(hoo: ∀x,ov.ownBlock=some x->x≠bo/\x≠bm/\x≠bd/\dv.ownBlock≠some x)(hdo: ∀x,dv.ownBlock=some x->x≠bo/\x≠bm/\x≠bd)
  (hR:Rep R w (.ro [i 4,i 10,sls n a b c U O,ea,la]) rb)(hro: ∀x,R.ro x->x<w.heap.size/\x≠bo/\x≠bm/\x≠bd/\ov.ownBlock≠some x/\dv.ownBlock≠some x)(rk:R.ro bk)(rg:R.ro bg)(rf:R.ro bf):
  Calls Tryz.prog 237 #[.agg #[.int .i64 d,.int .i64 Z],LP bk,LP bg,LP bf,LP bo,LP bd] w λen w1=>en= .returned (.bool (orS n a b c U O d Z).isSome)/\w.heap.size<=w1.heap.size/\w1.os=w.os/\w1.tape=w.tape/\w1.output=w.output/\
   (∀x,x<w.heap.size->x≠bo->x≠bm->ov.ownBlock≠some x->dv.ownBlock≠some x->w1.heap[x]? =w.heap[x]?)/\(∃(es':Array MapEntry) (c':Nat),w1.heap[bm]? =some (.map es' c')/\ ∀x∈es'.toList,orH n a b c U O x.key/\x.val=orV x.key)/\
   ((orS n a b c U O d Z).isSome=false->w1.heap[bo]? =some (.cells #[ov] 22 (0,0))/\w1.ownsRow 0 3 1 ov ord.length (ord.map (Value.int .i64))/\w1.ownsRow 0 3 1 dv n (((List.range n).map dy).map (Value.int .i64)))/\
   ((orS n a b c U O d Z).isSome=true-> ∃y',w1.heap[bo]? =some (.cells #[y'] 22 (0,0))/\(∃p q r,y'= .slice p q r)/\w1.ownsRow 0 3 1 y' (ord++orL (orG n a b c U O d Z)).length ((ord++orL (orG n a b c U O d Z)).map (Value.int .i64))/\
    (∀x,y'.ownBlock=some x->w.heap.size<=x\/ov.ownBlock=some x)/\w1.ownsRow 0 3 1 dv n (((List.range n).map (dyU (orG n a b c U O d Z) dy)).map (Value.int .i64))):=by
 have hob:=(P4.1 ho).1;have hmb:=(P4.1 hm).1;have hbb:=(P4.1 hdb).1;obtain ⟨oa,ol,oc,hov⟩:=hov;obtain ⟨da,dl,dc,hdv⟩:=hdv
 let e0:UK:={ro:=λx=>x<w.heap.size/\x≠bo/\x≠bm/\x≠bd/\ov.ownBlock≠some x/\dv.ownBlock≠some x,own:=λx=>if x=bo then some 3 else if x=bm then some 5 else if x=bd then some 4 else if ov.ownBlock=some x then some 900 else if dv.ownBlock=some x then some 7 else none,live:=λk=>k<901,blk:=λk=>if k=0 then bk else if k=1 then bg else if k=2 then bf else if k=3 then bo else if k=4 then bd else bm,val:=λk=>if k=7 then dv else ov}
 let c0:Cx:={M:=λ_=>False,Φ:=λ_ _ _=>True,K:=λx o=>e0.ro x/\w.heap[x]? =some o,saved:=[[LP bk,LP bg,LP bf,LP bo,LP bd]],sz:=w.heap.size}
 let w00:World:={w with heap:=#[] }
 have Wk4: ∀x,R.ro x->e0.ro x:=λx hx=>hro x hx
 have o3:e0.own bo=some 3:=if_pos rfl;have o5:e0.own bm=some 5:=by simp [e0,Ne.symm hobm]
 have o4:e0.own bd=some 4:=by simp [e0,Ne.symm hobd,Ne.symm hmbd]
 have o9: ∀x,ov.ownBlock=some x->e0.own x=some 900:=by
  intro x hx;obtain ⟨q1,q2,q2',q3⟩:=hoo x hx;simp [e0,q1,q2,q2',hx]
 have o7: ∀x,dv.ownBlock=some x->e0.own x=some 7:=by
  intro x hx;obtain ⟨q1,q2,q2'⟩:=hdo x hx;have q3:ov.ownBlock≠some x:=λh=>(hoo x h).2.2.2 hx
  simp [e0,q1,q2,q2',q3,hx]
 have hE:UY e0 w00.heap.size w:=by
  refine ⟨λx hx=>?_,λx k hk=>⟨Ao _,?_⟩,λq p hp=>?_⟩
  ·obtain ⟨q0,q1,q2,q2',q3,q4⟩:=hx;exact ⟨by simp [e0,q1,q2,q2',q3,q4],q0⟩
  ·have hk:(if x=bo then some 3 else if x=bm then some 5 else if x=bd then some 4 else if ov.ownBlock=some x then some 900 else if dv.ownBlock=some x then some 7 else none)=some k:=hk
   split at hk
   ·rename_i h;rw [h];exact hob
   split at hk
   ·rename_i h;rw [h];exact hmb
   split at hk
   ·rename_i h;rw [h];exact hbb
   split at hk
   ·rename_i h;exact tA EN h
   split at hk
   ·rename_i h;exact tA Xr6 h
   ·cases hk
  ·obtain ⟨q1,q2⟩:=hgl q p hp;exact ⟨Wk4 _ q1,q2⟩
 have p0:Rep e0 w (.ptr 0 0) (LP bk):= .ptr 0 0 (show 0<901 by omega)
 have p1:Rep e0 w (.ptr 1 0) (LP bg):= .ptr 1 0 (show 1<901 by omega)
 have p2:Rep e0 w (.ptr 2 0) (LP bf):= .ptr 2 0 (show 2<901 by omega)
 have p3:Rep e0 w (.ptr 3 0) (LP bo):= .ptr 3 0 (show 3<901 by omega)
 have p4:Rep e0 w (.ptr 4 0) (LP bd):= .ptr 4 0 (show 4<901 by omega)
 have p9:Rep e0 w (.row 900) ov:=by
  rw [hov];exact .row 900 _ _ _ (show 900<901 by omega) hov
 have p7:Rep e0 w (.row 7) dv:=by
  rw [hdv];exact .row 7 _ _ _ (show 7<901 by omega) hdv
 have p5:Rep e0 w (.mp 5) (.map (some bm)):= .mp 5 (show 5<901 by omega)
 have yO:U2 e0 w [.ptr 0 0,.ptr 1 0,.ptr 2 0,.ptr 3 0,.ptr 4 0] [LP bk,LP bg,LP bf,LP bo,LP bd]:= .cons p0 (.cons p1 (.cons p2 (.cons p3 (.cons p4 (.nil _ _)))));have hfn:Rep e0 w (.fn (.func 237) [] [.ptr 0 0,.ptr 1 0,.ptr 2 0,.ptr 3 0,.ptr 4 0]) (Zh2 bk bg bf bo bd):= .fn _ [] _ [] _ rfl (λi a v h=>by simp at h) yO.1 yO.2
 have hrb:Rep e0 w (.ro [i 4,i 10,sls n a b c U O,ea,la]) rb:=by
  refine Rep.idf (e:=R) (e':=e0) Wk4 hR ?_;cases hR with
  |ro l vs b' o' g1 g2 g3 g4 g5 g6=>exact .ro _ g3
 have hM:UU e0 (OM n a b c U O ea la d Z ord dy oa ol oc da dl dc) w:=by
  intro p hp;unfold OM at hp;simp only [GM,DO,or_false] at hp;rcases hp with rfl|rfl|rfl|rfl|rfl|rfl|rfl|rfl|rfl|rfl
  ·exact ⟨show 3<901 by omega,o3,[ov],ho,.cons p9 (.nil _ _)⟩
  ·exact ⟨show 3<901 by omega,o3,[ov],ho,.cons (by rw [hov];exact .x _) (.nil _ _)⟩
  ·exact xB (show 900<901 by omega) rfl o9 rfl (λj hj=>tM hj) EN
  ·exact ⟨show 5<901 by omega,o5,es,cn,hm,hes⟩
  ·exact xB (show 7<901 by omega) rfl o7 VV (λj hj=>AZ hj) Xr6
  ·exact ⟨show 0<901 by omega,Wk4 _ rk,(hro _ rk).1,[rb],hk,.cons hrb (.nil _ _)⟩
  ·exact ⟨show 1<901 by omega,Wk4 _ rg,(hro _ rg).1,[.map (some bm)],hg,.cons p5 (.nil _ _)⟩
  ·exact ⟨show 2<901 by omega,Wk4 _ rf,(hro _ rf).1,[Zh2 bk bg bf bo bd],hf,.cons hfn (.nil _ _)⟩
  ·exact ⟨show 4<901 by omega,o4,[dv],hdb,.cons p7 (.nil _ _)⟩
  ·exact ⟨show 4<901 by omega,o4,[dv],hdb,.cons (by rw [hdv];exact .x _) (.nil _ _)⟩
 have hX:Xt c0 e0 [[.ptr 0 0,.ptr 1 0,.ptr 2 0,.ptr 3 0,.ptr 4 0]] [] w:=
  ⟨⟨λd hd=>(by cases hd),List.nodup_nil⟩,λx o hk=>⟨hk.1,hk.1.1,hk.2⟩,L6.cons yO ⟨rfl,λi a v h=>by simp at h⟩,Am _⟩
 have hA:U2 e0 w [.agg [i d,i Z],.ptr 0 0,.ptr 1 0,.ptr 2 0,.ptr 3 0,.ptr 4 0] [.agg #[.int .i64 d,.int .i64 Z],LP bk,LP bg,LP bf,LP bo,LP bd]:= .cons (Rep.aggL (.cons (.x _) (.cons (.x _) (.nil _ _)))) yO;have FF:=hs ea la d Z ord dy oa ol oc da dl dc h1 h2 h3 h4 c0 w00 (λ_=>False) e0 _ w hE ⟨rfl,rfl,rfl,Ao _,λk hk=>absurd hk (Aq _)⟩ hM (λk hk=>hk) (λ_ h=>h.elim) hX rfl hA
 refine FF.mono ?_;rintro en w1 ⟨hen,e1,g1,g2,g3,g4,_,g6⟩;have hsz:w.heap.size<=w1.heap.size:=g6.size;have NV: ∀x,x<w.heap.size->x≠bo->x≠bm->x≠bd->ov.ownBlock≠some x->dv.ownBlock≠some x->e1.ro x/\w1.heap[x]? =w.heap[x]? :=by
  intro x hx n1 n2 n2' n3 n4;have hk:=g6.kept x w.heap[x] ⟨⟨hx,n1,n2,n2',n3,n4⟩,by simp [hx]⟩
  exact ⟨hk.1,by rw [hk.2.2];simp [hx]⟩
 have keptR: ∀x,R.ro x->w1.heap[x]? =w.heap[x]? :=λx hx=>(NV x (hro x hx).1 (hro x hx).2.1 (hro x hx).2.2.1 (hro x hx).2.2.2.1 (hro x hx).2.2.2.2.1 (hro x hx).2.2.2.2.2).2
 have hsv:(cond (orS n a b c U O d Z).isSome (OT_ n a b c U O ea la d Z ord dy oa ol oc da dl dc (orG n a b c U O d Z)) (OF_ n a b c U O ea la d Z ord dy oa ol oc da dl dc)).sv=[[.ptr 0 0,.ptr 1 0,.ptr 2 0,.ptr 3 0,.ptr 4 0]]:=by
  cases (orS n a b c U O d Z).isSome<;>rfl
 have hsd:=g6.saved;rw [hsv] at hsd;have hs1:=hsd.2 0 _ _ rfl rfl;obtain ⟨v0,l0,q,r0,hs1⟩:=hs1.cons_inv;obtain ⟨rfl,rfl⟩:=List.cons.inj q;obtain ⟨v1,l1,q,r1,hs1⟩:=hs1.cons_inv;obtain ⟨rfl,rfl⟩:=List.cons.inj q;obtain ⟨v2,l2,q,r2,hs1⟩:=hs1.cons_inv;obtain ⟨rfl,rfl⟩:=List.cons.inj q;obtain ⟨v3,l3,q,r3,hs1⟩:=hs1.cons_inv;obtain ⟨rfl,rfl⟩:=List.cons.inj q;obtain ⟨v4,l4,q,r4,_⟩:=hs1.cons_inv;obtain ⟨rfl,rfl⟩:=List.cons.inj q;have ptr_inv: ∀{k x:Nat},Rep e1 w1 (.ptr k 0) (LP x)->e1.blk k=x:=by
  intro k x h;cases h;rfl
 have b1:=ptr_inv r1;have b3:=ptr_inv r3;have b4:=ptr_inv r4;have uY: ∀p,(p∈(OT_ n a b c U O ea la d Z ord dy oa ol oc da dl dc (orG n a b c U O d Z)).m/\p∈(OF_ n a b c U O ea la d Z ord dy oa ol oc da dl dc).m)->GH e1 w1 p.1 p.2:=by
  intro p hp;refine g3 p ?_;cases (orS n a b c U O d Z).isSome
  ·exact hp.2
  ·exact hp.1
 -- the days' row and the map bear their numbers still
 have hbd:w1.heap[bd]? =some (.cells #[dv] 22 (0,0)):=by
  obtain ⟨_,_,vs,q1,q2⟩:=uY (4,.cells 22 [.x (.slice da dl dc)]) ⟨by simp [OT_],by simp [OF_]⟩
  obtain ⟨x,xs,rfl,t1,q2⟩:=q2.cons_inv;obtain rfl:=q2.nil_inv;rw [b4,t1.x_inv,←hdv] at q1;exact q1
 have b7:e1.val 7=dv:=by
  obtain ⟨_,_,vs,q1,q2⟩:=uY (4,.cells 22 [.row 7]) ⟨by simp [OT_],by simp [OF_]⟩
  obtain ⟨x,xs,rfl,t1,q2⟩:=q2.cons_inv;obtain rfl:=q2.nil_inv;rw [b4,hbd] at q1;simp only [HD,Obj.cells.injEq] at q1;have:dv=x:=by simpa using q1.1
  subst this;clear q1 hbd;generalize dv=z at t1;cases t1 with
  |row _ a n c _ hv=>exact hv
 have hsm: ∀x,x<w.heap.size->x≠bo->x≠bm->ov.ownBlock≠some x->dv.ownBlock≠some x->w1.heap[x]? =w.heap[x]? :=by
  intro x hx n1 n2 n3 n4;rcases Classical.em (x=bd) with rfl|n5
  ·rw [hbd,hdb]
  ·exact (NV x hx n1 n2 n5 n3 n4).2
 have b5:e1.blk 5=bm:=by
  obtain ⟨_,_,_,vs,q1,q2⟩:=uY (1,.keep 340 [.mp 5]) ⟨by simp [OT_],by simp [OF_]⟩
  obtain ⟨x,xs,rfl,t1,q2⟩:=q2.cons_inv;obtain rfl:=q2.nil_inv;rw [b1,keptR _ rg,hg] at q1;simp only [HD,Obj.cells.injEq] at q1;have:Value.map (some bm)=x:=by simpa using q1.1
  subst this;cases t1;rfl
 have Je8: ∃(es':Array MapEntry) (c':Nat),w1.heap[bm]? =some (.map es' c')/\ ∀x∈es'.toList,orH n a b c U O x.key/\x.val=orV x.key:=by
  obtain ⟨_,_,es',c',q1,q2⟩:=uY (5,.memo (orH n a b c U O) orV) ⟨by simp [OT_],by simp [OF_]⟩
  rw [b5] at q1;exact ⟨es',c',q1,q2⟩
 refine ⟨hen,hsz,g2.os,g2.tape,g2.output,hsm,Je8,λhb=>?_,λhb=>?_⟩
 ·rw [hb] at g3;have k3:=g3 (3,.cells 22 [.row 900]) (by simp [OF_])
  have k3':=g3 (3,.cells 22 [.x (.slice oa ol oc)]) (by simp [OF_])
  have k9:=g3 (900,.row 3 1 ord.length (λj=>[i (U8 ord j)])) (by simp [OF_])
  have k7:=g3 (7,.row 3 1 n (λj=>[i (dy j)])) (by simp [OF_])
  obtain ⟨_,_,vs,q1,q2⟩:=k3';obtain ⟨x,xs,rfl,t1,q2⟩:=q2.cons_inv;obtain rfl:=q2.nil_inv;have hx:x=ov:=by rw [hov];exact t1.x_inv
  subst hx;have q1':w1.heap[e1.blk 3]? =some (.cells #[x] 22 (0,0)):=q1;rw [b3] at q1';have h9:e1.val 900=x:=by
   obtain ⟨_,_,vs,u1,u2⟩:=k3;obtain ⟨y,ys,rfl,t2,u2⟩:=u2.cons_inv;obtain rfl:=u2.nil_inv;have u1':w1.heap[e1.blk 3]? =some (.cells #[y] 22 (0,0)):=u1;rw [b3,q1'] at u1';simp only [HD,Obj.cells.injEq] at u1';have:x=y:=by simpa using u1'.1
   subst this;clear q1' u1' q1 u1 t1;generalize x=z at t2;cases t2 with
   |row _ a n c _ hv=>exact hv
  have r9:=qB k9 (mY _ _);have r7:=qB k7 (mY _ _);rw [h9,ST] at r9;rw [b7,tH] at r7;exact ⟨q1',r9,r7⟩
 ·rw [hb] at g3;have k3:=g3 (3,.cells 22 [.row 900]) (by simp [OT_])
  have k9:=g3 (900,.row 3 1 (ord++orL (orG n a b c U O d Z)).length (λj=>[i (U8 (ord++orL (orG n a b c U O d Z)) j)])) (by simp [OT_])
  have k7:=g3 (7,.row 3 1 n (λj=>[i (dyU (orG n a b c U O d Z) dy j)])) (by simp [OT_])
  have k5:=g3 (5,.memo (orH n a b c U O) orV) (by simp [OT_])
  have o3':=k3.2.1;rw [b3] at o3';have o5':=k5.2.1;rw [b5] at o5';obtain ⟨_,_,vs,q1,q2⟩:=k3;obtain ⟨y,ys,rfl,t1,q2⟩:=q2.cons_inv;obtain rfl:=q2.nil_inv;have q1':w1.heap[e1.blk 3]? =some (.cells #[y] 22 (0,0)):=q1;rw [b3] at q1';have hy:(∃p q r,y= .slice p q r)/\e1.val 900=y:=by
   cases t1 with
   |row _ a n c _ hv=>exact ⟨⟨a,n,c,rfl⟩,hv⟩
  have r9:=qB k9 (mY _ _);have r7:=qB k7 (mY _ _);rw [hy.2,ST] at r9;rw [b7,tH] at r7;refine ⟨y,q1',hy.1,r9,λz hz=>?_,r7⟩
  rcases An z w.heap.size with hlt|hge
  ·refine .inr ?_;have hoz:e1.own z=some 900:=k9.2.1 z (by show (e1.val 900).ownBlock=some z;rw [hy.2];exact hz)
   refine Classical.byContradiction λn3=>?_
   have n1:z≠bo:=by
    rintro rfl;rw [o3'] at hoz;cases hoz
   have n2:z≠bm:=by
    rintro rfl;rw [o5'] at hoz;cases hoz
   have n4:dv.ownBlock≠some z:=by
    intro h;have:=k7.2.1 z (by show (e1.val 7).ownBlock=some z;rw [b7];exact h)
    rw [this] at hoz;cases hoz
   have n5:z≠bd:=by
    rintro rfl;have:=(g3 (4,.cells 22 [.row 7]) (by simp [OT_])).2.1
    rw [b4] at this;rw [this] at hoz;cases hoz
   have hk:=NV z hlt n1 n2 n5 n3 n4;rw [(g1.apart z hk.1).1] at hoz;cases hoz
  ·exact .inl hge
theorem LH{e e':UK}{w w1:World}{id:Nat}{r:GN}(st:Step e e' w w1)(H5: ∀x,e.own x=some id->e'.own x=some id/\w1.heap[x]? =w.heap[x]?)(hna:Xf2 r=false)(h:GH e w id r):GH e' w1 id r:=by
 cases r with
 |cells T l=>
  obtain ⟨h1,h2,vs,h3,h4⟩:=h;obtain ⟨l1,l2,l3⟩:=st.live id h1;obtain ⟨k1,k2⟩:=H5 _ h2;exact ⟨l1,by rw [l2];exact k1,vs,by rw [l2,k2];exact h3,h4.step st⟩
 |ints T pre n f=>
  obtain ⟨h1,h2,vs,h3,h4⟩:=h;obtain ⟨l1,l2,l3⟩:=st.live id h1;obtain ⟨k1,k2⟩:=H5 _ h2;exact ⟨l1,by rw [l2];exact k1,vs,by rw [l2,k2];exact h3,h4.step st⟩
 |memo g f=>
  obtain ⟨h1,h2,es,c,h3,h4⟩:=h;obtain ⟨l1,l2,l3⟩:=st.live id h1;obtain ⟨k1,k2⟩:=H5 _ h2;exact ⟨l1,by rw [l2];exact k1,es,c,by rw [l2,k2];exact h3,h4⟩
 |keep T l=>exact LE st h
 |aka _ _ _ _ _=>cases hna
 |row T sz n f=>
  obtain ⟨h1,h2,hf,ys,h3,h4⟩:=h;obtain ⟨l1,l2,l3⟩:=st.live id h1;refine ⟨l1,λx hx=>(H5 _ (h2 x (by rw [←l3];exact hx))).1,hf,ys,?_,λi j a v O ha hv=>(h4 i j a v O ha hv).step st⟩
  rw [l3];refine ⟨h3.1,h3.2.imp (λh=>h) ?_⟩
  rintro ⟨g',cap',cur',hv,hg,hh,rest⟩;exact ⟨g',cap',cur',hv,hg,(H5 g' (h2 g' (by rw [hv];rfl))).2.trans hh,rest⟩
theorem ES{e:UK}{w:World}{id n:Nat}{g:Nat->List AV}{ov:Value}(hr:UF 1 n g)(hl:e.live id)(hv:e.val id=ov)(hob: ∀x,ov.ownBlock=some x->e.own x=some id)(ho:w.ownsRow 0 3 1 ov n (((List.range n).map (col 0 g)).map (Value.int .i64))):GH e w id (.row 3 1 n g):=by
 have h:=xB (f:=col 0 g) hl hv hob VV (λj hj=>AZ hj) ho
 obtain ⟨h1,h2,h3,xs,h4,h5⟩:=h;refine ⟨h1,h2,λj hj=>?_,xs,h4,λi j a v O ha hv=>?_⟩
 ·rw [hr j hj];exact h3 j hj
 ·rw [hr i O] at ha;exact h5 i j a v O ha hv
theorem cL{n:Nat}{a b c U O:Nat->Int}{N:Nat}(hs:Qg9 n a b c U O N):GB VO 237 (mE n a b c U O N):=by
 refine ⟨(UG Tryz.func237),?_⟩;intro avs m nx sv tr ht Q hQ cx w0 TT e ds args w hE hB hm hlv LN hxt hr;unfold mE at ht;split at ht
 ·rename_i d Z k W g z1 f z2 o z3 dd z4;split at ht
  ·rename_i Tk c1 c2 sl ea la Tg mg Tf fg k' y0 g' y1 f' y2 o' y3 d' y4 To q Td r h1 h2 h3 h4 h5;split at ht
   ·rename_i hh ff T1 s1 k1 g1 T2 s2 k2 g2 h6 h7 h8;split at ht
    ·rename_i hb;rw [H6] at hb;obtain ⟨hb1,hb2⟩:=hb;simp only [E3] at hb1;obtain ⟨rfl,rfl,rfl,rfl,rfl,rfl,rfl,rfl,rfl,rfl,rfl,rfl,rfl,rfl,rfl,rfl,rfl,rfl,rfl,rfl,rfl,rfl,rfl,rfl,rfl,_⟩:=hb1;rw [H6] at hb2;have hqr:q≠r:=by
      rintro rfl;simp at hb2
     have hod:o≠dd:=by
      rintro rfl;simp at hb2
     cases ht;obtain ⟨hn,hq⟩:=VM.sat_needT hQ;have hn:=GC hn;have n1:c1=i 4:=hn _ VV;have n2:c2=i 10:=hn _ VV;have n3:sl=sls n a b c U O:=hn _ VV;have n4: ∀x,hh x->orH n a b c U O x/\ff x=orV x:=hn _ VV;have n6:UF 1 k1 g1:=hn _ VV;have n7:UF 1 k2 g2:=hn _ VV;have n8:k2=n:=hn _ VV;have n9:0<=d/\d<2^n:=hn _ VV;have n10:2^n-d.toNat<=N:=hn _ VV;have n11:0<=Z/\Z<=100:=hn _ VV;have n12:k1<=1000:=hn _ VV;clear hn hQ;subst n1 n2 n3 n8;obtain ⟨d,rfl⟩: ∃d':Nat,d=d':=⟨d.toNat,VJ⟩;simp only [DZ] at hq n10;have hpn:((2^k2:Nat):Int)=2^k2:=VV;have hdn:d<2^k2:=by
      have h:=n9.2;rw [←hpn] at h;exact Int.ofNat_lt.1 h
     obtain ⟨v0,l1,rfl,r1,hr⟩:=hr.cons_inv;obtain ⟨v1,l1,rfl,r2,hr⟩:=hr.cons_inv;obtain ⟨v2,l2,rfl,r3,hr⟩:=hr.cons_inv;obtain ⟨v3,l3,rfl,r4,hr⟩:=hr.cons_inv;obtain ⟨v4,l4,rfl,r5,hr⟩:=hr.cons_inv;obtain ⟨v5,l5,rfl,r6,hr⟩:=hr.cons_inv;obtain rfl:=hr.nil_inv;obtain ⟨us,rfl,ru⟩:=r1.agg_inv;obtain ⟨u1,us1,rfl,q1,ru⟩:=ru.cons_inv;obtain ⟨u2,us2,rfl,q2,ru⟩:=ru.cons_inv;obtain rfl:=ru.nil_inv;obtain rfl:=q1.x_inv;obtain rfl:=q2.x_inv;have z: ∀{k:Nat} {x:Value},Rep e w (.ptr k 0) x->x=LP (e.blk k):=by
      intro k x h;cases h;rfl
     obtain rfl:=z r2;obtain rfl:=z r3;obtain rfl:=z r4;obtain rfl:=z r5;obtain rfl:=z r6;have m4:=UX h4;obtain ⟨_,ro1,_,vs1,hp1,e1⟩:=hm _ (UX h1);obtain ⟨rb,xs,rfl,t1,e1⟩:=e1.cons_inv;obtain rfl:=e1.nil_inv;obtain ⟨_,ro2,_,vs2,hp2,e2⟩:=hm _ (UX h2);obtain ⟨mv,xs,rfl,t2,e2⟩:=e2.cons_inv;obtain rfl:=e2.nil_inv;have hmv:mv= .map (some (e.blk mg)):=by
      cases t2;rfl
     subst hmv;obtain ⟨_,ro3,_,vs3,hp3,e3⟩:=hm _ (UX h3);obtain ⟨fv,xs,rfl,t3,e3⟩:=e3.cons_inv;obtain rfl:=e3.nil_inv;obtain ⟨us,us',rfl,t6,t7⟩:=t3.fn_inv;obtain rfl:=t6.nil_inv;obtain ⟨x1,xs,rfl,s1,t7⟩:=t7.cons_inv;obtain ⟨x2,xs,rfl,s2,t7⟩:=t7.cons_inv;obtain ⟨x3,xs,rfl,s3,t7⟩:=t7.cons_inv;obtain ⟨x4,xs,rfl,s4,t7⟩:=t7.cons_inv;obtain ⟨x5,xs,rfl,s5,t7⟩:=t7.cons_inv;obtain rfl:=t7.nil_inv;obtain rfl:=z s1;obtain rfl:=z s2;obtain rfl:=z s3;obtain rfl:=z s4;obtain rfl:=z s5;obtain ⟨live4,own4,vs4,hp4,e4⟩:=hm _ m4;obtain ⟨ov,xs,rfl,t4,e4⟩:=e4.cons_inv;obtain rfl:=e4.nil_inv;obtain ⟨_,own5,vs5,hp5,e5⟩:=hm _ (UX h5);obtain ⟨dv,xs,rfl,t5,e5⟩:=e5.cons_inv;obtain rfl:=e5.nil_inv;have hov:(∃p q r,ov= .slice p q r)/\e.val q=ov:=by
      cases t4 with
      |row _ a n c _ hv=>exact ⟨⟨a,n,c,rfl⟩,hv⟩
     have hdv:(∃p q r,dv= .slice p q r)/\e.val r=dv:=by
      cases t5 with
      |row _ a n c _ hv=>exact ⟨⟨a,n,c,rfl⟩,hv⟩
     obtain ⟨live6,own6,es,cn,hp6,hes0⟩:=hm _ (UX h6);have hes: ∀x∈es.toList,orH k2 a b c U O x.key/\x.val=orV x.key:=λx hx=>by
      obtain ⟨g1,g2⟩:=hes0 x hx;exact ⟨(n4 _ g1).1,by rw [g2,(n4 _ g1).2]⟩
     have H7:=hm _ (UX h7);have H8:=hm _ (UX h8);have R7:=qB H7 n6;have R8:=qB H8 n7;simp only at hp1 hp2 hp3 hp4 hp5 hp6 own4 own6 live4 live6 R7 R8 ro1 ro2 ro3 own5;rw [hov.2] at R7;rw [hdv.2] at R8;have own7: ∀x,ov.ownBlock=some x->e.own x=some q:=λx hx=>H7.2.1 x (by show (e.val q).ownBlock=some x;rw [hov.2];exact hx)
     have own8: ∀x,dv.ownBlock=some x->e.own x=some r:=λx hx=>H8.2.1 x (by show (e.val r).ownBlock=some x;rw [hdv.2];exact hx)
     have live7:e.live q:=H7.1;have live8:e.live r:=H8.1;have ho_q:o≠q:=by
      rintro rfl;rw [h7] at h4;cases h4
     have ho_r:o≠r:=by
      rintro rfl;rw [h8] at h4;cases h4
     have ho_m:o≠mg:=by
      rintro rfl;rw [h6] at h4;cases h4
     have hm_q:mg≠q:=by
      rintro rfl;rw [h7] at h6;cases h6
     have hm_r:mg≠r:=by
      rintro rfl;rw [h8] at h6;cases h6
     have hd_q:dd≠q:=by
      rintro rfl;rw [h7] at h5;cases h5
     have hd_r:dd≠r:=by
      rintro rfl;rw [h8] at h5;cases h5
     have hd_m:dd≠mg:=by
      rintro rfl;rw [h6] at h5;cases h5
     have dne: ∀{x y j j':Nat},e.own x=some j->e.own y=some j'->j≠j'->x≠y:=by
      rintro x y j j' hx hy hj rfl;rw [hx] at hy;exact hj (Bb hy)
     have HU:(x6 k1 g1).length=k1:=by simp [x6]
     have hro: ∀x,e.ro x->x<w.heap.size/\x≠e.blk o/\x≠e.blk mg/\x≠e.blk dd/\ov.ownBlock≠some x/\dv.ownBlock≠some x:=by
      intro x hx;obtain ⟨hx1,hx2⟩:=hE.apart x hx;have nx_: ∀{y j:Nat},e.own y=some j->x≠y:=by
       rintro y j hy rfl;rw [hx1] at hy;cases hy
      exact ⟨hx2,nx_ own4,nx_ own6,nx_ own5,λh=>(nx_ (own7 x h)) rfl,λh=>(nx_ (own8 x h)) rfl⟩
     have FF:=Wb3 hs (ord:=x6 k1 g1) (dy:=col 0 g2) hdn n10 n11 (by rw [HU];exact n12) (w:=w) (bk:=e.blk k) (bg:=e.blk g) (bf:=e.blk f) (bo:=e.blk o) (bd:=e.blk dd) (bm:=e.blk mg) (R:=e) hE.glob
      hp1 hp2 hp3 hp5 hp4 hp6 hes (by rw [HU];exact R7) R8 hov.1 hdv.1 (dne own4 own6 ho_m) (dne own4 own5 hod) (dne own6 own5 (Ne.symm hd_m)) (λx hx=>⟨dne (own7 x hx) own4 (Ne.symm ho_q),dne (own7 x hx) own6 (Ne.symm hm_q),dne (own7 x hx) own5 (Ne.symm hd_q),λh=>dne (own7 x hx) (own8 x h) hqr rfl⟩)
      (λx hx=>⟨dne (own8 x hx) own4 (Ne.symm ho_r),dne (own8 x hx) own6 (Ne.symm hm_r),dne (own8 x hx) own5 (Ne.symm hd_r)⟩) t1 hro ro1 ro2 ro3
     refine FF.mono ?_;rintro en w1 ⟨rfl,hsz,q1,q2,q3,zU,⟨es',c',hmp,hes'⟩,hF,hT⟩;rw [HU] at hF;have hlt: ∀{x j:Nat},e.own x=some j->w0.heap.size<=x:=λh=>(hE.owned _ _ h).1
     have hBel:Below w0.heap.size w0 w1:=by
      refine ⟨q1.trans hB.os,q2.trans hB.tape,q3.trans hB.output,Ar hB.size hsz,λx hx=>?_⟩
      have ne_: ∀{y j:Nat},e.own y=some j->x≠y:=λh he=>by have:=hlt h;omega
      rw [zU x (xM hx hB.size) (ne_ own4) (ne_ own6) (λh=>ne_ (own7 x h) rfl) (λh=>ne_ (own8 x h) rfl)]
      exact hB.block x hx
     have Xg4: ∀x,x<w.heap.size->e.ro x->w1.heap[x]? =w.heap[x]? :=λx hx hx2=>zU x hx (hro x hx2).2.1 (hro x hx2).2.2.1 (hro x hx2).2.2.2.2.1 (hro x hx2).2.2.2.2.2
     cases hb:(orS k2 a b c U O d Z).isSome with
     |false=>
      have hq:=hq.2 hb;obtain ⟨f1,f2,f3⟩:=hF hb;have st:Step e e w w1:=⟨λx hx hx2=>⟨hx2,Xg4 x hx hx2⟩,λ_ h=>⟨h,rfl,rfl⟩,hsz⟩
      refine ⟨_,_,_,_,_,e,rfl,hq,⟨λx hx=>⟨(hE.apart x hx).1,xM (hE.apart x hx).2 hsz⟩,λx j hx=>⟨(hE.owned x j hx).1,xM (hE.owned x j hx).2 hsz⟩,hE.glob.step st⟩,hBel,?_,hlv,LN,hxt.step st,.lit false⟩
      intro p hp;rcases FT hp with rfl|⟨hp,Zk9,_⟩
      ·exact ⟨live6,own6,es',c',hmp,hes'⟩
      rcases FT hp with rfl|⟨hp,vI,_⟩
      ·exact ES n7 live8 hdv.2 own8 f3
      rcases FT hp with rfl|⟨hp,Zk8,_⟩
      ·exact ES n6 live7 hov.2 own7 f2
      obtain ⟨hpm,hna⟩:=E6 hp;refine LH st (λx hx=>⟨hx,?_⟩) hna (hm p hpm)
      rcases Classical.em (x=e.blk o) with rfl|hxo
      ·rw [f1,hp4]
      ·exact zU x (hE.owned x _ hx).2 hxo (dne hx own6 Zk9) (λh=>dne hx (own7 x h) Zk8 rfl) (λh=>dne hx (own8 x h) vI rfl)
     |true=>
      have hq:=hq.1 hb;obtain ⟨y',t1,⟨ya,yn,yc,hy0⟩,t2,t3,t4⟩:=hT hb;have hid: ¬e.live nx:=λh=>Bf _ (hlv _ h)
      have hfr: ∀x j,e.own x=some j->j≠q->y'.ownBlock≠some x:=by
       intro x j hx hj h;rcases t3 x h with h|h
       ·have:=(hE.owned x j hx).2;omega
       ·exact dne hx (own7 x h) hj rfl
      have hfr2: ∀x,e.ro x->y'.ownBlock≠some x:=by
       intro x hx h;rcases t3 x h with h|h
       ·have:=(hro x hx).1;omega
       ·exact (hro x hx).2.2.2.2.1 h
      have H5: ∀x j,e.own x=some j->j≠q->(e.app nx y').own x=some j:=by
       intro x j hx hj;simp only [UK.app];rw [if_neg (hfr x j hx hj)];exact hx
      have st:Step e (e.app nx y') w w1:=⟨λx hx hx2=>⟨hx2,Xg4 x hx hx2⟩,λj hj=>⟨.inr hj,rfl,by
       have:j≠nx:=λh=>hid (h▸hj)
       simp [UK.app,this]⟩,hsz⟩
      have vne: ∀{j:Nat},e.live j->(e.app nx y').val j=e.val j:=λ{j} hj=>by
       have:j≠nx:=λh=>hid (h▸hj)
       simp [UK.app,this]
      refine ⟨_,_,_,_,_,e.app nx y',rfl,hq,⟨λx hx=>⟨?_,xM (hE.apart x hx).2 hsz⟩,λx j hx=>?_,hE.glob.step st⟩,hBel,?_,?_,LN,hxt.step st,.lit true⟩
      ·simp only [UK.app];rw [if_neg (hfr2 x hx)];exact (hE.apart x hx).1
      ·simp only [UK.app] at hx;split at hx
       ·rename_i hxb;refine ⟨?_,(t2.lt x hxb).2⟩;rcases t3 x hxb with h|h
        ·exact Ar hB.size h
        ·exact hlt (own7 x h)
       ·exact ⟨(hE.owned x j hx).1,xM (hE.owned x j hx).2 hsz⟩
      ·intro p hp;rcases GM.1 hp with rfl|hp
       ·exact xB (ov:=y') (.inl rfl) (by simp [UK.app]) (λx hx=>by simp [UK.app,hx]) rfl (λj hj=>tM hj) t2
       rcases FT hp with rfl|⟨hp,Zk9,_⟩
       ·exact ⟨.inr live6,H5 _ _ own6 hm_q,es',c',hmp,hes'⟩
       rcases FT hp with rfl|⟨hp,vI,_⟩
       ·exact xB (ov:=dv) (.inr live8) (by rw [vne live8];exact hdv.2) (λx hx=>H5 _ _ (own8 x hx) (Ne.symm hqr)) VV (λj hj=>AZ hj) t4
       rcases FT hp with rfl|⟨hp,Zk8,_⟩
       ·refine ⟨.inr live4,H5 _ _ own4 ho_q,[y'],t1,.cons ?_ (.nil _ _)⟩;rw [hy0];exact .row nx _ _ _ (.inl rfl) (by simp [UK.app])
       obtain ⟨hp,Je6⟩:=L3 hp;obtain ⟨hpm,hna⟩:=E6 hp;refine LH st (λx hx=>⟨H5 _ _ hx Je6,?_⟩) hna (hm p hpm)
       exact zU x (hE.owned x _ hx).2 (dne hx own4 Zk8) (dne hx own6 Zk9) (λh=>dne hx (own7 x h) Je6 rfl) (λh=>dne hx (own8 x h) vI rfl)
      ·rintro j (rfl|hj)
       ·exact Bk _
       ·exact Nat.lt_succ_of_lt (hlv j hj)
    ·cases ht
   ·cases ht
  ·cases ht
 ·cases ht
end Go.Proofs.YtakpdkmhclhlnaaGreatDoor.Hd
