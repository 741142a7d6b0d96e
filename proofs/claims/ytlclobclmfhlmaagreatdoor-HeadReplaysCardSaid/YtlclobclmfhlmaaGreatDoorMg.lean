/- Contracts, put together. Conditions: those of each. -/
import Derived.Test.YtlclobclmfhlmaaGreatDoorMf
set_option linter.unusedSimpArgs false
set_option linter.unusedVariables false
set_option maxRecDepth 100000
namespace Go.Proofs.YtlclobclmfhlmaaGreatDoor.Hd
open Go Go.Sx Go.RowKit Bo
open Go.Sx.VN (need branch leaf)
open Go.Sx.AV (lst ptr agg roI tup top)
abbrev KL(day:Int):Value:=Value.int IntKind.i64 day
theorem Xd9(n:Nat)(a b c lo hi:Nat->Int)(ea la:AV)(d:Nat)(day:Int)(ord:List Int)(dy:Nat->Int)(oa:Option Addr)(ol oc:Nat)(da:Option Addr)(dl dc:Nat)(N:Nat)(VT:sV n a b c lo hi)(UI:d<2^n)(HR:2^n-d<=N+1)(F1:0<=day/\day<=100)(BM:ord.length<=1000)(xY:GC VP 222 (mI n a b c lo hi N)):Wz1 VP 222 [.agg [i d,i day],.ptr 0 0,.ptr 1 0,.ptr 2 0,.ptr 3 0,.ptr 4 0] (OM n a b c lo hi ea la d day ord dy oa ol oc da dl dc) 901 [[.ptr 0 0,.ptr 1 0,.ptr 2 0,.ptr 3 0,.ptr 4 0]] (OT_ n a b c lo hi ea la d day ord dy oa ol oc da dl dc (orG n a b c lo hi d day)) (OF_ n a b c lo hi ea la d day ord dy oa ol oc da dl dc) (orS n a b c lo hi d day).isSome:=by
 refine Qm5 (X:={R:=[(79,A3)],H:=[(222,(mI n a b c lo hi N))] }) (L:=[FR [d≠2^n-1] (Xv2 n a b c lo hi ea la d day ord dy oa ol oc da dl dc N)]) (VL.cons DY (VL.cons LC (VL.nil _))) (VX.of (VR.cons NC (VR.nil _)) (VO.cons xY (VO.nil _))) VZ Tryz.func222 (UV Tryz.f222) (G7 (lpE (b:= .rangeFunc (rfF (VS (U8 Tryz.f222) 0)) (jD (VS (U8 Tryz.f222) 0)) Js0 Jp6) VU<|PY (λh=>Ja6 n a b c lo hi ea la d day ord dy oa ol oc da dl dc N VT ⟨UI,h⟩ HR F1 BM xY))) (N:=[(.cell 3 0,900,3,1)]) (t:=let z7:=(U0 (AV.x (.slice oa ol oc)));let z3:=orH n a b c lo hi;let z6:=ZP n a b c lo hi ea la;let z4:=(U0 (AV.x (.slice da dl dc)));let z2:=(orG n a b c lo hi d day);let z5:=(Value.agg #[Value.int IntKind.i64 (d:Int),KL day]);let z0:=(need [d≠2^n-1] (need [U0 (agg [iI (d:Int),iI day]),QL,WS,ZD,ZI,W9,KT,KU,U0 (AV.fn (Fn.func 108) [] [AV.ro [QQ n a b c lo hi ea la],AV.ro [iI (d:Int)]]),false=false,U0 (d:Int),day=day,ZX,z7,JW ord,∀(i:Nat),i<List.length ord->[iI (UA ord i)]=[iI (UA ord i)],∀(k:Value),z3 k->z3 k/\orV k=orV k,n=n,∀(i:Nat),i<n->[iI (dy i)]=[iI (dy i)],z6,JM,QN=QN,J8,z4,QL,WS,ZD,ZI,W9] (branch (Option.isSome (orS n a b c lo hi d day)) (need [ZX,U0 (List.length (ord++orL z2)),∀(i:Nat),i<List.length (ord++orL z2)->[iI (UA (ord++orL z2) i)]=[iI (UA (ord++orL z2) i)],∀(k:Value),z3 k->z3 k/\orV k=orV k,n=n,∀(i:Nat),i<n->[iI (dyU z2 dy i)]=[iI (dyU z2 dy i)],z6,JM,QN=QN,J8,z4,QL,WS,ZD,ZI,W9] (leaf true)) (need [∀(u:Value),z3 u->orV u=Value.bool true,FC Tryz.prog 329 (λu=>z3 u\/u=Value.agg #[Value.int IntKind.i64 (d:Int),KL day]) z5 (WQ)] (need [ZX,z7,JW ord,∀(i:Nat),i<List.length ord->[iI (UA ord i)]=[iI (UA ord i)],∀(k:Value),z3 k\/k=Value.agg #[Value.int IntKind.i64 (d:Int),KL day]->z3 k/\Value.bool true=orV k,n=n,∀(i:Nat),i<n->[iI (dy i)]=[iI (dy i)],z6,JM,QN=QN,J8,z4,QL,WS,ZD,ZI,W9] (leaf false))))));let z1:=(need [ZX,z7,JW ord,∀(i:Nat),i<List.length ord->[iI (UA ord i)]=[iI (UA ord i)],∀(k:Value),z3 k->z3 k/\orV k=orV k,n=n,∀(i:Nat),i<n->[iI (dy i)]=[iI (dy i)],z6,JM,QN=QN,J8,z4,QL,WS,ZD,ZI,W9] (leaf false));(need [n<=8] (branch ((d:Int)==2^n-1) (need [ZX,List.length ord=List.length (ord++orL z2),∀(i:Nat),i<List.length (ord++orL z2)->[iI (UA ord i)]=[iI (UA (ord++orL z2) i)],∀(k:Value),z3 k->z3 k/\orV k=orV k,n=n,∀(i:Nat),i<n->[iI (dy i)]=[iI (dyU z2 dy i)],z6,JM,QN=QN,J8,z4,QL,WS,ZD,ZI,W9] (leaf true)) (need [FC Tryz.prog 329 (z3) z5 (WQ)] (VN.may (z3 z5) (branch true z1 z0) (branch false z1 z0)))))) VU VU rfl rfl VU ?_
 have h8:=VT.1;have hp1:1<=2^n:=Nat.one_le_two_pow;have hpn:((2^n:Nat):Int)=2^n:=VW;have hmk:FC Tryz.prog 329 (orH n a b c lo hi) (.agg #[.int .i64 d,.int .i64 day]) (.bool false):=(NM d day).mono (λx hx=>Wb9 hx)
 have hmk2:FC Tryz.prog 329 (λu=>orH n a b c lo hi u\/u= .agg #[.int .i64 d,.int .i64 day]) (.agg #[.int .i64 d,.int .i64 day]) (.bool false):=(NM d day).mono (λx hx=>hx.elim Wb9 (λh=>⟨_,_,h⟩))
 have Je3:orH n a b c lo hi (.agg #[.int .i64 d,.int .i64 day])->(orS n a b c lo hi d day).isSome=false:=by
  rintro ⟨d',day',h,_,h2⟩;simp only [Value.agg.injEq,Array.mk.injEq,List.cons.injEq,Value.int.injEq,UJ] at h;obtain ⟨e1,rfl⟩:=h;obtain rfl:d=d':=VK;rw [h2];rfl
 have Jd7:(orS n a b c lo hi d day).isSome=false-> ∀k,orH n a b c lo hi k\/k= .agg #[.int .i64 d,.int .i64 day]->orH n a b c lo hi k/\Value.bool true=orV k:=by
  rintro hn k (hk|rfl)
  ·exact ⟨hk,rfl⟩
  ·exact ⟨⟨d,day,rfl,UI,by simpa using hn⟩,rfl⟩
 simp only [VN.sat,UB,UJ];refine ⟨h8,?_⟩;by_cases hw:d=2^n-1
 ·have hS:orS n a b c lo hi d day=some []:=by
   rw [hw];exact Wb8 h8 day
  have hG:orG n a b c lo hi d day=[]:=by
   unfold orG;rw [hS];rfl
  rw [hG,hS];refine ⟨λ_=>?_,λh=>?_⟩
  ·simp only [orL,List.map_nil,List.append_nil,dyU];all_goals exact V7
  ·exfalso;rw [beq_eq_false_iff_ne] at h;omega
 ·refine ⟨λh=>?_,λ_=>?_⟩
  ·exfalso;rw [beq_iff_eq] at h;omega
  ·(with_reducible repeat' first|apply And.intro|intro _)
   all_goals first|exact True.intro|exact hmk|exact hmk2|exact hw|(exact (Je3 (by assumption)).symm)|rfl|contradiction|(exact Eq.symm (by assumption))|assumption|exact (Jd7 (by assumption) _ (by assumption)).1|exact (Jd7 (by assumption) _ (by assumption)).2
theorem Wb7{n:Nat}{a b c lo hi:Nat->Int}(h0:sV n a b c lo hi): ∀N:Nat,GC VP 222 (mI n a b c lo hi N)
 | 0=>cP λea la d day ord dy oa ol oc da dl dc h1 h2=>VK
 |N+1=>cP λea la d day ord dy oa ol oc da dl dc h1 h2 h3 h4=>Xd9 n a b c lo hi ea la d day ord dy oa ol oc da dl dc N h0 h1 h2 h3 h4 (Wb7 h0 N)
end Go.Proofs.YtlclobclmfhlmaaGreatDoor.Hd
