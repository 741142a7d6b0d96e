/- Contracts, put together. Conditions: those of each. -/
import Derived.Test.YtakpdkmhclhlnaaGreatDoorMf
set_option linter.unusedSimpArgs false
set_option linter.unusedVariables false
set_option maxRecDepth 100000
namespace Go.Proofs.YtakpdkmhclhlnaaGreatDoor.Hd
open Go Go.Sx Go.RowKit Bo
open Go.Sx.VO (need branch leaf)
open Go.Sx.AV (lst ptr agg roI tup top)
abbrev KJ(Z:Int):Value:=Value.int IntKind.i64 Z
theorem Xb4(n:Nat)(a b c U O:Nat->Int)(ea la:AV)(d:Nat)(Z:Int)(ord:List Int)(dy:Nat->Int)(oa:Option Addr)(ol oc:Nat)(da:Option Addr)(dl dc:Nat)(N:Nat)(VV:sV n a b c U O)(UI:d<2^n)(HR:2^n-d<=N+1)(DY:0<=Z/\Z<=100)(BM:ord.length<=1000)(xZ:GC VQ 237 (m6 n a b c U O N)):Ww9 VQ 237 [.agg [i d,i Z],.ptr 0 0,.ptr 1 0,.ptr 2 0,.ptr 3 0,.ptr 4 0] (OM n a b c U O ea la d Z ord dy oa ol oc da dl dc) 901 [[.ptr 0 0,.ptr 1 0,.ptr 2 0,.ptr 3 0,.ptr 4 0]] (OT_ n a b c U O ea la d Z ord dy oa ol oc da dl dc (orG n a b c U O d Z)) (OF_ n a b c U O ea la d Z ord dy oa ol oc da dl dc) (orS n a b c U O d Z).isSome:=by
 refine Ql4 (X:={R:=[(131,rY)],H:=[(237,(m6 n a b c U O N))] }) (L:=[RO [d≠2^n-1] (Xs4 n a b c U O ea la d Z ord dy oa ol oc da dl dc N)]) (Ae DV (Ae LC Aa)) (Ai (Af MY Ab) (Ag xZ Ac)) U0 Tryz.func237 (UV Tryz.f237) (GA (lpE (b:= .rangeFunc (rfF (VU (UA Tryz.f237) 0)) (jE (VU (UA Tryz.f237) 0)) Jo4 Jm4) VX<|PY (λh=>Zw8 n a b c U O ea la d Z ord dy oa ol oc da dl dc N VV ⟨UI,h⟩ HR DY BM xZ))) (N:=[(.cell 3 0,900,3,1)]) (t:=let z7:=(U1 (AV.x (.slice oa ol oc)));let A:=orH n a b c U O;let z6:=ZN n a b c U O ea la;let S:=(U1 (AV.x (.slice da dl dc)));let I:=(orG n a b c U O d Z);let W:=(Value.agg #[Value.int IntKind.i64 (d:Int),KJ Z]);let z0:=(need [d≠2^n-1] (need [U1 (agg [iI (d:Int),iI Z]),QO,Z8,ZB,ZG,W5,KP,KR,U1 (AV.fn (Fn.func 171) [] [AV.ro [QQ n a b c U O ea la],AV.ro [iI (d:Int)]]),false=false,U1 (d:Int),Z=Z,ZV,z7,JV ord,∀(i:Nat),i<List.length ord->[iI (U9 ord i)]=[iI (U9 ord i)],∀(k:Value),A k->A k/\orV k=orV k,n=n,∀(i:Nat),i<n->[iI (dy i)]=[iI (dy i)],z6,JJ,QM=QM,J7,S,QO,Z8,ZB,ZG,W5] (branch (Option.isSome (orS n a b c U O d Z)) (need [ZV,U1 (List.length (ord++orL I)),∀(i:Nat),i<List.length (ord++orL I)->[iI (U9 (ord++orL I) i)]=[iI (U9 (ord++orL I) i)],∀(k:Value),A k->A k/\orV k=orV k,n=n,∀(i:Nat),i<n->[iI (dyU I dy i)]=[iI (dyU I dy i)],z6,JJ,QM=QM,J7,S,QO,Z8,ZB,ZG,W5] (leaf true)) (need [∀(u:Value),A u->orV u=Value.bool true,F8 Tryz.prog 340 (λu=>A u\/u=Value.agg #[Value.int IntKind.i64 (d:Int),KJ Z]) W (W6)] (need [ZV,z7,JV ord,∀(i:Nat),i<List.length ord->[iI (U9 ord i)]=[iI (U9 ord i)],∀(k:Value),A k\/k=Value.agg #[Value.int IntKind.i64 (d:Int),KJ Z]->A k/\Value.bool true=orV k,n=n,∀(i:Nat),i<n->[iI (dy i)]=[iI (dy i)],z6,JJ,QM=QM,J7,S,QO,Z8,ZB,ZG,W5] (leaf false))))));let z1:=(need [ZV,z7,JV ord,∀(i:Nat),i<List.length ord->[iI (U9 ord i)]=[iI (U9 ord i)],∀(k:Value),A k->A k/\orV k=orV k,n=n,∀(i:Nat),i<n->[iI (dy i)]=[iI (dy i)],z6,JJ,QM=QM,J7,S,QO,Z8,ZB,ZG,W5] (leaf false));(need [n<=8] (branch ((d:Int)==2^n-1) (need [ZV,List.length ord=List.length (ord++orL I),∀(i:Nat),i<List.length (ord++orL I)->[iI (U9 ord i)]=[iI (U9 (ord++orL I) i)],∀(k:Value),A k->A k/\orV k=orV k,n=n,∀(i:Nat),i<n->[iI (dy i)]=[iI (dyU I dy i)],z6,JJ,QM=QM,J7,S,QO,Z8,ZB,ZG,W5] (leaf true)) (need [F8 Tryz.prog 340 (A) W (W6)] (VO.may (A W) (branch true z1 z0) (branch false z1 z0)))))) VX VX rfl rfl VX ?_
 have h8:=VV.1;have hp1:1<=2^n:=Nat.one_le_two_pow;have hpn:((2^n:Nat):Int)=2^n:=VW;have hmk:F8 Tryz.prog 340 (orH n a b c U O) (.agg #[.int .i64 d,.int .i64 Z]) (.bool false):=(N9 d Z).mono (λx hx=>Wa9 hx)
 have hmk2:F8 Tryz.prog 340 (λu=>orH n a b c U O u\/u= .agg #[.int .i64 d,.int .i64 Z]) (.agg #[.int .i64 d,.int .i64 Z]) (.bool false):=(N9 d Z).mono (λx hx=>hx.elim Wa9 (λh=>⟨_,_,h⟩))
 have Jc2:orH n a b c U O (.agg #[.int .i64 d,.int .i64 Z])->(orS n a b c U O d Z).isSome=false:=by
  rintro ⟨d',day',h,_,h2⟩;simp only [Value.agg.injEq,Array.mk.injEq,List.cons.injEq,Value.int.injEq,UK] at h;obtain ⟨e1,rfl⟩:=h;obtain rfl:d=d':=VL;rw [h2];rfl
 have Jb6:(orS n a b c U O d Z).isSome=false-> ∀k,orH n a b c U O k\/k= .agg #[.int .i64 d,.int .i64 Z]->orH n a b c U O k/\Value.bool true=orV k:=by
  rintro hn k (hk|rfl)
  ·exact ⟨hk,rfl⟩
  ·exact ⟨⟨d,Z,rfl,UI,by simpa using hn⟩,rfl⟩
 simp only [VO.sat,UE,UK];refine ⟨h8,?_⟩;by_cases hw:d=2^n-1
 ·have hS:orS n a b c U O d Z=some []:=by
   rw [hw];exact Wa8 h8 Z
  have hG:orG n a b c U O d Z=[]:=by
   unfold orG;rw [hS];rfl
  rw [hG,hS];refine ⟨λ_=>?_,λh=>?_⟩
  ·simp only [orL,List.map_nil,List.append_nil,dyU];all_goals exact V6
  ·exfalso;rw [beq_eq_false_iff_ne] at h;omega
 ·refine ⟨λh=>?_,λ_=>?_⟩
  ·exfalso;rw [beq_iff_eq] at h;omega
  ·(with_reducible repeat' first|apply Al|intro _)
   all_goals first|exact Ak|exact hmk|exact hmk2|exact hw|(exact (Jc2 (by assumption)).symm)|rfl|contradiction|(exact Eq.symm (by assumption))|assumption|exact (Jb6 (by assumption) _ (by assumption)).1|exact (Jb6 (by assumption) _ (by assumption)).2
theorem Wa7{n:Nat}{a b c U O:Nat->Int}(h0:sV n a b c U O): ∀N:Nat,GC VQ 237 (m6 n a b c U O N)
 | 0=>cD λea la d Z ord dy oa ol oc da dl dc h1 h2=>VL
 |N+1=>cD λea la d Z ord dy oa ol oc da dl dc h1 h2 h3 h4=>Xb4 n a b c U O ea la d Z ord dy oa ol oc da dl dc N h0 h1 h2 h3 h4 (Wa7 h0 N)
end Go.Proofs.YtakpdkmhclhlnaaGreatDoor.Hd
