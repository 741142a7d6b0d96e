/- Contracts, put together. Conditions: those of each. -/
import Derived.Test.YtlclobclmfhlmaaGreatDoorMf
set_option linter.unusedSimpArgs false
set_option linter.unusedVariables false
set_option maxRecDepth 100000
namespace Go.Proofs.YtlclobclmfhlmaaGreatDoor.Hd
open Go Go.Sx Go.RowKit Bo
open Go.Sx.VL (need branch leaf)
open Go.Sx.AV (lst ptr agg roI tup top)
abbrev KK(day:Int):Value:=Value.int IntKind.i64 day
theorem Xd5(n:Nat)(a b c lo hi:Nat->Int)(ea la:AV)(d:Nat)(day:Int)(ord:List Int)(dy:Nat->Int)(oa:Option Addr)(ol oc:Nat)(da:Option Addr)(dl dc:Nat)(N:Nat)(VR:sV n a b c lo hi)(UE:d<2^n)(HP:2^n-d<=N+1)(DZ:0<=day/\day<=100)(BM:ord.length<=1000)(z6:G9 VN 222 (mO n a b c lo hi N)):Wy8 VN 222 [.agg [i d,i day],.ptr 0 0,.ptr 1 0,.ptr 2 0,.ptr 3 0,.ptr 4 0] (OM n a b c lo hi ea la d day ord dy oa ol oc da dl dc) 901 [[.ptr 0 0,.ptr 1 0,.ptr 2 0,.ptr 3 0,.ptr 4 0]] (OT_ n a b c lo hi ea la d day ord dy oa ol oc da dl dc (orG n a b c lo hi d day)) (OF_ n a b c lo hi ea la d day ord dy oa ol oc da dl dc) (orS n a b c lo hi d day).isSome:=by
 refine Qm8 (X:={R:=[(79,A6)],H:=[(222,(mO n a b c lo hi N))] }) (L:=[FO [d≠2^n-1] (Xv0 n a b c lo hi ea la d day ord dy oa ol oc da dl dc N)]) (VJ.cons DW (VJ.cons L9 (VJ.nil _))) (VV.of (VP.cons NE (VP.nil _)) (VM.cons z6 (VM.nil _))) VY Tryz.func222 (US Tryz.f222) (G0 (lpE (b:= .rangeFunc (rfF (VQ (U6 Tryz.f222) 0)) (jG (VQ (U6 Tryz.f222) 0)) Jq3 Jo2) VS<|PW (λh=>Zz9 n a b c lo hi ea la d day ord dy oa ol oc da dl dc N VR ⟨UE,h⟩ HP DZ BM z6))) (N:=[(.cell 3 0,900,3,1)]) (t:=let z7:=(VX (AV.x (.slice oa ol oc)));let z3:=orH n a b c lo hi;let z6:=ZN n a b c lo hi ea la;let z4:=(VX (AV.x (.slice da dl dc)));let z2:=(orG n a b c lo hi d day);let z5:=(Value.agg #[Value.int IntKind.i64 (d:Int),KK day]);let z0:=(need [d≠2^n-1] (need [VX (agg [iI (d:Int),iI day]),QO,XV,ZA,ZG,W5,KS,KT,VX (AV.fn (Fn.func 108) [] [AV.ro [QQ n a b c lo hi ea la],AV.ro [iI (d:Int)]]),false=false,VX (d:Int),day=day,ZV,z7,JV ord,∀(i:Nat),i<List.length ord->[iI (U7 ord i)]=[iI (U7 ord i)],∀(k:Value),z3 k->z3 k/\orV k=orV k,n=n,∀(i:Nat),i<n->[iI (dy i)]=[iI (dy i)],z6,JK,QM=QM,J6,z4,QO,XV,ZA,ZG,W5] (branch (Option.isSome (orS n a b c lo hi d day)) (need [ZV,VX (List.length (ord++orL z2)),∀(i:Nat),i<List.length (ord++orL z2)->[iI (U7 (ord++orL z2) i)]=[iI (U7 (ord++orL z2) i)],∀(k:Value),z3 k->z3 k/\orV k=orV k,n=n,∀(i:Nat),i<n->[iI (dyU z2 dy i)]=[iI (dyU z2 dy i)],z6,JK,QM=QM,J6,z4,QO,XV,ZA,ZG,W5] (leaf true)) (need [∀(u:Value),z3 u->orV u=Value.bool true,FC Tryz.prog 329 (λu=>z3 u\/u=Value.agg #[Value.int IntKind.i64 (d:Int),KK day]) z5 (WM)] (need [ZV,z7,JV ord,∀(i:Nat),i<List.length ord->[iI (U7 ord i)]=[iI (U7 ord i)],∀(k:Value),z3 k\/k=Value.agg #[Value.int IntKind.i64 (d:Int),KK day]->z3 k/\Value.bool true=orV k,n=n,∀(i:Nat),i<n->[iI (dy i)]=[iI (dy i)],z6,JK,QM=QM,J6,z4,QO,XV,ZA,ZG,W5] (leaf false))))));let z1:=(need [ZV,z7,JV ord,∀(i:Nat),i<List.length ord->[iI (U7 ord i)]=[iI (U7 ord i)],∀(k:Value),z3 k->z3 k/\orV k=orV k,n=n,∀(i:Nat),i<n->[iI (dy i)]=[iI (dy i)],z6,JK,QM=QM,J6,z4,QO,XV,ZA,ZG,W5] (leaf false));(need [n<=8] (branch ((d:Int)==2^n-1) (need [ZV,List.length ord=List.length (ord++orL z2),∀(i:Nat),i<List.length (ord++orL z2)->[iI (U7 ord i)]=[iI (U7 (ord++orL z2) i)],∀(k:Value),z3 k->z3 k/\orV k=orV k,n=n,∀(i:Nat),i<n->[iI (dy i)]=[iI (dyU z2 dy i)],z6,JK,QM=QM,J6,z4,QO,XV,ZA,ZG,W5] (leaf true)) (need [FC Tryz.prog 329 (z3) z5 (WM)] (VL.may (z3 z5) (branch true z1 z0) (branch false z1 z0)))))) VS VS rfl rfl VS ?_
 have h8:=VR.1;have hp1:1<=2^n:=Nat.one_le_two_pow;have hpn:((2^n:Nat):Int)=2^n:=VU;have hmk:FC Tryz.prog 329 (orH n a b c lo hi) (.agg #[.int .i64 d,.int .i64 day]) (.bool false):=(NP d day).mono (λx hx=>Wc5 hx)
 have hmk2:FC Tryz.prog 329 (λu=>orH n a b c lo hi u\/u= .agg #[.int .i64 d,.int .i64 day]) (.agg #[.int .i64 d,.int .i64 day]) (.bool false):=(NP d day).mono (λx hx=>hx.elim Wc5 (λh=>⟨_,_,h⟩))
 have Jd5:orH n a b c lo hi (.agg #[.int .i64 d,.int .i64 day])->(orS n a b c lo hi d day).isSome=false:=by
  rintro ⟨d',day',h,_,h2⟩;simp only [Value.agg.injEq,Array.mk.injEq,List.cons.injEq,Value.int.injEq,UG] at h;obtain ⟨e1,rfl⟩:=h;obtain rfl:d=d':=VI;rw [h2];rfl
 have Jc9:(orS n a b c lo hi d day).isSome=false-> ∀k,orH n a b c lo hi k\/k= .agg #[.int .i64 d,.int .i64 day]->orH n a b c lo hi k/\Value.bool true=orV k:=by
  rintro hn k (hk|rfl)
  ·exact ⟨hk,rfl⟩
  ·exact ⟨⟨d,day,rfl,UE,by simpa using hn⟩,rfl⟩
 simp only [VL.sat,UA,UG];refine ⟨h8,?_⟩;by_cases hw:d=2^n-1
 ·have hS:orS n a b c lo hi d day=some []:=by
   rw [hw];exact Wc4 h8 day
  have hG:orG n a b c lo hi d day=[]:=by
   unfold orG;rw [hS];rfl
  rw [hG,hS];refine ⟨λ_=>?_,λh=>?_⟩
  ·simp only [orL,List.map_nil,List.append_nil,dyU];all_goals exact V5
  ·exfalso;rw [beq_eq_false_iff_ne] at h;omega
 ·refine ⟨λh=>?_,λ_=>?_⟩
  ·exfalso;rw [beq_iff_eq] at h;omega
  ·(with_reducible repeat' first|apply And.intro|intro _)
   all_goals first|exact True.intro|exact hmk|exact hmk2|exact hw|(exact (Jd5 (by assumption)).symm)|rfl|contradiction|(exact Eq.symm (by assumption))|assumption|exact (Jc9 (by assumption) _ (by assumption)).1|exact (Jc9 (by assumption) _ (by assumption)).2
theorem Wc3{n:Nat}{a b c lo hi:Nat->Int}(h0:sV n a b c lo hi): ∀N:Nat,G9 VN 222 (mO n a b c lo hi N)
 | 0=>cV λea la d day ord dy oa ol oc da dl dc h1 h2=>VI
 |N+1=>cV λea la d day ord dy oa ol oc da dl dc h1 h2 h3 h4=>Xd5 n a b c lo hi ea la d day ord dy oa ol oc da dl dc N h0 h1 h2 h3 h4 (Wc3 h0 N)
end Go.Proofs.YtlclobclmfhlmaaGreatDoor.Hd
