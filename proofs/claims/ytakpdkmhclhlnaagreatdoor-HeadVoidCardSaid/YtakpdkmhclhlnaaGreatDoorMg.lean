/- Contracts, put together. Conditions: those of each. -/
import Derived.Test.YtakpdkmhclhlnaaGreatDoorMf
set_option linter.unusedSimpArgs false
set_option linter.unusedVariables false
set_option maxRecDepth 100000
namespace Go.Proofs.YtakpdkmhclhlnaaGreatDoor.Hd
open Go Go.Sx Go.RowKit Bo
open Go.Sx.VM (need branch leaf)
open Go.Sx.AV (lst ptr agg roI tup top)
abbrev KL(Z:Int):Value:=Value.int IntKind.i64 Z
theorem Xd6(n:Nat)(a b c U O:Nat->Int)(ea la:AV)(d:Nat)(Z:Int)(ord:List Int)(dy:Nat->Int)(oa:Option Addr)(ol oc:Nat)(da:Option Addr)(dl dc:Nat)(N:Nat)(VR:sV n a b c U O)(UE:d<2^n)(HQ:2^n-d<=N+1)(F1:0<=Z/\Z<=100)(BL:ord.length<=1000)(xX:GB VO 237 (mE n a b c U O N)):Wy4 VO 237 [.agg [i d,i Z],.ptr 0 0,.ptr 1 0,.ptr 2 0,.ptr 3 0,.ptr 4 0] (OM n a b c U O ea la d Z ord dy oa ol oc da dl dc) 901 [[.ptr 0 0,.ptr 1 0,.ptr 2 0,.ptr 3 0,.ptr 4 0]] (OT_ n a b c U O ea la d Z ord dy oa ol oc da dl dc (orG n a b c U O d Z)) (OF_ n a b c U O ea la d Z ord dy oa ol oc da dl dc) (orS n a b c U O d Z).isSome:=by
 refine Qm2 (X:={R:=[(131,A2)],H:=[(237,(mE n a b c U O N))] }) (L:=[FO [d≠2^n-1] (Xv4 n a b c U O ea la d Z ord dy oa ol oc da dl dc N)]) (Ae DX (Ae LC Aa)) (Ai (Af N7 Ab) (Ag xX Ac)) VY Tryz.func237 (UT Tryz.f237) (G0 (lpE (b:= .rangeFunc (rfF (VS (U7 Tryz.f237) 0)) (jD (VS (U7 Tryz.f237) 0)) Jr4 Jp4) VT<|PV (λh=>Jb0 n a b c U O ea la d Z ord dy oa ol oc da dl dc N VR ⟨UE,h⟩ HQ F1 BL xX))) (N:=[(.cell 3 0,900,3,1)]) (t:=let z7:=(VZ (AV.x (.slice oa ol oc)));let A:=orH n a b c U O;let z6:=ZM n a b c U O ea la;let S:=(VZ (AV.x (.slice da dl dc)));let I:=(orG n a b c U O d Z);let W:=(Value.agg #[Value.int IntKind.i64 (d:Int),KL Z]);let z0:=(need [d≠2^n-1] (need [VZ (agg [iI (d:Int),iI Z]),QO,XV,ZA,ZF,W5,KS,KT,VZ (AV.fn (Fn.func 171) [] [AV.ro [QQ n a b c U O ea la],AV.ro [iI (d:Int)]]),false=false,VZ (d:Int),Z=Z,ZW,z7,JW ord,∀(i:Nat),i<List.length ord->[iI (U8 ord i)]=[iI (U8 ord i)],∀(k:Value),A k->A k/\orV k=orV k,n=n,∀(i:Nat),i<n->[iI (dy i)]=[iI (dy i)],z6,JL,QM=QM,J7,S,QO,XV,ZA,ZF,W5] (branch (Option.isSome (orS n a b c U O d Z)) (need [ZW,VZ (List.length (ord++orL I)),∀(i:Nat),i<List.length (ord++orL I)->[iI (U8 (ord++orL I) i)]=[iI (U8 (ord++orL I) i)],∀(k:Value),A k->A k/\orV k=orV k,n=n,∀(i:Nat),i<n->[iI (dyU I dy i)]=[iI (dyU I dy i)],z6,JL,QM=QM,J7,S,QO,XV,ZA,ZF,W5] (leaf true)) (need [∀(u:Value),A u->orV u=Value.bool true,FB Tryz.prog 340 (λu=>A u\/u=Value.agg #[Value.int IntKind.i64 (d:Int),KL Z]) W (WM)] (need [ZW,z7,JW ord,∀(i:Nat),i<List.length ord->[iI (U8 ord i)]=[iI (U8 ord i)],∀(k:Value),A k\/k=Value.agg #[Value.int IntKind.i64 (d:Int),KL Z]->A k/\Value.bool true=orV k,n=n,∀(i:Nat),i<n->[iI (dy i)]=[iI (dy i)],z6,JL,QM=QM,J7,S,QO,XV,ZA,ZF,W5] (leaf false))))));let z1:=(need [ZW,z7,JW ord,∀(i:Nat),i<List.length ord->[iI (U8 ord i)]=[iI (U8 ord i)],∀(k:Value),A k->A k/\orV k=orV k,n=n,∀(i:Nat),i<n->[iI (dy i)]=[iI (dy i)],z6,JL,QM=QM,J7,S,QO,XV,ZA,ZF,W5] (leaf false));(need [n<=8] (branch ((d:Int)==2^n-1) (need [ZW,List.length ord=List.length (ord++orL I),∀(i:Nat),i<List.length (ord++orL I)->[iI (U8 ord i)]=[iI (U8 (ord++orL I) i)],∀(k:Value),A k->A k/\orV k=orV k,n=n,∀(i:Nat),i<n->[iI (dy i)]=[iI (dyU I dy i)],z6,JL,QM=QM,J7,S,QO,XV,ZA,ZF,W5] (leaf true)) (need [FB Tryz.prog 340 (A) W (WM)] (VM.may (A W) (branch true z1 z0) (branch false z1 z0)))))) VT VT rfl rfl VT ?_
 have h8:=VR.1;have hp1:1<=2^n:=Nat.one_le_two_pow;have hpn:((2^n:Nat):Int)=2^n:=VV;have hmk:FB Tryz.prog 340 (orH n a b c U O) (.agg #[.int .i64 d,.int .i64 Z]) (.bool false):=(NH d Z).mono (λx hx=>Wb7 hx)
 have hmk2:FB Tryz.prog 340 (λu=>orH n a b c U O u\/u= .agg #[.int .i64 d,.int .i64 Z]) (.agg #[.int .i64 d,.int .i64 Z]) (.bool false):=(NH d Z).mono (λx hx=>hx.elim Wb7 (λh=>⟨_,_,h⟩))
 have Je7:orH n a b c U O (.agg #[.int .i64 d,.int .i64 Z])->(orS n a b c U O d Z).isSome=false:=by
  rintro ⟨d',day',h,_,h2⟩;simp only [Value.agg.injEq,Array.mk.injEq,List.cons.injEq,Value.int.injEq,UH] at h;obtain ⟨e1,rfl⟩:=h;obtain rfl:d=d':=VJ;rw [h2];rfl
 have Je1:(orS n a b c U O d Z).isSome=false-> ∀k,orH n a b c U O k\/k= .agg #[.int .i64 d,.int .i64 Z]->orH n a b c U O k/\Value.bool true=orV k:=by
  rintro hn k (hk|rfl)
  ·exact ⟨hk,rfl⟩
  ·exact ⟨⟨d,Z,rfl,UE,by simpa using hn⟩,rfl⟩
 simp only [VM.sat,UB,UH];refine ⟨h8,?_⟩;by_cases hw:d=2^n-1
 ·have hS:orS n a b c U O d Z=some []:=by
   rw [hw];exact Wb6 h8 Z
  have hG:orG n a b c U O d Z=[]:=by
   unfold orG;rw [hS];rfl
  rw [hG,hS];refine ⟨λ_=>?_,λh=>?_⟩
  ·simp only [orL,List.map_nil,List.append_nil,dyU];all_goals exact V6
  ·exfalso;rw [beq_eq_false_iff_ne] at h;omega
 ·refine ⟨λh=>?_,λ_=>?_⟩
  ·exfalso;rw [beq_iff_eq] at h;omega
  ·(with_reducible repeat' first|apply Al|intro _)
   all_goals first|exact Ak|exact hmk|exact hmk2|exact hw|(exact (Je7 (by assumption)).symm)|rfl|contradiction|(exact Eq.symm (by assumption))|assumption|exact (Je1 (by assumption) _ (by assumption)).1|exact (Je1 (by assumption) _ (by assumption)).2
theorem Wb5{n:Nat}{a b c U O:Nat->Int}(h0:sV n a b c U O): ∀N:Nat,GB VO 237 (mE n a b c U O N)
 | 0=>cL λea la d Z ord dy oa ol oc da dl dc h1 h2=>VJ
 |N+1=>cL λea la d Z ord dy oa ol oc da dl dc h1 h2 h3 h4=>Xd6 n a b c U O ea la d Z ord dy oa ol oc da dl dc N h0 h1 h2 h3 h4 (Wb5 h0 N)
end Go.Proofs.YtakpdkmhclhlnaaGreatDoor.Hd
