/- Contracts, put together. Conditions: those of each. -/
import Derived.Test.YtlclobclmfhlmaaGreatDoorMf
set_option linter.unusedSimpArgs false
set_option linter.unusedVariables false
set_option maxRecDepth 100000
namespace Go.Proofs.YtlclobclmfhlmaaGreatDoor.Hd
open Go Go.Sx Go.RowKit Bo
open Go.Sx.VP (need branch leaf)
open Go.Sx.AV (lst ptr agg roI tup top)
abbrev KN(Z:Int):Value:=Value.int IntKind.i64 Z
theorem Xi6(n:Nat)(a b c U O:Nat->Int)(ea la:AV)(d:Nat)(Z:Int)(ord:List Int)(dy:Nat->Int)(oa:Option Addr)(ol oc:Nat)(da:Option Addr)(dl dc:Nat)(N:Nat)(VU:sV n a b c U O)(UI:d<2^n)(HU:2^n-d<=N+1)(F5:0<=Z/\Z<=100)(BU:ord.length<=1000)(zT:GE VR 222 (nO n a b c U O N)):Xd8 VR 222 [.agg [i d,i Z],.ptr 0 0,.ptr 1 0,.ptr 2 0,.ptr 3 0,.ptr 4 0] (OM n a b c U O ea la d Z ord dy oa ol oc da dl dc) 901 [[.ptr 0 0,.ptr 1 0,.ptr 2 0,.ptr 3 0,.ptr 4 0]] (OT_ n a b c U O ea la d Z ord dy oa ol oc da dl dc (orG n a b c U O d Z)) (OF_ n a b c U O ea la d Z ord dy oa ol oc da dl dc) (orS n a b c U O d Z).isSome:=by
 refine Qr2 (X:={R:=[(79,AL)],H:=[(222,(nO n a b c U O N))] }) (L:=[FT [d≠2^n-1] (Xz9 n a b c U O ea la d Z ord dy oa ol oc da dl dc N)]) (Ae F1 (Ae LI Aa)) (Ai (Af NX Ab) (Ag zT Ac)) U1 Tryz.func222 (UW Tryz.f222) (UZ (lpE (b:= .rangeFunc (rfF (VV (U9 Tryz.f222) 0)) (zQ (VV (U9 Tryz.f222) 0)) Jv6 Jt5) VW<|B8 (λh=>Jf0 n a b c U O ea la d Z ord dy oa ol oc da dl dc N VU ⟨UI,h⟩ HU F5 BU zT))) (N:=[(.cell 3 0,900,3,1)]) (t:=let z7:=(U2 (AV.x (.slice oa ol oc)));let A:=orH n a b c U O;let z6:=ZO n a b c U O ea la;let S:=(U2 (AV.x (.slice da dl dc)));let I:=(orG n a b c U O d Z);let W:=(Value.agg #[Value.int IntKind.i64 (d:Int),KN Z]);let z0:=(need [d≠2^n-1] (need [U2 (agg [iI (d:Int),iI Z]),QS,Z4,ZC,ZH,W7,KV,KW,U2 (AV.fn (Fn.func 108) [] [AV.ro [QQ n a b c U O ea la],AV.ro [iI (d:Int)]]),false=false,U2 (d:Int),Z=Z,ZW,z7,JX ord,∀(i:Nat),i<List.length ord->[iI (UB ord i)]=[iI (UB ord i)],∀(k:Value),A k->A k/\orV k=orV k,n=n,∀(i:Nat),i<n->[iI (dy i)]=[iI (dy i)],z6,JL,QN=QN,J7,S,QS,Z4,ZC,ZH,W7] (branch (Option.isSome (orS n a b c U O d Z)) (need [ZW,U2 (List.length (ord++orL I)),∀(i:Nat),i<List.length (ord++orL I)->[iI (UB (ord++orL I) i)]=[iI (UB (ord++orL I) i)],∀(k:Value),A k->A k/\orV k=orV k,n=n,∀(i:Nat),i<n->[iI (dyU I dy i)]=[iI (dyU I dy i)],z6,JL,QN=QN,J7,S,QS,Z4,ZC,ZH,W7] (leaf true)) (need [∀(u:Value),A u->orV u=Value.bool true,FG Tryz.prog 329 (λu=>A u\/u=Value.agg #[Value.int IntKind.i64 (d:Int),KN Z]) W (WO)] (need [ZW,z7,JX ord,∀(i:Nat),i<List.length ord->[iI (UB ord i)]=[iI (UB ord i)],∀(k:Value),A k\/k=Value.agg #[Value.int IntKind.i64 (d:Int),KN Z]->A k/\Value.bool true=orV k,n=n,∀(i:Nat),i<n->[iI (dy i)]=[iI (dy i)],z6,JL,QN=QN,J7,S,QS,Z4,ZC,ZH,W7] (leaf false))))));let z1:=(need [ZW,z7,JX ord,∀(i:Nat),i<List.length ord->[iI (UB ord i)]=[iI (UB ord i)],∀(k:Value),A k->A k/\orV k=orV k,n=n,∀(i:Nat),i<n->[iI (dy i)]=[iI (dy i)],z6,JL,QN=QN,J7,S,QS,Z4,ZC,ZH,W7] (leaf false));(need [n<=8] (branch ((d:Int)==2^n-1) (need [ZW,List.length ord=List.length (ord++orL I),∀(i:Nat),i<List.length (ord++orL I)->[iI (UB ord i)]=[iI (UB (ord++orL I) i)],∀(k:Value),A k->A k/\orV k=orV k,n=n,∀(i:Nat),i<n->[iI (dy i)]=[iI (dyU I dy i)],z6,JL,QN=QN,J7,S,QS,Z4,ZC,ZH,W7] (leaf true)) (need [FG Tryz.prog 329 (A) W (WO)] (VP.may (A W) (branch true z1 z0) (branch false z1 z0)))))) VW VW rfl rfl VW ?_
 have h8:=VU.1;have hp1:1<=2^n:=Nat.one_le_two_pow;have hpn:((2^n:Nat):Int)=2^n:=VX;have hmk:FG Tryz.prog 329 (orH n a b c U O) (.agg #[.int .i64 d,.int .i64 Z]) (.bool false):=(OA d Z).mono (λx hx=>Wh0 hx)
 have hmk2:FG Tryz.prog 329 (λu=>orH n a b c U O u\/u= .agg #[.int .i64 d,.int .i64 Z]) (.agg #[.int .i64 d,.int .i64 Z]) (.bool false):=(OA d Z).mono (λx hx=>hx.elim Wh0 (λh=>⟨_,_,h⟩))
 have Ji7:orH n a b c U O (.agg #[.int .i64 d,.int .i64 Z])->(orS n a b c U O d Z).isSome=false:=by
  rintro ⟨d',day',h,_,h2⟩;simp only [Value.agg.injEq,Array.mk.injEq,List.cons.injEq,Value.int.injEq,UJ] at h;obtain ⟨e1,rfl⟩:=h;obtain rfl:d=d':=VM;rw [h2];rfl
 have Ji1:(orS n a b c U O d Z).isSome=false-> ∀k,orH n a b c U O k\/k= .agg #[.int .i64 d,.int .i64 Z]->orH n a b c U O k/\Value.bool true=orV k:=by
  rintro hn k (hk|rfl)
  ·exact ⟨hk,rfl⟩
  ·exact ⟨⟨d,Z,rfl,UI,by simpa using hn⟩,rfl⟩
 simp only [VP.sat,UD,UJ];refine ⟨h8,?_⟩;by_cases hw:d=2^n-1
 ·have hS:orS n a b c U O d Z=some []:=by
   rw [hw];exact Wg9 h8 Z
  have hG:orG n a b c U O d Z=[]:=by
   unfold orG;rw [hS];rfl
  rw [hG,hS];refine ⟨λ_=>?_,λh=>?_⟩
  ·simp only [orL,List.map_nil,List.append_nil,dyU];all_goals exact VA
  ·exfalso;rw [beq_eq_false_iff_ne] at h;omega
 ·refine ⟨λh=>?_,λ_=>?_⟩
  ·exfalso;rw [beq_iff_eq] at h;omega
  ·(with_reducible repeat' first|apply Al|intro _)
   all_goals first|exact Ak|exact hmk|exact hmk2|exact hw|(exact (Ji7 (by assumption)).symm)|rfl|contradiction|(exact Eq.symm (by assumption))|assumption|exact (Ji1 (by assumption) _ (by assumption)).1|exact (Ji1 (by assumption) _ (by assumption)).2
theorem Wg8{n:Nat}{a b c U O:Nat->Int}(h0:sV n a b c U O): ∀N:Nat,GE VR 222 (nO n a b c U O N)
 | 0=>eX λea la d Z ord dy oa ol oc da dl dc h1 h2=>VM
 |N+1=>eX λea la d Z ord dy oa ol oc da dl dc h1 h2 h3 h4=>Xi6 n a b c U O ea la d Z ord dy oa ol oc da dl dc N h0 h1 h2 h3 h4 (Wg8 h0 N)
end Go.Proofs.YtlclobclmfhlmaaGreatDoor.Hd
