/- Contracts, put together. Conditions: those of each. -/
import Derived.Test.YtlclobclmfhlmaaGreatDoorMf
set_option linter.unusedSimpArgs false
set_option linter.unusedVariables false
set_option maxRecDepth 100000
namespace Go.Proofs.YtlclobclmfhlmaaGreatDoor.Hd
open Go Go.Sx Go.RowKit Bo
open Go.Sx.VR (need branch leaf)
open Go.Sx.AV (lst ptr agg roI tup top)
abbrev KO(Z:Int):Value:=Value.int IntKind.i64 Z
theorem Xi5(n:Nat)(a b c U O:Nat->Int)(ea la:AV)(d:Nat)(Z:Int)(ord:List Int)(dy:Nat->Int)(oa:Option Addr)(ol oc:Nat)(da:Option Addr)(dl dc:Nat)(N:Nat)(VW:sV n a b c U O)(UK:d<2^n)(HY:2^n-d<=N+1)(F8:0<=Z/\Z<=100)(BX:ord.length<=1000)(zV:GG VT 222 (nQ n a b c U O N)):Xd8 VT 222 [.agg [i d,i Z],.ptr 0 0,.ptr 1 0,.ptr 2 0,.ptr 3 0,.ptr 4 0] (OM n a b c U O ea la d Z ord dy oa ol oc da dl dc) 901 [[.ptr 0 0,.ptr 1 0,.ptr 2 0,.ptr 3 0,.ptr 4 0]] (OT_ n a b c U O ea la d Z ord dy oa ol oc da dl dc (orG n a b c U O d Z)) (OF_ n a b c U O ea la d Z ord dy oa ol oc da dl dc) (orS n a b c U O d Z).isSome:=by
 refine Qr3 (X:={R:=[(79,AO)],H:=[(222,(nQ n a b c U O N))] }) (L:=[FV [d≠2^n-1] (Xz4 n a b c U O ea la d Z ord dy oa ol oc da dl dc N)]) (Ae F4 (Ae LJ Aa)) (Ai (Af NZ Ab) (Ag zV Ac)) U3 Tryz.func222 (UY Tryz.f222) (G4 (lpE (b:= .rangeFunc (rfF (VX (UB Tryz.f222) 0)) (zS (VX (UB Tryz.f222) 0)) Ju8 Js7) VY<|BB (λh=>Je5 n a b c U O ea la d Z ord dy oa ol oc da dl dc N VW ⟨UK,h⟩ HY F8 BX zV))) (N:=[(.cell 3 0,900,3,1)]) (t:=let W:=(U4 (AV.x (.slice oa ol oc)));let A:=orH n a b c U O;let z6:=ZP n a b c U O ea la;let S:=(U4 (AV.x (.slice da dl dc)));let I:=(orG n a b c U O d Z);let z5:=(Value.agg #[Value.int IntKind.i64 (d:Int),KO Z]);let z0:=(need [d≠2^n-1] (need [U4 (agg [iI (d:Int),iI Z]),QS,Z6,ZD,ZI,W7,KW,KX,U4 (AV.fn (Fn.func 108) [] [AV.ro [QQ n a b c U O ea la],AV.ro [iI (d:Int)]]),false=false,U4 (d:Int),Z=Z,ZX,W,JZ ord,∀(i:Nat),i<List.length ord->[iI (UD ord i)]=[iI (UD ord i)],∀(k:Value),A k->A k/\orV k=orV k,n=n,∀(i:Nat),i<n->[iI (dy i)]=[iI (dy i)],z6,JN,QN=QN,J9,S,QS,Z6,ZD,ZI,W7] (branch (Option.isSome (orS n a b c U O d Z)) (need [ZX,U4 (List.length (ord++orL I)),∀(i:Nat),i<List.length (ord++orL I)->[iI (UD (ord++orL I) i)]=[iI (UD (ord++orL I) i)],∀(k:Value),A k->A k/\orV k=orV k,n=n,∀(i:Nat),i<n->[iI (dyU I dy i)]=[iI (dyU I dy i)],z6,JN,QN=QN,J9,S,QS,Z6,ZD,ZI,W7] (leaf true)) (need [∀(u:Value),A u->orV u=Value.bool true,FI Tryz.prog 329 (λu=>A u\/u=Value.agg #[Value.int IntKind.i64 (d:Int),KO Z]) z5 (WN)] (need [ZX,W,JZ ord,∀(i:Nat),i<List.length ord->[iI (UD ord i)]=[iI (UD ord i)],∀(k:Value),A k\/k=Value.agg #[Value.int IntKind.i64 (d:Int),KO Z]->A k/\Value.bool true=orV k,n=n,∀(i:Nat),i<n->[iI (dy i)]=[iI (dy i)],z6,JN,QN=QN,J9,S,QS,Z6,ZD,ZI,W7] (leaf false))))));let z1:=(need [ZX,W,JZ ord,∀(i:Nat),i<List.length ord->[iI (UD ord i)]=[iI (UD ord i)],∀(k:Value),A k->A k/\orV k=orV k,n=n,∀(i:Nat),i<n->[iI (dy i)]=[iI (dy i)],z6,JN,QN=QN,J9,S,QS,Z6,ZD,ZI,W7] (leaf false));(need [n<=8] (branch ((d:Int)==2^n-1) (need [ZX,List.length ord=List.length (ord++orL I),∀(i:Nat),i<List.length (ord++orL I)->[iI (UD ord i)]=[iI (UD (ord++orL I) i)],∀(k:Value),A k->A k/\orV k=orV k,n=n,∀(i:Nat),i<n->[iI (dy i)]=[iI (dyU I dy i)],z6,JN,QN=QN,J9,S,QS,Z6,ZD,ZI,W7] (leaf true)) (need [FI Tryz.prog 329 (A) z5 (WN)] (VR.may (A z5) (branch true z1 z0) (branch false z1 z0)))))) VY VY rfl rfl VY ?_
 have h8:=VW.1;have hp1:1<=2^n:=Nat.one_le_two_pow;have hpn:((2^n:Nat):Int)=2^n:=VZ;have hmk:FI Tryz.prog 329 (orH n a b c U O) (.agg #[.int .i64 d,.int .i64 Z]) (.bool false):=(OC d Z).mono (λx hx=>Wg9 hx)
 have hmk2:FI Tryz.prog 329 (λu=>orH n a b c U O u\/u= .agg #[.int .i64 d,.int .i64 Z]) (.agg #[.int .i64 d,.int .i64 Z]) (.bool false):=(OC d Z).mono (λx hx=>hx.elim Wg9 (λh=>⟨_,_,h⟩))
 have Ji2:orH n a b c U O (.agg #[.int .i64 d,.int .i64 Z])->(orS n a b c U O d Z).isSome=false:=by
  rintro ⟨d',day',h,_,h2⟩;simp only [Value.agg.injEq,Array.mk.injEq,List.cons.injEq,Value.int.injEq,UL] at h;obtain ⟨e1,rfl⟩:=h;obtain rfl:d=d':=VO;rw [h2];rfl
 have Jh6:(orS n a b c U O d Z).isSome=false-> ∀k,orH n a b c U O k\/k= .agg #[.int .i64 d,.int .i64 Z]->orH n a b c U O k/\Value.bool true=orV k:=by
  rintro hn k (hk|rfl)
  ·exact ⟨hk,rfl⟩
  ·exact ⟨⟨d,Z,rfl,UK,by simpa using hn⟩,rfl⟩
 simp only [VR.sat,UF,UL];refine ⟨h8,?_⟩;by_cases hw:d=2^n-1
 ·have hS:orS n a b c U O d Z=some []:=by
   rw [hw];exact Wg8 h8 Z
  have hG:orG n a b c U O d Z=[]:=by
   unfold orG;rw [hS];rfl
  rw [hG,hS];refine ⟨λ_=>?_,λh=>?_⟩
  ·simp only [orL,List.map_nil,List.append_nil,dyU];all_goals exact VB
  ·exfalso;rw [beq_eq_false_iff_ne] at h;omega
 ·refine ⟨λh=>?_,λ_=>?_⟩
  ·exfalso;rw [beq_iff_eq] at h;omega
  ·(with_reducible repeat' first|apply Al|intro _)
   all_goals first|exact Ak|exact hmk|exact hmk2|exact hw|(exact (Ji2 (by assumption)).symm)|rfl|contradiction|(exact Eq.symm (by assumption))|assumption|exact (Jh6 (by assumption) _ (by assumption)).1|exact (Jh6 (by assumption) _ (by assumption)).2
theorem Wg7{n:Nat}{a b c U O:Nat->Int}(h0:sV n a b c U O): ∀N:Nat,GG VT 222 (nQ n a b c U O N)
 | 0=>eY λea la d Z ord dy oa ol oc da dl dc h1 h2=>VO
 |N+1=>eY λea la d Z ord dy oa ol oc da dl dc h1 h2 h3 h4=>Xi5 n a b c U O ea la d Z ord dy oa ol oc da dl dc N h0 h1 h2 h3 h4 (Wg7 h0 N)
end Go.Proofs.YtlclobclmfhlmaaGreatDoor.Hd
