/- Contracts, put together. Conditions: those of each. -/
import Derived.Test.YtakpdkmhclhlnaaGreatDoorMf
set_option linter.unusedSimpArgs false
set_option linter.unusedVariables false
set_option maxRecDepth 100000
namespace Go.Proofs.YtakpdkmhclhlnaaGreatDoor.Hd
open Go Go.Sx Go.RowKit Bo
open Go.Sx.VJ (need branch leaf)
open Go.Sx.AV (lst ptr agg roI tup top)
abbrev KK(Z:Int):Value:=Value.int IntKind.i64 Z
theorem Xe9(n:Nat)(a b c U O:Nat->Int)(ea la:AV)(d:Nat)(Z:Int)(ord:List Int)(dy:Nat->Int)(oa:Option Addr)(ol oc:Nat)(da:Option Addr)(dl dc:Nat)(N:Nat)(VO:sV n a b c U O)(UD:d<2^n)(HO:2^n-d<=N+1)(DZ:0<=Z/\Z<=100)(BM:ord.length<=1000)(z9:G8 VL 237 (mV n a b c U O N)):Xa3 VL 237 [.agg [i d,i Z],.ptr 0 0,.ptr 1 0,.ptr 2 0,.ptr 3 0,.ptr 4 0] (OM n a b c U O ea la d Z ord dy oa ol oc da dl dc) 901 [[.ptr 0 0,.ptr 1 0,.ptr 2 0,.ptr 3 0,.ptr 4 0]] (OT_ n a b c U O ea la d Z ord dy oa ol oc da dl dc (orG n a b c U O d Z)) (OF_ n a b c U O ea la d Z ord dy oa ol oc da dl dc) (orS n a b c U O d Z).isSome:=by
 refine Qo3 (X:={R:=[(131,AE)],H:=[(237,(mV n a b c U O N))] }) (L:=[FE [d≠2^n-1] (Xw3 n a b c U O ea la d Z ord dy oa ol oc da dl dc N)]) (Ae DW (Ae L9 Aa)) (Ai (Af NL Ab) (Ag z9 Ac)) VW Tryz.func237 (UR Tryz.f237) (G0 (lpE (b:= .rangeFunc (rfF (VP (U5 Tryz.f237) 0)) (jK (VP (U5 Tryz.f237) 0)) Js3 Jq3) VQ<|PW (λh=>Jb4 n a b c U O ea la d Z ord dy oa ol oc da dl dc N VO ⟨UD,h⟩ HO DZ BM z9))) (N:=[(.cell 3 0,900,3,1)]) (t:=let z7:=(VU (AV.x (.slice oa ol oc)));let A:=orH n a b c U O;let z6:=ZM n a b c U O ea la;let S:=(VU (AV.x (.slice da dl dc)));let I:=(orG n a b c U O d Z);let W:=(Value.agg #[Value.int IntKind.i64 (d:Int),KK Z]);let z0:=(need [d≠2^n-1] (need [VU (agg [iI (d:Int),iI Z]),QO,XV,ZA,ZF,W2,KR,KS,VU (AV.fn (Fn.func 171) [] [AV.ro [QQ n a b c U O ea la],AV.ro [iI (d:Int)]]),false=false,VU (d:Int),Z=Z,ZU,z7,JT ord,∀(i:Nat),i<List.length ord->[iI (U6 ord i)]=[iI (U6 ord i)],∀(k:Value),A k->A k/\orV k=orV k,n=n,∀(i:Nat),i<n->[iI (dy i)]=[iI (dy i)],z6,JH,QM=QM,J6,S,QO,XV,ZA,ZF,W2] (branch (Option.isSome (orS n a b c U O d Z)) (need [ZU,VU (List.length (ord++orL I)),∀(i:Nat),i<List.length (ord++orL I)->[iI (U6 (ord++orL I) i)]=[iI (U6 (ord++orL I) i)],∀(k:Value),A k->A k/\orV k=orV k,n=n,∀(i:Nat),i<n->[iI (dyU I dy i)]=[iI (dyU I dy i)],z6,JH,QM=QM,J6,S,QO,XV,ZA,ZF,W2] (leaf true)) (need [∀(u:Value),A u->orV u=Value.bool true,F8 Tryz.prog 340 (λu=>A u\/u=Value.agg #[Value.int IntKind.i64 (d:Int),KK Z]) W (WK)] (need [ZU,z7,JT ord,∀(i:Nat),i<List.length ord->[iI (U6 ord i)]=[iI (U6 ord i)],∀(k:Value),A k\/k=Value.agg #[Value.int IntKind.i64 (d:Int),KK Z]->A k/\Value.bool true=orV k,n=n,∀(i:Nat),i<n->[iI (dy i)]=[iI (dy i)],z6,JH,QM=QM,J6,S,QO,XV,ZA,ZF,W2] (leaf false))))));let z1:=(need [ZU,z7,JT ord,∀(i:Nat),i<List.length ord->[iI (U6 ord i)]=[iI (U6 ord i)],∀(k:Value),A k->A k/\orV k=orV k,n=n,∀(i:Nat),i<n->[iI (dy i)]=[iI (dy i)],z6,JH,QM=QM,J6,S,QO,XV,ZA,ZF,W2] (leaf false));(need [n<=8] (branch ((d:Int)==2^n-1) (need [ZU,List.length ord=List.length (ord++orL I),∀(i:Nat),i<List.length (ord++orL I)->[iI (U6 ord i)]=[iI (U6 (ord++orL I) i)],∀(k:Value),A k->A k/\orV k=orV k,n=n,∀(i:Nat),i<n->[iI (dy i)]=[iI (dyU I dy i)],z6,JH,QM=QM,J6,S,QO,XV,ZA,ZF,W2] (leaf true)) (need [F8 Tryz.prog 340 (A) W (WK)] (VJ.may (A W) (branch true z1 z0) (branch false z1 z0)))))) VQ VQ rfl rfl VQ ?_
 have h8:=VO.1;have hp1:1<=2^n:=Cc;have hpn:((2^n:Nat):Int)=2^n:=VS;have hmk:F8 Tryz.prog 340 (orH n a b c U O) (.agg #[.int .i64 d,.int .i64 Z]) (.bool false):=(NV d Z).mono (λx hx=>Wd6 hx);have hmk2:F8 Tryz.prog 340 (λu=>orH n a b c U O u\/u= .agg #[.int .i64 d,.int .i64 Z]) (.agg #[.int .i64 d,.int .i64 Z]) (.bool false):=(NV d Z).mono (λx hx=>hx.elim Wd6 (λh=>⟨_,_,h⟩));have Je9:orH n a b c U O (.agg #[.int .i64 d,.int .i64 Z])->(orS n a b c U O d Z).isSome=false:=by
  rintro ⟨d',day',h,_,h2⟩;simp only [Value.agg.injEq,Array.mk.injEq,List.cons.injEq,Value.int.injEq,UE] at h;obtain ⟨e1,rfl⟩:=h;obtain rfl:d=d':=VG;rw [h2];rfl
 have Je3:(orS n a b c U O d Z).isSome=false-> ∀k,orH n a b c U O k\/k= .agg #[.int .i64 d,.int .i64 Z]->orH n a b c U O k/\Value.bool true=orV k:=by
  rintro hn k (hk|rfl);exact ⟨hk,rfl⟩;exact ⟨⟨d,Z,rfl,UD,by simpa using hn⟩,rfl⟩
 simp only [VJ.sat,U8,UE];refine ⟨h8,?_⟩;by_cases hw:d=2^n-1;have hS:orS n a b c U O d Z=some []:=by
  rw [hw];exact Wd5 h8 Z
 have hG:orG n a b c U O d Z=[]:=by
  unfold orG;rw [hS];rfl
 rw [hG,hS];refine ⟨λ_=>?_,λh=>?_⟩
 ·simp only [orL,List.map_nil,List.append_nil,dyU];all_goals exact V3
 exfalso;rw [beq_eq_false_iff_ne] at h;omega;refine ⟨λh=>?_,λ_=>?_⟩;exfalso;rw [beq_iff_eq] at h;omega
 ·(with_reducible repeat' first|apply Al|intro _)
  all_goals first|exact Ak|exact hmk|exact hmk2|exact hw|(exact (Je9 (by assumption)).symm)|rfl|contradiction|(exact Eq.symm (by assumption))|assumption|exact (Je3 (by assumption) _ (by assumption)).1|exact (Je3 (by assumption) _ (by assumption)).2
theorem Wd4{n:Nat}{a b c U O:Nat->Int}(h0:sV n a b c U O): ∀N:Nat,G8 VL 237 (mV n a b c U O N)
 | 0=>e8 λea la d Z ord dy oa ol oc da dl dc h1 h2=>VG
 |N+1=>e8 λea la d Z ord dy oa ol oc da dl dc h1 h2 h3 h4=>Xe9 n a b c U O ea la d Z ord dy oa ol oc da dl dc N h0 h1 h2 h3 h4 (Wd4 h0 N)
end Go.Proofs.YtakpdkmhclhlnaaGreatDoor.Hd
