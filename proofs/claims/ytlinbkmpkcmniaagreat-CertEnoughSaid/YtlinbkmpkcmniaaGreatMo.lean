/- Texts of this claim, put together: CfG, CfH, CfI, CfK, CfL, CfM, CfN, CfO, CfP, CfW, CeP -/
import Derived.Test.YtlinbkmpkcmniaaGreatMn
set_option linter.unusedSimpArgs false
set_option linter.unusedVariables false
set_option maxRecDepth 100000
namespace Go.Proofs.YtlinbkmpkcmniaaGreat
open Go Go.Sx Go.RowKit Bo
open Go.Sx.Tree (need branch leaf)
open Go.Sx.AV (lst ptr agg roI tup top)
theorem bits_app (l : List Int) (x : Int) : bitsL (l ++ [x]) = orI (bitsL l) (1 * 2 ^ x.toNat) := by
 unfold bitsL
 rw [List.foldl_append]
 rfl
noncomputable def E_tk (c T lo hi : Int) (n : Nat) (a b u v : Nat → Int) (m : Nat) (p q : Nat → Int) (pl ph dl dh : Int) (u0 u1 wi day : Int) (s1 : Option Addr) (a1 b1 : Nat) (s2 : Option Addr) (a2 b2 : Nat) (s3 : Option Addr) (a3 b3 : Nat) (s4 : Option Addr) (a4 b4 : Nat) (out : List Int) (s : Nat) (N : Nat) : St := (some { σ := mkS 45 [(0, .row 6), (1, .agg [i (bitsL out)]), (2, i s), (3, i ((N + 1 : Nat) : Int)), (4, .ptr 0 0), (5, .ptr 1 0), (6, .ptr 2 0), (7, .ptr 3 0), (9, .ptr 7 0), (12, .lit false)], m := [(7, .cells 160 [i (bitsL out)]), (0, .cells 158 [.ptr 4 0]), (1, .cells 64 [.top]), (2, .cells 47 [i c, i T, i lo, i hi, rds n a b u v, Pt.scs m p q, i pl, i ph, i dl, i dh]), (2, .cells 47 [i c, i T, i lo, i hi, .x (.slice s1 a1 b1), .x (.slice s2 a2 b2), i pl, i ph, i dl, i dh]), (3, .cells 164 [.fn (.func 95) [] [.ptr 0 0, .ptr 1 0, .ptr 2 0, .ptr 3 0]]), (4, .cells 200 [i c, i T, i lo, i hi, rds n a b u v, Pt.scs m p q, i pl, i ph, i dl, i dh, i u0, i u1, i wi, i day, .mp 5]), (4, .cells 200 [i c, i T, i lo, i hi, .x (.slice s3 a3 b3), .x (.slice s4 a4 b4), i pl, i ph, i dl, i dh, i u0, i u1, i wi, i day, .mp 5]), (5, .memo enH (enF c T lo hi n a b u v m p q pl ph dl dh u0 u1 wi day)), (6, .row 3 1 out.length (fun j => [i (nthJ out j)]))], nx := 901, sv := [[.ptr 0 0, .ptr 1 0, .ptr 2 0, .ptr 3 0, .row 6, .ptr 4 0, .mp 5]] } : Option St).getD { σ := [], m := [], nx := 0 }
noncomputable def B_tk : Code := loopBody (loopAt (bodyOf Tryz.f95) 0)
noncomputable def inv_tk (c T lo hi : Int) (n : Nat) (a b u v : Nat → Int) (m : Nat) (p q : Nat → Int) (pl ph dl dh : Int) (u0 u1 wi day : Int) (s1 : Option Addr) (a1 b1 : Nat) (s2 : Option Addr) (a2 b2 : Nat) (s3 : Option Addr) (a3 b3 : Nat) (s4 : Option Addr) (a4 b4 : Nat) (out : List Int) (s : Nat) (N : Nat) (k : Nat) : St := { σ := ovrS [(13, i k)] (E_tk c T lo hi n a b u v m p q pl ph dl dh u0 u1 wi day s1 a1 b1 s2 a2 b2 s3 a3 b3 s4 a4 b4 out s N).σ, m := [(7, .cells 160 [i (bitsL out)]), (0, .cells 158 [.ptr 4 0]), (1, .cells 64 [.top]), (2, .cells 47 [i c, i T, i lo, i hi, rds n a b u v, Pt.scs m p q, i pl, i ph, i dl, i dh]), (2, .cells 47 [i c, i T, i lo, i hi, .x (.slice s1 a1 b1), .x (.slice s2 a2 b2), i pl, i ph, i dl, i dh]), (3, .cells 164 [.fn (.func 95) [] [.ptr 0 0, .ptr 1 0, .ptr 2 0, .ptr 3 0]]), (4, .cells 200 [i c, i T, i lo, i hi, rds n a b u v, Pt.scs m p q, i pl, i ph, i dl, i dh, i u0, i u1, i wi, i day, .mp 5]), (4, .cells 200 [i c, i T, i lo, i hi, .x (.slice s3 a3 b3), .x (.slice s4 a4 b4), i pl, i ph, i dl, i dh, i u0, i u1, i wi, i day, .mp 5]), (5, .memo enH (enF c T lo hi n a b u v m p q pl ph dl dh u0 u1 wi day)), (6, .row 3 1 out.length (fun j => [i (nthJ out j)]))], nx := (E_tk c T lo hi n a b u v m p q pl ph dl dh u0 u1 wi day s1 a1 b1 s2 a2 b2 s3 a3 b3 s4 a4 b4 out s N).nx, sv := [[.ptr 0 0, .ptr 1 0, .ptr 2 0, .ptr 3 0, .row 6, .ptr 4 0, .mp 5]] }
noncomputable def out_tk (c T lo hi : Int) (n : Nat) (a b u v : Nat → Int) (m : Nat) (p q : Nat → Int) (pl ph dl dh : Int) (u0 u1 wi day : Int) (s1 : Option Addr) (a1 b1 : Nat) (s2 : Option Addr) (a2 b2 : Nat) (s3 : Option Addr) (a3 b3 : Nat) (s4 : Option Addr) (a4 b4 : Nat) (out : List Int) (s : Nat) (N : Nat) (k : Nat) : AEx → Option St := fun ex => match ex with
 | .exit 0 => some { σ := ovrS [] (E_tk c T lo hi n a b u v m p q pl ph dl dh u0 u1 wi day s1 a1 b1 s2 a2 b2 s3 a3 b3 s4 a4 b4 out s N).σ, m := [(7, .cells 160 [i (bitsL out)]), (0, .cells 158 [.ptr 4 0]), (1, .cells 64 [.top]), (2, .cells 47 [i c, i T, i lo, i hi, rds n a b u v, Pt.scs m p q, i pl, i ph, i dl, i dh]), (2, .cells 47 [i c, i T, i lo, i hi, .x (.slice s1 a1 b1), .x (.slice s2 a2 b2), i pl, i ph, i dl, i dh]), (3, .cells 164 [.fn (.func 95) [] [.ptr 0 0, .ptr 1 0, .ptr 2 0, .ptr 3 0]]), (4, .cells 200 [i c, i T, i lo, i hi, rds n a b u v, Pt.scs m p q, i pl, i ph, i dl, i dh, i u0, i u1, i wi, i day, .mp 5]), (4, .cells 200 [i c, i T, i lo, i hi, .x (.slice s3 a3 b3), .x (.slice s4 a4 b4), i pl, i ph, i dl, i dh, i u0, i u1, i wi, i day, .mp 5]), (5, .memo enH (enF c T lo hi n a b u v m p q pl ph dl dh u0 u1 wi day)), (6, .row 3 1 out.length (fun j => [i (nthJ out j)]))], nx := (E_tk c T lo hi n a b u v m p q pl ph dl dh u0 u1 wi day s1 a1 b1 s2 a2 b2 s3 a3 b3 s4 a4 b4 out s N).nx, sv := [[.ptr 0 0, .ptr 1 0, .ptr 2 0, .ptr 3 0, .row 6, .ptr 4 0, .mp 5]] }
 | .ret => some { σ := ovrS [(12, .lit true)] (E_tk c T lo hi n a b u v m p q pl ph dl dh u0 u1 wi day s1 a1 b1 s2 a2 b2 s3 a3 b3 s4 a4 b4 out s N).σ, m := [(900, .row 3 1 (lvG (enL c T lo hi n a b u v m p q pl ph dl dh u0 u1 wi day) n (N + 1) out s).length (fun j => [i (nthJ (lvG (enL c T lo hi n a b u v m p q pl ph dl dh u0 u1 wi day) n (N + 1) out s) j)])), (7, .cells 160 [i (bitsL out)]), (0, .cells 158 [.ptr 4 0]), (1, .cells 64 [.row 900]), (2, .cells 47 [i c, i T, i lo, i hi, rds n a b u v, Pt.scs m p q, i pl, i ph, i dl, i dh]), (2, .cells 47 [i c, i T, i lo, i hi, .x (.slice s1 a1 b1), .x (.slice s2 a2 b2), i pl, i ph, i dl, i dh]), (3, .cells 164 [.fn (.func 95) [] [.ptr 0 0, .ptr 1 0, .ptr 2 0, .ptr 3 0]]), (4, .cells 200 [i c, i T, i lo, i hi, rds n a b u v, Pt.scs m p q, i pl, i ph, i dl, i dh, i u0, i u1, i wi, i day, .mp 5]), (4, .cells 200 [i c, i T, i lo, i hi, .x (.slice s3 a3 b3), .x (.slice s4 a4 b4), i pl, i ph, i dl, i dh, i u0, i u1, i wi, i day, .mp 5]), (5, .memo enH (enF c T lo hi n a b u v m p q pl ph dl dh u0 u1 wi day)), (6, .row 3 1 out.length (fun j => [i (nthJ out j)]))], nx := (E_tk c T lo hi n a b u v m p q pl ph dl dh u0 u1 wi day s1 a1 b1 s2 a2 b2 s3 a3 b3 s4 a4 b4 out s N).nx, sv := [[.ptr 0 0, .ptr 1 0, .ptr 2 0, .ptr 3 0, .row 6, .ptr 4 0, .mp 5]] }
 | _ => none
noncomputable def T_tk (c T lo hi : Int) (n : Nat) (a b u v : Nat → Int) (m : Nat) (p q : Nat → Int) (pl ph dl dh : Int) (u0 u1 wi day : Int) (s1 : Option Addr) (a1 b1 : Nat) (s2 : Option Addr) (a2 b2 : Nat) (s3 : Option Addr) (a3 b3 : Nat) (s4 : Option Addr) (a4 b4 : Nat) (out : List Int) (s : Nat) (N : Nat) : CT := .branch (lvF (enL c T lo hi n a b u v m p q pl ph dl dh u0 u1 wi day) n (N + 1) out s).isSome (.leaf (.ret, ( out_tk c T lo hi n a b u v m p q pl ph dl dh u0 u1 wi day s1 a1 b1 s2 a2 b2 s3 a3 b3 s4 a4 b4 out s N s .ret).getD (E_tk c T lo hi n a b u v m p q pl ph dl dh u0 u1 wi day s1 a1 b1 s2 a2 b2 s3 a3 b3 s4 a4 b4 out s N))) (.leaf (.exit 0, ( out_tk c T lo hi n a b u v m p q pl ph dl dh u0 u1 wi day s1 a1 b1 s2 a2 b2 s3 a3 b3 s4 a4 b4 out s N s (.exit 0)).getD (E_tk c T lo hi n a b u v m p q pl ph dl dh u0 u1 wi day s1 a1 b1 s2 a2 b2 s3 a3 b3 s4 a4 b4 out s N)))
noncomputable def LS_tk (c T lo hi : Int) (n : Nat) (a b u v : Nat → Int) (m : Nat) (p q : Nat → Int) (pl ph dl dh : Int) (u0 u1 wi day : Int) (s1 : Option Addr) (a1 b1 : Nat) (s2 : Option Addr) (a2 b2 : Nat) (s3 : Option Addr) (a3 b3 : Nat) (s4 : Option Addr) (a4 b4 : Nat) (out : List Int) (s : Nat) (N : Nat) : LSpec := normSp [(.cell 1 0, 900, 3, 1)] (sumL (inv_tk c T lo hi n a b u v m p q pl ph dl dh u0 u1 wi day s1 a1 b1 s2 a2 b2 s3 a3 b3 s4 a4 b4 out s N (s)) (T_tk c T lo hi n a b u v m p q pl ph dl dh u0 u1 wi day s1 a1 b1 s2 a2 b2 s3 a3 b3 s4 a4 b4 out s N))
theorem tk_ls (c T lo hi : Int) (n : Nat) (a b u v : Nat → Int) (m : Nat) (p q : Nat → Int) (pl ph dl dh : Int) (u0 u1 wi day : Int) (s1 : Option Addr) (a1 b1 : Nat) (s2 : Option Addr) (a2 b2 : Nat) (s3 : Option Addr) (a3 b3 : Nat) (s4 : Option Addr) (a4 b4 : Nat) (out : List Int) (s : Nat) (N : Nat) (pre0 : n ≤ 12) (pre1 : usB c u0 u1 wi = true) (pre2 : 0 ≤ day ∧ day ≤ 10000) (pre3 : out.length + (N + 1) ≤ 1000 ∧ s ≤ n) (pre4 : SoundHSpec Tryz.prog 95 (H_tk N)) : LSound Tryz.prog (.loop B_tk) (LS_tk c T lo hi n a b u v m p q pl ph dl dh u0 u1 wi day s1 a1 b1 s2 a2 b2 s3 a3 b3 s4 a4 b4 out s N) := by
 refine loop_roundsX [(.cell 1 0, 900, 3, 1)] (E := { R := [], H := [(95, (H_tk N))] }) (G := []) (L := []) (SoundG.nil _) (SoundX.of (SoundRL.nil _) (SoundHL.cons pre4 (SoundHL.nil _))) mixed noLoops (X := Nat) (inv_tk c T lo hi n a b u v m p q pl ph dl dh u0 u1 wi day s1 a1 b1 s2 a2 b2 s3 a3 b3 s4 a4 b4 out s N) (fun k => s ≤ k ∧ k ≤ n ∧ ∀ j, s ≤ j → j < k → lvF (enL c T lo hi n a b u v m p q pl ph dl dh u0 u1 wi day) n N (out ++ [(j : Int)]) (j + 1) = none) (fun k => n - k) (out_tk c T lo hi n a b u v m p q pl ph dl dh u0 u1 wi day s1 a1 b1 s2 a2 b2 s3 a3 b3 s4 a4 b4 out s N) (x0 := s) ⟨Nat.le_refl _, pre3.2, fun j h1 h2 => by omega⟩ ?_ ?_ ?_
 ·rintro k
  kernel_rfl
 ·rintro k y E h
  unfold out_tk at h
  split at h
  ·cases h; kernel_rfl
  ·cases h; kernel_rfl
  ·cases h
 ·rintro Q hQ k hx
  refine ⟨(k + 1), ?_⟩
  have e : roundX Tryz.prog [] { R := [], H := [(95, (H_tk N))] } [] [(.cell 1 0, 900, 3, 1)] B_tk (inv_tk c T lo hi n a b u v m p q pl ph dl dh u0 u1 wi day s1 a1 b1 s2 a2 b2 s3 a3 b3 s4 a4 b4 out s N k) (inv_tk c T lo hi n a b u v m p q pl ph dl dh u0 u1 wi day s1 a1 b1 s2 a2 b2 s3 a3 b3 s4 a4 b4 out s N ((k + 1))) (out_tk c T lo hi n a b u v m p q pl ph dl dh u0 u1 wi day s1 a1 b1 s2 a2 b2 s3 a3 b3 s4 a4 b4 out s N k) = (let z0 := enF c T lo hi n a b u v m p q pl ph dl dh u0 u1 wi day; let z1 := (enL c T lo hi n a b u v m p q pl ph dl dh u0 u1 wi day); let z2 := (AV.fn (Fn.func 95) [] [ptr 0 0, ptr 1 0, ptr 2 0, ptr 3 0]); let z3 := (lst 4 n (rq4 a b u v)); let z4 := (outL (List.length out + 1) (catF (List.length out) (fun j => [i (nthJ out j)]) (chunk 1 [iI (↑k : Int)]))); let z5 := (Int.toNat ((↑k : Int) + 1)); let z6 := (AV.x (Value.slice s1 a1 b1)); let z7 := (AV.x (Value.slice s2 a2 b2)); let z8 := (AV.x (Value.slice s3 a3 b3)); let z9 := (AV.x (Value.slice s4 a4 b4)); (branch (decide ((↑k : Int) < (↑n : Int))) (need [(List.length out + 1) * 8 ≤ 140737488355328, ∀ (i : Nat), i < 1 → ∀ (a : AV), a ∈ chunk 1 [iI (↑k : Int)] i → AV.one a = true] (need [(0 : Int) ≤ (↑k : Int) ∧ (↑k : Int) ≤ 64, inI64 ((1 : Int) * 2 ^ k)] (need [inI64 ((↑k : Int) + 1)] (need [inI64 ((↑(N + 1) : Int) - 1)] (need [isRec 4 n fun k => [Bo.i (a k), Bo.i (b k), Bo.i (u k), Bo.i (v k)], isRec 2 m fun k => [Pt.i (p k), Pt.i (q k)], isRec 1 (List.length out + 1) (catF (List.length out) (fun j => [i (nthJ out j)]) (chunk 1 [iI (↑k : Int)])), n ≤ 12, usB c u0 u1 wi = true, (0 : Int) ≤ day ∧ day ≤ (10000 : Int), enH = enH, Eq1 (z0), IntKind.wrap IntKind.i64 (↑(BitVec.toNat (BitVec.ofInt 64 (bitsL out) ||| BitVec.ofInt 64 ((1 : Int) * 2 ^ k))) : Int) = bitsL z4, (↑(N + 1) : Int) - 1 = (↑N : Int), (0 : Int) ≤ (↑k : Int) + 1 ∧ (↑k : Int) + 1 ≤ (↑n : Int), List.length out + 1 + N ≤ 1000, c = c, T = T, lo = lo, hi = hi, n = n, (fun k => [Bo.i (a k), Bo.i (b k), Bo.i (u k), Bo.i (v k)]) = fun k => [Bo.i (a k), Bo.i (b k), Bo.i (u k), Bo.i (v k)], m = m, (fun k => [Pt.i (p k), Pt.i (q k)]) = fun k => [Pt.i (p k), Pt.i (q k)], pl = pl, ph = ph, dl = dl, dh = dh, (3 : TypeId) = (3 : TypeId) ∧ 1 = 1 ∧ List.length out ≤ List.length out + 1 ∧ isRec 1 (List.length out) fun j => [i (nthJ out j)]] (branch (Option.isSome (lvF z1 n N z4 z5)) (need [Eq1 (AV.row 6), Eq1 (agg [iI (bitsL out)]), Eq1 (↑s : Int), Eq1 (↑(N + 1) : Int), Eq1 (ptr 0 0), Eq1 (ptr 1 0), Eq1 (ptr 2 0), Eq1 (ptr 3 0), Eq1 (ptr 7 0), Eq1 (AV.lit true), List.length (lvG z1 n N z4 z5) = List.length (lvG z1 n (N + 1) out s), ∀ (i : Nat), i < List.length (lvG z1 n (N + 1) out s) → [iI (nthJ (lvG z1 n N (outL (List.length out + 1) (catF (List.length out) (fun j => [iI (nthJ out j)]) (chunk 1 [iI (↑k : Int)]))) z5) i)] = [iI (nthJ (lvG z1 n (N + 1) out s) i)], Eq1 (bitsL out), Eq1 (ptr 4 0), Eq1 (AV.row 900), c = c, T = T, lo = lo, hi = hi, z3 = lst 4 n (rq4 a b u v), (lst 2 m fun k => [iI (p k), iI (q k)]) = lst 2 m fun k => [iI (p k), iI (q k)], pl = pl, ph = ph, dl = dl, dh = dh, c = c, T = T, lo = lo, hi = hi, Eq1 z6, Eq1 z7, pl = pl, ph = ph, dl = dl, dh = dh, Eq1 z2, c = c, T = T, lo = lo, hi = hi, z3 = lst 4 n (rq4 a b u v), (lst 2 m fun k => [iI (p k), iI (q k)]) = lst 2 m fun k => [iI (p k), iI (q k)], pl = pl, ph = ph, dl = dl, dh = dh, u0 = u0, u1 = u1, wi = wi, day = day, Eq1 (AV.mp 5), c = c, T = T, lo = lo, hi = hi, Eq1 z8, Eq1 z9, pl = pl, ph = ph, dl = dl, dh = dh, u0 = u0, u1 = u1, wi = wi, day = day, Eq1 (AV.mp 5), ∀ (k : Value), enH k → enH k ∧ z0 k = z0 k, Eq1 (List.length out), ∀ (i : Nat), i < List.length out → [iI (nthJ out i)] = [iI (nthJ out i)], Eq1 (ptr 0 0), Eq1 (ptr 1 0), Eq1 (ptr 2 0), Eq1 (ptr 3 0), Eq1 (AV.row 6), Eq1 (ptr 4 0), Eq1 (AV.mp 5)] (leaf AEx.ret)) (need [inI64 ((↑k : Int) + 1)] (need [Eq1 (AV.row 6), Eq1 (agg [iI (bitsL out)]), Eq1 (↑s : Int), Eq1 (↑(N + 1) : Int), Eq1 (ptr 0 0), Eq1 (ptr 1 0), Eq1 (ptr 2 0), Eq1 (ptr 3 0), Eq1 (ptr 7 0), Eq1 (AV.lit false), (↑k : Int) + 1 = (↑(k + 1) : Int), Eq1 (bitsL out), Eq1 (ptr 4 0), c = c, T = T, lo = lo, hi = hi, z3 = lst 4 n (rq4 a b u v), (lst 2 m fun k => [iI (p k), iI (q k)]) = lst 2 m fun k => [iI (p k), iI (q k)], pl = pl, ph = ph, dl = dl, dh = dh, c = c, T = T, lo = lo, hi = hi, Eq1 z6, Eq1 z7, pl = pl, ph = ph, dl = dl, dh = dh, Eq1 z2, c = c, T = T, lo = lo, hi = hi, z3 = lst 4 n (rq4 a b u v), (lst 2 m fun k => [iI (p k), iI (q k)]) = lst 2 m fun k => [iI (p k), iI (q k)], pl = pl, ph = ph, dl = dl, dh = dh, u0 = u0, u1 = u1, wi = wi, day = day, Eq1 (AV.mp 5), c = c, T = T, lo = lo, hi = hi, Eq1 z8, Eq1 z9, pl = pl, ph = ph, dl = dl, dh = dh, u0 = u0, u1 = u1, wi = wi, day = day, Eq1 (AV.mp 5), ∀ (k : Value), enH k → enH k ∧ z0 k = z0 k, Eq1 (List.length out), ∀ (i : Nat), i < List.length out → [iI (nthJ out i)] = [iI (nthJ out i)], Eq1 (ptr 0 0), Eq1 (ptr 1 0), Eq1 (ptr 2 0), Eq1 (ptr 3 0), Eq1 (AV.row 6), Eq1 (ptr 4 0), Eq1 (AV.mp 5)] (leaf AEx.normal))))))))) (need [Eq1 (AV.row 6), Eq1 (agg [iI (bitsL out)]), Eq1 (↑s : Int), Eq1 (↑(N + 1) : Int), Eq1 (ptr 0 0), Eq1 (ptr 1 0), Eq1 (ptr 2 0), Eq1 (ptr 3 0), Eq1 (ptr 7 0), Eq1 (AV.lit false), Eq1 (bitsL out), Eq1 (ptr 4 0), c = c, T = T, lo = lo, hi = hi, z3 = lst 4 n (rq4 a b u v), (lst 2 m fun k => [iI (p k), iI (q k)]) = lst 2 m fun k => [iI (p k), iI (q k)], pl = pl, ph = ph, dl = dl, dh = dh, c = c, T = T, lo = lo, hi = hi, Eq1 z6, Eq1 z7, pl = pl, ph = ph, dl = dl, dh = dh, Eq1 z2, c = c, T = T, lo = lo, hi = hi, z3 = lst 4 n (rq4 a b u v), (lst 2 m fun k => [iI (p k), iI (q k)]) = lst 2 m fun k => [iI (p k), iI (q k)], pl = pl, ph = ph, dl = dl, dh = dh, u0 = u0, u1 = u1, wi = wi, day = day, Eq1 (AV.mp 5), c = c, T = T, lo = lo, hi = hi, Eq1 z8, Eq1 z9, pl = pl, ph = ph, dl = dl, dh = dh, u0 = u0, u1 = u1, wi = wi, day = day, Eq1 (AV.mp 5), ∀ (k : Value), enH k → enH k ∧ z0 k = z0 k, Eq1 (List.length out), ∀ (i : Nat), i < List.length out → [iI (nthJ out i)] = [iI (nthJ out i)], Eq1 (ptr 0 0), Eq1 (ptr 1 0), Eq1 (ptr 2 0), Eq1 (ptr 3 0), Eq1 (AV.row 6), Eq1 (ptr 4 0), Eq1 (AV.mp 5)] (leaf (AEx.exit 0))))) := by kernel_rfl
  rw [e]
  simp only [T_tk, out_tk, Tree.sat, Option.getD_some] at hQ
  obtain ⟨x1, x2, x3⟩ := hx
  have e1 : ((k : Int) + 1).toNat = k + 1 := by omega
  have hdef : lvF (enL c T lo hi n a b u v m p q pl ph dl dh u0 u1 wi day) n (N + 1) out s = firstO (fun k => lvF (enL c T lo hi n a b u v m p q pl ph dl dh u0 u1 wi day) n N (out ++ [(k : Int)]) (k + 1)) s (n - s) := rfl
  have hgood : k < n → (lvF (enL c T lo hi n a b u v m p q pl ph dl dh u0 u1 wi day) n N (out ++ [(k : Int)]) (k + 1)).isSome = true → (lvF (enL c T lo hi n a b u v m p q pl ph dl dh u0 u1 wi day) n (N + 1) out s).isSome = true ∧ lvG (enL c T lo hi n a b u v m p q pl ph dl dh u0 u1 wi day) n N (out ++ [(k : Int)]) (k + 1) = lvG (enL c T lo hi n a b u v m p q pl ph dl dh u0 u1 wi day) n (N + 1) out s := by
   intro h1 h2
   obtain ⟨r, hr⟩ := Option.isSome_iff_exists.1 h2
   have h3 : lvF (enL c T lo hi n a b u v m p q pl ph dl dh u0 u1 wi day) n (N + 1) out s = some r := by
    rw [hdef]
    exact firstO_some (q := k) hr x1 (by omega) x3
   unfold lvG
   rw [h3, hr]
   exact ⟨rfl, rfl⟩
  have hnext : (lvF (enL c T lo hi n a b u v m p q pl ph dl dh u0 u1 wi day) n N (out ++ [(k : Int)]) (k + 1)).isSome = false → ∀ j, s ≤ j → j < k + 1 → lvF (enL c T lo hi n a b u v m p q pl ph dl dh u0 u1 wi day) n N (out ++ [(j : Int)]) (j + 1) = none := by
   intro h1 j h2 h3
   rcases (show j = k ∨ j < k by omega) with rfl | h4
   ·simpa using h1
   ·exact x3 j h2 h4
  have hend : ¬ k < n → (lvF (enL c T lo hi n a b u v m p q pl ph dl dh u0 u1 wi day) n (N + 1) out s).isSome = false := by
   intro h1
   rw [hdef, firstO_none.2 (fun j h2 h3 => x3 j h2 (by omega))]
   rfl
  have hc1 : ∀ x : Int, ∀ (j : Nat), j < 1 → ∀ y, y ∈ chunk 1 [iI x] j → AV.one y = true := fun x j _ y hy => one_of hy (by simp [AV.one, Value.oneCell'])
  have hbits : orI (bitsL out) (1 * 2 ^ k) = bitsL (out ++ [(k : Int)]) := (bits_app out k).symm
  simp only [Tree.sat, allP, fitP, fitL, valEq, inI64, true_and, and_true, decide_eq_true_eq, decide_eq_false_iff_not, Int.toNat_natCast, outL_app, e1]
  clear e
  refine ⟨fun h => ?_, fun h => ?_⟩
  ·have hk : k < n := by omega
   have hp := pow12 (k := k) (by omega)
   refine ⟨⟨by omega, hc1 _⟩, ⟨by omega, by omega⟩, ⟨by omega, by omega⟩, ⟨by omega, by omega⟩, ⟨Bo.isRec4 n a b u v, Pt.isRec2 m p q, rec_app out _, pre0, pre1, pre2, hbits, by omega, by omega, by omega, by omega, isRec1 _ _⟩, fun h2 => ?_, fun h2 => ?_⟩
   ·obtain ⟨g1, g2⟩ := hgood hk h2
    rw [g2]
    (repeat' first | with_reducible apply And.intro | with_reducible intro _)
    all_goals first | exact True.intro | omega | with_reducible rfl | (rename_i E hE; cases hE; exact hQ.1 g1) | assumption | rfl
   ·have g1 := hnext h2
    (repeat' first | with_reducible apply And.intro | with_reducible intro _)
    all_goals first | exact True.intro | omega | with_reducible rfl | exact g1 _ (by assumption) (by assumption) | assumption | rfl
  ·have g1 := hend (by omega)
   (repeat' first | with_reducible apply And.intro | with_reducible intro _)
   all_goals first | exact True.intro | omega | with_reducible rfl | (rename_i E hE; cases hE; exact hQ.2 g1) | assumption | rfl
theorem tk_succ (c T lo hi : Int) (n : Nat) (a b u v : Nat → Int) (m : Nat) (p q : Nat → Int) (pl ph dl dh : Int) (u0 u1 wi day : Int) (s1 : Option Addr) (a1 b1 : Nat) (s2 : Option Addr) (a2 b2 : Nat) (s3 : Option Addr) (a3 b3 : Nat) (s4 : Option Addr) (a4 b4 : Nat) (out : List Int) (s : Nat) (N : Nat) (pre0 : n ≤ 12) (pre1 : usB c u0 u1 wi = true) (pre2 : 0 ≤ day ∧ day ≤ 10000) (pre3 : out.length + (N + 1) ≤ 1000 ∧ s ≤ n) (pre4 : SoundHSpec Tryz.prog 95 (H_tk N)) : EndsTF Tryz.prog 95 [.row 6, .agg [i (bitsL out)], i s, i ((N + 1 : Nat) : Int), .ptr 0 0, .ptr 1 0, .ptr 2 0, .ptr 3 0] (TM c T lo hi n a b u v m p q pl ph dl dh u0 u1 wi day s1 a1 b1 s2 a2 b2 s3 a3 b3 s4 a4 b4 out) 7 [[.ptr 0 0, .ptr 1 0, .ptr 2 0, .ptr 3 0, .row 6, .ptr 4 0, .mp 5]] (TT_ c T lo hi n a b u v m p q pl ph dl dh u0 u1 wi day s1 a1 b1 s2 a2 b2 s3 a3 b3 s4 a4 b4 out (lvG (enL c T lo hi n a b u v m p q pl ph dl dh u0 u1 wi day) n (N + 1) out s)) (TF_ c T lo hi n a b u v m p q pl ph dl dh u0 u1 wi day s1 a1 b1 s2 a2 b2 s3 a3 b3 s4 a4 b4 out) (lvF (enL c T lo hi n a b u v m p q pl ph dl dh u0 u1 wi day) n (N + 1) out s).isSome := by
 refine inl_ends (G := []) (X := { R := [], H := [(94, (H_et c T lo hi n a b u v m p q pl ph dl dh u0 u1 wi day s1 a1 b1 s2 a2 b2 s3 a3 b3 s4 a4 b4 out s)), (96, H_clI), (95, (H_tk N))] }) (L := [LS_tk c T lo hi n a b u v m p q pl ph dl dh u0 u1 wi day s1 a1 b1 s2 a2 b2 s3 a3 b3 s4 a4 b4 out s N]) (SoundG.nil _) (SoundX.of (SoundRL.nil _) (SoundHL.cons (et_okH c T lo hi n a b u v m p q pl ph dl dh u0 u1 wi day s1 a1 b1 s2 a2 b2 s3 a3 b3 s4 a4 b4 out s) (SoundHL.cons clI_okH (SoundHL.cons pre4 (SoundHL.nil _))))) mixed ⟨_, Tryz.func95, by kernel_rfl, by kernel_rfl⟩ Tryz.func95 (show Tryz.f95.body = some (bodyOf Tryz.f95) by kernel_rfl) (one_loop (lpE (b := .loop B_tk) (by kernel_rfl) <| tk_ls c T lo hi n a b u v m p q pl ph dl dh u0 u1 wi day s1 a1 b1 s2 a2 b2 s3 a3 b3 s4 a4 b4 out s N pre0 pre1 pre2 pre3 pre4)) (N := [(.cell 1 0, 900, 3, 1)]) (t := (let z7 := (lst 4 n (rq4 a b u v)); let z8 := (AV.x (Value.slice s1 a1 b1)); let z9 := (AV.x (Value.slice s2 a2 b2)); let z6 := (AV.fn (Fn.func 95) [] [ptr 0 0, ptr 1 0, ptr 2 0, ptr 3 0]); let z10 := (AV.x (Value.slice s3 a3 b3)); let z11 := (AV.x (Value.slice s4 a4 b4)); let z2 := enF c T lo hi n a b u v m p q pl ph dl dh u0 u1 wi day; let z0 := (need [Eq1 (ptr 4 0), c = c, T = T, lo = lo, hi = hi, z7 = lst 4 n (rq4 a b u v), (lst 2 m fun k => [iI (p k), iI (q k)]) = lst 2 m fun k => [iI (p k), iI (q k)], pl = pl, ph = ph, dl = dl, dh = dh, c = c, T = T, lo = lo, hi = hi, Eq1 z8, Eq1 z9, pl = pl, ph = ph, dl = dl, dh = dh, Eq1 z6, c = c, T = T, lo = lo, hi = hi, z7 = lst 4 n (rq4 a b u v), (lst 2 m fun k => [iI (p k), iI (q k)]) = lst 2 m fun k => [iI (p k), iI (q k)], pl = pl, ph = ph, dl = dl, dh = dh, u0 = u0, u1 = u1, wi = wi, day = day, Eq1 (AV.mp 5), c = c, T = T, lo = lo, hi = hi, Eq1 z10, Eq1 z11, pl = pl, ph = ph, dl = dl, dh = dh, u0 = u0, u1 = u1, wi = wi, day = day, Eq1 (AV.mp 5), ∀ (k : Value), enH k → enH k ∧ z2 k = z2 k, Eq1 (List.length out), ∀ (i : Nat), i < List.length out → [iI (nthJ out i)] = [iI (nthJ out i)], Eq1 (ptr 0 0), Eq1 (ptr 1 0), Eq1 (ptr 2 0), Eq1 (ptr 3 0), Eq1 (AV.row 6), Eq1 (ptr 4 0), Eq1 (AV.mp 5)] (leaf false)); let z15 := (enL c T lo hi n a b u v m p q pl ph dl dh u0 u1 wi day); let z5 := (lvG z15 n (N + 1) out s); let z1 := (need [isRec 1 (List.length out) fun j => [i (nthJ out j)], List.length out ≤ 100000] (need [List.length out = List.length z5, ∀ (i : Nat), i < List.length z5 → [iI (nthJ out i)] = [iI (nthJ z5 i)], Eq1 (ptr 4 0), Eq1 (AV.row 900), c = c, T = T, lo = lo, hi = hi, z7 = lst 4 n (rq4 a b u v), (lst 2 m fun k => [iI (p k), iI (q k)]) = lst 2 m fun k => [iI (p k), iI (q k)], pl = pl, ph = ph, dl = dl, dh = dh, c = c, T = T, lo = lo, hi = hi, Eq1 z8, Eq1 z9, pl = pl, ph = ph, dl = dl, dh = dh, Eq1 z6, c = c, T = T, lo = lo, hi = hi, z7 = lst 4 n (rq4 a b u v), (lst 2 m fun k => [iI (p k), iI (q k)]) = lst 2 m fun k => [iI (p k), iI (q k)], pl = pl, ph = ph, dl = dl, dh = dh, u0 = u0, u1 = u1, wi = wi, day = day, Eq1 (AV.mp 5), c = c, T = T, lo = lo, hi = hi, Eq1 z10, Eq1 z11, pl = pl, ph = ph, dl = dl, dh = dh, u0 = u0, u1 = u1, wi = wi, day = day, Eq1 (AV.mp 5), ∀ (k : Value), enH k → enH k ∧ z2 k = z2 k, Eq1 (List.length out), ∀ (i : Nat), i < List.length out → [iI (nthJ out i)] = [iI (nthJ out i)], Eq1 (ptr 0 0), Eq1 (ptr 1 0), Eq1 (ptr 2 0), Eq1 (ptr 3 0), Eq1 (AV.row 6), Eq1 (ptr 4 0), Eq1 (AV.mp 5)] (leaf true))); let z13 := (List.length (selL (bitsL out) n)); let z16 := (sg a (selL (bitsL out) n)); let z17 := (sg b (selL (bitsL out) n)); let z18 := (sg u (selL (bitsL out) n)); let z19 := (sg v (selL (bitsL out) n)); let z3 := (wkA c T lo hi z13 z16 z17 z18 z19 m p q pl ph dl dh); let z4 := (Value.agg #[Value.int IntKind.i64 (bitsL out)]); let z12 := (need [MapKey Tryz.prog 198 enH z4 (Value.bool false), enH z4, Value.bool false = z2 z4] z0); let z14 := (agg [iI (bitsL out)]); let z20 := rdE c T lo hi z13 z16 z17 z18 z19 m p q pl ph dl dh; (branch ((↑(N + 1) : Int) == (0 : Int)) (need [MapKey Tryz.prog 198 enH z4 (Value.bool false)] (Tree.may (enH z4) (branch (enB c T lo hi n a b u v m p q pl ph dl dh u0 u1 wi day (keyI z4)) z1 z0) (need [n ≤ 12] (need [Eq1 (ptr 4 0), Eq1 z14, Eq1 (ptr 13 0), Eq1 (AV.lit false), false = false, Eq1 (AV.lit false), Eq1 (ptr 21 0), z7 = lst 4 n (rq4 a b u v), Eq1 (↑n : Int), (0 : Int) = (↑(0 : Nat) : Int), 0 = List.length (selL (bitsL out) 0), ∀ (i : Nat), i < List.length (selL (bitsL out) 0) → [] = [iI (sg a (selL (bitsL out) 0) i), iI (sg b (selL (bitsL out) 0) i), iI (sg u (selL (bitsL out) 0) i), iI (sg v (selL (bitsL out) 0) i)], c = c, T = T, lo = lo, hi = hi, Eq1 (AV.row 950), (lst 2 m fun k => [iI (p k), iI (q k)]) = lst 2 m fun k => [iI (p k), iI (q k)], pl = pl, ph = ph, dl = dl, dh = dh, Eq1 (bitsL out), Eq1 (bitsL out), Eq1 (ptr 4 0), c = c, T = T, lo = lo, hi = hi, z7 = lst 4 n (rq4 a b u v), (lst 2 m fun k => [iI (p k), iI (q k)]) = lst 2 m fun k => [iI (p k), iI (q k)], pl = pl, ph = ph, dl = dl, dh = dh, c = c, T = T, lo = lo, hi = hi, Eq1 z8, Eq1 z9, pl = pl, ph = ph, dl = dl, dh = dh, Eq1 z6, c = c, T = T, lo = lo, hi = hi, z7 = lst 4 n (rq4 a b u v), (lst 2 m fun k => [iI (p k), iI (q k)]) = lst 2 m fun k => [iI (p k), iI (q k)], pl = pl, ph = ph, dl = dl, dh = dh, u0 = u0, u1 = u1, wi = wi, day = day, Eq1 (AV.mp 5), c = c, T = T, lo = lo, hi = hi, Eq1 z10, Eq1 z11, pl = pl, ph = ph, dl = dl, dh = dh, u0 = u0, u1 = u1, wi = wi, day = day, Eq1 (AV.mp 5), ∀ (k : Value), enH k → enH k ∧ z2 k = z2 k, Eq1 (List.length out), ∀ (i : Nat), i < List.length out → [iI (nthJ out i)] = [iI (nthJ out i)], Eq1 (AV.row 6), Eq1 z14, Eq1 (↑s : Int), (↑(N + 1) : Int) = 0, Eq1 (ptr 0 0), Eq1 (ptr 1 0), Eq1 (ptr 2 0), Eq1 (ptr 3 0), Eq1 (ptr 7 0), Eq1 (AV.lit false), (↑(N + 1) : Int) = 0, Eq1 (AV.lit true), Eq1 (ptr 4 0), Eq1 z14, Eq1 (ptr 0 0), Eq1 (ptr 1 0), Eq1 (ptr 2 0), Eq1 (ptr 3 0), Eq1 (AV.row 6), Eq1 (ptr 4 0), Eq1 (AV.mp 5)] (need [isRec 4 z13 fun q => [i (sg a (selL (bitsL out) n) q), i (sg b (selL (bitsL out) n) q), i (sg u (selL (bitsL out) n) q), i (sg v (selL (bitsL out) n) q)], isRec 2 m fun k => [Pt.i (p k), Pt.i (q k)]] (branch (decide (z20 = (0 : Int))) (branch ((0 : Int) == (0 : Int)) (need [drB z3, bdB z3, (1 : Int) ≤ c ∧ c ≤ (10 : Int), (0 : Int) ≤ u0 ∧ u0 ≤ u1 ∧ u1 ≤ (10 : Int), (0 : Int) ≤ wi ∧ wi ≤ (1000000 : Int), (0 : Int) ≤ day ∧ day ≤ (100000 : Int)] (need [MapKey Tryz.prog 198 enH z4 (Value.bool false), enH z4, Value.bool (keB c z3 u0 u1 wi day) = z2 z4] (branch (keB c z3 u0 u1 wi day) z1 z0))) z12) (branch (z20 == (0 : Int)) Tree.fail z12))))))) (need [Eq1 (AV.row 6), Eq1 z14, Eq1 (↑s : Int), Eq1 (↑(N + 1) : Int), Eq1 (ptr 0 0), Eq1 (ptr 1 0), Eq1 (ptr 2 0), Eq1 (ptr 3 0), Eq1 (ptr 7 0), Eq1 (AV.lit false), Eq1 (↑s : Int), Eq1 (bitsL out), Eq1 (ptr 4 0), c = c, T = T, lo = lo, hi = hi, z7 = lst 4 n (rq4 a b u v), (lst 2 m fun k => [iI (p k), iI (q k)]) = lst 2 m fun k => [iI (p k), iI (q k)], pl = pl, ph = ph, dl = dl, dh = dh, c = c, T = T, lo = lo, hi = hi, Eq1 z8, Eq1 z9, pl = pl, ph = ph, dl = dl, dh = dh, Eq1 z6, c = c, T = T, lo = lo, hi = hi, z7 = lst 4 n (rq4 a b u v), (lst 2 m fun k => [iI (p k), iI (q k)]) = lst 2 m fun k => [iI (p k), iI (q k)], pl = pl, ph = ph, dl = dl, dh = dh, u0 = u0, u1 = u1, wi = wi, day = day, Eq1 (AV.mp 5), c = c, T = T, lo = lo, hi = hi, Eq1 z10, Eq1 z11, pl = pl, ph = ph, dl = dl, dh = dh, u0 = u0, u1 = u1, wi = wi, day = day, Eq1 (AV.mp 5), ∀ (k : Value), enH k → enH k ∧ z2 k = z2 k, Eq1 (List.length out), ∀ (i : Nat), i < List.length out → [iI (nthJ out i)] = [iI (nthJ out i)], Eq1 (ptr 0 0), Eq1 (ptr 1 0), Eq1 (ptr 2 0), Eq1 (ptr 3 0), Eq1 (AV.row 6), Eq1 (ptr 4 0), Eq1 (AV.mp 5)] (branch (Option.isSome (lvF z15 n (N + 1) out s)) (need [Eq1 (List.length z5), ∀ (i : Nat), i < List.length z5 → [iI (nthJ z5 i)] = [iI (nthJ z5 i)], Eq1 (ptr 4 0), Eq1 (AV.row 900), c = c, T = T, lo = lo, hi = hi, z7 = lst 4 n (rq4 a b u v), (lst 2 m fun k => [iI (p k), iI (q k)]) = lst 2 m fun k => [iI (p k), iI (q k)], pl = pl, ph = ph, dl = dl, dh = dh, c = c, T = T, lo = lo, hi = hi, Eq1 z8, Eq1 z9, pl = pl, ph = ph, dl = dl, dh = dh, Eq1 z6, c = c, T = T, lo = lo, hi = hi, z7 = lst 4 n (rq4 a b u v), (lst 2 m fun k => [iI (p k), iI (q k)]) = lst 2 m fun k => [iI (p k), iI (q k)], pl = pl, ph = ph, dl = dl, dh = dh, u0 = u0, u1 = u1, wi = wi, day = day, Eq1 (AV.mp 5), c = c, T = T, lo = lo, hi = hi, Eq1 z10, Eq1 z11, pl = pl, ph = ph, dl = dl, dh = dh, u0 = u0, u1 = u1, wi = wi, day = day, Eq1 (AV.mp 5), ∀ (k : Value), enH k → enH k ∧ z2 k = z2 k, Eq1 (List.length out), ∀ (i : Nat), i < List.length out → [iI (nthJ out i)] = [iI (nthJ out i)], Eq1 (ptr 0 0), Eq1 (ptr 1 0), Eq1 (ptr 2 0), Eq1 (ptr 3 0), Eq1 (AV.row 6), Eq1 (ptr 4 0), Eq1 (AV.mp 5)] (leaf true)) z0))))) (by kernel_rfl) (by kernel_rfl) rfl rfl (by kernel_rfl) ?_
 have hz : ¬ (((N + 1 : Nat) : Int) == 0) = true := by
  rw [beq_iff_eq]
  omega
 simp only [Tree.sat, allP, true_and, and_true]
 refine ⟨fun h => absurd h hz, fun _ => ?_⟩
 (repeat' first | with_reducible apply And.intro | with_reducible intro _)
 all_goals first | exact True.intro | omega | with_reducible rfl | (rename_i h; exact h.symm) | assumption | rfl | trace_state
end Go.Proofs.YtlinbkmpkcmniaaGreat
namespace Go.Proofs.YtlinbkmpkcmniaaGreat
open Go Go.Sx Go.RowKit Bo
open Go.Sx.Tree (need branch leaf)
open Go.Sx.AV (lst ptr agg roI tup top)
abbrev ptrV (b : Nat) : Value := .pointer (some ⟨b, 0, none⟩)
abbrev fnV (bt bf bx be : Nat) : Value := .func (.func 95) #[] #[ptrV bt, ptrV bf, ptrV bx, ptrV be]
def TkSmall (N : Nat) : Prop := ∀ (c T lo hi : Int) (n : Nat) (a b u v : Nat → Int) (m : Nat) (p q : Nat → Int) (pl ph dl dh : Int) (u0 u1 wi day : Int) (s1 : Option Addr) (a1 b1 : Nat) (s2 : Option Addr) (a2 b2 : Nat) (s3 : Option Addr) (a3 b3 : Nat) (s4 : Option Addr) (a4 b4 : Nat) (out : List Int) (s : Nat), n ≤ 12 → usB c u0 u1 wi = true → 0 ≤ day ∧ day ≤ 10000 → out.length + N ≤ 1000 → s ≤ n →
 EndsTF Tryz.prog 95 [.row 6, .agg [i (bitsL out)], i s, i (N : Int), .ptr 0 0, .ptr 1 0, .ptr 2 0, .ptr 3 0] (TM c T lo hi n a b u v m p q pl ph dl dh u0 u1 wi day s1 a1 b1 s2 a2 b2 s3 a3 b3 s4 a4 b4 out) 7 [[.ptr 0 0, .ptr 1 0, .ptr 2 0, .ptr 3 0, .row 6, .ptr 4 0, .mp 5]] (TT_ c T lo hi n a b u v m p q pl ph dl dh u0 u1 wi day s1 a1 b1 s2 a2 b2 s3 a3 b3 s4 a4 b4 out (lvG (enL c T lo hi n a b u v m p q pl ph dl dh u0 u1 wi day) n N out s)) (TF_ c T lo hi n a b u v m p q pl ph dl dh u0 u1 wi day s1 a1 b1 s2 a2 b2 s3 a3 b3 s4 a4 b4 out) (lvF (enL c T lo hi n a b u v m p q pl ph dl dh u0 u1 wi day) n N out s).isSome
theorem row_blk {w : World} {ov : Value} {n : Nat} {xs : List Value} (h : w.ownsRow 0 3 1 ov n xs) {b : Nat} (hb : ov.ownBlock = some b) : b < w.heap.size := (h.lt b hb).2
theorem lst_slice {e : Env} {w : World} {sz n : Nat} {f : Nat → List AV} {v : Value} (h : Rep e w (.lst sz n f) v) : ∃ a k c, v = .slice a k c := by
 cases h with
 | lstNil => exact ⟨_, _, _, rfl⟩
 | lst => exact ⟨_, _, _, rfl⟩
theorem scs_idf (m : Nat) (p q : Nat → Int) : Idf (Pt.scs m p q) := .lst 2 m _ fun i hi a ha => by
 simp only [List.mem_cons, List.not_mem_nil, or_false] at ha
 rcases ha with rfl | rfl <;> exact .x _
theorem rds_idf (n : Nat) (a b u v : Nat → Int) : Idf (rds n a b u v) := .lst 4 n _ fun i hi a ha => by
 simp only [List.mem_cons, List.not_mem_nil, or_false] at ha
 rcases ha with rfl | rfl | rfl | rfl <;> exact .x _
theorem tk_small {N : Nat} (hs : TkSmall N) {c T lo hi : Int} {n : Nat} {a b u v : Nat → Int} {m : Nat} {p q : Nat → Int} {pl ph dl dh u0 u1 wi day : Int} {out : List Int} {s : Nat} (g1 : n ≤ 12) (g2 : usB c u0 u1 wi = true) (g3 : 0 ≤ day ∧ day ≤ 10000) (h2 : out.length + N ≤ 1000) (h3 : s ≤ n) {w : World} {bt bf bx be br bm : Nat} {vl vt wl wt ov y : Value} {es : Array MapEntry} {cc : Nat} {R : Env}
  (ht : w.heap[bt]? = some (.cells #[ptrV br] 158 (0, 0))) (hf : w.heap[bf]? = some (.cells #[y] 64 (0, 0))) (hx : w.heap[bx]? = some (.cells #[.int .i64 c, .int .i64 T, .int .i64 lo, .int .i64 hi, vl, vt, .int .i64 pl, .int .i64 ph, .int .i64 dl, .int .i64 dh] 47 (0, 0))) (he : w.heap[be]? = some (.cells #[fnV bt bf bx be] 164 (0, 0))) (hr : w.heap[br]? = some (.cells #[.int .i64 c, .int .i64 T, .int .i64 lo, .int .i64 hi, wl, wt, .int .i64 pl, .int .i64 ph, .int .i64 dl, .int .i64 dh, .int .i64 u0, .int .i64 u1, .int .i64 wi, .int .i64 day, .map (some bm)] 200 (0, 0)))
  (hm : w.heap[bm]? = some (.map es cc)) (hes : ∀ x ∈ es.toList, enH x.key ∧ x.val = enF c T lo hi n a b u v m p q pl ph dl dh u0 u1 wi day x.key)
  (d01 : bt ≠ bf) (d02 : bt ≠ bx) (d03 : bt ≠ be) (d04 : bt ≠ br) (d05 : bt ≠ bm) (d12 : bf ≠ bx) (d13 : bf ≠ be) (d14 : bf ≠ br) (d15 : bf ≠ bm) (d23 : bx ≠ be) (d24 : bx ≠ br) (d25 : bx ≠ bm) (d34 : be ≠ br) (d35 : be ≠ bm) (d45 : br ≠ bm) (ho : w.ownsRow 0 3 1 ov out.length (out.map (Value.int .i64))) (hov : ∃ a n c, ov = .slice a n c) (hob : ∀ x, ov.ownBlock = some x → x ≠ bt ∧ x ≠ bf ∧ x ≠ bx ∧ x ≠ be ∧ x ≠ br ∧ x ≠ bm)
  (hRl : Rep R w (rds n a b u v) vl) (hRt : Rep R w (Pt.scs m p q) vt) (hSl : Rep R w (rds n a b u v) wl) (hSt : Rep R w (Pt.scs m p q) wt) (hro : ∀ x, R.ro x → x < w.heap.size ∧ (x ≠ bt ∧ x ≠ bf ∧ x ≠ bx ∧ x ≠ be ∧ x ≠ br ∧ x ≠ bm) ∧ ov.ownBlock ≠ some x) :
  Calls Tryz.prog 95 #[ov, .agg #[.int .i64 (bitsL out)], .int .i64 s, .int .i64 N, ptrV bt, ptrV bf, ptrV bx, ptrV be] w fun en w1 => en = .returned (.bool (lvF (enL c T lo hi n a b u v m p q pl ph dl dh u0 u1 wi day) n N out s).isSome) ∧ w.heap.size ≤ w1.heap.size ∧ w1.os = w.os ∧ w1.tape = w.tape ∧ w1.output = w.output ∧
   (∀ x, x < w.heap.size → x ≠ bf → x ≠ bm → ov.ownBlock ≠ some x → w1.heap[x]? = w.heap[x]?) ∧ w1.ownsRow 0 3 1 ov out.length (out.map (Value.int .i64)) ∧ (∃ (es' : Array MapEntry) (cc' : Nat), w1.heap[bm]? = some (.map es' cc') ∧ ∀ x ∈ es'.toList, enH x.key ∧ x.val = enF c T lo hi n a b u v m p q pl ph dl dh u0 u1 wi day x.key) ∧
   ∃ y', w1.heap[bf]? = some (.cells #[y'] 64 (0, 0)) ∧ ((lvF (enL c T lo hi n a b u v m p q pl ph dl dh u0 u1 wi day) n N out s).isSome = true → (∃ a n c, y' = .slice a n c) ∧ w1.ownsRow 0 3 1 y' (lvG (enL c T lo hi n a b u v m p q pl ph dl dh u0 u1 wi day) n N out s).length ((lvG (enL c T lo hi n a b u v m p q pl ph dl dh u0 u1 wi day) n N out s).map (Value.int .i64)) ∧ ∀ x, y'.ownBlock = some x → w.heap.size ≤ x) := by
 have hlb0 := (Array.getElem?_eq_some_iff.1 ht).1
 have hlb1 := (Array.getElem?_eq_some_iff.1 hf).1
 have hlb2 := (Array.getElem?_eq_some_iff.1 hx).1
 have hlb3 := (Array.getElem?_eq_some_iff.1 he).1
 have hlb4 := (Array.getElem?_eq_some_iff.1 hr).1
 have hlb5 := (Array.getElem?_eq_some_iff.1 hm).1
 obtain ⟨s1, a1, b1, e1⟩ : ∃ a k c, vl = .slice a k c := lst_slice hRl
 obtain ⟨s2, a2, b2, e2⟩ : ∃ a k c, vt = .slice a k c := lst_slice hRt
 obtain ⟨s3, a3, b3, e3⟩ : ∃ a k c, wl = .slice a k c := lst_slice hSl
 obtain ⟨s4, a4, b4, e4⟩ : ∃ a k c, wt = .slice a k c := lst_slice hSt
 obtain ⟨oa, on, oc, hov⟩ := hov
 let e0 : Env := { ro := fun x => x < w.heap.size ∧ (x ≠ bt ∧ x ≠ bf ∧ x ≠ bx ∧ x ≠ be ∧ x ≠ br ∧ x ≠ bm) ∧ ov.ownBlock ≠ some x, own := fun x => if x = bt then some 0 else if x = bf then some 1 else if x = bx then some 2 else if x = be then some 3 else if x = br then some 4 else if x = bm then some 5 else if ov.ownBlock = some x then some 6 else none, live := fun k => k < 7, blk := fun k => if k = 0 then bt else if k = 1 then bf else if k = 2 then bx else if k = 3 then be else if k = 4 then br else bm, val := fun _ => ov }
 let c0 : Cx := { M := fun _ => False, Φ := fun _ _ _ => True, K := fun x o => e0.ro x ∧ w.heap[x]? = some o, saved := [[ptrV bt, ptrV bf, ptrV bx, ptrV be, ov, ptrV br, .map (some bm)]], sz := w.heap.size }
 let w00 : World := { w with heap := #[] }
 have o0 : e0.own bt = some 0 := by simp [e0]
 have o1 : e0.own bf = some 1 := by simp [e0, Ne.symm d01]
 have o2 : e0.own bx = some 2 := by simp [e0, Ne.symm d02, Ne.symm d12]
 have o3 : e0.own be = some 3 := by simp [e0, Ne.symm d03, Ne.symm d13, Ne.symm d23]
 have o4 : e0.own br = some 4 := by simp [e0, Ne.symm d04, Ne.symm d14, Ne.symm d24, Ne.symm d34]
 have o5 : e0.own bm = some 5 := by simp [e0, Ne.symm d05, Ne.symm d15, Ne.symm d25, Ne.symm d35, Ne.symm d45]
 have o6 : ∀ x, ov.ownBlock = some x → e0.own x = some 6 := by
  intro x hx
  obtain ⟨q0, q1, q2, q3, q4, q5⟩ := hob x hx
  simp [e0, q0, q1, q2, q3, q4, q5, hx]
 have hE : EnvOk e0 w00.heap.size w := by
  refine ⟨fun x hx => ?_, fun x k hk => ⟨Nat.zero_le _, ?_⟩⟩
  ·obtain ⟨z0, ⟨q0, q1, q2, q3, q4, q5⟩, q6⟩ := hx
   exact ⟨by simp [e0, q0, q1, q2, q3, q4, q5, q6], z0⟩
  ·have hk : (if x = bt then some 0 else if x = bf then some 1 else if x = bx then some 2 else if x = be then some 3 else if x = br then some 4 else if x = bm then some 5 else if ov.ownBlock = some x then some 6 else none) = some k := hk
   split at hk
   ·rename_i h; rw [h]; exact hlb0
   split at hk
   ·rename_i h; rw [h]; exact hlb1
   split at hk
   ·rename_i h; rw [h]; exact hlb2
   split at hk
   ·rename_i h; rw [h]; exact hlb3
   split at hk
   ·rename_i h; rw [h]; exact hlb4
   split at hk
   ·rename_i h; rw [h]; exact hlb5
   split at hk
   ·rename_i h; exact row_blk ho h
   ·cases hk
 have p0 : Rep e0 w (.ptr 0 0) (ptrV bt) := .ptr 0 0 (show 0 < 7 by omega)
 have p1 : Rep e0 w (.ptr 1 0) (ptrV bf) := .ptr 1 0 (show 1 < 7 by omega)
 have p2 : Rep e0 w (.ptr 2 0) (ptrV bx) := .ptr 2 0 (show 2 < 7 by omega)
 have p3 : Rep e0 w (.ptr 3 0) (ptrV be) := .ptr 3 0 (show 3 < 7 by omega)
 have p4 : Rep e0 w (.ptr 4 0) (ptrV br) := .ptr 4 0 (show 4 < 7 by omega)
 have p5 : Rep e0 w (.mp 5) (.map (some bm)) := .mp 5 (show 5 < 7 by omega)
 have p6 : Rep e0 w (.row 6) ov := by
  rw [hov]
  exact .row 6 _ _ _ (show 6 < 7 by omega) hov
 have hcaps : RepL e0 w [.ptr 0 0, .ptr 1 0, .ptr 2 0, .ptr 3 0] [ptrV bt, ptrV bf, ptrV bx, ptrV be] := .cons p0 (.cons p1 (.cons p2 (.cons p3 (.nil _ _))))
 have hfn : Rep e0 w (.fn (.func 95) [] [.ptr 0 0, .ptr 1 0, .ptr 2 0, .ptr 3 0]) (fnV bt bf bx be) := .fn _ [] _ [] _ rfl (fun i a v h => by simp at h) hcaps.1 hcaps.2
 have rl : Rep e0 w (rds n a b u v) vl := Rep.idf (e := R) (e' := e0) (fun x hx => hro x hx) hRl (rds_idf _ _ _ _ _)
 have rt : Rep e0 w (Pt.scs m p q) vt := Rep.idf (e := R) (e' := e0) (fun x hx => hro x hx) hRt (scs_idf _ _ _)
 have sl : Rep e0 w (rds n a b u v) wl := Rep.idf (e := R) (e' := e0) (fun x hx => hro x hx) hSl (rds_idf _ _ _ _ _)
 have st : Rep e0 w (Pt.scs m p q) wt := Rep.idf (e := R) (e' := e0) (fun x hx => hro x hx) hSt (scs_idf _ _ _)
 have hM : MemOk e0 (TM c T lo hi n a b u v m p q pl ph dl dh u0 u1 wi day s1 a1 b1 s2 a2 b2 s3 a3 b3 s4 a4 b4 out) w := by
  intro pp hp
  unfold TM at hp
  simp only [List.mem_cons, List.not_mem_nil, or_false] at hp
  rcases hp with rfl | rfl | rfl | rfl | rfl | rfl | rfl | rfl | rfl
  ·exact ⟨show 0 < 7 by omega, o0, [ptrV br], ht, .cons p4 (.nil _ _)⟩
  ·exact ⟨show 1 < 7 by omega, o1, [y], hf, .cons (.top _) (.nil _ _)⟩
  ·exact ⟨show 2 < 7 by omega, o2, [.int .i64 c, .int .i64 T, .int .i64 lo, .int .i64 hi, vl, vt, .int .i64 pl, .int .i64 ph, .int .i64 dl, .int .i64 dh], hx, .cons (.x _) (.cons (.x _) (.cons (.x _) (.cons (.x _) (.cons rl (.cons rt (.cons (.x _) (.cons (.x _) (.cons (.x _) (.cons (.x _) (.nil _ _))))))))))⟩
  ·exact ⟨show 2 < 7 by omega, o2, [.int .i64 c, .int .i64 T, .int .i64 lo, .int .i64 hi, vl, vt, .int .i64 pl, .int .i64 ph, .int .i64 dl, .int .i64 dh], hx, .cons (.x _) (.cons (.x _) (.cons (.x _) (.cons (.x _) (.cons (by rw [e1]; exact .x _) (.cons (by rw [e2]; exact .x _) (.cons (.x _) (.cons (.x _) (.cons (.x _) (.cons (.x _) (.nil _ _))))))))))⟩
  ·exact ⟨show 3 < 7 by omega, o3, [fnV bt bf bx be], he, .cons hfn (.nil _ _)⟩
  ·exact ⟨show 4 < 7 by omega, o4, [.int .i64 c, .int .i64 T, .int .i64 lo, .int .i64 hi, wl, wt, .int .i64 pl, .int .i64 ph, .int .i64 dl, .int .i64 dh, .int .i64 u0, .int .i64 u1, .int .i64 wi, .int .i64 day, .map (some bm)], hr, .cons (.x _) (.cons (.x _) (.cons (.x _) (.cons (.x _) (.cons sl (.cons st (.cons (.x _) (.cons (.x _) (.cons (.x _) (.cons (.x _) (.cons (.x _) (.cons (.x _) (.cons (.x _) (.cons (.x _) (.cons p5 (.nil _ _)))))))))))))))⟩
  ·exact ⟨show 4 < 7 by omega, o4, [.int .i64 c, .int .i64 T, .int .i64 lo, .int .i64 hi, wl, wt, .int .i64 pl, .int .i64 ph, .int .i64 dl, .int .i64 dh, .int .i64 u0, .int .i64 u1, .int .i64 wi, .int .i64 day, .map (some bm)], hr, .cons (.x _) (.cons (.x _) (.cons (.x _) (.cons (.x _) (.cons (by rw [e3]; exact .x _) (.cons (by rw [e4]; exact .x _) (.cons (.x _) (.cons (.x _) (.cons (.x _) (.cons (.x _) (.cons (.x _) (.cons (.x _) (.cons (.x _) (.cons (.x _) (.cons p5 (.nil _ _)))))))))))))))⟩
  ·exact ⟨show 5 < 7 by omega, o5, es, cc, hm, hes⟩
  ·refine ⟨show 6 < 7 by omega, o6, fun i hi => ⟨rfl, fun a ha => by rw [List.mem_singleton.1 ha]; exact .x _⟩, _, ho, fun i j a v hi ha hv => ?_⟩
   cases j with
   | zero =>
    simp only [List.getElem?_cons_zero, Option.some.injEq] at ha
    subst ha
    rw [show i * 1 + 0 = i by omega, List.getElem?_map, nthJ_bang out i hi] at hv
    simp only [Option.map_some, Option.some.injEq] at hv
    rw [← hv]
    exact .x _
   | succ j => simp at ha
 have hX : Xt c0 e0 [[.ptr 0 0, .ptr 1 0, .ptr 2 0, .ptr 3 0, .row 6, .ptr 4 0, .mp 5]] [] w :=
  ⟨⟨fun d hd => (by cases hd), List.nodup_nil⟩, fun x o hk => ⟨hk.1, hk.1.1, hk.2⟩, RepLL.cons (.cons p0 (.cons p1 (.cons p2 (.cons p3 (.cons p6 (.cons p4 (.cons p5 (.nil _ _)))))))) ⟨rfl, fun i a v h => by simp at h⟩, Nat.le_refl _⟩
 have hag : Rep e0 w (.agg [i (bitsL out)]) (.agg #[.int .i64 (bitsL out)]) := Rep.aggL (RepL.one (.x _))
 have hA : RepL e0 w [.row 6, .agg [i (bitsL out)], i s, i (N : Int), .ptr 0 0, .ptr 1 0, .ptr 2 0, .ptr 3 0] [ov, .agg #[.int .i64 (bitsL out)], .int .i64 s, .int .i64 N, ptrV bt, ptrV bf, ptrV bx, ptrV be] := .cons p6 (.cons hag (.cons (.x _) (.cons (.x _) hcaps)))
 have hcall := hs c T lo hi n a b u v m p q pl ph dl dh u0 u1 wi day s1 a1 b1 s2 a2 b2 s3 a3 b3 s4 a4 b4 out s g1 g2 g3 h2 h3 c0 w00 (fun _ => False) e0 [] [ov, .agg #[.int .i64 (bitsL out)], .int .i64 s, .int .i64 N, ptrV bt, ptrV bf, ptrV bx, ptrV be] w hE ⟨rfl, rfl, rfl, Nat.zero_le _, fun k hk => absurd hk (Nat.not_lt_zero _)⟩ hM (fun k hk => hk) (fun _ h => h.elim) hX hA
 refine hcall.mono ?_
 rintro en w1 ⟨hen, e1', f1, f2, f3, f4, _, f6⟩
 have hsv : (cond (lvF (enL c T lo hi n a b u v m p q pl ph dl dh u0 u1 wi day) n N out s).isSome (TT_ c T lo hi n a b u v m p q pl ph dl dh u0 u1 wi day s1 a1 b1 s2 a2 b2 s3 a3 b3 s4 a4 b4 out (lvG (enL c T lo hi n a b u v m p q pl ph dl dh u0 u1 wi day) n N out s)) (TF_ c T lo hi n a b u v m p q pl ph dl dh u0 u1 wi day s1 a1 b1 s2 a2 b2 s3 a3 b3 s4 a4 b4 out)).sv = [[.ptr 0 0, .ptr 1 0, .ptr 2 0, .ptr 3 0, .row 6, .ptr 4 0, .mp 5]] := by
  cases (lvF (enL c T lo hi n a b u v m p q pl ph dl dh u0 u1 wi day) n N out s).isSome <;> rfl
 have hsd := f6.saved
 rw [hsv] at hsd
 have hs1 := hsd.2 0 _ _ rfl rfl
 obtain ⟨v0, l0, qq, r0, hs1⟩ := hs1.cons_inv
 obtain ⟨rfl, rfl⟩ := List.cons.inj qq
 obtain ⟨v1, l1, qq, r1, hs1⟩ := hs1.cons_inv
 obtain ⟨rfl, rfl⟩ := List.cons.inj qq
 obtain ⟨v2, l2, qq, r2, hs1⟩ := hs1.cons_inv
 obtain ⟨rfl, rfl⟩ := List.cons.inj qq
 obtain ⟨v3, l3, qq, r3, hs1⟩ := hs1.cons_inv
 obtain ⟨rfl, rfl⟩ := List.cons.inj qq
 obtain ⟨v4, l4, qq, r4, hs1⟩ := hs1.cons_inv
 obtain ⟨rfl, rfl⟩ := List.cons.inj qq
 obtain ⟨v5, l5, qq, r5, hs1⟩ := hs1.cons_inv
 obtain ⟨rfl, rfl⟩ := List.cons.inj qq
 obtain ⟨v6, l6, qq, r6, hs1⟩ := hs1.cons_inv
 obtain ⟨rfl, rfl⟩ := List.cons.inj qq
 have ptr_inv : ∀ {k x : Nat}, Rep e1' w1 (.ptr k 0) (ptrV x) → e1'.blk k = x := by
  intro k x h
  cases h
  rfl
 have b0 := ptr_inv r0
 have b1' := ptr_inv r1
 have b2' := ptr_inv r2
 have b3' := ptr_inv r3
 have b4' := ptr_inv r5
 have b5' : e1'.blk 5 = bm := by
  cases r6
  rfl
 have b6' : e1'.val 6 = ov := by
  generalize ov = z at r4
  cases r4 with
  | row _ a n c _ hv => exact hv
 have z : ∀ {k : Nat} {x : Value}, Rep e1' w1 (.ptr k 0) x → x = ptrV (e1'.blk k) := by
  intro k x h
  cases h
  rfl
 have zm : ∀ {k : Nat} {x : Value}, Rep e1' w1 (.mp k) x → x = .map (some (e1'.blk k)) := by
  intro k x h
  cases h
  rfl
 have hmem : ∀ pp : Nat × Res, (pp ∈ (TT_ c T lo hi n a b u v m p q pl ph dl dh u0 u1 wi day s1 a1 b1 s2 a2 b2 s3 a3 b3 s4 a4 b4 out (lvG (enL c T lo hi n a b u v m p q pl ph dl dh u0 u1 wi day) n N out s)).m ∧ pp ∈ (TF_ c T lo hi n a b u v m p q pl ph dl dh u0 u1 wi day s1 a1 b1 s2 a2 b2 s3 a3 b3 s4 a4 b4 out).m) → Holds e1' w1 pp.1 pp.2 := by
  intro pp hp
  refine f3 pp ?_
  cases (lvF (enL c T lo hi n a b u v m p q pl ph dl dh u0 u1 wi day) n N out s).isSome
  ·exact hp.2
  ·exact hp.1
 have k0 := hmem (0, .cells 158 [.ptr 4 0]) ⟨by simp [TT_], by simp [TF_]⟩
 have k2 := hmem (2, .cells 47 [i c, i T, i lo, i hi, .x (.slice s1 a1 b1), .x (.slice s2 a2 b2), i pl, i ph, i dl, i dh]) ⟨by simp [TT_], by simp [TF_]⟩
 have k3 := hmem (3, .cells 164 [.fn (.func 95) [] [.ptr 0 0, .ptr 1 0, .ptr 2 0, .ptr 3 0]]) ⟨by simp [TT_], by simp [TF_]⟩
 have k4 := hmem (4, .cells 200 [i c, i T, i lo, i hi, .x (.slice s3 a3 b3), .x (.slice s4 a4 b4), i pl, i ph, i dl, i dh, i u0, i u1, i wi, i day, .mp 5]) ⟨by simp [TT_], by simp [TF_]⟩
 have k5 := hmem (5, .memo enH (enF c T lo hi n a b u v m p q pl ph dl dh u0 u1 wi day)) ⟨by simp [TT_], by simp [TF_]⟩
 have k6 := hmem (6, .row 3 1 out.length (fun j => [i (nthJ out j)])) ⟨by simp [TT_], by simp [TF_]⟩
 have m0 : w1.heap[bt]? = w.heap[bt]? := by
  obtain ⟨_, _, vs, q1, q2⟩ := k0
  obtain ⟨x, xs, rfl, q3, q4⟩ := q2.cons_inv
  obtain rfl := q4.nil_inv
  rw [b0] at q1
  rw [q1, ht, z q3, b4']
 have m2 : w1.heap[bx]? = w.heap[bx]? := by
  obtain ⟨_, _, vs, q1, q2⟩ := k2
  obtain ⟨x1, xs, rfl, t1, q2⟩ := q2.cons_inv
  obtain ⟨x2, xs, rfl, t2, q2⟩ := q2.cons_inv
  obtain ⟨x3, xs, rfl, t3, q2⟩ := q2.cons_inv
  obtain ⟨x4, xs, rfl, t4, q2⟩ := q2.cons_inv
  obtain ⟨x5, xs, rfl, t5, q2⟩ := q2.cons_inv
  obtain ⟨x6, xs, rfl, t6, q2⟩ := q2.cons_inv
  obtain ⟨x7, xs, rfl, t7, q2⟩ := q2.cons_inv
  obtain ⟨x8, xs, rfl, t8, q2⟩ := q2.cons_inv
  obtain ⟨x9, xs, rfl, t9, q2⟩ := q2.cons_inv
  obtain ⟨x10, xs, rfl, t10, q2⟩ := q2.cons_inv
  obtain rfl := q2.nil_inv
  rw [b2'] at q1
  rw [q1, hx, t1.x_inv, t2.x_inv, t3.x_inv, t4.x_inv, t5.x_inv, t6.x_inv, t7.x_inv, t8.x_inv, t9.x_inv, t10.x_inv, e1, e2]
 have m3 : w1.heap[be]? = w.heap[be]? := by
  obtain ⟨_, _, vs, q1, q2⟩ := k3
  obtain ⟨x, xs, rfl, t1, q2⟩ := q2.cons_inv
  obtain rfl := q2.nil_inv
  obtain ⟨us, us', rfl, t2, t3⟩ := t1.fn_inv
  obtain rfl := t2.nil_inv
  obtain ⟨x1, xs, rfl, s1, t3⟩ := t3.cons_inv
  obtain ⟨x2, xs, rfl, s2, t3⟩ := t3.cons_inv
  obtain ⟨x3, xs, rfl, s3, t3⟩ := t3.cons_inv
  obtain ⟨x4, xs, rfl, s4, t3⟩ := t3.cons_inv
  obtain rfl := t3.nil_inv
  rw [b3'] at q1
  rw [q1, he, z s1, z s2, z s3, z s4, b0, b1', b2', b3']
 have m4 : w1.heap[br]? = w.heap[br]? := by
  obtain ⟨_, _, vs, q1, q2⟩ := k4
  obtain ⟨x1, xs, rfl, t1, q2⟩ := q2.cons_inv
  obtain ⟨x2, xs, rfl, t2, q2⟩ := q2.cons_inv
  obtain ⟨x3, xs, rfl, t3, q2⟩ := q2.cons_inv
  obtain ⟨x4, xs, rfl, t4, q2⟩ := q2.cons_inv
  obtain ⟨x5, xs, rfl, t5, q2⟩ := q2.cons_inv
  obtain ⟨x6, xs, rfl, t6, q2⟩ := q2.cons_inv
  obtain ⟨x7, xs, rfl, t7, q2⟩ := q2.cons_inv
  obtain ⟨x8, xs, rfl, t8, q2⟩ := q2.cons_inv
  obtain ⟨x9, xs, rfl, t9, q2⟩ := q2.cons_inv
  obtain ⟨x10, xs, rfl, t10, q2⟩ := q2.cons_inv
  obtain ⟨x11, xs, rfl, t11, q2⟩ := q2.cons_inv
  obtain ⟨x12, xs, rfl, t12, q2⟩ := q2.cons_inv
  obtain ⟨x13, xs, rfl, t13, q2⟩ := q2.cons_inv
  obtain ⟨x14, xs, rfl, t14, q2⟩ := q2.cons_inv
  obtain ⟨x15, xs, rfl, t15, q2⟩ := q2.cons_inv
  obtain rfl := q2.nil_inv
  rw [b4'] at q1
  rw [q1, hr, t1.x_inv, t2.x_inv, t3.x_inv, t4.x_inv, t5.x_inv, t6.x_inv, t7.x_inv, t8.x_inv, t9.x_inv, t10.x_inv, t11.x_inv, t12.x_inv, t13.x_inv, t14.x_inv, zm t15, b5', e3, e4]
 have hsame : ∀ x, x < w.heap.size → x ≠ bf → x ≠ bm → ov.ownBlock ≠ some x → w1.heap[x]? = w.heap[x]? := by
  intro x hx hxf hxm hxo
  rcases Classical.em (x = bt) with rfl | n0
  ·exact m0
  rcases Classical.em (x = bx) with rfl | n1
  ·exact m2
  rcases Classical.em (x = be) with rfl | n3
  ·exact m3
  rcases Classical.em (x = br) with rfl | n4
  ·exact m4
  have hk := f6.kept x w.heap[x] ⟨⟨hx, ⟨n0, hxf, n1, n3, n4, hxm⟩, hxo⟩, by simp [hx]⟩
  rw [hk.2.2]
  simp [hx]
 have ho1 : w1.ownsRow 0 3 1 ov out.length (out.map (Value.int .i64)) := by
  have := row_ex2 k6 (isRec1 _ _)
  rw [b6', outL_list rfl (fun j _ => rfl)] at this
  exact this
 have hmm : ∃ (es' : Array MapEntry) (cc' : Nat), w1.heap[bm]? = some (.map es' cc') ∧ ∀ x ∈ es'.toList, enH x.key ∧ x.val = enF c T lo hi n a b u v m p q pl ph dl dh u0 u1 wi day x.key := by
  obtain ⟨_, _, es', cc', q1, q2⟩ := k5
  rw [b5'] at q1
  exact ⟨es', cc', q1, q2⟩
 have hsz : w.heap.size ≤ w1.heap.size := f6.size
 refine ⟨hen, hsz, f2.os, f2.tape, f2.output, hsame, ho1, hmm, ?_⟩
 cases hb : (lvF (enL c T lo hi n a b u v m p q pl ph dl dh u0 u1 wi day) n N out s).isSome with
 | false =>
  rw [hb] at f3
  have k1 := f3 (1, .cells 64 [.top]) (by simp [TF_])
  obtain ⟨_, _, vs, q1, q2⟩ := k1
  obtain ⟨x, xs, rfl, _, q2⟩ := q2.cons_inv
  obtain rfl := q2.nil_inv
  rw [b1'] at q1
  exact ⟨x, q1, fun h => by cases h⟩
 | true =>
  rw [hb] at f3
  have k1 := f3 (1, .cells 64 [.row 900]) (by simp [TT_])
  have k9 := f3 (900, .row 3 1 (lvG (enL c T lo hi n a b u v m p q pl ph dl dh u0 u1 wi day) n N out s).length (fun j => [i (nthJ (lvG (enL c T lo hi n a b u v m p q pl ph dl dh u0 u1 wi day) n N out s) j)])) (by simp [TT_])
  have own1 := k1.2.1
  obtain ⟨_, _, vs, q1, q2⟩ := k1
  obtain ⟨x, xs, rfl, t1, q2⟩ := q2.cons_inv
  obtain rfl := q2.nil_inv
  rw [b1'] at q1
  have hx : (∃ a n c, x = .slice a n c) ∧ e1'.val 900 = x := by
   cases t1 with
   | row _ a n c _ hv => exact ⟨⟨a, n, c, rfl⟩, hv⟩
  have h9 := row_ex2 k9 (isRec1 _ _)
  rw [hx.2, outL_list rfl (fun j _ => rfl)] at h9
  refine ⟨x, q1, fun _ => ⟨hx.1, h9, fun y hy => ?_⟩⟩
  rcases Nat.lt_or_ge y w.heap.size with hlt | hge
  ·exfalso
   have hoz : e1'.own y = some 900 := k9.2.1 y (by show (e1'.val 900).ownBlock = some y; rw [hx.2]; exact hy)
   rcases Classical.em (y = bt) with rfl | n0
   ·have := k0.2.1
    rw [b0] at this
    rw [this] at hoz; cases hoz
   rcases Classical.em (y = bf) with rfl | n1
   ·rw [b1'] at own1
    rw [own1] at hoz; cases hoz
   rcases Classical.em (y = bx) with rfl | n2
   ·have := k2.2.1
    rw [b2'] at this
    rw [this] at hoz; cases hoz
   rcases Classical.em (y = be) with rfl | n3
   ·have := k3.2.1
    rw [b3'] at this
    rw [this] at hoz; cases hoz
   rcases Classical.em (y = br) with rfl | n4
   ·have := k4.2.1
    rw [b4'] at this
    rw [this] at hoz; cases hoz
   rcases Classical.em (y = bm) with rfl | n5
   ·have := k5.2.1
    rw [b5'] at this
    rw [this] at hoz; cases hoz
   rcases Classical.em (ov.ownBlock = some y) with n6 | n6
   ·have := k6.2.1 y (by show (e1'.val 6).ownBlock = some y; rw [b6']; exact n6)
    rw [this] at hoz; cases hoz
   have hk := f6.kept y w.heap[y] ⟨⟨hlt, ⟨n0, n1, n2, n3, n4, n5⟩, n6⟩, by simp [hlt]⟩
   rw [(f1.apart y hk.1).1] at hoz
   cases hoz
  ·exact hge
end Go.Proofs.YtlinbkmpkcmniaaGreat
namespace Go.Proofs.YtlinbkmpkcmniaaGreat
open Go Go.Sx Go.RowKit Bo
open Go.Sx.Tree (need branch leaf)
open Go.Sx.AV (lst ptr agg roI tup top)
theorem distB_cons {x : Nat} {l : List Nat} : distB (x :: l) = true ↔ (∀ y ∈ l, x ≠ y) ∧ distB l = true := by
 show (match l.all (fun y => !Nat.beq x y) with | true => distB l | false => false) = true ↔ _
 cases h : l.all (fun y => !Nat.beq x y) with
 | true => exact ⟨fun h2 => ⟨fun y hy => nbeq_ne (List.all_eq_true.1 h y hy), h2⟩, fun h2 => h2.2⟩
 | false =>
  refine ⟨fun h2 => (by cases h2), fun h2 => ?_⟩
  exfalso
  have : l.all (fun y => !Nat.beq x y) = true := List.all_eq_true.2 fun y hy => by
   cases hb : Nat.beq x y with
   | true => exact absurd (Nat.eq_of_beq_eq_true hb) (h2.1 y hy)
   | false => rfl
  rw [h] at this
  cases this
theorem tk_frame {N : Nat} (hs : TkSmall N) : SoundHSpec Tryz.prog 95 (H_tk N) := by
 refine ⟨⟨_, Tryz.func95, by kernel_rfl, by kernel_rfl⟩, ?_⟩
 intro avs mem nx sv tree ht Q hQ cx w0 TT e ds args w hE hB hm hlv hfoe hxt hr
 unfold H_tk at ht
 split at ht
 ·rename_i o sb s M t z1 fo z2 x z3 le z4
  split at ht
  ·rename_i Tt tr z5 Tf xf Tx c T lo hi sl n fr sm m ft pl ph dl dh Te fg t' y1 fo' y2 x' y3 le' y4 ids k g h1 h2 h3 h4 h5
   split at ht
   ·rename_i Tr c2 T2 lo2 hi2 sl2 n2 fr2 sm2 m2 ft2 pl2 ph2 dl2 dh2 u0 u1 wi day mp h6
    split at ht
    ·rename_i eh F h7
     split at ht
     ·rename_i hb
      rw [Bool.and_eq_true] at hb
      obtain ⟨hb1, hb2⟩ := hb
      simp only [numsB_cons] at hb1
      obtain ⟨rfl, rfl, rfl, rfl, rfl, rfl, rfl, rfl, rfl, rfl, rfl, rfl, rfl, rfl, rfl, rfl, rfl, rfl, rfl, rfl, rfl, rfl, rfl, _⟩ := hb1
      simp only [distB_cons, List.mem_cons, List.not_mem_nil, or_false, forall_eq_or_imp, forall_eq] at hb2
      obtain ⟨⟨d01, d02, d03, d04, d05⟩, ⟨d12, d13, d14, d15⟩, ⟨d23, d24, d25⟩, ⟨d34, d35⟩, d45, _⟩ := hb2
      cases ht
      obtain ⟨hn, hq⟩ := Tree.sat_needT hQ
      have hn := allP_mem hn
      have n1 : isRec 4 n fr := hn _ (List.mem_append_left _ (by simp))
      have n2' : isRec 2 m ft := hn _ (List.mem_append_left _ (by simp))
      have n3 : isRec 1 k g := hn _ (List.mem_append_left _ (by simp))
      have n4 : n ≤ 12 := hn _ (List.mem_append_left _ (by simp))
      have n5 : usB c u0 u1 wi = true := hn _ (List.mem_append_left _ (by simp))
      have n6 : 0 ≤ day ∧ day ≤ 10000 := hn _ (List.mem_append_left _ (by simp))
      have n7 : eh = enH := hn _ (List.mem_append_left _ (by simp))
      have n8 : F = enF c T lo hi n (col 0 fr) (col 1 fr) (col 2 fr) (col 3 fr) m (Pt.col 0 ft) (Pt.col 1 ft) pl ph dl dh u0 u1 wi day := hn _ (List.mem_append_left _ (by simp))
      have n9 : sb = bitsL (outL k g) := hn _ (List.mem_append_left _ (by simp))
      have n10 : M = (N : Int) := hn _ (List.mem_append_left _ (by simp))
      have n11 : 0 ≤ s ∧ s ≤ n := hn _ (List.mem_append_left _ (by simp))
      have n12 : k + N ≤ 1000 := hn _ (List.mem_append_left _ (by simp))
      obtain rfl : c = c2 := (show c2 = c from hn _ (List.mem_append_left _ (by simp))).symm
      obtain rfl : T = T2 := (show T2 = T from hn _ (List.mem_append_left _ (by simp))).symm
      obtain rfl : lo = lo2 := (show lo2 = lo from hn _ (List.mem_append_left _ (by simp))).symm
      obtain rfl : hi = hi2 := (show hi2 = hi from hn _ (List.mem_append_left _ (by simp))).symm
      obtain rfl : n = n2 := (show n2 = n from hn _ (List.mem_append_left _ (by simp))).symm
      obtain rfl : fr = fr2 := (show fr2 = fr from hn _ (List.mem_append_left _ (by simp))).symm
      obtain rfl : m = m2 := (show m2 = m from hn _ (List.mem_append_left _ (by simp))).symm
      obtain rfl : ft = ft2 := (show ft2 = ft from hn _ (List.mem_append_left _ (by simp))).symm
      obtain rfl : pl = pl2 := (show pl2 = pl from hn _ (List.mem_append_left _ (by simp))).symm
      obtain rfl : ph = ph2 := (show ph2 = ph from hn _ (List.mem_append_left _ (by simp))).symm
      obtain rfl : dl = dl2 := (show dl2 = dl from hn _ (List.mem_append_left _ (by simp))).symm
      obtain rfl : dh = dh2 := (show dh2 = dh from hn _ (List.mem_append_left _ (by simp))).symm
      have hkeep := keepN_spec (fun p hp => hn p (List.mem_append_right _ hp))
      clear hn hQ
      subst n10
      subst n9
      subst n8
      subst n7
      obtain ⟨s, rfl⟩ : ∃ s' : Nat, s = s' := ⟨s.toNat, by omega⟩
      simp only [Int.toNat_natCast] at hq
      obtain ⟨ov, l1, rfl, r1, hr⟩ := hr.cons_inv
      obtain ⟨v2, l2, rfl, r2, hr⟩ := hr.cons_inv
      obtain ⟨v3, l3, rfl, r3, hr⟩ := hr.cons_inv
      obtain ⟨v4, l4, rfl, r4, hr⟩ := hr.cons_inv
      obtain ⟨v5, l5, rfl, r5, hr⟩ := hr.cons_inv
      obtain ⟨v6, l6, rfl, r6, hr⟩ := hr.cons_inv
      obtain ⟨v7, l7, rfl, r7, hr⟩ := hr.cons_inv
      obtain ⟨v8, l8, rfl, r8, hr⟩ := hr.cons_inv
      obtain rfl := hr.nil_inv
      have z : ∀ {k : Nat} {x : Value}, Rep e w (.ptr k 0) x → x = ptrV (e.blk k) := by
       intro k x h
       cases h
       rfl
      have zm : ∀ {k : Nat} {x : Value}, Rep e w (.mp k) x → x = .map (some (e.blk k)) := by
       intro k x h
       cases h
       rfl
      obtain ⟨va, rfl, ra⟩ := r2.agg_inv
      obtain ⟨xa, xsa, rfl, ta, ra⟩ := ra.cons_inv
      obtain rfl := ra.nil_inv
      obtain rfl := ta.x_inv
      obtain rfl := r3.x_inv
      obtain rfl := r4.x_inv
      obtain rfl := z r5
      obtain rfl := z r6
      obtain rfl := z r7
      obtain rfl := z r8
      have m1 := getM_mem h1
      have m2 := getM_mem h2
      have m3 := getM_mem h3
      have m4 := getM_mem h4
      have m6 := getM_mem h6
      have m7 := getM_mem h7
      obtain ⟨_, ownt, vs1, hp1, q1⟩ := hm _ m1
      obtain ⟨vt0, xs1, rfl, rt0, q1⟩ := q1.cons_inv
      obtain rfl := q1.nil_inv
      obtain rfl := z rt0
      obtain ⟨livefo, ownfo, vs3, hp2, q2⟩ := hm _ m2
      obtain ⟨y, xs3, rfl, _, q2⟩ := q2.cons_inv
      obtain rfl := q2.nil_inv
      obtain ⟨_, ownx, vsx, hp3, q3⟩ := hm _ m3
      obtain ⟨x_1, xs, rfl, tx1, q3⟩ := q3.cons_inv
      obtain ⟨x_2, xs, rfl, tx2, q3⟩ := q3.cons_inv
      obtain ⟨x_3, xs, rfl, tx3, q3⟩ := q3.cons_inv
      obtain ⟨x_4, xs, rfl, tx4, q3⟩ := q3.cons_inv
      obtain ⟨x_5, xs, rfl, tx5, q3⟩ := q3.cons_inv
      obtain ⟨x_6, xs, rfl, tx6, q3⟩ := q3.cons_inv
      obtain ⟨x_7, xs, rfl, tx7, q3⟩ := q3.cons_inv
      obtain ⟨x_8, xs, rfl, tx8, q3⟩ := q3.cons_inv
      obtain ⟨x_9, xs, rfl, tx9, q3⟩ := q3.cons_inv
      obtain ⟨x_10, xs, rfl, tx10, q3⟩ := q3.cons_inv
      obtain rfl := q3.nil_inv
      obtain rfl := tx1.x_inv
      obtain rfl := tx2.x_inv
      obtain rfl := tx3.x_inv
      obtain rfl := tx4.x_inv
      obtain rfl := tx7.x_inv
      obtain rfl := tx8.x_inv
      obtain rfl := tx9.x_inv
      obtain rfl := tx10.x_inv
      obtain ⟨_, ownle, vs4, hp4, q4⟩ := hm _ m4
      obtain ⟨fv, xs4, rfl, t5, q4⟩ := q4.cons_inv
      obtain rfl := q4.nil_inv
      obtain ⟨us, us', rfl, t6, t7⟩ := t5.fn_inv
      obtain rfl := t6.nil_inv
      obtain ⟨w1', xs, rfl, s1, t7⟩ := t7.cons_inv
      obtain ⟨w2', xs, rfl, s2, t7⟩ := t7.cons_inv
      obtain ⟨w3', xs, rfl, s3, t7⟩ := t7.cons_inv
      obtain ⟨w4', xs, rfl, s4, t7⟩ := t7.cons_inv
      obtain rfl := t7.nil_inv
      obtain rfl := z s1
      obtain rfl := z s2
      obtain rfl := z s3
      obtain rfl := z s4
      obtain ⟨_, owntr, vst, hp6, q6⟩ := hm _ m6
      obtain ⟨y_1, xs, rfl, tt1, q6⟩ := q6.cons_inv
      obtain ⟨y_2, xs, rfl, tt2, q6⟩ := q6.cons_inv
      obtain ⟨y_3, xs, rfl, tt3, q6⟩ := q6.cons_inv
      obtain ⟨y_4, xs, rfl, tt4, q6⟩ := q6.cons_inv
      obtain ⟨y_5, xs, rfl, tt5, q6⟩ := q6.cons_inv
      obtain ⟨y_6, xs, rfl, tt6, q6⟩ := q6.cons_inv
      obtain ⟨y_7, xs, rfl, tt7, q6⟩ := q6.cons_inv
      obtain ⟨y_8, xs, rfl, tt8, q6⟩ := q6.cons_inv
      obtain ⟨y_9, xs, rfl, tt9, q6⟩ := q6.cons_inv
      obtain ⟨y_10, xs, rfl, tt10, q6⟩ := q6.cons_inv
      obtain ⟨y_11, xs, rfl, tt11, q6⟩ := q6.cons_inv
      obtain ⟨y_12, xs, rfl, tt12, q6⟩ := q6.cons_inv
      obtain ⟨y_13, xs, rfl, tt13, q6⟩ := q6.cons_inv
      obtain ⟨y_14, xs, rfl, tt14, q6⟩ := q6.cons_inv
      obtain ⟨y_15, xs, rfl, tt15, q6⟩ := q6.cons_inv
      obtain rfl := q6.nil_inv
      obtain rfl := tt1.x_inv
      obtain rfl := tt2.x_inv
      obtain rfl := tt3.x_inv
      obtain rfl := tt4.x_inv
      obtain rfl := tt7.x_inv
      obtain rfl := tt8.x_inv
      obtain rfl := tt9.x_inv
      obtain rfl := tt10.x_inv
      obtain rfl := tt11.x_inv
      obtain rfl := tt12.x_inv
      obtain rfl := tt13.x_inv
      obtain rfl := tt14.x_inv
      obtain rfl := zm tt15
      obtain ⟨livemp, ownmp, es, cc, hp7, hes⟩ := hm _ m7
      replace ownt : e.own (e.blk t) = some t := ownt
      replace ownfo : e.own (e.blk fo) = some fo := ownfo
      replace ownx : e.own (e.blk x) = some x := ownx
      replace ownle : e.own (e.blk le) = some le := ownle
      replace owntr : e.own (e.blk tr) = some tr := owntr
      replace ownmp : e.own (e.blk mp) = some mp := ownmp
      obtain ⟨hsl, ho, hob⟩ := lvOut_of h5 hm n3 r1
      have hk : (outL k g).length = k := by simp [outL]
      have notin : ∀ {id : Nat} {r : Res}, (id, r) ∈ mem → isAka r = false → (∀ n' f', r ≠ .row 3 1 n' f') → id ∉ ids := by
       intro id r hmem hna hnr hin
       rcases hkeep _ hmem hin with h | ⟨_, _, h, _⟩
       ·rw [hna] at h; cases h
       ·exact hnr _ _ h
      have dne : ∀ {x y j j' : Nat}, e.own x = some j → e.own y = some j' → j ≠ j' → x ≠ y := by
       rintro x y j j' hx hy hj rfl
       rw [hx] at hy
       exact hj (Option.some.inj hy)
      have hobn : ∀ x_, ov.ownBlock = some x_ → x_ ≠ e.blk t ∧ x_ ≠ e.blk fo ∧ x_ ≠ e.blk x ∧ x_ ≠ e.blk le ∧ x_ ≠ e.blk tr ∧ x_ ≠ e.blk mp := by
       intro x_ hx
       obtain ⟨j, hj, hj2⟩ := hob x_ hx
       have nt : ∀ {id : Nat} {r : Res}, (id, r) ∈ mem → isAka r = false → (∀ n' f', r ≠ .row 3 1 n' f') → j ≠ id := fun h1 h2 h3 h4 => notin h1 h2 h3 (h4 ▸ hj)
       exact ⟨dne hj2 ownt (nt m1 rfl (fun _ _ h => by cases h)), dne hj2 ownfo (nt m2 rfl (fun _ _ h => by cases h)), dne hj2 ownx (nt m3 rfl (fun _ _ h => by cases h)), dne hj2 ownle (nt m4 rfl (fun _ _ h => by cases h)), dne hj2 owntr (nt m6 rfl (fun _ _ h => by cases h)), dne hj2 ownmp (nt m7 rfl (fun _ _ h => by cases h))⟩
      have hro : ∀ x_, e.ro x_ → x_ < w.heap.size ∧ (x_ ≠ e.blk t ∧ x_ ≠ e.blk fo ∧ x_ ≠ e.blk x ∧ x_ ≠ e.blk le ∧ x_ ≠ e.blk tr ∧ x_ ≠ e.blk mp) ∧ ov.ownBlock ≠ some x_ := by
       intro x_ hx
       obtain ⟨hx1, hx2⟩ := hE.apart x_ hx
       have nx_ : ∀ {y j : Nat}, e.own y = some j → x_ ≠ y := by
        rintro y j hy rfl
        rw [hx1] at hy
        cases hy
       refine ⟨hx2, ⟨nx_ ownt, nx_ ownfo, nx_ ownx, nx_ ownle, nx_ owntr, nx_ ownmp⟩, fun h => ?_⟩
       obtain ⟨j, _, hj2⟩ := hob x_ h
       rw [hx1] at hj2
       cases hj2
      have hcall := tk_small hs (out := outL k g) (s := s) (a := col 0 fr) (b := col 1 fr) (u := col 2 fr) (v := col 3 fr) (p := Pt.col 0 ft) (q := Pt.col 1 ft) n4 n5 n6 (by rw [hk]; exact n12) (by omega) (w := w) (bt := e.blk t) (bf := e.blk fo) (bx := e.blk x) (be := e.blk le) (br := e.blk tr) (bm := e.blk mp) (ov := ov) (y := y) (R := e)
       hp1 hp2 hp3 hp4 hp6 hp7 hes (dne ownt ownfo d01) (dne ownt ownx d02) (dne ownt ownle d03) (dne ownt owntr d04) (dne ownt ownmp d05) (dne ownfo ownx d12) (dne ownfo ownle d13) (dne ownfo owntr d14) (dne ownfo ownmp d15) (dne ownx ownle d23) (dne ownx owntr d24) (dne ownx ownmp d25) (dne ownle owntr d34) (dne ownle ownmp d35) (dne owntr ownmp d45) (by rw [hk]; exact ho) hsl hobn ((Same.lst 4 n _ _ n1).rep tx5) ((Same.lst 2 m _ _ n2').rep tx6) ((Same.lst 4 n _ _ n1).rep tt5) ((Same.lst 2 m _ _ n2').rep tt6) hro
      refine hcall.mono ?_
      rintro en w1 ⟨rfl, hsz, q1, q2, q3, hsame, ho1, ⟨es', cc', hmm, hes'⟩, y', hy, htrue⟩
      rw [hk] at ho1
      have hlt : ∀ {x j : Nat}, e.own x = some j → w0.heap.size ≤ x := fun h => (hE.owned _ _ h).1
      have hBel : Below w0.heap.size w0 w1 := by
       refine ⟨q1.trans hB.os, q2.trans hB.tape, q3.trans hB.output, Nat.le_trans hB.size hsz, fun x_ hx => ?_⟩
       rw [hsame x_ (Nat.lt_of_lt_of_le hx hB.size) (fun h => by have := hlt ownfo; rw [h] at hx; omega) (fun h => by have := hlt ownmp; rw [h] at hx; omega) (fun h => by obtain ⟨j, _, hj2⟩ := hob x_ h; have := hlt hj2; omega)]
       exact hB.block x_ hx
      have hros : ∀ x_, x_ < w.heap.size → e.ro x_ → w1.heap[x_]? = w.heap[x_]? := fun x_ hx hx2 => hsame x_ hx (hro x_ hx2).2.1.2.1 (hro x_ hx2).2.1.2.2.2.2.2 (hro x_ hx2).2.2
      cases hb : (lvF (enL c T lo hi n (col 0 fr) (col 1 fr) (col 2 fr) (col 3 fr) m (Pt.col 0 ft) (Pt.col 1 ft) pl ph dl dh u0 u1 wi day) n N (outL k g) s).isSome with
      | false =>
       have hq := hq.2 hb
       have st : Step e e w w1 := ⟨fun x hx hx2 => ⟨hx2, hros x hx hx2⟩, fun _ h => ⟨h, rfl, rfl⟩, hsz⟩
       refine ⟨_, _, _, _, _, e, rfl, hq, ⟨fun x hx => ⟨(hE.apart x hx).1, Nat.lt_of_lt_of_le (hE.apart x hx).2 hsz⟩, fun x j hx => ⟨(hE.owned x j hx).1, Nat.lt_of_lt_of_le (hE.owned x j hx).2 hsz⟩⟩, hBel, ?_, hlv, hfoe, hxt.step st, .lit false⟩
       intro p hp
       rcases setM_mem hp with rfl | ⟨hp, hne2, _⟩
       ·exact ⟨livemp, ownmp, es', cc', hmm, hes'⟩
       rcases setM_mem hp with rfl | ⟨hp, hne, _⟩
       ·exact ⟨livefo, ownfo, [y'], hy, .cons (.top _) (.nil _ _)⟩
       ·obtain ⟨hpm, hna⟩ := noAka_mem hp
        exact holds_lv st (fun _ _ h => h) hE hsame ownfo ownmp hob ho ho1 hne hne2 hna (fun hi => hkeep p hpm hi) (hm p hpm)
      | true =>
       have hq := hq.1 hb
       obtain ⟨⟨ya, yn, yc, hy0⟩, hy1, hy2⟩ := htrue hb
       have hid : ¬ e.live nx := fun h => Nat.lt_irrefl _ (hlv _ h)
       have hfr : ∀ x, x < w.heap.size → y'.ownBlock ≠ some x := fun x hx h => by have := hy2 x h; omega
       have hown : ∀ x j, e.own x = some j → (e.app nx y').own x = some j := by
        intro x j hx
        simp only [Env.app]
        rw [if_neg (hfr x (hE.owned x j hx).2)]
        exact hx
       have st : Step e (e.app nx y') w w1 := ⟨fun x hx hx2 => ⟨hx2, hros x hx hx2⟩, fun j hj => ⟨.inr hj, rfl, by
        have : j ≠ nx := fun h => hid (h ▸ hj)
        simp [Env.app, this]⟩, hsz⟩
       refine ⟨_, _, _, _, _, e.app nx y', rfl, hq, ⟨fun x hx => ⟨?_, Nat.lt_of_lt_of_le (hE.apart x hx).2 hsz⟩, fun x j hx => ?_⟩, hBel, ?_, ?_, hfoe, hxt.step st, .lit true⟩
       ·simp only [Env.app]
        rw [if_neg (hfr x (hE.apart x hx).2)]
        exact (hE.apart x hx).1
       ·simp only [Env.app] at hx
        split at hx
        ·rename_i hxb
         exact ⟨Nat.le_trans hB.size (hy2 x hxb), (hy1.lt x hxb).2⟩
        ·exact ⟨(hE.owned x j hx).1, Nat.lt_of_lt_of_le (hE.owned x j hx).2 hsz⟩
       ·intro p hp
        rcases List.mem_cons.1 hp with rfl | hp
        ·refine ⟨.inl rfl, fun x hx => ?_, fun i hi => ⟨rfl, fun a ha => by rw [List.mem_singleton.1 ha]; exact .x _⟩, (lvG (enL c T lo hi n (col 0 fr) (col 1 fr) (col 2 fr) (col 3 fr) m (Pt.col 0 ft) (Pt.col 1 ft) pl ph dl dh u0 u1 wi day) n N (outL k g) s).map (Value.int .i64), ?_, fun i j a v hi ha hv => ?_⟩
         ·have hx : y'.ownBlock = some x := by simpa [Env.app] using hx
          simp [Env.app, hx]
         ·show w1.ownsRow 0 3 1 (if nx = nx then y' else e.val nx) _ _
          rw [if_pos rfl]
          exact hy1
         ·cases j with
          | zero =>
           simp only [List.getElem?_cons_zero, Option.some.injEq] at ha
           subst ha
           rw [show i * 1 + 0 = i by omega, List.getElem?_map, nthJ_bang _ i hi] at hv
           simp only [Option.map_some, Option.some.injEq] at hv
           rw [← hv]
           exact .x _
          | succ j => simp at ha
        ·rcases setM_mem hp with rfl | ⟨hp, hne2, _⟩
         ·exact ⟨.inr livemp, hown _ _ ownmp, es', cc', hmm, hes'⟩
         rcases setM_mem hp with rfl | ⟨hp, hne, _⟩
         ·refine ⟨.inr livefo, hown _ _ ownfo, [y'], hy, .cons ?_ (.nil _ _)⟩
          rw [hy0]
          exact .row nx _ _ _ (.inl rfl) (by simp [Env.app])
         ·obtain ⟨hpm, hna⟩ := noAka_mem hp
          exact holds_lv st hown hE hsame ownfo ownmp hob ho ho1 hne hne2 hna (fun hi => hkeep p hpm hi) (hm p hpm)
       ·rintro j (rfl | hj)
        ·exact Nat.lt_succ_self _
        ·exact Nat.lt_succ_of_lt (hlv j hj)
     ·cases ht
    ·cases ht
   ·cases ht
  ·cases ht
 ·cases ht
theorem tk_all : ∀ N : Nat, SoundHSpec Tryz.prog 95 (H_tk N)
 | 0 => tk_frame fun c T lo hi n a b u v m p q pl ph dl dh u0 u1 wi day s1 a1 b1 s2 a2 b2 s3 a3 b3 s4 a4 b4 out s h1 h2 h3 h4 h5 => by
  have h := tk_zero c T lo hi n a b u v m p q pl ph dl dh u0 u1 wi day s1 a1 b1 s2 a2 b2 s3 a3 b3 s4 a4 b4 out s h1 h2 h3 (by omega)
  have e1 : lvF (enL c T lo hi n a b u v m p q pl ph dl dh u0 u1 wi day) n 0 out s = if (enL c T lo hi n a b u v m p q pl ph dl dh u0 u1 wi day) out then some out else none := rfl
  unfold lvG
  rw [e1]
  cases hb : (enL c T lo hi n a b u v m p q pl ph dl dh u0 u1 wi day) out with
  | true =>
   rw [hb] at h
   exact h
  | false =>
   rw [hb] at h
   exact h
 | N + 1 => tk_frame fun c T lo hi n a b u v m p q pl ph dl dh u0 u1 wi day s1 a1 b1 s2 a2 b2 s3 a3 b3 s4 a4 b4 out s h1 h2 h3 h4 h5 => tk_succ c T lo hi n a b u v m p q pl ph dl dh u0 u1 wi day s1 a1 b1 s2 a2 b2 s3 a3 b3 s4 a4 b4 out s N h1 h2 h3 ⟨h4, h5⟩ (tk_all N)
end Go.Proofs.YtlinbkmpkcmniaaGreat
namespace Go.Proofs.YtlinbkmpkcmniaaGreat
open Go Go.Sx Go.RowKit Bo
open Go.Sx.Tree (need branch leaf)
open Go.Sx.AV (lst ptr agg roI tup top)
def ofB (bits : Int) (k : Nat) : Bool := (bits / 2 ^ k).tmod 2 == 1
def ofL (bits : Int) : Nat → List Int
 | 0 => []
 | k + 1 => if ofB bits k then ofL bits k ++ [(k : Int)] else ofL bits k
def lessL (a b : List Int) : Bool := if a.length = b.length then lexL a b else decide (a.length < b.length)
def tol (n : Nat) (f : Nat → Int) : List Int := (List.range n).map f
noncomputable def LI (l : List Int) : AV := .lst 1 l.length (fun j => [i (nthJ l j)])
def riP (n : Nat) (f : Nat → Int) (k : Nat) : Bool := bt 0 (f k) ((n : Int) - 1) && (decide (k = 0) || decide (f (k - 1) < f k))
def risB (n m : Nat) (f : Nat → Int) : Bool := allI (riP n f) m
def memB (m : Nat) (g : Nat → Int) (k : Nat) : Bool := !allI (fun j => !(g j == (k : Int))) m
def soL (m : Nat) (g : Nat → Int) (o : Bool) : Nat → List Int
 | 0 => []
 | k + 1 => if memB m g k != o then soL m g o k ++ [(k : Int)] else soL m g o k
def inR (n m : Nat) (g : Nat → Int) : Prop := ∀ j, j < m → 0 ≤ g j ∧ g j < n
theorem u64w {k : Nat} (h : k ≤ 1000000) : IntKind.u64.wrap (k : Int) = k := by
 have e : IntKind.u64.wrap (k : Int) = (k : Int) % 2 ^ 64 := rfl
 rw [e, Int.emod_eq_of_lt (by omega) (by omega)]
theorem ofL_len (bits : Int) : ∀ k, (ofL bits k).length ≤ k
 | 0 => Nat.le_refl _
 | k + 1 => by
  have := ofL_len bits k
  unfold ofL
  split
  ·rw [List.length_append]; simp; omega
  ·omega
theorem lexL_at : ∀ {A B : List Int} {k : Nat}, A.length = B.length → k < A.length → (∀ j, j < k → nthJ A j = nthJ B j) → nthJ A k ≠ nthJ B k → lexL A B = decide (nthJ A k < nthJ B k)
 | [], _, _, _, h, _, _ => absurd h (Nat.not_lt_zero _)
 | x :: a, [], _, h, _, _, _ => by cases h
 | x :: a, y :: b, 0, _, _, _, hne => by
  have hne : x ≠ y := hne
  show (if x = y then lexL a b else decide (x < y)) = _
  rw [if_neg hne]
  rfl
 | x :: a, y :: b, k + 1, hl, hk, h, hne => by
  have h0 : x = y := h 0 (Nat.succ_pos _)
  show (if x = y then lexL a b else decide (x < y)) = _
  rw [if_pos h0]
  exact lexL_at (k := k) (by simpa using hl) (by simpa using hk) (fun j hj => h (j + 1) (by omega)) hne
theorem lexL_self : ∀ A : List Int, lexL A A = false
 | [] => rfl
 | x :: a => by
  show (if x = x then lexL a a else decide (x < x)) = false
  rw [if_pos rfl, lexL_self a]
theorem list_ext {A B : List Int} (hl : A.length = B.length) (h : ∀ j, j < A.length → nthJ A j = nthJ B j) : A = B := by
 apply List.ext_getElem hl
 intro j h1 h2
 have := h j h1
 rw [nthJ_get h1, nthJ_get h2] at this
 exact this
theorem tol_len (n : Nat) (f : Nat → Int) : (tol n f).length = n := by simp [tol]
theorem tol_get {n k : Nat} {f : Nat → Int} (h : k < n) : nthJ (tol n f) k = f k := by
 rw [nthJ_get (by rw [tol_len]; exact h)]
 simp [tol]
theorem memB_iff {m : Nat} {g : Nat → Int} {k : Nat} : memB m g k = true ↔ ∃ j, j < m ∧ g j = k := by
 unfold memB
 rw [Bool.not_eq_true', ← Bool.not_eq_true, allI_iff]
 constructor
 ·intro h
  rcases Classical.em (∃ j, j < m ∧ g j = k) with h1 | h1
  ·exact h1
  ·exfalso
   refine h fun j hj => ?_
   rw [Bool.not_eq_true', beq_eq_false_iff_ne]
   exact fun h2 => h1 ⟨j, hj, h2⟩
 ·rintro ⟨j, hj, h⟩ h2
  have := h2 j hj
  rw [h] at this
  simp at this
theorem memB_succ (m : Nat) (g : Nat → Int) (k : Nat) : memB (m + 1) g k = (memB m g k || (g m == (k : Int))) := by
 simp [memB, allI, Bool.not_and]
theorem soL_len (m : Nat) (g : Nat → Int) (o : Bool) : ∀ n, (soL m g o n).length ≤ n
 | 0 => Nat.le_refl _
 | n + 1 => by
  have := soL_len m g o n
  unfold soL
  split
  ·simp; omega
  ·omega
noncomputable def E_of (n : Nat) (a b u v : Nat → Int) (bits : Int) : St := (some { σ := [lst 4 n fun k => [iI (a k), iI (b k), iI (u k), iI (v k)], iI bits, top, top, AV.x (Value.slice none 0 0)] ++ tpL 19 [], m := [(900, Res.row 3 1 0 fun x => [])], nx := 901 } : Option St).getD { σ := [], m := [], nx := 0 }
noncomputable def B_of : Code := loopBody (loopAt (bodyOf Tryz.f56) 0)
noncomputable def inv_of (n : Nat) (a b u v : Nat → Int) (bits : Int) (k : Nat) : St := { σ := ovrS [(5, .row 900), (6, i k)] (E_of n a b u v bits).σ, m := [(900, .row 3 1 (ofL bits k).length (fun j => [i (nthJ (ofL bits k) j)]))], nx := (E_of n a b u v bits).nx }
noncomputable def out_of (n : Nat) (a b u v : Nat → Int) (bits : Int) (k : Nat) : AEx → Option St := fun ex => match ex with
 | .exit 0 => some { σ := ovrS [(5, .row 900)] (E_of n a b u v bits).σ, m := [(900, .row 3 1 (ofL bits n).length (fun j => [i (nthJ (ofL bits n) j)]))], nx := (E_of n a b u v bits).nx }
 | _ => none
noncomputable def T_of (n : Nat) (a b u v : Nat → Int) (bits : Int) : CT := .leaf (.exit 0, ( out_of n a b u v bits 0 (.exit 0)).getD (E_of n a b u v bits))
noncomputable def LS_of (n : Nat) (a b u v : Nat → Int) (bits : Int) : LSpec := normSp [(.slot 5, 900, 3, 1)] (sumL (inv_of n a b u v bits (0)) (T_of n a b u v bits))
theorem of_ls (n : Nat) (a b u v : Nat → Int) (bits : Int) (pre0 : n ≤ 64) : LSound Tryz.prog (.loop B_of) (LS_of n a b u v bits) := by
 refine loop_roundsN [(.slot 5, 900, 3, 1)] (G := []) (L := []) (SoundG.nil _) mixed noLoops (X := Nat) (inv_of n a b u v bits) (fun k => k ≤ n) (fun k => n - k) (out_of n a b u v bits) (x0 := 0) (by simp) ?_ ?_ ?_
 ·rintro k
  kernel_rfl
 ·rintro k y E h
  unfold out_of at h
  split at h
  ·cases h; kernel_rfl
  ·cases h
 ·rintro Q hQ k hx
  refine ⟨(k + 1), ?_⟩
  have e : roundN Tryz.prog [] [] [(.slot 5, 900, 3, 1)] B_of (inv_of n a b u v bits k) (inv_of n a b u v bits ((k + 1))) (out_of n a b u v bits k) = (let z0 := (lst 4 n (rq4 a b u v)); let z1 := (AV.x (Value.slice none 0 0)); (branch (decide ((↑k : Int) < (↑n : Int))) (need [(0 : Int) ≤ IntKind.wrap IntKind.u64 (↑k : Int) ∧ IntKind.wrap IntKind.u64 (↑k : Int) ≤ 64] (need [(2 : Int) ≠ (0 : Int)] (branch (Int.tmod (bits / (2 : Int) ^ Int.toNat (IntKind.wrap IntKind.u64 (↑k : Int))) (2 : Int) == (1 : Int)) (need [(List.length (ofL bits k) + 1) * 8 ≤ 140737488355328, ∀ (i : Nat), i < 1 → ∀ (a : AV), a ∈ chunk 1 [iI (↑k : Int)] i → AV.one a = true] (need [inI64 ((↑k : Int) + 1)] (need [z0 = lst 4 n (rq4 a b u v), bits = bits, Eq1 z1, Eq1 (AV.row 900), (↑k : Int) + 1 = (↑(k + 1) : Int), List.length (ofL bits k) + 1 = List.length (ofL bits (k + 1)), ∀ (i : Nat), i < List.length (ofL bits (k + 1)) → catF (List.length (ofL bits k)) (fun j => [iI (nthJ (ofL bits k) j)]) (chunk 1 [iI (↑k : Int)]) i = [iI (nthJ (ofL bits (k + 1)) i)]] (leaf AEx.normal)))) (need [inI64 ((↑k : Int) + 1)] (need [z0 = lst 4 n (rq4 a b u v), bits = bits, Eq1 z1, Eq1 (AV.row 900), (↑k : Int) + 1 = (↑(k + 1) : Int), List.length (ofL bits k) = List.length (ofL bits (k + 1)), ∀ (i : Nat), i < List.length (ofL bits (k + 1)) → [iI (nthJ (ofL bits k) i)] = [iI (nthJ (ofL bits (k + 1)) i)]] (leaf AEx.normal)))))) (need [z0 = lst 4 n (rq4 a b u v), bits = bits, Eq1 z1, Eq1 (AV.row 900), List.length (ofL bits k) = List.length (ofL bits n), ∀ (i : Nat), i < List.length (ofL bits n) → [iI (nthJ (ofL bits k) i)] = [iI (nthJ (ofL bits n) i)]] (leaf (AEx.exit 0))))) := by kernel_rfl
  rw [e]
  simp only [T_of, out_of, Tree.sat, Option.getD_some] at hQ
  have hl := ofL_len bits k
  have hs : ofL bits (k + 1) = if ofB bits k then ofL bits k ++ [(k : Int)] else ofL bits k := rfl
  have hc1 : ∀ x : Int, ∀ (j : Nat), j < 1 → ∀ y, y ∈ chunk 1 [iI x] j → AV.one y = true := fun x j _ y hy => one_of hy (by simp [AV.one, Value.oneCell'])
  have hB : ofB bits k = ((bits / 2 ^ k).tmod 2 == 1) := rfl
  simp only [Tree.sat, allP, fitP, fitL, valEq, inI64, true_and, and_true, decide_eq_true_eq, decide_eq_false_iff_not, Int.toNat_natCast]
  clear e
  refine ⟨fun h => ?_, fun h => ?_⟩
  ·have hk : k < n := by omega
   rw [u64w (by omega), Int.toNat_natCast]
   refine ⟨by omega, by omega, fun h2 => ?_, fun h2 => ?_⟩
   ·rw [← hB] at h2
    rw [if_pos h2] at hs
    rw [hs, List.length_append]
    (repeat' first | with_reducible apply And.intro | with_reducible intro _)
    all_goals first | exact True.intro | omega | with_reducible rfl | exact hc1 _ _ (by assumption) _ (by assumption) | exact catJ1 (by assumption) | rfl
   ·rw [← hB] at h2
    rw [if_neg (by rw [h2]; simp)] at hs
    rw [hs]
    (repeat' first | with_reducible apply And.intro | with_reducible intro _)
    all_goals first | exact True.intro | omega | with_reducible rfl | rfl
  ·obtain rfl : k = n := by omega
   (repeat' first | with_reducible apply And.intro | with_reducible intro _)
   all_goals first | exact True.intro | omega | with_reducible rfl | (rename_i E hE; cases hE; exact hQ) | rfl
theorem rOf_at (n : Nat) (a b u v : Nat → Int) (bits : Int) (pre0 : n ≤ 64) : SoundAt Tryz.prog 56 [rds n a b u v, i bits] (.lst 1 (ofL bits n).length (fun j => [i (nthJ (ofL bits n) j)])) := by
 refine soundAt_fin (G := []) (L := [LS_of n a b u v bits]) (SoundG.nil _) mixed Tryz.func56 (show Tryz.f56.body = some (bodyOf Tryz.f56) by kernel_rfl) (one_loop (lpE (b := .loop B_of) (by kernel_rfl) <| of_ls n a b u v bits pre0)) (t := (need [(lst 4 n (rq4 a b u v)) = lst 4 n (rq4 a b u v), bits = bits, Eq1 (AV.x (Value.slice none 0 0)), Eq1 (AV.row 900), (0 : Int) = (↑(0 : Nat) : Int), 0 = List.length (ofL bits 0), ∀ (i : Nat), i < List.length (ofL bits 0) → [] = [iI (nthJ (ofL bits 0) i)]] (leaf (RV.lst 1 (List.length (ofL bits n)) fun j => [iI (nthJ (ofL bits n) j)])))) (by kernel_rfl) ?_
 simp only [Tree.sat, allP, fitP, fitL, valEq, inI64, true_and, and_true]
 (repeat' first | with_reducible apply And.intro | with_reducible intro _)
 all_goals first | exact True.intro | omega | with_reducible rfl | (rename_i hm; cases List.mem_singleton.1 hm; exact True.intro) | (rename_i hm; exact absurd hm (Nat.not_lt_zero _)) | rfl
def S_rOf : Sx.Spec := fun l => match l with
 | [.lst 4 n f, .x (.int .i64 bits)] => some ([isRec 4 n f, n ≤ 64], .lst 1 (ofL bits n).length (fun j => [i (nthJ (ofL bits n) j)]))
 | _ => none
theorem rOf_ok : SoundSpec Tryz.prog 56 S_rOf := by
 refine ⟨⟨_, Tryz.func56, by kernel_rfl, by kernel_rfl⟩, ?_⟩
 intro avs ns res h hn
 unfold S_rOf at h
 split at h
 ·rename_i n f bits
  cases h
  have hr0 : isRec 4 n f := hn _ (by simp)
  exact (rOf_at n (col 0 f) (col 1 f) (col 2 f) (col 3 f) bits (hn _ (by simp))).same (.cons (.lst 4 n _ _ hr0) (.cons (.refl _) .nil))
 ·cases h
noncomputable def E_le (A B : List Int) : St := (some { σ := [lst 1 (List.length A) fun j => [iI (nthJ A j)], lst 1 (List.length B) fun j => [iI (nthJ B j)]] ++ tpL 40 [], m := [], nx := 2 } : Option St).getD { σ := [], m := [], nx := 0 }
noncomputable def B_le : Code := loopBody (loopAt (bodyOf Tryz.f58) 0)
noncomputable def inv_le (A B : List Int) (k : Nat) : St := { σ := ovrS [(5, i k)] (E_le A B).σ, m := (E_le A B).m, nx := (E_le A B).nx }
noncomputable def out_le (A B : List Int) (k : Nat) : AEx → Option St := fun ex => match ex with
 | .exit 0 => some { σ := ovrS [] (E_le A B).σ, m := (E_le A B).m, nx := (E_le A B).nx }
 | .ret => some { σ := ovrS [(4, bl (lexL A B))] (E_le A B).σ, m := (E_le A B).m, nx := (E_le A B).nx }
 | _ => none
noncomputable def T_le (A B : List Int) : CT := .branch (decide (A.length = B.length) && !decide (A = B)) (.leaf (.ret, ( out_le A B 0 .ret).getD (E_le A B))) (.leaf (.exit 0, ( out_le A B 0 (.exit 0)).getD (E_le A B)))
noncomputable def LS_le (A B : List Int) : LSpec := (sumL (inv_le A B (0)) (T_le A B))
theorem le_ls (A B : List Int) (pre0 : A.length ≤ 100000) : LSound Tryz.prog (.loop B_le) (LS_le A B) := by
 refine loop_rounds (G := []) (L := []) (SoundG.nil _) mixed noLoops (X := Nat) (inv_le A B) (fun k => k ≤ A.length ∧ (A.length = B.length → ∀ j, j < k → nthJ A j = nthJ B j)) (fun k => A.length - k) (out_le A B) (x0 := 0) ⟨Nat.zero_le _, fun _ j h1 => by omega⟩ ?_ ?_ ?_
 ·rintro k
  kernel_rfl
 ·rintro k y E h
  unfold out_le at h
  split at h
  ·cases h; kernel_rfl
  ·cases h; kernel_rfl
  ·cases h
 ·rintro Q hQ k hx
  refine ⟨(k + 1), ?_⟩
  have e : roundT Tryz.prog [] [] B_le (inv_le A B k) (inv_le A B ((k + 1))) (out_le A B k) = (let z1 := (lst 1 (List.length A) fun j => [iI (nthJ A j)]); let z0 := (need [z1 = lst 1 (List.length A) fun j => [iI (nthJ A j)], (lst 1 (List.length B) fun j => [iI (nthJ B j)]) = lst 1 (List.length B) fun j => [iI (nthJ B j)]] (leaf (AEx.exit 0))); (branch (decide ((↑k : Int) < (↑(List.length A) : Int))) (branch ((↑(List.length A) : Int) == (↑(List.length B) : Int)) (need [(0 : Int) ≤ (↑k : Int) ∧ (↑k : Int) < (↑(List.length A) : Int)] (need [(0 : Int) ≤ (↑k : Int) ∧ (↑k : Int) < (↑(List.length B) : Int)] (branch (nthJ A k != nthJ B k) (need [(0 : Int) ≤ (↑k : Int) ∧ (↑k : Int) < (↑(List.length A) : Int)] (need [(0 : Int) ≤ (↑k : Int) ∧ (↑k : Int) < (↑(List.length B) : Int)] (need [z1 = lst 1 (List.length A) fun j => [iI (nthJ A j)], (lst 1 (List.length B) fun j => [iI (nthJ B j)]) = lst 1 (List.length B) fun j => [iI (nthJ B j)], decide (nthJ A k < nthJ B k) = lexL A B] (leaf AEx.ret)))) (need [inI64 ((↑k : Int) + 1)] (need [z1 = lst 1 (List.length A) fun j => [iI (nthJ A j)], (lst 1 (List.length B) fun j => [iI (nthJ B j)]) = lst 1 (List.length B) fun j => [iI (nthJ B j)], (↑k : Int) + 1 = (↑(k + 1) : Int)] (leaf AEx.normal)))))) z0) z0)) := by kernel_rfl
  rw [e]
  simp only [T_le, out_le, Tree.sat, Option.getD_some] at hQ
  obtain ⟨x1, x2⟩ := hx
  have hret : A.length = B.length → k < A.length → nthJ A k ≠ nthJ B k → (decide (A.length = B.length) && !decide (A = B)) = true ∧ lexL A B = decide (nthJ A k < nthJ B k) := by
   intro h1 h2 h3
   refine ⟨?_, lexL_at h1 h2 (x2 h1) h3⟩
   rw [decide_eq_true h1, decide_eq_false (fun h => h3 (by rw [h]))]
   rfl
  have hex : (A.length = B.length → ¬ k < A.length) → (decide (A.length = B.length) && !decide (A = B)) = false := by
   intro h1
   by_cases h : A.length = B.length
   ·have : A = B := list_ext h fun j hj => x2 h j (by have := h1 h; omega)
    rw [decide_eq_true h, decide_eq_true this]
    rfl
   ·rw [decide_eq_false h]
    rfl
  simp only [Tree.sat, allP, fitP, fitL, valEq, inI64, true_and, and_true, decide_eq_true_eq, decide_eq_false_iff_not, Int.toNat_natCast, beq_iff_eq, beq_eq_false_iff_ne, bne_iff_ne, ne_eq, bne_eq_false_iff_eq]
  clear e
  refine ⟨fun h => ⟨fun h2 => ⟨by omega, by omega, fun h3 => ?_, fun h3 => ?_⟩, fun h2 => ?_⟩, fun h => ?_⟩
  ·obtain ⟨g1, g2⟩ := hret (by omega) (by omega) h3
   refine ⟨by omega, by omega, g2.symm, ?_⟩
   intro E hE
   cases hE
   exact hQ.1 g1
  ·refine ⟨by omega, by omega, ⟨by omega, fun hl j hj => ?_⟩, by omega⟩
   rcases (show j = k ∨ j < k by omega) with rfl | h4
   ·exact h3
   ·exact x2 hl j h4
  ·intro E hE
   cases hE
   exact hQ.2 (hex fun hl => by omega)
  ·intro E hE
   cases hE
   exact hQ.2 (hex fun hl => by omega)
theorem rLess_at (A B : List Int) (pre0 : A.length ≤ 100000) : SoundAt Tryz.prog 58 [.lst 1 A.length (fun j => [i (nthJ A j)]), .lst 1 B.length (fun j => [i (nthJ B j)])] (bl (lessL A B)) := by
 refine soundAt_fin (G := []) (L := [LS_le A B]) (SoundG.nil _) mixed Tryz.func58 (show Tryz.f58.body = some (bodyOf Tryz.f58) by kernel_rfl) (one_loop (lpE (b := .loop B_le) (by kernel_rfl) <| le_ls A B pre0)) (t := (need [(lst 1 (List.length A) fun j => [iI (nthJ A j)]) = lst 1 (List.length A) fun j => [iI (nthJ A j)], (lst 1 (List.length B) fun j => [iI (nthJ B j)]) = lst 1 (List.length B) fun j => [iI (nthJ B j)], (0 : Int) = (↑(0 : Nat) : Int)] (branch (decide (List.length A = List.length B) && !decide (A = B)) (leaf (RV.x (Value.bool (lexL A B)))) (leaf (RV.x (Value.bool (decide ((↑(List.length A) : Int) < (↑(List.length B) : Int))))))))) (by kernel_rfl) ?_
 simp only [Tree.sat, allP, fitP, fitL, valEq, inI64, true_and, and_true, decide_eq_true_eq, decide_eq_false_iff_not]
 refine ⟨rfl, fun h => ?_, fun h => ?_⟩
 ·rw [Bool.and_eq_true, decide_eq_true_eq] at h
  unfold lessL
  rw [if_pos h.1]
 ·unfold lessL
  by_cases hl : A.length = B.length
  ·rw [if_pos hl]
   have hAB : A = B := by
    rw [decide_eq_true hl, Bool.true_and, Bool.not_eq_false', decide_eq_true_eq] at h
    exact h
   rw [hAB, lexL_self]
   exact decide_eq_false (by omega)
  ·rw [if_neg hl, Bool.eq_iff_iff, decide_eq_true_eq, decide_eq_true_eq]
   omega
def S_rLess : Sx.Spec := fun l => match l with
 | [.lst 1 m f, .lst 1 k g] => some ([isRec 1 m f, isRec 1 k g, m ≤ 100000], bl (lessL (tol m (col 0 f)) (tol k (col 0 g))))
 | _ => none
theorem same_tol {m : Nat} {f : Nat → List AV} (h : isRec 1 m f) : Same (.lst 1 m f) (LI (tol m (col 0 f))) := by
 have := Same.lst 1 m f (fun k => [i (nthJ (tol m (col 0 f)) k)]) fun k hk => by
  rw [h k hk, tol_get hk]
  rfl
 unfold LI
 rw [tol_len]
 exact this
theorem rLess_ok : SoundSpec Tryz.prog 58 S_rLess := by
 refine ⟨⟨_, Tryz.func58, by kernel_rfl, by kernel_rfl⟩, ?_⟩
 intro avs ns res h hn
 unfold S_rLess at h
 split at h
 ·rename_i m f k g
  cases h
  exact (rLess_at (tol m (col 0 f)) (tol k (col 0 g)) (by rw [tol_len]; exact hn _ (by simp))).same (.cons (same_tol (hn _ (by simp))) (.cons (same_tol (hn _ (by simp))) .nil))
 ·cases h
noncomputable def E_ri2 (n m : Nat) (a b u v f : Nat → Int) : St := (some { σ := [lst 4 n fun k => [iI (a k), iI (b k), iI (u k), iI (v k)], lst 1 m fun k => [iI (f k)]] ++ tpL 35 [], m := [], nx := 2 } : Option St).getD { σ := [], m := [], nx := 0 }
noncomputable def B_ri2 : Code := loopBody (loopAt (bodyOf Tryz.f60) 0)
noncomputable def inv_ri2 (n m : Nat) (a b u v f : Nat → Int) (k : Nat) : St := { σ := ovrS [(5, i k)] (E_ri2 n m a b u v f).σ, m := (E_ri2 n m a b u v f).m, nx := (E_ri2 n m a b u v f).nx }
noncomputable def out_ri2 (n m : Nat) (a b u v f : Nat → Int) (k : Nat) : AEx → Option St := fun ex => match ex with
 | .exit 0 => some { σ := ovrS [] (E_ri2 n m a b u v f).σ, m := (E_ri2 n m a b u v f).m, nx := (E_ri2 n m a b u v f).nx }
 | .ret => some { σ := ovrS [(4, .lit false)] (E_ri2 n m a b u v f).σ, m := (E_ri2 n m a b u v f).m, nx := (E_ri2 n m a b u v f).nx }
 | _ => none
noncomputable def T_ri2 (n m : Nat) (a b u v f : Nat → Int) : CT := .branch (risB n m f) (.leaf (.exit 0, ( out_ri2 n m a b u v f 0 (.exit 0)).getD (E_ri2 n m a b u v f))) (.leaf (.ret, ( out_ri2 n m a b u v f 0 .ret).getD (E_ri2 n m a b u v f)))
noncomputable def LS_ri2 (n m : Nat) (a b u v f : Nat → Int) : LSpec := (sumL (inv_ri2 n m a b u v f (0)) (T_ri2 n m a b u v f))
theorem ri2_ls (n m : Nat) (a b u v f : Nat → Int) (pre0 : m ≤ 100000) (pre1 : n ≤ 100000) : LSound Tryz.prog (.loop B_ri2) (LS_ri2 n m a b u v f) := by
 refine loop_rounds (G := [(91, Bo.S_rIn)]) (L := []) (SoundG.cons Bo.rIn_ok (SoundG.nil _)) mixed noLoops (X := Nat) (inv_ri2 n m a b u v f) (fun k => k ≤ m ∧ ∀ j, j < k → riP n f j = true) (fun k => m - k) (out_ri2 n m a b u v f) (x0 := 0) ⟨by omega, fun j h1 => by omega⟩ ?_ ?_ ?_
 ·rintro k
  kernel_rfl
 ·rintro k y E h
  unfold out_ri2 at h
  split at h
  ·cases h; kernel_rfl
  ·cases h; kernel_rfl
  ·cases h
 ·rintro Q hQ k hx
  refine ⟨(k + 1), ?_⟩
  have e : roundT Tryz.prog [(91, Bo.S_rIn)] [] B_ri2 (inv_ri2 n m a b u v f k) (inv_ri2 n m a b u v f ((k + 1))) (out_ri2 n m a b u v f k) = (let z2 := (lst 4 n (rq4 a b u v)); let z0 := (need [inI64 ((↑k : Int) + 1)] (need [z2 = lst 4 n (rq4 a b u v), (lst 1 m fun k => [iI (f k)]) = lst 1 m fun k => [iI (f k)], (↑k : Int) + 1 = (↑(k + 1) : Int)] (leaf AEx.normal))); let z1 := (need [z2 = lst 4 n (rq4 a b u v), (lst 1 m fun k => [iI (f k)]) = lst 1 m fun k => [iI (f k)], Eq1 (AV.lit false)] (leaf AEx.ret)); (branch (decide ((↑k : Int) < (↑m : Int))) (need [(0 : Int) ≤ (↑k : Int) ∧ (↑k : Int) < (↑m : Int)] (need [inI64 ((↑n : Int) - 1)] (branch (!Bo.bt (0 : Int) (f k) ((↑n : Int) - 1)) z1 (branch (decide ((↑k : Int) > (0 : Int))) (need [(0 : Int) ≤ (↑k : Int) ∧ (↑k : Int) < (↑m : Int)] (need [inI64 ((↑k : Int) - 1)] (need [(0 : Int) ≤ (↑k : Int) - 1 ∧ (↑k : Int) - 1 < (↑m : Int)] (branch (decide (f k ≤ f (Int.toNat ((↑k : Int) - 1)))) z1 z0)))) z0)))) (need [z2 = lst 4 n (rq4 a b u v), (lst 1 m fun k => [iI (f k)]) = lst 1 m fun k => [iI (f k)]] (leaf (AEx.exit 0))))) := by kernel_rfl
  rw [e]
  simp only [T_ri2, out_ri2, Tree.sat, Option.getD_some] at hQ
  obtain ⟨x1, x2⟩ := hx
  have e1 : ((k : Int) - 1).toNat = k - 1 := by omega
  have hbad : k < m → riP n f k = false → risB n m f = false := by
   intro h1 h2
   rw [← Bool.not_eq_true]
   intro h3
   have := allI_iff.1 h3 k h1
   rw [h2] at this
   cases this
  have hend : ¬ k < m → risB n m f = true := fun h => allI_iff.2 fun j hj => x2 j (by omega)
  have hgood : riP n f k = true → ∀ j, j < k + 1 → riP n f j = true := by
   intro h1 j h3
   rcases (show j = k ∨ j < k by omega) with rfl | h
   ·exact h1
   ·exact x2 j h
  simp only [Tree.sat, allP, fitP, fitL, valEq, inI64, true_and, and_true, decide_eq_true_eq, decide_eq_false_iff_not, Int.toNat_natCast, e1, gt_iff_lt, Bool.not_eq_true', Bool.not_eq_false']
  clear e
  refine ⟨fun h => ⟨by omega, by omega, fun h2 => ?_, fun h2 => ⟨fun h3 => ⟨by omega, by omega, by omega, fun h4 => ?_, fun h4 => ?_⟩, fun h3 => ?_⟩⟩, fun h => ?_⟩
  ·intro E hE
   cases hE
   exact hQ.2 (hbad (by omega) (by simp [riP, h2]))
  ·intro E hE
   cases hE
   exact hQ.2 (hbad (by omega) (by
    have g1 : ¬ k = 0 := by omega
    have g2 : ¬ f (k - 1) < f k := by omega
    simp [riP, g1, g2]))
  ·exact ⟨by omega, by omega, ⟨by omega, hgood (by
    have g2 : f (k - 1) < f k := by omega
    simp [riP, h2, g2])⟩, by omega⟩
  ·have g1 : k = 0 := by omega
   subst g1
   exact ⟨by omega, by omega, ⟨by omega, hgood (by simp [riP, h2])⟩, by omega⟩
  ·intro E hE
   cases hE
   exact hQ.1 (hend (by omega))
theorem rRising_at (n m : Nat) (a b u v f : Nat → Int) (pre0 : m ≤ 100000) (pre1 : n ≤ 100000) : SoundAt Tryz.prog 60 [rds n a b u v, .lst 1 m (fun k => [i (f k)])] (bl (risB n m f)) := by
 refine soundAt_fin (G := [(91, Bo.S_rIn)]) (L := [LS_ri2 n m a b u v f]) (SoundG.cons Bo.rIn_ok (SoundG.nil _)) mixed Tryz.func60 (show Tryz.f60.body = some (bodyOf Tryz.f60) by kernel_rfl) (one_loop (lpE (b := .loop B_ri2) (by kernel_rfl) <| ri2_ls n m a b u v f pre0 pre1)) (t := (need [(lst 4 n (rq4 a b u v)) = lst 4 n (rq4 a b u v), (lst 1 m fun k => [iI (f k)]) = lst 1 m fun k => [iI (f k)], (0 : Int) = (↑(0 : Nat) : Int)] (branch (risB n m f) (leaf (RV.x (Value.bool true))) (leaf (RV.x (Value.bool false)))))) (by kernel_rfl) ?_
 simp only [Tree.sat, allP, fitP, fitL, valEq, inI64, true_and, and_true]
 refine ⟨rfl, fun h => ?_, fun h => ?_⟩
 ·rw [h]
 ·rw [h]
def S_rRising : Sx.Spec := fun l => match l with
 | [.lst 4 n f, .lst 1 m g] => some ([isRec 4 n f, isRec 1 m g, m ≤ 100000, n ≤ 100000], bl (risB n m (col 0 g)))
 | _ => none
theorem rRising_ok : SoundSpec Tryz.prog 60 S_rRising := by
 refine ⟨⟨_, Tryz.func60, by kernel_rfl, by kernel_rfl⟩, ?_⟩
 intro avs ns res h hn
 unfold S_rRising at h
 split at h
 ·rename_i n f m g
  cases h
  have hr0 : isRec 4 n f := hn _ (by simp)
  have hr1 : isRec 1 m g := hn _ (by simp)
  exact (rRising_at n m (col 0 f) (col 1 f) (col 2 f) (col 3 f) (col 0 g) (hn _ (by simp)) (hn _ (by simp))).same (.cons (.lst 4 n _ _ hr0) (.cons (.lst 1 m _ _ hr1) .nil))
 ·cases h
noncomputable def E_sm (n m : Nat) (a b u v g : Nat → Int) (o : Bool) : St := (some { σ := [lst 4 n fun k => [iI (a k), iI (b k), iI (u k), iI (v k)], lst 1 m fun j => [iI (g j)], AV.lit o, top, top, top, AV.x (Value.slice none 0 0)] ++ tpL 36 [], m := [(900, Res.row 99 4 0 fun x => [])], nx := 901 } : Option St).getD { σ := [], m := [], nx := 0 }
noncomputable def B_sm : Code := loopBody (loopAt (bodyOf Tryz.f97) 0)
noncomputable def inv_sm (n m : Nat) (a b u v g : Nat → Int) (o : Bool) (k : Nat) : St := { σ := ovrS [(7, .row 900), (8, i k)] (E_sm n m a b u v g o).σ, m := [(900, .row 99 4 (soL m g o k).length (fun j => [i (selF a (nthJ (soL m g o k)) j), i (selF b (nthJ (soL m g o k)) j), i (selF u (nthJ (soL m g o k)) j), i (selF v (nthJ (soL m g o k)) j)]))], nx := (E_sm n m a b u v g o).nx }
noncomputable def out_sm (n m : Nat) (a b u v g : Nat → Int) (o : Bool) (k : Nat) : AEx → Option St := fun ex => match ex with
 | .exit 0 => some { σ := ovrS [(7, .row 900)] (E_sm n m a b u v g o).σ, m := [(900, .row 99 4 (soL m g o n).length (fun j => [i (selF a (nthJ (soL m g o n)) j), i (selF b (nthJ (soL m g o n)) j), i (selF u (nthJ (soL m g o n)) j), i (selF v (nthJ (soL m g o n)) j)]))], nx := (E_sm n m a b u v g o).nx }
 | _ => none
noncomputable def T_sm (n m : Nat) (a b u v g : Nat → Int) (o : Bool) : CT := .leaf (.exit 0, ( out_sm n m a b u v g o 0 (.exit 0)).getD (E_sm n m a b u v g o))
noncomputable def LS_sm (n m : Nat) (a b u v g : Nat → Int) (o : Bool) : LSpec := normSp [(.slot 7, 900, 99, 4)] (sumL (inv_sm n m a b u v g o (0)) (T_sm n m a b u v g o))
noncomputable def E_sj (n m : Nat) (a b u v g : Nat → Int) (o : Bool) (k : Nat) : St := (some { σ := [lst 4 n fun k => [iI (a k), iI (b k), iI (u k), iI (v k)], lst 1 m fun j => [iI (g j)], AV.lit o, top, top, top, AV.x (Value.slice none 0 0), AV.row 900, iI (↑k : Int)] ++ tpL 34 [], m := [(900, Res.row 99 4 (List.length (soL m g o k)) fun j => [iI (selF a (nthJ (soL m g o k)) j), iI (selF b (nthJ (soL m g o k)) j), iI (selF u (nthJ (soL m g o k)) j), iI (selF v (nthJ (soL m g o k)) j)])], nx := 907 } : Option St).getD { σ := [], m := [], nx := 0 }
noncomputable def B_sj : Code := (loopBody (loopAt (loopBody (loopAt (bodyOf Tryz.f97) 0)) 0))
noncomputable def inv_sj (n m : Nat) (a b u v g : Nat → Int) (o : Bool) (k : Nat) (j : Nat) : St := { σ := ovrS [(9, bl (memB j g k)), (10, i j)] (E_sj n m a b u v g o k).σ, m := [(900, .row 99 4 (soL m g o k).length (fun j => [i (selF a (nthJ (soL m g o k)) j), i (selF b (nthJ (soL m g o k)) j), i (selF u (nthJ (soL m g o k)) j), i (selF v (nthJ (soL m g o k)) j)]))], nx := (E_sj n m a b u v g o k).nx }
noncomputable def out_sj (n m : Nat) (a b u v g : Nat → Int) (o : Bool) (k : Nat) (j : Nat) : AEx → Option St := fun ex => match ex with
 | .exit 2 => some { σ := ovrS [(9, bl (memB m g k))] (E_sj n m a b u v g o k).σ, m := [(900, .row 99 4 (soL m g o k).length (fun j => [i (selF a (nthJ (soL m g o k)) j), i (selF b (nthJ (soL m g o k)) j), i (selF u (nthJ (soL m g o k)) j), i (selF v (nthJ (soL m g o k)) j)]))], nx := (E_sj n m a b u v g o k).nx }
 | _ => none
noncomputable def T_sj (n m : Nat) (a b u v g : Nat → Int) (o : Bool) (k : Nat) : CT := .leaf (.exit 2, ( out_sj n m a b u v g o k 0 (.exit 2)).getD (E_sj n m a b u v g o k))
noncomputable def LS_sj (n m : Nat) (a b u v g : Nat → Int) (o : Bool) (k : Nat) : LSpec := normSp [] (sumL (inv_sj n m a b u v g o k (0)) (T_sj n m a b u v g o k))
theorem sj_ls (n m : Nat) (a b u v g : Nat → Int) (o : Bool) (k : Nat) (pre0 : m ≤ 100000) (pre1 : n ≤ 100000) : LSound Tryz.prog (.loop B_sj) (LS_sj n m a b u v g o k) := by
 refine loop_roundsX [] (E := {}) (G := []) (L := []) (SoundG.nil _) (SoundX.of (SoundRL.nil _) (SoundHL.nil _)) mixed noLoops (X := Nat) (inv_sj n m a b u v g o k) (fun j => j ≤ m) (fun j => m - j) (out_sj n m a b u v g o k) (x0 := 0) (by simp) ?_ ?_ ?_
 ·rintro j
  kernel_rfl
 ·rintro j y E h
  unfold out_sj at h
  split at h
  ·cases h; kernel_rfl
  ·cases h
 ·rintro Q hQ j hx
  refine ⟨(j + 1), ?_⟩
  have e : roundX Tryz.prog [] {} [] [] B_sj (inv_sj n m a b u v g o k j) (inv_sj n m a b u v g o k ((j + 1))) (out_sj n m a b u v g o k j) = (let z0 := (lst 4 n (rq4 a b u v)); let z1 := (lst 1 m fun j => [iI (g j)]); let z2 := (AV.x (Value.slice none 0 0)); (branch (decide ((↑j : Int) < (↑m : Int))) (branch (memB j g k) (need [inI64 ((↑j : Int) + 1)] (need [z0 = lst 4 n (rq4 a b u v), z1 = lst 1 m fun j => [iI (g j)], Eq1 (AV.lit o), Eq1 z2, Eq1 (AV.row 900), Eq1 (↑k : Int), true = memB (j + 1) g k, (↑j : Int) + 1 = (↑(j + 1) : Int), Eq1 (List.length (soL m g o k)), ∀ (i : Nat), i < List.length (soL m g o k) → [iI (selF a (nthJ (soL m g o k)) i), iI (selF b (nthJ (soL m g o k)) i), iI (selF u (nthJ (soL m g o k)) i), iI (selF v (nthJ (soL m g o k)) i)] = [iI (selF a (nthJ (soL m g o k)) i), iI (selF b (nthJ (soL m g o k)) i), iI (selF u (nthJ (soL m g o k)) i), iI (selF v (nthJ (soL m g o k)) i)]] (leaf AEx.normal))) (need [(0 : Int) ≤ (↑j : Int) ∧ (↑j : Int) < (↑m : Int)] (need [inI64 ((↑j : Int) + 1)] (need [z0 = lst 4 n (rq4 a b u v), z1 = lst 1 m fun j => [iI (g j)], Eq1 (AV.lit o), Eq1 z2, Eq1 (AV.row 900), Eq1 (↑k : Int), (g j == (↑k : Int)) = memB (j + 1) g k, (↑j : Int) + 1 = (↑(j + 1) : Int), Eq1 (List.length (soL m g o k)), ∀ (i : Nat), i < List.length (soL m g o k) → [iI (selF a (nthJ (soL m g o k)) i), iI (selF b (nthJ (soL m g o k)) i), iI (selF u (nthJ (soL m g o k)) i), iI (selF v (nthJ (soL m g o k)) i)] = [iI (selF a (nthJ (soL m g o k)) i), iI (selF b (nthJ (soL m g o k)) i), iI (selF u (nthJ (soL m g o k)) i), iI (selF v (nthJ (soL m g o k)) i)]] (leaf AEx.normal))))) (need [z0 = lst 4 n (rq4 a b u v), z1 = lst 1 m fun j => [iI (g j)], Eq1 (AV.lit o), Eq1 z2, Eq1 (AV.row 900), Eq1 (↑k : Int), memB j g k = memB m g k, Eq1 (List.length (soL m g o k)), ∀ (i : Nat), i < List.length (soL m g o k) → [iI (selF a (nthJ (soL m g o k)) i), iI (selF b (nthJ (soL m g o k)) i), iI (selF u (nthJ (soL m g o k)) i), iI (selF v (nthJ (soL m g o k)) i)] = [iI (selF a (nthJ (soL m g o k)) i), iI (selF b (nthJ (soL m g o k)) i), iI (selF u (nthJ (soL m g o k)) i), iI (selF v (nthJ (soL m g o k)) i)]] (leaf (AEx.exit 2))))) := by kernel_rfl
  rw [e]
  simp only [T_sj, out_sj, Tree.sat, Option.getD_some] at hQ
  have ms := memB_succ j g k
  simp only [Tree.sat, allP, fitP, fitL, valEq, inI64, true_and, and_true, decide_eq_true_eq, decide_eq_false_iff_not, Int.toNat_natCast]
  clear e
  refine ⟨fun h => ⟨fun h2 => ?_, fun h2 => ?_⟩, fun h => ?_⟩
  ·rw [ms, h2, Bool.true_or]
   (repeat' first | with_reducible apply And.intro | with_reducible intro _)
   all_goals first | exact True.intro | omega | with_reducible rfl | rfl
  ·rw [ms, h2, Bool.false_or]
   (repeat' first | with_reducible apply And.intro | with_reducible intro _)
   all_goals first | exact True.intro | omega | with_reducible rfl | rfl
  ·obtain rfl : j = m := by omega
   (repeat' first | with_reducible apply And.intro | with_reducible intro _)
   all_goals first | exact True.intro | omega | with_reducible rfl | (rename_i E hE; cases hE; exact hQ) | rfl
theorem catS {S : List Int} {a b u v : Nat → Int} {x : Nat} {j : Nat} (h : j < S.length + 1) : catF S.length (fun j => [i (selF a (nthJ S) j), i (selF b (nthJ S) j), i (selF u (nthJ S) j), i (selF v (nthJ S) j)]) (chunk 4 [i (a x), i (b x), i (u x), i (v x)]) j = [i (selF a (nthJ (S ++ [(x : Int)])) j), i (selF b (nthJ (S ++ [(x : Int)])) j), i (selF u (nthJ (S ++ [(x : Int)])) j), i (selF v (nthJ (S ++ [(x : Int)])) j)] := by
 unfold selF
 rw [nthJ_app]
 show mergeL (decide (j < S.length)) _ (chunk 4 [i (a x), i (b x), i (u x), i (v x)] (j - S.length)) = _
 rw [show j - S.length = 0 by omega]
 by_cases hj : j < S.length
 ·rw [decide_eq_true hj, if_pos hj]; rfl
 ·rw [decide_eq_false hj, if_neg hj, show nthJ [(x : Int)] 0 = x from rfl, Int.toNat_natCast]; rfl
theorem sm_ls (n m : Nat) (a b u v g : Nat → Int) (o : Bool) (pre0 : m ≤ 100000) (pre1 : n ≤ 100000) : LSound Tryz.prog (.loop B_sm) (LS_sm n m a b u v g o) := by
 refine loop_roundsX [(.slot 7, 900, 99, 4)] (E := {}) (G := []) (L := [depSp 8 (fun k => LS_sj n m a b u v g o k)]) (SoundG.nil _) (SoundX.of (SoundRL.nil _) (SoundHL.nil _)) mixed (one_loop (fun cj hcj => by
  have e : loopAt B_sm 0 = some (.loop B_sj) := by kernel_rfl
  rw [e] at hcj; cases hcj
  exact depSp_sound (fun k => sj_ls n m a b u v g o k pre0 pre1))) (X := Nat) (inv_sm n m a b u v g o) (fun k => k ≤ n) (fun k => n - k) (out_sm n m a b u v g o) (x0 := 0) (by simp) ?_ ?_ ?_
 ·rintro k
  kernel_rfl
 ·rintro k y E h
  unfold out_sm at h
  split at h
  ·cases h; kernel_rfl
  ·cases h
 ·rintro Q hQ k hx
  refine ⟨(k + 1), ?_⟩
  have e : roundX Tryz.prog [] {} [depSp 8 (fun k => LS_sj n m a b u v g o k)] [(.slot 7, 900, 99, 4)] B_sm (inv_sm n m a b u v g o k) (inv_sm n m a b u v g o ((k + 1))) (out_sm n m a b u v g o k) = (let z0 := (lst 4 n (rq4 a b u v)); let z1 := (lst 1 m fun j => [iI (g j)]); let z2 := (AV.x (Value.slice none 0 0)); (branch (decide ((↑k : Int) < (↑n : Int))) (need [z0 = lst 4 n (rq4 a b u v), z1 = lst 1 m fun j => [iI (g j)], Eq1 (AV.lit o), Eq1 z2, Eq1 (AV.row 900), Eq1 (↑k : Int), false = memB 0 g k, (0 : Int) = (↑(0 : Nat) : Int), Eq1 (List.length (soL m g o k)), ∀ (i : Nat), i < List.length (soL m g o k) → [iI (selF a (nthJ (soL m g o k)) i), iI (selF b (nthJ (soL m g o k)) i), iI (selF u (nthJ (soL m g o k)) i), iI (selF v (nthJ (soL m g o k)) i)] = [iI (selF a (nthJ (soL m g o k)) i), iI (selF b (nthJ (soL m g o k)) i), iI (selF u (nthJ (soL m g o k)) i), iI (selF v (nthJ (soL m g o k)) i)]] (branch (!memB m g k == o) (need [(0 : Int) ≤ (↑k : Int) ∧ (↑k : Int) < (↑n : Int)] (need [(List.length (soL m g o k) + 1) * 32 ≤ 140737488355328, ∀ (i : Nat), i < 1 → ∀ (a_2 : AV), a_2 ∈ chunk 4 [iI (a k), iI (b k), iI (u k), iI (v k)] i → AV.one a_2 = true] (need [inI64 ((↑k : Int) + 1)] (need [z0 = lst 4 n (rq4 a b u v), z1 = lst 1 m fun j => [iI (g j)], Eq1 (AV.lit o), Eq1 z2, Eq1 (AV.row 900), (↑k : Int) + 1 = (↑(k + 1) : Int), List.length (soL m g o k) + 1 = List.length (soL m g o (k + 1)), ∀ (i : Nat), i < List.length (soL m g o (k + 1)) → catF (List.length (soL m g o k)) (fun j => [iI (selF a (nthJ (soL m g o k)) j), iI (selF b (nthJ (soL m g o k)) j), iI (selF u (nthJ (soL m g o k)) j), iI (selF v (nthJ (soL m g o k)) j)]) (chunk 4 [iI (a k), iI (b k), iI (u k), iI (v k)]) i = [iI (selF a (nthJ (soL m g o (k + 1))) i), iI (selF b (nthJ (soL m g o (k + 1))) i), iI (selF u (nthJ (soL m g o (k + 1))) i), iI (selF v (nthJ (soL m g o (k + 1))) i)]] (leaf AEx.normal))))) (need [inI64 ((↑k : Int) + 1)] (need [z0 = lst 4 n (rq4 a b u v), z1 = lst 1 m fun j => [iI (g j)], Eq1 (AV.lit o), Eq1 z2, Eq1 (AV.row 900), (↑k : Int) + 1 = (↑(k + 1) : Int), List.length (soL m g o k) = List.length (soL m g o (k + 1)), ∀ (i : Nat), i < List.length (soL m g o (k + 1)) → [iI (selF a (nthJ (soL m g o k)) i), iI (selF b (nthJ (soL m g o k)) i), iI (selF u (nthJ (soL m g o k)) i), iI (selF v (nthJ (soL m g o k)) i)] = [iI (selF a (nthJ (soL m g o (k + 1))) i), iI (selF b (nthJ (soL m g o (k + 1))) i), iI (selF u (nthJ (soL m g o (k + 1))) i), iI (selF v (nthJ (soL m g o (k + 1))) i)]] (leaf AEx.normal))))) (need [z0 = lst 4 n (rq4 a b u v), z1 = lst 1 m fun j => [iI (g j)], Eq1 (AV.lit o), Eq1 z2, Eq1 (AV.row 900), List.length (soL m g o k) = List.length (soL m g o n), ∀ (i : Nat), i < List.length (soL m g o n) → [iI (selF a (nthJ (soL m g o k)) i), iI (selF b (nthJ (soL m g o k)) i), iI (selF u (nthJ (soL m g o k)) i), iI (selF v (nthJ (soL m g o k)) i)] = [iI (selF a (nthJ (soL m g o n)) i), iI (selF b (nthJ (soL m g o n)) i), iI (selF u (nthJ (soL m g o n)) i), iI (selF v (nthJ (soL m g o n)) i)]] (leaf (AEx.exit 0))))) := by kernel_rfl
  rw [e]
  simp only [T_sm, out_sm, Tree.sat, Option.getD_some] at hQ
  have hs : soL m g o (k + 1) = if memB m g k != o then soL m g o k ++ [(k : Int)] else soL m g o k := rfl
  have hl := soL_len m g o k
  simp only [Tree.sat, allP, fitP, fitL, valEq, inI64, true_and, and_true, decide_eq_true_eq, decide_eq_false_iff_not, Int.toNat_natCast]
  clear e
  refine ⟨fun h => ?_, fun h => ?_⟩
  ·refine ⟨⟨rfl, rfl, fun _ _ => True.intro⟩, fun h2 => ?_, fun h2 => ?_⟩
   ·have h2' : (memB m g k != o) = true := by simpa using h2
    rw [if_pos h2'] at hs
    rw [hs, List.length_append]
    (repeat' first | with_reducible apply And.intro | with_reducible intro _)
    all_goals first | exact True.intro | omega | with_reducible rfl | exact one_of (by assumption) (by simp [AV.one, Value.oneCell']) | exact catS (by assumption) | rfl
   ·have h2' : ¬ (memB m g k != o) = true := by simpa using h2
    rw [if_neg h2'] at hs
    rw [hs]
    (repeat' first | with_reducible apply And.intro | with_reducible intro _)
    all_goals first | exact True.intro | omega | with_reducible rfl | rfl
  ·obtain rfl : k = n := by omega
   (repeat' first | with_reducible apply And.intro | with_reducible intro _)
   all_goals first | exact True.intro | omega | with_reducible rfl | (rename_i E hE; cases hE; exact hQ) | rfl
theorem rSome_at (n m : Nat) (a b u v g : Nat → Int) (o : Bool) (pre0 : m ≤ 100000) (pre1 : n ≤ 100000) : SoundAt Tryz.prog 97 [rds n a b u v, .lst 1 m (fun j => [i (g j)]), .lit o] (rds (soL m g o n).length (selF a (nthJ (soL m g o n))) (selF b (nthJ (soL m g o n))) (selF u (nthJ (soL m g o n))) (selF v (nthJ (soL m g o n)))) := by
 refine soundAt_finX (G := []) (X := {}) (L := [LS_sm n m a b u v g o]) (SoundG.nil _) (SoundX.of (SoundRL.nil _) (SoundHL.nil _)) mixed Tryz.func97 (show Tryz.f97.body = some (bodyOf Tryz.f97) by kernel_rfl) (one_loop (lpE (b := .loop B_sm) (by kernel_rfl) <| (sm_ls n m a b u v g o pre0 pre1).N)) (t := (need [(lst 4 n (rq4 a b u v)) = lst 4 n (rq4 a b u v), (lst 1 m fun j => [iI (g j)]) = lst 1 m fun j => [iI (g j)], Eq1 (AV.lit o), Eq1 (AV.x (Value.slice none 0 0)), Eq1 (AV.row 900), (0 : Int) = (↑(0 : Nat) : Int), 0 = List.length (soL m g o 0), ∀ (i : Nat), i < List.length (soL m g o 0) → [] = [iI (selF a (nthJ (soL m g o 0)) i), iI (selF b (nthJ (soL m g o 0)) i), iI (selF u (nthJ (soL m g o 0)) i), iI (selF v (nthJ (soL m g o 0)) i)]] (leaf (RV.lst 4 (List.length (soL m g o n)) fun j => [iI (selF a (nthJ (soL m g o n)) j), iI (selF b (nthJ (soL m g o n)) j), iI (selF u (nthJ (soL m g o n)) j), iI (selF v (nthJ (soL m g o n)) j)])))) (by kernel_rfl) ?_
 simp only [Tree.sat, allP, fitP, fitL, valEq, inI64, true_and, and_true]
 (repeat' first | with_reducible apply And.intro | with_reducible intro _)
 all_goals first | exact True.intro | omega | with_reducible rfl | rfl | (rename_i hm; simp only [List.mem_cons, List.not_mem_nil, or_false] at hm; rcases hm with rfl | rfl | rfl | rfl <;> exact True.intro) | (rename_i h; exact absurd h (Nat.not_lt_zero _))
def S_rSome : Sx.Spec := fun l => match l with
 | [.lst 4 n f, .lst 1 m g, .lit o] => some ([isRec 4 n f, isRec 1 m g, m ≤ 100000, n ≤ 100000], rds (soL m (col 0 g) o n).length (selF (col 0 f) (nthJ (soL m (col 0 g) o n))) (selF (col 1 f) (nthJ (soL m (col 0 g) o n))) (selF (col 2 f) (nthJ (soL m (col 0 g) o n))) (selF (col 3 f) (nthJ (soL m (col 0 g) o n))))
 | _ => none
theorem rSome_ok : SoundSpec Tryz.prog 97 S_rSome := by
 refine ⟨⟨_, Tryz.func97, by kernel_rfl, by kernel_rfl⟩, ?_⟩
 intro avs ns res h hn
 unfold S_rSome at h
 split at h
 ·rename_i n f m g o
  cases h
  have hr : isRec 4 n f := hn _ (by simp)
  have hg : isRec 1 m g := hn _ (by simp)
  exact (rSome_at n m (col 0 f) (col 1 f) (col 2 f) (col 3 f) (col 0 g) o (hn _ (by simp)) (hn _ (by simp))).same (.cons (.lst 4 n _ _ hr) (.cons (.lst 1 m _ _ hg) (.cons (.refl _) .nil)))
 ·cases h
end Go.Proofs.YtlinbkmpkcmniaaGreat
namespace Go.Proofs.YtlinbkmpkcmniaaGreat
open Go Go.Sx Go.RowKit Bo
open Go.Sx.Tree (need branch leaf)
open Go.Sx.AV (lst ptr agg roI tup top)
theorem ofB_nat (j k : Nat) : ofB (j : Int) k = j.testBit k := by
 unfold ofB
 rw [Nat.testBit_eq_decide_div_mod_eq]
 have e1 : ((j : Int) / 2 ^ k) = ((j / 2 ^ k : Nat) : Int) := by
  rw [Int.natCast_ediv]
  simp
 rw [e1]
 generalize j / 2 ^ k = q
 have e2 : Int.tmod (q : Int) 2 = ((q % 2 : Nat) : Int) := by
  rw [Int.tmod_eq_emod_of_nonneg (by omega)]
  omega
 rw [e2, Bool.eq_iff_iff, beq_iff_eq, decide_eq_true_eq]
 omega
theorem ofL_congr {x y : Int} : ∀ {k : Nat}, (∀ j, j < k → ofB x j = ofB y j) → ofL x k = ofL y k
 | 0, _ => rfl
 | k + 1, h => by
  unfold ofL
  rw [h k (by omega), ofL_congr (fun j hj => h j (by omega))]
theorem risF_snoc : ∀ {S : List Int} {s n : Nat}, s ≤ n → risF s n S → risF s (n + 1) (S ++ [(n : Int)])
 | [], s, n, h, _ => ⟨by omega, by omega, trivial⟩
 | x :: t, s, n, h, hr => by
  obtain ⟨h1, h2, h3⟩ := hr
  exact ⟨h1, by omega, risF_snoc (by omega) h3⟩
theorem risF_mono : ∀ {S : List Int} {s n : Nat}, risF s n S → risF s (n + 1) S
 | [], _, _, _ => trivial
 | x :: t, s, n, hr => by
  obtain ⟨h1, h2, h3⟩ := hr
  exact ⟨h1, by omega, risF_mono h3⟩
theorem ofL_ris (bits : Int) : ∀ n, risF 0 n (ofL bits n)
 | 0 => trivial
 | n + 1 => by
  unfold ofL
  split
  ·exact risF_snoc (Nat.zero_le _) (ofL_ris bits n)
  ·exact risF_mono (ofL_ris bits n)
theorem risF_last : ∀ {S : List Int} {s n : Nat}, risF s (n + 1) S → risF s n S ∨ ∃ S', S = S' ++ [(n : Int)] ∧ risF s n S'
 | [], _, _, _ => .inl trivial
 | x :: t, s, n, hr => by
  obtain ⟨h1, h2, h3⟩ := hr
  rcases risF_last h3 with h4 | ⟨S', h4, h5⟩
  ·rcases (show x < n ∨ x = n by omega) with h6 | h6
   ·exact .inl ⟨h1, h6, h4⟩
   ·refine .inr ⟨[], ?_, trivial⟩
    have : t = [] := by
     cases t with
     | nil => rfl
     | cons y t' =>
      obtain ⟨g1, g2, _⟩ := h4
      omega
    rw [this, h6]
    rfl
  ·rcases (show x < n ∨ x = n by omega) with h6 | h6
   ·exact .inr ⟨x :: S', by rw [h4]; rfl, h1, h6, h5⟩
   ·exfalso
    obtain ⟨g1, g2, _⟩ : ((x.toNat + 1 : Nat) : Int) ≤ n ∧ (n : Int) < n + 1 ∧ True := by
     have hmem : ∀ {S : List Int} {s m : Nat} {y : Int}, risF s m S → y ∈ S → (s : Int) ≤ y := by
      intro S
      induction S with
      | nil => intro s m y _ h; cases h
      | cons z t ih =>
       intro s m y h hy
       obtain ⟨q1, q2, q3⟩ := h
       rcases List.mem_cons.1 hy with rfl | hy
       ·exact q1
       ·have := ih q3 hy
        omega
     exact ⟨hmem h3 (by rw [h4]; simp), by omega, trivial⟩
    omega
theorem ofL_onto : ∀ {n : Nat} {S : List Int}, risF 0 n S → ∃ j : Nat, j < 2 ^ n ∧ ofL (j : Int) n = S
 | 0, S, h => by
  have := risF_len h
  exact ⟨0, by simp, (List.eq_nil_of_length_eq_zero (by omega)).symm⟩
 | n + 1, S, h => by
  rcases risF_last h with h1 | ⟨S', rfl, h1⟩
  ·obtain ⟨j, hj, rfl⟩ := ofL_onto h1
   refine ⟨j, by rw [Nat.pow_succ]; omega, ?_⟩
   have : ofB (j : Int) n = false := by rw [ofB_nat, Nat.testBit_lt_two_pow hj]
   show (if ofB (j : Int) n then ofL j n ++ [(n : Int)] else ofL j n) = ofL j n
   rw [if_neg (by rw [this]; simp)]
  ·obtain ⟨j, hj, rfl⟩ := ofL_onto h1
   refine ⟨2 ^ n + j, by rw [Nat.pow_succ]; omega, ?_⟩
   have h2 : ofB ((2 ^ n + j : Nat) : Int) n = true := by
    rw [ofB_nat, Nat.testBit_two_pow_add_eq, Nat.testBit_lt_two_pow hj]
    rfl
   show (if ofB ((2 ^ n + j : Nat) : Int) n then ofL ((2 ^ n + j : Nat) : Int) n ++ [(n : Int)] else ofL ((2 ^ n + j : Nat) : Int) n) = _
   rw [if_pos h2]
   congr 1
   refine ofL_congr fun k hk => ?_
   rw [ofB_nat, ofB_nat, Nat.testBit_two_pow_add_gt hk]
theorem wrap_nat {q : Nat} (h : q < 2 ^ 40) : IntKind.i64.wrap (q : Int) = q := by
 have e : IntKind.i64.wrap (q : Int) = if (true && decide ((q : Int) % 2 ^ 64 ≥ 2 ^ 63)) = true then (q : Int) % 2 ^ 64 - 2 ^ 64 else (q : Int) % 2 ^ 64 := rfl
 have e2 : (q : Int) % 2 ^ 64 = q := Int.emod_eq_of_lt (by omega) (by omega)
 rw [e, e2, if_neg]
 rw [Bool.true_and, decide_eq_true_eq]
 omega
theorem bv_nat {z : Nat} (hz : z < 8192) : (BitVec.ofInt 64 (z : Int)).toNat = z := by
 rw [BitVec.toNat_ofInt]
 omega
theorem orI_nat {x y : Nat} (hx : x < 8192) (hy : y < 8192) : orI x y = ((x ||| y : Nat) : Int) := by
 unfold orI
 rw [BitVec.toNat_or, bv_nat hx, bv_nat hy]
 have hlt : x ||| y < 2 ^ 13 := Nat.or_lt_two_pow (by omega) (by omega)
 exact wrap_nat (by omega)
theorem andI_one {x : Nat} (hx : x < 8192) : andI x 1 = ((x % 2 : Nat) : Int) := by
 unfold andI
 rw [BitVec.toNat_and, bv_nat hx, show (BitVec.ofInt 64 1).toNat = 1 from rfl, Nat.and_one_is_mod]
 exact wrap_nat (by omega)
theorem div_pow (j k : Nat) : ((j : Int) / 2 ^ k) = ((j / 2 ^ k : Nat) : Int) := by
 rw [Int.natCast_ediv]
 simp
theorem selB_nat {j k : Nat} (hj : j < 8192) : selB (j : Int) k = j.testBit k := by
 unfold selB
 rw [div_pow, andI_one (Nat.lt_of_le_of_lt (Nat.div_le_self _ _) hj), Nat.testBit_eq_decide_div_mod_eq, Bool.eq_iff_iff, beq_iff_eq, decide_eq_true_eq]
 omega
theorem selL_of {j : Nat} (hj : j < 8192) : ∀ k, selL (j : Int) k = (ofL (j : Int) k).map Int.toNat
 | 0 => rfl
 | k + 1 => by
  unfold selL ofL
  rw [selB_nat hj, ofB_nat, selL_of hj k]
  split
  ·rw [List.map_append]
   rfl
  ·rfl
theorem pow_le {n : Nat} (h : n ≤ 12) : 2 ^ n ≤ 4096 := by
 have : (2 : Nat) ^ n ≤ 2 ^ 12 := Nat.pow_le_pow_right (by omega) h
 omega
theorem bits_of {j : Nat} : ∀ {n : Nat}, n ≤ 12 → bitsL (ofL (j : Int) n) = ((j % 2 ^ n : Nat) : Int)
 | 0, _ => by
  show (0 : Int) = _
  rw [Nat.pow_zero, Nat.mod_one]
  rfl
 | n + 1, h => by
  have ih := bits_of (j := j) (n := n) (by omega)
  have hp := pow_le (n := n) (by omega)
  have hlt : j % 2 ^ n < 2 ^ n := Nat.mod_lt _ (Nat.two_pow_pos n)
  have hm : j % 2 ^ (n + 1) = j % 2 ^ n + 2 ^ n * (j / 2 ^ n % 2) := by rw [Nat.pow_succ, Nat.mod_mul]
  have ht := ofB_nat j n
  rw [Nat.testBit_eq_decide_div_mod_eq] at ht
  unfold ofL
  by_cases hb : j / 2 ^ n % 2 = 1
  ·rw [ht, decide_eq_true hb, if_pos rfl, bits_app, ih, Int.toNat_natCast]
   have e : (1 : Int) * 2 ^ n = ((2 ^ n : Nat) : Int) := by simp
   have h2 := Nat.two_pow_add_eq_or_of_lt hlt 1
   rw [Nat.mul_one] at h2
   rw [e, orI_nat (by omega) (by omega), hm, hb, Nat.mul_one, Nat.or_comm, ← h2]
   congr 1
   exact Nat.add_comm _ _
  ·rw [ht, decide_eq_false hb, if_neg (by decide), ih, hm, show j / 2 ^ n % 2 = 0 by omega]
   congr 1
theorem sel_bits {n : Nat} {S : List Int} (hn : n ≤ 12) (h : risF 0 n S) : selL (bitsL S) n = S.map Int.toNat := by
 obtain ⟨j, hj, rfl⟩ := ofL_onto h
 have hp := pow_le hn
 rw [bits_of hn, Nat.mod_eq_of_lt hj]
 exact selL_of (by omega) n
theorem sg_map (f : Nat → Int) (S : List Int) {j : Nat} (hj : j < S.length) : sg f (S.map Int.toNat) j = selF f (nthJ S) j := by
 unfold sg selF
 rw [List.getD_eq_getElem?_getD, List.getElem?_map, List.getElem?_eq_getElem hj, nthJ_get hj]
 rfl
def kpS (c T lo hi : Int) (n : Nat) (a b u v : Nat → Int) (m : Nat) (p q : Nat → Int) (pl ph dl dh : Int) (u0 u1 wi day : Int) (S : List Int) : Bool := decide (rdE c T lo hi S.length (selF a (nthJ S)) (selF b (nthJ S)) (selF u (nthJ S)) (selF v (nthJ S)) m p q pl ph dl dh = 0) && keB c (wkA c T lo hi S.length (selF a (nthJ S)) (selF b (nthJ S)) (selF u (nthJ S)) (selF v (nthJ S)) m p q pl ph dl dh) u0 u1 wi day
theorem rd_congr {c T lo hi : Int} {n : Nat} {a b u v a' b' u' v' : Nat → Int} {m : Nat} {p q : Nat → Int} {pl ph dl dh : Int} (h : ∀ j, j < n → a j = a' j ∧ b j = b' j ∧ u j = u' j ∧ v j = v' j) : rdE c T lo hi n a b u v m p q pl ph dl dh = rdE c T lo hi n a' b' u' v' m p q pl ph dl dh ∧ wkA c T lo hi n a b u v m p q pl ph dl dh = wkA c T lo hi n a' b' u' v' m p q pl ph dl dh := by
 obtain ⟨h1, h2, h3, h4⟩ := eB_congr (c := c) (T := T) (lo := lo) (hi := hi) h
 unfold rdE wkA bdL bdH
 rw [h1, h3]
 exact ⟨rfl, rfl⟩
theorem en_kp {c T lo hi : Int} {n : Nat} {a b u v : Nat → Int} {m : Nat} {p q : Nat → Int} {pl ph dl dh u0 u1 wi day : Int} {S : List Int} (hn : n ≤ 12) (h : risF 0 n S) : enL c T lo hi n a b u v m p q pl ph dl dh u0 u1 wi day S = kpS c T lo hi n a b u v m p q pl ph dl dh u0 u1 wi day S := by
 unfold enL enB kpS enS
 rw [sel_bits hn h]
 obtain ⟨h1, h2⟩ := rd_congr (c := c) (T := T) (lo := lo) (hi := hi) (n := (S.map Int.toNat).length) (m := m) (p := p) (q := q) (pl := pl) (ph := ph) (dl := dl) (dh := dh) (a := sg a (S.map Int.toNat)) (b := sg b (S.map Int.toNat)) (u := sg u (S.map Int.toNat)) (v := sg v (S.map Int.toNat)) (a' := selF a (nthJ S)) (b' := selF b (nthJ S)) (u' := selF u (nthJ S)) (v' := selF v (nthJ S)) fun j hj => by
  rw [List.length_map] at hj
  exact ⟨sg_map a S hj, sg_map b S hj, sg_map u S hj, sg_map v S hj⟩
 rw [h1, h2, List.length_map]
theorem kp_all {c T lo hi : Int} {n : Nat} {a b u v : Nat → Int} {m : Nat} {p q : Nat → Int} {pl ph dl dh u0 u1 wi day : Int} : kpS c T lo hi n a b u v m p q pl ph dl dh u0 u1 wi day (numsL 0 n) = (decide (rdE c T lo hi n a b u v m p q pl ph dl dh = 0) && keB c (wkA c T lo hi n a b u v m p q pl ph dl dh) u0 u1 wi day) := by
 unfold kpS
 rw [numsL_len]
 have e : ∀ f : Nat → Int, ∀ j, j < n → selF f (nthJ (numsL 0 n)) j = f j := fun f j hj => by
  unfold selF
  rw [numsL_nth hj, Int.toNat_natCast, Nat.zero_add]
 obtain ⟨h1, h2⟩ := rd_congr (c := c) (T := T) (lo := lo) (hi := hi) (n := n) (m := m) (p := p) (q := q) (pl := pl) (ph := ph) (dl := dl) (dh := dh) (a := selF a (nthJ (numsL 0 n))) (b := selF b (nthJ (numsL 0 n))) (u := selF u (nthJ (numsL 0 n))) (v := selF v (nthJ (numsL 0 n))) (a' := a) (b' := b) (u' := u) (v' := v) fun j hj => ⟨e a j hj, e b j hj, e u j hj, e v j hj⟩
 rw [h1, h2]
theorem numsL_risn (n : Nat) : risF 0 n (numsL 0 n) := numsL_ris (Nat.le_of_eq (Nat.zero_add n))
end Go.Proofs.YtlinbkmpkcmniaaGreat
namespace Go.Proofs.YtlinbkmpkcmniaaGreat
open Go Go.Sx Go.RowKit Bo
open Go.Sx.Tree (need branch leaf)
open Go.Sx.AV (lst ptr agg roI tup top)
noncomputable def H_tkA : HSpec := fun avs m nx sv => match avs with
 | [o, g, s, .x (.int .i64 M), t, f, x, e] => H_tk M.toNat [o, g, s, .x (.int .i64 M), t, f, x, e] m nx sv
 | _ => none
def egL (c T lo hi : Int) (n : Nat) (a b u v : Nat → Int) (m : Nat) (p q : Nat → Int) (pl ph dl dh : Int) (u0 u1 wi day : Int) : List Int := if hgE c T lo hi n a b u v m p q pl ph dl dh u0 u1 wi day = 0 then blR (enL c T lo hi n a b u v m p q pl ph dl dh u0 u1 wi day) n else []
theorem tkA_okH : SoundHSpec Tryz.prog 95 H_tkA := by
 refine ⟨(tk_all 0).1, ?_⟩
 intro avs m nx sv t ht
 unfold H_tkA at ht
 split at ht
 ·exact (tk_all _).2 _ m nx sv t ht
 ·cases ht
theorem hg_0 {c T lo hi : Int} {n : Nat} {a b u v : Nat → Int} {m : Nat} {p q : Nat → Int} {pl ph dl dh u0 u1 wi day : Int} : hgE c T lo hi n a b u v m p q pl ph dl dh u0 u1 wi day = 0 ↔ asE c T lo hi n a b u v m p q pl ph dl dh u0 u1 wi day = 0 ∧ keB c (wkA c T lo hi n a b u v m p q pl ph dl dh) u0 u1 wi day = true := by
 unfold hgE
 by_cases h : asE c T lo hi n a b u v m p q pl ph dl dh u0 u1 wi day = 0
 ·rw [if_pos h]
  cases hk : keB c (wkA c T lo hi n a b u v m p q pl ph dl dh) u0 u1 wi day with
  | true => exact ⟨fun _ => ⟨h, rfl⟩, fun _ => rfl⟩
  | false => exact ⟨fun h => (by cases h), fun h => (by cases h.2)⟩
 ·rw [if_neg h]
  exact ⟨fun h2 => absurd h2 h, fun h2 => h2.1⟩
theorem eg_spec {c T lo hi : Int} {n : Nat} {a b u v : Nat → Int} {m : Nat} {p q : Nat → Int} {pl ph dl dh u0 u1 wi day : Int} (h : rdE c T lo hi n a b u v m p q pl ph dl dh = 0) (hk : keB c (wkA c T lo hi n a b u v m p q pl ph dl dh) u0 u1 wi day = true) : ∃ m_, m_ ≤ n ∧ lvF (enL c T lo hi n a b u v m p q pl ph dl dh u0 u1 wi day) n m_ [] 0 = some (blR (enL c T lo hi n a b u v m p q pl ph dl dh u0 u1 wi day) n) ∧ (∀ j, j < m_ → lvF (enL c T lo hi n a b u v m p q pl ph dl dh u0 u1 wi day) n j [] 0 = none) ∧ risF 0 n (blR (enL c T lo hi n a b u v m p q pl ph dl dh u0 u1 wi day) n) ∧ enL c T lo hi n a b u v m p q pl ph dl dh u0 u1 wi day (blR (enL c T lo hi n a b u v m p q pl ph dl dh u0 u1 wi day) n) = true ∧ (blR (enL c T lo hi n a b u v m p q pl ph dl dh u0 u1 wi day) n).length = m_ ∧
  ∀ S, risF 0 n S → enL c T lo hi n a b u v m p q pl ph dl dh u0 u1 wi day S = true → m_ ≤ S.length ∧ (S.length = m_ → lexL S (blR (enL c T lo hi n a b u v m p q pl ph dl dh u0 u1 wi day) n) = false) :=
 blR_spec (numsL_risn n) (by rw [en_kp (rdE_0 h).1 (numsL_risn n), kp_all, h, hk]; rfl)
noncomputable def E_em (c T lo hi : Int) (n : Nat) (a b u v : Nat → Int) (m : Nat) (p q : Nat → Int) (pl ph dl dh : Int) (u0 u1 wi day : Int) : St := (some { σ := mkS 39 [(0, .agg [i c, i T, i lo, i hi, rds n a b u v, Pt.scs m p q, i pl, i ph, i dl, i dh]), (1, .agg [i u0, i u1, i wi]), (2, i day), (3, .ptr 0 0), (4, .ptr 1 0), (6, .x (.slice none 0 0)), (7, i 0), (8, .ptr 47 0), (9, .ptr 48 0), (10, i 0), (11, .ptr 54 0), (12, .ptr 55 0), (29, i ((n : Int) + 1))], m := [(55, .cells 164 [.fn (.func 95) [] [.ptr 47 0, .ptr 54 0, .ptr 0 0, .ptr 55 0]]), (54, .cells 64 [.top]), (47, .cells 158 [.ptr 33 0]), (33, .cells 200 [i c, i T, i lo, i hi, rds n a b u v, Pt.scs m p q, i pl, i ph, i dl, i dh, i u0, i u1, i wi, i day, .mp 31]), (31, .memo enH (enF c T lo hi n a b u v m p q pl ph dl dh u0 u1 wi day)), (0, .cells 47 [i c, i T, i lo, i hi, rds n a b u v, Pt.scs m p q, i pl, i ph, i dl, i dh])], nx := 901 } : Option St).getD { σ := [], m := [], nx := 0 }
noncomputable def B_em : Code := loopBody (loopAt (bodyOf Tryz.f55) 0)
noncomputable def inv_em (c T lo hi : Int) (n : Nat) (a b u v : Nat → Int) (m : Nat) (p q : Nat → Int) (pl ph dl dh : Int) (u0 u1 wi day : Int) (k : Nat) : St := { σ := ovrS [(30, i k)] (E_em c T lo hi n a b u v m p q pl ph dl dh u0 u1 wi day).σ, m := [(55, .cells 164 [.fn (.func 95) [] [.ptr 47 0, .ptr 54 0, .ptr 0 0, .ptr 55 0]]), (54, .cells 64 [.top]), (47, .cells 158 [.ptr 33 0]), (33, .cells 200 [i c, i T, i lo, i hi, rds n a b u v, Pt.scs m p q, i pl, i ph, i dl, i dh, i u0, i u1, i wi, i day, .mp 31]), (31, .memo enH (enF c T lo hi n a b u v m p q pl ph dl dh u0 u1 wi day)), (0, .cells 47 [i c, i T, i lo, i hi, rds n a b u v, Pt.scs m p q, i pl, i ph, i dl, i dh])], nx := 901 }
noncomputable def out_em (c T lo hi : Int) (n : Nat) (a b u v : Nat → Int) (m : Nat) (p q : Nat → Int) (pl ph dl dh : Int) (u0 u1 wi day : Int) (k : Nat) : AEx → Option St := fun ex => match ex with
 | .exit 0 => some { σ := ovrS [] (E_em c T lo hi n a b u v m p q pl ph dl dh u0 u1 wi day).σ, m := [(900, .row 3 1 (blR (enL c T lo hi n a b u v m p q pl ph dl dh u0 u1 wi day) n).length (fun j => [i (nthJ (blR (enL c T lo hi n a b u v m p q pl ph dl dh u0 u1 wi day) n) j)])), (55, .cells 164 [.fn (.func 95) [] [.ptr 47 0, .ptr 54 0, .ptr 0 0, .ptr 55 0]]), (54, .cells 64 [.row 900]), (47, .cells 158 [.ptr 33 0]), (33, .cells 200 [i c, i T, i lo, i hi, rds n a b u v, Pt.scs m p q, i pl, i ph, i dl, i dh, i u0, i u1, i wi, i day, .mp 31]), (31, .memo enH (enF c T lo hi n a b u v m p q pl ph dl dh u0 u1 wi day)), (0, .cells 47 [i c, i T, i lo, i hi, rds n a b u v, Pt.scs m p q, i pl, i ph, i dl, i dh])], nx := 901 }
 | _ => none
noncomputable def T_em (c T lo hi : Int) (n : Nat) (a b u v : Nat → Int) (m : Nat) (p q : Nat → Int) (pl ph dl dh : Int) (u0 u1 wi day : Int) : CT := .leaf (.exit 0, ( out_em c T lo hi n a b u v m p q pl ph dl dh u0 u1 wi day 0 (.exit 0)).getD (E_em c T lo hi n a b u v m p q pl ph dl dh u0 u1 wi day))
noncomputable def LS_em (c T lo hi : Int) (n : Nat) (a b u v : Nat → Int) (m : Nat) (p q : Nat → Int) (pl ph dl dh : Int) (u0 u1 wi day : Int) : LSpec := normSp [(.cell 54 0, 900, 3, 1)] (sumL (inv_em c T lo hi n a b u v m p q pl ph dl dh u0 u1 wi day (0)) (T_em c T lo hi n a b u v m p q pl ph dl dh u0 u1 wi day))
theorem em_ls (c T lo hi : Int) (n : Nat) (a b u v : Nat → Int) (m : Nat) (p q : Nat → Int) (pl ph dl dh : Int) (u0 u1 wi day : Int) (pre0 : rdE c T lo hi n a b u v m p q pl ph dl dh = 0) (pre1 : usB c u0 u1 wi = true) (pre2 : 0 ≤ day ∧ day ≤ 10000) (pre3 : keB c (wkA c T lo hi n a b u v m p q pl ph dl dh) u0 u1 wi day = true) : LSound Tryz.prog (.loop B_em) (LS_em c T lo hi n a b u v m p q pl ph dl dh u0 u1 wi day) := by
 refine loop_roundsX [(.cell 54 0, 900, 3, 1)] (E := { R := [], H := [(95, H_tkA)] }) (G := []) (L := []) (SoundG.nil _) (SoundX.of (SoundRL.nil _) (SoundHL.cons tkA_okH (SoundHL.nil _))) mixed noLoops (X := Nat) (inv_em c T lo hi n a b u v m p q pl ph dl dh u0 u1 wi day) (fun k => k ≤ n + 1 ∧ ∀ j, j < k → lvF (enL c T lo hi n a b u v m p q pl ph dl dh u0 u1 wi day) n j [] 0 = none) (fun k => n + 1 - k) (out_em c T lo hi n a b u v m p q pl ph dl dh u0 u1 wi day) (x0 := 0) ⟨Nat.zero_le _, fun j h1 => by omega⟩ ?_ ?_ ?_
 ·rintro k
  kernel_rfl
 ·rintro k y E h
  unfold out_em at h
  split at h
  ·cases h; kernel_rfl
  ·cases h
 ·rintro Q hQ k hx
  refine ⟨(k + 1), ?_⟩
  have e : roundX Tryz.prog [] { R := [], H := [(95, H_tkA)] } [] [(.cell 54 0, 900, 3, 1)] B_em (inv_em c T lo hi n a b u v m p q pl ph dl dh u0 u1 wi day k) (inv_em c T lo hi n a b u v m p q pl ph dl dh u0 u1 wi day ((k + 1))) (out_em c T lo hi n a b u v m p q pl ph dl dh u0 u1 wi day k) = (let z0 := (agg [iI c, iI T, iI lo, iI hi, lst 4 n (rq4 a b u v), lst 2 m fun k => [iI (p k), iI (q k)], iI pl, iI ph, iI dl, iI dh]); let z1 := enF c T lo hi n a b u v m p q pl ph dl dh u0 u1 wi day; let z2 := (enL c T lo hi n a b u v m p q pl ph dl dh u0 u1 wi day); let z3 := (AV.fn (Fn.func 95) [] [ptr 47 0, ptr 54 0, ptr 0 0, ptr 55 0]); let z4 := (lst 4 n (rq4 a b u v)); let z5 := (agg [iI u0, iI u1, iI wi]); let z6 := (AV.x (Value.slice none 0 0)); let z7 := (lvG z2 n k (outL 0 fun x => []) (Int.toNat (0 : Int))); (branch (decide ((↑k : Int) < (↑n : Int) + 1)) (need [isRec 4 n fun k => [Bo.i (a k), Bo.i (b k), Bo.i (u k), Bo.i (v k)], isRec 2 m fun k => [Pt.i (p k), Pt.i (q k)], isRec 1 0 fun x => [], n ≤ 12, usB c u0 u1 wi = true, (0 : Int) ≤ day ∧ day ≤ (10000 : Int), enH = enH, Eq1 (z1), (0 : Int) = bitsL (outL 0 fun x => []), Eq1 (↑k : Int), (0 : Int) ≤ 0 ∧ (0 : Int) ≤ (↑n : Int), 0 + k ≤ 1000, c = c, T = T, lo = lo, hi = hi, n = n, (fun k => [Bo.i (a k), Bo.i (b k), Bo.i (u k), Bo.i (v k)]) = fun k => [Bo.i (a k), Bo.i (b k), Bo.i (u k), Bo.i (v k)], m = m, (fun k => [Pt.i (p k), Pt.i (q k)]) = fun k => [Pt.i (p k), Pt.i (q k)], pl = pl, ph = ph, dl = dl, dh = dh] (branch (Option.isSome (lvF z2 n k (outL 0 fun x => []) (Int.toNat (0 : Int)))) (need [Eq1 z0, Eq1 z5, day = day, Eq1 (ptr 0 0), Eq1 (ptr 1 0), Eq1 z6, Eq1 (0 : Int), Eq1 (ptr 47 0), Eq1 (ptr 48 0), Eq1 (0 : Int), Eq1 (ptr 54 0), Eq1 (ptr 55 0), Eq1 ((↑n : Int) + 1), List.length z7 = List.length (blR z2 n), ∀ (i : Nat), i < List.length (blR z2 n) → [iI (nthJ z7 i)] = [iI (nthJ (blR z2 n) i)], Eq1 z3, Eq1 (AV.row 900), Eq1 (ptr 33 0), c = c, T = T, lo = lo, hi = hi, z4 = lst 4 n (rq4 a b u v), (lst 2 m fun k => [iI (p k), iI (q k)]) = lst 2 m fun k => [iI (p k), iI (q k)], pl = pl, ph = ph, dl = dl, dh = dh, u0 = u0, u1 = u1, wi = wi, day = day, Eq1 (AV.mp 31), ∀ (k : Value), enH k → enH k ∧ z1 k = z1 k, c = c, T = T, lo = lo, hi = hi, z4 = lst 4 n (rq4 a b u v), (lst 2 m fun k => [iI (p k), iI (q k)]) = lst 2 m fun k => [iI (p k), iI (q k)], pl = pl, ph = ph, dl = dl, dh = dh] (leaf (AEx.exit 0))) (need [inI64 ((↑k : Int) + 1)] (need [Eq1 z0, Eq1 z5, day = day, Eq1 (ptr 0 0), Eq1 (ptr 1 0), Eq1 z6, Eq1 (0 : Int), Eq1 (ptr 47 0), Eq1 (ptr 48 0), Eq1 (0 : Int), Eq1 (ptr 54 0), Eq1 (ptr 55 0), Eq1 ((↑n : Int) + 1), (↑k : Int) + 1 = (↑(k + 1) : Int), Eq1 z3, Eq1 (ptr 33 0), c = c, T = T, lo = lo, hi = hi, z4 = lst 4 n (rq4 a b u v), (lst 2 m fun k => [iI (p k), iI (q k)]) = lst 2 m fun k => [iI (p k), iI (q k)], pl = pl, ph = ph, dl = dl, dh = dh, u0 = u0, u1 = u1, wi = wi, day = day, Eq1 (AV.mp 31), ∀ (k : Value), enH k → enH k ∧ z1 k = z1 k, c = c, T = T, lo = lo, hi = hi, z4 = lst 4 n (rq4 a b u v), (lst 2 m fun k => [iI (p k), iI (q k)]) = lst 2 m fun k => [iI (p k), iI (q k)], pl = pl, ph = ph, dl = dl, dh = dh] (leaf AEx.normal))))) (need [Eq1 z0, Eq1 z5, day = day, Eq1 (ptr 0 0), Eq1 (ptr 1 0), Eq1 z6, Eq1 (0 : Int), Eq1 (ptr 47 0), Eq1 (ptr 48 0), Eq1 (0 : Int), Eq1 (ptr 54 0), Eq1 (ptr 55 0), Eq1 ((↑n : Int) + 1), False, Eq1 z3, top = AV.row 900, Eq1 (ptr 33 0), c = c, T = T, lo = lo, hi = hi, z4 = lst 4 n (rq4 a b u v), (lst 2 m fun k => [iI (p k), iI (q k)]) = lst 2 m fun k => [iI (p k), iI (q k)], pl = pl, ph = ph, dl = dl, dh = dh, u0 = u0, u1 = u1, wi = wi, day = day, Eq1 (AV.mp 31), ∀ (k : Value), enH k → enH k ∧ z1 k = z1 k, c = c, T = T, lo = lo, hi = hi, z4 = lst 4 n (rq4 a b u v), (lst 2 m fun k => [iI (p k), iI (q k)]) = lst 2 m fun k => [iI (p k), iI (q k)], pl = pl, ph = ph, dl = dl, dh = dh] (leaf (AEx.exit 0))))) := by kernel_rfl
  rw [e]
  simp only [T_em, out_em, Tree.sat, Option.getD_some] at hQ
  obtain ⟨x1, x2⟩ := hx
  have hn := (rdE_0 pre0).1
  obtain ⟨m_, hm, hlm, hnone, _⟩ := eg_spec (u0 := u0) (u1 := u1) (wi := wi) (day := day) pre0 pre3
  have hO : outL 0 (fun _ => ([] : List AV)) = [] := rfl
  have hz : Int.toNat 0 = 0 := rfl
  have hgood : (lvF (enL c T lo hi n a b u v m p q pl ph dl dh u0 u1 wi day) n k [] 0).isSome = true → lvG (enL c T lo hi n a b u v m p q pl ph dl dh u0 u1 wi day) n k [] 0 = blR (enL c T lo hi n a b u v m p q pl ph dl dh u0 u1 wi day) n := by
   intro h
   have hk : k = m_ := by
    rcases (show k < m_ ∨ k = m_ ∨ m_ < k by omega) with h1 | h1 | h1
    ·rw [hnone k h1] at h
     cases h
    ·exact h1
    ·rw [x2 m_ h1] at hlm
     cases hlm
   subst hk
   unfold lvG
   rw [hlm]
   rfl
  have hnext : (lvF (enL c T lo hi n a b u v m p q pl ph dl dh u0 u1 wi day) n k [] 0).isSome = false → ∀ j, j < k + 1 → lvF (enL c T lo hi n a b u v m p q pl ph dl dh u0 u1 wi day) n j [] 0 = none := by
   intro h j hj
   rcases (show j = k ∨ j < k by omega) with rfl | h4
   ·simpa using h
   ·exact x2 j h4
  simp only [Tree.sat, allP, fitP, fitL, valEq, inI64, true_and, and_true, decide_eq_true_eq, decide_eq_false_iff_not, Int.toNat_natCast, hO, hz]
  clear e
  refine ⟨fun h => ?_, fun h => ?_⟩
  ·refine ⟨⟨Bo.isRec4 n a b u v, Pt.isRec2 m p q, fun j hj => absurd hj (Nat.not_lt_zero _), hn, pre1, pre2, rfl, ⟨by omega, by omega⟩, by omega⟩, fun h2 => ?_, fun h2 => ?_⟩
   ·rw [hgood h2]
    (repeat' first | with_reducible apply And.intro | with_reducible intro _)
    all_goals first | exact True.intro | omega | with_reducible rfl | (rename_i E hE; cases hE; exact hQ) | assumption | rfl
   ·have g1 := hnext h2
    (repeat' first | with_reducible apply And.intro | with_reducible intro _)
    all_goals first | exact True.intro | omega | with_reducible rfl | exact g1 _ (by assumption) | assumption | rfl
  ·exfalso
   rw [x2 m_ (by omega)] at hlm
   cases hlm
theorem Enough_at (c T lo hi : Int) (n : Nat) (a b u v : Nat → Int) (m : Nat) (p q : Nat → Int) (pl ph dl dh : Int) (u0 u1 wi day : Int) : SoundAt Tryz.prog 55 [.agg [i c, i T, i lo, i hi, rds n a b u v, Pt.scs m p q, i pl, i ph, i dl, i dh], .agg [i u0, i u1, i wi], i day] (.tup [.lst 1 (egL c T lo hi n a b u v m p q pl ph dl dh u0 u1 wi day).length (fun j => [i (nthJ (egL c T lo hi n a b u v m p q pl ph dl dh u0 u1 wi day) j)]), i (hgE c T lo hi n a b u v m p q pl ph dl dh u0 u1 wi day)]) := by
 refine soundAt_finX (G := []) (X := { R := [], H := [(93, H_trial), (95, H_tkA)] }) (L := [needSp [rdE c T lo hi n a b u v m p q pl ph dl dh = 0, usB c u0 u1 wi = true, 0 ≤ day ∧ day ≤ 10000, keB c (wkA c T lo hi n a b u v m p q pl ph dl dh) u0 u1 wi day = true] (LS_em c T lo hi n a b u v m p q pl ph dl dh u0 u1 wi day)]) (SoundG.nil _) (SoundX.of (SoundRL.nil _) (SoundHL.cons trial_okH (SoundHL.cons tkA_okH (SoundHL.nil _)))) mixed Tryz.func55 (show Tryz.f55.body = some (bodyOf Tryz.f55) by kernel_rfl) (one_loop (lpE (b := .loop B_em) (by kernel_rfl) <| (needSp_sound (ps := [rdE c T lo hi n a b u v m p q pl ph dl dh = 0, usB c u0 u1 wi = true, 0 ≤ day ∧ day ≤ 10000, keB c (wkA c T lo hi n a b u v m p q pl ph dl dh) u0 u1 wi day = true]) (fun h => em_ls c T lo hi n a b u v m p q pl ph dl dh u0 u1 wi day h.1 h.2.1 h.2.2.1 h.2.2.2)).N)) (t := (let z10 := (blR (enL c T lo hi n a b u v m p q pl ph dl dh u0 u1 wi day) n); let z0 := (leaf (RV.tup [RV.lst 1 (List.length z10) fun j => [iI (nthJ z10 j)], RV.x (Value.int IntKind.i64 (0 : Int))])); let z1 := (agg [iI c, iI T, iI lo, iI hi, lst 4 n (rq4 a b u v), lst 2 m fun k => [iI (p k), iI (q k)], iI pl, iI ph, iI dl, iI dh]); let z2 := (wkA c T lo hi n a b u v m p q pl ph dl dh); let z3 := asE c T lo hi n a b u v m p q pl ph dl dh u0 u1 wi day; let z4 := (lst 4 n (rq4 a b u v)); let z5 := rdE c T lo hi n a b u v m p q pl ph dl dh; let z6 := (leaf (RV.tup [RV.x (Value.slice none 0 0), RV.x (Value.int IntKind.i64 (0 : Int))])); let z7 := (agg [iI u0, iI u1, iI wi]); let z8 := (AV.x (Value.slice none 0 0)); let z9 := keB c z2 u0 u1 wi day; (need [isRec 4 n fun k => [Bo.i (a k), Bo.i (b k), Bo.i (u k), Bo.i (v k)], isRec 2 m fun k => [Pt.i (p k), Pt.i (q k)]] (branch (decide (z3 = (0 : Int))) (branch ((0 : Int) != (0 : Int)) (branch ((0 : Int) != (0 : Int)) z6 (need [inI64 ((↑n : Int) + 1)] (need [z5 = (0 : Int), usB c u0 u1 wi = true, (0 : Int) ≤ day ∧ day ≤ (10000 : Int), z9 = true] (need [Eq1 z1, Eq1 z7, day = day, Eq1 (ptr 0 0), Eq1 (ptr 1 0), Eq1 z8, Eq1 (0 : Int), ptr 32 0 = ptr 47 0, ptr 33 0 = ptr 48 0, Eq1 (0 : Int), ptr 39 0 = ptr 54 0, ptr 40 0 = ptr 55 0, Eq1 ((↑n : Int) + 1), (0 : Int) = (↑(0 : Nat) : Int), False, False, False, False, False, c = c, T = T, lo = lo, hi = hi, z4 = lst 4 n (rq4 a b u v), (lst 2 m fun k => [iI (p k), iI (q k)]) = lst 2 m fun k => [iI (p k), iI (q k)], pl = pl, ph = ph, dl = dl, dh = dh] z0)))) (need [drB z2, bdB z2, (1 : Int) ≤ c ∧ c ≤ (10 : Int), (0 : Int) ≤ u0 ∧ u0 ≤ u1 ∧ u1 ≤ (10 : Int), (0 : Int) ≤ wi ∧ wi ≤ (1000000 : Int), (0 : Int) ≤ day ∧ day ≤ (100000 : Int)] (branch (!z9) (branch ((10 : Int) != (0 : Int)) (leaf (RV.tup [RV.x (Value.slice none 0 0), RV.x (Value.int IntKind.i64 (10 : Int))])) (need [inI64 ((↑n : Int) + 1)] (need [z5 = (0 : Int), usB c u0 u1 wi = true, (0 : Int) ≤ day ∧ day ≤ (10000 : Int), z9 = true] (need [Eq1 z1, Eq1 z7, day = day, Eq1 (ptr 0 0), Eq1 (ptr 1 0), Eq1 z8, Eq1 (0 : Int), ptr 36 0 = ptr 47 0, ptr 37 0 = ptr 48 0, (10 : Int) = 0, ptr 43 0 = ptr 54 0, ptr 44 0 = ptr 55 0, Eq1 ((↑n : Int) + 1), (0 : Int) = (↑(0 : Nat) : Int), False, False, False, False, False, c = c, T = T, lo = lo, hi = hi, z4 = lst 4 n (rq4 a b u v), (lst 2 m fun k => [iI (p k), iI (q k)]) = lst 2 m fun k => [iI (p k), iI (q k)], pl = pl, ph = ph, dl = dl, dh = dh] z0)))) (need [(0 : Int) ≤ (↑n : Int) ∧ (↑n : Int) ≤ 64, inI64 ((1 : Int) * 2 ^ n)] (need [inI64 ((1 : Int) * 2 ^ n - (1 : Int))] (branch ((0 : Int) != (0 : Int)) z6 (need [inI64 ((↑n : Int) + 1)] (need [z5 = (0 : Int), usB c u0 u1 wi = true, (0 : Int) ≤ day ∧ day ≤ (10000 : Int), z9 = true] (need [Eq1 z1, Eq1 z7, day = day, Eq1 (ptr 0 0), Eq1 (ptr 1 0), Eq1 z8, Eq1 (0 : Int), Eq1 (ptr 47 0), Eq1 (ptr 48 0), Eq1 (0 : Int), Eq1 (ptr 54 0), Eq1 (ptr 55 0), Eq1 ((↑n : Int) + 1), (0 : Int) = (↑(0 : Nat) : Int), Eq1 (AV.fn (Fn.func 95) [] [ptr 47 0, ptr 54 0, ptr 0 0, ptr 55 0]), Eq1 (ptr 33 0), c = c, T = T, lo = lo, hi = hi, z4 = lst 4 n (rq4 a b u v), (lst 2 m fun k => [iI (p k), iI (q k)]) = lst 2 m fun k => [iI (p k), iI (q k)], pl = pl, ph = ph, dl = dl, dh = dh, u0 = u0, u1 = u1, wi = wi, day = day, Eq1 (AV.mp 31), ∀ (k : Value), False → enH k ∧ k = enF c T lo hi n a b u v m p q pl ph dl dh u0 u1 wi day k, c = c, T = T, lo = lo, hi = hi, z4 = lst 4 n (rq4 a b u v), (lst 2 m fun k => [iI (p k), iI (q k)]) = lst 2 m fun k => [iI (p k), iI (q k)], pl = pl, ph = ph, dl = dl, dh = dh] z0))))))))) (branch (z3 != (0 : Int)) (branch (z3 != (0 : Int)) (leaf (RV.tup [RV.x (Value.slice none 0 0), RV.x (Value.int IntKind.i64 (z3))])) (need [inI64 ((↑n : Int) + 1)] (need [z5 = (0 : Int), usB c u0 u1 wi = true, (0 : Int) ≤ day ∧ day ≤ (10000 : Int), z9 = true] (need [Eq1 z1, Eq1 z7, day = day, Eq1 (ptr 0 0), Eq1 (ptr 1 0), Eq1 z8, Eq1 (0 : Int), ptr 32 0 = ptr 47 0, ptr 33 0 = ptr 48 0, z3 = (0 : Int), ptr 39 0 = ptr 54 0, ptr 40 0 = ptr 55 0, Eq1 ((↑n : Int) + 1), (0 : Int) = (↑(0 : Nat) : Int), False, False, False, False, False, c = c, T = T, lo = lo, hi = hi, z4 = lst 4 n (rq4 a b u v), (lst 2 m fun k => [iI (p k), iI (q k)]) = lst 2 m fun k => [iI (p k), iI (q k)], pl = pl, ph = ph, dl = dl, dh = dh] z0)))) Tree.fail))))) (by kernel_rfl) ?_
 simp only [Tree.sat, allP, fitP, fitL, valEq, true_and, and_true, decide_eq_true_eq, decide_eq_false_iff_not, bne_iff_ne, ne_eq, bne_eq_false_iff_eq, beq_iff_eq, beq_eq_false_iff_ne, Bool.not_eq_true', Bool.not_eq_false', not_true_eq_false, false_imp_iff, true_imp_iff]
 have ISR : (isRec 4 n fun k => [Bo.i (a k), Bo.i (b k), Bo.i (u k), Bo.i (v k)]) ∧ isRec 2 m fun k => [Pt.i (p k), Pt.i (q k)] := ⟨Bo.isRec4 n a b u v, Pt.isRec2 m p q⟩
 have eR : hgE c T lo hi n a b u v m p q pl ph dl dh u0 u1 wi day = 0 → egL c T lo hi n a b u v m p q pl ph dl dh u0 u1 wi day = blR (enL c T lo hi n a b u v m p q pl ph dl dh u0 u1 wi day) n := fun h => if_pos h
 have eN : ∀ k : Int, hgE c T lo hi n a b u v m p q pl ph dl dh u0 u1 wi day = k → k ≠ 0 → (isNil (Value.slice none 0 0) ∧ (egL c T lo hi n a b u v m p q pl ph dl dh u0 u1 wi day).length = 0) ∧ k = hgE c T lo hi n a b u v m p q pl ph dl dh u0 u1 wi day := fun k h hk => by
  refine ⟨⟨by trivial, ?_⟩, h.symm⟩
  unfold egL
  rw [if_neg (by rw [h]; exact hk)]
  rfl
 refine ⟨ISR, fun h => ⟨?_, fun h' => ⟨fun _ => eN 10 ?_ (by decide), fun h2 => absurd h2 (by decide)⟩, fun h' => ?_⟩, fun h => ?_⟩
 ·obtain ⟨h1, h2, h3⟩ := asE_0 h
  have hw := wk_ok h1
  have hu := usB_iff.1 h2
  exact ⟨hw.1, hw.2.1, hw.2.2.1, by omega, by omega, by omega⟩
 ·unfold hgE
  rw [if_pos h, h']
  rfl
 ·obtain ⟨h1, h2, h3⟩ := asE_0 h
  have hn := (rdE_0 h1).1
  have hp := pow12 hn
  have h0 : hgE c T lo hi n a b u v m p q pl ph dl dh u0 u1 wi day = 0 := hg_0.2 ⟨h, h'⟩
  rw [eR h0, h0]
  simp only [inI64]
  (repeat' first | with_reducible apply And.intro | with_reducible intro _)
  all_goals first | exact True.intro | omega | assumption | rfl | (rename_i hm; cases List.mem_singleton.1 hm; exact True.intro)
 ·have e := eN _ (if_neg h) h
  (repeat' first | with_reducible apply And.intro | with_reducible intro _)
  all_goals first | exact True.intro | exact e.1.1 | exact e.1.2 | exact e.2 | (exfalso; exact h (by assumption)) | trace_state
def S_Enough : Sx.Spec := fun l => match l with
 | [.agg [.x (.int .i64 c), .x (.int .i64 T), .x (.int .i64 lo), .x (.int .i64 hi), .lst 4 n fr, .lst 2 m ft, .x (.int .i64 pl), .x (.int .i64 ph), .x (.int .i64 dl), .x (.int .i64 dh)], .agg [.x (.int .i64 u0), .x (.int .i64 u1), .x (.int .i64 wi)], .x (.int .i64 day)] => some ([isRec 4 n fr, isRec 2 m ft], .tup [.lst 1 (egL c T lo hi n (col 0 fr) (col 1 fr) (col 2 fr) (col 3 fr) m (Pt.col 0 ft) (Pt.col 1 ft) pl ph dl dh u0 u1 wi day).length (fun j => [i (nthJ (egL c T lo hi n (col 0 fr) (col 1 fr) (col 2 fr) (col 3 fr) m (Pt.col 0 ft) (Pt.col 1 ft) pl ph dl dh u0 u1 wi day) j)]), i (hgE c T lo hi n (col 0 fr) (col 1 fr) (col 2 fr) (col 3 fr) m (Pt.col 0 ft) (Pt.col 1 ft) pl ph dl dh u0 u1 wi day)])
 | _ => none
theorem Enough_ok : SoundSpec Tryz.prog 55 S_Enough := by
 refine ⟨⟨_, Tryz.func55, by kernel_rfl, by kernel_rfl⟩, ?_⟩
 intro avs ns res h hn
 unfold S_Enough at h
 split at h
 ·cases h
  have hr : isRec 4 _ _ := hn _ List.mem_cons_self
  have ht : isRec 2 _ _ := hn _ (List.mem_cons_of_mem _ List.mem_cons_self)
  exact (Enough_at _ _ _ _ _ _ _ _ _ _ _ _ _ _ _ _ _ _ _ _ ).same (.cons (Sames.same (.cons (.refl _) (.cons (.refl _) (.cons (.refl _) (.cons (.refl _) (.cons (.lst 4 _ _ _ hr) (.cons (.lst 2 _ _ _ ht) (.cons (.refl _) (.cons (.refl _) (.cons (.refl _) (.cons (.refl _) .nil))))))))))) (.cons (.refl _) (.cons (.refl _) .nil)))
 ·cases h
end Go.Proofs.YtlinbkmpkcmniaaGreat
namespace Go.Proofs.YtlinbkmpkcmniaaGreat
open Go Go.Sx Go.RowKit Bo
open Go.Sx.Tree (need branch leaf)
open Go.Sx.AV (lst ptr agg roI tup top)
theorem ofL_mem {j : Nat} {k : Nat} : ∀ {n : Nat}, (k : Int) ∈ ofL (j : Int) n ↔ k < n ∧ ofB (j : Int) k = true
 | 0 => by simp [ofL]
 | n + 1 => by
  unfold ofL
  have ih := ofL_mem (j := j) (k := k) (n := n)
  split
  ·rename_i h
   rw [List.mem_append, ih, List.mem_singleton]
   constructor
   ·rintro (h1 | h1)
    ·exact ⟨by omega, h1.2⟩
    ·have : k = n := by omega
     subst this
     exact ⟨by omega, h⟩
   ·rintro ⟨h1, h2⟩
    rcases (show k < n ∨ k = n by omega) with h3 | rfl
    ·exact .inl ⟨h3, h2⟩
    ·exact .inr rfl
  ·rename_i h
   rw [ih]
   constructor
   ·rintro ⟨h1, h2⟩
    exact ⟨by omega, h2⟩
   ·rintro ⟨h1, h2⟩
    rcases (show k < n ∨ k = n by omega) with h3 | rfl
    ·exact ⟨h3, h2⟩
    ·exact absurd h2 h
theorem soL_of {j n : Nat} : soL (ofL (j : Int) n).length (nthJ (ofL (j : Int) n)) false n = ofL (j : Int) n := by
 have key : ∀ k, k ≤ n → soL (ofL (j : Int) n).length (nthJ (ofL (j : Int) n)) false k = ofL (j : Int) k := by
  intro k
  induction k with
  | zero => intro _; rfl
  | succ k ih =>
   intro h
   have e : memB (ofL (j : Int) n).length (nthJ (ofL (j : Int) n)) k = ofB (j : Int) k := by
    rw [Bool.eq_iff_iff, memB_iff]
    constructor
    ·rintro ⟨q, hq, hh⟩
     rw [nthJ_get hq] at hh
     exact (ofL_mem.1 (hh ▸ List.getElem_mem hq)).2
    ·intro hb
     obtain ⟨q, hq, hh⟩ := List.getElem_of_mem (ofL_mem.2 ⟨(show k < n by omega), hb⟩)
     exact ⟨q, hq, by rw [nthJ_get hq]; exact hh⟩
   show (if memB (ofL (j : Int) n).length (nthJ (ofL (j : Int) n)) k != false then soL (ofL (j : Int) n).length (nthJ (ofL (j : Int) n)) false k ++ [(k : Int)] else soL (ofL (j : Int) n).length (nthJ (ofL (j : Int) n)) false k) = (if ofB (j : Int) k then ofL (j : Int) k ++ [(k : Int)] else ofL (j : Int) k)
   rw [e, ih (by omega)]
   cases ofB (j : Int) k <;> rfl
 exact key n (Nat.le_refl n)
theorem soL_ris {n : Nat} {S : List Int} (h : risF 0 n S) : soL S.length (nthJ S) false n = S := by
 obtain ⟨j, _, rfl⟩ := ofL_onto h
 exact soL_of
theorem en_of {c T lo hi : Int} {n : Nat} {a b u v : Nat → Int} {m : Nat} {p q : Nat → Int} {pl ph dl dh u0 u1 wi day : Int} {j : Nat} (hj : j < 8192) : enB c T lo hi n a b u v m p q pl ph dl dh u0 u1 wi day (j : Int) = kpS c T lo hi n a b u v m p q pl ph dl dh u0 u1 wi day (ofL (j : Int) n) := by
 unfold enB kpS enS
 rw [selL_of hj]
 generalize ofL (j : Int) n = S
 obtain ⟨h1, h2⟩ := rd_congr (c := c) (T := T) (lo := lo) (hi := hi) (n := (S.map Int.toNat).length) (m := m) (p := p) (q := q) (pl := pl) (ph := ph) (dl := dl) (dh := dh) (a := sg a (S.map Int.toNat)) (b := sg b (S.map Int.toNat)) (u := sg u (S.map Int.toNat)) (v := sg v (S.map Int.toNat)) (a' := selF a (nthJ S)) (b' := selF b (nthJ S)) (u' := selF u (nthJ S)) (v' := selF v (nthJ S)) fun j hj => by
  rw [List.length_map] at hj
  exact ⟨sg_map a S hj, sg_map b S hj, sg_map u S hj, sg_map v S hj⟩
 rw [h1, h2, List.length_map]
theorem bu_nat {n k : Nat} (hn : n ≤ 12) (hk : k < n) : buI n k = ((2 ^ n - 1 - 2 ^ k : Nat) : Int) ∧ (1 : Int) * 2 ^ n - 1 - 1 * 2 ^ k = ((2 ^ n - 1 - 2 ^ k : Nat) : Int) ∧ 2 ^ n - 1 - 2 ^ k < 8192 := by
 rcases (show n = 0 ∨ n = 1 ∨ n = 2 ∨ n = 3 ∨ n = 4 ∨ n = 5 ∨ n = 6 ∨ n = 7 ∨ n = 8 ∨ n = 9 ∨ n = 10 ∨ n = 11 ∨ n = 12 by omega) with rfl | rfl | rfl | rfl | rfl | rfl | rfl | rfl | rfl | rfl | rfl | rfl | rfl <;> rcases (show k = 0 ∨ k = 1 ∨ k = 2 ∨ k = 3 ∨ k = 4 ∨ k = 5 ∨ k = 6 ∨ k = 7 ∨ k = 8 ∨ k = 9 ∨ k = 10 ∨ k = 11 by omega) with rfl | rfl | rfl | rfl | rfl | rfl | rfl | rfl | rfl | rfl | rfl | rfl <;> first | (exfalso; omega) | exact ⟨by rfl, by decide, by decide⟩
end Go.Proofs.YtlinbkmpkcmniaaGreat
namespace Go.Proofs.YtlinbkmpkcmniaaGreat
open Go Go.Sx Go.RowKit Bo
open Go.Sx.Tree (need branch leaf)
open Go.Sx.AV (lst ptr agg roI tup top)
theorem tol_list (l : List Int) : tol l.length (nthJ l) = l := by
 apply List.ext_getElem (tol_len _ _)
 intro j h1 h2
 have h3 := tol_get (n := l.length) (k := j) (f := nthJ l) h2
 rw [nthJ_get h1, nthJ_get h2] at h3
 exact h3
end Go.Proofs.YtlinbkmpkcmniaaGreat
namespace Go.Proofs.YtlinbkmpkcmniaaGreat
open Go Go.Sx Go.RowKit Bo
open Go.Sx.Tree (need branch leaf)
open Go.Sx.AV (lst ptr agg roI tup top)
theorem ris_iff {n m : Nat} {g : Nat → Int} : risB n m g = true ↔ inR n m g ∧ ∀ k, k + 1 < m → g k < g (k + 1) := by
 unfold risB
 rw [allI_iff]
 constructor
 ·intro h
  refine ⟨fun j hj => ?_, fun k hk => ?_⟩
  ·have := h j hj
   simp only [riP, Bool.and_eq_true, bt_iff] at this
   omega
  ·have := h (k + 1) hk
   simp only [riP, Bool.and_eq_true, Bool.or_eq_true, decide_eq_true_eq, Nat.add_sub_cancel] at this
   omega
 ·rintro ⟨h1, h2⟩ j hj
  have := h1 j hj
  simp only [riP, Bool.and_eq_true, bt_iff, Bool.or_eq_true, decide_eq_true_eq]
  refine ⟨by omega, ?_⟩
  rcases Nat.eq_zero_or_pos j with h | h
  ·exact .inl h
  ·right
   have := h2 (j - 1) (by omega)
   rw [show j - 1 + 1 = j by omega] at this
   exact this
theorem ris_F {n : Nat} : ∀ {S : List Int} {s : Nat}, risF s n S → inR n S.length (nthJ S) ∧ (∀ j, j < S.length → (s : Int) ≤ nthJ S j) ∧ ∀ k, k + 1 < S.length → nthJ S k < nthJ S (k + 1)
 | [], s, _ => ⟨fun j hj => absurd hj (Nat.not_lt_zero _), fun j hj => absurd hj (Nat.not_lt_zero _), fun k hk => absurd hk (Nat.not_lt_zero _)⟩
 | x :: t, s, h => by
  obtain ⟨h1, h2, h3⟩ := h
  obtain ⟨i1, i2, i3⟩ := ris_F h3
  refine ⟨fun j hj => ?_, fun j hj => ?_, fun k hk => ?_⟩
  ·cases j with
   | zero => exact ⟨by show 0 ≤ x; omega, h2⟩
   | succ j => exact i1 j (by simpa using hj)
  ·cases j with
   | zero => exact h1
   | succ j =>
    have := i2 j (by simpa using hj)
    show (s : Int) ≤ nthJ t j
    omega
  ·cases k with
   | zero =>
    have := i2 0 (by simpa using hk)
    show x < nthJ t 0
    omega
   | succ k => exact i3 k (by simpa using hk)
theorem sel_flt {c T lo hi : Int} {n : Nat} {a b u v : Nat → Int} (h : flt c T lo hi n a b u v = 0) {S : List Int} (hS : inR n S.length (nthJ S)) (hl : S.length ≤ 12) : flt c T lo hi S.length (selF a (nthJ S)) (selF b (nthJ S)) (selF u (nthJ S)) (selF v (nthJ S)) = 0 := by
 have hf := flt_iff.1 h
 exact flt_ok hf.1 hl (sel_rd hf.2.2 hS)
theorem tr_sub {c : Nat} {T lo hi : Int} {n n' : Nat} {a b u v a' b' u' v' : Nat → Int} {h : Nat → Int} (hx : ∀ j, j < n → ∃ j', j' < n' ∧ a' j' = a j ∧ b' j' = b j ∧ u' j' = u j ∧ v' j' = v j) (k : Tr c T lo hi n' a' b' u' v' h) : Tr c T lo hi n a b u v h := by
 refine ⟨k.1, k.2.1, k.2.2.1, fun j hj => ?_⟩
 obtain ⟨j', h0, e1, e2, e3, e4⟩ := hx j hj
 have h1 := k.2.2.2 j' h0
 rw [e1, e2, e3, e4] at h1
 exact h1
theorem sub_bd {c T lo hi : Int} {n n' : Nat} {a b u v a' b' u' v' : Nat → Int} (hx : ∀ j, j < n → ∃ j', j' < n' ∧ a' j' = a j ∧ b' j' = b j ∧ u' j' = u j ∧ v' j' = v j) (h1 : flt c T lo hi n a b u v = 0) (h2 : flt c T lo hi n' a' b' u' v' = 0) (h3 : okB c T lo hi n' a' b' u' v' = true) :
  okB c T lo hi n a b u v = true ∧ ∀ k : Nat, (k : Int) ≤ c → -fwB c T lo hi n a b u v k 0 ≤ -fwB c T lo hi n' a' b' u' v' k 0 ∧ fwB c T lo hi n' a' b' u' v' 0 k ≤ fwB c T lo hi n a b u v 0 k := by
 have hf := flt_iff.1 h1
 have hb := tube_bd hf.1
 have hr := rdOk_of hb.1 hf.2.2
 have hr2 := rdOk_of hb.1 (flt_iff.1 h2).2.2
 have tl := tr_sub hx (tr_lo hb.2.1 hr2 h3)
 have th := tr_sub hx (tr_hi hb.2.1 hr2 h3)
 refine ⟨ok_of_tr hb.2.1 hr tl, fun k hk => ?_⟩
 have b1 := tr_bd hb.2.1 hr tl (x := k) (by omega)
 have b2 := tr_bd hb.2.1 hr th (x := k) (by omega)
 exact ⟨b1.1, b2.2⟩
theorem ris_mem {n : Nat} {S : List Int} (h : risF 0 n S) {x : Int} (hx : x ∈ S) : 0 ≤ x ∧ x < n := by
 obtain ⟨j, hj, rfl⟩ := List.getElem_of_mem hx
 have := (ris_F h).1 j hj
 rw [nthJ_get hj] at this
 exact this
theorem sel_0 {c T lo hi : Int} {n : Nat} {a b u v : Nat → Int} {m : Nat} {p q : Nat → Int} {pl ph dl dh : Int} {S : List Int} (h : rdE c T lo hi n a b u v m p q pl ph dl dh = 0) (hS : risF 0 n S) : rdE c T lo hi S.length (selF a (nthJ S)) (selF b (nthJ S)) (selF u (nthJ S)) (selF v (nthJ S)) m p q pl ph dl dh = 0 := by
 obtain ⟨r1, r2, r3, r4⟩ := rdE_0 h
 have hf := fltB_iff.1 r4
 have hl := risF_len hS
 have hi := (ris_F hS).1
 have hs := sel_flt hf.1 hi (by omega)
 have ho := (sub_bd (n := S.length) (a := selF a (nthJ S)) (b := selF b (nthJ S)) (u := selF u (nthJ S)) (v := selF v (nthJ S)) (fun j hj => ⟨(nthJ S j).toNat, by have := hi j hj; omega, rfl, rfl, rfl, rfl⟩) hs hf.1 hf.2.2).1
 exact rdE_of (by omega) r2 r3 (by rw [eB_or hs, ho]; rfl)
theorem kp_mono {c T lo hi : Int} {n : Nat} {a b u v : Nat → Int} {m : Nat} {p q : Nat → Int} {pl ph dl dh : Int} {u0 u1 wi day : Int} {S S' : List Int} (h : rdE c T lo hi n a b u v m p q pl ph dl dh = 0) (hu : usB c u0 u1 wi = true) (hd : 0 ≤ day ∧ day ≤ 10000) (hS : risF 0 n S) (hS' : risF 0 n S') (hx : ∀ x ∈ S, x ∈ S') (hk : kpS c T lo hi n a b u v m p q pl ph dl dh u0 u1 wi day S = true) : kpS c T lo hi n a b u v m p q pl ph dl dh u0 u1 wi day S' = true := by
 have h1 := sel_0 h hS
 have h2 := sel_0 h hS'
 have f1 := fltB_iff.1 (rdE_0 h1).2.2.2
 have f2 := fltB_iff.1 (rdE_0 h2).2.2.2
 have hb := (sub_bd (n := S.length) (a := selF a (nthJ S)) (b := selF b (nthJ S)) (u := selF u (nthJ S)) (v := selF v (nthJ S)) (n' := S'.length) (a' := selF a (nthJ S')) (b' := selF b (nthJ S')) (u' := selF u (nthJ S')) (v' := selF v (nthJ S')) (fun j hj => by
  obtain ⟨j', hj', e⟩ := List.getElem_of_mem (hx _ (List.getElem_mem hj))
  refine ⟨j', hj', ?_⟩
  unfold selF
  rw [nthJ_get hj, nthJ_get hj', e]
  exact ⟨rfl, rfl, rfl, rfl⟩) f1.1 f2.1 f2.2.2).2
 unfold kpS at hk ⊢
 rw [Bool.and_eq_true] at hk ⊢
 exact ⟨decide_eq_true h2, ke_more h1 h2 hu hd hb hk.2⟩
theorem hg_mem {c T lo hi : Int} {n : Nat} {a b u v : Nat → Int} {m : Nat} {p q : Nat → Int} {pl ph dl dh : Int} {u0 u1 wi day : Int} {x : Int} : ∀ {k : Nat}, x ∈ hgL c T lo hi n a b u v m p q pl ph dl dh u0 u1 wi day k ↔ ∃ j : Nat, j < k ∧ x = j ∧ enB c T lo hi n a b u v m p q pl ph dl dh u0 u1 wi day (buI n j) = false
 | 0 => by simp [hgL]
 | k + 1 => by
  have ih := hg_mem (c := c) (T := T) (lo := lo) (hi := hi) (n := n) (a := a) (b := b) (u := u) (v := v) (m := m) (p := p) (q := q) (pl := pl) (ph := ph) (dl := dl) (dh := dh) (u0 := u0) (u1 := u1) (wi := wi) (day := day) (x := x) (k := k)
  have hg : hgL c T lo hi n a b u v m p q pl ph dl dh u0 u1 wi day (k + 1) = if enB c T lo hi n a b u v m p q pl ph dl dh u0 u1 wi day (buI n k) then hgL c T lo hi n a b u v m p q pl ph dl dh u0 u1 wi day k else hgL c T lo hi n a b u v m p q pl ph dl dh u0 u1 wi day k ++ [(k : Int)] := rfl
  rw [hg]
  cases hb : enB c T lo hi n a b u v m p q pl ph dl dh u0 u1 wi day (buI n k) with
  | true =>
   rw [if_pos rfl, ih]
   constructor
   ·rintro ⟨j, h1, h2, h3⟩
    exact ⟨j, by omega, h2, h3⟩
   ·rintro ⟨j, h1, h2, h3⟩
    rcases (show j < k ∨ j = k by omega) with h4 | rfl
    ·exact ⟨j, h4, h2, h3⟩
    ·rw [hb] at h3; cases h3
  | false =>
   rw [if_neg (by simp), List.mem_append, ih, List.mem_singleton]
   constructor
   ·rintro (⟨j, h1, h2, h3⟩ | rfl)
    ·exact ⟨j, by omega, h2, h3⟩
    ·exact ⟨k, by omega, rfl, hb⟩
   ·rintro ⟨j, h1, h2, h3⟩
    rcases (show j < k ∨ j = k by omega) with h4 | rfl
    ·exact .inl ⟨j, h4, h2, h3⟩
    ·exact .inr h2
theorem hg_ris {c T lo hi : Int} {n : Nat} {a b u v : Nat → Int} {m : Nat} {p q : Nat → Int} {pl ph dl dh : Int} {u0 u1 wi day : Int} : ∀ {k : Nat}, risF 0 k (hgL c T lo hi n a b u v m p q pl ph dl dh u0 u1 wi day k)
 | 0 => trivial
 | k + 1 => by
  have hg : hgL c T lo hi n a b u v m p q pl ph dl dh u0 u1 wi day (k + 1) = if enB c T lo hi n a b u v m p q pl ph dl dh u0 u1 wi day (buI n k) then hgL c T lo hi n a b u v m p q pl ph dl dh u0 u1 wi day k else hgL c T lo hi n a b u v m p q pl ph dl dh u0 u1 wi day k ++ [(k : Int)] := rfl
  rw [hg]
  split
  ·exact risF_mono (hg_ris (c := c) (T := T) (lo := lo) (hi := hi) (n := n) (a := a) (b := b) (u := u) (v := v) (m := m) (p := p) (q := q) (pl := pl) (ph := ph) (dl := dl) (dh := dh) (u0 := u0) (u1 := u1) (wi := wi) (day := day))
  ·exact risF_snoc (Nat.zero_le _) (hg_ris (c := c) (T := T) (lo := lo) (hi := hi) (n := n) (a := a) (b := b) (u := u) (v := v) (m := m) (p := p) (q := q) (pl := pl) (ph := ph) (dl := dl) (dh := dh) (u0 := u0) (u1 := u1) (wi := wi) (day := day))
theorem hg_in {c T lo hi : Int} {n : Nat} {a b u v : Nat → Int} {m : Nat} {p q : Nat → Int} {pl ph dl dh : Int} {u0 u1 wi day : Int} {S : List Int} (h : rdE c T lo hi n a b u v m p q pl ph dl dh = 0) (hu : usB c u0 u1 wi = true) (hd : 0 ≤ day ∧ day ≤ 10000) (hS : risF 0 n S) (hk : kpS c T lo hi n a b u v m p q pl ph dl dh u0 u1 wi day S = true) : ∀ x ∈ hgL c T lo hi n a b u v m p q pl ph dl dh u0 u1 wi day n, x ∈ S := by
 intro x hx
 obtain ⟨k, h1, rfl, h2⟩ := hg_mem.1 hx
 have hn := (rdE_0 h).1
 obtain ⟨e1, e2, e3⟩ := bu_nat hn h1
 rw [e1, en_of e3] at h2
 by_cases hm : (k : Int) ∈ S
 ·exact hm
 ·exfalso
  have := kp_mono h hu hd hS (ofL_ris ((2 ^ n - 1 - 2 ^ k : Nat) : Int) n) (fun y hy => ?_) hk
  ·exact Bool.noConfusion (h2.symm.trans this)
  ·obtain ⟨y1, y2⟩ := ris_mem hS hy
   obtain ⟨j, rfl⟩ : ∃ j : Nat, y = j := ⟨y.toNat, by omega⟩
   refine ofL_mem.2 ⟨by omega, ?_⟩
   have hne : j ≠ k := fun h' => hm (h' ▸ hy)
   rw [ofB_nat, show 2 ^ n - 1 - 2 ^ k = (2 ^ n - 1) ^^^ 2 ^ k from ?_, Nat.testBit_xor, Nat.testBit_two_pow_sub_one, Nat.testBit_two_pow]
   ·simp
    omega
   ·clear e1 e3 h2
    rcases (show n = 0 ∨ n = 1 ∨ n = 2 ∨ n = 3 ∨ n = 4 ∨ n = 5 ∨ n = 6 ∨ n = 7 ∨ n = 8 ∨ n = 9 ∨ n = 10 ∨ n = 11 ∨ n = 12 by omega) with rfl | rfl | rfl | rfl | rfl | rfl | rfl | rfl | rfl | rfl | rfl | rfl | rfl <;> rcases (show k = 0 ∨ k = 1 ∨ k = 2 ∨ k = 3 ∨ k = 4 ∨ k = 5 ∨ k = 6 ∨ k = 7 ∨ k = 8 ∨ k = 9 ∨ k = 10 ∨ k = 11 by omega) with rfl | rfl | rfl | rfl | rfl | rfl | rfl | rfl | rfl | rfl | rfl | rfl <;> first | (exfalso; omega) | decide
end Go.Proofs.YtlinbkmpkcmniaaGreat
namespace Go.Proofs.YtlinbkmpkcmniaaGreat
open Go Go.Sx Go.RowKit Bo
open Go.Sx.Tree (need branch leaf)
open Go.Sx.AV (lst ptr agg roI tup top)
def memE (B : List Int) (x : Int) : Nat → Bool
 | 0 => false
 | k + 1 => memE B x k || (nthJ B k == x)
def allE (A B : List Int) : Prop := ∀ k, k < A.length → memE B (nthJ A k) B.length = true
theorem memE_of {B : List Int} {x : Int} : ∀ {k j : Nat}, j < k → nthJ B j = x → memE B x k = true
 | 0, j, h, _ => absurd h (Nat.not_lt_zero _)
 | k + 1, j, h, e => by
  unfold memE
  rcases (show j < k ∨ j = k by omega) with h1 | rfl
  ·rw [memE_of h1 e, Bool.true_or]
  ·rw [e, beq_self_eq_true, Bool.or_true]
theorem allE_of {A B : List Int} (h : ∀ x ∈ A, x ∈ B) : allE A B := by
 intro k hk
 have h1 : nthJ A k ∈ B := h _ (by rw [nthJ_get hk]; exact List.getElem_mem hk)
 obtain ⟨j, hj, e⟩ := List.getElem_of_mem h1
 exact memE_of hj (by rw [nthJ_get hj, e])
theorem eg_all {c T lo hi : Int} {n : Nat} {a b u v : Nat → Int} {m : Nat} {p q : Nat → Int} {pl ph dl dh : Int} {u0 u1 wi day : Int} (h : rdE c T lo hi n a b u v m p q pl ph dl dh = 0) (hu : usB c u0 u1 wi = true) (hd : 0 ≤ day ∧ day ≤ 10000) (hk : keB c (wkA c T lo hi n a b u v m p q pl ph dl dh) u0 u1 wi day = true) :
  hgE c T lo hi n a b u v m p q pl ph dl dh u0 u1 wi day = 0 ∧ risF 0 n (egL c T lo hi n a b u v m p q pl ph dl dh u0 u1 wi day) ∧ risF 0 n (hgR c T lo hi n a b u v m p q pl ph dl dh u0 u1 wi day) ∧ kpS c T lo hi n a b u v m p q pl ph dl dh u0 u1 wi day (egL c T lo hi n a b u v m p q pl ph dl dh u0 u1 wi day) = true ∧ (∀ S, risF 0 n S → kpS c T lo hi n a b u v m p q pl ph dl dh u0 u1 wi day S = true → lessL S (egL c T lo hi n a b u v m p q pl ph dl dh u0 u1 wi day) = false) ∧ allE (hgR c T lo hi n a b u v m p q pl ph dl dh u0 u1 wi day) (egL c T lo hi n a b u v m p q pl ph dl dh u0 u1 wi day) := by
 have hA : asE c T lo hi n a b u v m p q pl ph dl dh u0 u1 wi day = 0 := asE_of h hu hd
 have g0 : hgE c T lo hi n a b u v m p q pl ph dl dh u0 u1 wi day = 0 := hg_0.2 ⟨hA, hk⟩
 have hn := (rdE_0 h).1
 have e1 : egL c T lo hi n a b u v m p q pl ph dl dh u0 u1 wi day = blR (enL c T lo hi n a b u v m p q pl ph dl dh u0 u1 wi day) n := if_pos g0
 have e2 : hgR c T lo hi n a b u v m p q pl ph dl dh u0 u1 wi day = hgL c T lo hi n a b u v m p q pl ph dl dh u0 u1 wi day n := if_pos g0
 obtain ⟨m_, b1, b2, b3, b4, b5, b6, b7⟩ := eg_spec (u0 := u0) (u1 := u1) (wi := wi) (day := day) h hk
 have k1 : kpS c T lo hi n a b u v m p q pl ph dl dh u0 u1 wi day (egL c T lo hi n a b u v m p q pl ph dl dh u0 u1 wi day) = true := by
  rw [e1, ← en_kp hn b4]
  exact b5
 refine ⟨g0, by rw [e1]; exact b4, by rw [e2]; exact hg_ris, k1, fun S hS hp => ?_, ?_⟩
 ·obtain ⟨c1, c2⟩ := b7 S hS (by rw [en_kp hn hS]; exact hp)
  unfold lessL
  rw [e1, b6]
  split
  ·rename_i he
   exact c2 he
  ·rename_i he
   exact decide_eq_false (by omega)
 ·rw [e2]
  exact allE_of (hg_in h hu hd (by rw [e1]; exact b4) k1)
theorem sel_kp {c T lo hi : Int} {n : Nat} {a b u v : Nat → Int} {m : Nat} {p q : Nat → Int} {pl ph dl dh : Int} {u0 u1 wi day : Int} {S : List Int} (h : rdE c T lo hi n a b u v m p q pl ph dl dh = 0) (hu : usB c u0 u1 wi = true) (hd : 0 ≤ day ∧ day ≤ 10000) (hS : risF 0 n S) : asE c T lo hi S.length (selF a (nthJ S)) (selF b (nthJ S)) (selF u (nthJ S)) (selF v (nthJ S)) m p q pl ph dl dh u0 u1 wi day = 0 ∧ kpB c T lo hi S.length (selF a (nthJ S)) (selF b (nthJ S)) (selF u (nthJ S)) (selF v (nthJ S)) m p q pl ph dl dh u0 u1 wi day = kpS c T lo hi n a b u v m p q pl ph dl dh u0 u1 wi day S := by
 have h1 := sel_0 h hS
 have h2 := asE_of h1 hu hd
 refine ⟨h2, ?_⟩
 rw [kp_ke h2]
 unfold kpS
 rw [decide_eq_true h1]
 rfl
theorem rWithC_at (c T lo hi : Int) (n : Nat) (a b u v : Nat → Int) (m : Nat) (p q : Nat → Int) (pl ph dl dh : Int) (k : Nat) (g : Nat → Int) (pre0 : k ≤ 100000) (pre1 : n ≤ 100000) : SoundCAt Tryz.prog 61 [.agg [i c, i T, i lo, i hi, rds n a b u v, Pt.scs m p q, i pl, i ph, i dl, i dh], .lst 1 k (fun j => [i (g j)])] (.leaf (.agg [i c, i T, i lo, i hi, rds (soL k g false n).length (selF a (nthJ (soL k g false n))) (selF b (nthJ (soL k g false n))) (selF u (nthJ (soL k g false n))) (selF v (nthJ (soL k g false n))), Pt.scs m p q, i pl, i ph, i dl, i dh])) := by
 refine soundCAt_fin (G := [(97, S_rSome)]) (X := {}) (L := []) (SoundG.cons rSome_ok (SoundG.nil _)) (SoundX.of (SoundRL.nil _) (SoundHL.nil _)) mixed Tryz.func61 (show Tryz.f61.body = some (bodyOf Tryz.f61) by kernel_rfl) noLoopsS (t := (need [isRec 4 n fun k => [Bo.i (a k), Bo.i (b k), Bo.i (u k), Bo.i (v k)], isRec 1 k fun j => [i (g j)], k ≤ 100000, n ≤ 100000] (leaf (agg [iI c, iI T, iI lo, iI hi, lst 4 (List.length (soL k g false n)) fun k_1 => [iI (selF a (nthJ (soL k g false n)) k_1), iI (selF b (nthJ (soL k g false n)) k_1), iI (selF u (nthJ (soL k g false n)) k_1), iI (selF v (nthJ (soL k g false n)) k_1)], lst 2 m fun k => [iI (p k), iI (q k)], iI pl, iI ph, iI dl, iI dh])))) (by kernel_rfl) ?_
 intro Q hQ
 simp only [Tree.sat, allP, fitP, fitL, valEq, true_and, and_true, decide_eq_true_eq, decide_eq_false_iff_not, bne_iff_ne, ne_eq, bne_eq_false_iff_eq, beq_iff_eq, beq_eq_false_iff_ne, Bool.not_eq_true', Bool.not_eq_false', not_true_eq_false, false_imp_iff, true_imp_iff] at hQ ⊢
 exact ⟨⟨Bo.isRec4 n a b u v, isRec1 _ _, pre0, pre1⟩, .agg [i c, i T, i lo, i hi, rds (soL k g false n).length (selF a (nthJ (soL k g false n))) (selF b (nthJ (soL k g false n))) (selF u (nthJ (soL k g false n))) (selF v (nthJ (soL k g false n))), Pt.scs m p q, i pl, i ph, i dl, i dh], ⟨⟨rfl, rfl⟩, ⟨rfl, rfl⟩, ⟨rfl, rfl⟩, ⟨rfl, rfl⟩, ⟨rfl, rfl, fun _ _ => rfl⟩, ⟨rfl, rfl, fun _ _ => rfl⟩, ⟨rfl, rfl⟩, ⟨rfl, rfl⟩, ⟨rfl, rfl⟩, ⟨rfl, rfl⟩, True.intro⟩, hQ⟩
noncomputable def C_rWith : CSpec := fun l => match l with
 | [.agg [.x (.int .i64 c), .x (.int .i64 T), .x (.int .i64 lo), .x (.int .i64 hi), .lst 4 n fr, .lst 2 m ft, .x (.int .i64 pl), .x (.int .i64 ph), .x (.int .i64 dl), .x (.int .i64 dh)], .lst 1 k g] => some (.need [isRec 4 n fr, isRec 2 m ft, isRec 1 k g, k ≤ 100000, n ≤ 100000] (.leaf (.agg [i c, i T, i lo, i hi, rds (soL k (col 0 g) false n).length (selF (col 0 fr) (nthJ (soL k (col 0 g) false n))) (selF (col 1 fr) (nthJ (soL k (col 0 g) false n))) (selF (col 2 fr) (nthJ (soL k (col 0 g) false n))) (selF (col 3 fr) (nthJ (soL k (col 0 g) false n))), Pt.scs m (Pt.col 0 ft) (Pt.col 1 ft), i pl, i ph, i dl, i dh])))
 | _ => none
theorem rWith_okC : Sx.Enters Tryz.prog 61 ∧ ∀ avs t, C_rWith avs = some t → SoundCAt Tryz.prog 61 avs t := by
 refine ⟨⟨_, Tryz.func61, by kernel_rfl, by kernel_rfl⟩, ?_⟩
 intro avs t h
 unfold C_rWith at h
 split at h
 ·rename_i c T lo hi n fr m ft pl ph dl dh k g
  cases h
  intro Q hQ
  have hn := allP_mem hQ.1
  have hr : isRec 4 _ _ := hn _ List.mem_cons_self
  have ht : isRec 2 _ _ := hn _ (List.mem_cons_of_mem _ List.mem_cons_self)
  have hg : isRec 1 _ _ := hn _ (List.mem_cons_of_mem _ (List.mem_cons_of_mem _ List.mem_cons_self))
  exact SoundCAt.same (rWithC_at c T lo hi n (col 0 fr) (col 1 fr) (col 2 fr) (col 3 fr) m (Pt.col 0 ft) (Pt.col 1 ft) pl ph dl dh k (col 0 g) (hn _ (by simp)) (hn _ (by simp))) (.cons (Sames.same (.cons (.refl _) (.cons (.refl _) (.cons (.refl _) (.cons (.refl _) (.cons (.lst 4 _ _ _ hr) (.cons (.lst 2 _ _ _ ht) (.cons (.refl _) (.cons (.refl _) (.cons (.refl _) (.cons (.refl _) .nil))))))))))) (.cons (.lst 1 _ _ _ hg) .nil)) Q hQ.2
 ·cases h
noncomputable def E_eni (B A : List Int) (k : Nat) : St := (some { σ := mkS 183 [(18, .lst 1 B.length (fun j => [i (nthJ B j)])), (20, .lst 1 A.length (fun j => [i (nthJ A j)])), (27, i k)], m := [], nx := 901 } : Option St).getD { σ := [], m := [], nx := 0 }
noncomputable def B_eni : Code := (loopBody (loopAt (loopBody (loopAt (bodyOf Tryz.f16) 0)) 0))
noncomputable def inv_eni (B A : List Int) (k : Nat) (j : Nat) : St := { σ := ovrS [(28, bl (memE B (nthJ A k) j)), (29, i j)] (E_eni B A k).σ, m := (E_eni B A k).m, nx := (E_eni B A k).nx }
noncomputable def out_eni (B A : List Int) (k : Nat) (j : Nat) : AEx → Option St := fun ex => match ex with
 | .exit 2 => some { σ := ovrS [(28, bl (memE B (nthJ A k) B.length))] (E_eni B A k).σ, m := (E_eni B A k).m, nx := (E_eni B A k).nx }
 | _ => none
noncomputable def T_eni (B A : List Int) (k : Nat) : CT := .leaf (.exit 2, ( out_eni B A k 0 (.exit 2)).getD (E_eni B A k))
noncomputable def LS_eni (B A : List Int) (k : Nat) : LSpec := normSp [] (sumL (inv_eni B A k (0)) (T_eni B A k))
theorem eni_ls (B A : List Int) (k : Nat) (pre0 : k < A.length) (pre1 : B.length ≤ 100000 ∧ A.length ≤ 100000) : LSound Tryz.prog (.loop B_eni) (LS_eni B A k) := by
 refine loop_roundsX [] (E := {}) (G := []) (L := []) (SoundG.nil _) (SoundX.of (SoundRL.nil _) (SoundHL.nil _)) mixed noLoops (X := Nat) (inv_eni B A k) (fun j => j ≤ B.length) (fun j => B.length - j) (out_eni B A k) (x0 := 0) (by simp) ?_ ?_ ?_
 ·rintro j
  kernel_rfl
 ·rintro j y E h
  unfold out_eni at h
  split at h
  ·cases h; kernel_rfl
  ·cases h
 ·rintro Q hQ j hx
  refine ⟨(j + 1), ?_⟩
  have e : roundX Tryz.prog [] {} [] [] B_eni (inv_eni B A k j) (inv_eni B A k ((j + 1))) (out_eni B A k j) = (let z0 := (lst 1 (List.length B) fun j => [iI (nthJ B j)]); (branch (decide ((↑j : Int) < (↑(List.length B) : Int))) (branch (memE B (nthJ A k) j) (need [inI64 ((↑j : Int) + 1)] (need [z0 = lst 1 (List.length B) fun j => [iI (nthJ B j)], (lst 1 (List.length A) fun j => [iI (nthJ A j)]) = lst 1 (List.length A) fun j => [iI (nthJ A j)], Eq1 (↑k : Int), true = memE B (nthJ A k) (j + 1), (↑j : Int) + 1 = (↑(j + 1) : Int)] (leaf AEx.normal))) (need [(0 : Int) ≤ (↑j : Int) ∧ (↑j : Int) < (↑(List.length B) : Int)] (need [(0 : Int) ≤ (↑k : Int) ∧ (↑k : Int) < (↑(List.length A) : Int)] (need [inI64 ((↑j : Int) + 1)] (need [z0 = lst 1 (List.length B) fun j => [iI (nthJ B j)], (lst 1 (List.length A) fun j => [iI (nthJ A j)]) = lst 1 (List.length A) fun j => [iI (nthJ A j)], Eq1 (↑k : Int), (nthJ B j == nthJ A k) = memE B (nthJ A k) (j + 1), (↑j : Int) + 1 = (↑(j + 1) : Int)] (leaf AEx.normal)))))) (need [z0 = lst 1 (List.length B) fun j => [iI (nthJ B j)], (lst 1 (List.length A) fun j => [iI (nthJ A j)]) = lst 1 (List.length A) fun j => [iI (nthJ A j)], Eq1 (↑k : Int), memE B (nthJ A k) j = memE B (nthJ A k) (List.length B)] (leaf (AEx.exit 2))))) := by kernel_rfl
  rw [e]
  simp only [T_eni, out_eni, Tree.sat, Option.getD_some] at hQ
  have ms : memE B (nthJ A k) (j + 1) = (memE B (nthJ A k) j || (nthJ B j == nthJ A k)) := rfl
  simp only [Tree.sat, allP, fitP, fitL, valEq, true_and, and_true, decide_eq_true_eq, decide_eq_false_iff_not, bne_iff_ne, ne_eq, bne_eq_false_iff_eq, beq_iff_eq, beq_eq_false_iff_ne, Bool.not_eq_true', Bool.not_eq_false', not_true_eq_false, false_imp_iff, true_imp_iff, Int.toNat_natCast, inI64]
  clear e
  refine ⟨fun h => ⟨fun h2 => ?_, fun h2 => ?_⟩, fun h => ?_⟩
  ·rw [ms, h2, Bool.true_or]
   (repeat' first | with_reducible apply And.intro | with_reducible intro _)
   all_goals first | exact True.intro | omega | with_reducible rfl | rfl
  ·rw [ms, h2, Bool.false_or]
   (repeat' first | with_reducible apply And.intro | with_reducible intro _)
   all_goals first | exact True.intro | omega | with_reducible rfl | rfl
  ·obtain rfl : j = B.length := by omega
   (repeat' first | with_reducible apply And.intro | with_reducible intro _)
   all_goals first | exact True.intro | omega | with_reducible rfl | (rename_i E hE; cases hE; exact hQ) | rfl
noncomputable def E_eno (B A : List Int) : St := (some { σ := mkS 183 [(18, .lst 1 B.length (fun j => [i (nthJ B j)])), (20, .lst 1 A.length (fun j => [i (nthJ A j)]))], m := [], nx := 901 } : Option St).getD { σ := [], m := [], nx := 0 }
noncomputable def B_eno : Code := (loopBody (loopAt (bodyOf Tryz.f16) 0))
noncomputable def inv_eno (B A : List Int) (k : Nat) : St := { σ := ovrS [(27, i k)] (E_eno B A).σ, m := (E_eno B A).m, nx := (E_eno B A).nx }
noncomputable def out_eno (B A : List Int) (k : Nat) : AEx → Option St := fun ex => match ex with
 | .exit 0 => some { σ := ovrS [] (E_eno B A).σ, m := (E_eno B A).m, nx := (E_eno B A).nx }
 | _ => none
noncomputable def T_eno (B A : List Int) : CT := .leaf (.exit 0, ( out_eno B A 0 (.exit 0)).getD (E_eno B A))
noncomputable def LS_eno (B A : List Int) : LSpec := normSp [] (sumL (inv_eno B A (0)) (T_eno B A))
theorem eno_ls (B A : List Int) (pre0 : allE A B) (pre1 : B.length ≤ 100000 ∧ A.length ≤ 100000) : LSound Tryz.prog (.loop B_eno) (LS_eno B A) := by
 refine loop_roundsX [] (E := {}) (G := []) (L := [depSp 27 (fun k => needSp [k < A.length] (LS_eni B A k))]) (SoundG.nil _) (SoundX.of (SoundRL.nil _) (SoundHL.nil _)) mixed (one_loop (fun cj hcj => by
  have e : loopAt B_eno 0 = some (.loop B_eni) := by kernel_rfl
  rw [e] at hcj; cases hcj
  exact depSp_sound (fun k => needSp_sound (ps := [k < A.length]) (fun h => eni_ls B A k h pre1)))) (X := Nat) (inv_eno B A) (fun k => k ≤ A.length) (fun k => A.length - k) (out_eno B A) (x0 := 0) (by simp) ?_ ?_ ?_
 ·rintro k
  kernel_rfl
 ·rintro k y E h
  unfold out_eno at h
  split at h
  ·cases h; kernel_rfl
  ·cases h
 ·rintro Q hQ k hx
  refine ⟨(k + 1), ?_⟩
  have e : roundX Tryz.prog [] {} [depSp 27 (fun k => needSp [k < A.length] (LS_eni B A k))] [] B_eno (inv_eno B A k) (inv_eno B A ((k + 1))) (out_eno B A k) = (let z0 := (lst 1 (List.length B) fun j => [iI (nthJ B j)]); (branch (decide ((↑k : Int) < (↑(List.length A) : Int))) (need [k < List.length A] (need [z0 = lst 1 (List.length B) fun j => [iI (nthJ B j)], (lst 1 (List.length A) fun j => [iI (nthJ A j)]) = lst 1 (List.length A) fun j => [iI (nthJ A j)], Eq1 (↑k : Int), false = memE B (nthJ A k) 0, (0 : Int) = (↑(0 : Nat) : Int)] (branch (!memE B (nthJ A k) (List.length B)) Tree.fail (need [inI64 ((↑k : Int) + 1)] (need [z0 = lst 1 (List.length B) fun j => [iI (nthJ B j)], (lst 1 (List.length A) fun j => [iI (nthJ A j)]) = lst 1 (List.length A) fun j => [iI (nthJ A j)], (↑k : Int) + 1 = (↑(k + 1) : Int)] (leaf AEx.normal)))))) (need [z0 = lst 1 (List.length B) fun j => [iI (nthJ B j)], (lst 1 (List.length A) fun j => [iI (nthJ A j)]) = lst 1 (List.length A) fun j => [iI (nthJ A j)]] (leaf (AEx.exit 0))))) := by kernel_rfl
  rw [e]
  simp only [T_eno, out_eno, Tree.sat, Option.getD_some] at hQ
  have h0 : memE B (nthJ A k) 0 = false := rfl
  simp only [Tree.sat, allP, fitP, fitL, valEq, true_and, and_true, decide_eq_true_eq, decide_eq_false_iff_not, bne_iff_ne, ne_eq, bne_eq_false_iff_eq, beq_iff_eq, beq_eq_false_iff_ne, Bool.not_eq_true', Bool.not_eq_false', not_true_eq_false, false_imp_iff, true_imp_iff, Int.toNat_natCast, inI64, h0]
  clear e
  refine ⟨fun h => ?_, fun h => ?_⟩
  ·have h1 := pre0 k (by omega)
   simp only [h1]
   (repeat' first | with_reducible apply And.intro | with_reducible intro _)
   all_goals first | exact True.intro | omega | contradiction | with_reducible rfl | rfl
  ·obtain rfl : k = A.length := by omega
   (repeat' first | with_reducible apply And.intro | with_reducible intro _)
   all_goals first | exact True.intro | omega | with_reducible rfl | (rename_i E hE; cases hE; exact hQ) | rfl
noncomputable def SR_CertEnough (c T lo hi : Int) (n : Nat) (a b u v : Nat → Int) (m : Nat) (p q : Nat → Int) (pl ph dl dh : Int) (nw : Nat) (w : Nat → Int) (nz : Nat) (z : Nat → Int) (u0 u1 wi day bits o : Int) (B A : List Int) (N : Nat) (ya yb yu yv : Nat → Int) : St := { σ := mkS 183 [(12, .x (.bool true))], m := [], nx := 100000 }
noncomputable def oJ_CertEnough (c T lo hi : Int) (n : Nat) (a b u v : Nat → Int) (m : Nat) (p q : Nat → Int) (pl ph dl dh : Int) (nw : Nat) (w : Nat → Int) (nz : Nat) (z : Nat → Int) (u0 u1 wi day bits o : Int) (B A : List Int) (N : Nat) (ya yb yu yv : Nat → Int) : AEx → Option St := fun ex => match ex with
 | .ret => some (SR_CertEnough c T lo hi n a b u v m p q pl ph dl dh nw w nz z u0 u1 wi day bits o B A N ya yb yu yv)
 | _ => none
noncomputable def Cd0_CertEnough : Code := bodyOf Tryz.f16
def Of0_CertEnough : Nat := 0
noncomputable def Cd1_CertEnough : Code := tailC 4 Cd0_CertEnough
noncomputable def Of1_CertEnough : Nat := tailO 4 Cd0_CertEnough Of0_CertEnough
noncomputable def K1_CertEnough (c T lo hi : Int) (n : Nat) (a b u v : Nat → Int) (m : Nat) (p q : Nat → Int) (pl ph dl dh : Int) (nw : Nat) (w : Nat → Int) (nz : Nat) (z : Nat → Int) (u0 u1 wi day bits o : Int) (B A : List Int) (N : Nat) (ya yb yu yv : Nat → Int) : St := { σ := mkS 183 [(5, .x (.int .u16 bits)), (9, .ptr 1 0), (13, .ptr 23 0), (15, i o)], m := [(23, .cells 31 [i c, i T, i lo, i hi, rds N ya yb yu yv, Pt.scs m p q, i pl, i ph, i dl, i dh]), (1, .cells 62 [i u0, i u1, i wi])], nx := 901 }
noncomputable def TJ1_CertEnough (c T lo hi : Int) (n : Nat) (a b u v : Nat → Int) (m : Nat) (p q : Nat → Int) (pl ph dl dh : Int) (nw : Nat) (w : Nat → Int) (nz : Nat) (z : Nat → Int) (u0 u1 wi day bits o : Int) (B A : List Int) (N : Nat) (ya yb yu yv : Nat → Int) : CT := .need [rdE c T lo hi N ya yb yu yv m p q pl ph dl dh = 0, usB c u0 u1 wi = true, 0 ≤ o ∧ o ≤ 10000] (.leaf (.ret, SR_CertEnough c T lo hi n a b u v m p q pl ph dl dh nw w nz z u0 u1 wi day bits o B A N ya yb yu yv))
noncomputable def Cd2_CertEnough : Code := tailC 10 Cd1_CertEnough
noncomputable def Of2_CertEnough : Nat := tailO 10 Cd1_CertEnough Of1_CertEnough
noncomputable def K2_CertEnough (c T lo hi : Int) (n : Nat) (a b u v : Nat → Int) (m : Nat) (p q : Nat → Int) (pl ph dl dh : Int) (nw : Nat) (w : Nat → Int) (nz : Nat) (z : Nat → Int) (u0 u1 wi day bits o : Int) (B A : List Int) (N : Nat) (ya yb yu yv : Nat → Int) : St := { σ := mkS 183 [(18, .lst 1 B.length (fun j => [i (nthJ B j)])), (20, .lst 1 A.length (fun j => [i (nthJ A j)]))], m := [], nx := 901 }
noncomputable def TJ2_CertEnough (c T lo hi : Int) (n : Nat) (a b u v : Nat → Int) (m : Nat) (p q : Nat → Int) (pl ph dl dh : Int) (nw : Nat) (w : Nat → Int) (nz : Nat) (z : Nat → Int) (u0 u1 wi day bits o : Int) (B A : List Int) (N : Nat) (ya yb yu yv : Nat → Int) : CT := .need [allE A B, B.length ≤ 100000 ∧ A.length ≤ 100000] (.leaf (.ret, SR_CertEnough c T lo hi n a b u v m p q pl ph dl dh nw w nz z u0 u1 wi day bits o B A N ya yb yu yv))
theorem CertEnough_suf2 (c T lo hi : Int) (n : Nat) (a b u v : Nat → Int) (m : Nat) (p q : Nat → Int) (pl ph dl dh : Int) (nw : Nat) (w : Nat → Int) (nz : Nat) (z : Nat → Int) (u0 u1 wi day bits o : Int) (B A : List Int) (N : Nat) (ya yb yu yv : Nat → Int) (pre0 : nw ≤ 10000000000000000000) (pre1 : wOk nw w) (pre2 : nz ≤ 10000000000000000000) (pre3 : wOk nz z) (pre4 : 0 ≤ day ∧ day ≤ 65535) (pre5 : 0 ≤ bits ∧ bits ≤ 65535) (pre6 : day.tmod 10001 = o) (pre7 : egL c T lo hi N ya yb yu yv m p q pl ph dl dh u0 u1 wi o = B) (pre8 : hgR c T lo hi N ya yb yu yv m p q pl ph dl dh u0 u1 wi o = A) (pre9 : (min (min 9 nz) 12) = N) (pre10 : yA c z = ya) (pre11 : yB c T lo hi nw w z = yb) (pre12 : yU c T lo hi nw w z = yu) (pre13 : yV c T lo hi nw w z = yv) (cx : Cx) : SufOk Tryz.prog cx [needSp [allE A B, B.length ≤ 100000 ∧ A.length ≤ 100000] (LS_eno B A)] Cd2_CertEnough Of2_CertEnough (K2_CertEnough c T lo hi n a b u v m p q pl ph dl dh nw w nz z u0 u1 wi day bits o B A N ya yb yu yv) (TJ2_CertEnough c T lo hi n a b u v m p q pl ph dl dh nw w nz z u0 u1 wi day bits o B A N ya yb yu yv) := by
 have hG : SoundG Tryz.prog [(28, S_ready), (34, S_rIsUse), (18, S_wakes), (36, S_Use), (43, S_Kept), (55, S_Enough), (54, S_Hangs), (56, S_rOf), (60, S_rRising), (58, S_rLess)] := (SoundG.cons ready_ok (SoundG.cons rIsUse_ok (SoundG.cons wakes_ok (SoundG.cons Use_ok (SoundG.cons Kept_ok (SoundG.cons Enough_ok (SoundG.cons Hangs_ok (SoundG.cons rOf_ok (SoundG.cons rRising_ok (SoundG.cons rLess_ok (SoundG.nil _)))))))))))
 have hX : ∀ cx, SoundX Tryz.prog { R := [], H := [], C := [(20, C_Instrument), (29, C_Truly), (61, C_rWith)] } cx := (SoundX.ofC (SoundRL.nil _) (SoundHL.nil _) (SoundCL.cons Instrument_okC (SoundCL.cons Truly_okC (SoundCL.cons rWith_okC (SoundCL.nil _)))))
 have hmix : Tryz.prog.follows .mixedOrders = true := mixed
 refine suf_of (ev := (codeX Tryz.prog [(28, S_ready), (34, S_rIsUse), (18, S_wakes), (36, S_Use), (43, S_Kept), (55, S_Enough), (54, S_Hangs), (56, S_rOf), (60, S_rRising), (58, S_rLess)] { R := [], H := [], C := [(20, C_Instrument), (29, C_Truly), (61, C_rWith)] } [needSp [allE A B, B.length ≤ 100000 ∧ A.length ≤ 100000] (LS_eno B A)] Cd2_CertEnough Of2_CertEnough)) (out := oJ_CertEnough c T lo hi n a b u v m p q pl ph dl dh nw w nz z u0 u1 wi day bits o B A N ya yb yu yv) (codeX_at hG (hX cx) hmix Cd2_CertEnough Of2_CertEnough) (fun y E h => by
  unfold oJ_CertEnough at h
  split at h
  ·cases h; kernel_rfl
  ·cases h) ?_
 intro Q hQ
 have e : ((codeX Tryz.prog [(28, S_ready), (34, S_rIsUse), (18, S_wakes), (36, S_Use), (43, S_Kept), (55, S_Enough), (54, S_Hangs), (56, S_rOf), (60, S_rRising), (58, S_rLess)] { R := [], H := [], C := [(20, C_Instrument), (29, C_Truly), (61, C_rWith)] } [needSp [allE A B, B.length ≤ 100000 ∧ A.length ≤ 100000] (LS_eno B A)] Cd2_CertEnough Of2_CertEnough) (K2_CertEnough c T lo hi n a b u v m p q pl ph dl dh nw w nz z u0 u1 wi day bits o B A N ya yb yu yv)).bind (endR [] (K2_CertEnough c T lo hi n a b u v m p q pl ph dl dh nw w nz z u0 u1 wi day bits o B A N ya yb yu yv) (oJ_CertEnough c T lo hi n a b u v m p q pl ph dl dh nw w nz z u0 u1 wi day bits o B A N ya yb yu yv)) = (need [allE A B, List.length B ≤ 100000 ∧ List.length A ≤ 100000] (need [(lst 1 (List.length B) fun j => [iI (nthJ B j)]) = lst 1 (List.length B) fun j => [iI (nthJ B j)], (lst 1 (List.length A) fun j => [iI (nthJ A j)]) = lst 1 (List.length A) fun j => [iI (nthJ A j)], (0 : Int) = (↑(0 : Nat) : Int)] (need [true = true] (leaf AEx.ret)))) := by kernel_rfl
 rw [e]
 simp only [Tree.sat, allP, fitP, fitL, valEq, true_and, and_true, decide_eq_true_eq, decide_eq_false_iff_not, bne_iff_ne, ne_eq, bne_eq_false_iff_eq, beq_iff_eq, beq_eq_false_iff_ne, Bool.not_eq_true', Bool.not_eq_false', not_true_eq_false, false_imp_iff, true_imp_iff]
 have hE0 : ∀ E, oJ_CertEnough c T lo hi n a b u v m p q pl ph dl dh nw w nz z u0 u1 wi day bits o B A N ya yb yu yv .ret = some E → Q (.ret, E) := fun E hE => by cases hE; exact hQ.2
 obtain ⟨hr, hu⟩ := hQ.1
 exact ⟨⟨hr, hu⟩, rfl, hE0⟩
theorem CertEnough_suf1 (c T lo hi : Int) (n : Nat) (a b u v : Nat → Int) (m : Nat) (p q : Nat → Int) (pl ph dl dh : Int) (nw : Nat) (w : Nat → Int) (nz : Nat) (z : Nat → Int) (u0 u1 wi day bits o : Int) (B A : List Int) (N : Nat) (ya yb yu yv : Nat → Int) (pre0 : nw ≤ 10000000000000000000) (pre1 : wOk nw w) (pre2 : nz ≤ 10000000000000000000) (pre3 : wOk nz z) (pre4 : 0 ≤ day ∧ day ≤ 65535) (pre5 : 0 ≤ bits ∧ bits ≤ 65535) (pre6 : day.tmod 10001 = o) (pre7 : egL c T lo hi N ya yb yu yv m p q pl ph dl dh u0 u1 wi o = B) (pre8 : hgR c T lo hi N ya yb yu yv m p q pl ph dl dh u0 u1 wi o = A) (pre9 : (min (min 9 nz) 12) = N) (pre10 : yA c z = ya) (pre11 : yB c T lo hi nw w z = yb) (pre12 : yU c T lo hi nw w z = yu) (pre13 : yV c T lo hi nw w z = yv) (cx : Cx) : SufOk Tryz.prog cx [needSp [allE A B, B.length ≤ 100000 ∧ A.length ≤ 100000] (LS_eno B A)] Cd1_CertEnough Of1_CertEnough (K1_CertEnough c T lo hi n a b u v m p q pl ph dl dh nw w nz z u0 u1 wi day bits o B A N ya yb yu yv) (TJ1_CertEnough c T lo hi n a b u v m p q pl ph dl dh nw w nz z u0 u1 wi day bits o B A N ya yb yu yv) := by
 have hG : SoundG Tryz.prog [(28, S_ready), (34, S_rIsUse), (18, S_wakes), (36, S_Use), (43, S_Kept), (55, S_Enough), (54, S_Hangs), (56, S_rOf), (60, S_rRising), (58, S_rLess)] := (SoundG.cons ready_ok (SoundG.cons rIsUse_ok (SoundG.cons wakes_ok (SoundG.cons Use_ok (SoundG.cons Kept_ok (SoundG.cons Enough_ok (SoundG.cons Hangs_ok (SoundG.cons rOf_ok (SoundG.cons rRising_ok (SoundG.cons rLess_ok (SoundG.nil _)))))))))))
 have hX : ∀ cx, SoundX Tryz.prog { R := [], H := [], C := [(20, C_Instrument), (29, C_Truly), (61, C_rWith)] } cx := (SoundX.ofC (SoundRL.nil _) (SoundHL.nil _) (SoundCL.cons Instrument_okC (SoundCL.cons Truly_okC (SoundCL.cons rWith_okC (SoundCL.nil _)))))
 have hmix : Tryz.prog.follows .mixedOrders = true := mixed
 refine suf_of (ev := (codeJ Tryz.prog [(28, S_ready), (34, S_rIsUse), (18, S_wakes), (36, S_Use), (43, S_Kept), (55, S_Enough), (54, S_Hangs), (56, S_rOf), (60, S_rRising), (58, S_rLess)] { R := [], H := [], C := [(20, C_Instrument), (29, C_Truly), (61, C_rWith)] } [needSp [allE A B, B.length ≤ 100000 ∧ A.length ≤ 100000] (LS_eno B A)] [] (K2_CertEnough c T lo hi n a b u v m p q pl ph dl dh nw w nz z u0 u1 wi day bits o B A N ya yb yu yv) (TJ2_CertEnough c T lo hi n a b u v m p q pl ph dl dh nw w nz z u0 u1 wi day bits o B A N ya yb yu yv) 10 Cd1_CertEnough Of1_CertEnough)) (out := oJ_CertEnough c T lo hi n a b u v m p q pl ph dl dh nw w nz z u0 u1 wi day bits o B A N ya yb yu yv) (codeJ_at (N := []) (s2 := K2_CertEnough c T lo hi n a b u v m p q pl ph dl dh nw w nz z u0 u1 wi day bits o B A N ya yb yu yv) (t2 := TJ2_CertEnough c T lo hi n a b u v m p q pl ph dl dh nw w nz z u0 u1 wi day bits o B A N ya yb yu yv) hG (hX cx) hmix (by kernel_rfl) 10 Cd1_CertEnough Of1_CertEnough (CertEnough_suf2 c T lo hi n a b u v m p q pl ph dl dh nw w nz z u0 u1 wi day bits o B A N ya yb yu yv pre0 pre1 pre2 pre3 pre4 pre5 pre6 pre7 pre8 pre9 pre10 pre11 pre12 pre13 cx)) (fun y E h => by
  unfold oJ_CertEnough at h
  split at h
  ·cases h; kernel_rfl
  ·cases h) ?_
 intro Q hQ
 have e : ((codeJ Tryz.prog [(28, S_ready), (34, S_rIsUse), (18, S_wakes), (36, S_Use), (43, S_Kept), (55, S_Enough), (54, S_Hangs), (56, S_rOf), (60, S_rRising), (58, S_rLess)] { R := [], H := [], C := [(20, C_Instrument), (29, C_Truly), (61, C_rWith)] } [needSp [allE A B, B.length ≤ 100000 ∧ A.length ≤ 100000] (LS_eno B A)] [] (K2_CertEnough c T lo hi n a b u v m p q pl ph dl dh nw w nz z u0 u1 wi day bits o B A N ya yb yu yv) (TJ2_CertEnough c T lo hi n a b u v m p q pl ph dl dh nw w nz z u0 u1 wi day bits o B A N ya yb yu yv) 10 Cd1_CertEnough Of1_CertEnough) (K1_CertEnough c T lo hi n a b u v m p q pl ph dl dh nw w nz z u0 u1 wi day bits o B A N ya yb yu yv)).bind (endR [] (K1_CertEnough c T lo hi n a b u v m p q pl ph dl dh nw w nz z u0 u1 wi day bits o B A N ya yb yu yv) (oJ_CertEnough c T lo hi n a b u v m p q pl ph dl dh nw w nz z u0 u1 wi day bits o B A N ya yb yu yv)) = (let z0 := (egL c T lo hi N ya yb yu yv m p q pl ph dl dh u0 u1 wi o); let z7 := (List.length (ofL bits N)); let z1 := (soL z7 (nthJ (ofL bits N)) false N); let z2 := (soL (List.length z0) (nthJ z0) false N); let z5 := (hgR c T lo hi N ya yb yu yv m p q pl ph dl dh u0 u1 wi o); let z3 := (need [(lst 1 (List.length z0) fun j => [iI (nthJ z0 j)]) = lst 1 (List.length B) fun j => [iI (nthJ B j)], (lst 1 (List.length z5) fun j => [iI (nthJ z5 j)]) = lst 1 (List.length A) fun j => [iI (nthJ A j)]] (need [allE A B, List.length B ≤ 100000 ∧ List.length A ≤ 100000] (need [true = true] (leaf AEx.ret)))); let z4 := (need [false = true] (leaf AEx.ret)); let z6 := hgE c T lo hi N ya yb yu yv m p q pl ph dl dh u0 u1 wi o; (need [isRec 4 N fun k => [Bo.i (ya k), Bo.i (yb k), Bo.i (yu k), Bo.i (yv k)], isRec 2 m fun k => [Pt.i (p k), Pt.i (q k)], N ≤ 100000, m ≤ 100000] (need [isRec 4 N fun k => [Bo.i (ya k), Bo.i (yb k), Bo.i (yu k), Bo.i (yv k)], isRec 2 m fun k => [Pt.i (p k), Pt.i (q k)]] (need [isRec 4 N fun k => [Bo.i (ya k), Bo.i (yb k), Bo.i (yu k), Bo.i (yv k)], isRec 2 m fun k => [Pt.i (p k), Pt.i (q k)], N ≤ 100000, m ≤ 100000] (need [isRec 4 N fun k => [Bo.i (ya k), Bo.i (yb k), Bo.i (yu k), Bo.i (yv k)], isRec 2 m fun k => [Pt.i (p k), Pt.i (q k)]] (need [isRec 4 N fun k => [Bo.i (ya k), Bo.i (yb k), Bo.i (yu k), Bo.i (yv k)], isRec 2 m fun k => [Pt.i (p k), Pt.i (q k)], N ≤ 100000, m ≤ 100000] (need [isRec 4 N fun k => [Bo.i (ya k), Bo.i (yb k), Bo.i (yu k), Bo.i (yv k)], isRec 2 m fun k => [Pt.i (p k), Pt.i (q k)]] (branch (asE c T lo hi N ya yb yu yv m p q pl ph dl dh u0 u1 wi o != (0 : Int)) z4 (branch (z6 != z6) z4 (branch (!kpB c T lo hi N ya yb yu yv m p q pl ph dl dh u0 u1 wi o) (branch (z6 == (10 : Int)) (need [true = true] (leaf AEx.ret)) z4) (need [inI64 bits] (need [isRec 4 N fun k => [Bo.i (ya k), Bo.i (yb k), Bo.i (yu k), Bo.i (yv k)], N ≤ 64] (branch (z6 != (0 : Int)) z4 (need [isRec 4 N fun k => [Bo.i (ya k), Bo.i (yb k), Bo.i (yu k), Bo.i (yv k)], isRec 1 (List.length z0) fun j => [i (nthJ z0 j)], List.length z0 ≤ 100000, N ≤ 100000] (branch (!risB N (List.length z0) (nthJ z0)) z4 (need [isRec 4 N fun k => [Bo.i (ya k), Bo.i (yb k), Bo.i (yu k), Bo.i (yv k)], isRec 1 (List.length z5) fun j => [i (nthJ z5 j)], List.length z5 ≤ 100000, N ≤ 100000] (branch (!risB N (List.length z5) (nthJ z5)) z4 (need [isRec 4 N fun k => [Bo.i (ya k), Bo.i (yb k), Bo.i (yu k), Bo.i (yv k)], isRec 2 m fun k => [Pt.i (p k), Pt.i (q k)], isRec 1 (List.length z0) fun j => [i (nthJ z0 j)], List.length z0 ≤ 100000, N ≤ 100000] (need [isRec 4 (List.length z2) fun k => [Bo.i (selF ya (nthJ z2) k), Bo.i (selF yb (nthJ z2) k), Bo.i (selF yu (nthJ z2) k), Bo.i (selF yv (nthJ z2) k)], isRec 2 m fun k => [Pt.i (p k), Pt.i (q k)], List.length z2 ≤ 100000, m ≤ 100000] (need [isRec 4 (List.length z2) fun k => [Bo.i (selF ya (nthJ z2) k), Bo.i (selF yb (nthJ z2) k), Bo.i (selF yu (nthJ z2) k), Bo.i (selF yv (nthJ z2) k)], isRec 2 m fun k => [Pt.i (p k), Pt.i (q k)]] (need [isRec 4 N fun k => [Bo.i (ya k), Bo.i (yb k), Bo.i (yu k), Bo.i (yv k)], isRec 2 m fun k => [Pt.i (p k), Pt.i (q k)], isRec 1 z7 fun j => [i (nthJ (ofL bits N) j)], List.length (ofL bits N) ≤ 100000, N ≤ 100000] (need [isRec 4 (List.length z1) fun k => [Bo.i (selF ya (nthJ z1) k), Bo.i (selF yb (nthJ z1) k), Bo.i (selF yu (nthJ z1) k), Bo.i (selF yv (nthJ z1) k)], isRec 2 m fun k => [Pt.i (p k), Pt.i (q k)], List.length z1 ≤ 100000, m ≤ 100000] (need [isRec 4 (List.length z1) fun k => [Bo.i (selF ya (nthJ z1) k), Bo.i (selF yb (nthJ z1) k), Bo.i (selF yu (nthJ z1) k), Bo.i (selF yv (nthJ z1) k)], isRec 2 m fun k => [Pt.i (p k), Pt.i (q k)]] (branch (asE c T lo hi (List.length z2) (selF ya (nthJ z2)) (selF yb (nthJ z2)) (selF yu (nthJ z2)) (selF yv (nthJ z2)) m p q pl ph dl dh u0 u1 wi o != (0 : Int)) z4 (branch (!kpB c T lo hi (List.length z2) (selF ya (nthJ z2)) (selF yb (nthJ z2)) (selF yu (nthJ z2)) (selF yv (nthJ z2)) m p q pl ph dl dh u0 u1 wi o) z4 (branch (asE c T lo hi (List.length z1) (selF ya (nthJ z1)) (selF yb (nthJ z1)) (selF yu (nthJ z1)) (selF yv (nthJ z1)) m p q pl ph dl dh u0 u1 wi o != (0 : Int)) z4 (branch (kpB c T lo hi (List.length z1) (selF ya (nthJ z1)) (selF yb (nthJ z1)) (selF yu (nthJ z1)) (selF yv (nthJ z1)) m p q pl ph dl dh u0 u1 wi o) (need [isRec 1 z7 fun j => [i (nthJ (ofL bits N) j)], isRec 1 (List.length z0) fun j => [i (nthJ z0 j)], List.length (ofL bits N) ≤ 100000] (branch (lessL (tol z7 (nthJ (ofL bits N))) (tol (List.length z0) (nthJ z0))) z4 z3)) z3))))))))))))))))))))))))))) := by kernel_rfl
 rw [e]
 simp only [Tree.sat, allP, fitP, fitL, valEq, true_and, and_true, decide_eq_true_eq, decide_eq_false_iff_not, bne_iff_ne, ne_eq, bne_eq_false_iff_eq, beq_iff_eq, beq_eq_false_iff_ne, Bool.not_eq_true', Bool.not_eq_false', not_true_eq_false, false_imp_iff, true_imp_iff]
 have hE0 : ∀ E, oJ_CertEnough c T lo hi n a b u v m p q pl ph dl dh nw w nz z u0 u1 wi day bits o B A N ya yb yu yv .ret = some E → Q (.ret, E) := fun E hE => by cases hE; exact hQ.2
 obtain ⟨hr, hu, ho⟩ := hQ.1
 have ho : 0 ≤ o ∧ o ≤ 10000 := ho
 clear e
 have n1 : N ≤ 9 := by omega
 have m1 : m ≤ 8 := (rdE_0 hr).2.1
 have fy : asE c T lo hi N ya yb yu yv m p q pl ph dl dh u0 u1 wi o = 0 := asE_of hr hu ho
 have fk := kp_ke fy
 have hol := ofL_len bits N
 cases hK : keB c (wkA c T lo hi N ya yb yu yv m p q pl ph dl dh) u0 u1 wi o with
 | false =>
  have g0 : hgE c T lo hi N ya yb yu yv m p q pl ph dl dh u0 u1 wi o = 10 := by
   unfold hgE
   rw [if_pos fy, hK]
   rfl
  rw [hK] at fk
  simp only [fy, fk, g0, inI64]
  (repeat' first | with_reducible apply And.intro | with_reducible intro _)
  all_goals first | exact True.intro | exact Bo.isRec4 _ _ _ _ _ | exact Pt.isRec2 _ _ _ | exact isRec1 _ _ | assumption | omega | (exfalso; omega) | contradiction | exact hE0 _ (by assumption) | rfl | trace_state
 | true =>
  obtain ⟨g0, r1, r2, k1, mn, al⟩ := eg_all hr hu ho hK
  rw [hK] at fk
  rw [pre7] at r1 k1 mn al
  rw [pre8] at r2 al
  have l1 := risF_len r1
  have l2 := risF_len r2
  have q1 : risB N B.length (nthJ B) = true := ris_iff.2 ⟨(ris_F r1).1, (ris_F r1).2.2⟩
  have q2 : risB N A.length (nthJ A) = true := ris_iff.2 ⟨(ris_F r2).1, (ris_F r2).2.2⟩
  have s1 := soL_ris r1
  have s2 := soL_ris (ofL_ris bits N)
  have t1 := sel_kp hr hu ho r1
  have t2 := sel_kp hr hu ho (ofL_ris bits N)
  rw [k1] at t1
  have mn2 := mn _ (ofL_ris bits N)
  simp only [fy, fk, g0, pre7, pre8, q1, q2, s1, s2, t1.1, t1.2, t2.1, t2.2, tol_list, inI64]
  generalize kpS c T lo hi N ya yb yu yv m p q pl ph dl dh u0 u1 wi o (ofL bits N) = KS at *
  (repeat' first | with_reducible apply And.intro | with_reducible intro _)
  all_goals first | exact True.intro | exact Bo.isRec4 _ _ _ _ _ | exact Pt.isRec2 _ _ _ | exact isRec1 _ _ | assumption | omega | (exfalso; omega) | contradiction | exact hE0 _ (by assumption) | (exfalso; have hx := mn2 (by assumption); simp_all; done) | rfl | trace_state
theorem CertEnough_at (c T lo hi : Int) (n : Nat) (a b u v : Nat → Int) (m : Nat) (p q : Nat → Int) (pl ph dl dh : Int) (nw : Nat) (w : Nat → Int) (nz : Nat) (z : Nat → Int) (u0 u1 wi day bits o : Int) (B A : List Int) (N : Nat) (ya yb yu yv : Nat → Int) (pre0 : nw ≤ 10000000000000000000) (pre1 : wOk nw w) (pre2 : nz ≤ 10000000000000000000) (pre3 : wOk nz z) (pre4 : 0 ≤ day ∧ day ≤ 65535) (pre5 : 0 ≤ bits ∧ bits ≤ 65535) (pre6 : day.tmod 10001 = o) (pre7 : egL c T lo hi N ya yb yu yv m p q pl ph dl dh u0 u1 wi o = B) (pre8 : hgR c T lo hi N ya yb yu yv m p q pl ph dl dh u0 u1 wi o = A) (pre9 : (min (min 9 nz) 12) = N) (pre10 : yA c z = ya) (pre11 : yB c T lo hi nw w z = yb) (pre12 : yU c T lo hi nw w z = yu) (pre13 : yV c T lo hi nw w z = yv) : SoundAt Tryz.prog 16 [.agg [i c, i T, i lo, i hi, rds n a b u v, Pt.scs m p q, i pl, i ph, i dl, i dh], wds nw w, wds nz z, .agg [i u0, i u1, i wi], .x (.int .u16 day), .x (.int .u16 bits)] (bl true) := by
 have hG : SoundG Tryz.prog [(28, S_ready), (34, S_rIsUse), (18, S_wakes), (36, S_Use), (43, S_Kept), (55, S_Enough), (54, S_Hangs), (56, S_rOf), (60, S_rRising), (58, S_rLess)] := (SoundG.cons ready_ok (SoundG.cons rIsUse_ok (SoundG.cons wakes_ok (SoundG.cons Use_ok (SoundG.cons Kept_ok (SoundG.cons Enough_ok (SoundG.cons Hangs_ok (SoundG.cons rOf_ok (SoundG.cons rRising_ok (SoundG.cons rLess_ok (SoundG.nil _)))))))))))
 have hX : ∀ cx, SoundX Tryz.prog { R := [], H := [], C := [(20, C_Instrument), (29, C_Truly), (61, C_rWith)] } cx := (SoundX.ofC (SoundRL.nil _) (SoundHL.nil _) (SoundCL.cons Instrument_okC (SoundCL.cons Truly_okC (SoundCL.cons rWith_okC (SoundCL.nil _)))))
 have hmix : Tryz.prog.follows .mixedOrders = true := mixed
 refine soundAt_cutJ (L := [needSp [allE A B, B.length ≤ 100000 ∧ A.length ≤ 100000] (LS_eno B A)]) Tryz.func16 (show Tryz.f16.body = some (bodyOf Tryz.f16) by kernel_rfl) (ev := (codeJ Tryz.prog [(28, S_ready), (34, S_rIsUse), (18, S_wakes), (36, S_Use), (43, S_Kept), (55, S_Enough), (54, S_Hangs), (56, S_rOf), (60, S_rRising), (58, S_rLess)] { R := [], H := [], C := [(20, C_Instrument), (29, C_Truly), (61, C_rWith)] } [needSp [allE A B, B.length ≤ 100000 ∧ A.length ≤ 100000] (LS_eno B A)] [] (K1_CertEnough c T lo hi n a b u v m p q pl ph dl dh nw w nz z u0 u1 wi day bits o B A N ya yb yu yv) (TJ1_CertEnough c T lo hi n a b u v m p q pl ph dl dh nw w nz z u0 u1 wi day bits o B A N ya yb yu yv) 4 Cd0_CertEnough Of0_CertEnough)) (fun cx => (codeJ_at (N := []) (s2 := K1_CertEnough c T lo hi n a b u v m p q pl ph dl dh nw w nz z u0 u1 wi day bits o B A N ya yb yu yv) (t2 := TJ1_CertEnough c T lo hi n a b u v m p q pl ph dl dh nw w nz z u0 u1 wi day bits o B A N ya yb yu yv) hG (hX cx) hmix (by kernel_rfl) 4 Cd0_CertEnough Of0_CertEnough (CertEnough_suf1 c T lo hi n a b u v m p q pl ph dl dh nw w nz z u0 u1 wi day bits o B A N ya yb yu yv pre0 pre1 pre2 pre3 pre4 pre5 pre6 pre7 pre8 pre9 pre10 pre11 pre12 pre13 cx))) (one_loop (lpE (b := .loop B_eno) (by kernel_rfl) <| (needSp_sound (ps := [allE A B, B.length ≤ 100000 ∧ A.length ≤ 100000]) (fun h => eno_ls B A h.1 h.2)).N)) (t := (let z0 := (min (9 : Int) (↑nz : Int)); let z1 := (leaf (RV.x (Value.bool true))); (need [isRec 4 n fun k => [Bo.i (a k), Bo.i (b k), Bo.i (u k), Bo.i (v k)], isRec 2 m fun k => [Pt.i (p k), Pt.i (q k)]] (branch (!vaB c T lo hi m p q pl ph dl dh) z1 (need [isRec 4 n fun k => [Bo.i (a k), Bo.i (b k), Bo.i (u k), Bo.i (v k)], isRec 2 m fun k => [Pt.i (p k), Pt.i (q k)]] (branch (!usB c u0 u1 wi) z1 (need [(0 : Int) ≤ 0 ∧ (0 : Int) ≤ min (9 : Int) (↑nz : Int) ∧ min (9 : Int) (↑nz : Int) ≤ (↑nz : Int)] (need [isRec 4 n fun k => [Bo.i (a k), Bo.i (b k), Bo.i (u k), Bo.i (v k)], isRec 2 m fun k => [Pt.i (p k), Pt.i (q k)], isW nw fun k => [AV.x (Value.int IntKind.u16 (w k))], isW (Int.toNat z0 - Int.toNat (0 : Int)) fun i => [AV.x (Value.int IntKind.u16 (z (Int.toNat (0 : Int) + i)))], tubeB c T lo hi = true, nw ≤ 10000000000000000000, wOk nw fun j => wAt [AV.x (Value.int IntKind.u16 (w j))], Int.toNat z0 - Int.toNat (0 : Int) ≤ 10000000000000000000, wOk (Int.toNat z0 - Int.toNat (0 : Int)) fun j => wAt [AV.x (Value.int IntKind.u16 (z (Int.toNat (0 : Int) + j)))]] (need [inI64 day] (need [(10001 : Int) ≠ (0 : Int)] (need [bits = bits, Eq1 (ptr 1 0), Eq1 (ptr 23 0), Int.tmod day (10001 : Int) = o, c = c, T = T, lo = lo, hi = hi, (lst 4 (min (Int.toNat z0 - Int.toNat (0 : Int)) 12) fun k => [iI (yA c (fun j => wAt [AV.x (Value.int IntKind.u16 (z (Int.toNat (0 : Int) + j)))]) k), iI (yB c T lo hi nw (fun j => wAt [AV.x (Value.int IntKind.u16 (w j))]) (fun j => wAt [AV.x (Value.int IntKind.u16 (z (Int.toNat (0 : Int) + j)))]) k), iI (yU c T lo hi nw (fun j => wAt [AV.x (Value.int IntKind.u16 (w j))]) (fun j => wAt [AV.x (Value.int IntKind.u16 (z (Int.toNat (0 : Int) + j)))]) k), iI (yV c T lo hi nw (fun j => wAt [AV.x (Value.int IntKind.u16 (w j))]) (fun j => wAt [AV.x (Value.int IntKind.u16 (z (Int.toNat (0 : Int) + j)))]) k)]) = lst 4 N (rq4 ya yb yu yv), (lst 2 m fun k => [iI (p k), iI (q k)]) = lst 2 m fun k => [iI (p k), iI (q k)], pl = pl, ph = ph, dl = dl, dh = dh, u0 = u0, u1 = u1, wi = wi] (need [rdE c T lo hi N ya yb yu yv m p q pl ph dl dh = (0 : Int), usB c u0 u1 wi = true, (0 : Int) ≤ o ∧ o ≤ (10000 : Int)] z1)))))))))))) (by kernel_rfl) ?_
 subst pre9 pre10 pre11 pre12 pre13
 simp only [Tree.sat, allP, fitP, fitL, valEq, true_and, and_true, decide_eq_true_eq, decide_eq_false_iff_not, bne_iff_ne, ne_eq, bne_eq_false_iff_eq, beq_iff_eq, beq_eq_false_iff_ne, Bool.not_eq_true', Bool.not_eq_false', not_true_eq_false, false_imp_iff, true_imp_iff]
 simp only [wc]
 refine ⟨⟨Bo.isRec4 n a b u v, Pt.isRec2 m p q⟩, fun _ => trivial, fun h => ⟨⟨Bo.isRec4 n a b u v, Pt.isRec2 m p q⟩, fun _ => trivial, fun h2 => ?_⟩⟩
 have va := va_iff.1 h
 have tb := tube_bd va.2.1
 have hw2 : wOk (min 9 nz) z := fun k hk => pre3 k (by omega)
 have hr : rdE c T lo hi (min (min 9 nz) 12) (yA c z) (yB c T lo hi nw w z) (yU c T lo hi nw w z) (yV c T lo hi nw w z) m p q pl ph dl dh = 0 := y_rd (nw := nw) (nz := min 9 nz) h pre1 hw2
 have hd := day_bd pre4
 rw [pre6] at hd
 have eN : min ((min 9 (nz : Int)).toNat - Int.toNat 0) 12 = (min (min 9 nz) 12) := by omega
 have ez : (fun k => z (Int.toNat 0 + k)) = z := funext fun k => by rw [show Int.toNat 0 = 0 from rfl, Nat.zero_add]
 have ew : wOk ((min 9 (nz : Int)).toNat - Int.toNat 0) z := fun k hk => pre3 k (by omega)
 simp only [eN, ez, inI64]
 (repeat' first | with_reducible apply And.intro | with_reducible intro _)
 all_goals first | exact True.intro | exact Bo.isRec4 _ _ _ _ _ | exact Pt.isRec2 _ _ _ | exact isWn _ _ | exact ew | assumption | exact va.2.1 | omega | rfl | exact fun _ _ => rfl | trace_state
end Go.Proofs.YtlinbkmpkcmniaaGreat
namespace Go.Proofs.YtlinbkmpkcmniaaGreat
open Go Go.Sx Go.RowKit Bo Go.ChangeShapes Go.WideShapes Go.ChangeAt
open Go.Sx.Tree (need branch leaf)
open Go.Sx.AV (lst ptr agg roI tup top)
theorem cellI {P : Program} {a : AV} (h : CellA P (.sc (.int .i64)) a) : ∃ n : Int, a = .x (.int .i64 n) ∧ inI64 n := by
 cases h with
 | sc k v hv =>
  obtain ⟨n, rfl, hn⟩ := hv
  exact ⟨n, rfl, wf_i64 hn⟩
theorem cellS {P : Program} {t e : TypeId} {ks : List SK} {a : AV} (h : CellA P (.sl t e ks) a) : ∃ (n : Nat) (f : Nat → List Value), a = .lst ks.length n (fun i => (f i).map .x) ∧ n ≤ maxLen ∧ ∀ i, i < n → AllSc ks (f i) := by
 cases h with
 | sl t e ks n f h1 h2 h3 => exact ⟨n, f, rfl, h1, h3⟩
end Go.Proofs.YtlinbkmpkcmniaaGreat
