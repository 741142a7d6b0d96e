/- Texts of this claim, put together: BoM, BoN, BoO, BoP, BoQ, BoR, BoS, BoT, BoU, BoV -/
import Derived.Test.YtmdeoobmeokmeaaMj
import Derived.WalkKit
import Derived.Lib.Walk
import Derived.Lib.SliceRun
import Derived.Lib.AppendZerosOnto
/- Contracts of functions of the program, by the engine Sx: what each call comes to. Printed by a program of this repo (sxgen.py). -/
set_option linter.unusedSimpArgs false
set_option linter.unusedVariables false
namespace Go.Proofs.Ytmdeoobmeokmeaa
open Go Go.Sx Go.RowKit


theorem under58 : Try.prog.underlying 58 = some (.slice 3) := by kernel_rfl
theorem info3 : (Try.prog.info? 3).map (fun i => (i.zero, i.size, i.bytes)) = some (some (.int .i64 0), 1, 8) := by kernel_rfl
theorem under3 : Try.prog.underlying 3 = some (.int .i64) := by kernel_rfl


theorem Grow_0 (w : World) : Calls Try.prog 110 #[.slice none 0 0, .int .i64 0] w fun e w' => e = .returned (.slice none 0 0) ∧ w' = w := by
  go_enter Try.func110, Try.ntmps110
  go_wp2
  go_ret
  exact ⟨rfl, rfl⟩


theorem Grow_n (n : Nat) (h0 : 0 < n) (hb : n * 8 ≤ 140737488355328) (w : World) : Calls Try.prog 110 #[.slice none 0 0, .int .i64 n] w fun e w' => e = .returned (.slice (some ⟨w.heap.size, 0, none⟩) 0 (grownCap w n 0 3)) ∧ w' = w.drew.alloc (.cells (Builtin.zeroCells (Value.int .i64 0).cells n ++ Builtin.zeroCells (Value.int .i64 0).cells (grownCap w n 0 3 - n)) 3) := by
  have hrz : ∀ ty, (Builtin.append_ #[58, 3] ty #[.slice none 0 0, .int .i64 (n : Int)]).run Try.prog w =
      .ok (.slice (some ⟨w.heap.size, 0, none⟩) n (grownCap w n 0 3)) (w.drew.alloc (.cells (Builtin.zeroCells (Value.int .i64 0).cells n ++ Builtin.zeroCells (Value.int .i64 0).cells (grownCap w n 0 3 - n)) 3)) := fun ty => by
    have hi : ∃ i0, Try.prog.info? 3 = some i0 ∧ i0.zero = some (.int .i64 0) ∧ i0.size = 1 ∧ i0.bytes = 8 := by
      have h := info3
      cases h1 : Try.prog.info? 3 with
      | none => rw [h1] at h; cases h
      | some i0 =>
        rw [h1] at h
        simp only [Option.map_some, Option.some.injEq, Prod.mk.injEq] at h
        exact ⟨i0, rfl, h.1, h.2.1, h.2.2⟩
    obtain ⟨i0, hi0, hz0, hs0, hb0⟩ := hi
    have h := Lib.run_append_grow_zeros w 58 3 ty 3 i0 (.int .i64 0) .i64 .i64 under58 under3 hi0 hz0 none 0 0 [] (run_firstCells_none w.drew i0.size 0 0 0) n h0 (by omega) (by omega) (by omega) (by rw [hb0]; omega)
      (by rw [hb0]; exact growslice_fits (by omega) (by omega))
    simpa using h
  have hGn : n ≤ grownCap w n 0 3 := grownCap_ge w _ _ _
  obtain ⟨G, hG⟩ : ∃ G, G = grownCap w n 0 3 := ⟨_, rfl⟩
  rw [← hG] at hrz hGn ⊢
  have hG63 : G ≤ 9223372036854775807 := by
    have := grownCap_le_maxLen w n 0 3 (by unfold maxLen; omega)
    rw [← hG] at this
    unfold maxLen at this
    omega
  have h1 : ¬ ((n : Int) < 0) := by omega
  have h3 : wrap64 ((n : Int) - 0) = (n : Int) := by unfold wrap64; omega
  have h4 : (n : Int) > 0 := by omega
  clear hG
  go_enter Try.func110, Try.ntmps110
  go_wp2_with (at_builtin; refine Lib.wpList_append_run _ rfl _ _ _ _ rfl _ _ rfl rfl _ _ (hrz _) ?_)
  all_goals (go_ret; exact ⟨rfl, rfl⟩)


/-- slices.Grow of nil: room for some numbers, and none of them. -/
def H_grow : HSpec := fun avs m nx sv => match avs with
  | [.x (.slice none 0 0), .x (.int .i64 n)] => some (.need [0 ≤ n ∧ n * 8 ≤ 140737488355328] (.leaf (.row nx, (nx, .row 3 1 0 (fun _ => [])) :: m, nx + 1, sv)))
  | _ => none


theorem grow_okH : SoundHSpec Try.prog 110 H_grow := by
  refine ⟨⟨_, Try.func110, by kernel_rfl, by kernel_rfl⟩, ?_⟩
  intro avs m nx sv t ht Q hQ c w0 T e ds args w hE hB hm hl hfoe hxt hr
  unfold H_grow at ht
  split at ht
  · rename_i n
    cases ht
    have hn : 0 ≤ n ∧ n * 8 ≤ 140737488355328 := allP_mem hQ.1 _ (by simp)
    have hq : Q (.row nx, (nx, .row 3 1 0 (fun _ => [])) :: m, nx + 1, sv) := hQ.2
    obtain ⟨v1, l1, rfl, r1, hr⟩ := hr.cons_inv
    obtain ⟨v2, l2, rfl, r2, hr⟩ := hr.cons_inv
    obtain rfl := hr.nil_inv
    cases r1.x_inv
    cases r2.x_inv
    obtain ⟨k, rfl⟩ : ∃ k : Nat, n = k := ⟨n.toNat, by omega⟩
    have hid : ¬ e.live nx := fun h => Nat.lt_irrefl _ (hl _ h)
    rcases Nat.eq_zero_or_pos k with rfl | hk
    · refine (Grow_0 w).mono ?_
      rintro en w' ⟨rfl, rfl⟩
      have st : Step e (e.nil nx) w' w' := Step.nil hid
      refine ⟨_, .row nx, _, nx + 1, sv, e.nil nx, rfl, hq, ⟨hE.apart, hE.owned⟩, hB, ?_, ?_, hfoe, hxt.step st, .row nx none 0 0 (.inl rfl) (by simp [Env.nil])⟩
      · intro q hq
        rcases List.mem_cons.1 hq with rfl | hq
        · refine ⟨.inl rfl, fun b hb => ?_, fun i hi => by omega, [], ?_, fun i j a v hi => by omega⟩
          · simp [Env.nil, Value.ownBlock] at hb
          · simp only [Env.nil, if_true]
            exact World.ownsRow_nil w' 0 3 1
        · exact (hm q hq).ext (Below.refl _ _) st (fun _ _ h => h)
      · intro k hk
        rcases hk with rfl | hk
        · omega
        · have := hl _ hk; omega
    · refine (Grow_n k hk (by omega) w).mono ?_
      rintro en w' ⟨rfl, rfl⟩
      have hE' : EnvOk e w0.heap.size w.drew := ⟨hE.apart, hE.owned⟩
      have hm' : MemOk e m w.drew := fun q hq => (hm q hq).ext ((Below.refl _ _).drew) ⟨fun _ _ h => ⟨h, rfl⟩, fun _ h => ⟨h, rfl, rfl⟩, Nat.le_refl _⟩ (fun _ _ h => h)
      have hcap : grownCap w k 0 3 ≤ maxLen := grownCap_le_maxLen w k 0 3 (by unfold maxLen; omega)
      have hG := grownCap_ge w k 0 3
      have hlen : (Builtin.zeroCells (Value.int .i64 0).cells k ++ Builtin.zeroCells (Value.int .i64 0).cells (grownCap w k 0 3 - k)).toList.length = grownCap w k 0 3 * 1 := by
        simp [size_zeroCells, Value.cells]
        omega
      obtain ⟨e', k1, k2, k3, k4, k5, k6, k7, k8⟩ := came_row (e := e) (w := w.drew) (m := m) (id := nx) (T := 3) (sz := 1) (n := 0) (c := grownCap w k 0 3) (f := fun _ => []) hE' hB.size hm' hid (Nat.zero_le _) hcap hlen (fun i hi => by omega) (fun i j a v hi => by omega)
      rw [Array.toArray_toList] at k1 k2 k3 k5 k6
      have st : Step e e' w (w.drew.alloc (.cells (Builtin.zeroCells (Value.int .i64 0).cells k ++ Builtin.zeroCells (Value.int .i64 0).cells (grownCap w k 0 3 - k)) 3)) := ⟨k2.ro, k2.live, k2.size⟩
      refine ⟨_, .row nx, _, nx + 1, sv, e', rfl, hq, k3, (hB.drew).trans (k1.mono hB.size), k6, ?_, ?_, hxt.step st, k5⟩
      · intro i hi
        rcases k7 i hi with h | rfl
        · have := hl _ h; omega
        · omega
      · intro b hb
        refine ⟨(hfoe b hb).1, fun h => ?_⟩
        rcases k8 b h with h1 | h1
        · exact (hfoe b hb).2 h1
        · have := (hfoe b hb).1
          have := hB.size
          have h2 : w.heap.size ≤ b := h1
          omega
  · cases ht

end Go.Proofs.Ytmdeoobmeokmeaa
/- Contracts of functions of the program, by the engine Sx: what each call comes to. Printed by a program of this repo (sxgen.py). -/
set_option linter.unusedSimpArgs false
set_option linter.unusedVariables false
namespace Go.Proofs.Ytmdeoobmeokmeaa
open Go Go.Sx Go.RowKit

/-- Two lists, one behind the other: how long so many of them are, and what is in them. -/
def sz2 (m n : Nat) (k : Nat) : Nat := if k = 0 then 0 else if k = 1 then m else m + n
def cat2 (m : Nat) (f g : Nat → Int) (j : Nat) : Int := if j < m then f j else g (j - m)

theorem one_ne : (1 : Nat) = 0 ↔ False := by decide
theorem two_ne0 : (2 : Nat) = 0 ↔ False := by decide
theorem two_ne1 : (2 : Nat) = 1 ↔ False := by decide
noncomputable def E_ca (m n : Nat) (f g : Nat → Int) : St := (some
  {
    σ :=
      [AV.lst (1 : Nat) (2 : Nat) fun k =>
          [AV.lst (1 : Nat) (if k = (0 : Nat) then m else n) fun j =>
              [AV.x (Value.int IntKind.i64 (if k = (0 : Nat) then f j else g j))]],
        AV.top, AV.x (Value.slice none (0 : Nat) (0 : Nat)), AV.top, AV.top, AV.top, AV.top, AV.top, AV.top,
        AV.lst (1 : Nat) (2 : Nat) fun k =>
          [AV.lst (1 : Nat) (if k = (0 : Nat) then m else n) fun j =>
              [AV.x (Value.int IntKind.i64 (if k = (0 : Nat) then f j else g j))]],
        AV.x (Value.int IntKind.i64 (↑(2 : Nat) : Int)), AV.top, AV.top, AV.top, AV.top, AV.top, AV.top, AV.top, AV.top,
        AV.top, AV.top, AV.top, AV.top, AV.top, AV.top, AV.top, AV.top, AV.top, AV.top, AV.top, AV.top, AV.top, AV.top,
        AV.top, AV.top, AV.top],
    m := [], nx := (5 : Nat) } : Option St).getD { σ := [], m := [], nx := 0 }
noncomputable def B_ca : Code := loopBody (loopAt (bodyOf Try.f104) 0)
noncomputable def inv_ca (m n : Nat) (f g : Nat → Int) (k : Nat) : St := { σ := ovrS [(3, i (sz2 m n k)), (11, i k)] (E_ca m n f g).σ, m := (E_ca m n f g).m, nx := (E_ca m n f g).nx }
noncomputable def out_ca (m n : Nat) (f g : Nat → Int) (k : Nat) : AEx → Option St := fun ex => match ex with
  | .exit 0 => some { σ := ovrS [(3, i (sz2 m n 2))] (E_ca m n f g).σ, m := (E_ca m n f g).m, nx := (E_ca m n f g).nx }
  | _ => none
noncomputable def T_ca (m n : Nat) (f g : Nat → Int) : CT := .leaf (.exit 0, ( out_ca m n f g 0 (.exit 0)).getD (E_ca m n f g))
noncomputable def LS_ca (m n : Nat) (f g : Nat → Int) : LSpec := (sumL (inv_ca m n f g (0)) (T_ca m n f g))
set_option maxRecDepth 100000 in
theorem ca_ls (m n : Nat) (f g : Nat → Int) (pre0 : m ≤ 100000) (pre1 : n ≤ 100000) : LSound Try.prog (.loop B_ca) (LS_ca m n f g) := by
  refine loop_rounds (G := []) (L := []) (SoundG.nil _) mixed noLoops (X := Nat) (inv_ca m n f g) (fun k => k ≤ 2) (fun k => 2 - k) (out_ca m n f g) (x0 := 0) (by simp) ?_ ?_ ?_
  · rintro k
    kernel_rfl
  · rintro k y E h
    unfold out_ca at h
    split at h
    · cases h; kernel_rfl
    · cases h
  · rintro Q hQ k hx
    refine ⟨(k + 1), ?_⟩
    have e : roundT Try.prog [] [] B_ca (inv_ca m n f g k) (inv_ca m n f g ((k + 1))) (out_ca m n f g k) = (Tree.branch (decide ((↑k : Int) < (↑(2 : Nat) : Int))) (Tree.need [(0 : Int) ≤ (↑k : Int) ∧ (↑k : Int) < (↑(2 : Nat) : Int)] (Tree.need [inI64 ((↑(sz2 m n k) : Int) + (↑(if k = 0 then m else n) : Int))] (Tree.branch (decide ((↑(sz2 m n k) : Int) + (↑(if k = 0 then m else n) : Int) < (0 : Int))) Tree.fail (Tree.need [inI64 ((↑k : Int) + (1 : Int))] (Tree.need [(AV.lst 1 2 fun k => [AV.lst 1 (if k = 0 then m else n) fun j => [iI (if k = 0 then f j else g j)]]) = AV.lst 1 2 fun k => [AV.lst 1 (if k = 0 then m else n) fun j => [iI (if k = 0 then f j else g j)]], AV.x (Value.slice none 0 0) = AV.x (Value.slice none 0 0), (↑(sz2 m n k) : Int) + (↑(if k = 0 then m else n) : Int) = (↑(sz2 m n (k + 1)) : Int), (AV.lst 1 2 fun k => [AV.lst 1 (if k = 0 then m else n) fun j => [iI (if k = 0 then f j else g j)]]) = AV.lst 1 2 fun k => [AV.lst 1 (if k = 0 then m else n) fun j => [iI (if k = 0 then f j else g j)]], (↑(2 : Nat) : Int) = (↑(2 : Nat) : Int), (↑k : Int) + (1 : Int) = (↑(k + 1) : Int)] (Tree.leaf AEx.normal)))))) (Tree.need [(AV.lst 1 2 fun k => [AV.lst 1 (if k = 0 then m else n) fun j => [iI (if k = 0 then f j else g j)]]) = AV.lst 1 2 fun k => [AV.lst 1 (if k = 0 then m else n) fun j => [iI (if k = 0 then f j else g j)]], AV.x (Value.slice none 0 0) = AV.x (Value.slice none 0 0), (↑(sz2 m n k) : Int) = (↑(sz2 m n 2) : Int), (AV.lst 1 2 fun k => [AV.lst 1 (if k = 0 then m else n) fun j => [iI (if k = 0 then f j else g j)]]) = AV.lst 1 2 fun k => [AV.lst 1 (if k = 0 then m else n) fun j => [iI (if k = 0 then f j else g j)]], (↑(2 : Nat) : Int) = (↑(2 : Nat) : Int)] (Tree.leaf (AEx.exit 0)))) := by kernel_rfl
    rw [e]
    simp only [T_ca, out_ca, Tree.sat, Option.getD_some] at hQ
    simp only [Tree.sat, allP, fitP, fitL, valEq, inI64, true_and, and_true, decide_eq_true_eq, decide_eq_false_iff_not, Int.natCast_zero, Int.toNat_natCast, out_ca]
    clear e
    rcases (show k = 0 ∨ k = 1 ∨ k = 2 by omega) with rfl | rfl | rfl
    · refine ⟨fun _ => ?_, fun h => absurd (by decide) h⟩
      simp only [sz2, if_true, if_false, Nat.zero_add, one_ne, Nat.zero_ne_one]
      omega
    · refine ⟨fun _ => ?_, fun h => absurd (by decide) h⟩
      simp only [sz2, if_true, if_false, Nat.zero_add, one_ne, Nat.zero_ne_one, show (1 + 1 : Nat) = 2 from rfl, two_ne0, two_ne1]
      omega
    · refine ⟨fun h => absurd h (by decide), fun _ => ⟨rfl, fun E hE => by cases hE; exact hQ⟩⟩


theorem merge_i {c : Bool} {x y : Int} : mergeL c [i x] [i y] = [i (if c then x else y)] := by cases c <;> rfl
theorem cat_step {m n k p : Nat} {f g : Nat → Int} (hk : k < 2) (hp : p < sz2 m n (k + 1)) : catF (sz2 m n k) (fun j => [i (cat2 m f g j)]) (fun j => [i (if k = 0 then f j else g j)]) p = [i (cat2 m f g p)] := by
  show mergeL (decide (p < sz2 m n k)) [i (cat2 m f g p)] [i (if k = 0 then f (p - sz2 m n k) else g (p - sz2 m n k))] = _
  rw [merge_i]
  by_cases h : p < sz2 m n k
  · rw [decide_eq_true h, if_pos rfl]
  · rw [decide_eq_false h, if_neg (by decide)]
    rcases (show k = 0 ∨ k = 1 by omega) with rfl | rfl
    · simp only [sz2, if_true, Nat.zero_add, one_ne, if_false] at hp h ⊢
      unfold cat2
      rw [if_pos hp]
      rfl
    · simp only [sz2, if_true, one_ne, if_false] at hp h ⊢
      unfold cat2
      rw [if_neg h]
theorem sz_step {m n k : Nat} (hk : k < 2) : (sz2 m n k + if k = 0 then m else n) = sz2 m n (k + 1) := by
  rcases (show k = 0 ∨ k = 1 by omega) with rfl | rfl
  · simp [sz2]
  · simp [sz2]
theorem sz_le {m n : Nat} : ∀ k, sz2 m n k ≤ m + n := by 
  intro k
  unfold sz2
  split
  · omega
  · split <;> omega

noncomputable def E_cb (m n : Nat) (f g : Nat → Int) : St := (some
  {
    σ :=
      [AV.lst (1 : Nat) (2 : Nat) fun k =>
          [AV.lst (1 : Nat) (if k = (0 : Nat) then m else n) fun j =>
              [AV.x (Value.int IntKind.i64 (if k = (0 : Nat) then f j else g j))]],
        AV.top, AV.x (Value.slice none (0 : Nat) (0 : Nat)), AV.x (Value.int IntKind.i64 (↑(sz2 m n (2 : Nat)) : Int)),
        AV.top, AV.top, AV.top, AV.top, AV.top,
        AV.lst (1 : Nat) (2 : Nat) fun k =>
          [AV.lst (1 : Nat) (if k = (0 : Nat) then m else n) fun j =>
              [AV.x (Value.int IntKind.i64 (if k = (0 : Nat) then f j else g j))]],
        AV.x (Value.int IntKind.i64 (↑(2 : Nat) : Int)), AV.top, AV.top, AV.top, AV.top, AV.top, AV.top, AV.top, AV.top,
        AV.top, AV.top, AV.top, AV.top, AV.top, AV.top,
        AV.lst (1 : Nat) (2 : Nat) fun k =>
          [AV.lst (1 : Nat) (if k = (0 : Nat) then m else n) fun j =>
              [AV.x (Value.int IntKind.i64 (if k = (0 : Nat) then f j else g j))]],
        AV.x (Value.int IntKind.i64 (↑(2 : Nat) : Int)), AV.top, AV.top, AV.top, AV.top, AV.top, AV.top, AV.top, AV.top,
        AV.top],
    m := [((900 : Nat), Res.row (3 : Nat) (1 : Nat) (0 : Nat) fun x => [])], nx := (901 : Nat) } : Option St).getD { σ := [], m := [], nx := 0 }
noncomputable def B_cb : Code := loopBody (loopAt (bodyOf Try.f104) 1)
noncomputable def inv_cb (m n : Nat) (f g : Nat → Int) (k : Nat) : St := { σ := ovrS [(6, .row 900), (27, i k)] (E_cb m n f g).σ, m := [(900, .row 3 1 (sz2 m n k) (fun j => [i (cat2 m f g j)]))], nx := (E_cb m n f g).nx }
noncomputable def out_cb (m n : Nat) (f g : Nat → Int) (k : Nat) : AEx → Option St := fun ex => match ex with
  | .exit 2 => some { σ := ovrS [(6, .row 900)] (E_cb m n f g).σ, m := [(900, .row 3 1 (sz2 m n 2) (fun j => [i (cat2 m f g j)]))], nx := (E_cb m n f g).nx }
  | _ => none
noncomputable def T_cb (m n : Nat) (f g : Nat → Int) : CT := .leaf (.exit 2, ( out_cb m n f g 0 (.exit 2)).getD (E_cb m n f g))
noncomputable def LS_cb (m n : Nat) (f g : Nat → Int) : LSpec := normSp [(.slot 6, 900, 3, 1)] (sumL (inv_cb m n f g (0)) (T_cb m n f g))
set_option maxRecDepth 100000 in
theorem cb_ls (m n : Nat) (f g : Nat → Int) (pre0 : m ≤ 100000) (pre1 : n ≤ 100000) : LSound Try.prog (.loop B_cb) (LS_cb m n f g) := by
  refine loop_roundsX [(.slot 6, 900, 3, 1)] (E := { R := [], H := [(110, H_grow)] }) (G := []) (L := []) (SoundG.nil _) (SoundX.of (SoundRL.nil _) (SoundHL.cons grow_okH (SoundHL.nil _))) mixed noLoops (X := Nat) (inv_cb m n f g) (fun k => k ≤ 2) (fun k => 2 - k) (out_cb m n f g) (x0 := 0) (by simp) ?_ ?_ ?_
  · rintro k
    kernel_rfl
  · rintro k y E h
    unfold out_cb at h
    split at h
    · cases h; kernel_rfl
    · cases h
  · rintro Q hQ k hx
    refine ⟨(k + 1), ?_⟩
    have e : roundX Try.prog [] { R := [], H := [(110, H_grow)] } [] [(.slot 6, 900, 3, 1)] B_cb (inv_cb m n f g k) (inv_cb m n f g ((k + 1))) (out_cb m n f g k) = (Tree.branch (decide ((↑k : Int) < (↑(2 : Nat) : Int))) (Tree.need [(0 : Int) ≤ (↑k : Int) ∧ (↑k : Int) < (↑(2 : Nat) : Int)] (Tree.need [(sz2 m n k + if k = 0 then m else n) * 8 ≤ 140737488355328, ∀ (i : Nat), (i < if k = 0 then m else n) → ∀ (a : AV), a ∈ [iI (if k = 0 then f i else g i)] → AV.one a = true] (Tree.need [inI64 ((↑k : Int) + (1 : Int))] (Tree.need [(AV.lst 1 2 fun k => [AV.lst 1 (if k = 0 then m else n) fun j => [iI (if k = 0 then f j else g j)]]) = AV.lst 1 2 fun k => [AV.lst 1 (if k = 0 then m else n) fun j => [iI (if k = 0 then f j else g j)]], AV.x (Value.slice none 0 0) = AV.x (Value.slice none 0 0), (↑(sz2 m n 2) : Int) = (↑(sz2 m n 2) : Int), AV.row 900 = AV.row 900, (AV.lst 1 2 fun k => [AV.lst 1 (if k = 0 then m else n) fun j => [iI (if k = 0 then f j else g j)]]) = AV.lst 1 2 fun k => [AV.lst 1 (if k = 0 then m else n) fun j => [iI (if k = 0 then f j else g j)]], (↑(2 : Nat) : Int) = (↑(2 : Nat) : Int), (AV.lst 1 2 fun k => [AV.lst 1 (if k = 0 then m else n) fun j => [iI (if k = 0 then f j else g j)]]) = AV.lst 1 2 fun k => [AV.lst 1 (if k = 0 then m else n) fun j => [iI (if k = 0 then f j else g j)]], (↑(2 : Nat) : Int) = (↑(2 : Nat) : Int), (↑k : Int) + (1 : Int) = (↑(k + 1) : Int), (sz2 m n k + if k = 0 then m else n) = sz2 m n (k + 1), ∀ (i : Nat), i < sz2 m n (k + 1) → catF (sz2 m n k) (fun j => [Ytmdeoobmeokmeaa.i (cat2 m f g j)]) (fun j => [iI (if k = 0 then f j else g j)]) i = [Ytmdeoobmeokmeaa.i (cat2 m f g i)]] (Tree.leaf AEx.normal))))) (Tree.need [(AV.lst 1 2 fun k => [AV.lst 1 (if k = 0 then m else n) fun j => [iI (if k = 0 then f j else g j)]]) = AV.lst 1 2 fun k => [AV.lst 1 (if k = 0 then m else n) fun j => [iI (if k = 0 then f j else g j)]], AV.x (Value.slice none 0 0) = AV.x (Value.slice none 0 0), (↑(sz2 m n 2) : Int) = (↑(sz2 m n 2) : Int), AV.row 900 = AV.row 900, (AV.lst 1 2 fun k => [AV.lst 1 (if k = 0 then m else n) fun j => [iI (if k = 0 then f j else g j)]]) = AV.lst 1 2 fun k => [AV.lst 1 (if k = 0 then m else n) fun j => [iI (if k = 0 then f j else g j)]], (↑(2 : Nat) : Int) = (↑(2 : Nat) : Int), (AV.lst 1 2 fun k => [AV.lst 1 (if k = 0 then m else n) fun j => [iI (if k = 0 then f j else g j)]]) = AV.lst 1 2 fun k => [AV.lst 1 (if k = 0 then m else n) fun j => [iI (if k = 0 then f j else g j)]], (↑(2 : Nat) : Int) = (↑(2 : Nat) : Int), sz2 m n k = sz2 m n 2, ∀ (i : Nat), i < sz2 m n 2 → [Ytmdeoobmeokmeaa.i (cat2 m f g i)] = [Ytmdeoobmeokmeaa.i (cat2 m f g i)]] (Tree.leaf (AEx.exit 2)))) := by kernel_rfl
    rw [e]
    simp only [T_cb, out_cb, Tree.sat, Option.getD_some] at hQ
    simp only [Tree.sat, allP, fitP, fitL, valEq, inI64, true_and, and_true, decide_eq_true_eq, decide_eq_false_iff_not, Int.natCast_zero, Int.toNat_natCast, out_cb]
    clear e
    refine ⟨fun h => ?_, fun h => ?_⟩
    · have h1 := sz_step (m := m) (n := n) (show k < 2 by omega)
      have h2 := sz_le (m := m) (n := n) (k + 1)
      refine ⟨by omega, ⟨by rw [h1]; omega, fun i hi a ha => ?_⟩, by omega, ⟨by omega, h1, fun i hi => cat_step (by omega) hi⟩, by omega, by omega⟩
      rw [List.mem_singleton.1 ha]
      rfl
    · obtain rfl : k = 2 := by omega
      exact ⟨⟨rfl, fun _ _ => True.intro⟩, fun E hE => by cases hE; exact hQ⟩


theorem two_loopsN {P : Program} {c : Code} {s0 s1 : LSpec} (h0 : ∀ cj, loopAt c 0 = some cj → LSoundN P cj s0) (h1 : ∀ cj, loopAt c 1 = some cj → LSoundN P cj s1) :
    ∀ j cj, loopAt c j = some cj → ∀ sp, [s0, s1][j]? = some sp → LSoundN P cj sp := by
  intro j cj hj sp hsp
  match j with
  | 0 => simp at hsp; subst hsp; exact h0 cj hj
  | 1 => simp at hsp; subst hsp; exact h1 cj hj
  | j + 2 => simp at hsp

set_option maxRecDepth 100000 in
theorem concat_at (m n : Nat) (f g : Nat → Int) (pre0 : m ≤ 100000) (pre1 : n ≤ 100000) : SoundAt Try.prog 104 [.lst 1 2 (fun k => [.lst 1 (if k = 0 then m else n) (fun j => [i (if k = 0 then f j else g j)])])] (.lst 1 (m + n) (fun j => [i (cat2 m f g j)])) := by
  refine soundAt_finX (G := []) (X := { R := [], H := [(110, H_grow)] }) (L := [LS_ca m n f g, LS_cb m n f g]) (SoundG.nil _) (SoundX.of (SoundRL.nil _) (SoundHL.cons grow_okH (SoundHL.nil _))) mixed Try.func104 (show Try.f104.body = some (bodyOf Try.f104) by kernel_rfl) (two_loopsN (fun cj hcj => by
    have e : loopAt (bodyOf Try.f104) 0 = some (.loop B_ca) := by kernel_rfl
    rw [e] at hcj; cases hcj
    exact (ca_ls m n f g pre0 pre1).N) (fun cj hcj => by
    have e : loopAt (bodyOf Try.f104) 1 = some (.loop B_cb) := by kernel_rfl
    rw [e] at hcj; cases hcj
    exact (cb_ls m n f g pre0 pre1).N)) (t := (Tree.need [(AV.lst 1 2 fun k => [AV.lst 1 (if k = 0 then m else n) fun j => [iI (if k = 0 then f j else g j)]]) = AV.lst 1 2 fun k => [AV.lst 1 (if k = 0 then m else n) fun j => [iI (if k = 0 then f j else g j)]], AV.x (Value.slice none 0 0) = AV.x (Value.slice none 0 0), (0 : Int) = (↑(sz2 m n 0) : Int), (AV.lst 1 2 fun k => [AV.lst 1 (if k = 0 then m else n) fun j => [iI (if k = 0 then f j else g j)]]) = AV.lst 1 2 fun k => [AV.lst 1 (if k = 0 then m else n) fun j => [iI (if k = 0 then f j else g j)]], (↑(2 : Nat) : Int) = (↑(2 : Nat) : Int), (0 : Int) = (↑(0 : Nat) : Int)] (Tree.need [(0 : Int) ≤ (↑(sz2 m n 2) : Int) ∧ (↑(sz2 m n 2) : Int) * (8 : Int) ≤ (140737488355328 : Int)] (Tree.need [(AV.lst 1 2 fun k => [AV.lst 1 (if k = 0 then m else n) fun j => [iI (if k = 0 then f j else g j)]]) = AV.lst 1 2 fun k => [AV.lst 1 (if k = 0 then m else n) fun j => [iI (if k = 0 then f j else g j)]], AV.x (Value.slice none 0 0) = AV.x (Value.slice none 0 0), (↑(sz2 m n 2) : Int) = (↑(sz2 m n 2) : Int), AV.row 900 = AV.row 900, (AV.lst 1 2 fun k => [AV.lst 1 (if k = 0 then m else n) fun j => [iI (if k = 0 then f j else g j)]]) = AV.lst 1 2 fun k => [AV.lst 1 (if k = 0 then m else n) fun j => [iI (if k = 0 then f j else g j)]], (↑(2 : Nat) : Int) = (↑(2 : Nat) : Int), (AV.lst 1 2 fun k => [AV.lst 1 (if k = 0 then m else n) fun j => [iI (if k = 0 then f j else g j)]]) = AV.lst 1 2 fun k => [AV.lst 1 (if k = 0 then m else n) fun j => [iI (if k = 0 then f j else g j)]], (↑(2 : Nat) : Int) = (↑(2 : Nat) : Int), (0 : Int) = (↑(0 : Nat) : Int), 0 = sz2 m n 0, ∀ (i : Nat), i < sz2 m n 0 → [] = [Ytmdeoobmeokmeaa.i (cat2 m f g i)]] (Tree.leaf (RV.lst 1 (sz2 m n 2) fun j => [iI (cat2 m f g j)])))))) (by kernel_rfl) ?_
  simp only [Tree.sat, allP, fitP, fitL, valEq, inI64, true_and, and_true]
  have h2 : sz2 m n 2 = m + n := rfl
  rw [h2]
  refine ⟨⟨rfl, rfl⟩, ⟨by omega, by omega⟩, ⟨rfl, rfl, fun i hi => absurd hi (Nat.not_lt_zero _)⟩, rfl, fun i _ a ha => ?_⟩
  rw [List.mem_singleton.1 ha]
  exact True.intro


def S_concat : Sx.Spec := fun l => match l with
  | [.lst 1 2 F] => (match F 0, F 1 with
    | [.lst 1 m f], [.lst 1 n g] => some ([isRec 1 m f, isRec 1 n g, m ≤ 100000, n ≤ 100000], .lst 1 (m + n) (fun j => [i (cat2 m (col 0 f) (col 0 g) j)]))
    | _, _ => none)
  | _ => none


theorem Sames.get {l l' : List AV} (h : Sames l l') : l.length = l'.length ∧ ∀ (j : Nat) (a : AV), l'[j]? = some a → ∃ b, l[j]? = some b ∧ Same b a := by
  induction h with
  | nil => exact ⟨rfl, fun j a h => by simp at h⟩
  | cons h1 _ ih =>
    refine ⟨by simp [ih.1], fun j a ha => ?_⟩
    cases j with
    | zero =>
      simp only [List.getElem?_cons_zero, Option.some.injEq] at ha
      subst ha
      exact ⟨_, rfl, h1⟩
    | succ j => simpa using ih.2 j a (by simpa using ha)
theorem lst_deep {e : Env} {w : World} {sz n : Nat} {F F' : Nat → List AV} {v : Value} (h : ∀ k, k < n → Sames (F k) (F' k)) (r : Rep e w (.lst sz n F) v) : Rep e w (.lst sz n F') v := by
  cases r with
  | lstNil sz f => exact .lstNil sz F'
  | lst sz n f b o cap gg h1 h2 h3 h4 h5 h6 h7 h8 =>
    refine .lst sz n F' b o cap gg h1 h2 (fun i hi => (h i hi).idf (h3 i hi)) h4 h5 h6 (fun i hi => by rw [← (Sames.get (h i hi)).1]; exact h7 i hi) (fun i j a hi ha => ?_)
    obtain ⟨b', hb, hs⟩ := (Sames.get (h i hi)).2 j a ha
    exact hs.rep (h8 i j b' hi hb)
theorem deep_idf {sz n : Nat} {F F' : Nat → List AV} (h : ∀ k, k < n → Sames (F k) (F' k)) (r : Idf (.lst sz n F)) : Idf (.lst sz n F') := by
  cases r with | lst sz n f k => exact .lst sz n F' (fun i hi => (h i hi).idf (k i hi))
theorem concat_ok : SoundSpec Try.prog 104 S_concat := by
  refine ⟨⟨_, Try.func104, by kernel_rfl, by kernel_rfl⟩, ?_⟩
  intro avs ns res h hn
  unfold S_concat at h
  split at h
  · rename_i F
    split at h
    · rename_i m f n g h0 h1
      cases h
      have hm : isRec 1 m f := hn _ (by simp)
      have hg : isRec 1 n g := hn _ (by simp)
      have hs : ∀ k, k < 2 → Sames (F k) [.lst 1 (if k = 0 then m else n) (fun j => [i (if k = 0 then col 0 f j else col 0 g j)])] := by
        intro k hk
        rcases (show k = 0 ∨ k = 1 by omega) with rfl | rfl
        · rw [h0]
          exact .cons (.lst 1 m _ _ hm) .nil
        · rw [h1]
          exact .cons (.lst 1 n _ _ hg) .nil
      refine (concat_at m n (col 0 f) (col 0 g) (hn _ (by simp)) (hn _ (by simp))).args (fun e w vs r => ?_) (fun hi a ha => ?_)
      · obtain ⟨v, vs', rfl, hv, hvs⟩ := r.cons_inv
        exact RepL.cons (lst_deep hs hv) hvs
      · cases List.mem_singleton.1 ha
        exact deep_idf hs (hi _ List.mem_cons_self)
    · cases h
  · cases h


/-- A list without one of its elements. -/
def butF (q : Nat) (f : Nat → Int) (j : Nat) : Int := if j < q then f j else f (q + 1 + (j - q))


theorem but_eq {q : Nat} {f : Nat → Int} {a b : Nat} (ha : a = q) (hb : b = q + 1) (j : Nat) : cat2 a (fun k => f (0 + k)) (fun k => f (b + k)) j = butF q f j := by
  subst ha; subst hb
  unfold cat2 butF
  split <;> simp
theorem isRec1 (n : Nat) (f : Nat → Int) : isRec 1 n (fun k => [i (f k)]) := fun _ _ => rfl

set_option maxRecDepth 100000 in
theorem but_at (n q : Nat) (f : Nat → Int) (pre0 : n ≤ 100000) (pre1 : q < n) : SoundAtR Try.prog 85 [.lst 1 n (fun j => [i (f j)]), i q] (.lst 1 (n - 1) (fun j => [i (butF q f j)])) := by
  refine soundAtR_fin (G := [(104, S_concat)]) (X := { R := [], H := [] }) (L := []) (SoundG.cons concat_ok (SoundG.nil _)) (SoundX.of (SoundRL.nil _) (SoundHL.nil _)) mixed Try.func85 (show Try.f85.body = some (bodyOf Try.f85) by kernel_rfl) noLoopsS (t := (Tree.need [(0 : Int) ≤ (0 : Int) ∧ (0 : Int) ≤ (↑q : Int) ∧ (↑q : Int) ≤ (↑n : Int)] (Tree.need [inI64 ((↑q : Int) + (1 : Int))] (Tree.need [(0 : Int) ≤ (↑q : Int) + (1 : Int) ∧ (↑q : Int) + (1 : Int) ≤ (↑n : Int) ∧ (↑n : Int) ≤ (↑n : Int)] (Tree.need [isRec 1 (q - Int.toNat (0 : Int)) fun i => [Ytmdeoobmeokmeaa.i (f (Int.toNat (0 : Int) + i))], isRec 1 (n - Int.toNat ((↑q : Int) + (1 : Int))) fun i => [Ytmdeoobmeokmeaa.i (f (Int.toNat ((↑q : Int) + (1 : Int)) + i))], q - Int.toNat (0 : Int) ≤ 100000, n - Int.toNat ((↑q : Int) + (1 : Int)) ≤ 100000] (Tree.leaf (AV.lst 1 (q - Int.toNat (0 : Int) + (n - Int.toNat ((↑q : Int) + (1 : Int)))) fun j => [iI (cat2 (q - Int.toNat (0 : Int)) (fun i => f (Int.toNat (0 : Int) + i)) (fun i => f (Int.toNat ((↑q : Int) + (1 : Int)) + i)) j)]))))))) (by kernel_rfl) ?_
  simp only [Tree.sat, allP, inI64, true_and, and_true]
  refine ⟨by omega, by omega, by omega, ⟨isRec1 _ _, isRec1 _ _, by omega, by omega⟩, rfl, by omega, fun j hj => ?_⟩
  show [i _] = [i (butF q f j)]
  rw [← but_eq (q := q) (f := f) (show q - Int.toNat 0 = q by omega) (show Int.toNat ((q : Int) + 1) = q + 1 by omega) j]
  rfl


def S_but : Sx.Spec := fun l => match l with
  | [.lst 1 n f, .x (.int .i64 q)] => some ([isRec 1 n f, n ≤ 100000, 0 ≤ q ∧ q < n], .lst 1 (n - 1) (fun j => [i (butF q.toNat (col 0 f) j)]))
  | _ => none


theorem SoundAtR.same {P : Program} {f : FuncId} {avs avs' : List AV} {res : AV} (h : SoundAtR P f avs' res) (k : Sames avs avs') : SoundAtR P f avs res := fun e w args hro hidf hr => h e w args hro (k.idf hidf) (k.rep hr)
theorem but_okR : SoundR Try.prog 85 S_but := by
  refine ⟨⟨_, Try.func85, by kernel_rfl, by kernel_rfl⟩, ?_⟩
  intro avs ns res h hn
  unfold S_but at h
  split at h
  · rename_i n f q
    cases h
    have hr : isRec 1 n f := hn _ (by simp)
    have hq : 0 ≤ q ∧ q < n := hn _ (by simp)
    have e : ((q.toNat : Nat) : Int) = q := by omega
    have h0 := but_at n q.toNat (col 0 f) (hn _ (by simp)) (by omega)
    rw [e] at h0
    exact SoundAtR.same h0 (.cons (.lst 1 n _ _ hr) (.cons (.refl _) .nil))
  · cases h

end Go.Proofs.Ytmdeoobmeokmeaa
/- Contracts of functions of the program, by the engine Sx: what each call comes to. Printed by a program of this repo (sxgen.py). -/
set_option linter.unusedSimpArgs false
set_option linter.unusedVariables false
namespace Go.Proofs.Ytmdeoobmeokmeaa
open Go Go.Sx Go.RowKit

/-- The readings whose numbers are in a list. -/
def selF (f g : Nat → Int) (j : Nat) : Int := f (g j).toNat


theorem catF4 {k j : Nat} {a b c d : Nat → Int} {x y z v : Int} (h : j < k + 1) (hx : x = a k) (hy : y = b k) (hz : z = c k) (hv : v = d k) : catF k (fun k => [i (a k), i (b k), i (c k), i (d k)]) (chunk 4 [i x, i y, i z, i v]) j = [i (a j), i (b j), i (c j), i (d j)] := by
  have e : j - k = 0 := by omega
  show mergeL (decide (j < k)) [i (a j), i (b j), i (c j), i (d j)] (chunk 4 [i x, i y, i z, i v] (j - k)) = _
  rw [e]
  by_cases hj : j < k
  · rw [show decide (j < k) = true by simp [hj]]
    rfl
  · have hk : j = k := by omega
    rw [show decide (j < k) = false by simp [hj], hk, hx, hy, hz, hv]
    rfl

noncomputable def E_so (n m : Nat) (a b u v g : Nat → Int) : St := (some
  {
    σ :=
      [AV.lst (4 : Nat) n fun k =>
          [AV.x (Value.int IntKind.i64 (a k)), AV.x (Value.int IntKind.i64 (b k)), AV.x (Value.int IntKind.i64 (u k)),
            AV.x (Value.int IntKind.i64 (v k))],
        AV.lst (1 : Nat) m fun j => [AV.x (Value.int IntKind.i64 (g j))], AV.top, AV.top,
        AV.x (Value.slice none (0 : Nat) (0 : Nat)), AV.top, AV.top, AV.top,
        AV.lst (1 : Nat) m fun j => [AV.x (Value.int IntKind.i64 (g j))], AV.x (Value.int IntKind.i64 (↑m : Int)),
        AV.top, AV.top, AV.top, AV.top, AV.top, AV.top, AV.top, AV.top, AV.top, AV.top, AV.top, AV.top, AV.top],
    m := [((900 : Nat), Res.row (93 : Nat) (4 : Nat) (0 : Nat) fun x => [])], nx := (901 : Nat) } : Option St).getD { σ := [], m := [], nx := 0 }
noncomputable def B_so : Code := loopBody (loopAt (bodyOf Try.f103) 0)
noncomputable def inv_so (n m : Nat) (a b u v g : Nat → Int) (k : Nat) : St := { σ := ovrS [(5, .row 900), (10, i k)] (E_so n m a b u v g).σ, m := [(900, .row 93 4 (k) (fun k => [i (selF a g k), i (selF b g k), i (selF u g k), i (selF v g k)]))], nx := (E_so n m a b u v g).nx }
noncomputable def out_so (n m : Nat) (a b u v g : Nat → Int) (k : Nat) : AEx → Option St := fun ex => match ex with
  | .exit 0 => some { σ := ovrS [(5, .row 900)] (E_so n m a b u v g).σ, m := [(900, .row 93 4 (m) (fun k => [i (selF a g k), i (selF b g k), i (selF u g k), i (selF v g k)]))], nx := (E_so n m a b u v g).nx }
  | _ => none
noncomputable def T_so (n m : Nat) (a b u v g : Nat → Int) : CT := .leaf (.exit 0, ( out_so n m a b u v g 0 (.exit 0)).getD (E_so n m a b u v g))
noncomputable def LS_so (n m : Nat) (a b u v g : Nat → Int) : LSpec := normSp [(.slot 5, 900, 93, 4)] (sumL (inv_so n m a b u v g (0)) (T_so n m a b u v g))
set_option maxRecDepth 100000 in
theorem so_ls (n m : Nat) (a b u v g : Nat → Int) (pre0 : m ≤ 100000) (pre1 : ∀ j, j < m → 0 ≤ g j ∧ g j < n) : LSound Try.prog (.loop B_so) (LS_so n m a b u v g) := by
  refine loop_roundsN [(.slot 5, 900, 93, 4)] (G := []) (L := []) (SoundG.nil _) mixed noLoops (X := Nat) (inv_so n m a b u v g) (fun k => k ≤ m) (fun k => m - k) (out_so n m a b u v g) (x0 := 0) (by simp) ?_ ?_ ?_
  · rintro k
    kernel_rfl
  · rintro k y E h
    unfold out_so at h
    split at h
    · cases h; kernel_rfl
    · cases h
  · rintro Q hQ k hx
    refine ⟨(k + 1), ?_⟩
    have e : roundN Try.prog [] [] [(.slot 5, 900, 93, 4)] B_so (inv_so n m a b u v g k) (inv_so n m a b u v g ((k + 1))) (out_so n m a b u v g k) = (Tree.branch (decide ((↑k : Int) < (↑m : Int))) (Tree.need [(0 : Int) ≤ (↑k : Int) ∧ (↑k : Int) < (↑m : Int)] (Tree.need [(0 : Int) ≤ g k ∧ g k < (↑n : Int)] (Tree.need [(k + 1) * 32 ≤ 140737488355328, ∀ (i : Nat), i < 1 → ∀ (a_2 : AV), a_2 ∈ chunk 4 [iI (a (Int.toNat (g k))), iI (b (Int.toNat (g k))), iI (u (Int.toNat (g k))), iI (v (Int.toNat (g k)))] i → AV.one a_2 = true] (Tree.need [inI64 ((↑k : Int) + (1 : Int))] (Tree.need [(AV.lst 4 n fun k => [iI (a k), iI (b k), iI (u k), iI (v k)]) = AV.lst 4 n fun k => [iI (a k), iI (b k), iI (u k), iI (v k)], (AV.lst 1 m fun j => [iI (g j)]) = AV.lst 1 m fun j => [iI (g j)], AV.x (Value.slice none 0 0) = AV.x (Value.slice none 0 0), AV.row 900 = AV.row 900, (AV.lst 1 m fun j => [iI (g j)]) = AV.lst 1 m fun j => [iI (g j)], (↑m : Int) = (↑m : Int), (↑k : Int) + (1 : Int) = (↑(k + 1) : Int), k + 1 = k + 1, ∀ (i : Nat), i < k + 1 → catF k (fun k => [Ytmdeoobmeokmeaa.i (selF a g k), Ytmdeoobmeokmeaa.i (selF b g k), Ytmdeoobmeokmeaa.i (selF u g k), Ytmdeoobmeokmeaa.i (selF v g k)]) (chunk 4 [iI (a (Int.toNat (g k))), iI (b (Int.toNat (g k))), iI (u (Int.toNat (g k))), iI (v (Int.toNat (g k)))]) i = [Ytmdeoobmeokmeaa.i (selF a g i), Ytmdeoobmeokmeaa.i (selF b g i), Ytmdeoobmeokmeaa.i (selF u g i), Ytmdeoobmeokmeaa.i (selF v g i)]] (Tree.leaf AEx.normal)))))) (Tree.need [(AV.lst 4 n fun k => [iI (a k), iI (b k), iI (u k), iI (v k)]) = AV.lst 4 n fun k => [iI (a k), iI (b k), iI (u k), iI (v k)], (AV.lst 1 m fun j => [iI (g j)]) = AV.lst 1 m fun j => [iI (g j)], AV.x (Value.slice none 0 0) = AV.x (Value.slice none 0 0), AV.row 900 = AV.row 900, (AV.lst 1 m fun j => [iI (g j)]) = AV.lst 1 m fun j => [iI (g j)], (↑m : Int) = (↑m : Int), k = m, ∀ (i : Nat), i < m → [Ytmdeoobmeokmeaa.i (selF a g i), Ytmdeoobmeokmeaa.i (selF b g i), Ytmdeoobmeokmeaa.i (selF u g i), Ytmdeoobmeokmeaa.i (selF v g i)] = [Ytmdeoobmeokmeaa.i (selF a g i), Ytmdeoobmeokmeaa.i (selF b g i), Ytmdeoobmeokmeaa.i (selF u g i), Ytmdeoobmeokmeaa.i (selF v g i)]] (Tree.leaf (AEx.exit 0)))) := by kernel_rfl
    rw [e]
    simp only [T_so, out_so, Tree.sat, Option.getD_some] at hQ
    simp only [Tree.sat, allP, fitP, fitL, valEq, inI64, true_and, and_true, decide_eq_true_eq, decide_eq_false_iff_not, Int.natCast_zero, Int.toNat_natCast, out_so]
    clear e
    refine ⟨fun h => ?_, fun h => ?_⟩
    · have h1 := pre1 k (by omega)
      exact ⟨by omega, h1, ⟨by omega, fun i hi a ha => one_of ha (by simp [AV.one, Value.oneCell'])⟩, by omega, ⟨by omega, fun i hi => catF4 hi rfl rfl rfl rfl⟩, by omega, by omega⟩
    · obtain rfl : k = m := by omega
      exact ⟨⟨rfl, fun _ _ => True.intro⟩, fun E hE => by cases hE; exact hQ⟩


def numF (k j : Nat) : Int := if j < k then j else 0

noncomputable def E_nu (n : Nat) (a b u v : Nat → Int) : St := (some
  {
    σ :=
      [AV.lst (4 : Nat) n fun k =>
          [AV.x (Value.int IntKind.i64 (a k)), AV.x (Value.int IntKind.i64 (b k)), AV.x (Value.int IntKind.i64 (u k)),
            AV.x (Value.int IntKind.i64 (v k))],
        AV.top, AV.x (Value.slice none (0 : Nat) (0 : Nat)), AV.row (900 : Nat), AV.top, AV.top, AV.top, AV.top, AV.top,
        AV.x (Value.int IntKind.i64 (↑n : Int)), AV.top, AV.top, AV.top, AV.top, AV.top, AV.top, AV.top, AV.top,
        AV.top],
    m := [((900 : Nat), Res.row (3 : Nat) (1 : Nat) n fun x => [AV.x (Value.int IntKind.i64 (0 : Int))])],
    nx := (901 : Nat) } : Option St).getD { σ := [], m := [], nx := 0 }
noncomputable def B_nu : Code := loopBody (loopAt (bodyOf Try.f83) 0)
noncomputable def inv_nu (n : Nat) (a b u v : Nat → Int) (k : Nat) : St := { σ := ovrS [(3, .row 900), (10, i k)] (E_nu n a b u v).σ, m := [(900, .row 3 1 n (fun j => [i (numF k j)]))], nx := (E_nu n a b u v).nx }
noncomputable def out_nu (n : Nat) (a b u v : Nat → Int) (k : Nat) : AEx → Option St := fun ex => match ex with
  | .exit 0 => some { σ := ovrS [(3, .row 900)] (E_nu n a b u v).σ, m := [(900, .row 3 1 n (fun j => [i (numF n j)]))], nx := (E_nu n a b u v).nx }
  | _ => none
noncomputable def T_nu (n : Nat) (a b u v : Nat → Int) : CT := .leaf (.exit 0, ( out_nu n a b u v 0 (.exit 0)).getD (E_nu n a b u v))
noncomputable def LS_nu (n : Nat) (a b u v : Nat → Int) : LSpec := normSp [(.slot 3, 900, 3, 1)] (sumL (inv_nu n a b u v (0)) (T_nu n a b u v))
set_option maxRecDepth 100000 in
theorem nu_ls (n : Nat) (a b u v : Nat → Int) (pre0 : n ≤ 100000) : LSound Try.prog (.loop B_nu) (LS_nu n a b u v) := by
  refine loop_roundsN [(.slot 3, 900, 3, 1)] (G := []) (L := []) (SoundG.nil _) mixed noLoops (X := Nat) (inv_nu n a b u v) (fun k => k ≤ n) (fun k => n - k) (out_nu n a b u v) (x0 := 0) (by simp) ?_ ?_ ?_
  · rintro k
    kernel_rfl
  · rintro k y E h
    unfold out_nu at h
    split at h
    · cases h; kernel_rfl
    · cases h
  · rintro Q hQ k hx
    refine ⟨(k + 1), ?_⟩
    have e : roundN Try.prog [] [] [(.slot 3, 900, 3, 1)] B_nu (inv_nu n a b u v k) (inv_nu n a b u v ((k + 1))) (out_nu n a b u v k) = (Tree.branch (decide ((↑k : Int) < (↑n : Int))) (Tree.need [(0 : Int) ≤ (↑k : Int) ∧ (↑k : Int) < (↑n : Int)] (Tree.need [k < n] (Tree.need [inI64 ((↑k : Int) + (1 : Int))] (Tree.need [(AV.lst 4 n fun k => [iI (a k), iI (b k), iI (u k), iI (v k)]) = AV.lst 4 n fun k => [iI (a k), iI (b k), iI (u k), iI (v k)], AV.x (Value.slice none 0 0) = AV.x (Value.slice none 0 0), AV.row 900 = AV.row 900, (↑n : Int) = (↑n : Int), (↑k : Int) + (1 : Int) = (↑(k + 1) : Int), n = n, ∀ (i : Nat), i < n → mergeL (decide (i = k)) [iI (↑k : Int)] [Ytmdeoobmeokmeaa.i (numF k i)] = [Ytmdeoobmeokmeaa.i (numF (k + 1) i)]] (Tree.leaf AEx.normal))))) (Tree.need [(AV.lst 4 n fun k => [iI (a k), iI (b k), iI (u k), iI (v k)]) = AV.lst 4 n fun k => [iI (a k), iI (b k), iI (u k), iI (v k)], AV.x (Value.slice none 0 0) = AV.x (Value.slice none 0 0), AV.row 900 = AV.row 900, (↑n : Int) = (↑n : Int), n = n, ∀ (i : Nat), i < n → [Ytmdeoobmeokmeaa.i (numF k i)] = [Ytmdeoobmeokmeaa.i (numF n i)]] (Tree.leaf (AEx.exit 0)))) := by kernel_rfl
    rw [e]
    simp only [T_nu, out_nu, Tree.sat, Option.getD_some] at hQ
    simp only [Tree.sat, allP, fitP, fitL, valEq, inI64, true_and, and_true, decide_eq_true_eq, decide_eq_false_iff_not, Int.natCast_zero, Int.toNat_natCast, out_nu]
    clear e
    refine ⟨fun h => ?_, fun h => ?_⟩
    · refine ⟨by omega, by omega, by omega, ⟨by omega, fun j hj => ?_⟩, by omega, by omega⟩
      rw [merge_i]
      congr 2
      unfold numF
      rcases (show j = k ∨ j < k ∨ k < j by omega) with rfl | h1 | h1
      · simp
      · simp [show j ≠ k by omega, h1, show j < k + 1 by omega]
      · simp [show j ≠ k by omega, show ¬ j < k by omega, show ¬ j < k + 1 by omega]
    · obtain rfl : k = n := by omega
      exact ⟨fun _ _ => rfl, fun E hE => by cases hE; exact hQ⟩

set_option maxRecDepth 100000 in
theorem some_at (n m : Nat) (a b u v g : Nat → Int) (pre0 : m ≤ 100000) (pre1 : ∀ j, j < m → 0 ≤ g j ∧ g j < n) : SoundAt Try.prog 103 [rds n a b u v, .lst 1 m (fun j => [i (g j)])] (rds m (selF a g) (selF b g) (selF u g) (selF v g)) := by
  refine soundAt_fin (G := []) (L := [LS_so n m a b u v g]) (SoundG.nil _) mixed Try.func103 (show Try.f103.body = some (bodyOf Try.f103) by kernel_rfl) (one_loop (fun cj hcj => by
    have e : loopAt (bodyOf Try.f103) 0 = some (.loop B_so) := by kernel_rfl
    rw [e] at hcj; cases hcj
    exact so_ls n m a b u v g pre0 pre1)) (t := (Tree.need [(AV.lst 4 n fun k => [iI (a k), iI (b k), iI (u k), iI (v k)]) = AV.lst 4 n fun k => [iI (a k), iI (b k), iI (u k), iI (v k)], (AV.lst 1 m fun j => [iI (g j)]) = AV.lst 1 m fun j => [iI (g j)], AV.x (Value.slice none 0 0) = AV.x (Value.slice none 0 0), AV.row 900 = AV.row 900, (AV.lst 1 m fun j => [iI (g j)]) = AV.lst 1 m fun j => [iI (g j)], (↑m : Int) = (↑m : Int), (0 : Int) = (↑(0 : Nat) : Int), 0 = 0, ∀ (i : Nat), i < 0 → [] = [Ytmdeoobmeokmeaa.i (selF a g i), Ytmdeoobmeokmeaa.i (selF b g i), Ytmdeoobmeokmeaa.i (selF u g i), Ytmdeoobmeokmeaa.i (selF v g i)]] (Tree.leaf (RV.lst 4 m fun k => [iI (selF a g k), iI (selF b g k), iI (selF u g k), iI (selF v g k)])))) (by kernel_rfl) ?_
  simp only [Tree.sat, allP, fitP, fitL, valEq, inI64, true_and, and_true]
  (repeat' first | with_reducible apply And.intro | with_reducible intro _)
  all_goals first | exact True.intro | with_reducible rfl | omega | rfl | (simp [*]; done) | (rename_i hm; simp only [List.mem_cons, List.not_mem_nil, or_false] at hm; rcases hm with rfl | rfl | rfl | rfl <;> exact True.intro) | (rename_i hm; cases List.mem_singleton.1 hm; exact True.intro)

set_option maxRecDepth 100000 in
theorem numbers_at (n : Nat) (a b u v : Nat → Int) (pre0 : n ≤ 100000) : SoundAt Try.prog 83 [rds n a b u v] (.lst 1 n (fun j => [i (numF n j)])) := by
  refine soundAt_fin (G := []) (L := [LS_nu n a b u v]) (SoundG.nil _) mixed Try.func83 (show Try.f83.body = some (bodyOf Try.f83) by kernel_rfl) (one_loop (fun cj hcj => by
    have e : loopAt (bodyOf Try.f83) 0 = some (.loop B_nu) := by kernel_rfl
    rw [e] at hcj; cases hcj
    exact nu_ls n a b u v pre0)) (t := (Tree.need [(0 : Int) ≤ (↑n : Int) ∧ (↑n : Int) ≤ (1000000 : Int), (↑n : Int) = (↑n : Int)] (Tree.need [(AV.lst 4 n fun k => [iI (a k), iI (b k), iI (u k), iI (v k)]) = AV.lst 4 n fun k => [iI (a k), iI (b k), iI (u k), iI (v k)], AV.x (Value.slice none 0 0) = AV.x (Value.slice none 0 0), AV.row 900 = AV.row 900, (↑n : Int) = (↑n : Int), (0 : Int) = (↑(0 : Nat) : Int), n = n, ∀ (i : Nat), i < n → List.map AV.x (Array.toList (Value.cells (Value.int IntKind.i64 (0 : Int)))) = [Ytmdeoobmeokmeaa.i (numF 0 i)]] (Tree.leaf (RV.lst 1 n fun j => [iI (numF n j)]))))) (by kernel_rfl) ?_
  simp only [Tree.sat, allP, fitP, fitL, valEq, inI64, true_and, and_true]
  (repeat' first | with_reducible apply And.intro | with_reducible intro _)
  all_goals first | exact True.intro | with_reducible rfl | omega | rfl | (simp [*]; done) | (rename_i hm; simp only [List.mem_cons, List.not_mem_nil, or_false] at hm; rcases hm with rfl | rfl | rfl | rfl <;> exact True.intro) | (rename_i hm; cases List.mem_singleton.1 hm; exact True.intro)


def S_some : Sx.Spec := fun l => match l with
  | [.lst 4 n f, .lst 1 m g] => some ([isRec 4 n f, isRec 1 m g, m ≤ 100000, ∀ j, j < m → 0 ≤ col 0 g j ∧ col 0 g j < n], rds m (selF (col 0 f) (col 0 g)) (selF (col 1 f) (col 0 g)) (selF (col 2 f) (col 0 g)) (selF (col 3 f) (col 0 g)))
  | _ => none
def S_numbers : Sx.Spec := fun l => match l with
  | [.lst 4 n f] => some ([isRec 4 n f, n ≤ 100000], .lst 1 n (fun j => [i (numF n j)]))
  | _ => none


theorem some_ok : SoundSpec Try.prog 103 S_some := by
  refine ⟨⟨_, Try.func103, by kernel_rfl, by kernel_rfl⟩, ?_⟩
  intro avs ns res h hn
  unfold S_some at h
  split at h
  · rename_i n f m g
    cases h
    have hr : isRec 4 n f := hn _ (by simp)
    have hg : isRec 1 m g := hn _ (by simp)
    exact (some_at n m (col 0 f) (col 1 f) (col 2 f) (col 3 f) (col 0 g) (hn _ (by simp)) (hn _ (by simp))).same (.cons (.lst 4 n _ _ hr) (.cons (.lst 1 m _ _ hg) .nil))
  · cases h
theorem numbers_ok : SoundSpec Try.prog 83 S_numbers := by
  refine ⟨⟨_, Try.func83, by kernel_rfl, by kernel_rfl⟩, ?_⟩
  intro avs ns res h hn
  unfold S_numbers at h
  split at h
  · rename_i n f
    cases h
    have hr : isRec 4 n f := hn _ (by simp)
    exact (numbers_at n (col 0 f) (col 1 f) (col 2 f) (col 3 f) (hn _ (by simp))).same (.cons (.lst 4 n _ _ hr) .nil)
  · cases h


def S_readB : Sx.Spec := fun l => match l with
  | [.agg [.x (.int .i64 c), .x (.int .i64 T), .x (.int .i64 lo), .x (.int .i64 hi)], .lst 4 n f] => some ([isRec 4 n f, 1 ≤ c ∧ c ≤ 10, 1 ≤ lo ∧ lo ≤ hi ∧ hi ≤ 200 ∧ 1 ≤ T ∧ T ≤ 2000, n ≤ 1000, allI (fun k => rdB c (col 0 f k) (col 1 f k) (col 2 f k) (col 3 f k)) n = true], .tup [.top, bl (okB c T lo hi n (col 0 f) (col 1 f) (col 2 f) (col 3 f))])
  | _ => none


theorem tup_bool {e e' : Env} {w w' : World} {x : AV} {b : Bool} {v : Value} (h : Rep e w (.tup [x, .lit b]) v) : Rep e' w' (.tup [.top, .x (.bool b)]) v := by
  cases h with
  | tup l vs hl hr =>
    match vs, hl with
    | [p, q], _ =>
      have hq := hr 1 (.lit b) q rfl rfl
      cases hq
      refine .tup _ _ rfl (fun i a v ha hv => ?_)
      match i with
      | 0 => simp at ha hv; subst ha; subst hv; exact .top _
      | 1 => simp at ha hv; subst ha; subst hv; exact .x _
      | i + 2 => simp at ha
theorem allP_of : ∀ {ps : List Prop}, (∀ p ∈ ps, p) → allP ps
  | [], _ => True.intro
  | [q], h => h q (by simp)
  | q :: r :: ps, h => ⟨h q (by simp), allP_of (ps := r :: ps) (fun p hp => h p (List.mem_cons_of_mem _ hp))⟩
theorem readB_ok : SoundSpec Try.prog 67 S_readB := by
  refine ⟨⟨_, Try.func67, by kernel_rfl, by kernel_rfl⟩, ?_⟩
  intro avs ns res h hn
  unfold S_readB at h
  split at h
  · rename_i c T lo hi n f
    cases h
    have h1 : C_read [.agg [.x (.int .i64 c), .x (.int .i64 T), .x (.int .i64 lo), .x (.int .i64 hi)], .lst 4 n f] = some (.need _ (.branch (okR c.toNat T lo hi n (col 0 f) (col 1 f) (col 2 f) (col 3 f)) _ _)) := rfl
    have h0 := read_okC.2 _ _ h1 (fun r => ∃ x, r = .tup [x, .lit (okB c T lo hi n (col 0 f) (col 1 f) (col 2 f) (col 3 f))]) (by
      refine ⟨allP_of hn, fun h => ⟨siteA c.toNat T lo hi n (col 0 f) (col 1 f) (col 2 f) (col 3 f), ?_⟩, fun h => ⟨nilP, ?_⟩⟩
      · unfold okB; rw [h]
      · unfold okB; rw [h])
    intro e w args hro hidf hr
    refine (h0 e w args hro hidf hr).mono ?_
    rintro en w' ⟨v, r, rfl, ⟨x, rfl⟩, hB, hR⟩
    exact ⟨v, rfl, hB, tup_bool hR⟩
  · cases h


/-- Whether some readings contradict each other. -/
def clB (c T lo hi : Int) (m : Nat) (a b u v g : Nat → Int) : Bool := !okB c T lo hi m (selF a g) (selF b g) (selF u g) (selF v g)

set_option maxRecDepth 100000 in
theorem clash_at (c T lo hi : Int) (n m : Nat) (a b u v g : Nat → Int) (pre0 : 1 ≤ c ∧ c ≤ 10) (pre1 : 1 ≤ lo ∧ lo ≤ hi ∧ hi ≤ 200 ∧ 1 ≤ T ∧ T ≤ 2000) (pre2 : m ≤ 1000) (pre3 : ∀ j, j < m → 0 ≤ g j ∧ g j < n) (pre4 : allI (fun k => rdB c (selF a g k) (selF b g k) (selF u g k) (selF v g k)) m = true) : SoundAt Try.prog 84 [.agg [i c, i T, i lo, i hi], rds n a b u v, .lst 1 m (fun j => [i (g j)])] (bl (clB c T lo hi m a b u v g)) := by
  refine soundAt_finX (G := [(103, S_some), (67, S_readB)]) (X := { R := [], H := [] }) (L := []) (SoundG.cons some_ok (SoundG.cons readB_ok (SoundG.nil _))) (SoundX.of (SoundRL.nil _) (SoundHL.nil _)) mixed Try.func84 (show Try.f84.body = some (bodyOf Try.f84) by kernel_rfl) noLoopsS (t := (Tree.need [isRec 4 n fun k => [i (a k), i (b k), i (u k), i (v k)], isRec 1 m fun j => [i (g j)], m ≤ 100000, ∀ (j : Nat), j < m → (0 : Int) ≤ g j ∧ g j < (↑n : Int)] (Tree.need [isRec 4 m fun k => [i (selF a g k), i (selF b g k), i (selF u g k), i (selF v g k)], (1 : Int) ≤ c ∧ c ≤ (10 : Int), (1 : Int) ≤ lo ∧ lo ≤ hi ∧ hi ≤ (200 : Int) ∧ (1 : Int) ≤ T ∧ T ≤ (2000 : Int), m ≤ 1000, allI (fun k => rdB c (a (Int.toNat (g k))) (b (Int.toNat (g k))) (u (Int.toNat (g k))) (v (Int.toNat (g k)))) m = true] (Tree.leaf (RV.x (Value.bool !okB c T lo hi m (fun k => a (Int.toNat (g k))) (fun k => b (Int.toNat (g k))) (fun k => u (Int.toNat (g k))) fun k => v (Int.toNat (g k)))))))) (by kernel_rfl) ?_
  simp only [Tree.sat, allP, fitP, fitL, valEq, inI64, true_and, and_true]
  exact ⟨⟨isRec4 n a b u v, isRec1 m g, by omega, pre3⟩, ⟨isRec4 m (selF a g) (selF b g) (selF u g) (selF v g), pre0, pre1, pre2, pre4⟩, rfl⟩


def S_clash : Sx.Spec := fun l => match l with
  | [.agg [.x (.int .i64 c), .x (.int .i64 T), .x (.int .i64 lo), .x (.int .i64 hi)], .lst 4 n f, .lst 1 m g] => some ([isRec 4 n f, isRec 1 m g, 1 ≤ c ∧ c ≤ 10, 1 ≤ lo ∧ lo ≤ hi ∧ hi ≤ 200 ∧ 1 ≤ T ∧ T ≤ 2000, m ≤ 1000, ∀ j, j < m → 0 ≤ col 0 g j ∧ col 0 g j < n, allI (fun k => rdB c (selF (col 0 f) (col 0 g) k) (selF (col 1 f) (col 0 g) k) (selF (col 2 f) (col 0 g) k) (selF (col 3 f) (col 0 g) k)) m = true], bl (clB c T lo hi m (col 0 f) (col 1 f) (col 2 f) (col 3 f) (col 0 g)))
  | _ => none


theorem clash_ok : SoundSpec Try.prog 84 S_clash := by
  refine ⟨⟨_, Try.func84, by kernel_rfl, by kernel_rfl⟩, ?_⟩
  intro avs ns res h hn
  unfold S_clash at h
  split at h
  · rename_i c T lo hi n f m g
    cases h
    have hr : isRec 4 n f := hn _ (by simp)
    have hg : isRec 1 m g := hn _ (by simp)
    exact (clash_at c T lo hi n m (col 0 f) (col 1 f) (col 2 f) (col 3 f) (col 0 g) (hn _ (by simp)) (hn _ (by simp)) (hn _ (by simp)) (hn _ (by simp)) (hn _ (by simp))).same (.cons (.refl _) (.cons (.lst 4 n _ _ hr) (.cons (.lst 1 m _ _ hg) .nil)))
  · cases h

end Go.Proofs.Ytmdeoobmeokmeaa
/- Contracts of functions of the program, by the engine Sx: what each call comes to. Printed by a program of this repo (sxgen.py). -/
set_option linter.unusedSimpArgs false
set_option linter.unusedVariables false
namespace Go.Proofs.Ytmdeoobmeokmeaa
open Go Go.Sx Go.RowKit

/-- How many readings are left, and which: behind so many rounds. -/
def knS (c T lo hi : Int) (n : Nat) (a b u v : Nat → Int) : Nat → Nat × (Nat → Int)
  | 0 => (n, numF n)
  | t + 1 => if clB c T lo hi ((knS c T lo hi n a b u v t).1 - 1) a b u v (butF (n - 1 - t) (knS c T lo hi n a b u v t).2) then ((knS c T lo hi n a b u v t).1 - 1, butF (n - 1 - t) (knS c T lo hi n a b u v t).2) else knS c T lo hi n a b u v t
def knN (c T lo hi : Int) (n : Nat) (a b u v : Nat → Int) (t : Nat) : Nat := (knS c T lo hi n a b u v t).1
def knF (c T lo hi : Int) (n : Nat) (a b u v : Nat → Int) (t : Nat) : Nat → Int := (knS c T lo hi n a b u v t).2


theorem sel_rd {c : Int} {n m : Nat} {a b u v g : Nat → Int} (h : allI (fun k => rdB c (a k) (b k) (u k) (v k)) n = true) (hg : ∀ j, j < m → 0 ≤ g j ∧ g j < n) : allI (fun k => rdB c (selF a g k) (selF b g k) (selF u g k) (selF v g k)) m = true :=
  allI_iff.2 fun j hj => allI_iff.1 h (g j).toNat (by have := hg j hj; omega)
theorem but_in {q m n : Nat} {g : Nat → Int} (hg : ∀ j, j < m → 0 ≤ g j ∧ g j < n) (hq : q < m) : ∀ j, j < m - 1 → 0 ≤ butF q g j ∧ butF q g j < n := by
  intro j hj
  unfold butF
  split
  · exact hg j (by omega)
  · exact hg _ (by omega)
theorem num_in (n : Nat) : ∀ j, j < n → 0 ≤ numF n j ∧ numF n j < n := by
  intro j hj
  unfold numF
  rw [if_pos hj]
  omega
theorem kn_inv (c T lo hi : Int) (n : Nat) (a b u v : Nat → Int) : ∀ t, t ≤ n → knN c T lo hi n a b u v t ≤ n ∧ n - t ≤ knN c T lo hi n a b u v t ∧ ∀ j, j < knN c T lo hi n a b u v t → 0 ≤ knF c T lo hi n a b u v t j ∧ knF c T lo hi n a b u v t j < n
  | 0, _ => ⟨Nat.le_refl n, Nat.sub_le n 0, num_in n⟩
  | t + 1, h => by
    have ih := kn_inv c T lo hi n a b u v t (by omega)
    unfold knN knF at ih ⊢
    unfold knS
    split
    · refine ⟨by dsimp only; omega, by dsimp only; omega, but_in ih.2.2 (by omega)⟩
    · exact ⟨ih.1, by omega, ih.2.2⟩


theorem kn_yes {c T lo hi : Int} {n : Nat} {a b u v : Nat → Int} {k q : Nat} (hq : q = n - 1 - k) (h : clB c T lo hi (knN c T lo hi n a b u v k - 1) a b u v (butF q (knF c T lo hi n a b u v k)) = true) : knN c T lo hi n a b u v (k + 1) = knN c T lo hi n a b u v k - 1 ∧ knF c T lo hi n a b u v (k + 1) = butF q (knF c T lo hi n a b u v k) := by
  subst hq
  unfold knN knF at h ⊢
  have e : knS c T lo hi n a b u v (k + 1) = ((knS c T lo hi n a b u v k).1 - 1, butF (n - 1 - k) (knS c T lo hi n a b u v k).2) := by
    rw [knS]
    rw [if_pos h]
  rw [e]
  exact ⟨rfl, rfl⟩
theorem kn_no {c T lo hi : Int} {n : Nat} {a b u v : Nat → Int} {k q : Nat} (hq : q = n - 1 - k) (h : clB c T lo hi (knN c T lo hi n a b u v k - 1) a b u v (butF q (knF c T lo hi n a b u v k)) = false) : knN c T lo hi n a b u v (k + 1) = knN c T lo hi n a b u v k ∧ knF c T lo hi n a b u v (k + 1) = knF c T lo hi n a b u v k := by
  subst hq
  unfold knN knF at h ⊢
  have e : knS c T lo hi n a b u v (k + 1) = knS c T lo hi n a b u v k := by
    rw [knS]
    rw [if_neg (by rw [h]; decide)]
  rw [e]
  exact ⟨rfl, rfl⟩

noncomputable def E_kn (c T lo hi : Int) (n : Nat) (a b u v : Nat → Int) : St := (some
  {
    σ :=
      [AV.agg
          [AV.x (Value.int IntKind.i64 c), AV.x (Value.int IntKind.i64 T), AV.x (Value.int IntKind.i64 lo),
            AV.x (Value.int IntKind.i64 hi)],
        AV.lst (4 : Nat) n fun k =>
          [AV.x (Value.int IntKind.i64 (a k)), AV.x (Value.int IntKind.i64 (b k)), AV.x (Value.int IntKind.i64 (u k)),
            AV.x (Value.int IntKind.i64 (v k))],
        AV.ptr (0 : Nat) (0 : Nat), AV.top, AV.x (Value.slice none (0 : Nat) (0 : Nat)),
        AV.x (Value.int IntKind.i64 (0 : Int)), AV.x (Value.int IntKind.i64 (flt c T lo hi n a b u v)), AV.top, AV.top,
        AV.top, AV.top, AV.top, AV.top, AV.top, AV.top, AV.top, AV.top, AV.top, AV.top, AV.top, AV.top, AV.top, AV.top,
        AV.top, AV.top, AV.top, AV.top, AV.top, AV.top, AV.top, AV.top, AV.top, AV.top, AV.top, AV.top, AV.top, AV.top,
        AV.top, AV.top],
    m :=
      [((0 : Nat),
          Res.cells (34 : Nat)
            [AV.x (Value.int IntKind.i64 c), AV.x (Value.int IntKind.i64 T), AV.x (Value.int IntKind.i64 lo),
              AV.x (Value.int IntKind.i64 hi)])],
    nx := (21 : Nat) } : Option St).getD { σ := [], m := [], nx := 0 }
noncomputable def B_kn : Code := loopBody (loopAt (bodyOf Try.f49) 0)
noncomputable def inv_kn (c T lo hi : Int) (n : Nat) (a b u v : Nat → Int) (k : Nat) : St := { σ := ovrS [(7, .lst 1 (knN c T lo hi n a b u v k) (fun j => [i (knF c T lo hi n a b u v k j)])), (8, i ((n : Int) - 1 - (k : Nat)))] (E_kn c T lo hi n a b u v).σ, m := (E_kn c T lo hi n a b u v).m, nx := (E_kn c T lo hi n a b u v).nx }
noncomputable def out_kn (c T lo hi : Int) (n : Nat) (a b u v : Nat → Int) (k : Nat) : AEx → Option St := fun ex => match ex with
  | .exit 0 => some { σ := ovrS [(7, .lst 1 (knN c T lo hi n a b u v n) (fun j => [i (knF c T lo hi n a b u v n j)]))] (E_kn c T lo hi n a b u v).σ, m := (E_kn c T lo hi n a b u v).m, nx := (E_kn c T lo hi n a b u v).nx }
  | _ => none
noncomputable def T_kn (c T lo hi : Int) (n : Nat) (a b u v : Nat → Int) : CT := .leaf (.exit 0, ( out_kn c T lo hi n a b u v 0 (.exit 0)).getD (E_kn c T lo hi n a b u v))
noncomputable def LS_kn (c T lo hi : Int) (n : Nat) (a b u v : Nat → Int) : LSpec := normSp [] (sumL (inv_kn c T lo hi n a b u v (0)) (T_kn c T lo hi n a b u v))
set_option maxRecDepth 100000 in
theorem kn_ls (c T lo hi : Int) (n : Nat) (a b u v : Nat → Int) (pre0 : flt c T lo hi n a b u v = 0) : LSound Try.prog (.loop B_kn) (LS_kn c T lo hi n a b u v) := by
  refine loop_roundsX [] (E := { R := [(85, S_but)], H := [] }) (G := [(80, S_check), (83, S_numbers), (84, S_clash)]) (L := []) (SoundG.cons check_ok (SoundG.cons numbers_ok (SoundG.cons clash_ok (SoundG.nil _)))) (SoundX.of (SoundRL.cons but_okR (SoundRL.nil _)) (SoundHL.nil _)) mixed noLoops (X := Nat) (inv_kn c T lo hi n a b u v) (fun k => k ≤ n) (fun k => n - k) (out_kn c T lo hi n a b u v) (x0 := 0) (by simp) ?_ ?_ ?_
  · rintro k
    kernel_rfl
  · rintro k y E h
    unfold out_kn at h
    split at h
    · cases h; kernel_rfl
    · cases h
  · rintro Q hQ k hx
    refine ⟨(k + 1), ?_⟩
    have e : roundX Try.prog [(80, S_check), (83, S_numbers), (84, S_clash)] { R := [(85, S_but)], H := [] } [] [] B_kn (inv_kn c T lo hi n a b u v k) (inv_kn c T lo hi n a b u v ((k + 1))) (out_kn c T lo hi n a b u v k) = (Tree.branch (decide ((↑n : Int) - (1 : Int) - (↑k : Int) ≥ (0 : Int))) (Tree.need [isRec 1 (knN c T lo hi n a b u v k) fun j => [i (knF c T lo hi n a b u v k j)], knN c T lo hi n a b u v k ≤ 100000, (0 : Int) ≤ (↑n : Int) - (1 : Int) - (↑k : Int) ∧ (↑n : Int) - (1 : Int) - (↑k : Int) < (↑(knN c T lo hi n a b u v k) : Int)] (Tree.need [isRec 4 n fun k => [iI (a k), iI (b k), iI (u k), iI (v k)], isRec 1 (knN c T lo hi n a b u v k - 1) fun j => [i (butF (Int.toNat ((↑n : Int) - (1 : Int) - (↑k : Int))) (knS c T lo hi n a b u v k).2 j)], (1 : Int) ≤ c ∧ c ≤ (10 : Int), (1 : Int) ≤ lo ∧ lo ≤ hi ∧ hi ≤ (200 : Int) ∧ (1 : Int) ≤ T ∧ T ≤ (2000 : Int), knN c T lo hi n a b u v k - 1 ≤ 1000, ∀ (j : Nat), j < knN c T lo hi n a b u v k - 1 → (0 : Int) ≤ Decidable.rec (fun h => (knS c T lo hi n a b u v k).2 (Int.toNat ((↑n : Int) - (1 : Int) - (↑k : Int)) + 1 + (j - Int.toNat ((↑n : Int) - (1 : Int) - (↑k : Int))))) (fun h => (knS c T lo hi n a b u v k).2 j) (Nat.decLt j (Int.toNat ((↑n : Int) - (1 : Int) - (↑k : Int)))) ∧ Decidable.rec (fun h => (knS c T lo hi n a b u v k).2 (Int.toNat ((↑n : Int) - (1 : Int) - (↑k : Int)) + 1 + (j - Int.toNat ((↑n : Int) - (1 : Int) - (↑k : Int))))) (fun h => (knS c T lo hi n a b u v k).2 j) (Nat.decLt j (Int.toNat ((↑n : Int) - (1 : Int) - (↑k : Int)))) < (↑n : Int), allI (fun k_1 => rdB c (selF a (fun j => Decidable.rec (fun h => (knS c T lo hi n a b u v k).2 (Int.toNat ((↑n : Int) - (1 : Int) - (↑k : Int)) + 1 + (j - Int.toNat ((↑n : Int) - (1 : Int) - (↑k : Int))))) (fun h => (knS c T lo hi n a b u v k).2 j) (Nat.decLt j (Int.toNat ((↑n : Int) - (1 : Int) - (↑k : Int))))) k_1) (selF b (fun j => Decidable.rec (fun h => (knS c T lo hi n a b u v k).2 (Int.toNat ((↑n : Int) - (1 : Int) - (↑k : Int)) + 1 + (j - Int.toNat ((↑n : Int) - (1 : Int) - (↑k : Int))))) (fun h => (knS c T lo hi n a b u v k).2 j) (Nat.decLt j (Int.toNat ((↑n : Int) - (1 : Int) - (↑k : Int))))) k_1) (selF u (fun j => Decidable.rec (fun h => (knS c T lo hi n a b u v k).2 (Int.toNat ((↑n : Int) - (1 : Int) - (↑k : Int)) + 1 + (j - Int.toNat ((↑n : Int) - (1 : Int) - (↑k : Int))))) (fun h => (knS c T lo hi n a b u v k).2 j) (Nat.decLt j (Int.toNat ((↑n : Int) - (1 : Int) - (↑k : Int))))) k_1) (selF v (fun j => Decidable.rec (fun h => (knS c T lo hi n a b u v k).2 (Int.toNat ((↑n : Int) - (1 : Int) - (↑k : Int)) + 1 + (j - Int.toNat ((↑n : Int) - (1 : Int) - (↑k : Int))))) (fun h => (knS c T lo hi n a b u v k).2 j) (Nat.decLt j (Int.toNat ((↑n : Int) - (1 : Int) - (↑k : Int))))) k_1)) (knN c T lo hi n a b u v k - 1) = true] (Tree.branch (clB c T lo hi (knN c T lo hi n a b u v k - 1) a b u v fun j => Decidable.rec (fun h => (knS c T lo hi n a b u v k).2 (Int.toNat ((↑n : Int) - (1 : Int) - (↑k : Int)) + 1 + (j - Int.toNat ((↑n : Int) - (1 : Int) - (↑k : Int))))) (fun h => (knS c T lo hi n a b u v k).2 j) (Nat.decLt j (Int.toNat ((↑n : Int) - (1 : Int) - (↑k : Int))))) (Tree.need [inI64 ((↑n : Int) - (1 : Int) - (↑k : Int) - (1 : Int))] (Tree.need [AV.agg [iI c, iI T, iI lo, iI hi] = AV.agg [iI c, iI T, iI lo, iI hi], (AV.lst 4 n fun k => [iI (a k), iI (b k), iI (u k), iI (v k)]) = AV.lst 4 n fun k => [iI (a k), iI (b k), iI (u k), iI (v k)], AV.ptr 0 0 = AV.ptr 0 0, AV.x (Value.slice none 0 0) = AV.x (Value.slice none 0 0), (0 : Int) = (0 : Int), flt c T lo hi n a b u v = flt c T lo hi n a b u v, (AV.lst 1 (knN c T lo hi n a b u v k - 1) fun j => [iI (butF (Int.toNat ((↑n : Int) - (1 : Int) - (↑k : Int))) (knS c T lo hi n a b u v k).2 j)]) = AV.lst 1 (knN c T lo hi n a b u v (k + 1)) fun j => [iI (knF c T lo hi n a b u v (k + 1) j)], (↑n : Int) - (1 : Int) - (↑k : Int) - (1 : Int) = (↑n : Int) - (1 : Int) - (↑(k + 1) : Int), c = c, T = T, lo = lo, hi = hi] (Tree.leaf AEx.normal))) (Tree.need [inI64 ((↑n : Int) - (1 : Int) - (↑k : Int) - (1 : Int))] (Tree.need [AV.agg [iI c, iI T, iI lo, iI hi] = AV.agg [iI c, iI T, iI lo, iI hi], (AV.lst 4 n fun k => [iI (a k), iI (b k), iI (u k), iI (v k)]) = AV.lst 4 n fun k => [iI (a k), iI (b k), iI (u k), iI (v k)], AV.ptr 0 0 = AV.ptr 0 0, AV.x (Value.slice none 0 0) = AV.x (Value.slice none 0 0), (0 : Int) = (0 : Int), flt c T lo hi n a b u v = flt c T lo hi n a b u v, (AV.lst 1 (knN c T lo hi n a b u v k) fun j => [iI (knF c T lo hi n a b u v k j)]) = AV.lst 1 (knN c T lo hi n a b u v (k + 1)) fun j => [iI (knF c T lo hi n a b u v (k + 1) j)], (↑n : Int) - (1 : Int) - (↑k : Int) - (1 : Int) = (↑n : Int) - (1 : Int) - (↑(k + 1) : Int), c = c, T = T, lo = lo, hi = hi] (Tree.leaf AEx.normal)))))) (Tree.need [AV.agg [iI c, iI T, iI lo, iI hi] = AV.agg [iI c, iI T, iI lo, iI hi], (AV.lst 4 n fun k => [iI (a k), iI (b k), iI (u k), iI (v k)]) = AV.lst 4 n fun k => [iI (a k), iI (b k), iI (u k), iI (v k)], AV.ptr 0 0 = AV.ptr 0 0, AV.x (Value.slice none 0 0) = AV.x (Value.slice none 0 0), (0 : Int) = (0 : Int), flt c T lo hi n a b u v = flt c T lo hi n a b u v, (AV.lst 1 (knN c T lo hi n a b u v k) fun j => [iI (knF c T lo hi n a b u v k j)]) = AV.lst 1 (knN c T lo hi n a b u v n) fun j => [iI (knF c T lo hi n a b u v n j)], c = c, T = T, lo = lo, hi = hi] (Tree.leaf (AEx.exit 0)))) := by kernel_rfl
    rw [e]
    simp only [T_kn, out_kn, Tree.sat, Option.getD_some] at hQ
    simp only [Tree.sat, allP, fitP, fitL, valEq, inI64, true_and, and_true, decide_eq_true_eq, decide_eq_false_iff_not, Int.natCast_zero, Int.toNat_natCast, out_kn]
    clear e
    have hf := flt_iff.1 pre0
    have hb := tube_bd hf.1
    have ik := kn_inv c T lo hi n a b u v k hx
    refine ⟨fun h => ⟨⟨isRec1 _ _, by omega, by omega, by omega⟩, ⟨isRec4 n a b u v, isRec1 _ _, hb.1, hb.2.1, by omega, but_in (q := ((n : Int) - 1 - k).toNat) ik.2.2 (by omega), sel_rd (g := butF ((n : Int) - 1 - k).toNat (knF c T lo hi n a b u v k)) hf.2.2 (but_in ik.2.2 (by omega))⟩, fun hc => ?_, fun hc => ?_⟩, fun h => ?_⟩
    · have hc : clB c T lo hi (knN c T lo hi n a b u v k - 1) a b u v (butF ((n : Int) - 1 - k).toNat (knF c T lo hi n a b u v k)) = true := hc
      have hs := kn_yes (by omega) hc
      rw [hs.1, hs.2]
      exact ⟨by omega, ⟨rfl, by omega⟩, by omega, by omega⟩
    · have hc : clB c T lo hi (knN c T lo hi n a b u v k - 1) a b u v (butF ((n : Int) - 1 - k).toNat (knF c T lo hi n a b u v k)) = false := hc
      have hs := kn_no (by omega) hc
      rw [hs.1, hs.2]
      exact ⟨by omega, ⟨rfl, by omega⟩, by omega, by omega⟩
    · obtain rfl : k = n := by omega
      exact ⟨rfl, fun E hE => by cases hE; exact hQ⟩


def knA (c T lo hi : Int) (n : Nat) (a b u v : Nat → Int) : Bool := clB c T lo hi n a b u v (numF n)
def knE (c T lo hi : Int) (n : Nat) (a b u v : Nat → Int) : Int := if flt c T lo hi n a b u v = 0 then (if knA c T lo hi n a b u v then 0 else 7) else flt c T lo hi n a b u v
def knL (c T lo hi : Int) (n : Nat) (a b u v : Nat → Int) : Nat := if knE c T lo hi n a b u v = 0 then knN c T lo hi n a b u v n else 0

set_option maxRecDepth 100000 in
theorem Knot_at (c T lo hi : Int) (n : Nat) (a b u v : Nat → Int) : SoundAtR Try.prog 49 [.agg [i c, i T, i lo, i hi], rds n a b u v] (.tup [.lst 1 (knL c T lo hi n a b u v) (fun j => [i (knF c T lo hi n a b u v n j)]), i (knE c T lo hi n a b u v)]) := by
  refine soundAtR_fin (G := [(80, S_check), (83, S_numbers), (84, S_clash)]) (X := { R := [(85, S_but)], H := [] }) (L := [needSp [flt c T lo hi n a b u v = 0] (LS_kn c T lo hi n a b u v)]) (SoundG.cons check_ok (SoundG.cons numbers_ok (SoundG.cons clash_ok (SoundG.nil _)))) (SoundX.of (SoundRL.cons but_okR (SoundRL.nil _)) (SoundHL.nil _)) mixed Try.func49 (show Try.f49.body = some (bodyOf Try.f49) by kernel_rfl) (one_loop (fun cj hcj => by
    have e : loopAt (bodyOf Try.f49) 0 = some (.loop B_kn) := by kernel_rfl
    rw [e] at hcj; cases hcj
    exact (needSp_sound (ps := [flt c T lo hi n a b u v = 0]) (fun h => kn_ls c T lo hi n a b u v h)).N)) (t := (Tree.need [isRec 4 n fun k => [i (a k), i (b k), i (u k), i (v k)]] (Tree.branch (flt c T lo hi n a b u v != (0 : Int)) (Tree.leaf (AV.tup [AV.x (Value.slice none 0 0), iI (flt c T lo hi n a b u v)])) (Tree.need [isRec 4 n fun k => [i (a k), i (b k), i (u k), i (v k)], n ≤ 100000] (Tree.need [isRec 4 n fun k => [i (a k), i (b k), i (u k), i (v k)], isRec 1 n fun j => [i (numF n j)], (1 : Int) ≤ c ∧ c ≤ (10 : Int), (1 : Int) ≤ lo ∧ lo ≤ hi ∧ hi ≤ (200 : Int) ∧ (1 : Int) ≤ T ∧ T ≤ (2000 : Int), n ≤ 1000, ∀ (j : Nat), j < n → (0 : Int) ≤ Decidable.rec (fun h => (0 : Int)) (fun h => (↑j : Int)) (Nat.decLt j n) ∧ Decidable.rec (fun h => (0 : Int)) (fun h => (↑j : Int)) (Nat.decLt j n) < (↑n : Int), allI (fun k => rdB c (selF a (fun j => Decidable.rec (fun h => (0 : Int)) (fun h => (↑j : Int)) (Nat.decLt j n)) k) (selF b (fun j => Decidable.rec (fun h => (0 : Int)) (fun h => (↑j : Int)) (Nat.decLt j n)) k) (selF u (fun j => Decidable.rec (fun h => (0 : Int)) (fun h => (↑j : Int)) (Nat.decLt j n)) k) (selF v (fun j => Decidable.rec (fun h => (0 : Int)) (fun h => (↑j : Int)) (Nat.decLt j n)) k)) n = true] (Tree.branch (!clB c T lo hi n a b u v fun j => Decidable.rec (fun h => (0 : Int)) (fun h => (↑j : Int)) (Nat.decLt j n)) (Tree.leaf (AV.tup [AV.x (Value.slice none 0 0), iI (7 : Int)])) (Tree.need [inI64 ((↑n : Int) - (1 : Int))] (Tree.need [flt c T lo hi n a b u v = (0 : Int)] (Tree.need [AV.agg [iI c, iI T, iI lo, iI hi] = AV.agg [iI c, iI T, iI lo, iI hi], (AV.lst 4 n fun k => [iI (a k), iI (b k), iI (u k), iI (v k)]) = AV.lst 4 n fun k => [iI (a k), iI (b k), iI (u k), iI (v k)], AV.ptr 0 0 = AV.ptr 0 0, AV.x (Value.slice none 0 0) = AV.x (Value.slice none 0 0), (0 : Int) = (0 : Int), flt c T lo hi n a b u v = flt c T lo hi n a b u v, (AV.lst 1 n fun j => [iI (numF n j)]) = AV.lst 1 (knN c T lo hi n a b u v 0) fun j => [iI (knF c T lo hi n a b u v 0 j)], (↑n : Int) - (1 : Int) = (↑n : Int) - (1 : Int) - (↑(0 : Nat) : Int), c = c, T = T, lo = lo, hi = hi] (Tree.leaf (AV.tup [AV.lst 1 (knN c T lo hi n a b u v n) fun j => [iI (knF c T lo hi n a b u v n j)], iI (0 : Int)]))))))))))) (by kernel_rfl) ?_
  have rI : ∀ x y : Int, repP (iI x) (i y) = (x = y) := fun x y => by simp [repP, valEq]
  have rT : ∀ l l' : List AV, repP (.tup l) (.tup l') = repPL l l' := fun l l' => by simp [repP]
  simp only [Tree.sat, allP, rT, rI, repPL, true_and, and_true, inI64, bne_iff_ne, ne_eq, Bool.not_eq_true', bne_eq_false_iff_eq]
  have rN : ∀ {m : Nat} {g : Nat → List AV}, m = 0 → repP (.x (.slice none 0 0)) (.lst 1 m g) := fun h => by subst h; simp [repP, isNil]
  refine ⟨isRec4 n a b u v, fun h => ?_, fun h => ?_⟩
  · have he : knE c T lo hi n a b u v = flt c T lo hi n a b u v := if_neg h
    exact ⟨rN (if_neg (by rw [he]; exact h)), he.symm⟩
  · have hf := flt_iff.1 h
    have hb := tube_bd hf.1
    refine ⟨⟨isRec4 n a b u v, by omega⟩, ⟨isRec4 n a b u v, isRec1 _ _, hb.1, hb.2.1, by have := hf.2.1; omega, num_in n, sel_rd (g := numF n) hf.2.2 (num_in n)⟩, fun hc => ?_, fun hc => ?_⟩
    · have hc : knA c T lo hi n a b u v = false := hc
      have he : knE c T lo hi n a b u v = 7 := by unfold knE; rw [if_pos h, hc]; rfl
      exact ⟨rN (if_neg (by rw [he]; decide)), he.symm⟩
    · have hc : (!knA c T lo hi n a b u v) = false := hc
      have hc : knA c T lo hi n a b u v = true := by simpa using hc
      have he : knE c T lo hi n a b u v = 0 := by unfold knE; rw [if_pos h, hc]; rfl
      have hl : knL c T lo hi n a b u v = knN c T lo hi n a b u v n := if_pos he
      rw [hl, he]
      exact ⟨by omega, h, ⟨rfl, by omega⟩, ⟨rfl, rfl, fun _ _ => rfl⟩, rfl⟩


def S_Knot : Sx.Spec := fun l => match l with
  | [.agg [.x (.int .i64 c), .x (.int .i64 T), .x (.int .i64 lo), .x (.int .i64 hi)], .lst 4 n f] => some ([isRec 4 n f], .tup [.lst 1 (knL c T lo hi n (col 0 f) (col 1 f) (col 2 f) (col 3 f)) (fun j => [i (knF c T lo hi n (col 0 f) (col 1 f) (col 2 f) (col 3 f) n j)]), i (knE c T lo hi n (col 0 f) (col 1 f) (col 2 f) (col 3 f))])
  | _ => none


theorem Knot_okR : SoundR Try.prog 49 S_Knot := by
  refine ⟨⟨_, Try.func49, by kernel_rfl, by kernel_rfl⟩, ?_⟩
  intro avs ns res h hn
  unfold S_Knot at h
  split at h
  · rename_i c T lo hi n f
    cases h
    have hr : isRec 4 n f := hn _ (by simp)
    exact SoundAtR.same (Knot_at c T lo hi n (col 0 f) (col 1 f) (col 2 f) (col 3 f)) (.cons (.refl _) (.cons (.lst 4 n _ _ hr) .nil))
  · cases h

end Go.Proofs.Ytmdeoobmeokmeaa
/- Contracts of functions of the program, by the engine Sx: what each call comes to. Printed by a program of this repo (sxgen.py). -/
set_option linter.unusedSimpArgs false
set_option linter.unusedVariables false
namespace Go.Proofs.Ytmdeoobmeokmeaa
open Go Go.Sx Go.RowKit

theorem loop_roundsM {P : Program} {G : List (Nat × Sx.Spec)} {E : Ext} {L : List LSpec} (N : List (Pl × Nat × TypeId × Nat)) (hG : SoundG P G) (hX : ∀ cx, SoundX P E cx) (hmix : P.follows .mixedOrders = true) {body : Code} (hL : ∀ j cj, loopAt body j = some cj → ∀ sp, L[j]? = some sp → LSoundN P cj sp)
    {X : Type} (inv : X → St) (I : X → Prop) (μ : X → Nat) (out : X → AEx → Option St) {t : CT} {x0 : X} (h0 : I x0)
    (hok : ∀ x, Go.Sx.okB (inv x) = true) (hokO : ∀ x y E, out x y = some E → Go.Sx.okB E = true)
    (round : ∀ (Q : AEx × St → Prop), t.sat Q → ∀ x, I x → ∃ x', (roundX P G E L N body (inv x) (inv x') (out x)).sat (fun y => match y with
      | .normal => I x' ∧ μ x' < μ x
      | y => ∀ E, out x y = some E → Q (y, E))) : LSoundN P (.loop body) (normSp N (sumL (inv x0) t)) :=
  fun cx hf => loop_roundsC N hG (hX cx) hmix (fun j cj hj sp hsp => hL j cj hj sp hsp cx hf) inv I μ out h0 hok hokO round
theorem depSp_soundN {P : Program} {c : Code} {t : Nat} {F : Nat → LSpec} (h : ∀ k, LSoundN P c (F k)) : LSoundN P c (depSp t F) := by
  intro cx hf n s tr ht Q hQ a w r
  unfold depSp at ht
  split at ht
  · exact h _ cx hf n s tr ht Q hQ a w r
  · cases ht
theorem needSp_soundN {P : Program} {c : Code} {ps : List Prop} {sp : LSpec} (h : allP ps → LSoundN P c sp) : LSoundN P c (needSp ps sp) := fun cx hf => needSp_soundC (fun hp => h hp cx hf)

def S_ends : Sx.Spec := fun l => match l with
  | [.roI [] m F 0, .x (.int .i64 k), .agg [.x (.int .i64 p), .x (.int .i64 q)]] => some ([], .fn (.func 93) [] [.ro [i k], .ro [.roI [] m F 0], .ro [i p, i q]])
  | _ => none

set_option maxRecDepth 100000 in
theorem ends_at (m : Nat) (F : Nat → Int) (k p q : Int) : SoundAtR Try.prog 66 [.roI [] m F 0, i k, .agg [i p, i q]] (.fn (.func 93) [] [.ro [i k], .ro [.roI [] m F 0], .ro [i p, i q]]) := by
  refine soundAtR_fin (G := []) (X := { R := [], H := [] }) (L := []) (SoundG.nil _) (SoundX.of (SoundRL.nil _) (SoundHL.nil _)) mixed Try.func66 (show Try.f66.body = some (bodyOf Try.f66) by kernel_rfl) noLoopsS (t := (Tree.leaf (AV.fn (Fn.func 93) [] [AV.ro [iI k], AV.ro [AV.roI [] m (fun a => F a) 0], AV.ro [iI p, iI q]]))) (by kernel_rfl) ?_
  exact rfl
theorem ends_okR : SoundR Try.prog 66 S_ends := by
  refine ⟨⟨_, Try.func66, by kernel_rfl, by kernel_rfl⟩, ?_⟩
  intro avs ns res h hn
  unfold S_ends at h
  split at h
  · cases h
    exact ends_at _ _ _ _ _
  · cases h


def enV (k p q : Int) (j : Nat) : List Value := [rdV k (k + j) p q]

noncomputable def E_en (l : Nat) (c T lo hi : Int) (n : Nat) (a b u v : Nat → Int) (k p q : Int) : St := (some
  {
    σ :=
      [AV.fn (Fn.yield l) [] [], AV.ro [AV.x (Value.int IntKind.i64 k)],
        AV.ro
          [AV.roI [] (125 : Nat) (fun k => siteF (↑(Int.toNat c) : Int) T lo hi (fwM (Int.toNat c) T lo hi n a b u v) k)
              (0 : Nat)],
        AV.ro [AV.x (Value.int IntKind.i64 p), AV.x (Value.int IntKind.i64 q)], AV.top, AV.top, AV.top, AV.top, AV.top,
        AV.top, AV.top, AV.top, AV.top, AV.top, AV.top, AV.top, AV.top, AV.top, AV.top, AV.top, AV.top, AV.top, AV.top],
    m := [], nx := (2 : Nat), gh := some (0 : Nat) } : Option St).getD { σ := [], m := [], nx := 0 }
noncomputable def B_en : Code := loopBody (loopAt (bodyOf Try.f93) 0)
noncomputable def inv_en (l : Nat) (c T lo hi : Int) (n : Nat) (a b u v : Nat → Int) (k p q : Int) (j : Nat) : St := { σ := ovrS [(5, i (k + j))] (E_en l c T lo hi n a b u v k p q).σ, m := [], nx := 0, gh := some (j) }
noncomputable def out_en (l : Nat) (c T lo hi : Int) (n : Nat) (a b u v : Nat → Int) (k p q : Int) (j : Nat) : AEx → Option St := fun ex => match ex with
  | .exit 0 => some { σ := ovrS [] (E_en l c T lo hi n a b u v k p q).σ, m := [], nx := 0, gh := some ((c - k + 1).toNat) }
  | .ret => some { σ := ovrS [] (E_en l c T lo hi n a b u v k p q).σ, m := [], nx := 0, gh := none }
  | _ => none
noncomputable def T_en (l : Nat) (c T lo hi : Int) (n : Nat) (a b u v : Nat → Int) (k p q : Int) : CT := .may True (.leaf (.exit 0, ( out_en l c T lo hi n a b u v k p q 0 (.exit 0)).getD (E_en l c T lo hi n a b u v k p q))) (.leaf (.ret, ( out_en l c T lo hi n a b u v k p q 0 .ret).getD (E_en l c T lo hi n a b u v k p q)))
noncomputable def LS_en (l : Nat) (c T lo hi : Int) (n : Nat) (a b u v : Nat → Int) (k p q : Int) : LSpec := normSp [] (sumL (inv_en l c T lo hi n a b u v k p q (0)) (T_en l c T lo hi n a b u v k p q))
set_option maxRecDepth 100000 in
theorem en_lc (l : Nat) (c T lo hi : Int) (n : Nat) (a b u v : Nat → Int) (k p q : Int) (pre0 : 1 ≤ c ∧ c ≤ 10) (pre1 : 0 ≤ k ∧ k ≤ c) {cx : Cx} (hX : SoundX Try.prog { Y := some (l, ((c - k + 1).toNat), (enV k p q)) } cx) : LSoundC Try.prog none cx (.loop B_en) (LS_en l c T lo hi n a b u v k p q) := by
  refine loop_roundsC [] (G := []) (L := []) (SoundG.nil _) hX mixed noLoopsS (V := Nat) (inv_en l c T lo hi n a b u v k p q) (fun j => j ≤ (c - k + 1).toNat) (fun j => (c - k + 1).toNat - j) (out_en l c T lo hi n a b u v k p q) (x0 := 0) (by simp) ?_ ?_ ?_
  · rintro j
    kernel_rfl
  · rintro j y E h
    unfold out_en at h
    split at h
    · cases h; kernel_rfl
    · cases h; kernel_rfl
    · cases h
  · rintro Q hQ j hx
    refine ⟨(j + 1), ?_⟩
    have e : roundX Try.prog [] { Y := some (l, ((c - k + 1).toNat), (enV k p q)) } [] [] B_en (inv_en l c T lo hi n a b u v k p q j) (inv_en l c T lo hi n a b u v k p q ((j + 1))) (out_en l c T lo hi n a b u v k p q j) = (Tree.need [0 < 125] (Tree.branch (decide (k + (↑j : Int) ≤ siteF (↑(Int.toNat c) : Int) T lo hi (fwM (Int.toNat c) T lo hi n a b u v) 0)) (Tree.need [l = l, j < Int.toNat (c - k + (1 : Int)), [Value.agg { toList := [Value.int IntKind.i64 k, Value.int IntKind.i64 (k + (↑j : Int)), Value.int IntKind.i64 p, Value.int IntKind.i64 q] }] = [Value.agg { toList := [Value.int IntKind.i64 k, Value.int IntKind.i64 (k + (↑j : Int)), Value.int IntKind.i64 p, Value.int IntKind.i64 q] }]] (Tree.may True (Tree.need [inI64 (k + (↑j : Int) + (1 : Int))] (Tree.need [AV.fn (Fn.yield l) [] [] = AV.fn (Fn.yield l) [] [], AV.ro [iI k] = AV.ro [iI k], AV.ro [AV.roI [] 125 (fun k => siteF (↑(Int.toNat c) : Int) T lo hi (fwM (Int.toNat c) T lo hi n a b u v) k) 0] = AV.ro [AV.roI [] 125 (fun k => siteF (↑(Int.toNat c) : Int) T lo hi (fwM (Int.toNat c) T lo hi n a b u v) k) 0], AV.ro [iI p, iI q] = AV.ro [iI p, iI q], k + (↑j : Int) + (1 : Int) = k + (↑(j + 1) : Int), j + 1 = j + 1] (Tree.leaf AEx.normal))) (Tree.need [AV.fn (Fn.yield l) [] [] = AV.fn (Fn.yield l) [] [], AV.ro [iI k] = AV.ro [iI k], AV.ro [AV.roI [] 125 (fun k => siteF (↑(Int.toNat c) : Int) T lo hi (fwM (Int.toNat c) T lo hi n a b u v) k) 0] = AV.ro [AV.roI [] 125 (fun k => siteF (↑(Int.toNat c) : Int) T lo hi (fwM (Int.toNat c) T lo hi n a b u v) k) 0], AV.ro [iI p, iI q] = AV.ro [iI p, iI q]] (Tree.leaf AEx.ret)))) (Tree.need [AV.fn (Fn.yield l) [] [] = AV.fn (Fn.yield l) [] [], AV.ro [iI k] = AV.ro [iI k], AV.ro [AV.roI [] 125 (fun k => siteF (↑(Int.toNat c) : Int) T lo hi (fwM (Int.toNat c) T lo hi n a b u v) k) 0] = AV.ro [AV.roI [] 125 (fun k => siteF (↑(Int.toNat c) : Int) T lo hi (fwM (Int.toNat c) T lo hi n a b u v) k) 0], AV.ro [iI p, iI q] = AV.ro [iI p, iI q], j = Int.toNat (c - k + (1 : Int))] (Tree.leaf (AEx.exit 0))))) := by kernel_rfl
    rw [e]
    simp only [T_en, out_en, Tree.sat, Option.getD_some] at hQ
    have hQ1 : ∀ E, out_en l c T lo hi n a b u v k p q j (.exit 0) = some E → Q (.exit 0, E) := fun E hE => by cases hE; exact hQ.1 trivial
    have hQ2 : ∀ E, out_en l c T lo hi n a b u v k p q j .ret = some E → Q (.ret, E) := fun E hE => by cases hE; exact hQ.2
    simp only [Tree.sat, allP, true_and, and_true, decide_eq_true_eq, decide_eq_false_iff_not, inI64, Int.toNat_natCast, (show siteF ((c.toNat : Nat) : Int) T lo hi (fwM c.toNat T lo hi n a b u v) 0 = (c.toNat : Int) from rfl)]
    clear e hQ
    have hc : ((c.toNat : Nat) : Int) = c := by omega
    repeat' first | with_reducible apply And.intro | with_reducible intro _
    all_goals first | exact True.intro | omega | with_reducible rfl | exact hQ1 _ (by assumption) | exact hQ2 _ (by assumption)

set_option maxRecDepth 100000 in
theorem ends1_seq (c T lo hi : Int) (n : Nat) (a b u v : Nat → Int) (k p q : Int) (pre0 : 1 ≤ c ∧ c ≤ 10) (pre1 : 0 ≤ k ∧ k ≤ c) : SoundSeq Try.prog 93 [.ro [i k], .ro [siteB c T lo hi n a b u v], .ro [i p, i q]] (((c - k + 1).toNat)) (enV k p q) := by
  refine soundSeq_fin (G := []) (L := fun l => [LS_en l c T lo hi n a b u v k p q]) (SoundG.nil _) mixed ⟨_, Try.func93, by kernel_rfl, by kernel_rfl⟩ Try.func93 (show Try.f93.body = some (bodyOf Try.f93) by kernel_rfl) (by kernel_rfl) (fun l cx hX => one_loop (fun cj hcj => by
    have e : loopAt (bodyOf Try.f93) 0 = some (.loop B_en) := by kernel_rfl
    rw [e] at hcj; cases hcj
    exact en_lc l c T lo hi n a b u v k p q pre0 pre1 hX)) (t := fun l => (Tree.need [AV.fn (Fn.yield l) [] [] = AV.fn (Fn.yield l) [] [], AV.ro [iI k] = AV.ro [iI k], AV.ro [AV.roI [] 125 (fun k => siteF (↑(Int.toNat c) : Int) T lo hi (fwM (Int.toNat c) T lo hi n a b u v) k) 0] = AV.ro [AV.roI [] 125 (fun k => siteF (↑(Int.toNat c) : Int) T lo hi (fwM (Int.toNat c) T lo hi n a b u v) k) 0], AV.ro [iI p, iI q] = AV.ro [iI p, iI q], k = k + (↑(0 : Nat) : Int), 0 = 0] (Tree.may True (Tree.need [Int.toNat (c - k + (1 : Int)) = Int.toNat (c - k + (1 : Int))] (Tree.leaf PUnit.unit)) (Tree.leaf PUnit.unit)))) (fun l => by kernel_rfl) ?_
  intro l
  simp only [Tree.sat, allP, fitP, fitL, valEq, inI64, true_and, and_true, decide_eq_true_eq, decide_eq_false_iff_not, Int.natCast_zero, Int.toNat_natCast]
  repeat' first | with_reducible apply And.intro | with_reducible intro _
  all_goals first | exact True.intro | omega | with_reducible rfl | assumption

set_option maxRecDepth 100000 in
theorem cloneR_atF (n : Nat) (a b u v : Nat → Int) (pre0 : n ≤ 100000) : SoundFAt Try.prog 68 [rds n a b u v] 93 4 (n) (fun k => [i (a k), i (b k), i (u k), i (v k)]) := by
  refine soundFAt_fin (G := []) (X := { R := [], H := [] }) (L := []) (SoundG.nil _) (SoundX.of (SoundRL.nil _) (SoundHL.nil _)) mixed Try.func68 (show Try.f68.body = some (bodyOf Try.f68) by kernel_rfl) noLoopsS (t := (Tree.may (n = 0) (Tree.leaf none) (Tree.need [(0 + n) * 32 ≤ 140737488355328, ∀ (i : Nat), i < n → ∀ (a_2 : AV), a_2 ∈ [Ytmdeoobmeokmeaa.i (a i), Ytmdeoobmeokmeaa.i (b i), Ytmdeoobmeokmeaa.i (u i), Ytmdeoobmeokmeaa.i (v i)] → AV.one a_2 = true] (Tree.leaf (some (93, 4, 0 + n, catF 0 (fun x => []) fun k => [iI (a k), iI (b k), iI (u k), iI (v k)])))))) (by kernel_rfl) ?_ (fun _ _ => rfl)
  simp only [Tree.sat, allP, fitF, true_and]
  refine ⟨fun h => h, ⟨by omega, fun k hk x hm => one_of (k := 0) (sz := 4) (l := [i (a k), i (b k), i (u k), i (v k)]) (show x ∈ chunk 4 _ 0 from hm) (by simp [AV.one, Value.oneCell'])⟩, by omega, fun k hk => ⟨?_, ?_⟩⟩
  · show mergeL (decide (k < 0)) [] [i (a (k - 0)), i (b (k - 0)), i (u (k - 0)), i (v (k - 0))] = _
    rw [show decide (k < 0) = false by simp]
    rfl
  · intro x hm
    simp only [List.mem_cons, List.not_mem_nil, or_false] at hm
    rcases hm with rfl | rfl | rfl | rfl <;> exact True.intro


def F_cloneR : FSpec := fun l => match l with
  | [.lst 4 n f] => some ([isRec 4 n f, n ≤ 100000], 93, 4, n, fun k => [i (col 0 f k), i (col 1 f k), i (col 2 f k), i (col 3 f k)])
  | _ => none


theorem SoundFAt.same {P : Program} {f : FuncId} {avs avs' : List AV} {T : TypeId} {sz n : Nat} {g : Nat → List AV} (h : SoundFAt P f avs' T sz n g) (k : Sames avs avs') : SoundFAt P f avs T sz n g := fun e w args hro hidf hr => h e w args hro (k.idf hidf) (k.rep hr)
theorem cloneR_okF : Enters Try.prog 68 ∧ ∀ avs ns T sz n g, F_cloneR avs = some (ns, T, sz, n, g) → (∀ q ∈ ns, q) → SoundFAt Try.prog 68 avs T sz n g := by
  refine ⟨⟨_, Try.func68, by kernel_rfl, by kernel_rfl⟩, ?_⟩
  intro avs ns T sz n g h hn
  unfold F_cloneR at h
  split at h
  · rename_i m f
    obtain ⟨rfl, rfl, rfl, rfl, rfl⟩ : _ ∧ _ ∧ _ ∧ _ ∧ _ := by simpa using h
    have hr : isRec 4 m f := hn _ (by simp)
    exact SoundFAt.same (cloneR_atF m (col 0 f) (col 1 f) (col 2 f) (col 3 f) (hn _ (by simp))) (.cons (.lst 4 m _ _ hr) .nil)
  · cases h


/-- One reading more. -/
def exL (n : Nat) (f : Nat → Int) (x : Int) (j : Nat) : Int := if j < n then f j else x
def nwO (c T lo hi : Int) (n : Nat) (a b u v : Nat → Int) (p q : Int) (k j : Nat) : Bool := okB c T lo hi (n + 1) (exL n a k) (exL n b ((k : Int) + j)) (exL n u p) (exL n v q)
def nwD (c T lo hi : Int) (n : Nat) (a b u v : Nat → Int) (p q : Int) (k j : Nat) : Int := dbF (sfB c T lo hi (n + 1) (exL n a k) (exL n b ((k : Int) + j)) (exL n u p) (exL n v q)) (c.toNat + 1)
/-- The worst doubt behind so many ends of a thread from a mark. -/
def nwW (c T lo hi : Int) (n : Nat) (a b u v : Nat → Int) (p q : Int) (k : Nat) : Nat → Int
  | 0 => 0
  | j + 1 => if nwO c T lo hi n a b u v p q k j then max (nwW c T lo hi n a b u v p q k j) (nwD c T lo hi n a b u v p q k j) else nwW c T lo hi n a b u v p q k j
def nxT (c T lo hi : Int) (n : Nat) (a b u v : Nat → Int) (p q : Int) : Nat → Int × Int
  | 0 => (0, 0)
  | k + 1 => if decide (k = 0) || decide (nwW c T lo hi n a b u v p q k (c - k + 1).toNat < (nxT c T lo hi n a b u v p q k).2) then ((k : Int), min (nwW c T lo hi n a b u v p q k (c - k + 1).toNat) (dbF (sfB c T lo hi n a b u v) (c.toNat + 1))) else nxT c T lo hi n a b u v p q k
def nxM (c T lo hi : Int) (n : Nat) (a b u v : Nat → Int) (p q : Int) (k : Nat) : Int := (nxT c T lo hi n a b u v p q k).1
def nxD (c T lo hi : Int) (n : Nat) (a b u v : Nat → Int) (p q : Int) (k : Nat) : Int := (nxT c T lo hi n a b u v p q k).2


theorem rdM_congr {c : Nat} {T lo hi : Int} {a b u v a' b' u' v' : Nat → Int} : ∀ {n : Nat}, (∀ j, j < n → a j = a' j ∧ b j = b' j ∧ u j = u' j ∧ v j = v' j) → rdM c T lo hi a b u v n = rdM c T lo hi a' b' u' v' n
  | 0, _ => rfl
  | n + 1, h => by
    obtain ⟨h1, h2, h3, h4⟩ := h n (by omega)
    show rdS c (rdM c T lo hi a b u v n) _ _ _ _ = rdS c (rdM c T lo hi a' b' u' v' n) _ _ _ _
    rw [rdM_congr (fun j hj => h j (by omega)), h1, h2, h3, h4]
theorem fwM_congr {c : Nat} {T lo hi : Int} {a b u v a' b' u' v' : Nat → Int} {n : Nat} (h : ∀ j, j < n → a j = a' j ∧ b j = b' j ∧ u j = u' j ∧ v j = v' j) : fwM c T lo hi n a b u v = fwM c T lo hi n a' b' u' v' := by
  unfold fwM
  rw [rdM_congr h]
theorem okR_congr {c : Nat} {T lo hi : Int} {a b u v a' b' u' v' : Nat → Int} {n : Nat} (h : ∀ j, j < n → a j = a' j ∧ b j = b' j ∧ u j = u' j ∧ v j = v' j) : okR c T lo hi n a b u v = okR c T lo hi n a' b' u' v' := by
  unfold okR
  rw [fwM_congr h]
theorem catF4x {n y : Nat} {a b u v : Nat → Int} {x1 x2 x3 x4 : Int} (h : y < n + 1) : catF n (fun k => [i (a k), i (b k), i (u k), i (v k)]) (chunk 4 [i x1, i x2, i x3, i x4]) y = [i (exL n a x1 y), i (exL n b x2 y), i (exL n u x3 y), i (exL n v x4 y)] := by
  have e : y - n = 0 := by omega
  show mergeL (decide (y < n)) [i (a y), i (b y), i (u y), i (v y)] (chunk 4 [i x1, i x2, i x3, i x4] (y - n)) = _
  rw [e]
  unfold exL
  by_cases hj : y < n
  · rw [decide_eq_true hj, if_pos hj, if_pos hj, if_pos hj, if_pos hj]
    rfl
  · rw [decide_eq_false hj, if_neg hj, if_neg hj, if_neg hj, if_neg hj]
    rfl
theorem fw_bdx {c : Int} {T lo hi : Int} {n : Nat} {a b u v : Nat → Int} (hc : 1 ≤ c ∧ c ≤ 10) (hb : 1 ≤ lo ∧ lo ≤ hi ∧ hi ≤ 200 ∧ 1 ≤ T ∧ T ≤ 2000) (hr : allI (fun k => rdB c (a k) (b k) (u k) (v k)) n = true) (x y : Nat) : -1000000000000 ≤ fwB c T lo hi n a b u v x y ∧ fwB c T lo hi n a b u v x y ≤ 2000 := by
  have hl := rdM_lb (c := c.toNat) (a := a) (b := b) hb (fun j hj => (rdB_v (allI_iff.1 hr j hj)).2.2) n (Nat.le_refl n)
  have h1 := LB_O (c := c.toNat) hl (c.toNat + 1) x y
  have h2 := pow6 c.toNat (by omega)
  rw [Int.pow_succ] at h1
  unfold fwB fwM
  omega
theorem exL_rd {c : Int} {n : Nat} {a b u v : Nat → Int} {x1 x2 x3 x4 : Int} (h : allI (fun k => rdB c (a k) (b k) (u k) (v k)) n = true) (hx : rdB c x1 x2 x3 x4 = true) : allI (fun k => rdB c (exL n a x1 k) (exL n b x2 k) (exL n u x3 k) (exL n v x4 k)) (n + 1) = true := by
  refine allI_iff.2 fun j hj => ?_
  unfold exL
  by_cases hn : j < n
  · rw [if_pos hn, if_pos hn, if_pos hn, if_pos hn]
    exact allI_iff.1 h j hn
  · rw [if_neg hn, if_neg hn, if_neg hn, if_neg hn]
    exact hx
theorem rdB_of {c a b u v : Int} (h : (0 ≤ a ∧ a ≤ c - 1) ∧ (a ≤ b ∧ b ≤ c) ∧ 0 ≤ u ∧ u ≤ v ∧ v ≤ 2000) : rdB c a b u v = true := by
  simp only [rdB, Bool.and_eq_true, bt_iff, insB_iff]
  omega
theorem db_bdx {c : Int} {T lo hi : Int} {n : Nat} {a b u v : Nat → Int} (hc : 1 ≤ c ∧ c ≤ 10) (hb : 1 ≤ lo ∧ lo ≤ hi ∧ hi ≤ 200 ∧ 1 ≤ T ∧ T ≤ 2000) (hr : allI (fun k => rdB c (a k) (b k) (u k) (v k)) n = true) : 0 ≤ dbF (sfB c T lo hi n a b u v) (c.toNat + 1) ∧ dbF (sfB c T lo hi n a b u v) (c.toNat + 1) ≤ 2000000000000 := by
  refine dbF_bd (c := c.toNat) (fun k hk => ?_) (c.toNat + 1) (Nat.le_refl _)
  have h2 := fw_bdx hc hb hr k 0
  have h3 := fw_bdx hc hb hr 0 k
  rw [sfB_low, sfB_high _ _ _ _ _ _ _ _ _ (by omega)]
  omega
noncomputable def E_nx (c T lo hi : Int) (n : Nat) (a b u v : Nat → Int) (p q : Int) : St := (some { σ := [.agg [i c, i T, i lo, i hi], rds n a b u v, .agg [i p, i q], .ptr 0 0, .ptr 1 0, .ptr 2 0, i 0, i 0, i 0, siteB c T lo hi n a b u v, .top, .top, .top, .top, .top, .top, .top, .top, .top, .top, .top, .top, .top, .top, .top, .top, .top, i c, .top, .top, .top, .top, .top, .top, .top, .top, .top, .top, .top, .top, .top, .top, .top, .top, .top, .top, .top, .top, .top, .top, .top, .top, .top, .top, .top, .top, .top, .top, .top, .top, .top, .top, .top, .top, .top, .top, .top, .top], m := [(2, .cells 32 [i p, i q]), (1, .cells 36 [rds n a b u v]), (0, .cells 34 [i c, i T, i lo, i hi])], nx := 21 } : Option St).getD { σ := [], m := [], nx := 0 }
noncomputable def B_nx : Code := loopBody (loopAt (bodyOf Try.f21) 0)
noncomputable def inv_nx (c T lo hi : Int) (n : Nat) (a b u v : Nat → Int) (p q : Int) (k : Nat) : St := { σ := ovrS [(6, i (nxM c T lo hi n a b u v p q k)), (7, i (nxD c T lo hi n a b u v p q k)), (28, i k)] (E_nx c T lo hi n a b u v p q).σ, m := (E_nx c T lo hi n a b u v p q).m, nx := (E_nx c T lo hi n a b u v p q).nx }
noncomputable def out_nx (c T lo hi : Int) (n : Nat) (a b u v : Nat → Int) (p q : Int) (k : Nat) : AEx → Option St := fun ex => match ex with
  | .exit 0 => some { σ := ovrS [(6, i (nxM c T lo hi n a b u v p q c.toNat)), (7, i (nxD c T lo hi n a b u v p q c.toNat)), (28, i c)] (E_nx c T lo hi n a b u v p q).σ, m := (E_nx c T lo hi n a b u v p q).m, nx := (E_nx c T lo hi n a b u v p q).nx }
  | _ => none
noncomputable def T_nx (c T lo hi : Int) (n : Nat) (a b u v : Nat → Int) (p q : Int) : CT := .leaf (.exit 0, ( out_nx c T lo hi n a b u v p q 0 (.exit 0)).getD (E_nx c T lo hi n a b u v p q))
noncomputable def LS_nx (c T lo hi : Int) (n : Nat) (a b u v : Nat → Int) (p q : Int) : LSpec := normSp [] (sumL (inv_nx c T lo hi n a b u v p q (0)) (T_nx c T lo hi n a b u v p q))
noncomputable def E_nr (c T lo hi : Int) (n : Nat) (a b u v : Nat → Int) (p q : Int) (k : Nat) : St := (some
  {
    σ :=
      [AV.agg
          [AV.x (Value.int IntKind.i64 c), AV.x (Value.int IntKind.i64 T), AV.x (Value.int IntKind.i64 lo),
            AV.x (Value.int IntKind.i64 hi)],
        AV.lst (4 : Nat) n fun k =>
          [AV.x (Value.int IntKind.i64 (a k)), AV.x (Value.int IntKind.i64 (b k)), AV.x (Value.int IntKind.i64 (u k)),
            AV.x (Value.int IntKind.i64 (v k))],
        AV.agg [AV.x (Value.int IntKind.i64 p), AV.x (Value.int IntKind.i64 q)], AV.ptr (0 : Nat) (0 : Nat),
        AV.ptr (1 : Nat) (0 : Nat), AV.ptr (2 : Nat) (0 : Nat),
        AV.x (Value.int IntKind.i64 (nxM c T lo hi n a b u v p q k)),
        AV.x (Value.int IntKind.i64 (nxD c T lo hi n a b u v p q k)), AV.x (Value.int IntKind.i64 (0 : Int)),
        AV.roI [] (125 : Nat) (fun k => siteF (↑(Int.toNat c) : Int) T lo hi (fwM (Int.toNat c) T lo hi n a b u v) k)
          (0 : Nat),
        AV.x (Value.int IntKind.i64 (↑k : Int)), AV.ptr (24 : Nat) (0 : Nat), AV.top, AV.top, AV.top, AV.top, AV.top,
        AV.top, AV.top, AV.top, AV.top, AV.top, AV.top, AV.top, AV.top, AV.top, AV.top, AV.x (Value.int IntKind.i64 c),
        AV.x (Value.int IntKind.i64 (↑k : Int)), AV.top, AV.top, AV.top, AV.top, AV.top,
        AV.fn (Fn.func (93 : Nat)) []
          [AV.ro [AV.x (Value.int IntKind.i64 (↑k : Int))],
            AV.ro
              [AV.roI [] (125 : Nat)
                  (fun k => siteF (↑(Int.toNat c) : Int) T lo hi (fwM (Int.toNat c) T lo hi n a b u v) k) (0 : Nat)],
            AV.ro [AV.x (Value.int IntKind.i64 p), AV.x (Value.int IntKind.i64 q)]],
        AV.top, AV.top, AV.top, AV.top, AV.top, AV.top, AV.top, AV.top, AV.top, AV.top, AV.top, AV.top, AV.top, AV.top,
        AV.top, AV.top, AV.top, AV.top, AV.top, AV.top, AV.top, AV.top, AV.top, AV.top, AV.top, AV.top, AV.top, AV.top,
        AV.top, AV.top, AV.top, AV.top, AV.top],
    m :=
      [((24 : Nat), Res.cells (3 : Nat) [AV.x (Value.int IntKind.i64 (0 : Int))]),
        ((2 : Nat), Res.cells (32 : Nat) [AV.x (Value.int IntKind.i64 p), AV.x (Value.int IntKind.i64 q)]),
        ((1 : Nat),
          Res.cells (36 : Nat)
            [AV.lst (4 : Nat) n fun k =>
                [AV.x (Value.int IntKind.i64 (a k)), AV.x (Value.int IntKind.i64 (b k)),
                  AV.x (Value.int IntKind.i64 (u k)), AV.x (Value.int IntKind.i64 (v k))]]),
        ((0 : Nat),
          Res.cells (34 : Nat)
            [AV.x (Value.int IntKind.i64 c), AV.x (Value.int IntKind.i64 T), AV.x (Value.int IntKind.i64 lo),
              AV.x (Value.int IntKind.i64 hi)])],
    nx := (30 : Nat) } : Option St).getD { σ := [], m := [], nx := 0 }
def rfF : Option Code → Operand
  | some (.rangeFunc f _ _ _) => f
  | _ => .const .nilFunc
def rfPs : Option Code → Array Nat
  | some (.rangeFunc _ ps _ _) => ps
  | _ => #[]
def rfAs : Option Code → Code
  | some (.rangeFunc _ _ a _) => a
  | _ => .skip
def rfBd : Option Code → Code
  | some (.rangeFunc _ _ _ b) => b
  | _ => .skip
noncomputable def A_nr : Code := rfAs (loopAt (loopBody (loopAt (bodyOf Try.f21) 0)) 0)
noncomputable def B_nr : Code := rfBd (loopAt (loopBody (loopAt (bodyOf Try.f21) 0)) 0)
noncomputable def inv_nr (c T lo hi : Int) (n : Nat) (a b u v : Nat → Int) (p q : Int) (k : Nat) (j : Nat) : St := { σ := ovrS [] (E_nr c T lo hi n a b u v p q k).σ, m := [(24, .cells 3 [i (nwW c T lo hi n a b u v p q k j)]), (2, .cells 32 [i p, i q]), (1, .cells 36 [rds n a b u v]), (0, .cells 34 [i c, i T, i lo, i hi])], nx := (E_nr c T lo hi n a b u v p q k).nx }
noncomputable def out_nr (c T lo hi : Int) (n : Nat) (a b u v : Nat → Int) (p q : Int) (k : Nat) (j : Nat) : AEx → Option St := fun ex => match ex with
  | .normal => some { σ := ovrS [] (E_nr c T lo hi n a b u v p q k).σ, m := [(24, .cells 3 [i (nwW c T lo hi n a b u v p q k (c - k + 1).toNat)]), (2, .cells 32 [i p, i q]), (1, .cells 36 [rds n a b u v]), (0, .cells 34 [i c, i T, i lo, i hi])], nx := (E_nr c T lo hi n a b u v p q k).nx }
  | _ => none
noncomputable def T_nr (c T lo hi : Int) (n : Nat) (a b u v : Nat → Int) (p q : Int) (k : Nat) : CT := .leaf (.normal,  inv_nr c T lo hi n a b u v p q k (c - k + 1).toNat)
noncomputable def LS_nr (c T lo hi : Int) (n : Nat) (a b u v : Nat → Int) (p q : Int) (k : Nat) : LSpec := normSp [] (sumL (inv_nr c T lo hi n a b u v p q k (0)) (T_nr c T lo hi n a b u v p q k))
set_option maxRecDepth 100000 in
theorem nr_ln (c T lo hi : Int) (n : Nat) (a b u v : Nat → Int) (p q : Int) (k : Nat) (pre0 : flt c T lo hi n a b u v = 0) (pre1 : okB c T lo hi n a b u v = true) (pre2 : 0 ≤ p ∧ p ≤ q ∧ q ≤ 2000) (pre3 : (k : Int) < c) : LSoundN Try.prog (.rangeFunc (rfF (loopAt (loopBody (loopAt (bodyOf Try.f21) 0)) 0)) (rfPs (loopAt (loopBody (loopAt (bodyOf Try.f21) 0)) 0)) A_nr B_nr) (LS_nr c T lo hi n a b u v p q k) := by
  refine range_rounds [] (G := [(70, S_doubt), (69, S_greatest)]) (X := { R := [(66, S_ends)], H := [], C := [], F := [(68, F_cloneR)], D := [(67, C_read)] }) (L := []) (SoundG.cons doubt_ok (SoundG.cons greatest_ok (SoundG.nil _))) (SoundX.ofF (SoundRL.cons ends_okR (SoundRL.nil _)) (SoundHL.nil _) (SoundCL.nil _) (SoundFL.cons cloneR_okF (SoundFL.nil _)) (SoundDL.cons read_okD (SoundDL.nil _))) mixed noLoops (V := Nat) (inv_nr c T lo hi n a b u v p q k) (fun j => j ≤ (c - k + 1).toNat) (fun j => j) (out_nr c T lo hi n a b u v p q k) (x0 := 0) (by simp) rfl ?_ ?_ ?_ ?_ (g := 93) (caps := [.ro [i k], .ro [siteB c T lo hi n a b u v], .ro [i p, i q]]) (by kernel_rfl) (by kernel_rfl) (ends1_seq c T lo hi n a b u v k p q (tube_bd (flt_iff.1 pre0).1).1 (by omega)) (fun _ => rfl) ?_
  · rintro j
    kernel_rfl
  · rintro j y E h
    unfold out_nr at h
    split at h
    · cases h; kernel_rfl
    · cases h
  · rintro j
    rfl
  · rintro j y E h
    unfold out_nr at h
    split at h
    · cases h; rfl
    · cases h
  · rintro Q hQ j hx
    refine ⟨fun hlt => ⟨(j + 1), rfl, ?_⟩, fun hend => ?_⟩
    · have e : roundR Try.prog [(70, S_doubt), (69, S_greatest)] { R := [(66, S_ends)], H := [], C := [], F := [(68, F_cloneR)], D := [(67, C_read)] } [] [] (rfPs (loopAt (loopBody (loopAt (bodyOf Try.f21) 0)) 0)).toList ((enV k p q) (j)) A_nr B_nr (inv_nr c T lo hi n a b u v p q k j) (inv_nr c T lo hi n a b u v p q k ((j + 1))) (out_nr c T lo hi n a b u v p q k j) = (Tree.need [isRec 4 n fun k => [i (a k), i (b k), i (u k), i (v k)], n ≤ 100000] (Tree.need [(n + 1) * 32 ≤ 140737488355328, ∀ (i : Nat), i < 1 → ∀ (a : AV), a ∈ chunk 4 [iI (↑k : Int), iI ((↑k : Int) + (↑j : Int)), iI p, iI q] i → AV.one a = true] (Tree.need [isRec 4 (n + 1) (catF n (fun k => [i (a k), i (b k), i (u k), i (v k)]) (chunk 4 [iI (↑k : Int), iI ((↑k : Int) + (↑j : Int)), iI p, iI q])), (1 : Int) ≤ c ∧ c ≤ (10 : Int), (1 : Int) ≤ lo ∧ lo ≤ hi ∧ hi ≤ (200 : Int) ∧ (1 : Int) ≤ T ∧ T ≤ (2000 : Int), n + 1 ≤ 1000, (allI (fun k_1 => rdB c (col 0 (catF n (fun k => [i (a k), i (b k), i (u k), i (v k)]) (chunk 4 [iI (↑k : Int), iI ((↑k : Int) + (↑j : Int)), iI p, iI q])) k_1) (col 1 (catF n (fun k => [i (a k), i (b k), i (u k), i (v k)]) (chunk 4 [iI (↑k : Int), iI ((↑k : Int) + (↑j : Int)), iI p, iI q])) k_1) (col 2 (catF n (fun k => [i (a k), i (b k), i (u k), i (v k)]) (chunk 4 [iI (↑k : Int), iI ((↑k : Int) + (↑j : Int)), iI p, iI q])) k_1) (col 3 (catF n (fun k => [i (a k), i (b k), i (u k), i (v k)]) (chunk 4 [iI (↑k : Int), iI ((↑k : Int) + (↑j : Int)), iI p, iI q])) k_1)) n && rdB c (col 0 (catF n (fun k => [i (a k), i (b k), i (u k), i (v k)]) (chunk 4 [iI (↑k : Int), iI ((↑k : Int) + (↑j : Int)), iI p, iI q])) n) (col 1 (catF n (fun k => [i (a k), i (b k), i (u k), i (v k)]) (chunk 4 [iI (↑k : Int), iI ((↑k : Int) + (↑j : Int)), iI p, iI q])) n) (col 2 (catF n (fun k => [i (a k), i (b k), i (u k), i (v k)]) (chunk 4 [iI (↑k : Int), iI ((↑k : Int) + (↑j : Int)), iI p, iI q])) n) (col 3 (catF n (fun k => [i (a k), i (b k), i (u k), i (v k)]) (chunk 4 [iI (↑k : Int), iI ((↑k : Int) + (↑j : Int)), iI p, iI q])) n)) = true] (Tree.branch (okR (Int.toNat c) T lo hi (n + 1) (col 0 (catF n (fun k => [i (a k), i (b k), i (u k), i (v k)]) (chunk 4 [iI (↑k : Int), iI ((↑k : Int) + (↑j : Int)), iI p, iI q]))) (col 1 (catF n (fun k => [i (a k), i (b k), i (u k), i (v k)]) (chunk 4 [iI (↑k : Int), iI ((↑k : Int) + (↑j : Int)), iI p, iI q]))) (col 2 (catF n (fun k => [i (a k), i (b k), i (u k), i (v k)]) (chunk 4 [iI (↑k : Int), iI ((↑k : Int) + (↑j : Int)), iI p, iI q]))) (col 3 (catF n (fun k => [i (a k), i (b k), i (u k), i (v k)]) (chunk 4 [iI (↑k : Int), iI ((↑k : Int) + (↑j : Int)), iI p, iI q])))) (Tree.need [(0 : Int) ≤ siteF (↑(Int.toNat c) : Int) T lo hi (fwM (Int.toNat c) T lo hi (n + 1) (col 0 (catF n (fun k => [i (a k), i (b k), i (u k), i (v k)]) (chunk 4 [iI (↑k : Int), iI ((↑k : Int) + (↑j : Int)), iI p, iI q]))) (col 1 (catF n (fun k => [i (a k), i (b k), i (u k), i (v k)]) (chunk 4 [iI (↑k : Int), iI ((↑k : Int) + (↑j : Int)), iI p, iI q]))) (col 2 (catF n (fun k => [i (a k), i (b k), i (u k), i (v k)]) (chunk 4 [iI (↑k : Int), iI ((↑k : Int) + (↑j : Int)), iI p, iI q]))) (col 3 (catF n (fun k => [i (a k), i (b k), i (u k), i (v k)]) (chunk 4 [iI (↑k : Int), iI ((↑k : Int) + (↑j : Int)), iI p, iI q])))) 0 ∧ siteF (↑(Int.toNat c) : Int) T lo hi (fwM (Int.toNat c) T lo hi (n + 1) (col 0 (catF n (fun k => [i (a k), i (b k), i (u k), i (v k)]) (chunk 4 [iI (↑k : Int), iI ((↑k : Int) + (↑j : Int)), iI p, iI q]))) (col 1 (catF n (fun k => [i (a k), i (b k), i (u k), i (v k)]) (chunk 4 [iI (↑k : Int), iI ((↑k : Int) + (↑j : Int)), iI p, iI q]))) (col 2 (catF n (fun k => [i (a k), i (b k), i (u k), i (v k)]) (chunk 4 [iI (↑k : Int), iI ((↑k : Int) + (↑j : Int)), iI p, iI q]))) (col 3 (catF n (fun k => [i (a k), i (b k), i (u k), i (v k)]) (chunk 4 [iI (↑k : Int), iI ((↑k : Int) + (↑j : Int)), iI p, iI q])))) 0 ≤ (10 : Int), ∀ (k_1 : Nat), k_1 ≤ Int.toNat (siteF (↑(Int.toNat c) : Int) T lo hi (fwM (Int.toNat c) T lo hi (n + 1) (col 0 (catF n (fun k => [i (a k), i (b k), i (u k), i (v k)]) (chunk 4 [iI (↑k : Int), iI ((↑k : Int) + (↑j : Int)), iI p, iI q]))) (col 1 (catF n (fun k => [i (a k), i (b k), i (u k), i (v k)]) (chunk 4 [iI (↑k : Int), iI ((↑k : Int) + (↑j : Int)), iI p, iI q]))) (col 2 (catF n (fun k => [i (a k), i (b k), i (u k), i (v k)]) (chunk 4 [iI (↑k : Int), iI ((↑k : Int) + (↑j : Int)), iI p, iI q]))) (col 3 (catF n (fun k => [i (a k), i (b k), i (u k), i (v k)]) (chunk 4 [iI (↑k : Int), iI ((↑k : Int) + (↑j : Int)), iI p, iI q])))) 0) → ((-1000000000000 : Int) ≤ siteF (↑(Int.toNat c) : Int) T lo hi (fwM (Int.toNat c) T lo hi (n + 1) (col 0 (catF n (fun k => [i (a k), i (b k), i (u k), i (v k)]) (chunk 4 [iI (↑k : Int), iI ((↑k : Int) + (↑j : Int)), iI p, iI q]))) (col 1 (catF n (fun k => [i (a k), i (b k), i (u k), i (v k)]) (chunk 4 [iI (↑k : Int), iI ((↑k : Int) + (↑j : Int)), iI p, iI q]))) (col 2 (catF n (fun k => [i (a k), i (b k), i (u k), i (v k)]) (chunk 4 [iI (↑k : Int), iI ((↑k : Int) + (↑j : Int)), iI p, iI q]))) (col 3 (catF n (fun k => [i (a k), i (b k), i (u k), i (v k)]) (chunk 4 [iI (↑k : Int), iI ((↑k : Int) + (↑j : Int)), iI p, iI q])))) (k_1 * 11 + 4) ∧ siteF (↑(Int.toNat c) : Int) T lo hi (fwM (Int.toNat c) T lo hi (n + 1) (col 0 (catF n (fun k => [i (a k), i (b k), i (u k), i (v k)]) (chunk 4 [iI (↑k : Int), iI ((↑k : Int) + (↑j : Int)), iI p, iI q]))) (col 1 (catF n (fun k => [i (a k), i (b k), i (u k), i (v k)]) (chunk 4 [iI (↑k : Int), iI ((↑k : Int) + (↑j : Int)), iI p, iI q]))) (col 2 (catF n (fun k => [i (a k), i (b k), i (u k), i (v k)]) (chunk 4 [iI (↑k : Int), iI ((↑k : Int) + (↑j : Int)), iI p, iI q]))) (col 3 (catF n (fun k => [i (a k), i (b k), i (u k), i (v k)]) (chunk 4 [iI (↑k : Int), iI ((↑k : Int) + (↑j : Int)), iI p, iI q])))) (k_1 * 11 + 4) ≤ (1000000000000 : Int)) ∧ (-1000000000000 : Int) ≤ siteF (↑(Int.toNat c) : Int) T lo hi (fwM (Int.toNat c) T lo hi (n + 1) (col 0 (catF n (fun k => [i (a k), i (b k), i (u k), i (v k)]) (chunk 4 [iI (↑k : Int), iI ((↑k : Int) + (↑j : Int)), iI p, iI q]))) (col 1 (catF n (fun k => [i (a k), i (b k), i (u k), i (v k)]) (chunk 4 [iI (↑k : Int), iI ((↑k : Int) + (↑j : Int)), iI p, iI q]))) (col 2 (catF n (fun k => [i (a k), i (b k), i (u k), i (v k)]) (chunk 4 [iI (↑k : Int), iI ((↑k : Int) + (↑j : Int)), iI p, iI q]))) (col 3 (catF n (fun k => [i (a k), i (b k), i (u k), i (v k)]) (chunk 4 [iI (↑k : Int), iI ((↑k : Int) + (↑j : Int)), iI p, iI q])))) (k_1 + 4) ∧ siteF (↑(Int.toNat c) : Int) T lo hi (fwM (Int.toNat c) T lo hi (n + 1) (col 0 (catF n (fun k => [i (a k), i (b k), i (u k), i (v k)]) (chunk 4 [iI (↑k : Int), iI ((↑k : Int) + (↑j : Int)), iI p, iI q]))) (col 1 (catF n (fun k => [i (a k), i (b k), i (u k), i (v k)]) (chunk 4 [iI (↑k : Int), iI ((↑k : Int) + (↑j : Int)), iI p, iI q]))) (col 2 (catF n (fun k => [i (a k), i (b k), i (u k), i (v k)]) (chunk 4 [iI (↑k : Int), iI ((↑k : Int) + (↑j : Int)), iI p, iI q]))) (col 3 (catF n (fun k => [i (a k), i (b k), i (u k), i (v k)]) (chunk 4 [iI (↑k : Int), iI ((↑k : Int) + (↑j : Int)), iI p, iI q])))) (k_1 + 4) ≤ (1000000000000 : Int)] (Tree.need [AV.agg [iI c, iI T, iI lo, iI hi] = AV.agg [iI c, iI T, iI lo, iI hi], (AV.lst 4 n fun k => [iI (a k), iI (b k), iI (u k), iI (v k)]) = AV.lst 4 n fun k => [iI (a k), iI (b k), iI (u k), iI (v k)], AV.agg [iI p, iI q] = AV.agg [iI p, iI q], AV.ptr 0 0 = AV.ptr 0 0, AV.ptr 1 0 = AV.ptr 1 0, AV.ptr 2 0 = AV.ptr 2 0, nxM c T lo hi n a b u v p q k = nxM c T lo hi n a b u v p q k, nxD c T lo hi n a b u v p q k = nxD c T lo hi n a b u v p q k, (0 : Int) = (0 : Int), AV.roI [] 125 (fun k => siteF (↑(Int.toNat c) : Int) T lo hi (fwM (Int.toNat c) T lo hi n a b u v) k) 0 = AV.roI [] 125 (fun k => siteF (↑(Int.toNat c) : Int) T lo hi (fwM (Int.toNat c) T lo hi n a b u v) k) 0, (↑k : Int) = (↑k : Int), AV.ptr 24 0 = AV.ptr 24 0, c = c, (↑k : Int) = (↑k : Int), AV.fn (Fn.func 93) [] [AV.ro [iI (↑k : Int)], AV.ro [AV.roI [] 125 (fun k => siteF (↑(Int.toNat c) : Int) T lo hi (fwM (Int.toNat c) T lo hi n a b u v) k) 0], AV.ro [iI p, iI q]] = AV.fn (Fn.func 93) [] [AV.ro [iI (↑k : Int)], AV.ro [AV.roI [] 125 (fun k => siteF (↑(Int.toNat c) : Int) T lo hi (fwM (Int.toNat c) T lo hi n a b u v) k) 0], AV.ro [iI p, iI q]], max (nwW c T lo hi n a b u v p q k j) (dbF (siteF (↑(Int.toNat c) : Int) T lo hi (fwM (Int.toNat c) T lo hi (n + 1) (col 0 (catF n (fun k => [i (a k), i (b k), i (u k), i (v k)]) (chunk 4 [iI (↑k : Int), iI ((↑k : Int) + (↑j : Int)), iI p, iI q]))) (col 1 (catF n (fun k => [i (a k), i (b k), i (u k), i (v k)]) (chunk 4 [iI (↑k : Int), iI ((↑k : Int) + (↑j : Int)), iI p, iI q]))) (col 2 (catF n (fun k => [i (a k), i (b k), i (u k), i (v k)]) (chunk 4 [iI (↑k : Int), iI ((↑k : Int) + (↑j : Int)), iI p, iI q]))) (col 3 (catF n (fun k => [i (a k), i (b k), i (u k), i (v k)]) (chunk 4 [iI (↑k : Int), iI ((↑k : Int) + (↑j : Int)), iI p, iI q]))))) (Int.toNat (siteF (↑(Int.toNat c) : Int) T lo hi (fwM (Int.toNat c) T lo hi (n + 1) (col 0 (catF n (fun k => [i (a k), i (b k), i (u k), i (v k)]) (chunk 4 [iI (↑k : Int), iI ((↑k : Int) + (↑j : Int)), iI p, iI q]))) (col 1 (catF n (fun k => [i (a k), i (b k), i (u k), i (v k)]) (chunk 4 [iI (↑k : Int), iI ((↑k : Int) + (↑j : Int)), iI p, iI q]))) (col 2 (catF n (fun k => [i (a k), i (b k), i (u k), i (v k)]) (chunk 4 [iI (↑k : Int), iI ((↑k : Int) + (↑j : Int)), iI p, iI q]))) (col 3 (catF n (fun k => [i (a k), i (b k), i (u k), i (v k)]) (chunk 4 [iI (↑k : Int), iI ((↑k : Int) + (↑j : Int)), iI p, iI q])))) 0) + 1)) = nwW c T lo hi n a b u v p q k (j + 1), p = p, q = q, (AV.lst 4 n fun k => [iI (a k), iI (b k), iI (u k), iI (v k)]) = AV.lst 4 n fun k => [iI (a k), iI (b k), iI (u k), iI (v k)], c = c, T = T, lo = lo, hi = hi] (Tree.leaf AEx.normal))) (Tree.need [AV.agg [iI c, iI T, iI lo, iI hi] = AV.agg [iI c, iI T, iI lo, iI hi], (AV.lst 4 n fun k => [iI (a k), iI (b k), iI (u k), iI (v k)]) = AV.lst 4 n fun k => [iI (a k), iI (b k), iI (u k), iI (v k)], AV.agg [iI p, iI q] = AV.agg [iI p, iI q], AV.ptr 0 0 = AV.ptr 0 0, AV.ptr 1 0 = AV.ptr 1 0, AV.ptr 2 0 = AV.ptr 2 0, nxM c T lo hi n a b u v p q k = nxM c T lo hi n a b u v p q k, nxD c T lo hi n a b u v p q k = nxD c T lo hi n a b u v p q k, (0 : Int) = (0 : Int), AV.roI [] 125 (fun k => siteF (↑(Int.toNat c) : Int) T lo hi (fwM (Int.toNat c) T lo hi n a b u v) k) 0 = AV.roI [] 125 (fun k => siteF (↑(Int.toNat c) : Int) T lo hi (fwM (Int.toNat c) T lo hi n a b u v) k) 0, (↑k : Int) = (↑k : Int), AV.ptr 24 0 = AV.ptr 24 0, c = c, (↑k : Int) = (↑k : Int), AV.fn (Fn.func 93) [] [AV.ro [iI (↑k : Int)], AV.ro [AV.roI [] 125 (fun k => siteF (↑(Int.toNat c) : Int) T lo hi (fwM (Int.toNat c) T lo hi n a b u v) k) 0], AV.ro [iI p, iI q]] = AV.fn (Fn.func 93) [] [AV.ro [iI (↑k : Int)], AV.ro [AV.roI [] 125 (fun k => siteF (↑(Int.toNat c) : Int) T lo hi (fwM (Int.toNat c) T lo hi n a b u v) k) 0], AV.ro [iI p, iI q]], nwW c T lo hi n a b u v p q k j = nwW c T lo hi n a b u v p q k (j + 1), p = p, q = q, (AV.lst 4 n fun k => [iI (a k), iI (b k), iI (u k), iI (v k)]) = AV.lst 4 n fun k => [iI (a k), iI (b k), iI (u k), iI (v k)], c = c, T = T, lo = lo, hi = hi] (Tree.leaf AEx.normal)))))) := by kernel_rfl
      rw [e]
      simp only [T_nr, out_nr, Tree.sat, Option.getD_some] at hQ
      have hf := flt_iff.1 pre0
      have hb := tube_bd hf.1
      have hF : ∀ y, y < n + 1 → catF n (fun k => [i (a k), i (b k), i (u k), i (v k)]) (chunk 4 [i k, i ((k : Int) + j), i p, i q]) y = [i (exL n a k y), i (exL n b ((k : Int) + j) y), i (exL n u p y), i (exL n v q y)] := fun y hy => catF4x hy
      simp only [Tree.sat, allP, true_and, and_true, decide_eq_true_eq, decide_eq_false_iff_not, inI64]
      clear e
      obtain ⟨F, hF0⟩ : ∃ F, F = catF n (fun k => [i (a k), i (b k), i (u k), i (v k)]) (chunk 4 [i k, i ((k : Int) + j), i p, i q]) := ⟨_, rfl⟩
      simp only [← hF0] at hF ⊢
      clear hF0
      have hc4 : ∀ y, y < n + 1 → col 0 F y = exL n a k y ∧ col 1 F y = exL n b ((k : Int) + j) y ∧ col 2 F y = exL n u p y ∧ col 3 F y = exL n v q y := fun y hy => by
        unfold col
        rw [hF y hy]
        exact ⟨rfl, rfl, rfl, rfl⟩
      have eM : ∀ cc, fwM cc T lo hi (n + 1) (col 0 F) (col 1 F) (col 2 F) (col 3 F) = fwM cc T lo hi (n + 1) (exL n a k) (exL n b ((k : Int) + j)) (exL n u p) (exL n v q) := fun cc => fwM_congr hc4
      have eO : ∀ cc, okR cc T lo hi (n + 1) (col 0 F) (col 1 F) (col 2 F) (col 3 F) = okR cc T lo hi (n + 1) (exL n a k) (exL n b ((k : Int) + j)) (exL n u p) (exL n v q) := fun cc => okR_congr hc4
      have hrd : rdB c k ((k : Int) + j) p q = true := rdB_of (by omega)
      have hrx := exL_rd hf.2.2 hrd
      have eW : nwW c T lo hi n a b u v p q k (j + 1) = if nwO c T lo hi n a b u v p q k j then max (nwW c T lo hi n a b u v p q k j) (nwD c T lo hi n a b u v p q k j) else nwW c T lo hi n a b u v p q k j := rfl
      have hall : allI (fun y => rdB c (col 0 F y) (col 1 F y) (col 2 F y) (col 3 F y)) (n + 1) = true := allI_iff.2 fun y hy => by
        obtain ⟨h1, h2, h3, h4⟩ := hc4 y hy
        rw [h1, h2, h3, h4]
        exact allI_iff.1 hrx y hy
      have hrec : isRec 4 (n + 1) F := fun y hy => by
        rw [hF y hy]
        rfl
      simp only [eM, eO]
      refine ⟨⟨isRec4 n a b u v, by omega⟩, ⟨by omega, fun y hy x hm => one_of hm (by simp [AV.one, Value.oneCell'])⟩, ⟨hrec, hb.1, hb.2.1, by omega, hall⟩, fun hok => ?_, fun hno => ?_⟩
      · have hok : nwO c T lo hi n a b u v p q k j = true := hok
        have e0 : ((c.toNat : Nat) : Int) = c := by omega
        have es : ∀ y, siteF (c.toNat : Nat) T lo hi (fwM c.toNat T lo hi (n + 1) (exL n a k) (exL n b ((k : Int) + j)) (exL n u p) (exL n v q)) y = sfB c T lo hi (n + 1) (exL n a k) (exL n b ((k : Int) + j)) (exL n u p) (exL n v q) y := fun _ => rfl
        have ed : dbF (siteF (c.toNat : Nat) T lo hi (fwM c.toNat T lo hi (n + 1) (exL n a k) (exL n b ((k : Int) + j)) (exL n u p) (exL n v q))) (c.toNat + 1) = nwD c T lo hi n a b u v p q k j := rfl
        have es0 : (sfB c T lo hi (n + 1) (exL n a k) (exL n b ((k : Int) + j)) (exL n u p) (exL n v q) 0).toNat = c.toNat := by rw [sfB_0]; omega
        have es1 : sfB c T lo hi (n + 1) (exL n a k) (exL n b ((k : Int) + j)) (exL n u p) (exL n v q) 0 = c := by rw [sfB_0]; omega
        simp only [es, es0, es1, ed]
        have hd := db_bdx hb.1 hb.2.1 hrx
        rw [eW, if_pos hok]
        refine ⟨⟨by omega, fun y hy => ?_⟩, ?_⟩
        · have h2 := fw_bdx hb.1 hb.2.1 hrx y 0
          have h3 := fw_bdx hb.1 hb.2.1 hrx 0 y
          rw [sfB_low, sfB_high _ _ _ _ _ _ _ _ _ (by omega)]
          omega
        · (repeat' first | with_reducible apply And.intro | with_reducible intro _)
          all_goals first | exact True.intro | omega | with_reducible rfl | rfl
      · have hno : nwO c T lo hi n a b u v p q k j = false := hno
        rw [eW, if_neg (by rw [hno]; decide)]
        exact ⟨rfl, by omega⟩
    · subst hend
      simp only [T_nr, Tree.sat] at hQ
      exact hQ


theorem nx_yes {c T lo hi : Int} {n : Nat} {a b u v : Nat → Int} {p q : Int} {k : Nat} (h : (k : Int) = 0 ∨ nwW c T lo hi n a b u v p q k (c - k + 1).toNat < nxD c T lo hi n a b u v p q k) : nxM c T lo hi n a b u v p q (k + 1) = k ∧ nxD c T lo hi n a b u v p q (k + 1) = min (nwW c T lo hi n a b u v p q k (c - k + 1).toNat) (dbF (sfB c T lo hi n a b u v) (c.toNat + 1)) := by
  have e : nxT c T lo hi n a b u v p q (k + 1) = ((k : Int), min (nwW c T lo hi n a b u v p q k (c - k + 1).toNat) (dbF (sfB c T lo hi n a b u v) (c.toNat + 1))) := by
    rw [nxT]
    refine if_pos ?_
    rcases h with h | h
    · have h0 : k = 0 := by omega
      simp [h0]
    · have h1 : nwW c T lo hi n a b u v p q k (c - k + 1).toNat < (nxT c T lo hi n a b u v p q k).2 := h
      rw [decide_eq_true h1, Bool.or_true]
  unfold nxM nxD
  rw [e]
  exact ⟨rfl, rfl⟩
theorem nx_no {c T lo hi : Int} {n : Nat} {a b u v : Nat → Int} {p q : Int} {k : Nat} (h0 : (k : Int) ≠ 0) (h : ¬ nwW c T lo hi n a b u v p q k (c - k + 1).toNat < nxD c T lo hi n a b u v p q k) : nxM c T lo hi n a b u v p q (k + 1) = nxM c T lo hi n a b u v p q k ∧ nxD c T lo hi n a b u v p q (k + 1) = nxD c T lo hi n a b u v p q k := by
  have e : nxT c T lo hi n a b u v p q (k + 1) = nxT c T lo hi n a b u v p q k := by
    rw [nxT]
    refine if_neg ?_
    have h1 : ¬ nwW c T lo hi n a b u v p q k (c - k + 1).toNat < (nxT c T lo hi n a b u v p q k).2 := h
    rw [decide_eq_false h1, decide_eq_false (by omega : ¬ k = 0)]
    decide
  unfold nxM nxD
  rw [e]
  exact ⟨rfl, rfl⟩

set_option maxRecDepth 100000 in
theorem nx_ls (c T lo hi : Int) (n : Nat) (a b u v : Nat → Int) (p q : Int) (pre0 : flt c T lo hi n a b u v = 0) (pre1 : okB c T lo hi n a b u v = true) (pre2 : 0 ≤ p ∧ p ≤ q ∧ q ≤ 2000) : LSoundN Try.prog (.loop B_nx) (LS_nx c T lo hi n a b u v p q) := by
  refine loop_roundsM [] (E := { R := [(66, S_ends)], H := [], C := [(64, C_tried)], F := [(68, F_cloneR)], D := [(67, C_read)] }) (G := [(65, S_inside), (70, S_doubt), (71, S_least)]) (L := [depSp 28 (fun k => needSp [flt c T lo hi n a b u v = 0, okB c T lo hi n a b u v = true, 0 ≤ p ∧ p ≤ q ∧ q ≤ 2000, (k : Int) < c] (LS_nr c T lo hi n a b u v p q k))]) (SoundG.cons inside_ok (SoundG.cons doubt_ok (SoundG.cons least_ok (SoundG.nil _)))) (SoundX.ofF (SoundRL.cons ends_okR (SoundRL.nil _)) (SoundHL.nil _) (SoundCL.cons tried_okC (SoundCL.nil _)) (SoundFL.cons cloneR_okF (SoundFL.nil _)) (SoundDL.cons read_okD (SoundDL.nil _))) mixed (one_loop (fun cj hcj => by
    have e : loopAt B_nx 0 = some (.rangeFunc (rfF (loopAt (loopBody (loopAt (bodyOf Try.f21) 0)) 0)) (rfPs (loopAt (loopBody (loopAt (bodyOf Try.f21) 0)) 0)) A_nr B_nr) := by kernel_rfl
    rw [e] at hcj; cases hcj
    exact depSp_soundN (fun k => needSp_soundN (fun h => nr_ln c T lo hi n a b u v p q k h.1 h.2.1 h.2.2.1 h.2.2.2)))) (X := Nat) (inv_nx c T lo hi n a b u v p q) (fun k => k ≤ c.toNat) (fun k => c.toNat - k) (out_nx c T lo hi n a b u v p q) (x0 := 0) (by simp) ?_ ?_ ?_
  · rintro k
    kernel_rfl
  · rintro k y E h
    unfold out_nx at h
    split at h
    · cases h; kernel_rfl
    · cases h
  · rintro Q hQ k hx
    refine ⟨(k + 1), ?_⟩
    have e : roundX Try.prog [(65, S_inside), (70, S_doubt), (71, S_least)] { R := [(66, S_ends)], H := [], C := [(64, C_tried)], F := [(68, F_cloneR)], D := [(67, C_read)] } [depSp 28 (fun k => needSp [flt c T lo hi n a b u v = 0, okB c T lo hi n a b u v = true, 0 ≤ p ∧ p ≤ q ∧ q ≤ 2000, (k : Int) < c] (LS_nr c T lo hi n a b u v p q k))] [] B_nx (inv_nx c T lo hi n a b u v p q k) (inv_nx c T lo hi n a b u v p q ((k + 1))) (out_nx c T lo hi n a b u v p q k) = (Tree.branch (decide ((↑k : Int) < c)) (Tree.need [flt c T lo hi n a b u v = (0 : Int), okB c T lo hi n a b u v = true, (0 : Int) ≤ p ∧ p ≤ q ∧ q ≤ (2000 : Int), (↑k : Int) < c] (Tree.need [AV.agg [iI c, iI T, iI lo, iI hi] = AV.agg [iI c, iI T, iI lo, iI hi], (AV.lst 4 n fun k => [iI (a k), iI (b k), iI (u k), iI (v k)]) = AV.lst 4 n fun k => [iI (a k), iI (b k), iI (u k), iI (v k)], AV.agg [iI p, iI q] = AV.agg [iI p, iI q], AV.ptr 0 0 = AV.ptr 0 0, AV.ptr 1 0 = AV.ptr 1 0, AV.ptr 2 0 = AV.ptr 2 0, nxM c T lo hi n a b u v p q k = nxM c T lo hi n a b u v p q k, nxD c T lo hi n a b u v p q k = nxD c T lo hi n a b u v p q k, (0 : Int) = (0 : Int), AV.roI [] 125 (fun k => siteF (↑(Int.toNat c) : Int) T lo hi (fwM (Int.toNat c) T lo hi n a b u v) k) 0 = AV.roI [] 125 (fun k => siteF (↑(Int.toNat c) : Int) T lo hi (fwM (Int.toNat c) T lo hi n a b u v) k) 0, (↑k : Int) = (↑k : Int), AV.ptr 24 0 = AV.ptr 24 0, c = c, (↑k : Int) = (↑k : Int), AV.fn (Fn.func 93) [] [AV.ro [iI (↑k : Int)], AV.ro [AV.roI [] 125 (fun k => siteF (↑(Int.toNat c) : Int) T lo hi (fwM (Int.toNat c) T lo hi n a b u v) k) 0], AV.ro [iI p, iI q]] = AV.fn (Fn.func 93) [] [AV.ro [iI (↑k : Int)], AV.ro [AV.roI [] 125 (fun k => siteF (↑(Int.toNat c) : Int) T lo hi (fwM (Int.toNat c) T lo hi n a b u v) k) 0], AV.ro [iI p, iI q]], (0 : Int) = nwW c T lo hi n a b u v p q k 0, p = p, q = q, (AV.lst 4 n fun k => [iI (a k), iI (b k), iI (u k), iI (v k)]) = AV.lst 4 n fun k => [iI (a k), iI (b k), iI (u k), iI (v k)], c = c, T = T, lo = lo, hi = hi] (Tree.branch ((↑k : Int) == (0 : Int)) (Tree.need [(0 : Int) ≤ siteF (↑(Int.toNat c) : Int) T lo hi (fwM (Int.toNat c) T lo hi n a b u v) 0 ∧ siteF (↑(Int.toNat c) : Int) T lo hi (fwM (Int.toNat c) T lo hi n a b u v) 0 ≤ (10 : Int), ∀ (k : Nat), k ≤ Int.toNat (siteF (↑(Int.toNat c) : Int) T lo hi (fwM (Int.toNat c) T lo hi n a b u v) 0) → ((-1000000000000 : Int) ≤ siteF (↑(Int.toNat c) : Int) T lo hi (fwM (Int.toNat c) T lo hi n a b u v) (k * 11 + 4) ∧ siteF (↑(Int.toNat c) : Int) T lo hi (fwM (Int.toNat c) T lo hi n a b u v) (k * 11 + 4) ≤ (1000000000000 : Int)) ∧ (-1000000000000 : Int) ≤ siteF (↑(Int.toNat c) : Int) T lo hi (fwM (Int.toNat c) T lo hi n a b u v) (k + 4) ∧ siteF (↑(Int.toNat c) : Int) T lo hi (fwM (Int.toNat c) T lo hi n a b u v) (k + 4) ≤ (1000000000000 : Int)] (Tree.need [inI64 ((↑k : Int) + (1 : Int))] (Tree.need [AV.agg [iI c, iI T, iI lo, iI hi] = AV.agg [iI c, iI T, iI lo, iI hi], (AV.lst 4 n fun k => [iI (a k), iI (b k), iI (u k), iI (v k)]) = AV.lst 4 n fun k => [iI (a k), iI (b k), iI (u k), iI (v k)], AV.agg [iI p, iI q] = AV.agg [iI p, iI q], AV.ptr 0 0 = AV.ptr 0 0, AV.ptr 1 0 = AV.ptr 1 0, AV.ptr 2 0 = AV.ptr 2 0, (↑k : Int) = nxM c T lo hi n a b u v p q (k + 1), min (nwW c T lo hi n a b u v p q k (Int.toNat (c - (↑k : Int) + (1 : Int)))) (dbF (fun k => siteF (↑(Int.toNat c) : Int) T lo hi (fwM (Int.toNat c) T lo hi n a b u v) k) (Int.toNat (siteF (↑(Int.toNat c) : Int) T lo hi (fwM (Int.toNat c) T lo hi n a b u v) 0) + 1)) = nxD c T lo hi n a b u v p q (k + 1), (0 : Int) = (0 : Int), AV.roI [] 125 (fun k => siteF (↑(Int.toNat c) : Int) T lo hi (fwM (Int.toNat c) T lo hi n a b u v) k) 0 = AV.roI [] 125 (fun k => siteF (↑(Int.toNat c) : Int) T lo hi (fwM (Int.toNat c) T lo hi n a b u v) k) 0, c = c, (↑k : Int) + (1 : Int) = (↑(k + 1) : Int), p = p, q = q, (AV.lst 4 n fun k => [iI (a k), iI (b k), iI (u k), iI (v k)]) = AV.lst 4 n fun k => [iI (a k), iI (b k), iI (u k), iI (v k)], c = c, T = T, lo = lo, hi = hi] (Tree.leaf AEx.normal)))) (Tree.branch (decide (nwW c T lo hi n a b u v p q k (Int.toNat (c - (↑k : Int) + (1 : Int))) < nxD c T lo hi n a b u v p q k)) (Tree.need [(0 : Int) ≤ siteF (↑(Int.toNat c) : Int) T lo hi (fwM (Int.toNat c) T lo hi n a b u v) 0 ∧ siteF (↑(Int.toNat c) : Int) T lo hi (fwM (Int.toNat c) T lo hi n a b u v) 0 ≤ (10 : Int), ∀ (k : Nat), k ≤ Int.toNat (siteF (↑(Int.toNat c) : Int) T lo hi (fwM (Int.toNat c) T lo hi n a b u v) 0) → ((-1000000000000 : Int) ≤ siteF (↑(Int.toNat c) : Int) T lo hi (fwM (Int.toNat c) T lo hi n a b u v) (k * 11 + 4) ∧ siteF (↑(Int.toNat c) : Int) T lo hi (fwM (Int.toNat c) T lo hi n a b u v) (k * 11 + 4) ≤ (1000000000000 : Int)) ∧ (-1000000000000 : Int) ≤ siteF (↑(Int.toNat c) : Int) T lo hi (fwM (Int.toNat c) T lo hi n a b u v) (k + 4) ∧ siteF (↑(Int.toNat c) : Int) T lo hi (fwM (Int.toNat c) T lo hi n a b u v) (k + 4) ≤ (1000000000000 : Int)] (Tree.need [inI64 ((↑k : Int) + (1 : Int))] (Tree.need [AV.agg [iI c, iI T, iI lo, iI hi] = AV.agg [iI c, iI T, iI lo, iI hi], (AV.lst 4 n fun k => [iI (a k), iI (b k), iI (u k), iI (v k)]) = AV.lst 4 n fun k => [iI (a k), iI (b k), iI (u k), iI (v k)], AV.agg [iI p, iI q] = AV.agg [iI p, iI q], AV.ptr 0 0 = AV.ptr 0 0, AV.ptr 1 0 = AV.ptr 1 0, AV.ptr 2 0 = AV.ptr 2 0, (↑k : Int) = nxM c T lo hi n a b u v p q (k + 1), min (nwW c T lo hi n a b u v p q k (Int.toNat (c - (↑k : Int) + (1 : Int)))) (dbF (fun k => siteF (↑(Int.toNat c) : Int) T lo hi (fwM (Int.toNat c) T lo hi n a b u v) k) (Int.toNat (siteF (↑(Int.toNat c) : Int) T lo hi (fwM (Int.toNat c) T lo hi n a b u v) 0) + 1)) = nxD c T lo hi n a b u v p q (k + 1), (0 : Int) = (0 : Int), AV.roI [] 125 (fun k => siteF (↑(Int.toNat c) : Int) T lo hi (fwM (Int.toNat c) T lo hi n a b u v) k) 0 = AV.roI [] 125 (fun k => siteF (↑(Int.toNat c) : Int) T lo hi (fwM (Int.toNat c) T lo hi n a b u v) k) 0, c = c, (↑k : Int) + (1 : Int) = (↑(k + 1) : Int), p = p, q = q, (AV.lst 4 n fun k => [iI (a k), iI (b k), iI (u k), iI (v k)]) = AV.lst 4 n fun k => [iI (a k), iI (b k), iI (u k), iI (v k)], c = c, T = T, lo = lo, hi = hi] (Tree.leaf AEx.normal)))) (Tree.need [inI64 ((↑k : Int) + (1 : Int))] (Tree.need [AV.agg [iI c, iI T, iI lo, iI hi] = AV.agg [iI c, iI T, iI lo, iI hi], (AV.lst 4 n fun k => [iI (a k), iI (b k), iI (u k), iI (v k)]) = AV.lst 4 n fun k => [iI (a k), iI (b k), iI (u k), iI (v k)], AV.agg [iI p, iI q] = AV.agg [iI p, iI q], AV.ptr 0 0 = AV.ptr 0 0, AV.ptr 1 0 = AV.ptr 1 0, AV.ptr 2 0 = AV.ptr 2 0, nxM c T lo hi n a b u v p q k = nxM c T lo hi n a b u v p q (k + 1), nxD c T lo hi n a b u v p q k = nxD c T lo hi n a b u v p q (k + 1), (0 : Int) = (0 : Int), AV.roI [] 125 (fun k => siteF (↑(Int.toNat c) : Int) T lo hi (fwM (Int.toNat c) T lo hi n a b u v) k) 0 = AV.roI [] 125 (fun k => siteF (↑(Int.toNat c) : Int) T lo hi (fwM (Int.toNat c) T lo hi n a b u v) k) 0, c = c, (↑k : Int) + (1 : Int) = (↑(k + 1) : Int), p = p, q = q, (AV.lst 4 n fun k => [iI (a k), iI (b k), iI (u k), iI (v k)]) = AV.lst 4 n fun k => [iI (a k), iI (b k), iI (u k), iI (v k)], c = c, T = T, lo = lo, hi = hi] (Tree.leaf AEx.normal))))))) (Tree.need [AV.agg [iI c, iI T, iI lo, iI hi] = AV.agg [iI c, iI T, iI lo, iI hi], (AV.lst 4 n fun k => [iI (a k), iI (b k), iI (u k), iI (v k)]) = AV.lst 4 n fun k => [iI (a k), iI (b k), iI (u k), iI (v k)], AV.agg [iI p, iI q] = AV.agg [iI p, iI q], AV.ptr 0 0 = AV.ptr 0 0, AV.ptr 1 0 = AV.ptr 1 0, AV.ptr 2 0 = AV.ptr 2 0, nxM c T lo hi n a b u v p q k = nxM c T lo hi n a b u v p q (Int.toNat c), nxD c T lo hi n a b u v p q k = nxD c T lo hi n a b u v p q (Int.toNat c), (0 : Int) = (0 : Int), AV.roI [] 125 (fun k => siteF (↑(Int.toNat c) : Int) T lo hi (fwM (Int.toNat c) T lo hi n a b u v) k) 0 = AV.roI [] 125 (fun k => siteF (↑(Int.toNat c) : Int) T lo hi (fwM (Int.toNat c) T lo hi n a b u v) k) 0, c = c, (↑k : Int) = c, p = p, q = q, (AV.lst 4 n fun k => [iI (a k), iI (b k), iI (u k), iI (v k)]) = AV.lst 4 n fun k => [iI (a k), iI (b k), iI (u k), iI (v k)], c = c, T = T, lo = lo, hi = hi] (Tree.leaf (AEx.exit 0)))) := by kernel_rfl
    rw [e]
    simp only [T_nx, out_nx, Tree.sat, Option.getD_some] at hQ
    have hf := flt_iff.1 pre0
    have hb := tube_bd hf.1
    have e0 : siteF ((c.toNat : Nat) : Int) T lo hi (fwM c.toNat T lo hi n a b u v) 0 = c := by
      show ((c.toNat : Nat) : Int) = c
      omega
    have es : ∀ y, siteF ((c.toNat : Nat) : Int) T lo hi (fwM c.toNat T lo hi n a b u v) y = sfB c T lo hi n a b u v y := fun _ => rfl
    have ed : dbF (fun y => sfB c T lo hi n a b u v y) (c.toNat + 1) = dbF (sfB c T lo hi n a b u v) (c.toNat + 1) := rfl
    have hbd : ∀ y, y ≤ c.toNat → (-1000000000000 ≤ sfB c T lo hi n a b u v (y * 11 + 4) ∧ sfB c T lo hi n a b u v (y * 11 + 4) ≤ 1000000000000) ∧ -1000000000000 ≤ sfB c T lo hi n a b u v (y + 4) ∧ sfB c T lo hi n a b u v (y + 4) ≤ 1000000000000 := fun y hy => by
      have h2 := fw_bdx hb.1 hb.2.1 hf.2.2 y 0
      have h3 := fw_bdx hb.1 hb.2.1 hf.2.2 0 y
      rw [sfB_low, sfB_high _ _ _ _ _ _ _ _ _ (by omega)]
      omega
    simp only [Tree.sat, allP, true_and, and_true, decide_eq_true_eq, decide_eq_false_iff_not, inI64, beq_iff_eq, beq_eq_false_iff_ne, ne_eq, e0, es, out_nx]
    clear e
    have fin : ∀ d0 : Int, (0 : Int) ≤ c ∧ c ≤ 10 := fun _ => by omega
    refine ⟨fun hk => ⟨⟨pre0, pre1, pre2, hk⟩, rfl, fun h0 => ?_, fun h0 => ⟨fun h1 => ?_, fun h1 => ?_⟩⟩, fun hk => ?_⟩
    · obtain ⟨y1, y2⟩ := nx_yes (a := a) (b := b) (u := u) (v := v) (T := T) (lo := lo) (hi := hi) (n := n) (c := c) (p := p) (q := q) (.inl h0)
      rw [y1, y2]
      exact ⟨⟨by omega, hbd⟩, by omega, ⟨rfl, by omega⟩, by omega, by omega⟩
    · obtain ⟨y1, y2⟩ := nx_yes (.inr h1)
      rw [y1, y2]
      exact ⟨⟨by omega, hbd⟩, by omega, ⟨rfl, by omega⟩, by omega, by omega⟩
    · obtain ⟨y1, y2⟩ := nx_no h0 h1
      rw [y1, y2]
      exact ⟨by omega, by omega, by omega, by omega⟩
    · obtain rfl : k = c.toNat := by omega
      exact ⟨by omega, fun E hE => by cases hE; exact hQ⟩


def nxE (c T lo hi : Int) (n : Nat) (a b u v : Nat → Int) (p q : Int) : Int := fltB c T lo hi n a b u v (insB 0 p q 2000)
def nxRM (c T lo hi : Int) (n : Nat) (a b u v : Nat → Int) (p q : Int) : Int := if nxE c T lo hi n a b u v p q = 0 then nxM c T lo hi n a b u v p q c.toNat else 0
def nxRD (c T lo hi : Int) (n : Nat) (a b u v : Nat → Int) (p q : Int) : Int := if nxE c T lo hi n a b u v p q = 0 then nxD c T lo hi n a b u v p q c.toNat else 0

set_option maxRecDepth 100000 in
theorem Next_at1 (c T lo hi : Int) (n : Nat) (a b u v : Nat → Int) (p q : Int) (pre0 : fltB c T lo hi n a b u v (insB 0 p q 2000) = 0) (pre1 : flt c T lo hi n a b u v = 0) (pre2 : okB c T lo hi n a b u v = true) (pre3 : 0 ≤ p ∧ p ≤ q ∧ q ≤ 2000) : SoundAt Try.prog 21 [.agg [i c, i T, i lo, i hi], rds n a b u v, .agg [i p, i q]] (.tup [i (nxRM c T lo hi n a b u v p q), i (nxRD c T lo hi n a b u v p q), i (nxE c T lo hi n a b u v p q)]) := by
  refine soundAt_finG (G := [(65, S_inside), (70, S_doubt), (71, S_least), (69, S_greatest)]) (X := { R := [(66, S_ends)], H := [], C := [(64, C_tried)], F := [(68, F_cloneR)], D := [(67, C_read)] }) (L := [needSp [flt c T lo hi n a b u v = 0, okB c T lo hi n a b u v = true, 0 ≤ p ∧ p ≤ q ∧ q ≤ 2000] (LS_nx c T lo hi n a b u v p q)]) (Gd.go true (Gd.go false Gd.rest)) (SoundG.cons inside_ok (SoundG.cons doubt_ok (SoundG.cons least_ok (SoundG.cons greatest_ok (SoundG.nil _))))) (SoundX.ofF (SoundRL.cons ends_okR (SoundRL.nil _)) (SoundHL.nil _) (SoundCL.cons tried_okC (SoundCL.nil _)) (SoundFL.cons cloneR_okF (SoundFL.nil _)) (SoundDL.cons read_okD (SoundDL.nil _))) mixed Try.func21 (show Try.f21.body = some (bodyOf Try.f21) by kernel_rfl) (one_loop (fun cj hcj => by
    have e : loopAt (bodyOf Try.f21) 0 = some (.loop B_nx) := by kernel_rfl
    rw [e] at hcj; cases hcj
    exact (needSp_soundN (fun h => nx_ls c T lo hi n a b u v p q h.1 h.2.1 h.2.2)))) (t := (Tree.need [isRec 4 n fun k => [i (a k), i (b k), i (u k), i (v k)]] (Tree.need [decide (fltB c T lo hi n a b u v (insB (0 : Int) p q (2000 : Int)) = (0 : Int)) = true] (Tree.need [((0 : Int) != (0 : Int)) = false] (Tree.need [flt c T lo hi n a b u v = (0 : Int), okB c T lo hi n a b u v = true, (0 : Int) ≤ p ∧ p ≤ q ∧ q ≤ (2000 : Int)] (Tree.need [AV.agg [iI c, iI T, iI lo, iI hi] = AV.agg [iI c, iI T, iI lo, iI hi], (AV.lst 4 n fun k => [iI (a k), iI (b k), iI (u k), iI (v k)]) = AV.lst 4 n fun k => [iI (a k), iI (b k), iI (u k), iI (v k)], AV.agg [iI p, iI q] = AV.agg [iI p, iI q], AV.ptr 0 0 = AV.ptr 0 0, AV.ptr 1 0 = AV.ptr 1 0, AV.ptr 2 0 = AV.ptr 2 0, (0 : Int) = nxM c T lo hi n a b u v p q 0, (0 : Int) = nxD c T lo hi n a b u v p q 0, (0 : Int) = (0 : Int), AV.roI [] 125 (fun k => siteF (↑(Int.toNat c) : Int) T lo hi (fwM (Int.toNat c) T lo hi n a b u v) k) 0 = AV.roI [] 125 (fun k => siteF (↑(Int.toNat c) : Int) T lo hi (fwM (Int.toNat c) T lo hi n a b u v) k) 0, c = c, (0 : Int) = (↑(0 : Nat) : Int), p = p, q = q, (AV.lst 4 n fun k => [iI (a k), iI (b k), iI (u k), iI (v k)]) = AV.lst 4 n fun k => [iI (a k), iI (b k), iI (u k), iI (v k)], c = c, T = T, lo = lo, hi = hi] (Tree.leaf (RV.tup [RV.x (Value.int IntKind.i64 (nxM c T lo hi n a b u v p q (Int.toNat c))), RV.x (Value.int IntKind.i64 (nxD c T lo hi n a b u v p q (Int.toNat c))), RV.x (Value.int IntKind.i64 (0 : Int))])))))))) (by kernel_rfl) ?_
  have he : nxE c T lo hi n a b u v p q = 0 := pre0
  have hc := (tube_bd (flt_iff.1 pre1).1).1
  have h1 : nxRM c T lo hi n a b u v p q = nxM c T lo hi n a b u v p q c.toNat := if_pos he
  have h2 : nxRD c T lo hi n a b u v p q = nxD c T lo hi n a b u v p q c.toNat := if_pos he
  rw [h1, h2, he]
  
  simp only [Tree.sat, allP, fitP, fitL, valEq, inI64, true_and, and_true]
  (repeat' first | with_reducible apply And.intro | with_reducible intro _)
  all_goals first | exact True.intro | with_reducible rfl | assumption | omega | exact isRec4 _ _ _ _ _ | rfl | (simp [*]; done)

set_option maxRecDepth 100000 in
theorem Next_at0 (c T lo hi : Int) (n : Nat) (a b u v : Nat → Int) (p q : Int) (pre0 : fltB c T lo hi n a b u v (insB 0 p q 2000) ≠ 0) : SoundAt Try.prog 21 [.agg [i c, i T, i lo, i hi], rds n a b u v, .agg [i p, i q]] (.tup [i (nxRM c T lo hi n a b u v p q), i (nxRD c T lo hi n a b u v p q), i (nxE c T lo hi n a b u v p q)]) := by
  refine soundAt_finG (G := [(65, S_inside), (70, S_doubt), (71, S_least), (69, S_greatest)]) (X := { R := [(66, S_ends)], H := [], C := [(64, C_tried)], F := [(68, F_cloneR)], D := [(67, C_read)] }) (L := []) (Gd.go false (Gd.go true Gd.rest)) (SoundG.cons inside_ok (SoundG.cons doubt_ok (SoundG.cons least_ok (SoundG.cons greatest_ok (SoundG.nil _))))) (SoundX.ofF (SoundRL.cons ends_okR (SoundRL.nil _)) (SoundHL.nil _) (SoundCL.cons tried_okC (SoundCL.nil _)) (SoundFL.cons cloneR_okF (SoundFL.nil _)) (SoundDL.cons read_okD (SoundDL.nil _))) mixed Try.func21 (show Try.f21.body = some (bodyOf Try.f21) by kernel_rfl) noLoopsS (t := (Tree.need [isRec 4 n fun k => [i (a k), i (b k), i (u k), i (v k)]] (Tree.need [decide (fltB c T lo hi n a b u v (insB (0 : Int) p q (2000 : Int)) = (0 : Int)) = false] (Tree.need [(fltB c T lo hi n a b u v (insB (0 : Int) p q (2000 : Int)) != (0 : Int)) = true] (Tree.leaf (RV.tup [RV.x (Value.int IntKind.i64 (0 : Int)), RV.x (Value.int IntKind.i64 (0 : Int)), RV.x (Value.int IntKind.i64 (fltB c T lo hi n a b u v (insB (0 : Int) p q (2000 : Int))))])))))) (by kernel_rfl) ?_
  have he : nxE c T lo hi n a b u v p q = fltB c T lo hi n a b u v (insB 0 p q 2000) := rfl
  have h1 : nxRM c T lo hi n a b u v p q = 0 := if_neg pre0
  have h2 : nxRD c T lo hi n a b u v p q = 0 := if_neg pre0
  rw [h1, h2, he]
  
  simp only [Tree.sat, allP, fitP, fitL, valEq, inI64, true_and, and_true]
  (repeat' first | with_reducible apply And.intro | with_reducible intro _)
  all_goals first | exact True.intro | with_reducible rfl | assumption | omega | exact isRec4 _ _ _ _ _ | rfl | (simp [*]; done)


theorem Next_at (c T lo hi : Int) (n : Nat) (a b u v : Nat → Int) (p q : Int) : SoundAt Try.prog 21 [.agg [i c, i T, i lo, i hi], rds n a b u v, .agg [i p, i q]] (.tup [i (nxRM c T lo hi n a b u v p q), i (nxRD c T lo hi n a b u v p q), i (nxE c T lo hi n a b u v p q)]) := by
  by_cases h : fltB c T lo hi n a b u v (insB 0 p q 2000) = 0
  · have h1 := fltB_iff.1 h
    exact Next_at1 c T lo hi n a b u v p q h h1.1 h1.2.2 (by have := (insB_iff _ _ _ _).1 h1.2.1; omega)
  · exact Next_at0 c T lo hi n a b u v p q h

def S_Next : Sx.Spec := fun l => match l with
  | [.agg [.x (.int .i64 c), .x (.int .i64 T), .x (.int .i64 lo), .x (.int .i64 hi)], .lst 4 n f, .agg [.x (.int .i64 p), .x (.int .i64 q)]] => some ([isRec 4 n f], .tup [i (nxRM c T lo hi n (col 0 f) (col 1 f) (col 2 f) (col 3 f) p q), i (nxRD c T lo hi n (col 0 f) (col 1 f) (col 2 f) (col 3 f) p q), i (nxE c T lo hi n (col 0 f) (col 1 f) (col 2 f) (col 3 f) p q)])
  | [.agg [.x (.int .i64 c), .x (.int .i64 T), .x (.int .i64 lo), .x (.int .i64 hi)], .x (.slice none 0 0), .agg [.x (.int .i64 p), .x (.int .i64 q)]] => some ([], .tup [i (nxRM c T lo hi 0 (fun _ => 0) (fun _ => 0) (fun _ => 0) (fun _ => 0) p q), i (nxRD c T lo hi 0 (fun _ => 0) (fun _ => 0) (fun _ => 0) (fun _ => 0) p q), i (nxE c T lo hi 0 (fun _ => 0) (fun _ => 0) (fun _ => 0) (fun _ => 0) p q)])
  | _ => none

theorem Next_ok : SoundSpec Try.prog 21 S_Next := by
  refine ⟨⟨_, Try.func21, by kernel_rfl, by kernel_rfl⟩, ?_⟩
  intro avs ns res h hn
  unfold S_Next at h
  split at h
  · rename_i c T lo hi n f p q
    cases h
    have hr0 : isRec 4 n f := hn _ (by simp)
    exact (Next_at c T lo hi n (col 0 f) (col 1 f) (col 2 f) (col 3 f) p q).same (.cons (.refl _) (.cons (.lst 4 n _ _ hr0) (.cons (.refl _) .nil)))
  · rename_i c T lo hi p q
    cases h
    exact (Next_at c T lo hi 0 (fun _ => 0) (fun _ => 0) (fun _ => 0) (fun _ => 0) p q).same (.cons (.refl _) (.cons (.nil 4 _) (.cons (.refl _) .nil)))
  · cases h

end Go.Proofs.Ytmdeoobmeokmeaa
/- Contracts of functions of the program, by the engine Sx: what each call comes to. Printed by a program of this repo (sxgen.py). -/
set_option linter.unusedSimpArgs false
set_option linter.unusedVariables false
namespace Go.Proofs.Ytmdeoobmeokmeaa
open Go Go.Sx Go.RowKit
def S_glass : Sx.Spec := fun l => match l with
  | [] => some ([], .agg [i 4, i 100, i 20, i 30])
  | _ => none

set_option maxRecDepth 100000 in
theorem glass_at  : SoundAt Try.prog 62 [] (.agg [i 4, i 100, i 20, i 30]) := by
  refine soundAt_fin (G := [(32, S_between)]) (L := []) (SoundG.cons between_ok (SoundG.nil _)) mixed Try.func62 (show Try.f62.body = some (bodyOf Try.f62) by kernel_rfl) noLoops (t := (Tree.leaf (RV.agg [RV.x (Value.int IntKind.i64 (4 : Int)), RV.x (Value.int IntKind.i64 (100 : Int)), RV.x (Value.int IntKind.i64 (20 : Int)), RV.x (Value.int IntKind.i64 (30 : Int))]))) (by kernel_rfl) ?_
  simp only [Tree.sat, allP, fitP, fitL, valEq, inI64, true_and, and_true]
  all_goals first | omega | grind
theorem glass_ok : SoundSpec Try.prog 62 S_glass := by
  refine ⟨⟨_, Try.func62, by kernel_rfl, by kernel_rfl⟩, ?_⟩
  intro avs ns res h hn
  unfold S_glass at h
  split at h
  · cases h
    exact glass_at 
  · cases h

set_option maxRecDepth 100000 in
theorem threads1_at (a b u v : Int) : SoundAt Try.prog 61 [.lst 4 1 (chunk 4 [i a, i b, i u, i v])] (.lst 4 3 (chunk 4 [i 0, i 1, i 40, i 40, i 2, i 3, i 48, i 50, i a, i b, i u, i v])) := by
  refine soundAt_fin (G := [(32, S_between)]) (L := []) (SoundG.cons between_ok (SoundG.nil _)) mixed Try.func61 (show Try.f61.body = some (bodyOf Try.f61) by kernel_rfl) noLoops (t := (Tree.need [96 ≤ 140737488355328, ∀ (i : Nat), i < 1 → ∀ (a_2 : AV), a_2 ∈ chunk 4 [iI a, iI b, iI u, iI v] i → AV.one a_2 = true] (Tree.leaf (RV.lst 4 3 (catF 2 (chunk 4 [iI (0 : Int), iI (1 : Int), iI (40 : Int), iI (40 : Int), iI (2 : Int), iI (3 : Int), iI (48 : Int), iI (50 : Int)]) (chunk 4 [iI a, iI b, iI u, iI v])))))) (by kernel_rfl) ?_
  simp only [Tree.sat, allP, fitP, true_and]
  refine ⟨⟨by omega, fun k hk x hm => by first | exact absurd hk (Nat.not_lt_zero _) | exact one_of hm (by simp [AV.one, Value.oneCell'])⟩, fun k hk => ⟨?_, fun x hm => ?_⟩⟩
  · rcases (show k = 0 ∨ k = 1 ∨ k = 2 by omega) with rfl | rfl | rfl <;> rfl
  · have hm := chunk_mem hm
    simp only [List.mem_cons, List.not_mem_nil, or_false] at hm
    (repeat' rcases hm with rfl | hm) <;> first | exact True.intro | (subst hm; exact True.intro)

set_option maxRecDepth 100000 in
theorem threads0_at  : SoundAt Try.prog 61 [.x (.slice none 0 0)] (.lst 4 2 (chunk 4 [i 0, i 1, i 40, i 40, i 2, i 3, i 48, i 50])) := by
  refine soundAt_fin (G := [(32, S_between)]) (L := []) (SoundG.cons between_ok (SoundG.nil _)) mixed Try.func61 (show Try.f61.body = some (bodyOf Try.f61) by kernel_rfl) noLoops (t := (Tree.need [64 ≤ 140737488355328, ∀ (i : Nat), i < 0 → ∀ (a : AV), a ∈ [] → AV.one a = true] (Tree.leaf (RV.lst 4 2 (catF 2 (chunk 4 [iI (0 : Int), iI (1 : Int), iI (40 : Int), iI (40 : Int), iI (2 : Int), iI (3 : Int), iI (48 : Int), iI (50 : Int)]) fun x => []))))) (by kernel_rfl) ?_
  simp only [Tree.sat, allP, fitP, true_and]
  refine ⟨⟨by omega, fun k hk x hm => by first | exact absurd hk (Nat.not_lt_zero _) | exact one_of hm (by simp [AV.one, Value.oneCell'])⟩, fun k hk => ⟨?_, fun x hm => ?_⟩⟩
  · rcases (show k = 0 ∨ k = 1 by omega) with rfl | rfl <;> rfl
  · have hm := chunk_mem hm
    simp only [List.mem_cons, List.not_mem_nil, or_false] at hm
    (repeat' rcases hm with rfl | hm) <;> first | exact True.intro | (subst hm; exact True.intro)


def S_threads : Sx.Spec := fun l => match l with
  | [.lst 4 1 f] => some ([isRec 4 1 f], .lst 4 3 (chunk 4 [i 0, i 1, i 40, i 40, i 2, i 3, i 48, i 50, i (col 0 f 0), i (col 1 f 0), i (col 2 f 0), i (col 3 f 0)]))
  | [.x (.slice none 0 0)] => some ([], .lst 4 2 (chunk 4 [i 0, i 1, i 40, i 40, i 2, i 3, i 48, i 50]))
  | _ => none

theorem threads_ok : SoundSpec Try.prog 61 S_threads := by
  refine ⟨⟨_, Try.func61, by kernel_rfl, by kernel_rfl⟩, ?_⟩
  intro avs ns res h hn
  unfold S_threads at h
  split at h
  · rename_i f
    cases h
    have hr0 : isRec 4 1 f := hn _ (by simp)
    exact (threads1_at (col 0 f 0) (col 1 f 0) (col 2 f 0) (col 3 f 0)).same (.cons (.lst 4 1 _ _ (fun k hk => by have h0 : k = 0 := (by omega); subst h0; exact hr0 0 hk)) .nil)
  · cases h
    exact (threads0_at).same (.cons (.refl _) .nil)
  · cases h

noncomputable def E_nt (n m : Nat) (a b : Nat → Int) : St := (some
  {
    σ :=
      [AV.lst (1 : Nat) n fun k => [AV.x (Value.int IntKind.i64 (a k))],
        AV.lst (1 : Nat) m fun k => [AV.x (Value.int IntKind.i64 (b k))], AV.top, AV.top, AV.top, AV.top, AV.top,
        AV.top, AV.top, AV.top, AV.top, AV.top, AV.top, AV.top, AV.top, AV.top, AV.top, AV.top, AV.top, AV.top, AV.top,
        AV.top, AV.top, AV.top, AV.top, AV.top],
    m := [], nx := (7 : Nat) } : Option St).getD { σ := [], m := [], nx := 0 }
noncomputable def B_nt : Code := loopBody (loopAt (bodyOf Try.f55) 0)
noncomputable def inv_nt (n m : Nat) (a b : Nat → Int) (k : Nat) : St := { σ := ovrS [(5, i k)] (E_nt n m a b).σ, m := (E_nt n m a b).m, nx := (E_nt n m a b).nx }
noncomputable def out_nt (n m : Nat) (a b : Nat → Int) (k : Nat) : AEx → Option St := fun ex => match ex with
  | .exit 0 => some { σ := ovrS [] (E_nt n m a b).σ, m := (E_nt n m a b).m, nx := (E_nt n m a b).nx }
  | .ret => some { σ := ovrS [(4, .lit false)] (E_nt n m a b).σ, m := (E_nt n m a b).m, nx := (E_nt n m a b).nx }
  | _ => none
noncomputable def T_nt (n m : Nat) (a b : Nat → Int) : CT := .branch (allI ((fun k => a k == b k)) n) (.leaf (.exit 0, ( out_nt n m a b 0 (.exit 0)).getD (E_nt n m a b))) (.leaf (.ret, ( out_nt n m a b 0 .ret).getD (E_nt n m a b)))
noncomputable def LS_nt (n m : Nat) (a b : Nat → Int) : LSpec := (sumL (inv_nt n m a b (0)) (T_nt n m a b))
set_option maxRecDepth 100000 in
theorem nt_ls (n m : Nat) (a b : Nat → Int) (pre0 : n ≤ 100000) (pre1 : n = m) : LSound Try.prog (.loop B_nt) (LS_nt n m a b) := by
  refine loop_rounds (G := []) (L := []) (SoundG.nil _) mixed noLoops (X := Nat) (inv_nt n m a b) (fun k => k ≤ n ∧ ∀ j, j < k → ((fun k => a k == b k)) j = true) (fun k => n - k) (out_nt n m a b) (x0 := 0) ⟨by omega, fun j hj => by omega⟩ ?_ ?_ ?_
  · rintro k
    kernel_rfl
  · rintro k y E h
    unfold out_nt at h
    split at h
    · cases h; kernel_rfl
    · cases h; kernel_rfl
    · cases h
  · rintro Q hQ k hx
    refine ⟨(k + 1), ?_⟩
    have e : roundT Try.prog [] [] B_nt (inv_nt n m a b k) (inv_nt n m a b ((k + 1))) (out_nt n m a b k) = (Tree.branch (decide ((↑k : Int) < (↑n : Int))) (Tree.need [(0 : Int) ≤ (↑k : Int) ∧ (↑k : Int) < (↑n : Int)] (Tree.need [(0 : Int) ≤ (↑k : Int) ∧ (↑k : Int) < (↑m : Int)] (Tree.branch (a k != b k) (Tree.need [(AV.lst 1 n fun k => [iI (a k)]) = AV.lst 1 n fun k => [iI (a k)], (AV.lst 1 m fun k => [iI (b k)]) = AV.lst 1 m fun k => [iI (b k)], AV.lit false = AV.lit false] (Tree.leaf AEx.ret)) (Tree.need [inI64 ((↑k : Int) + (1 : Int))] (Tree.need [(AV.lst 1 n fun k => [iI (a k)]) = AV.lst 1 n fun k => [iI (a k)], (AV.lst 1 m fun k => [iI (b k)]) = AV.lst 1 m fun k => [iI (b k)], (↑k : Int) + (1 : Int) = (↑(k + 1) : Int)] (Tree.leaf AEx.normal)))))) (Tree.need [(AV.lst 1 n fun k => [iI (a k)]) = AV.lst 1 n fun k => [iI (a k)], (AV.lst 1 m fun k => [iI (b k)]) = AV.lst 1 m fun k => [iI (b k)]] (Tree.leaf (AEx.exit 0)))) := by kernel_rfl
    rw [e]
    simp only [T_nt, out_nt, Tree.sat, Option.getD_some] at hQ
    have hbad : k < n → ((fun k => a k == b k)) k = false → allI ((fun k => a k == b k)) n = false := by
      intro h1 h2
      rw [← Bool.not_eq_true]
      intro h3
      have := allI_iff.1 h3 k h1
      exact Bool.noConfusion (h2.symm.trans this)
    have hgood : ((fun k => a k == b k)) k = true → ∀ j, j < k + 1 → ((fun k => a k == b k)) j = true := by
      intro h1 j hj
      rcases (show j < k ∨ j = k by omega) with h | rfl
      · exact hx.2 j h
      · exact h1
    have hend : ¬ k < n → allI ((fun k => a k == b k)) n = true := fun h => allI_iff.2 (fun j hj => hx.2 j (by omega))
    have hQ1 : ∀ E, out_nt n m a b k .ret = some E → allI ((fun k => a k == b k)) n = false → Q (.ret, E) := by
      intro E hE hf
      cases hE
      exact hQ.2 hf
    have hQ2 : ∀ E, out_nt n m a b k (.exit 0) = some E → allI ((fun k => a k == b k)) n = true → Q (.exit 0, E) := by
      intro E hE hf
      cases hE
      exact hQ.1 hf
    simp only [Tree.sat, allP, true_and, and_true, decide_eq_true_eq, decide_eq_false_iff_not, inI64, Int.toNat_natCast]
    clear e
    repeat' first | with_reducible apply And.intro | with_reducible intro _
    all_goals first | exact True.intro | omega | exact hQ1 _ (by assumption) (hbad (by omega) (by simp_all)) | exact hQ2 _ (by assumption) (hend (by omega)) | exact hgood (by simp_all) _ (by assumption)

set_option maxRecDepth 100000 in
theorem ints_at (n m : Nat) (a b : Nat → Int) (pre0 : n ≤ 100000) : SoundAt Try.prog 55 [.lst 1 n (fun k => [i (a k)]), .lst 1 m (fun k => [i (b k)])] (bl (decide (n = m) && allI (fun k => a k == b k) n)) := by
  refine soundAt_fin (G := []) (L := [needSp [n ≤ 100000, n = m] (LS_nt n m a b)]) (SoundG.nil _) mixed Try.func55 (show Try.f55.body = some (bodyOf Try.f55) by kernel_rfl) (one_loop (fun cj hcj => by
    have e : loopAt (bodyOf Try.f55) 0 = some (.loop B_nt) := by kernel_rfl
    rw [e] at hcj; cases hcj
    exact needSp_sound (fun h => nt_ls n m a b h.1 h.2))) (t := (Tree.branch ((↑n : Int) != (↑m : Int)) (Tree.leaf (RV.x (Value.bool false))) (Tree.need [n ≤ 100000, n = m] (Tree.need [(AV.lst 1 n fun k => [iI (a k)]) = AV.lst 1 n fun k => [iI (a k)], (AV.lst 1 m fun k => [iI (b k)]) = AV.lst 1 m fun k => [iI (b k)], (0 : Int) = (↑(0 : Nat) : Int)] (Tree.branch (allI (fun k => a k == b k) n) (Tree.leaf (RV.x (Value.bool true))) (Tree.leaf (RV.x (Value.bool false)))))))) (by kernel_rfl) ?_
  simp only [Tree.sat, allP, fitP, fitL, valEq, inI64, true_and, and_true, decide_eq_true_eq, decide_eq_false_iff_not, Int.natCast_zero, Int.toNat_natCast, bne_iff_ne, ne_eq]
  refine ⟨fun h => ?_, fun h => ?_⟩
  · have : n ≠ m := by intro h'; subst h'; simp at h
    simp [this]
  · have e : n = m := by
      rw [bne_eq_false_iff_eq] at h
      omega
    subst e
    refine ⟨⟨by omega, rfl⟩, fun h2 => ?_, fun h2 => ?_⟩
    · simp [h2]
    · simp [h2]

def S_ints : Sx.Spec := fun l => match l with
  | [.lst 1 n f, .lst 1 m g] => some ([isRec 1 n f, isRec 1 m g, n ≤ 100000], bl (decide (n = m) && allI (fun k => col 0 f k == col 0 g k) n))
  | _ => none

theorem ints_ok : SoundSpec Try.prog 55 S_ints := by
  refine ⟨⟨_, Try.func55, by kernel_rfl, by kernel_rfl⟩, ?_⟩
  intro avs ns res h hn
  unfold S_ints at h
  split at h
  · rename_i n f m g
    cases h
    have hr0 : isRec 1 n f := hn _ (by simp)
    have hr1 : isRec 1 m g := hn _ (by simp)
    exact (ints_at n m (col 0 f) (col 0 g) (hn _ (by simp))).same (.cons (.lst 1 n _ _ hr0) (.cons (.lst 1 m _ _ hr1) .nil))
  · cases h

def S_wakes : Sx.Spec := fun l => match l with
  | [] => some ([], bl true)
  | _ => none

set_option maxRecDepth 100000 in
theorem wakes_at  : SoundAt Try.prog 20 [] (bl true) := by
  refine soundAt_finX (G := [(62, S_glass), (61, S_threads), (29, S_Heights), (35, S_Places), (32, S_between), (21, S_Next), (55, S_ints)]) (X := { R := [(49, S_Knot)], H := [] }) (L := []) (SoundG.cons glass_ok (SoundG.cons threads_ok (SoundG.cons Heights_ok (SoundG.cons Places_ok (SoundG.cons between_ok (SoundG.cons Next_ok (SoundG.cons ints_ok (SoundG.nil _)))))))) (SoundX.of (SoundRL.cons Knot_okR (SoundRL.nil _)) (SoundHL.nil _)) mixed Try.func20 (show Try.f20.body = some (bodyOf Try.f20) by kernel_rfl) noLoopsS (t := (Tree.need [isRec 4 2 (chunk 4 [iI (0 : Int), iI (1 : Int), iI (40 : Int), iI (40 : Int), iI (2 : Int), iI (3 : Int), iI (48 : Int), iI (50 : Int)])] (Tree.need [isRec 4 2 (chunk 4 [iI (0 : Int), iI (1 : Int), iI (40 : Int), iI (40 : Int), iI (2 : Int), iI (3 : Int), iI (48 : Int), iI (50 : Int)])] (Tree.need [isRec 4 1 (chunk 4 [iI (0 : Int), iI (2 : Int), iI (40 : Int), iI (40 : Int)])] (Tree.need [isRec 4 3 (chunk 4 [iI (0 : Int), iI (1 : Int), iI (40 : Int), iI (40 : Int), iI (2 : Int), iI (3 : Int), iI (48 : Int), iI (50 : Int), iI (col 0 (chunk 4 [iI (0 : Int), iI (2 : Int), iI (40 : Int), iI (40 : Int)]) 0), iI (col 1 (chunk 4 [iI (0 : Int), iI (2 : Int), iI (40 : Int), iI (40 : Int)]) 0), iI (col 2 (chunk 4 [iI (0 : Int), iI (2 : Int), iI (40 : Int), iI (40 : Int)]) 0), iI (col 3 (chunk 4 [iI (0 : Int), iI (2 : Int), iI (40 : Int), iI (40 : Int)]) 0)])] (Tree.branch (eB (4 : Int) (100 : Int) (20 : Int) (30 : Int) 2 (col 0 (chunk 4 [iI (0 : Int), iI (1 : Int), iI (40 : Int), iI (40 : Int), iI (2 : Int), iI (3 : Int), iI (48 : Int), iI (50 : Int)])) (col 1 (chunk 4 [iI (0 : Int), iI (1 : Int), iI (40 : Int), iI (40 : Int), iI (2 : Int), iI (3 : Int), iI (48 : Int), iI (50 : Int)])) (col 2 (chunk 4 [iI (0 : Int), iI (1 : Int), iI (40 : Int), iI (40 : Int), iI (2 : Int), iI (3 : Int), iI (48 : Int), iI (50 : Int)])) (col 3 (chunk 4 [iI (0 : Int), iI (1 : Int), iI (40 : Int), iI (40 : Int), iI (2 : Int), iI (3 : Int), iI (48 : Int), iI (50 : Int)])) == (0 : Int)) (Tree.branch ((↑(lenB (4 : Int) (100 : Int) (20 : Int) (30 : Int) 2 (col 0 (chunk 4 [iI (0 : Int), iI (1 : Int), iI (40 : Int), iI (40 : Int), iI (2 : Int), iI (3 : Int), iI (48 : Int), iI (50 : Int)])) (col 1 (chunk 4 [iI (0 : Int), iI (1 : Int), iI (40 : Int), iI (40 : Int), iI (2 : Int), iI (3 : Int), iI (48 : Int), iI (50 : Int)])) (col 2 (chunk 4 [iI (0 : Int), iI (1 : Int), iI (40 : Int), iI (40 : Int), iI (2 : Int), iI (3 : Int), iI (48 : Int), iI (50 : Int)])) (col 3 (chunk 4 [iI (0 : Int), iI (1 : Int), iI (40 : Int), iI (40 : Int), iI (2 : Int), iI (3 : Int), iI (48 : Int), iI (50 : Int)]))) : Int) == (5 : Int)) (Tree.need [(0 : Int) ≤ (1 : Int) ∧ (1 : Int) < (↑(lenB (4 : Int) (100 : Int) (20 : Int) (30 : Int) 2 (col 0 (chunk 4 [iI (0 : Int), iI (1 : Int), iI (40 : Int), iI (40 : Int), iI (2 : Int), iI (3 : Int), iI (48 : Int), iI (50 : Int)])) (col 1 (chunk 4 [iI (0 : Int), iI (1 : Int), iI (40 : Int), iI (40 : Int), iI (2 : Int), iI (3 : Int), iI (48 : Int), iI (50 : Int)])) (col 2 (chunk 4 [iI (0 : Int), iI (1 : Int), iI (40 : Int), iI (40 : Int), iI (2 : Int), iI (3 : Int), iI (48 : Int), iI (50 : Int)])) (col 3 (chunk 4 [iI (0 : Int), iI (1 : Int), iI (40 : Int), iI (40 : Int), iI (2 : Int), iI (3 : Int), iI (48 : Int), iI (50 : Int)]))) : Int)] (Tree.branch (-fwB (4 : Int) (100 : Int) (20 : Int) (30 : Int) 2 (col 0 (chunk 4 [iI (0 : Int), iI (1 : Int), iI (40 : Int), iI (40 : Int), iI (2 : Int), iI (3 : Int), iI (48 : Int), iI (50 : Int)])) (col 1 (chunk 4 [iI (0 : Int), iI (1 : Int), iI (40 : Int), iI (40 : Int), iI (2 : Int), iI (3 : Int), iI (48 : Int), iI (50 : Int)])) (col 2 (chunk 4 [iI (0 : Int), iI (1 : Int), iI (40 : Int), iI (40 : Int), iI (2 : Int), iI (3 : Int), iI (48 : Int), iI (50 : Int)])) (col 3 (chunk 4 [iI (0 : Int), iI (1 : Int), iI (40 : Int), iI (40 : Int), iI (2 : Int), iI (3 : Int), iI (48 : Int), iI (50 : Int)])) (Int.toNat (1 : Int)) 0 == (20 : Int) && (fwB (4 : Int) (100 : Int) (20 : Int) (30 : Int) 2 (col 0 (chunk 4 [iI (0 : Int), iI (1 : Int), iI (40 : Int), iI (40 : Int), iI (2 : Int), iI (3 : Int), iI (48 : Int), iI (50 : Int)])) (col 1 (chunk 4 [iI (0 : Int), iI (1 : Int), iI (40 : Int), iI (40 : Int), iI (2 : Int), iI (3 : Int), iI (48 : Int), iI (50 : Int)])) (col 2 (chunk 4 [iI (0 : Int), iI (1 : Int), iI (40 : Int), iI (40 : Int), iI (2 : Int), iI (3 : Int), iI (48 : Int), iI (50 : Int)])) (col 3 (chunk 4 [iI (0 : Int), iI (1 : Int), iI (40 : Int), iI (40 : Int), iI (2 : Int), iI (3 : Int), iI (48 : Int), iI (50 : Int)])) 0 (Int.toNat (1 : Int)) == (30 : Int) && true)) (Tree.need [(0 : Int) ≤ (2 : Int) ∧ (2 : Int) < (↑(lenB (4 : Int) (100 : Int) (20 : Int) (30 : Int) 2 (col 0 (chunk 4 [iI (0 : Int), iI (1 : Int), iI (40 : Int), iI (40 : Int), iI (2 : Int), iI (3 : Int), iI (48 : Int), iI (50 : Int)])) (col 1 (chunk 4 [iI (0 : Int), iI (1 : Int), iI (40 : Int), iI (40 : Int), iI (2 : Int), iI (3 : Int), iI (48 : Int), iI (50 : Int)])) (col 2 (chunk 4 [iI (0 : Int), iI (1 : Int), iI (40 : Int), iI (40 : Int), iI (2 : Int), iI (3 : Int), iI (48 : Int), iI (50 : Int)])) (col 3 (chunk 4 [iI (0 : Int), iI (1 : Int), iI (40 : Int), iI (40 : Int), iI (2 : Int), iI (3 : Int), iI (48 : Int), iI (50 : Int)]))) : Int)] (Tree.branch (-fwB (4 : Int) (100 : Int) (20 : Int) (30 : Int) 2 (col 0 (chunk 4 [iI (0 : Int), iI (1 : Int), iI (40 : Int), iI (40 : Int), iI (2 : Int), iI (3 : Int), iI (48 : Int), iI (50 : Int)])) (col 1 (chunk 4 [iI (0 : Int), iI (1 : Int), iI (40 : Int), iI (40 : Int), iI (2 : Int), iI (3 : Int), iI (48 : Int), iI (50 : Int)])) (col 2 (chunk 4 [iI (0 : Int), iI (1 : Int), iI (40 : Int), iI (40 : Int), iI (2 : Int), iI (3 : Int), iI (48 : Int), iI (50 : Int)])) (col 3 (chunk 4 [iI (0 : Int), iI (1 : Int), iI (40 : Int), iI (40 : Int), iI (2 : Int), iI (3 : Int), iI (48 : Int), iI (50 : Int)])) (Int.toNat (2 : Int)) 0 == (41 : Int) && (fwB (4 : Int) (100 : Int) (20 : Int) (30 : Int) 2 (col 0 (chunk 4 [iI (0 : Int), iI (1 : Int), iI (40 : Int), iI (40 : Int), iI (2 : Int), iI (3 : Int), iI (48 : Int), iI (50 : Int)])) (col 1 (chunk 4 [iI (0 : Int), iI (1 : Int), iI (40 : Int), iI (40 : Int), iI (2 : Int), iI (3 : Int), iI (48 : Int), iI (50 : Int)])) (col 2 (chunk 4 [iI (0 : Int), iI (1 : Int), iI (40 : Int), iI (40 : Int), iI (2 : Int), iI (3 : Int), iI (48 : Int), iI (50 : Int)])) (col 3 (chunk 4 [iI (0 : Int), iI (1 : Int), iI (40 : Int), iI (40 : Int), iI (2 : Int), iI (3 : Int), iI (48 : Int), iI (50 : Int)])) 0 (Int.toNat (2 : Int)) == (51 : Int) && true)) (Tree.need [(0 : Int) ≤ (3 : Int) ∧ (3 : Int) < (↑(lenB (4 : Int) (100 : Int) (20 : Int) (30 : Int) 2 (col 0 (chunk 4 [iI (0 : Int), iI (1 : Int), iI (40 : Int), iI (40 : Int), iI (2 : Int), iI (3 : Int), iI (48 : Int), iI (50 : Int)])) (col 1 (chunk 4 [iI (0 : Int), iI (1 : Int), iI (40 : Int), iI (40 : Int), iI (2 : Int), iI (3 : Int), iI (48 : Int), iI (50 : Int)])) (col 2 (chunk 4 [iI (0 : Int), iI (1 : Int), iI (40 : Int), iI (40 : Int), iI (2 : Int), iI (3 : Int), iI (48 : Int), iI (50 : Int)])) (col 3 (chunk 4 [iI (0 : Int), iI (1 : Int), iI (40 : Int), iI (40 : Int), iI (2 : Int), iI (3 : Int), iI (48 : Int), iI (50 : Int)]))) : Int)] (Tree.branch (-fwB (4 : Int) (100 : Int) (20 : Int) (30 : Int) 2 (col 0 (chunk 4 [iI (0 : Int), iI (1 : Int), iI (40 : Int), iI (40 : Int), iI (2 : Int), iI (3 : Int), iI (48 : Int), iI (50 : Int)])) (col 1 (chunk 4 [iI (0 : Int), iI (1 : Int), iI (40 : Int), iI (40 : Int), iI (2 : Int), iI (3 : Int), iI (48 : Int), iI (50 : Int)])) (col 2 (chunk 4 [iI (0 : Int), iI (1 : Int), iI (40 : Int), iI (40 : Int), iI (2 : Int), iI (3 : Int), iI (48 : Int), iI (50 : Int)])) (col 3 (chunk 4 [iI (0 : Int), iI (1 : Int), iI (40 : Int), iI (40 : Int), iI (2 : Int), iI (3 : Int), iI (48 : Int), iI (50 : Int)])) (Int.toNat (3 : Int)) 0 == (70 : Int) && (fwB (4 : Int) (100 : Int) (20 : Int) (30 : Int) 2 (col 0 (chunk 4 [iI (0 : Int), iI (1 : Int), iI (40 : Int), iI (40 : Int), iI (2 : Int), iI (3 : Int), iI (48 : Int), iI (50 : Int)])) (col 1 (chunk 4 [iI (0 : Int), iI (1 : Int), iI (40 : Int), iI (40 : Int), iI (2 : Int), iI (3 : Int), iI (48 : Int), iI (50 : Int)])) (col 2 (chunk 4 [iI (0 : Int), iI (1 : Int), iI (40 : Int), iI (40 : Int), iI (2 : Int), iI (3 : Int), iI (48 : Int), iI (50 : Int)])) (col 3 (chunk 4 [iI (0 : Int), iI (1 : Int), iI (40 : Int), iI (40 : Int), iI (2 : Int), iI (3 : Int), iI (48 : Int), iI (50 : Int)])) 0 (Int.toNat (3 : Int)) == (80 : Int) && true)) (Tree.branch (eB (4 : Int) (100 : Int) (20 : Int) (30 : Int) 2 (col 0 (chunk 4 [iI (0 : Int), iI (1 : Int), iI (40 : Int), iI (40 : Int), iI (2 : Int), iI (3 : Int), iI (48 : Int), iI (50 : Int)])) (col 1 (chunk 4 [iI (0 : Int), iI (1 : Int), iI (40 : Int), iI (40 : Int), iI (2 : Int), iI (3 : Int), iI (48 : Int), iI (50 : Int)])) (col 2 (chunk 4 [iI (0 : Int), iI (1 : Int), iI (40 : Int), iI (40 : Int), iI (2 : Int), iI (3 : Int), iI (48 : Int), iI (50 : Int)])) (col 3 (chunk 4 [iI (0 : Int), iI (1 : Int), iI (40 : Int), iI (40 : Int), iI (2 : Int), iI (3 : Int), iI (48 : Int), iI (50 : Int)])) == (0 : Int)) (Tree.branch ((↑(lenB (4 : Int) (100 : Int) (20 : Int) (30 : Int) 2 (col 0 (chunk 4 [iI (0 : Int), iI (1 : Int), iI (40 : Int), iI (40 : Int), iI (2 : Int), iI (3 : Int), iI (48 : Int), iI (50 : Int)])) (col 1 (chunk 4 [iI (0 : Int), iI (1 : Int), iI (40 : Int), iI (40 : Int), iI (2 : Int), iI (3 : Int), iI (48 : Int), iI (50 : Int)])) (col 2 (chunk 4 [iI (0 : Int), iI (1 : Int), iI (40 : Int), iI (40 : Int), iI (2 : Int), iI (3 : Int), iI (48 : Int), iI (50 : Int)])) (col 3 (chunk 4 [iI (0 : Int), iI (1 : Int), iI (40 : Int), iI (40 : Int), iI (2 : Int), iI (3 : Int), iI (48 : Int), iI (50 : Int)]))) : Int) == (5 : Int)) (Tree.need [(0 : Int) ≤ (2 : Int) ∧ (2 : Int) < (↑(lenB (4 : Int) (100 : Int) (20 : Int) (30 : Int) 2 (col 0 (chunk 4 [iI (0 : Int), iI (1 : Int), iI (40 : Int), iI (40 : Int), iI (2 : Int), iI (3 : Int), iI (48 : Int), iI (50 : Int)])) (col 1 (chunk 4 [iI (0 : Int), iI (1 : Int), iI (40 : Int), iI (40 : Int), iI (2 : Int), iI (3 : Int), iI (48 : Int), iI (50 : Int)])) (col 2 (chunk 4 [iI (0 : Int), iI (1 : Int), iI (40 : Int), iI (40 : Int), iI (2 : Int), iI (3 : Int), iI (48 : Int), iI (50 : Int)])) (col 3 (chunk 4 [iI (0 : Int), iI (1 : Int), iI (40 : Int), iI (40 : Int), iI (2 : Int), iI (3 : Int), iI (48 : Int), iI (50 : Int)]))) : Int)] (Tree.branch (plB (4 : Int) (100 : Int) (-fwB (4 : Int) (100 : Int) (20 : Int) (30 : Int) 2 (col 0 (chunk 4 [iI (0 : Int), iI (1 : Int), iI (40 : Int), iI (40 : Int), iI (2 : Int), iI (3 : Int), iI (48 : Int), iI (50 : Int)])) (col 1 (chunk 4 [iI (0 : Int), iI (1 : Int), iI (40 : Int), iI (40 : Int), iI (2 : Int), iI (3 : Int), iI (48 : Int), iI (50 : Int)])) (col 2 (chunk 4 [iI (0 : Int), iI (1 : Int), iI (40 : Int), iI (40 : Int), iI (2 : Int), iI (3 : Int), iI (48 : Int), iI (50 : Int)])) (col 3 (chunk 4 [iI (0 : Int), iI (1 : Int), iI (40 : Int), iI (40 : Int), iI (2 : Int), iI (3 : Int), iI (48 : Int), iI (50 : Int)])) (Int.toNat (2 : Int)) 0) == (1640 : Int) && (plB (4 : Int) (100 : Int) (fwB (4 : Int) (100 : Int) (20 : Int) (30 : Int) 2 (col 0 (chunk 4 [iI (0 : Int), iI (1 : Int), iI (40 : Int), iI (40 : Int), iI (2 : Int), iI (3 : Int), iI (48 : Int), iI (50 : Int)])) (col 1 (chunk 4 [iI (0 : Int), iI (1 : Int), iI (40 : Int), iI (40 : Int), iI (2 : Int), iI (3 : Int), iI (48 : Int), iI (50 : Int)])) (col 2 (chunk 4 [iI (0 : Int), iI (1 : Int), iI (40 : Int), iI (40 : Int), iI (2 : Int), iI (3 : Int), iI (48 : Int), iI (50 : Int)])) (col 3 (chunk 4 [iI (0 : Int), iI (1 : Int), iI (40 : Int), iI (40 : Int), iI (2 : Int), iI (3 : Int), iI (48 : Int), iI (50 : Int)])) 0 (Int.toNat (2 : Int))) == (2040 : Int) && true)) (Tree.branch (knE (4 : Int) (100 : Int) (20 : Int) (30 : Int) 3 (col 0 (chunk 4 [iI (0 : Int), iI (1 : Int), iI (40 : Int), iI (40 : Int), iI (2 : Int), iI (3 : Int), iI (48 : Int), iI (50 : Int), iI (col 0 (chunk 4 [iI (0 : Int), iI (2 : Int), iI (40 : Int), iI (40 : Int)]) 0), iI (col 1 (chunk 4 [iI (0 : Int), iI (2 : Int), iI (40 : Int), iI (40 : Int)]) 0), iI (col 2 (chunk 4 [iI (0 : Int), iI (2 : Int), iI (40 : Int), iI (40 : Int)]) 0), iI (col 3 (chunk 4 [iI (0 : Int), iI (2 : Int), iI (40 : Int), iI (40 : Int)]) 0)])) (col 1 (chunk 4 [iI (0 : Int), iI (1 : Int), iI (40 : Int), iI (40 : Int), iI (2 : Int), iI (3 : Int), iI (48 : Int), iI (50 : Int), iI (col 0 (chunk 4 [iI (0 : Int), iI (2 : Int), iI (40 : Int), iI (40 : Int)]) 0), iI (col 1 (chunk 4 [iI (0 : Int), iI (2 : Int), iI (40 : Int), iI (40 : Int)]) 0), iI (col 2 (chunk 4 [iI (0 : Int), iI (2 : Int), iI (40 : Int), iI (40 : Int)]) 0), iI (col 3 (chunk 4 [iI (0 : Int), iI (2 : Int), iI (40 : Int), iI (40 : Int)]) 0)])) (col 2 (chunk 4 [iI (0 : Int), iI (1 : Int), iI (40 : Int), iI (40 : Int), iI (2 : Int), iI (3 : Int), iI (48 : Int), iI (50 : Int), iI (col 0 (chunk 4 [iI (0 : Int), iI (2 : Int), iI (40 : Int), iI (40 : Int)]) 0), iI (col 1 (chunk 4 [iI (0 : Int), iI (2 : Int), iI (40 : Int), iI (40 : Int)]) 0), iI (col 2 (chunk 4 [iI (0 : Int), iI (2 : Int), iI (40 : Int), iI (40 : Int)]) 0), iI (col 3 (chunk 4 [iI (0 : Int), iI (2 : Int), iI (40 : Int), iI (40 : Int)]) 0)])) (col 3 (chunk 4 [iI (0 : Int), iI (1 : Int), iI (40 : Int), iI (40 : Int), iI (2 : Int), iI (3 : Int), iI (48 : Int), iI (50 : Int), iI (col 0 (chunk 4 [iI (0 : Int), iI (2 : Int), iI (40 : Int), iI (40 : Int)]) 0), iI (col 1 (chunk 4 [iI (0 : Int), iI (2 : Int), iI (40 : Int), iI (40 : Int)]) 0), iI (col 2 (chunk 4 [iI (0 : Int), iI (2 : Int), iI (40 : Int), iI (40 : Int)]) 0), iI (col 3 (chunk 4 [iI (0 : Int), iI (2 : Int), iI (40 : Int), iI (40 : Int)]) 0)])) == (0 : Int)) (Tree.need [isRec 1 (knL (4 : Int) (100 : Int) (20 : Int) (30 : Int) 3 (col 0 (chunk 4 [iI (0 : Int), iI (1 : Int), iI (40 : Int), iI (40 : Int), iI (2 : Int), iI (3 : Int), iI (48 : Int), iI (50 : Int), iI (col 0 (chunk 4 [iI (0 : Int), iI (2 : Int), iI (40 : Int), iI (40 : Int)]) 0), iI (col 1 (chunk 4 [iI (0 : Int), iI (2 : Int), iI (40 : Int), iI (40 : Int)]) 0), iI (col 2 (chunk 4 [iI (0 : Int), iI (2 : Int), iI (40 : Int), iI (40 : Int)]) 0), iI (col 3 (chunk 4 [iI (0 : Int), iI (2 : Int), iI (40 : Int), iI (40 : Int)]) 0)])) (col 1 (chunk 4 [iI (0 : Int), iI (1 : Int), iI (40 : Int), iI (40 : Int), iI (2 : Int), iI (3 : Int), iI (48 : Int), iI (50 : Int), iI (col 0 (chunk 4 [iI (0 : Int), iI (2 : Int), iI (40 : Int), iI (40 : Int)]) 0), iI (col 1 (chunk 4 [iI (0 : Int), iI (2 : Int), iI (40 : Int), iI (40 : Int)]) 0), iI (col 2 (chunk 4 [iI (0 : Int), iI (2 : Int), iI (40 : Int), iI (40 : Int)]) 0), iI (col 3 (chunk 4 [iI (0 : Int), iI (2 : Int), iI (40 : Int), iI (40 : Int)]) 0)])) (col 2 (chunk 4 [iI (0 : Int), iI (1 : Int), iI (40 : Int), iI (40 : Int), iI (2 : Int), iI (3 : Int), iI (48 : Int), iI (50 : Int), iI (col 0 (chunk 4 [iI (0 : Int), iI (2 : Int), iI (40 : Int), iI (40 : Int)]) 0), iI (col 1 (chunk 4 [iI (0 : Int), iI (2 : Int), iI (40 : Int), iI (40 : Int)]) 0), iI (col 2 (chunk 4 [iI (0 : Int), iI (2 : Int), iI (40 : Int), iI (40 : Int)]) 0), iI (col 3 (chunk 4 [iI (0 : Int), iI (2 : Int), iI (40 : Int), iI (40 : Int)]) 0)])) (col 3 (chunk 4 [iI (0 : Int), iI (1 : Int), iI (40 : Int), iI (40 : Int), iI (2 : Int), iI (3 : Int), iI (48 : Int), iI (50 : Int), iI (col 0 (chunk 4 [iI (0 : Int), iI (2 : Int), iI (40 : Int), iI (40 : Int)]) 0), iI (col 1 (chunk 4 [iI (0 : Int), iI (2 : Int), iI (40 : Int), iI (40 : Int)]) 0), iI (col 2 (chunk 4 [iI (0 : Int), iI (2 : Int), iI (40 : Int), iI (40 : Int)]) 0), iI (col 3 (chunk 4 [iI (0 : Int), iI (2 : Int), iI (40 : Int), iI (40 : Int)]) 0)]))) fun j => [i (knF (4 : Int) (100 : Int) (20 : Int) (30 : Int) 3 (col 0 (chunk 4 [iI (0 : Int), iI (1 : Int), iI (40 : Int), iI (40 : Int), iI (2 : Int), iI (3 : Int), iI (48 : Int), iI (50 : Int), iI (col 0 (chunk 4 [iI (0 : Int), iI (2 : Int), iI (40 : Int), iI (40 : Int)]) 0), iI (col 1 (chunk 4 [iI (0 : Int), iI (2 : Int), iI (40 : Int), iI (40 : Int)]) 0), iI (col 2 (chunk 4 [iI (0 : Int), iI (2 : Int), iI (40 : Int), iI (40 : Int)]) 0), iI (col 3 (chunk 4 [iI (0 : Int), iI (2 : Int), iI (40 : Int), iI (40 : Int)]) 0)])) (col 1 (chunk 4 [iI (0 : Int), iI (1 : Int), iI (40 : Int), iI (40 : Int), iI (2 : Int), iI (3 : Int), iI (48 : Int), iI (50 : Int), iI (col 0 (chunk 4 [iI (0 : Int), iI (2 : Int), iI (40 : Int), iI (40 : Int)]) 0), iI (col 1 (chunk 4 [iI (0 : Int), iI (2 : Int), iI (40 : Int), iI (40 : Int)]) 0), iI (col 2 (chunk 4 [iI (0 : Int), iI (2 : Int), iI (40 : Int), iI (40 : Int)]) 0), iI (col 3 (chunk 4 [iI (0 : Int), iI (2 : Int), iI (40 : Int), iI (40 : Int)]) 0)])) (col 2 (chunk 4 [iI (0 : Int), iI (1 : Int), iI (40 : Int), iI (40 : Int), iI (2 : Int), iI (3 : Int), iI (48 : Int), iI (50 : Int), iI (col 0 (chunk 4 [iI (0 : Int), iI (2 : Int), iI (40 : Int), iI (40 : Int)]) 0), iI (col 1 (chunk 4 [iI (0 : Int), iI (2 : Int), iI (40 : Int), iI (40 : Int)]) 0), iI (col 2 (chunk 4 [iI (0 : Int), iI (2 : Int), iI (40 : Int), iI (40 : Int)]) 0), iI (col 3 (chunk 4 [iI (0 : Int), iI (2 : Int), iI (40 : Int), iI (40 : Int)]) 0)])) (col 3 (chunk 4 [iI (0 : Int), iI (1 : Int), iI (40 : Int), iI (40 : Int), iI (2 : Int), iI (3 : Int), iI (48 : Int), iI (50 : Int), iI (col 0 (chunk 4 [iI (0 : Int), iI (2 : Int), iI (40 : Int), iI (40 : Int)]) 0), iI (col 1 (chunk 4 [iI (0 : Int), iI (2 : Int), iI (40 : Int), iI (40 : Int)]) 0), iI (col 2 (chunk 4 [iI (0 : Int), iI (2 : Int), iI (40 : Int), iI (40 : Int)]) 0), iI (col 3 (chunk 4 [iI (0 : Int), iI (2 : Int), iI (40 : Int), iI (40 : Int)]) 0)])) 3 j)], isRec 1 2 (chunk 1 [iI (0 : Int), iI (2 : Int)]), knL (4 : Int) (100 : Int) (20 : Int) (30 : Int) 3 (col 0 (chunk 4 [iI (0 : Int), iI (1 : Int), iI (40 : Int), iI (40 : Int), iI (2 : Int), iI (3 : Int), iI (48 : Int), iI (50 : Int), iI (col 0 (chunk 4 [iI (0 : Int), iI (2 : Int), iI (40 : Int), iI (40 : Int)]) 0), iI (col 1 (chunk 4 [iI (0 : Int), iI (2 : Int), iI (40 : Int), iI (40 : Int)]) 0), iI (col 2 (chunk 4 [iI (0 : Int), iI (2 : Int), iI (40 : Int), iI (40 : Int)]) 0), iI (col 3 (chunk 4 [iI (0 : Int), iI (2 : Int), iI (40 : Int), iI (40 : Int)]) 0)])) (col 1 (chunk 4 [iI (0 : Int), iI (1 : Int), iI (40 : Int), iI (40 : Int), iI (2 : Int), iI (3 : Int), iI (48 : Int), iI (50 : Int), iI (col 0 (chunk 4 [iI (0 : Int), iI (2 : Int), iI (40 : Int), iI (40 : Int)]) 0), iI (col 1 (chunk 4 [iI (0 : Int), iI (2 : Int), iI (40 : Int), iI (40 : Int)]) 0), iI (col 2 (chunk 4 [iI (0 : Int), iI (2 : Int), iI (40 : Int), iI (40 : Int)]) 0), iI (col 3 (chunk 4 [iI (0 : Int), iI (2 : Int), iI (40 : Int), iI (40 : Int)]) 0)])) (col 2 (chunk 4 [iI (0 : Int), iI (1 : Int), iI (40 : Int), iI (40 : Int), iI (2 : Int), iI (3 : Int), iI (48 : Int), iI (50 : Int), iI (col 0 (chunk 4 [iI (0 : Int), iI (2 : Int), iI (40 : Int), iI (40 : Int)]) 0), iI (col 1 (chunk 4 [iI (0 : Int), iI (2 : Int), iI (40 : Int), iI (40 : Int)]) 0), iI (col 2 (chunk 4 [iI (0 : Int), iI (2 : Int), iI (40 : Int), iI (40 : Int)]) 0), iI (col 3 (chunk 4 [iI (0 : Int), iI (2 : Int), iI (40 : Int), iI (40 : Int)]) 0)])) (col 3 (chunk 4 [iI (0 : Int), iI (1 : Int), iI (40 : Int), iI (40 : Int), iI (2 : Int), iI (3 : Int), iI (48 : Int), iI (50 : Int), iI (col 0 (chunk 4 [iI (0 : Int), iI (2 : Int), iI (40 : Int), iI (40 : Int)]) 0), iI (col 1 (chunk 4 [iI (0 : Int), iI (2 : Int), iI (40 : Int), iI (40 : Int)]) 0), iI (col 2 (chunk 4 [iI (0 : Int), iI (2 : Int), iI (40 : Int), iI (40 : Int)]) 0), iI (col 3 (chunk 4 [iI (0 : Int), iI (2 : Int), iI (40 : Int), iI (40 : Int)]) 0)])) ≤ 100000] (Tree.branch (decide (knL (4 : Int) (100 : Int) (20 : Int) (30 : Int) 3 (col 0 (chunk 4 [iI (0 : Int), iI (1 : Int), iI (40 : Int), iI (40 : Int), iI (2 : Int), iI (3 : Int), iI (48 : Int), iI (50 : Int), iI (col 0 (chunk 4 [iI (0 : Int), iI (2 : Int), iI (40 : Int), iI (40 : Int)]) 0), iI (col 1 (chunk 4 [iI (0 : Int), iI (2 : Int), iI (40 : Int), iI (40 : Int)]) 0), iI (col 2 (chunk 4 [iI (0 : Int), iI (2 : Int), iI (40 : Int), iI (40 : Int)]) 0), iI (col 3 (chunk 4 [iI (0 : Int), iI (2 : Int), iI (40 : Int), iI (40 : Int)]) 0)])) (col 1 (chunk 4 [iI (0 : Int), iI (1 : Int), iI (40 : Int), iI (40 : Int), iI (2 : Int), iI (3 : Int), iI (48 : Int), iI (50 : Int), iI (col 0 (chunk 4 [iI (0 : Int), iI (2 : Int), iI (40 : Int), iI (40 : Int)]) 0), iI (col 1 (chunk 4 [iI (0 : Int), iI (2 : Int), iI (40 : Int), iI (40 : Int)]) 0), iI (col 2 (chunk 4 [iI (0 : Int), iI (2 : Int), iI (40 : Int), iI (40 : Int)]) 0), iI (col 3 (chunk 4 [iI (0 : Int), iI (2 : Int), iI (40 : Int), iI (40 : Int)]) 0)])) (col 2 (chunk 4 [iI (0 : Int), iI (1 : Int), iI (40 : Int), iI (40 : Int), iI (2 : Int), iI (3 : Int), iI (48 : Int), iI (50 : Int), iI (col 0 (chunk 4 [iI (0 : Int), iI (2 : Int), iI (40 : Int), iI (40 : Int)]) 0), iI (col 1 (chunk 4 [iI (0 : Int), iI (2 : Int), iI (40 : Int), iI (40 : Int)]) 0), iI (col 2 (chunk 4 [iI (0 : Int), iI (2 : Int), iI (40 : Int), iI (40 : Int)]) 0), iI (col 3 (chunk 4 [iI (0 : Int), iI (2 : Int), iI (40 : Int), iI (40 : Int)]) 0)])) (col 3 (chunk 4 [iI (0 : Int), iI (1 : Int), iI (40 : Int), iI (40 : Int), iI (2 : Int), iI (3 : Int), iI (48 : Int), iI (50 : Int), iI (col 0 (chunk 4 [iI (0 : Int), iI (2 : Int), iI (40 : Int), iI (40 : Int)]) 0), iI (col 1 (chunk 4 [iI (0 : Int), iI (2 : Int), iI (40 : Int), iI (40 : Int)]) 0), iI (col 2 (chunk 4 [iI (0 : Int), iI (2 : Int), iI (40 : Int), iI (40 : Int)]) 0), iI (col 3 (chunk 4 [iI (0 : Int), iI (2 : Int), iI (40 : Int), iI (40 : Int)]) 0)])) = 2) && (true && Decidable.rec (fun h => Prod.snd (knS._f (4 : Int) (100 : Int) (20 : Int) (30 : Int) 3 (col 0 (chunk 4 [iI (0 : Int), iI (1 : Int), iI (40 : Int), iI (40 : Int), iI (2 : Int), iI (3 : Int), iI (48 : Int), iI (50 : Int), iI (col 0 (chunk 4 [iI (0 : Int), iI (2 : Int), iI (40 : Int), iI (40 : Int)]) 0), iI (col 1 (chunk 4 [iI (0 : Int), iI (2 : Int), iI (40 : Int), iI (40 : Int)]) 0), iI (col 2 (chunk 4 [iI (0 : Int), iI (2 : Int), iI (40 : Int), iI (40 : Int)]) 0), iI (col 3 (chunk 4 [iI (0 : Int), iI (2 : Int), iI (40 : Int), iI (40 : Int)]) 0)])) (col 1 (chunk 4 [iI (0 : Int), iI (1 : Int), iI (40 : Int), iI (40 : Int), iI (2 : Int), iI (3 : Int), iI (48 : Int), iI (50 : Int), iI (col 0 (chunk 4 [iI (0 : Int), iI (2 : Int), iI (40 : Int), iI (40 : Int)]) 0), iI (col 1 (chunk 4 [iI (0 : Int), iI (2 : Int), iI (40 : Int), iI (40 : Int)]) 0), iI (col 2 (chunk 4 [iI (0 : Int), iI (2 : Int), iI (40 : Int), iI (40 : Int)]) 0), iI (col 3 (chunk 4 [iI (0 : Int), iI (2 : Int), iI (40 : Int), iI (40 : Int)]) 0)])) (col 2 (chunk 4 [iI (0 : Int), iI (1 : Int), iI (40 : Int), iI (40 : Int), iI (2 : Int), iI (3 : Int), iI (48 : Int), iI (50 : Int), iI (col 0 (chunk 4 [iI (0 : Int), iI (2 : Int), iI (40 : Int), iI (40 : Int)]) 0), iI (col 1 (chunk 4 [iI (0 : Int), iI (2 : Int), iI (40 : Int), iI (40 : Int)]) 0), iI (col 2 (chunk 4 [iI (0 : Int), iI (2 : Int), iI (40 : Int), iI (40 : Int)]) 0), iI (col 3 (chunk 4 [iI (0 : Int), iI (2 : Int), iI (40 : Int), iI (40 : Int)]) 0)])) (col 3 (chunk 4 [iI (0 : Int), iI (1 : Int), iI (40 : Int), iI (40 : Int), iI (2 : Int), iI (3 : Int), iI (48 : Int), iI (50 : Int), iI (col 0 (chunk 4 [iI (0 : Int), iI (2 : Int), iI (40 : Int), iI (40 : Int)]) 0), iI (col 1 (chunk 4 [iI (0 : Int), iI (2 : Int), iI (40 : Int), iI (40 : Int)]) 0), iI (col 2 (chunk 4 [iI (0 : Int), iI (2 : Int), iI (40 : Int), iI (40 : Int)]) 0), iI (col 3 (chunk 4 [iI (0 : Int), iI (2 : Int), iI (40 : Int), iI (40 : Int)]) 0)])) (Nat.succ (nat_lit 0)) (Nat.rec ⟨knS._f (4 : Int) (100 : Int) (20 : Int) (30 : Int) 3 (col 0 (chunk 4 [iI (0 : Int), iI (1 : Int), iI (40 : Int), iI (40 : Int), iI (2 : Int), iI (3 : Int), iI (48 : Int), iI (50 : Int), iI (col 0 (chunk 4 [iI (0 : Int), iI (2 : Int), iI (40 : Int), iI (40 : Int)]) 0), iI (col 1 (chunk 4 [iI (0 : Int), iI (2 : Int), iI (40 : Int), iI (40 : Int)]) 0), iI (col 2 (chunk 4 [iI (0 : Int), iI (2 : Int), iI (40 : Int), iI (40 : Int)]) 0), iI (col 3 (chunk 4 [iI (0 : Int), iI (2 : Int), iI (40 : Int), iI (40 : Int)]) 0)])) (col 1 (chunk 4 [iI (0 : Int), iI (1 : Int), iI (40 : Int), iI (40 : Int), iI (2 : Int), iI (3 : Int), iI (48 : Int), iI (50 : Int), iI (col 0 (chunk 4 [iI (0 : Int), iI (2 : Int), iI (40 : Int), iI (40 : Int)]) 0), iI (col 1 (chunk 4 [iI (0 : Int), iI (2 : Int), iI (40 : Int), iI (40 : Int)]) 0), iI (col 2 (chunk 4 [iI (0 : Int), iI (2 : Int), iI (40 : Int), iI (40 : Int)]) 0), iI (col 3 (chunk 4 [iI (0 : Int), iI (2 : Int), iI (40 : Int), iI (40 : Int)]) 0)])) (col 2 (chunk 4 [iI (0 : Int), iI (1 : Int), iI (40 : Int), iI (40 : Int), iI (2 : Int), iI (3 : Int), iI (48 : Int), iI (50 : Int), iI (col 0 (chunk 4 [iI (0 : Int), iI (2 : Int), iI (40 : Int), iI (40 : Int)]) 0), iI (col 1 (chunk 4 [iI (0 : Int), iI (2 : Int), iI (40 : Int), iI (40 : Int)]) 0), iI (col 2 (chunk 4 [iI (0 : Int), iI (2 : Int), iI (40 : Int), iI (40 : Int)]) 0), iI (col 3 (chunk 4 [iI (0 : Int), iI (2 : Int), iI (40 : Int), iI (40 : Int)]) 0)])) (col 3 (chunk 4 [iI (0 : Int), iI (1 : Int), iI (40 : Int), iI (40 : Int), iI (2 : Int), iI (3 : Int), iI (48 : Int), iI (50 : Int), iI (col 0 (chunk 4 [iI (0 : Int), iI (2 : Int), iI (40 : Int), iI (40 : Int)]) 0), iI (col 1 (chunk 4 [iI (0 : Int), iI (2 : Int), iI (40 : Int), iI (40 : Int)]) 0), iI (col 2 (chunk 4 [iI (0 : Int), iI (2 : Int), iI (40 : Int), iI (40 : Int)]) 0), iI (col 3 (chunk 4 [iI (0 : Int), iI (2 : Int), iI (40 : Int), iI (40 : Int)]) 0)])) Nat.zero PUnit.unit, PUnit.unit⟩ (fun n n_ih => ⟨knS._f (4 : Int) (100 : Int) (20 : Int) (30 : Int) 3 (col 0 (chunk 4 [iI (0 : Int), iI (1 : Int), iI (40 : Int), iI (40 : Int), iI (2 : Int), iI (3 : Int), iI (48 : Int), iI (50 : Int), iI (col 0 (chunk 4 [iI (0 : Int), iI (2 : Int), iI (40 : Int), iI (40 : Int)]) 0), iI (col 1 (chunk 4 [iI (0 : Int), iI (2 : Int), iI (40 : Int), iI (40 : Int)]) 0), iI (col 2 (chunk 4 [iI (0 : Int), iI (2 : Int), iI (40 : Int), iI (40 : Int)]) 0), iI (col 3 (chunk 4 [iI (0 : Int), iI (2 : Int), iI (40 : Int), iI (40 : Int)]) 0)])) (col 1 (chunk 4 [iI (0 : Int), iI (1 : Int), iI (40 : Int), iI (40 : Int), iI (2 : Int), iI (3 : Int), iI (48 : Int), iI (50 : Int), iI (col 0 (chunk 4 [iI (0 : Int), iI (2 : Int), iI (40 : Int), iI (40 : Int)]) 0), iI (col 1 (chunk 4 [iI (0 : Int), iI (2 : Int), iI (40 : Int), iI (40 : Int)]) 0), iI (col 2 (chunk 4 [iI (0 : Int), iI (2 : Int), iI (40 : Int), iI (40 : Int)]) 0), iI (col 3 (chunk 4 [iI (0 : Int), iI (2 : Int), iI (40 : Int), iI (40 : Int)]) 0)])) (col 2 (chunk 4 [iI (0 : Int), iI (1 : Int), iI (40 : Int), iI (40 : Int), iI (2 : Int), iI (3 : Int), iI (48 : Int), iI (50 : Int), iI (col 0 (chunk 4 [iI (0 : Int), iI (2 : Int), iI (40 : Int), iI (40 : Int)]) 0), iI (col 1 (chunk 4 [iI (0 : Int), iI (2 : Int), iI (40 : Int), iI (40 : Int)]) 0), iI (col 2 (chunk 4 [iI (0 : Int), iI (2 : Int), iI (40 : Int), iI (40 : Int)]) 0), iI (col 3 (chunk 4 [iI (0 : Int), iI (2 : Int), iI (40 : Int), iI (40 : Int)]) 0)])) (col 3 (chunk 4 [iI (0 : Int), iI (1 : Int), iI (40 : Int), iI (40 : Int), iI (2 : Int), iI (3 : Int), iI (48 : Int), iI (50 : Int), iI (col 0 (chunk 4 [iI (0 : Int), iI (2 : Int), iI (40 : Int), iI (40 : Int)]) 0), iI (col 1 (chunk 4 [iI (0 : Int), iI (2 : Int), iI (40 : Int), iI (40 : Int)]) 0), iI (col 2 (chunk 4 [iI (0 : Int), iI (2 : Int), iI (40 : Int), iI (40 : Int)]) 0), iI (col 3 (chunk 4 [iI (0 : Int), iI (2 : Int), iI (40 : Int), iI (40 : Int)]) 0)])) (Nat.succ n) n_ih, n_ih⟩) (nat_lit 0))) 2) (fun h => Prod.snd (knS._f (4 : Int) (100 : Int) (20 : Int) (30 : Int) 3 (col 0 (chunk 4 [iI (0 : Int), iI (1 : Int), iI (40 : Int), iI (40 : Int), iI (2 : Int), iI (3 : Int), iI (48 : Int), iI (50 : Int), iI (col 0 (chunk 4 [iI (0 : Int), iI (2 : Int), iI (40 : Int), iI (40 : Int)]) 0), iI (col 1 (chunk 4 [iI (0 : Int), iI (2 : Int), iI (40 : Int), iI (40 : Int)]) 0), iI (col 2 (chunk 4 [iI (0 : Int), iI (2 : Int), iI (40 : Int), iI (40 : Int)]) 0), iI (col 3 (chunk 4 [iI (0 : Int), iI (2 : Int), iI (40 : Int), iI (40 : Int)]) 0)])) (col 1 (chunk 4 [iI (0 : Int), iI (1 : Int), iI (40 : Int), iI (40 : Int), iI (2 : Int), iI (3 : Int), iI (48 : Int), iI (50 : Int), iI (col 0 (chunk 4 [iI (0 : Int), iI (2 : Int), iI (40 : Int), iI (40 : Int)]) 0), iI (col 1 (chunk 4 [iI (0 : Int), iI (2 : Int), iI (40 : Int), iI (40 : Int)]) 0), iI (col 2 (chunk 4 [iI (0 : Int), iI (2 : Int), iI (40 : Int), iI (40 : Int)]) 0), iI (col 3 (chunk 4 [iI (0 : Int), iI (2 : Int), iI (40 : Int), iI (40 : Int)]) 0)])) (col 2 (chunk 4 [iI (0 : Int), iI (1 : Int), iI (40 : Int), iI (40 : Int), iI (2 : Int), iI (3 : Int), iI (48 : Int), iI (50 : Int), iI (col 0 (chunk 4 [iI (0 : Int), iI (2 : Int), iI (40 : Int), iI (40 : Int)]) 0), iI (col 1 (chunk 4 [iI (0 : Int), iI (2 : Int), iI (40 : Int), iI (40 : Int)]) 0), iI (col 2 (chunk 4 [iI (0 : Int), iI (2 : Int), iI (40 : Int), iI (40 : Int)]) 0), iI (col 3 (chunk 4 [iI (0 : Int), iI (2 : Int), iI (40 : Int), iI (40 : Int)]) 0)])) (col 3 (chunk 4 [iI (0 : Int), iI (1 : Int), iI (40 : Int), iI (40 : Int), iI (2 : Int), iI (3 : Int), iI (48 : Int), iI (50 : Int), iI (col 0 (chunk 4 [iI (0 : Int), iI (2 : Int), iI (40 : Int), iI (40 : Int)]) 0), iI (col 1 (chunk 4 [iI (0 : Int), iI (2 : Int), iI (40 : Int), iI (40 : Int)]) 0), iI (col 2 (chunk 4 [iI (0 : Int), iI (2 : Int), iI (40 : Int), iI (40 : Int)]) 0), iI (col 3 (chunk 4 [iI (0 : Int), iI (2 : Int), iI (40 : Int), iI (40 : Int)]) 0)])) (Nat.succ (nat_lit 0)) (Nat.rec ⟨knS._f (4 : Int) (100 : Int) (20 : Int) (30 : Int) 3 (col 0 (chunk 4 [iI (0 : Int), iI (1 : Int), iI (40 : Int), iI (40 : Int), iI (2 : Int), iI (3 : Int), iI (48 : Int), iI (50 : Int), iI (col 0 (chunk 4 [iI (0 : Int), iI (2 : Int), iI (40 : Int), iI (40 : Int)]) 0), iI (col 1 (chunk 4 [iI (0 : Int), iI (2 : Int), iI (40 : Int), iI (40 : Int)]) 0), iI (col 2 (chunk 4 [iI (0 : Int), iI (2 : Int), iI (40 : Int), iI (40 : Int)]) 0), iI (col 3 (chunk 4 [iI (0 : Int), iI (2 : Int), iI (40 : Int), iI (40 : Int)]) 0)])) (col 1 (chunk 4 [iI (0 : Int), iI (1 : Int), iI (40 : Int), iI (40 : Int), iI (2 : Int), iI (3 : Int), iI (48 : Int), iI (50 : Int), iI (col 0 (chunk 4 [iI (0 : Int), iI (2 : Int), iI (40 : Int), iI (40 : Int)]) 0), iI (col 1 (chunk 4 [iI (0 : Int), iI (2 : Int), iI (40 : Int), iI (40 : Int)]) 0), iI (col 2 (chunk 4 [iI (0 : Int), iI (2 : Int), iI (40 : Int), iI (40 : Int)]) 0), iI (col 3 (chunk 4 [iI (0 : Int), iI (2 : Int), iI (40 : Int), iI (40 : Int)]) 0)])) (col 2 (chunk 4 [iI (0 : Int), iI (1 : Int), iI (40 : Int), iI (40 : Int), iI (2 : Int), iI (3 : Int), iI (48 : Int), iI (50 : Int), iI (col 0 (chunk 4 [iI (0 : Int), iI (2 : Int), iI (40 : Int), iI (40 : Int)]) 0), iI (col 1 (chunk 4 [iI (0 : Int), iI (2 : Int), iI (40 : Int), iI (40 : Int)]) 0), iI (col 2 (chunk 4 [iI (0 : Int), iI (2 : Int), iI (40 : Int), iI (40 : Int)]) 0), iI (col 3 (chunk 4 [iI (0 : Int), iI (2 : Int), iI (40 : Int), iI (40 : Int)]) 0)])) (col 3 (chunk 4 [iI (0 : Int), iI (1 : Int), iI (40 : Int), iI (40 : Int), iI (2 : Int), iI (3 : Int), iI (48 : Int), iI (50 : Int), iI (col 0 (chunk 4 [iI (0 : Int), iI (2 : Int), iI (40 : Int), iI (40 : Int)]) 0), iI (col 1 (chunk 4 [iI (0 : Int), iI (2 : Int), iI (40 : Int), iI (40 : Int)]) 0), iI (col 2 (chunk 4 [iI (0 : Int), iI (2 : Int), iI (40 : Int), iI (40 : Int)]) 0), iI (col 3 (chunk 4 [iI (0 : Int), iI (2 : Int), iI (40 : Int), iI (40 : Int)]) 0)])) Nat.zero PUnit.unit, PUnit.unit⟩ (fun n n_ih => ⟨knS._f (4 : Int) (100 : Int) (20 : Int) (30 : Int) 3 (col 0 (chunk 4 [iI (0 : Int), iI (1 : Int), iI (40 : Int), iI (40 : Int), iI (2 : Int), iI (3 : Int), iI (48 : Int), iI (50 : Int), iI (col 0 (chunk 4 [iI (0 : Int), iI (2 : Int), iI (40 : Int), iI (40 : Int)]) 0), iI (col 1 (chunk 4 [iI (0 : Int), iI (2 : Int), iI (40 : Int), iI (40 : Int)]) 0), iI (col 2 (chunk 4 [iI (0 : Int), iI (2 : Int), iI (40 : Int), iI (40 : Int)]) 0), iI (col 3 (chunk 4 [iI (0 : Int), iI (2 : Int), iI (40 : Int), iI (40 : Int)]) 0)])) (col 1 (chunk 4 [iI (0 : Int), iI (1 : Int), iI (40 : Int), iI (40 : Int), iI (2 : Int), iI (3 : Int), iI (48 : Int), iI (50 : Int), iI (col 0 (chunk 4 [iI (0 : Int), iI (2 : Int), iI (40 : Int), iI (40 : Int)]) 0), iI (col 1 (chunk 4 [iI (0 : Int), iI (2 : Int), iI (40 : Int), iI (40 : Int)]) 0), iI (col 2 (chunk 4 [iI (0 : Int), iI (2 : Int), iI (40 : Int), iI (40 : Int)]) 0), iI (col 3 (chunk 4 [iI (0 : Int), iI (2 : Int), iI (40 : Int), iI (40 : Int)]) 0)])) (col 2 (chunk 4 [iI (0 : Int), iI (1 : Int), iI (40 : Int), iI (40 : Int), iI (2 : Int), iI (3 : Int), iI (48 : Int), iI (50 : Int), iI (col 0 (chunk 4 [iI (0 : Int), iI (2 : Int), iI (40 : Int), iI (40 : Int)]) 0), iI (col 1 (chunk 4 [iI (0 : Int), iI (2 : Int), iI (40 : Int), iI (40 : Int)]) 0), iI (col 2 (chunk 4 [iI (0 : Int), iI (2 : Int), iI (40 : Int), iI (40 : Int)]) 0), iI (col 3 (chunk 4 [iI (0 : Int), iI (2 : Int), iI (40 : Int), iI (40 : Int)]) 0)])) (col 3 (chunk 4 [iI (0 : Int), iI (1 : Int), iI (40 : Int), iI (40 : Int), iI (2 : Int), iI (3 : Int), iI (48 : Int), iI (50 : Int), iI (col 0 (chunk 4 [iI (0 : Int), iI (2 : Int), iI (40 : Int), iI (40 : Int)]) 0), iI (col 1 (chunk 4 [iI (0 : Int), iI (2 : Int), iI (40 : Int), iI (40 : Int)]) 0), iI (col 2 (chunk 4 [iI (0 : Int), iI (2 : Int), iI (40 : Int), iI (40 : Int)]) 0), iI (col 3 (chunk 4 [iI (0 : Int), iI (2 : Int), iI (40 : Int), iI (40 : Int)]) 0)])) (Nat.succ n) n_ih, n_ih⟩) (nat_lit 0))) (nat_lit 0)) (Nat.decLt (nat_lit 0) 1) == col 0 (chunk 1 [iI (0 : Int), iI (2 : Int)]) (nat_lit 0) && Decidable.rec (fun h => Prod.snd (knS._f (4 : Int) (100 : Int) (20 : Int) (30 : Int) 3 (col 0 (chunk 4 [iI (0 : Int), iI (1 : Int), iI (40 : Int), iI (40 : Int), iI (2 : Int), iI (3 : Int), iI (48 : Int), iI (50 : Int), iI (col 0 (chunk 4 [iI (0 : Int), iI (2 : Int), iI (40 : Int), iI (40 : Int)]) 0), iI (col 1 (chunk 4 [iI (0 : Int), iI (2 : Int), iI (40 : Int), iI (40 : Int)]) 0), iI (col 2 (chunk 4 [iI (0 : Int), iI (2 : Int), iI (40 : Int), iI (40 : Int)]) 0), iI (col 3 (chunk 4 [iI (0 : Int), iI (2 : Int), iI (40 : Int), iI (40 : Int)]) 0)])) (col 1 (chunk 4 [iI (0 : Int), iI (1 : Int), iI (40 : Int), iI (40 : Int), iI (2 : Int), iI (3 : Int), iI (48 : Int), iI (50 : Int), iI (col 0 (chunk 4 [iI (0 : Int), iI (2 : Int), iI (40 : Int), iI (40 : Int)]) 0), iI (col 1 (chunk 4 [iI (0 : Int), iI (2 : Int), iI (40 : Int), iI (40 : Int)]) 0), iI (col 2 (chunk 4 [iI (0 : Int), iI (2 : Int), iI (40 : Int), iI (40 : Int)]) 0), iI (col 3 (chunk 4 [iI (0 : Int), iI (2 : Int), iI (40 : Int), iI (40 : Int)]) 0)])) (col 2 (chunk 4 [iI (0 : Int), iI (1 : Int), iI (40 : Int), iI (40 : Int), iI (2 : Int), iI (3 : Int), iI (48 : Int), iI (50 : Int), iI (col 0 (chunk 4 [iI (0 : Int), iI (2 : Int), iI (40 : Int), iI (40 : Int)]) 0), iI (col 1 (chunk 4 [iI (0 : Int), iI (2 : Int), iI (40 : Int), iI (40 : Int)]) 0), iI (col 2 (chunk 4 [iI (0 : Int), iI (2 : Int), iI (40 : Int), iI (40 : Int)]) 0), iI (col 3 (chunk 4 [iI (0 : Int), iI (2 : Int), iI (40 : Int), iI (40 : Int)]) 0)])) (col 3 (chunk 4 [iI (0 : Int), iI (1 : Int), iI (40 : Int), iI (40 : Int), iI (2 : Int), iI (3 : Int), iI (48 : Int), iI (50 : Int), iI (col 0 (chunk 4 [iI (0 : Int), iI (2 : Int), iI (40 : Int), iI (40 : Int)]) 0), iI (col 1 (chunk 4 [iI (0 : Int), iI (2 : Int), iI (40 : Int), iI (40 : Int)]) 0), iI (col 2 (chunk 4 [iI (0 : Int), iI (2 : Int), iI (40 : Int), iI (40 : Int)]) 0), iI (col 3 (chunk 4 [iI (0 : Int), iI (2 : Int), iI (40 : Int), iI (40 : Int)]) 0)])) (Nat.succ (nat_lit 0)) (Nat.rec ⟨knS._f (4 : Int) (100 : Int) (20 : Int) (30 : Int) 3 (col 0 (chunk 4 [iI (0 : Int), iI (1 : Int), iI (40 : Int), iI (40 : Int), iI (2 : Int), iI (3 : Int), iI (48 : Int), iI (50 : Int), iI (col 0 (chunk 4 [iI (0 : Int), iI (2 : Int), iI (40 : Int), iI (40 : Int)]) 0), iI (col 1 (chunk 4 [iI (0 : Int), iI (2 : Int), iI (40 : Int), iI (40 : Int)]) 0), iI (col 2 (chunk 4 [iI (0 : Int), iI (2 : Int), iI (40 : Int), iI (40 : Int)]) 0), iI (col 3 (chunk 4 [iI (0 : Int), iI (2 : Int), iI (40 : Int), iI (40 : Int)]) 0)])) (col 1 (chunk 4 [iI (0 : Int), iI (1 : Int), iI (40 : Int), iI (40 : Int), iI (2 : Int), iI (3 : Int), iI (48 : Int), iI (50 : Int), iI (col 0 (chunk 4 [iI (0 : Int), iI (2 : Int), iI (40 : Int), iI (40 : Int)]) 0), iI (col 1 (chunk 4 [iI (0 : Int), iI (2 : Int), iI (40 : Int), iI (40 : Int)]) 0), iI (col 2 (chunk 4 [iI (0 : Int), iI (2 : Int), iI (40 : Int), iI (40 : Int)]) 0), iI (col 3 (chunk 4 [iI (0 : Int), iI (2 : Int), iI (40 : Int), iI (40 : Int)]) 0)])) (col 2 (chunk 4 [iI (0 : Int), iI (1 : Int), iI (40 : Int), iI (40 : Int), iI (2 : Int), iI (3 : Int), iI (48 : Int), iI (50 : Int), iI (col 0 (chunk 4 [iI (0 : Int), iI (2 : Int), iI (40 : Int), iI (40 : Int)]) 0), iI (col 1 (chunk 4 [iI (0 : Int), iI (2 : Int), iI (40 : Int), iI (40 : Int)]) 0), iI (col 2 (chunk 4 [iI (0 : Int), iI (2 : Int), iI (40 : Int), iI (40 : Int)]) 0), iI (col 3 (chunk 4 [iI (0 : Int), iI (2 : Int), iI (40 : Int), iI (40 : Int)]) 0)])) (col 3 (chunk 4 [iI (0 : Int), iI (1 : Int), iI (40 : Int), iI (40 : Int), iI (2 : Int), iI (3 : Int), iI (48 : Int), iI (50 : Int), iI (col 0 (chunk 4 [iI (0 : Int), iI (2 : Int), iI (40 : Int), iI (40 : Int)]) 0), iI (col 1 (chunk 4 [iI (0 : Int), iI (2 : Int), iI (40 : Int), iI (40 : Int)]) 0), iI (col 2 (chunk 4 [iI (0 : Int), iI (2 : Int), iI (40 : Int), iI (40 : Int)]) 0), iI (col 3 (chunk 4 [iI (0 : Int), iI (2 : Int), iI (40 : Int), iI (40 : Int)]) 0)])) Nat.zero PUnit.unit, PUnit.unit⟩ (fun n n_ih => ⟨knS._f (4 : Int) (100 : Int) (20 : Int) (30 : Int) 3 (col 0 (chunk 4 [iI (0 : Int), iI (1 : Int), iI (40 : Int), iI (40 : Int), iI (2 : Int), iI (3 : Int), iI (48 : Int), iI (50 : Int), iI (col 0 (chunk 4 [iI (0 : Int), iI (2 : Int), iI (40 : Int), iI (40 : Int)]) 0), iI (col 1 (chunk 4 [iI (0 : Int), iI (2 : Int), iI (40 : Int), iI (40 : Int)]) 0), iI (col 2 (chunk 4 [iI (0 : Int), iI (2 : Int), iI (40 : Int), iI (40 : Int)]) 0), iI (col 3 (chunk 4 [iI (0 : Int), iI (2 : Int), iI (40 : Int), iI (40 : Int)]) 0)])) (col 1 (chunk 4 [iI (0 : Int), iI (1 : Int), iI (40 : Int), iI (40 : Int), iI (2 : Int), iI (3 : Int), iI (48 : Int), iI (50 : Int), iI (col 0 (chunk 4 [iI (0 : Int), iI (2 : Int), iI (40 : Int), iI (40 : Int)]) 0), iI (col 1 (chunk 4 [iI (0 : Int), iI (2 : Int), iI (40 : Int), iI (40 : Int)]) 0), iI (col 2 (chunk 4 [iI (0 : Int), iI (2 : Int), iI (40 : Int), iI (40 : Int)]) 0), iI (col 3 (chunk 4 [iI (0 : Int), iI (2 : Int), iI (40 : Int), iI (40 : Int)]) 0)])) (col 2 (chunk 4 [iI (0 : Int), iI (1 : Int), iI (40 : Int), iI (40 : Int), iI (2 : Int), iI (3 : Int), iI (48 : Int), iI (50 : Int), iI (col 0 (chunk 4 [iI (0 : Int), iI (2 : Int), iI (40 : Int), iI (40 : Int)]) 0), iI (col 1 (chunk 4 [iI (0 : Int), iI (2 : Int), iI (40 : Int), iI (40 : Int)]) 0), iI (col 2 (chunk 4 [iI (0 : Int), iI (2 : Int), iI (40 : Int), iI (40 : Int)]) 0), iI (col 3 (chunk 4 [iI (0 : Int), iI (2 : Int), iI (40 : Int), iI (40 : Int)]) 0)])) (col 3 (chunk 4 [iI (0 : Int), iI (1 : Int), iI (40 : Int), iI (40 : Int), iI (2 : Int), iI (3 : Int), iI (48 : Int), iI (50 : Int), iI (col 0 (chunk 4 [iI (0 : Int), iI (2 : Int), iI (40 : Int), iI (40 : Int)]) 0), iI (col 1 (chunk 4 [iI (0 : Int), iI (2 : Int), iI (40 : Int), iI (40 : Int)]) 0), iI (col 2 (chunk 4 [iI (0 : Int), iI (2 : Int), iI (40 : Int), iI (40 : Int)]) 0), iI (col 3 (chunk 4 [iI (0 : Int), iI (2 : Int), iI (40 : Int), iI (40 : Int)]) 0)])) (Nat.succ n) n_ih, n_ih⟩) (nat_lit 0))) 2) (fun h => Prod.snd (knS._f (4 : Int) (100 : Int) (20 : Int) (30 : Int) 3 (col 0 (chunk 4 [iI (0 : Int), iI (1 : Int), iI (40 : Int), iI (40 : Int), iI (2 : Int), iI (3 : Int), iI (48 : Int), iI (50 : Int), iI (col 0 (chunk 4 [iI (0 : Int), iI (2 : Int), iI (40 : Int), iI (40 : Int)]) 0), iI (col 1 (chunk 4 [iI (0 : Int), iI (2 : Int), iI (40 : Int), iI (40 : Int)]) 0), iI (col 2 (chunk 4 [iI (0 : Int), iI (2 : Int), iI (40 : Int), iI (40 : Int)]) 0), iI (col 3 (chunk 4 [iI (0 : Int), iI (2 : Int), iI (40 : Int), iI (40 : Int)]) 0)])) (col 1 (chunk 4 [iI (0 : Int), iI (1 : Int), iI (40 : Int), iI (40 : Int), iI (2 : Int), iI (3 : Int), iI (48 : Int), iI (50 : Int), iI (col 0 (chunk 4 [iI (0 : Int), iI (2 : Int), iI (40 : Int), iI (40 : Int)]) 0), iI (col 1 (chunk 4 [iI (0 : Int), iI (2 : Int), iI (40 : Int), iI (40 : Int)]) 0), iI (col 2 (chunk 4 [iI (0 : Int), iI (2 : Int), iI (40 : Int), iI (40 : Int)]) 0), iI (col 3 (chunk 4 [iI (0 : Int), iI (2 : Int), iI (40 : Int), iI (40 : Int)]) 0)])) (col 2 (chunk 4 [iI (0 : Int), iI (1 : Int), iI (40 : Int), iI (40 : Int), iI (2 : Int), iI (3 : Int), iI (48 : Int), iI (50 : Int), iI (col 0 (chunk 4 [iI (0 : Int), iI (2 : Int), iI (40 : Int), iI (40 : Int)]) 0), iI (col 1 (chunk 4 [iI (0 : Int), iI (2 : Int), iI (40 : Int), iI (40 : Int)]) 0), iI (col 2 (chunk 4 [iI (0 : Int), iI (2 : Int), iI (40 : Int), iI (40 : Int)]) 0), iI (col 3 (chunk 4 [iI (0 : Int), iI (2 : Int), iI (40 : Int), iI (40 : Int)]) 0)])) (col 3 (chunk 4 [iI (0 : Int), iI (1 : Int), iI (40 : Int), iI (40 : Int), iI (2 : Int), iI (3 : Int), iI (48 : Int), iI (50 : Int), iI (col 0 (chunk 4 [iI (0 : Int), iI (2 : Int), iI (40 : Int), iI (40 : Int)]) 0), iI (col 1 (chunk 4 [iI (0 : Int), iI (2 : Int), iI (40 : Int), iI (40 : Int)]) 0), iI (col 2 (chunk 4 [iI (0 : Int), iI (2 : Int), iI (40 : Int), iI (40 : Int)]) 0), iI (col 3 (chunk 4 [iI (0 : Int), iI (2 : Int), iI (40 : Int), iI (40 : Int)]) 0)])) (Nat.succ (nat_lit 0)) (Nat.rec ⟨knS._f (4 : Int) (100 : Int) (20 : Int) (30 : Int) 3 (col 0 (chunk 4 [iI (0 : Int), iI (1 : Int), iI (40 : Int), iI (40 : Int), iI (2 : Int), iI (3 : Int), iI (48 : Int), iI (50 : Int), iI (col 0 (chunk 4 [iI (0 : Int), iI (2 : Int), iI (40 : Int), iI (40 : Int)]) 0), iI (col 1 (chunk 4 [iI (0 : Int), iI (2 : Int), iI (40 : Int), iI (40 : Int)]) 0), iI (col 2 (chunk 4 [iI (0 : Int), iI (2 : Int), iI (40 : Int), iI (40 : Int)]) 0), iI (col 3 (chunk 4 [iI (0 : Int), iI (2 : Int), iI (40 : Int), iI (40 : Int)]) 0)])) (col 1 (chunk 4 [iI (0 : Int), iI (1 : Int), iI (40 : Int), iI (40 : Int), iI (2 : Int), iI (3 : Int), iI (48 : Int), iI (50 : Int), iI (col 0 (chunk 4 [iI (0 : Int), iI (2 : Int), iI (40 : Int), iI (40 : Int)]) 0), iI (col 1 (chunk 4 [iI (0 : Int), iI (2 : Int), iI (40 : Int), iI (40 : Int)]) 0), iI (col 2 (chunk 4 [iI (0 : Int), iI (2 : Int), iI (40 : Int), iI (40 : Int)]) 0), iI (col 3 (chunk 4 [iI (0 : Int), iI (2 : Int), iI (40 : Int), iI (40 : Int)]) 0)])) (col 2 (chunk 4 [iI (0 : Int), iI (1 : Int), iI (40 : Int), iI (40 : Int), iI (2 : Int), iI (3 : Int), iI (48 : Int), iI (50 : Int), iI (col 0 (chunk 4 [iI (0 : Int), iI (2 : Int), iI (40 : Int), iI (40 : Int)]) 0), iI (col 1 (chunk 4 [iI (0 : Int), iI (2 : Int), iI (40 : Int), iI (40 : Int)]) 0), iI (col 2 (chunk 4 [iI (0 : Int), iI (2 : Int), iI (40 : Int), iI (40 : Int)]) 0), iI (col 3 (chunk 4 [iI (0 : Int), iI (2 : Int), iI (40 : Int), iI (40 : Int)]) 0)])) (col 3 (chunk 4 [iI (0 : Int), iI (1 : Int), iI (40 : Int), iI (40 : Int), iI (2 : Int), iI (3 : Int), iI (48 : Int), iI (50 : Int), iI (col 0 (chunk 4 [iI (0 : Int), iI (2 : Int), iI (40 : Int), iI (40 : Int)]) 0), iI (col 1 (chunk 4 [iI (0 : Int), iI (2 : Int), iI (40 : Int), iI (40 : Int)]) 0), iI (col 2 (chunk 4 [iI (0 : Int), iI (2 : Int), iI (40 : Int), iI (40 : Int)]) 0), iI (col 3 (chunk 4 [iI (0 : Int), iI (2 : Int), iI (40 : Int), iI (40 : Int)]) 0)])) Nat.zero PUnit.unit, PUnit.unit⟩ (fun n n_ih => ⟨knS._f (4 : Int) (100 : Int) (20 : Int) (30 : Int) 3 (col 0 (chunk 4 [iI (0 : Int), iI (1 : Int), iI (40 : Int), iI (40 : Int), iI (2 : Int), iI (3 : Int), iI (48 : Int), iI (50 : Int), iI (col 0 (chunk 4 [iI (0 : Int), iI (2 : Int), iI (40 : Int), iI (40 : Int)]) 0), iI (col 1 (chunk 4 [iI (0 : Int), iI (2 : Int), iI (40 : Int), iI (40 : Int)]) 0), iI (col 2 (chunk 4 [iI (0 : Int), iI (2 : Int), iI (40 : Int), iI (40 : Int)]) 0), iI (col 3 (chunk 4 [iI (0 : Int), iI (2 : Int), iI (40 : Int), iI (40 : Int)]) 0)])) (col 1 (chunk 4 [iI (0 : Int), iI (1 : Int), iI (40 : Int), iI (40 : Int), iI (2 : Int), iI (3 : Int), iI (48 : Int), iI (50 : Int), iI (col 0 (chunk 4 [iI (0 : Int), iI (2 : Int), iI (40 : Int), iI (40 : Int)]) 0), iI (col 1 (chunk 4 [iI (0 : Int), iI (2 : Int), iI (40 : Int), iI (40 : Int)]) 0), iI (col 2 (chunk 4 [iI (0 : Int), iI (2 : Int), iI (40 : Int), iI (40 : Int)]) 0), iI (col 3 (chunk 4 [iI (0 : Int), iI (2 : Int), iI (40 : Int), iI (40 : Int)]) 0)])) (col 2 (chunk 4 [iI (0 : Int), iI (1 : Int), iI (40 : Int), iI (40 : Int), iI (2 : Int), iI (3 : Int), iI (48 : Int), iI (50 : Int), iI (col 0 (chunk 4 [iI (0 : Int), iI (2 : Int), iI (40 : Int), iI (40 : Int)]) 0), iI (col 1 (chunk 4 [iI (0 : Int), iI (2 : Int), iI (40 : Int), iI (40 : Int)]) 0), iI (col 2 (chunk 4 [iI (0 : Int), iI (2 : Int), iI (40 : Int), iI (40 : Int)]) 0), iI (col 3 (chunk 4 [iI (0 : Int), iI (2 : Int), iI (40 : Int), iI (40 : Int)]) 0)])) (col 3 (chunk 4 [iI (0 : Int), iI (1 : Int), iI (40 : Int), iI (40 : Int), iI (2 : Int), iI (3 : Int), iI (48 : Int), iI (50 : Int), iI (col 0 (chunk 4 [iI (0 : Int), iI (2 : Int), iI (40 : Int), iI (40 : Int)]) 0), iI (col 1 (chunk 4 [iI (0 : Int), iI (2 : Int), iI (40 : Int), iI (40 : Int)]) 0), iI (col 2 (chunk 4 [iI (0 : Int), iI (2 : Int), iI (40 : Int), iI (40 : Int)]) 0), iI (col 3 (chunk 4 [iI (0 : Int), iI (2 : Int), iI (40 : Int), iI (40 : Int)]) 0)])) (Nat.succ n) n_ih, n_ih⟩) (nat_lit 0))) (nat_lit 1)) (Nat.decLt (nat_lit 1) 1) == col 0 (chunk 1 [iI (0 : Int), iI (2 : Int)]) (nat_lit 1))) (Tree.branch (nxE (2 : Int) (50 : Int) (20 : Int) (30 : Int) 0 (fun x => (0 : Int)) (fun x => (0 : Int)) (fun x => (0 : Int)) (fun x => (0 : Int)) (25 : Int) (25 : Int) == (0 : Int)) (Tree.branch (nxRM (2 : Int) (50 : Int) (20 : Int) (30 : Int) 0 (fun x => (0 : Int)) (fun x => (0 : Int)) (fun x => (0 : Int)) (fun x => (0 : Int)) (25 : Int) (25 : Int) == (0 : Int)) (Tree.leaf (RV.x (Value.bool (nxRD (2 : Int) (50 : Int) (20 : Int) (30 : Int) 0 (fun x => (0 : Int)) (fun x => (0 : Int)) (fun x => (0 : Int)) (fun x => (0 : Int)) (25 : Int) (25 : Int) == (5 : Int))))) (Tree.leaf (RV.x (Value.bool false)))) (Tree.leaf (RV.x (Value.bool false)))) (Tree.leaf (RV.x (Value.bool false))))) (Tree.leaf (RV.x (Value.bool false)))) (Tree.leaf (RV.x (Value.bool false))))) (Tree.leaf (RV.x (Value.bool false)))) (Tree.leaf (RV.x (Value.bool false)))) (Tree.leaf (RV.x (Value.bool false))))) (Tree.leaf (RV.x (Value.bool false))))) (Tree.leaf (RV.x (Value.bool false))))) (Tree.leaf (RV.x (Value.bool false)))) (Tree.leaf (RV.x (Value.bool false))))))))) (by kernel_rfl) ?_
  simp only [Tree.sat, allP, true_and, and_true]
  repeat' first | with_reducible apply And.intro | with_reducible intro _
  all_goals first | omega | exact isRec1 _ _ | (intro k hk; rcases (show k = 0 ∨ k = 1 ∨ k = 2 ∨ k = 3 by omega) with rfl | rfl | rfl | rfl <;> first | rfl | omega) | (rename_i h; exact absurd h (by decide +kernel)) | decide +kernel | (show (_ : Bool) = true; decide +kernel)
theorem wakes_ok : SoundSpec Try.prog 20 S_wakes := by
  refine ⟨⟨_, Try.func20, by kernel_rfl, by kernel_rfl⟩, ?_⟩
  intro avs ns res h hn
  unfold S_wakes at h
  split at h
  · cases h
    exact wakes_at 
  · cases h

end Go.Proofs.Ytmdeoobmeokmeaa
/- Contracts of functions of the program, by the engine Sx: what each call comes to. Printed by a program of this repo (sxgen.py). -/
set_option linter.unusedSimpArgs false
set_option linter.unusedVariables false
namespace Go.Proofs.Ytmdeoobmeokmeaa
open Go Go.Sx Go.RowKit

/-- Heights of marks that are a truth. -/
def Tr (c : Nat) (T lo hi : Int) (n : Nat) (a b u v : Nat → Int) (h : Nat → Int) : Prop :=
  h 0 = 0 ∧ h c = T ∧ (∀ k, k < c → lo ≤ h (k + 1) - h k ∧ h (k + 1) - h k ≤ hi) ∧ ∀ j, j < n → h (b j).toNat - h (a j).toNat ≤ v j ∧ (b j < c → u j + 1 ≤ h (b j + 1).toNat - h (a j).toNat)
def ob (c : Nat) (M : Nat → Nat → Int) (h : Nat → Int) : Prop := ∀ x y, x ≤ c → y ≤ c → h y - h x ≤ M x y


theorem ob_bnd {c : Nat} {M : Nat → Nat → Int} {h : Nat → Int} {p q : Nat} {v : Int} (hp : p ≤ c) (hq : q ≤ c) : ob c (bnd M p q v) h ↔ ob c M h ∧ h q - h p ≤ v := by
  constructor
  · intro k
    refine ⟨fun x y hx hy => Int.le_trans (k x y hx hy) (bnd_le _ _ _ _ _ _), Int.le_trans (k p q hp hq) (bnd_at _ _ _ _)⟩
  · rintro ⟨k1, k2⟩ x y hx hy
    have h1 := k1 x y hx hy
    unfold bnd set2
    split
    · rename_i e
      rw [e.1, e.2] at h1 ⊢
      omega
    · exact h1
theorem ob_mono {c : Nat} {M N : Nat → Nat → Int} {h : Nat → Int} (hm : ∀ x y, M x y ≤ N x y) (k : ob c M h) : ob c N h := fun x y hx hy => Int.le_trans (k x y hx hy) (hm x y)
theorem fwS_le (M : Nat → Nat → Int) (o f t x y : Nat) : fwS M o f t x y ≤ M x y := bnd_le _ _ _ _ _ _
theorem fwT_le (M : Nat → Nat → Int) (o f : Nat) : ∀ t x y, fwT M o f t x y ≤ M x y
  | 0, _, _ => Int.le_refl _
  | t + 1, x, y => Int.le_trans (fwS_le _ _ _ _ _ _) (fwT_le M o f t x y)
theorem fwF_le (c : Nat) (M : Nat → Nat → Int) (o : Nat) : ∀ f x y, fwF c M o f x y ≤ M x y
  | 0, _, _ => Int.le_refl _
  | f + 1, x, y => Int.le_trans (fwT_le _ _ _ _ _ _) (fwF_le c M o f x y)
theorem fwO_le1 (c : Nat) (M : Nat → Nat → Int) (o x y : Nat) : fwO c M (o + 1) x y ≤ fwO c M o x y := fwF_le _ _ _ _ _ _
theorem fwO_le2 (c : Nat) (M : Nat → Nat → Int) (o : Nat) : ∀ d x y, fwO c M (o + d) x y ≤ fwO c M o x y
  | 0, _, _ => Int.le_refl _
  | d + 1, x, y => Int.le_trans (fwO_le1 c M (o + d) x y) (fwO_le2 c M o d x y)
theorem fwO_le (c : Nat) (M : Nat → Nat → Int) (o x y : Nat) : fwO c M o x y ≤ M x y := by
  have := fwO_le2 c M 0 o x y
  rwa [Nat.zero_add] at this
theorem ob_T {c : Nat} {M : Nat → Nat → Int} {h : Nat → Int} {o f : Nat} (ho : o ≤ c) (hf : f ≤ c) (k : ob c M h) : ∀ t, t ≤ c + 1 → ob c (fwT M o f t) h
  | 0, _ => k
  | t + 1, ht => by
    have ih := ob_T ho hf k t (by omega)
    refine (ob_bnd hf (by omega)).2 ⟨ih, ?_⟩
    have h1 := ih f o hf ho
    have h2 := ih o t ho (by omega)
    omega
theorem ob_F {c : Nat} {M : Nat → Nat → Int} {h : Nat → Int} {o : Nat} (ho : o ≤ c) (k : ob c M h) : ∀ f, f ≤ c + 1 → ob c (fwF c M o f) h
  | 0, _ => k
  | f + 1, hf => ob_T ho (by omega) (ob_F ho k f (by omega)) (c + 1) (Nat.le_refl _)
theorem ob_O {c : Nat} {M : Nat → Nat → Int} {h : Nat → Int} (k : ob c M h) : ∀ o, o ≤ c + 1 → ob c (fwO c M o) h
  | 0, _ => k
  | o + 1, ho => ob_F (by omega) (ob_O k o (by omega)) (c + 1) (Nat.le_refl _)
/-- A round, where the mark is not below itself: what it comes to. -/
theorem fwT_eq {c : Nat} {M N : Nat → Nat → Int} {o f : Nat} (h0 : 0 ≤ M o o) (hN : ∀ x y, N x y = if x < f ∧ y ≤ c then min (M x y) (M x o + M o y) else M x y) : ∀ t, t ≤ c + 1 → ∀ x y, fwT N o f t x y = if (x < f ∧ y ≤ c) ∨ (x = f ∧ y < t) then min (M x y) (M x o + M o y) else M x y
  | 0, _, x, y => by
    show N x y = _
    rw [hN]
    by_cases h : x < f ∧ y ≤ c
    · rw [if_pos h, if_pos (.inl h)]
    · rw [if_neg h, if_neg (by omega)]
  | t + 1, ht, x, y => by
    have ih := fwT_eq h0 hN t (by omega)
    show bnd (fwT N o f t) f t (fwT N o f t f o + fwT N o f t o t) x y = _
    have e1 : fwT N o f t f o = M f o := by
      rw [ih]
      split <;> omega
    have e2 : fwT N o f t o t = M o t := by
      rw [ih]
      split <;> omega
    have e3 : fwT N o f t f t = M f t := by
      rw [ih, if_neg (by omega)]
    unfold bnd set2
    rw [e1, e2, e3]
    by_cases hxy : x = f ∧ y = t
    · rw [if_pos hxy, if_pos (by omega), hxy.1, hxy.2]
    · rw [if_neg hxy, ih]
      by_cases h : (x < f ∧ y ≤ c) ∨ (x = f ∧ y < t)
      · rw [if_pos h, if_pos (by omega)]
      · rw [if_neg h, if_neg (by omega)]
theorem fwF_eq {c : Nat} {M : Nat → Nat → Int} {o : Nat} (h0 : 0 ≤ M o o) : ∀ f x y, fwF c M o f x y = if x < f ∧ y ≤ c then min (M x y) (M x o + M o y) else M x y
  | 0, x, y => by
    rw [if_neg (by omega)]
    rfl
  | f + 1, x, y => by
    show fwT (fwF c M o f) o f (c + 1) x y = _
    rw [fwT_eq h0 (fwF_eq h0 f) (c + 1) (Nat.le_refl _)]
    by_cases h : (x < f ∧ y ≤ c) ∨ (x = f ∧ y < c + 1)
    · rw [if_pos h, if_pos (by omega)]
    · rw [if_neg h, if_neg (by omega)]
theorem fwO_closed {c : Nat} {M : Nat → Nat → Int} : ∀ k, k ≤ c + 1 → (∀ o, o < k → 0 ≤ fwO c M o o o) → ∀ p x y, p < k → x ≤ c → y ≤ c → fwO c M k x y ≤ fwO c M k x p + fwO c M k p y
  | 0, _, _, p, x, y, hp, _, _ => absurd hp (Nat.not_lt_zero _)
  | k + 1, hk, hd, p, x, y, hp, hx, hy => by
    have ih := fwO_closed k (by omega) (fun o ho => hd o (by omega))
    have h0 := hd k (by omega)
    have eq := fwF_eq (c := c) h0 (c + 1)
    show fwF c (fwO c M k) k (c + 1) x y ≤ fwF c (fwO c M k) k (c + 1) x p + fwF c (fwO c M k) k (c + 1) p y
    rw [eq x y, eq x p, eq p y, if_pos (by omega), if_pos (by omega), if_pos (by omega)]
    rcases (show p = k ∨ p < k by omega) with rfl | hpk
    · omega
    · have i1 := ih p x y hpk hx hy
      have i2 := ih p x k hpk hx (by omega)
      have i3 := ih p k y hpk (by omega) hy
      have i4 := ih p k k hpk (by omega) (by omega)
      omega
theorem ob_ini {c : Nat} {h : Nat → Int} : ob c (ini c (c + 1) 0) h ↔ ∀ x y, x ≤ c → y ≤ c → h y - h x ≤ 2000 := by
  constructor
  · intro k x y hx hy
    have := k x y hx hy
    unfold ini at this
    split at this <;> omega
  · intro k x y hx hy
    unfold ini
    by_cases e : x = y
    · subst e
      rw [if_neg (by omega)]
      omega
    · rw [if_pos (by omega)]
      exact k x y hx hy
theorem ob_cel {c : Nat} {lo hi : Int} {h : Nat → Int} : ∀ k, k ≤ c → (ob c (cel c lo hi k) h ↔ ob c (ini c (c + 1) 0) h ∧ ∀ j, j < k → lo ≤ h (j + 1) - h j ∧ h (j + 1) - h j ≤ hi)
  | 0, _ => ⟨fun k => ⟨k, fun j hj => absurd hj (Nat.not_lt_zero _)⟩, fun k => k.1⟩
  | k + 1, hk => by
    have ih := ob_cel (c := c) (lo := lo) (hi := hi) (h := h) k (by omega)
    show ob c (bnd (bnd (cel c lo hi k) k (k + 1) hi) (k + 1) k (-lo)) h ↔ _
    rw [ob_bnd (by omega) (by omega), ob_bnd (by omega) (by omega), ih]
    constructor
    · rintro ⟨⟨⟨h1, h2⟩, h3⟩, h4⟩
      refine ⟨h1, fun j hj => ?_⟩
      rcases (show j < k ∨ j = k by omega) with h | rfl
      · exact h2 j h
      · omega
    · rintro ⟨h1, h2⟩
      have h3 := h2 k (by omega)
      exact ⟨⟨⟨h1, fun j hj => h2 j (by omega)⟩, by omega⟩, by omega⟩
def rdOk (c : Nat) (n : Nat) (a b u v : Nat → Int) : Prop := ∀ j, j < n → (0 ≤ a j ∧ a j ≤ (c : Int) - 1) ∧ (a j ≤ b j ∧ b j ≤ c) ∧ 0 ≤ u j ∧ u j ≤ v j ∧ v j ≤ 2000
theorem ob_rd {c : Nat} {T lo hi : Int} {a b u v : Nat → Int} {h : Nat → Int} : ∀ n, rdOk c n a b u v → (ob c (rdM c T lo hi a b u v n) h ↔ ob c (cel c lo hi c) h ∧ h c - h 0 = T ∧ ∀ j, j < n → h (b j).toNat - h (a j).toNat ≤ v j ∧ (b j < c → u j + 1 ≤ h (b j + 1).toNat - h (a j).toNat))
  | 0, _ => by
    show ob c (bnd (bnd (cel c lo hi c) 0 c T) c 0 (-T)) h ↔ _
    rw [ob_bnd (by omega) (by omega), ob_bnd (by omega) (by omega)]
    constructor
    · rintro ⟨⟨h1, h2⟩, h3⟩
      exact ⟨h1, by omega, fun j hj => absurd hj (Nat.not_lt_zero _)⟩
    · rintro ⟨h1, h2, _⟩
      exact ⟨⟨h1, by omega⟩, by omega⟩
  | n + 1, hr => by
    have ih := ob_rd (c := c) (T := T) (lo := lo) (hi := hi) (a := a) (b := b) (u := u) (v := v) (h := h) n (fun j hj => hr j (by omega))
    have hn := hr n (by omega)
    have key : ob c (rdM c T lo hi a b u v (n + 1)) h ↔ ob c (rdM c T lo hi a b u v n) h ∧ h (b n).toNat - h (a n).toNat ≤ v n ∧ (b n < c → u n + 1 ≤ h (b n + 1).toNat - h (a n).toNat) := by
      show ob c (rdS c (rdM c T lo hi a b u v n) _ _ _ _) h ↔ _
      unfold rdS
      split
      · rename_i hb
        rw [ob_bnd (by omega) (by omega), ob_bnd (by omega) (by omega)]
        constructor
        · rintro ⟨⟨h1, h2⟩, h3⟩
          exact ⟨h1, h2, fun _ => by omega⟩
        · rintro ⟨h1, h2, h3⟩
          have := h3 hb
          exact ⟨⟨h1, h2⟩, by omega⟩
      · rename_i hb
        rw [ob_bnd (by omega) (by omega)]
        constructor
        · rintro ⟨h1, h2⟩
          exact ⟨h1, h2, fun h => absurd h hb⟩
        · rintro ⟨h1, h2, _⟩
          exact ⟨h1, h2⟩
    rw [key, ih]
    constructor
    · rintro ⟨⟨h1, h2, h3⟩, h4⟩
      refine ⟨h1, h2, fun j hj => ?_⟩
      rcases (show j < n ∨ j = n by omega) with h | rfl
      · exact h3 j h
      · exact h4
    · rintro ⟨h1, h2, h3⟩
      exact ⟨⟨h1, h2, fun j hj => h3 j (by omega)⟩, h3 n (by omega)⟩
theorem step_mono {lo : Int} {h : Nat → Int} {c : Nat} (hl : 0 ≤ lo) (hs : ∀ k, k < c → lo ≤ h (k + 1) - h k) (x : Nat) : ∀ d, x + d ≤ c → h x ≤ h (x + d)
  | 0, _ => Int.le_refl _
  | d + 1, hd => by
    have ih := step_mono hl hs x d (by omega)
    have := hs (x + d) (by omega)
    rw [← Nat.add_assoc]
    omega
theorem tr_ob {c : Nat} {T lo hi : Int} {n : Nat} {a b u v : Nat → Int} {h : Nat → Int} (hb : 1 ≤ lo ∧ lo ≤ hi ∧ hi ≤ 200 ∧ 1 ≤ T ∧ T ≤ 2000) (hr : rdOk c n a b u v) (h0 : h 0 = 0) : Tr c T lo hi n a b u v h ↔ ob c (rdM c T lo hi a b u v n) h := by
  rw [ob_rd n hr, ob_cel c (Nat.le_refl _), ob_ini]
  constructor
  · rintro ⟨_, h1, h2, h3⟩
    refine ⟨⟨fun x y hx hy => ?_, h2⟩, by omega, h3⟩
    have m := fun x d => step_mono (lo := lo) (h := h) (c := c) (by omega) (fun k hk => (h2 k hk).1) x d
    have m1 := m 0 x (by omega)
    have m2 := m y (c - y) (by omega)
    rw [Nat.zero_add] at m1
    rw [show y + (c - y) = c by omega] at m2
    omega
  · rintro ⟨⟨_, h2⟩, h3, h4⟩
    exact ⟨h0, by omega, h2, h4⟩
theorem okR_iff {c : Nat} {T lo hi : Int} {n : Nat} {a b u v : Nat → Int} : okR c T lo hi n a b u v = true ↔ ∀ k, k ≤ c → 0 ≤ fwM c T lo hi n a b u v k k := by
  unfold okR
  rw [allI_iff]
  constructor
  · intro h k hk
    simpa using h k (by omega)
  · intro h k hk
    simpa using h k (by omega)
theorem tr_fw {c : Nat} {T lo hi : Int} {n : Nat} {a b u v : Nat → Int} {h : Nat → Int} (hb : 1 ≤ lo ∧ lo ≤ hi ∧ hi ≤ 200 ∧ 1 ≤ T ∧ T ≤ 2000) (hr : rdOk c n a b u v) (h0 : h 0 = 0) : Tr c T lo hi n a b u v h ↔ ob c (fwM c T lo hi n a b u v) h := by
  rw [tr_ob hb hr h0]
  exact ⟨fun k => ob_O k (c + 1) (Nat.le_refl _), fun k => ob_mono (fun x y => fwO_le c _ (c + 1) x y) k⟩
theorem ok_of_tr {c : Nat} {T lo hi : Int} {n : Nat} {a b u v : Nat → Int} {h : Nat → Int} (hb : 1 ≤ lo ∧ lo ≤ hi ∧ hi ≤ 200 ∧ 1 ≤ T ∧ T ≤ 2000) (hr : rdOk c n a b u v) (k : Tr c T lo hi n a b u v h) : okR c T lo hi n a b u v = true := by
  have k1 := (tr_fw hb hr k.1).1 k
  refine okR_iff.2 fun x hx => ?_
  have := k1 x x hx hx
  omega
theorem tr_bd {c : Nat} {T lo hi : Int} {n : Nat} {a b u v : Nat → Int} {h : Nat → Int} (hb : 1 ≤ lo ∧ lo ≤ hi ∧ hi ≤ 200 ∧ 1 ≤ T ∧ T ≤ 2000) (hr : rdOk c n a b u v) (k : Tr c T lo hi n a b u v h) {x : Nat} (hx : x ≤ c) : -(fwM c T lo hi n a b u v x 0) ≤ h x ∧ h x ≤ fwM c T lo hi n a b u v 0 x := by
  have k1 := (tr_fw hb hr k.1).1 k
  have h1 := k1 x 0 hx (by omega)
  have h2 := k1 0 x (by omega) hx
  have := k.1
  omega
theorem fw_closed {c : Nat} {T lo hi : Int} {n : Nat} {a b u v : Nat → Int} (h : okR c T lo hi n a b u v = true) {p x y : Nat} (hp : p ≤ c) (hx : x ≤ c) (hy : y ≤ c) : fwM c T lo hi n a b u v x y ≤ fwM c T lo hi n a b u v x p + fwM c T lo hi n a b u v p y := by
  refine fwO_closed (c + 1) (Nat.le_refl _) (fun o ho => ?_) p x y (by omega) hx hy
  have h1 := okR_iff.1 h o (by omega)
  have h2 := fwO_le2 c (rdM c T lo hi a b u v n) o (c + 1 - o) o o
  rw [show o + (c + 1 - o) = c + 1 by omega] at h2
  exact Int.le_trans h1 h2
theorem rdM_00 {c : Nat} {T lo hi : Int} {a b u v : Nat → Int} (n : Nat) : rdM c T lo hi a b u v n 0 0 ≤ 0 := by
  have h1 := rdM_mono c T lo hi a b u v 0 n (Nat.zero_le _) 0 0
  have h2 : rdM c T lo hi a b u v 0 0 0 ≤ cel c lo hi c 0 0 := Int.le_trans (bnd_le _ _ _ _ _ _) (bnd_le _ _ _ _ _ _)
  have h3 : ∀ k, cel c lo hi k 0 0 ≤ 0 := by
    intro k
    induction k with
    | zero => unfold cel ini; rw [if_neg (by omega)]; exact Int.le_refl _
    | succ k ih => exact Int.le_trans (Int.le_trans (bnd_le _ _ _ _ _ _) (bnd_le _ _ _ _ _ _)) ih
  exact Int.le_trans h1 (Int.le_trans h2 (h3 c))
theorem fw_00 {c : Nat} {T lo hi : Int} {n : Nat} {a b u v : Nat → Int} (h : okR c T lo hi n a b u v = true) : fwM c T lo hi n a b u v 0 0 = 0 := by
  have h1 := okR_iff.1 h 0 (Nat.zero_le _)
  have h2 : fwM c T lo hi n a b u v 0 0 ≤ 0 := Int.le_trans (fwO_le c _ (c + 1) 0 0) (rdM_00 n)
  omega
theorem tr_hi {c : Nat} {T lo hi : Int} {n : Nat} {a b u v : Nat → Int} (hb : 1 ≤ lo ∧ lo ≤ hi ∧ hi ≤ 200 ∧ 1 ≤ T ∧ T ≤ 2000) (hr : rdOk c n a b u v) (h : okR c T lo hi n a b u v = true) : Tr c T lo hi n a b u v (fun k => fwM c T lo hi n a b u v 0 k) := by
  refine (tr_fw hb hr (fw_00 h)).2 fun x y hx hy => ?_
  have := fw_closed h hx (Nat.zero_le _) hy
  show fwM c T lo hi n a b u v 0 y - fwM c T lo hi n a b u v 0 x ≤ _
  omega
theorem tr_lo {c : Nat} {T lo hi : Int} {n : Nat} {a b u v : Nat → Int} (hb : 1 ≤ lo ∧ lo ≤ hi ∧ hi ≤ 200 ∧ 1 ≤ T ∧ T ≤ 2000) (hr : rdOk c n a b u v) (h : okR c T lo hi n a b u v = true) : Tr c T lo hi n a b u v (fun k => -(fwM c T lo hi n a b u v k 0)) := by
  refine (tr_fw hb hr (by rw [fw_00 h]; rfl)).2 fun x y hx hy => ?_
  have := fw_closed h hy hx (Nat.zero_le _)
  show -(fwM c T lo hi n a b u v y 0) - -(fwM c T lo hi n a b u v x 0) ≤ _
  omega

end Go.Proofs.Ytmdeoobmeokmeaa
/- Contracts of functions of the program, by the engine Sx: what each call comes to. Printed by a program of this repo (sxgen.py). -/
set_option linter.unusedSimpArgs false
set_option linter.unusedVariables false
namespace Go.Proofs.Ytmdeoobmeokmeaa
open Go Go.Sx Go.RowKit
/-- The height of a mark, by volumes; all of them. -/
def sumF (f : Nat → Int) : Nat → Int
  | 0 => 0
  | k + 1 => sumF f k + f k
def hgA (f : Nat → Int) (n j : Nat) : Int := if j ≤ n then sumF f j else 0


theorem sumF_bd {f : Nat → Int} {n : Nat} {N : Int} (hN : 0 ≤ N) (h : ∀ k, k < n → -N ≤ f k ∧ f k ≤ N) : ∀ k, k ≤ n → -(k * N) ≤ sumF f k ∧ sumF f k ≤ k * N
  | 0, _ => by simp [sumF]
  | k + 1, hk => by
    have ih := sumF_bd hN h k (by omega)
    have := h k (by omega)
    have e : (((k + 1 : Nat) : Int)) * N = k * N + N := by rw [Int.natCast_add, Int.add_mul]; simp
    rw [e]
    unfold sumF
    omega
theorem hgA_step {f : Nat → Int} {k : Nat} (j : Nat) : updI (k + 1) (hgA f k k + f k) (hgA f k) j = hgA f (k + 1) j := by
  unfold updI hgA
  by_cases h : j = k + 1
  · subst h
    rw [if_pos rfl, if_pos (Nat.le_refl _), if_pos (Nat.le_refl _)]
    rfl
  · rw [if_neg h]
    by_cases h2 : j ≤ k
    · rw [if_pos h2, if_pos (by omega)]
    · rw [if_neg h2, if_neg (by omega)]
theorem hgA_zero (f : Nat → Int) (j : Nat) : (0 : Int) = hgA f 0 j := by
  unfold hgA
  split
  · rename_i h
    have : j = 0 := by omega
    subst this
    rfl
  · rfl
theorem hgA_bd {f : Nat → Int} {n : Nat} {N : Int} (hN : 0 ≤ N) (h : ∀ k, k < n → -N ≤ f k ∧ f k ≤ N) {j m : Nat} (hm : m ≤ n) (hn : n ≤ 100) : -(100 * N) ≤ hgA f m j ∧ hgA f m j ≤ 100 * N := by
  unfold hgA
  split
  · have h1 := sumF_bd hN h j (by omega)
    have h2 := Int.mul_le_mul_of_nonneg_right (show (j : Int) ≤ 100 by omega) hN
    omega
  · omega

noncomputable def E_ri (n : Nat) (f : Nat → Int) : St := (some
  {
    σ :=
      [AV.lst (1 : Nat) n fun k => [AV.x (Value.int IntKind.i64 (f k))], AV.top, AV.ptr (0 : Nat) (0 : Nat), AV.top,
        AV.top, AV.lst (1 : Nat) n fun k => [AV.x (Value.int IntKind.i64 (f k))],
        AV.x (Value.int IntKind.i64 (↑n : Int)), AV.top, AV.top, AV.top, AV.top, AV.top, AV.top, AV.top, AV.top, AV.top,
        AV.top, AV.top, AV.top, AV.top, AV.top, AV.top],
    m := [((0 : Nat), Res.ints (120 : Nat) [] (11 : Nat) fun a => (0 : Int))], nx := (4 : Nat) } : Option St).getD { σ := [], m := [], nx := 0 }
noncomputable def B_ri : Code := loopBody (loopAt (bodyOf Try.f82) 0)
noncomputable def inv_ri (n : Nat) (f : Nat → Int) (k : Nat) : St := { σ := ovrS [(7, i k)] (E_ri n f).σ, m := [(0, .ints 120 [] 11 (hgA f k))], nx := (E_ri n f).nx }
noncomputable def out_ri (n : Nat) (f : Nat → Int) (k : Nat) : AEx → Option St := fun ex => match ex with
  | .exit 0 => some { σ := ovrS [(7, i n)] (E_ri n f).σ, m := [(0, .ints 120 [] 11 (hgA f n))], nx := (E_ri n f).nx }
  | _ => none
noncomputable def T_ri (n : Nat) (f : Nat → Int) : CT := .leaf (.exit 0, ( out_ri n f 0 (.exit 0)).getD (E_ri n f))
noncomputable def LS_ri (n : Nat) (f : Nat → Int) : LSpec := normSp [] (sumL (inv_ri n f (0)) (T_ri n f))
set_option maxRecDepth 100000 in
theorem ri_ls (n : Nat) (f : Nat → Int) (pre0 : n ≤ 10) (pre1 : ∀ k, k < n → -1000000 ≤ f k ∧ f k ≤ 1000000) : LSound Try.prog (.loop B_ri) (LS_ri n f) := by
  refine loop_roundsX [] (E := { R := [], H := [] }) (G := []) (L := []) (SoundG.nil _) (SoundX.of (SoundRL.nil _) (SoundHL.nil _)) mixed noLoops (X := Nat) (inv_ri n f) (fun k => k ≤ n) (fun k => n - k) (out_ri n f) (x0 := 0) (by simp) ?_ ?_ ?_
  · rintro k
    kernel_rfl
  · rintro k y E h
    unfold out_ri at h
    split at h
    · cases h; kernel_rfl
    · cases h
  · rintro Q hQ k hx
    refine ⟨(k + 1), ?_⟩
    have e : roundX Try.prog [] { R := [], H := [] } [] [] B_ri (inv_ri n f k) (inv_ri n f ((k + 1))) (out_ri n f k) = (Tree.branch (decide ((↑k : Int) < (↑n : Int))) (Tree.need [(0 : Int) ≤ (↑k : Int) ∧ (↑k : Int) < (↑n : Int)] (Tree.need [inI64 ((↑k : Int) + (1 : Int))] (Tree.need [(0 : Int) ≤ (↑k : Int) ∧ (↑k : Int) < (↑(11 : Nat) : Int)] (Tree.need [k * 1 + 0 < 11] (Tree.need [inI64 (hgA f k (k * 1 + 0) + f k)] (Tree.need [(0 : Int) ≤ (↑k : Int) + (1 : Int) ∧ (↑k : Int) + (1 : Int) < (↑(11 : Nat) : Int)] (Tree.need [Int.toNat ((↑k : Int) + (1 : Int)) * 1 + 0 + List.length [hgA f k (k * 1 + 0) + f k] ≤ 11] (Tree.need [inI64 ((↑k : Int) + (1 : Int))] (Tree.need [(AV.lst 1 n fun k => [iI (f k)]) = AV.lst 1 n fun k => [iI (f k)], AV.ptr 0 0 = AV.ptr 0 0, (AV.lst 1 n fun k => [iI (f k)]) = AV.lst 1 n fun k => [iI (f k)], (↑n : Int) = (↑n : Int), (↑k : Int) + (1 : Int) = (↑(k + 1) : Int), 11 = 11, ∀ (k_1 : Nat), k_1 < 11 → updI (Int.toNat ((↑k : Int) + (1 : Int)) * 1 + 0) (hgA f k (k * 1 + 0) + f k) (hgA f k) k_1 = hgA f (k + 1) k_1] (Tree.leaf AEx.normal)))))))))) (Tree.need [(AV.lst 1 n fun k => [iI (f k)]) = AV.lst 1 n fun k => [iI (f k)], AV.ptr 0 0 = AV.ptr 0 0, (AV.lst 1 n fun k => [iI (f k)]) = AV.lst 1 n fun k => [iI (f k)], (↑n : Int) = (↑n : Int), (↑k : Int) = (↑n : Int), 11 = 11, ∀ (k_1 : Nat), k_1 < 11 → hgA f k k_1 = hgA f n k_1] (Tree.leaf (AEx.exit 0)))) := by kernel_rfl
    rw [e]
    simp only [T_ri, out_ri, Tree.sat, Option.getD_some] at hQ
    simp only [Tree.sat, allP, fitP, fitL, valEq, inI64, true_and, and_true, decide_eq_true_eq, decide_eq_false_iff_not, Int.natCast_zero, Int.toNat_natCast, List.length_cons, List.length_nil, updL_one, out_ri, Nat.mul_one, Nat.add_zero]
    clear e
    have hb : k ≤ n → -(100 * 1000000) ≤ hgA f k k ∧ hgA f k k ≤ 100 * 1000000 := fun hk => hgA_bd (by omega) pre1 hk (by omega)
    have hs : ((k : Int) + 1).toNat = k + 1 := by omega
    simp only [hs]
    have hf := pre1 k
    have hb := hb hx
    refine ⟨fun h => ?_, fun h => ?_⟩
    · (repeat' first | with_reducible apply And.intro | with_reducible intro _)
      all_goals first | exact True.intro | omega | with_reducible rfl | exact one_of (by assumption) (by simp [AV.one, Value.oneCell']) | exact catF4 (by assumption) rfl rfl rfl rfl | exact catF2 (by assumption) rfl rfl | (rename_i E hE; cases hE; exact hQ) | rfl | assumption | (exact hgA_step _)
    · obtain rfl : k = n := by omega
      (repeat' first | with_reducible apply And.intro | with_reducible intro _)
      all_goals first | exact True.intro | omega | with_reducible rfl | exact one_of (by assumption) (by simp [AV.one, Value.oneCell']) | exact catF4 (by assumption) rfl rfl rfl rfl | exact catF2 (by assumption) rfl rfl | (rename_i E hE; cases hE; exact hQ) | rfl | assumption | (exact hgA_step _)

set_option maxRecDepth 100000 in
theorem raised_at (n : Nat) (f : Nat → Int) (pre0 : n ≤ 10) (pre1 : ∀ k, k < n → -1000000 ≤ f k ∧ f k ≤ 1000000) : SoundAt Try.prog 82 [.lst 1 n (fun k => [i (f k)])] (.agg ((List.range 11).map fun j => i (hgA f n j))) := by
  refine soundAt_finX (G := []) (X := { R := [], H := [] }) (L := [LS_ri n f]) (SoundG.nil _) (SoundX.of (SoundRL.nil _) (SoundHL.nil _)) mixed Try.func82 (show Try.f82.body = some (bodyOf Try.f82) by kernel_rfl) (one_loop (fun cj hcj => by
    have e : loopAt (bodyOf Try.f82) 0 = some (.loop B_ri) := by kernel_rfl
    rw [e] at hcj; cases hcj
    exact (ri_ls n f pre0 pre1).N)) (t := (Tree.need [(AV.lst 1 n fun k => [iI (f k)]) = AV.lst 1 n fun k => [iI (f k)], AV.ptr 0 0 = AV.ptr 0 0, (AV.lst 1 n fun k => [iI (f k)]) = AV.lst 1 n fun k => [iI (f k)], (↑n : Int) = (↑n : Int), (0 : Int) = (↑(0 : Nat) : Int), 11 = 11, ∀ (k : Nat), k < 11 → (0 : Int) = hgA f 0 k] (Tree.need [11 ≤ 11] (Tree.need [0 + List.length [hgA f n 0, hgA f n 1, hgA f n 2, hgA f n 3, hgA f n 4, hgA f n 5, hgA f n 6, hgA f n 7, hgA f n 8, hgA f n 9, hgA f n 10] ≤ 11] (Tree.leaf (RV.agg [RV.x (Value.int IntKind.i64 (updI 10 (hgA f n 10) (updI 9 (hgA f n 9) (updI 8 (hgA f n 8) (updI 7 (hgA f n 7) (updI 6 (hgA f n 6) (updI 5 (hgA f n 5) (updI 4 (hgA f n 4) (updI 3 (hgA f n 3) (updI 2 (hgA f n 2) (updI 1 (hgA f n 1) (updI 0 (hgA f n 0) (hgA f n))))))))))) 0)), RV.x (Value.int IntKind.i64 (updI 10 (hgA f n 10) (updI 9 (hgA f n 9) (updI 8 (hgA f n 8) (updI 7 (hgA f n 7) (updI 6 (hgA f n 6) (updI 5 (hgA f n 5) (updI 4 (hgA f n 4) (updI 3 (hgA f n 3) (updI 2 (hgA f n 2) (updI 1 (hgA f n 1) (updI 0 (hgA f n 0) (hgA f n))))))))))) 1)), RV.x (Value.int IntKind.i64 (updI 10 (hgA f n 10) (updI 9 (hgA f n 9) (updI 8 (hgA f n 8) (updI 7 (hgA f n 7) (updI 6 (hgA f n 6) (updI 5 (hgA f n 5) (updI 4 (hgA f n 4) (updI 3 (hgA f n 3) (updI 2 (hgA f n 2) (updI 1 (hgA f n 1) (updI 0 (hgA f n 0) (hgA f n))))))))))) 2)), RV.x (Value.int IntKind.i64 (updI 10 (hgA f n 10) (updI 9 (hgA f n 9) (updI 8 (hgA f n 8) (updI 7 (hgA f n 7) (updI 6 (hgA f n 6) (updI 5 (hgA f n 5) (updI 4 (hgA f n 4) (updI 3 (hgA f n 3) (updI 2 (hgA f n 2) (updI 1 (hgA f n 1) (updI 0 (hgA f n 0) (hgA f n))))))))))) 3)), RV.x (Value.int IntKind.i64 (updI 10 (hgA f n 10) (updI 9 (hgA f n 9) (updI 8 (hgA f n 8) (updI 7 (hgA f n 7) (updI 6 (hgA f n 6) (updI 5 (hgA f n 5) (updI 4 (hgA f n 4) (updI 3 (hgA f n 3) (updI 2 (hgA f n 2) (updI 1 (hgA f n 1) (updI 0 (hgA f n 0) (hgA f n))))))))))) 4)), RV.x (Value.int IntKind.i64 (updI 10 (hgA f n 10) (updI 9 (hgA f n 9) (updI 8 (hgA f n 8) (updI 7 (hgA f n 7) (updI 6 (hgA f n 6) (updI 5 (hgA f n 5) (updI 4 (hgA f n 4) (updI 3 (hgA f n 3) (updI 2 (hgA f n 2) (updI 1 (hgA f n 1) (updI 0 (hgA f n 0) (hgA f n))))))))))) 5)), RV.x (Value.int IntKind.i64 (updI 10 (hgA f n 10) (updI 9 (hgA f n 9) (updI 8 (hgA f n 8) (updI 7 (hgA f n 7) (updI 6 (hgA f n 6) (updI 5 (hgA f n 5) (updI 4 (hgA f n 4) (updI 3 (hgA f n 3) (updI 2 (hgA f n 2) (updI 1 (hgA f n 1) (updI 0 (hgA f n 0) (hgA f n))))))))))) 6)), RV.x (Value.int IntKind.i64 (updI 10 (hgA f n 10) (updI 9 (hgA f n 9) (updI 8 (hgA f n 8) (updI 7 (hgA f n 7) (updI 6 (hgA f n 6) (updI 5 (hgA f n 5) (updI 4 (hgA f n 4) (updI 3 (hgA f n 3) (updI 2 (hgA f n 2) (updI 1 (hgA f n 1) (updI 0 (hgA f n 0) (hgA f n))))))))))) 7)), RV.x (Value.int IntKind.i64 (updI 10 (hgA f n 10) (updI 9 (hgA f n 9) (updI 8 (hgA f n 8) (updI 7 (hgA f n 7) (updI 6 (hgA f n 6) (updI 5 (hgA f n 5) (updI 4 (hgA f n 4) (updI 3 (hgA f n 3) (updI 2 (hgA f n 2) (updI 1 (hgA f n 1) (updI 0 (hgA f n 0) (hgA f n))))))))))) 8)), RV.x (Value.int IntKind.i64 (updI 10 (hgA f n 10) (updI 9 (hgA f n 9) (updI 8 (hgA f n 8) (updI 7 (hgA f n 7) (updI 6 (hgA f n 6) (updI 5 (hgA f n 5) (updI 4 (hgA f n 4) (updI 3 (hgA f n 3) (updI 2 (hgA f n 2) (updI 1 (hgA f n 1) (updI 0 (hgA f n 0) (hgA f n))))))))))) 9)), RV.x (Value.int IntKind.i64 (updI 10 (hgA f n 10) (updI 9 (hgA f n 9) (updI 8 (hgA f n 8) (updI 7 (hgA f n 7) (updI 6 (hgA f n 6) (updI 5 (hgA f n 5) (updI 4 (hgA f n 4) (updI 3 (hgA f n 3) (updI 2 (hgA f n 2) (updI 1 (hgA f n 1) (updI 0 (hgA f n 0) (hgA f n))))))))))) 10))])))))) (by kernel_rfl) ?_
  have us : ∀ q, updI q (hgA f n q) (hgA f n) = hgA f n := fun q => by
    funext j
    unfold updI
    split
    · rename_i h
      rw [h]
    · rfl
  simp only [us]
  simp only [Tree.sat, allP, fitP, fitL, valEq, true_and, and_true, List.length_cons, List.length_nil]
  refine ⟨⟨rfl, fun k hk => hgA_zero f k⟩, by omega, by omega, ?_⟩
  exact ⟨⟨rfl, rfl⟩, ⟨rfl, rfl⟩, ⟨rfl, rfl⟩, ⟨rfl, rfl⟩, ⟨rfl, rfl⟩, ⟨rfl, rfl⟩, ⟨rfl, rfl⟩, ⟨rfl, rfl⟩, ⟨rfl, rfl⟩, ⟨rfl, rfl⟩, ⟨rfl, rfl⟩, True.intro⟩

def S_raised : Sx.Spec := fun l => match l with
  | [.lst 1 n f] => some ([isRec 1 n f, n ≤ 10, ∀ k, k < n → -1000000 ≤ col 0 f k ∧ col 0 f k ≤ 1000000], .agg ((List.range 11).map fun j => i (hgA (col 0 f) n j)))
  | _ => none

theorem raised_ok : SoundSpec Try.prog 82 S_raised := by
  refine ⟨⟨_, Try.func82, by kernel_rfl, by kernel_rfl⟩, ?_⟩
  intro avs ns res h hn
  unfold S_raised at h
  split at h
  · rename_i n f
    cases h
    have hr0 : isRec 1 n f := hn _ (by simp)
    exact (raised_at n (col 0 f) (hn _ (by simp)) (hn _ (by simp))).same (.cons (.lst 1 n _ _ hr0) .nil)
  · cases h

end Go.Proofs.Ytmdeoobmeokmeaa
/- Contracts of functions of the program, by the engine Sx: what each call comes to. Printed by a program of this repo (sxgen.py). -/
set_option linter.unusedSimpArgs false
set_option linter.unusedVariables false
namespace Go.Proofs.Ytmdeoobmeokmeaa
open Go Go.Sx Go.RowKit
def S_PT1 : Sx.Spec := fun l => match l with
  | [.x (.int .i64 n), .ro [.x (.int .i64 c), .x (.int .i64 T), .x (.int .i64 lo), .x (.int .i64 hi)]] => some ([], bl (bt lo n hi))
  | _ => none

set_option maxRecDepth 100000 in
theorem PT1_at (n c T lo hi : Int) : SoundAt Try.prog 79 [i n, .ro [i c, i T, i lo, i hi]] (bl (bt lo n hi)) := by
  refine soundAt_fin (G := [(75, S_within)]) (L := []) (SoundG.cons within_ok (SoundG.nil _)) mixed Try.func79 (show Try.f79.body = some (bodyOf Try.f79) by kernel_rfl) noLoops (t := (Tree.leaf (RV.x (Value.bool (bt lo n hi))))) (by kernel_rfl) ?_
  simp only [Tree.sat, allP, fitP, fitL, valEq, inI64, true_and, and_true]
  all_goals first | omega | grind
theorem PT1_ok : SoundSpec Try.prog 79 S_PT1 := by
  refine ⟨⟨_, Try.func79, by kernel_rfl, by kernel_rfl⟩, ?_⟩
  intro avs ns res h hn
  unfold S_PT1 at h
  split at h
  · cases h
    exact PT1_at _ _ _ _ _
  · cases h

def S_PK1 : Sx.Spec := fun l => match l with
  | [.x (.int .i64 k), .ro [.lst 4 n f]] => some ([n ≤ 100000], bl (bt 0 k ((n : Int) - 1)))
  | _ => none

set_option maxRecDepth 100000 in
theorem PK1_at (k : Int) (n : Nat) (f : Nat → List AV) (pre0 : n ≤ 100000) : SoundAt Try.prog 87 [i k, .ro [.lst 4 n f]] (bl (bt 0 k ((n : Int) - 1))) := by
  refine soundAt_fin (G := [(75, S_within)]) (L := []) (SoundG.cons within_ok (SoundG.nil _)) mixed Try.func87 (show Try.f87.body = some (bodyOf Try.f87) by kernel_rfl) noLoops (t := (Tree.need [inI64 ((↑n : Int) - (1 : Int))] (Tree.leaf (RV.x (Value.bool (bt (0 : Int) k ((↑n : Int) - (1 : Int)))))))) (by kernel_rfl) ?_
  simp only [Tree.sat, allP, fitP, fitL, valEq, inI64, true_and, and_true]
  omega
theorem PK1_ok : SoundSpec Try.prog 87 S_PK1 := by
  refine ⟨⟨_, Try.func87, by kernel_rfl, by kernel_rfl⟩, ?_⟩
  intro avs ns res h hn
  unfold S_PK1 at h
  split at h
  · cases h
    exact PK1_at _ _ _ (hn _ (by simp))
  · cases h

set_option maxRecDepth 100000 in
theorem alli1T_at (x : Int) (c T lo hi : Int) : SoundAt Try.prog 102 [i x, .ro [.fn (.func 79) [] [.ro [i c, i T, i lo, i hi]]]] (bl (!(bt lo x hi))) := by
  refine soundAt_fin (G := [(79, S_PT1)]) (L := []) (SoundG.cons PT1_ok (SoundG.nil _)) mixed Try.func102 (show Try.f102.body = some (bodyOf Try.f102) by kernel_rfl) noLoops (t := (Tree.leaf (RV.x (Value.bool !bt lo x hi)))) (by kernel_rfl) ?_
  simp [Tree.sat, allP, fitP, valEq]

def S_alli1T : Sx.Spec := fun l => match l with
  | [.x (.int .i64 x), .ro [.fn (.func 79) [] [.ro [.x (.int .i64 c), .x (.int .i64 T), .x (.int .i64 lo), .x (.int .i64 hi)]]]] => some ([], bl (!(bt lo x hi)))
  | _ => none

theorem alli1T_ok : SoundSpec Try.prog 102 S_alli1T := by
  refine ⟨⟨_, Try.func102, by kernel_rfl, by kernel_rfl⟩, ?_⟩
  intro avs ns res h hn
  unfold S_alli1T at h
  split at h
  · cases h
    exact alli1T_at _ _ _ _ _ 
  · cases h

noncomputable def E_xiT (n : Nat) (f : Nat → Int) (c T lo hi : Int) : St := (some
  {
    σ :=
      [AV.lst (1 : Nat) n fun k => [AV.x (Value.int IntKind.i64 (f k))],
        AV.fn (Fn.func (102 : Nat)) []
          [AV.ro
              [AV.fn (Fn.func (79 : Nat)) []
                  [AV.ro
                      [AV.x (Value.int IntKind.i64 c), AV.x (Value.int IntKind.i64 T), AV.x (Value.int IntKind.i64 lo),
                        AV.x (Value.int IntKind.i64 hi)]]]],
        AV.top, AV.top, AV.top, AV.top, AV.top, AV.x (Value.int IntKind.i64 (↑n : Int)), AV.top, AV.top, AV.top, AV.top,
        AV.top, AV.top, AV.top, AV.top, AV.top, AV.top, AV.top],
    m := [], nx := (4 : Nat) } : Option St).getD { σ := [], m := [], nx := 0 }
noncomputable def B_xiT : Code := loopBody (loopAt (bodyOf Try.f106) 0)
noncomputable def inv_xiT (n : Nat) (f : Nat → Int) (c T lo hi : Int) (k : Nat) : St := { σ := ovrS [(8, i k)] (E_xiT n f c T lo hi).σ, m := (E_xiT n f c T lo hi).m, nx := (E_xiT n f c T lo hi).nx }
noncomputable def out_xiT (n : Nat) (f : Nat → Int) (c T lo hi : Int) (k : Nat) : AEx → Option St := fun ex => match ex with
  | .ret => some { σ := ovrS [(4, i (fstI ((fun k => !(bt lo (f k) hi))) n))] (E_xiT n f c T lo hi).σ, m := (E_xiT n f c T lo hi).m, nx := (E_xiT n f c T lo hi).nx }
  | .exit 0 => some { σ := ovrS [] (E_xiT n f c T lo hi).σ, m := (E_xiT n f c T lo hi).m, nx := (E_xiT n f c T lo hi).nx }
  | _ => none
noncomputable def T_xiT (n : Nat) (f : Nat → Int) (c T lo hi : Int) : CT := .branch (decide (fstI ((fun k => !(bt lo (f k) hi))) n < n)) (.leaf (.ret, ( out_xiT n f c T lo hi 0 .ret).getD (E_xiT n f c T lo hi))) (.leaf (.exit 0, ( out_xiT n f c T lo hi 0 (.exit 0)).getD (E_xiT n f c T lo hi)))
noncomputable def LS_xiT (n : Nat) (f : Nat → Int) (c T lo hi : Int) : LSpec := (sumL (inv_xiT n f c T lo hi (0)) (T_xiT n f c T lo hi))
set_option maxRecDepth 100000 in
theorem xiT_ls (n : Nat) (f : Nat → Int) (c T lo hi : Int) (pre0 : n ≤ 100000) : LSound Try.prog (.loop B_xiT) (LS_xiT n f c T lo hi) := by
  refine loop_rounds (G := [(102, S_alli1T)]) (L := []) (SoundG.cons alli1T_ok (SoundG.nil _)) mixed noLoops (X := Nat) (inv_xiT n f c T lo hi) (fun k => k ≤ n ∧ ∀ j, j < k → (fun k => !(bt lo (f k) hi)) j = false) (fun k => n - k) (out_xiT n f c T lo hi) (x0 := 0) ⟨by omega, fun j hj => by omega⟩ ?_ ?_ ?_
  · rintro k
    kernel_rfl
  · rintro k y E h
    unfold out_xiT at h
    split at h
    · cases h; kernel_rfl
    · cases h; kernel_rfl
    · cases h
  · rintro Q hQ k hx
    refine ⟨(k + 1), ?_⟩
    have e : roundT Try.prog [(102, S_alli1T)] [] B_xiT (inv_xiT n f c T lo hi k) (inv_xiT n f c T lo hi ((k + 1))) (out_xiT n f c T lo hi k) = (Tree.branch (decide ((↑k : Int) < (↑n : Int))) (Tree.need [(0 : Int) ≤ (↑k : Int) ∧ (↑k : Int) < (↑n : Int)] (Tree.branch (!bt lo (f k) hi) (Tree.need [(AV.lst 1 n fun k => [iI (f k)]) = AV.lst 1 n fun k => [iI (f k)], AV.fn (Fn.func 102) [] [AV.ro [AV.fn (Fn.func 79) [] [AV.ro [iI c, iI T, iI lo, iI hi]]]] = AV.fn (Fn.func 102) [] [AV.ro [AV.fn (Fn.func 79) [] [AV.ro [iI c, iI T, iI lo, iI hi]]]], (↑k : Int) = (↑(fstI (fun k => !bt lo (f k) hi) n) : Int), (↑n : Int) = (↑n : Int)] (Tree.leaf AEx.ret)) (Tree.need [inI64 ((↑k : Int) + (1 : Int))] (Tree.need [(AV.lst 1 n fun k => [iI (f k)]) = AV.lst 1 n fun k => [iI (f k)], AV.fn (Fn.func 102) [] [AV.ro [AV.fn (Fn.func 79) [] [AV.ro [iI c, iI T, iI lo, iI hi]]]] = AV.fn (Fn.func 102) [] [AV.ro [AV.fn (Fn.func 79) [] [AV.ro [iI c, iI T, iI lo, iI hi]]]], (↑n : Int) = (↑n : Int), (↑k : Int) + (1 : Int) = (↑(k + 1) : Int)] (Tree.leaf AEx.normal))))) (Tree.need [(AV.lst 1 n fun k => [iI (f k)]) = AV.lst 1 n fun k => [iI (f k)], AV.fn (Fn.func 102) [] [AV.ro [AV.fn (Fn.func 79) [] [AV.ro [iI c, iI T, iI lo, iI hi]]]] = AV.fn (Fn.func 102) [] [AV.ro [AV.fn (Fn.func 79) [] [AV.ro [iI c, iI T, iI lo, iI hi]]]], (↑n : Int) = (↑n : Int)] (Tree.leaf (AEx.exit 0)))) := by kernel_rfl
    rw [e]
    simp only [T_xiT, out_xiT, Tree.sat, Option.getD_some, decide_eq_true_eq, decide_eq_false_iff_not] at hQ
    simp only [Tree.sat, allP, true_and, and_true, decide_eq_true_eq, decide_eq_false_iff_not, inI64, out_xiT, Int.toNat_natCast]
    refine ⟨fun h => ⟨by omega, ?_⟩, fun h => ?_⟩
    rotate_left
    · have hf : fstI ((fun k => !(bt lo (f k) hi))) n = n := fstI_none (fun j hj => hx.2 j (by omega))
      intro E hE
      cases hE
      exact hQ.2 (by omega)
    refine ⟨fun hb => ?_, fun hb => ?_⟩
    · have hf : fstI ((fun k => !(bt lo (f k) hi))) n = k := fstI_eq (by omega) hb hx.2
      refine ⟨by omega, fun E hE => ?_⟩
      cases hE
      exact hQ.1 (by omega)
    · refine ⟨by omega, by omega, ⟨by omega, fun j hj => ?_⟩, by omega⟩
      rcases (show j < k ∨ j = k by omega) with h1 | rfl
      · exact hx.2 j h1
      · exact hb

set_option maxRecDepth 100000 in
theorem xfiT_at (n : Nat) (f : Nat → Int) (c T lo hi : Int) (pre0 : n ≤ 100000) : SoundAt Try.prog 106 [.lst 1 n (fun k => [i (f k)]), .fn (.func 102) [] [.ro [.fn (.func 79) [] [.ro [i c, i T, i lo, i hi]]]]] (i (if fstI ((fun k => !(bt lo (f k) hi))) n < n then (fstI ((fun k => !(bt lo (f k) hi))) n : Int) else -1)) := by
  refine soundAt_fin (G := [(102, S_alli1T)]) (L := [LS_xiT n f c T lo hi]) (SoundG.cons alli1T_ok (SoundG.nil _)) mixed Try.func106 (show Try.f106.body = some (bodyOf Try.f106) by kernel_rfl) (one_loop (fun cj hcj => by
    have e : loopAt (bodyOf Try.f106) 0 = some (.loop B_xiT) := by kernel_rfl
    rw [e] at hcj; cases hcj
    exact xiT_ls n f c T lo hi pre0)) (t := (Tree.need [(AV.lst 1 n fun k => [iI (f k)]) = AV.lst 1 n fun k => [iI (f k)], AV.fn (Fn.func 102) [] [AV.ro [AV.fn (Fn.func 79) [] [AV.ro [iI c, iI T, iI lo, iI hi]]]] = AV.fn (Fn.func 102) [] [AV.ro [AV.fn (Fn.func 79) [] [AV.ro [iI c, iI T, iI lo, iI hi]]]], (↑n : Int) = (↑n : Int), (0 : Int) = (↑(0 : Nat) : Int)] (Tree.branch (decide (fstI (fun k => !bt lo (f k) hi) n < n)) (Tree.leaf (RV.x (Value.int IntKind.i64 (↑(fstI (fun k => !bt lo (f k) hi) n) : Int)))) (Tree.leaf (RV.x (Value.int IntKind.i64 (-1 : Int))))))) (by kernel_rfl) ?_
  simp only [Tree.sat, allP, fitP, valEq, true_and, and_true, decide_eq_true_eq, decide_eq_false_iff_not]
  simp +contextual

def S_xfiT : Sx.Spec := fun l => match l with
  | [.lst 1 n f, .fn (.func 102) [] [.ro [.fn (.func 79) [] [.ro [.x (.int .i64 c), .x (.int .i64 T), .x (.int .i64 lo), .x (.int .i64 hi)]]]]] => some ([isRec 1 n f, n ≤ 100000], i (if fstI ((fun k => !(bt lo (col 0 f k) hi))) n < n then (fstI ((fun k => !(bt lo (col 0 f k) hi))) n : Int) else -1))
  | _ => none

theorem xfiT_ok : SoundSpec Try.prog 106 S_xfiT := by
  refine ⟨⟨_, Try.func106, by kernel_rfl, by kernel_rfl⟩, ?_⟩
  intro avs ns res h hn
  unfold S_xfiT at h
  split at h
  · cases h
    have hr : isRec 1 _ _ := hn _ (List.mem_cons_self)
    exact (xfiT_at _ (col 0 _) _ _ _ _ (hn _ (by simp)) ).same (.cons (.lst 1 _ _ _ hr) (.cons (.refl _) .nil))
  · cases h

set_option maxRecDepth 100000 in
theorem cfiT_at (n : Nat) (f : Nat → Int) (c T lo hi : Int) (pre0 : n ≤ 100000) : SoundAt Try.prog 101 [.lst 1 n (fun k => [i (f k)]), .fn (.func 102) [] [.ro [.fn (.func 79) [] [.ro [i c, i T, i lo, i hi]]]]] (bl (!allI (fun k => bt lo (f k) hi) n)) := by
  refine soundAt_fin (G := [(106, S_xfiT)]) (L := []) (SoundG.cons xfiT_ok (SoundG.nil _)) mixed Try.func101 (show Try.f101.body = some (bodyOf Try.f101) by kernel_rfl) noLoops (t := (Tree.need [isRec 1 n fun k => [i (f k)], n ≤ 100000] (Tree.leaf (RV.x (Value.bool (decide ((if fstI (fun k => !bt lo (f k) hi) n < n then (↑(fstI (fun k => !bt lo (f k) hi) n) : Int) else (-1 : Int)) ≥ (0 : Int)))))))) (by kernel_rfl) ?_
  simp only [Tree.sat, allP, fitP, valEq, true_and, and_true]
  refine ⟨⟨fun _ _ => rfl, pre0⟩, ?_⟩
  rw [allI_fst]
  have e : (fun k => !(fun k => bt lo (f k) hi) k) = (fun k => !(bt lo (f k) hi)) := rfl
  rw [e]
  show decide ((if fstI (fun k => !(bt lo (f k) hi)) n < n then (fstI (fun k => !(bt lo (f k) hi)) n : Int) else -1) ≥ 0) = _
  have := fstI_spec ((fun k => !(bt lo (f k) hi))) n
  split <;> simp <;> omega

def S_cfiT : Sx.Spec := fun l => match l with
  | [.lst 1 n f, .fn (.func 102) [] [.ro [.fn (.func 79) [] [.ro [.x (.int .i64 c), .x (.int .i64 T), .x (.int .i64 lo), .x (.int .i64 hi)]]]]] => some ([isRec 1 n f, n ≤ 100000], bl (!allI (fun k => bt lo (col 0 f k) hi) n))
  | _ => none

theorem cfiT_ok : SoundSpec Try.prog 101 S_cfiT := by
  refine ⟨⟨_, Try.func101, by kernel_rfl, by kernel_rfl⟩, ?_⟩
  intro avs ns res h hn
  unfold S_cfiT at h
  split at h
  · cases h
    have hr : isRec 1 _ _ := hn _ (List.mem_cons_self)
    exact (cfiT_at _ (col 0 _) _ _ _ _ (hn _ (by simp)) ).same (.cons (.lst 1 _ _ _ hr) (.cons (.refl _) .nil))
  · cases h

set_option maxRecDepth 100000 in
theorem alliT_at (n : Nat) (f : Nat → Int) (c T lo hi : Int) (pre0 : n ≤ 100000) : SoundAt Try.prog 81 [.lst 1 n (fun k => [i (f k)]), .fn (.func 79) [] [.ro [i c, i T, i lo, i hi]]] (bl (allI (fun k => bt lo (f k) hi) n)) := by
  refine soundAt_fin (G := [(101, S_cfiT)]) (L := []) (SoundG.cons cfiT_ok (SoundG.nil _)) mixed Try.func81 (show Try.f81.body = some (bodyOf Try.f81) by kernel_rfl) noLoops (t := (Tree.need [isRec 1 n fun k => [i (f k)], n ≤ 100000] (Tree.leaf (RV.x (Value.bool !!allI (fun k => bt lo (f k) hi) n))))) (by kernel_rfl) ?_
  simp only [Tree.sat, allP, fitP, valEq, true_and, and_true]
  refine ⟨⟨fun _ _ => rfl, pre0⟩, ?_⟩
  show (!!allI (fun k => bt lo (f k) hi) n) = _
  simp

def S_alliT : Sx.Spec := fun l => match l with
  | [.lst 1 n f, .fn (.func 79) [] [.ro [.x (.int .i64 c), .x (.int .i64 T), .x (.int .i64 lo), .x (.int .i64 hi)]]] => some ([isRec 1 n f, n ≤ 100000], bl (allI (fun k => bt lo (col 0 f k) hi) n))
  | _ => none

theorem alliT_ok : SoundSpec Try.prog 81 S_alliT := by
  refine ⟨⟨_, Try.func81, by kernel_rfl, by kernel_rfl⟩, ?_⟩
  intro avs ns res h hn
  unfold S_alliT at h
  split at h
  · cases h
    have hr : isRec 1 _ _ := hn _ (List.mem_cons_self)
    exact (alliT_at _ (col 0 _) _ _ _ _ (hn _ (by simp)) ).same (.cons (.lst 1 _ _ _ hr) (.cons (.refl _) .nil))
  · cases h

set_option maxRecDepth 100000 in
theorem alli1K_at (x : Int) (m : Nat) (g : Nat → List AV) (pre0 : m ≤ 100000) : SoundAt Try.prog 102 [i x, .ro [.fn (.func 87) [] [.ro [.lst 4 m g]]]] (bl (!(bt 0 x ((m : Int) - 1)))) := by
  refine soundAt_fin (G := [(87, S_PK1)]) (L := []) (SoundG.cons PK1_ok (SoundG.nil _)) mixed Try.func102 (show Try.f102.body = some (bodyOf Try.f102) by kernel_rfl) noLoops (t := (Tree.need [m ≤ 100000] (Tree.leaf (RV.x (Value.bool !bt (0 : Int) x ((↑m : Int) - (1 : Int))))))) (by kernel_rfl) ?_
  simp [Tree.sat, allP, fitP, valEq]; exact pre0

def S_alli1K : Sx.Spec := fun l => match l with
  | [.x (.int .i64 x), .ro [.fn (.func 87) [] [.ro [.lst 4 m g]]]] => some ([m ≤ 100000], bl (!(bt 0 x ((m : Int) - 1))))
  | _ => none

theorem alli1K_ok : SoundSpec Try.prog 102 S_alli1K := by
  refine ⟨⟨_, Try.func102, by kernel_rfl, by kernel_rfl⟩, ?_⟩
  intro avs ns res h hn
  unfold S_alli1K at h
  split at h
  · cases h
    exact alli1K_at _ _ _ (hn _ (by simp))
  · cases h

noncomputable def E_xiK (n : Nat) (f : Nat → Int) (m : Nat) (g : Nat → List AV) : St := (some
  {
    σ :=
      [AV.lst (1 : Nat) n fun k => [AV.x (Value.int IntKind.i64 (f k))],
        AV.fn (Fn.func (102 : Nat)) []
          [AV.ro [AV.fn (Fn.func (87 : Nat)) [] [AV.ro [AV.lst (4 : Nat) m fun a => g a]]]],
        AV.top, AV.top, AV.top, AV.top, AV.top, AV.x (Value.int IntKind.i64 (↑n : Int)), AV.top, AV.top, AV.top, AV.top,
        AV.top, AV.top, AV.top, AV.top, AV.top, AV.top, AV.top],
    m := [], nx := (4 : Nat) } : Option St).getD { σ := [], m := [], nx := 0 }
noncomputable def B_xiK : Code := loopBody (loopAt (bodyOf Try.f106) 0)
noncomputable def inv_xiK (n : Nat) (f : Nat → Int) (m : Nat) (g : Nat → List AV) (k : Nat) : St := { σ := ovrS [(8, i k)] (E_xiK n f m g).σ, m := (E_xiK n f m g).m, nx := (E_xiK n f m g).nx }
noncomputable def out_xiK (n : Nat) (f : Nat → Int) (m : Nat) (g : Nat → List AV) (k : Nat) : AEx → Option St := fun ex => match ex with
  | .ret => some { σ := ovrS [(4, i (fstI ((fun k => !(bt 0 (f k) ((m : Int) - 1)))) n))] (E_xiK n f m g).σ, m := (E_xiK n f m g).m, nx := (E_xiK n f m g).nx }
  | .exit 0 => some { σ := ovrS [] (E_xiK n f m g).σ, m := (E_xiK n f m g).m, nx := (E_xiK n f m g).nx }
  | _ => none
noncomputable def T_xiK (n : Nat) (f : Nat → Int) (m : Nat) (g : Nat → List AV) : CT := .branch (decide (fstI ((fun k => !(bt 0 (f k) ((m : Int) - 1)))) n < n)) (.leaf (.ret, ( out_xiK n f m g 0 .ret).getD (E_xiK n f m g))) (.leaf (.exit 0, ( out_xiK n f m g 0 (.exit 0)).getD (E_xiK n f m g)))
noncomputable def LS_xiK (n : Nat) (f : Nat → Int) (m : Nat) (g : Nat → List AV) : LSpec := (sumL (inv_xiK n f m g (0)) (T_xiK n f m g))
set_option maxRecDepth 100000 in
theorem xiK_ls (n : Nat) (f : Nat → Int) (m : Nat) (g : Nat → List AV) (pre0 : n ≤ 100000) (pre1 : m ≤ 100000) : LSound Try.prog (.loop B_xiK) (LS_xiK n f m g) := by
  refine loop_rounds (G := [(102, S_alli1K)]) (L := []) (SoundG.cons alli1K_ok (SoundG.nil _)) mixed noLoops (X := Nat) (inv_xiK n f m g) (fun k => k ≤ n ∧ ∀ j, j < k → (fun k => !(bt 0 (f k) ((m : Int) - 1))) j = false) (fun k => n - k) (out_xiK n f m g) (x0 := 0) ⟨by omega, fun j hj => by omega⟩ ?_ ?_ ?_
  · rintro k
    kernel_rfl
  · rintro k y E h
    unfold out_xiK at h
    split at h
    · cases h; kernel_rfl
    · cases h; kernel_rfl
    · cases h
  · rintro Q hQ k hx
    refine ⟨(k + 1), ?_⟩
    have e : roundT Try.prog [(102, S_alli1K)] [] B_xiK (inv_xiK n f m g k) (inv_xiK n f m g ((k + 1))) (out_xiK n f m g k) = (Tree.branch (decide ((↑k : Int) < (↑n : Int))) (Tree.need [(0 : Int) ≤ (↑k : Int) ∧ (↑k : Int) < (↑n : Int)] (Tree.need [m ≤ 100000] (Tree.branch (!bt (0 : Int) (f k) ((↑m : Int) - (1 : Int))) (Tree.need [(AV.lst 1 n fun k => [iI (f k)]) = AV.lst 1 n fun k => [iI (f k)], AV.fn (Fn.func 102) [] [AV.ro [AV.fn (Fn.func 87) [] [AV.ro [AV.lst 4 m fun a => g a]]]] = AV.fn (Fn.func 102) [] [AV.ro [AV.fn (Fn.func 87) [] [AV.ro [AV.lst 4 m fun a => g a]]]], (↑k : Int) = (↑(fstI (fun k => !bt (0 : Int) (f k) ((↑m : Int) - (1 : Int))) n) : Int), (↑n : Int) = (↑n : Int)] (Tree.leaf AEx.ret)) (Tree.need [inI64 ((↑k : Int) + (1 : Int))] (Tree.need [(AV.lst 1 n fun k => [iI (f k)]) = AV.lst 1 n fun k => [iI (f k)], AV.fn (Fn.func 102) [] [AV.ro [AV.fn (Fn.func 87) [] [AV.ro [AV.lst 4 m fun a => g a]]]] = AV.fn (Fn.func 102) [] [AV.ro [AV.fn (Fn.func 87) [] [AV.ro [AV.lst 4 m fun a => g a]]]], (↑n : Int) = (↑n : Int), (↑k : Int) + (1 : Int) = (↑(k + 1) : Int)] (Tree.leaf AEx.normal)))))) (Tree.need [(AV.lst 1 n fun k => [iI (f k)]) = AV.lst 1 n fun k => [iI (f k)], AV.fn (Fn.func 102) [] [AV.ro [AV.fn (Fn.func 87) [] [AV.ro [AV.lst 4 m fun a => g a]]]] = AV.fn (Fn.func 102) [] [AV.ro [AV.fn (Fn.func 87) [] [AV.ro [AV.lst 4 m fun a => g a]]]], (↑n : Int) = (↑n : Int)] (Tree.leaf (AEx.exit 0)))) := by kernel_rfl
    rw [e]
    simp only [T_xiK, out_xiK, Tree.sat, Option.getD_some, decide_eq_true_eq, decide_eq_false_iff_not] at hQ
    simp only [Tree.sat, allP, true_and, and_true, decide_eq_true_eq, decide_eq_false_iff_not, inI64, out_xiK, Int.toNat_natCast]
    refine ⟨fun h => ⟨by omega, pre1, ?_⟩, fun h => ?_⟩
    rotate_left
    · have hf : fstI ((fun k => !(bt 0 (f k) ((m : Int) - 1)))) n = n := fstI_none (fun j hj => hx.2 j (by omega))
      intro E hE
      cases hE
      exact hQ.2 (by omega)
    refine ⟨fun hb => ?_, fun hb => ?_⟩
    · have hf : fstI ((fun k => !(bt 0 (f k) ((m : Int) - 1)))) n = k := fstI_eq (by omega) hb hx.2
      refine ⟨by omega, fun E hE => ?_⟩
      cases hE
      exact hQ.1 (by omega)
    · refine ⟨by omega, by omega, ⟨by omega, fun j hj => ?_⟩, by omega⟩
      rcases (show j < k ∨ j = k by omega) with h1 | rfl
      · exact hx.2 j h1
      · exact hb

set_option maxRecDepth 100000 in
theorem xfiK_at (n : Nat) (f : Nat → Int) (m : Nat) (g : Nat → List AV) (pre0 : n ≤ 100000) (pre1 : m ≤ 100000) : SoundAt Try.prog 106 [.lst 1 n (fun k => [i (f k)]), .fn (.func 102) [] [.ro [.fn (.func 87) [] [.ro [.lst 4 m g]]]]] (i (if fstI ((fun k => !(bt 0 (f k) ((m : Int) - 1)))) n < n then (fstI ((fun k => !(bt 0 (f k) ((m : Int) - 1)))) n : Int) else -1)) := by
  refine soundAt_fin (G := [(102, S_alli1K)]) (L := [LS_xiK n f m g]) (SoundG.cons alli1K_ok (SoundG.nil _)) mixed Try.func106 (show Try.f106.body = some (bodyOf Try.f106) by kernel_rfl) (one_loop (fun cj hcj => by
    have e : loopAt (bodyOf Try.f106) 0 = some (.loop B_xiK) := by kernel_rfl
    rw [e] at hcj; cases hcj
    exact xiK_ls n f m g pre0 pre1)) (t := (Tree.need [(AV.lst 1 n fun k => [iI (f k)]) = AV.lst 1 n fun k => [iI (f k)], AV.fn (Fn.func 102) [] [AV.ro [AV.fn (Fn.func 87) [] [AV.ro [AV.lst 4 m fun a => g a]]]] = AV.fn (Fn.func 102) [] [AV.ro [AV.fn (Fn.func 87) [] [AV.ro [AV.lst 4 m fun a => g a]]]], (↑n : Int) = (↑n : Int), (0 : Int) = (↑(0 : Nat) : Int)] (Tree.branch (decide (fstI (fun k => !bt (0 : Int) (f k) ((↑m : Int) - (1 : Int))) n < n)) (Tree.leaf (RV.x (Value.int IntKind.i64 (↑(fstI (fun k => !bt (0 : Int) (f k) ((↑m : Int) - (1 : Int))) n) : Int)))) (Tree.leaf (RV.x (Value.int IntKind.i64 (-1 : Int))))))) (by kernel_rfl) ?_
  simp only [Tree.sat, allP, fitP, valEq, true_and, and_true, decide_eq_true_eq, decide_eq_false_iff_not]
  simp +contextual

def S_xfiK : Sx.Spec := fun l => match l with
  | [.lst 1 n f, .fn (.func 102) [] [.ro [.fn (.func 87) [] [.ro [.lst 4 m g]]]]] => some ([isRec 1 n f, n ≤ 100000, m ≤ 100000], i (if fstI ((fun k => !(bt 0 (col 0 f k) ((m : Int) - 1)))) n < n then (fstI ((fun k => !(bt 0 (col 0 f k) ((m : Int) - 1)))) n : Int) else -1))
  | _ => none

theorem xfiK_ok : SoundSpec Try.prog 106 S_xfiK := by
  refine ⟨⟨_, Try.func106, by kernel_rfl, by kernel_rfl⟩, ?_⟩
  intro avs ns res h hn
  unfold S_xfiK at h
  split at h
  · cases h
    have hr : isRec 1 _ _ := hn _ (List.mem_cons_self)
    exact (xfiK_at _ (col 0 _) _ _ (hn _ (by simp)) (hn _ (by simp))).same (.cons (.lst 1 _ _ _ hr) (.cons (.refl _) .nil))
  · cases h

set_option maxRecDepth 100000 in
theorem cfiK_at (n : Nat) (f : Nat → Int) (m : Nat) (g : Nat → List AV) (pre0 : n ≤ 100000) (pre1 : m ≤ 100000) : SoundAt Try.prog 101 [.lst 1 n (fun k => [i (f k)]), .fn (.func 102) [] [.ro [.fn (.func 87) [] [.ro [.lst 4 m g]]]]] (bl (!allI (fun k => bt 0 (f k) ((m : Int) - 1)) n)) := by
  refine soundAt_fin (G := [(106, S_xfiK)]) (L := []) (SoundG.cons xfiK_ok (SoundG.nil _)) mixed Try.func101 (show Try.f101.body = some (bodyOf Try.f101) by kernel_rfl) noLoops (t := (Tree.need [isRec 1 n fun k => [i (f k)], n ≤ 100000, m ≤ 100000] (Tree.leaf (RV.x (Value.bool (decide ((if fstI (fun k => !bt (0 : Int) (f k) ((↑m : Int) - (1 : Int))) n < n then (↑(fstI (fun k => !bt (0 : Int) (f k) ((↑m : Int) - (1 : Int))) n) : Int) else (-1 : Int)) ≥ (0 : Int)))))))) (by kernel_rfl) ?_
  simp only [Tree.sat, allP, fitP, valEq, true_and, and_true]
  refine ⟨⟨fun _ _ => rfl, pre0, pre1⟩, ?_⟩
  rw [allI_fst]
  have e : (fun k => !(fun k => bt 0 (f k) ((m : Int) - 1)) k) = (fun k => !(bt 0 (f k) ((m : Int) - 1))) := rfl
  rw [e]
  show decide ((if fstI (fun k => !(bt 0 (f k) ((m : Int) - 1))) n < n then (fstI (fun k => !(bt 0 (f k) ((m : Int) - 1))) n : Int) else -1) ≥ 0) = _
  have := fstI_spec ((fun k => !(bt 0 (f k) ((m : Int) - 1)))) n
  split <;> simp <;> omega

def S_cfiK : Sx.Spec := fun l => match l with
  | [.lst 1 n f, .fn (.func 102) [] [.ro [.fn (.func 87) [] [.ro [.lst 4 m g]]]]] => some ([isRec 1 n f, n ≤ 100000, m ≤ 100000], bl (!allI (fun k => bt 0 (col 0 f k) ((m : Int) - 1)) n))
  | _ => none

theorem cfiK_ok : SoundSpec Try.prog 101 S_cfiK := by
  refine ⟨⟨_, Try.func101, by kernel_rfl, by kernel_rfl⟩, ?_⟩
  intro avs ns res h hn
  unfold S_cfiK at h
  split at h
  · cases h
    have hr : isRec 1 _ _ := hn _ (List.mem_cons_self)
    exact (cfiK_at _ (col 0 _) _ _ (hn _ (by simp)) (hn _ (by simp))).same (.cons (.lst 1 _ _ _ hr) (.cons (.refl _) .nil))
  · cases h

set_option maxRecDepth 100000 in
theorem alliK_at (n : Nat) (f : Nat → Int) (m : Nat) (g : Nat → List AV) (pre0 : n ≤ 100000) (pre1 : m ≤ 100000) : SoundAt Try.prog 81 [.lst 1 n (fun k => [i (f k)]), .fn (.func 87) [] [.ro [.lst 4 m g]]] (bl (allI (fun k => bt 0 (f k) ((m : Int) - 1)) n)) := by
  refine soundAt_fin (G := [(101, S_cfiK)]) (L := []) (SoundG.cons cfiK_ok (SoundG.nil _)) mixed Try.func81 (show Try.f81.body = some (bodyOf Try.f81) by kernel_rfl) noLoops (t := (Tree.need [isRec 1 n fun k => [i (f k)], n ≤ 100000, m ≤ 100000] (Tree.leaf (RV.x (Value.bool !!allI (fun k => bt (0 : Int) (f k) ((↑m : Int) - (1 : Int))) n))))) (by kernel_rfl) ?_
  simp only [Tree.sat, allP, fitP, valEq, true_and, and_true]
  refine ⟨⟨fun _ _ => rfl, pre0, pre1⟩, ?_⟩
  show (!!allI (fun k => bt 0 (f k) ((m : Int) - 1)) n) = _
  simp

def S_alliK : Sx.Spec := fun l => match l with
  | [.lst 1 n f, .fn (.func 87) [] [.ro [.lst 4 m g]]] => some ([isRec 1 n f, n ≤ 100000, m ≤ 100000], bl (allI (fun k => bt 0 (col 0 f k) ((m : Int) - 1)) n))
  | _ => none

theorem alliK_ok : SoundSpec Try.prog 81 S_alliK := by
  refine ⟨⟨_, Try.func81, by kernel_rfl, by kernel_rfl⟩, ?_⟩
  intro avs ns res h hn
  unfold S_alliK at h
  split at h
  · cases h
    have hr : isRec 1 _ _ := hn _ (List.mem_cons_self)
    exact (alliK_at _ (col 0 _) _ _ (hn _ (by simp)) (hn _ (by simp))).same (.cons (.lst 1 _ _ _ hr) (.cons (.refl _) .nil))
  · cases h


/-- What a reading asks of heights. -/
def okH (c : Int) (h : Nat → Int) (a b u v : Int) : Bool := !(decide (v < h b.toNat - h a.toNat) || (decide (b < c) && decide (h (b + 1).toNat - h a.toNat ≤ u)))
def cellsB (c lo hi : Int) (m : Nat) (f : Nat → Int) : Bool := decide ((m : Int) = c) && allI (fun k => bt lo (f k) hi) m


theorem okH_iff {c : Int} {h : Nat → Int} {a b u v : Int} : okH c h a b u v = true ↔ h b.toNat - h a.toNat ≤ v ∧ (b < c → u < h (b + 1).toNat - h a.toNat) := by
  simp only [okH, Bool.not_eq_true', Bool.or_eq_false_iff, Bool.and_eq_false_iff, decide_eq_false_iff_not]
  omega
theorem cellsB_iff {c lo hi : Int} {m : Nat} {f : Nat → Int} : cellsB c lo hi m f = true ↔ (m : Int) = c ∧ ∀ j, j < m → lo ≤ f j ∧ f j ≤ hi := by
  simp only [cellsB, Bool.and_eq_true, decide_eq_true_eq, allI_iff, bt_iff]

noncomputable def E_pt (c T lo hi : Int) (n : Nat) (a b u v : Nat → Int) (m : Nat) (f : Nat → Int) : St := (some
  {
    σ :=
      [AV.agg
          [AV.x (Value.int IntKind.i64 c), AV.x (Value.int IntKind.i64 T), AV.x (Value.int IntKind.i64 lo),
            AV.x (Value.int IntKind.i64 hi)],
        AV.lst (4 : Nat) n fun k =>
          [AV.x (Value.int IntKind.i64 (a k)), AV.x (Value.int IntKind.i64 (b k)), AV.x (Value.int IntKind.i64 (u k)),
            AV.x (Value.int IntKind.i64 (v k))],
        AV.lst (1 : Nat) m fun k => [AV.x (Value.int IntKind.i64 (f k))], AV.ptr (0 : Nat) (0 : Nat), AV.top, AV.top,
        AV.top, AV.fn (Fn.func (79 : Nat)) [] [AV.ptr (0 : Nat) (0 : Nat)], AV.ptr (23 : Nat) (0 : Nat), AV.top, AV.top,
        AV.top, AV.top, AV.top, AV.top, AV.top, AV.top, AV.top, AV.top, AV.top, AV.top, AV.top, AV.top, AV.top, AV.top,
        AV.top, AV.top, AV.top, AV.top, AV.top, AV.top,
        AV.lst (4 : Nat) n fun k =>
          [AV.x (Value.int IntKind.i64 (a k)), AV.x (Value.int IntKind.i64 (b k)), AV.x (Value.int IntKind.i64 (u k)),
            AV.x (Value.int IntKind.i64 (v k))],
        AV.x (Value.int IntKind.i64 (↑n : Int)), AV.top, AV.top, AV.top, AV.top, AV.top, AV.top, AV.top, AV.top, AV.top,
        AV.top, AV.top, AV.top, AV.top, AV.top, AV.top, AV.top, AV.top, AV.top, AV.top, AV.top, AV.top, AV.top, AV.top,
        AV.top, AV.top, AV.top, AV.top, AV.top, AV.top, AV.top, AV.top, AV.top, AV.top, AV.top, AV.top, AV.top, AV.top,
        AV.top, AV.top, AV.top, AV.top, AV.top, AV.top, AV.top, AV.top, AV.top, AV.top, AV.top],
    m :=
      [((23 : Nat),
          Res.ints (120 : Nat) [] (11 : Nat) fun a =>
            updI (10 : Nat) (hgA f m (nat_lit 10))
              (updI (9 : Nat) (hgA f m (nat_lit 9))
                (updI (8 : Nat) (hgA f m (nat_lit 8))
                  (updI (7 : Nat) (hgA f m (nat_lit 7))
                    (updI (6 : Nat) (hgA f m (nat_lit 6))
                      (updI (5 : Nat) (hgA f m (nat_lit 5))
                        (updI (4 : Nat) (hgA f m (nat_lit 4))
                          (updI (3 : Nat) (hgA f m (nat_lit 3))
                            (updI (2 : Nat) (hgA f m (nat_lit 2))
                              (updI (1 : Nat) (hgA f m (nat_lit 1))
                                (updI (0 : Nat) (hgA f m (nat_lit 0))
                                  (match (motive := Bool → Nat → Int) true with
                                  | true =>
                                    numsF
                                      [(0 : Int), (0 : Int), (0 : Int), (0 : Int), (0 : Int), (0 : Int), (0 : Int),
                                        (0 : Int), (0 : Int), (0 : Int), (0 : Int)]
                                  | false =>
                                    nthJ
                                      [(0 : Int), (0 : Int), (0 : Int), (0 : Int), (0 : Int), (0 : Int), (0 : Int),
                                        (0 : Int), (0 : Int), (0 : Int), (0 : Int)])))))))))))
              a),
        ((0 : Nat),
          Res.cells (34 : Nat)
            [AV.x (Value.int IntKind.i64 c), AV.x (Value.int IntKind.i64 T), AV.x (Value.int IntKind.i64 lo),
              AV.x (Value.int IntKind.i64 hi)])],
    nx := (28 : Nat) } : Option St).getD { σ := [], m := [], nx := 0 }
noncomputable def B_pt : Code := loopBody (loopAt (bodyOf Try.f45) 0)
noncomputable def inv_pt (c T lo hi : Int) (n : Nat) (a b u v : Nat → Int) (m : Nat) (f : Nat → Int) (k : Nat) : St := { σ := ovrS [(33, i k)] (E_pt c T lo hi n a b u v m f).σ, m := [(23, .ints 120 [] 11 (hgA f m)), (0, .cells 34 [i c, i T, i lo, i hi])], nx := (E_pt c T lo hi n a b u v m f).nx }
noncomputable def out_pt (c T lo hi : Int) (n : Nat) (a b u v : Nat → Int) (m : Nat) (f : Nat → Int) (k : Nat) : AEx → Option St := fun ex => match ex with
  | .exit 0 => some { σ := ovrS [(33, i n)] (E_pt c T lo hi n a b u v m f).σ, m := [(23, .ints 120 [] 11 (hgA f m)), (0, .cells 34 [i c, i T, i lo, i hi])], nx := (E_pt c T lo hi n a b u v m f).nx }
  | .ret => some { σ := ovrS [(6, .lit false)] (E_pt c T lo hi n a b u v m f).σ, m := [(23, .ints 120 [] 11 (hgA f m)), (0, .cells 34 [i c, i T, i lo, i hi])], nx := (E_pt c T lo hi n a b u v m f).nx }
  | _ => none
noncomputable def T_pt (c T lo hi : Int) (n : Nat) (a b u v : Nat → Int) (m : Nat) (f : Nat → Int) : CT := .branch (allI (fun j => okH c (hgA f m) (a j) (b j) (u j) (v j)) n) (.leaf (.exit 0, ( out_pt c T lo hi n a b u v m f 0 (.exit 0)).getD (E_pt c T lo hi n a b u v m f))) (.leaf (.ret, ( out_pt c T lo hi n a b u v m f 0 .ret).getD (E_pt c T lo hi n a b u v m f)))
noncomputable def LS_pt (c T lo hi : Int) (n : Nat) (a b u v : Nat → Int) (m : Nat) (f : Nat → Int) : LSpec := normSp [] (sumL (inv_pt c T lo hi n a b u v m f (0)) (T_pt c T lo hi n a b u v m f))
set_option maxRecDepth 100000 in
theorem pt_ls (c T lo hi : Int) (n : Nat) (a b u v : Nat → Int) (m : Nat) (f : Nat → Int) (pre0 : flt c T lo hi n a b u v = 0) (pre1 : cellsB c lo hi m f = true) : LSound Try.prog (.loop B_pt) (LS_pt c T lo hi n a b u v m f) := by
  refine loop_roundsX [] (E := { R := [], H := [] }) (G := [(80, S_check), (81, S_alliT), (82, S_raised)]) (L := []) (SoundG.cons check_ok (SoundG.cons alliT_ok (SoundG.cons raised_ok (SoundG.nil _)))) (SoundX.of (SoundRL.nil _) (SoundHL.nil _)) mixed noLoops (X := Nat) (inv_pt c T lo hi n a b u v m f) (fun k => k ≤ n ∧ ∀ j, j < k → okH c (hgA f m) (a j) (b j) (u j) (v j) = true) (fun k => n - k) (out_pt c T lo hi n a b u v m f) (x0 := 0) ⟨by omega, fun j hj => by omega⟩ ?_ ?_ ?_
  · rintro k
    kernel_rfl
  · rintro k y E h
    unfold out_pt at h
    split at h
    · cases h; kernel_rfl
    · cases h; kernel_rfl
    · cases h
  · rintro Q hQ k hx
    refine ⟨(k + 1), ?_⟩
    have e : roundX Try.prog [(80, S_check), (81, S_alliT), (82, S_raised)] { R := [], H := [] } [] [] B_pt (inv_pt c T lo hi n a b u v m f k) (inv_pt c T lo hi n a b u v m f ((k + 1))) (out_pt c T lo hi n a b u v m f k) = (Tree.branch (decide ((↑k : Int) < (↑n : Int))) (Tree.need [(0 : Int) ≤ (↑k : Int) ∧ (↑k : Int) < (↑n : Int)] (Tree.need [(0 : Int) ≤ b k ∧ b k < (↑(11 : Nat) : Int)] (Tree.need [Int.toNat (b k) * 1 + 0 < 11] (Tree.need [(0 : Int) ≤ a k ∧ a k < (↑(11 : Nat) : Int)] (Tree.need [Int.toNat (a k) * 1 + 0 < 11] (Tree.need [inI64 (hgA f m (Int.toNat (b k) * 1 + 0) - hgA f m (Int.toNat (a k) * 1 + 0))] (Tree.branch (decide (hgA f m (Int.toNat (b k) * 1 + 0) - hgA f m (Int.toNat (a k) * 1 + 0) > v k)) (Tree.need [AV.agg [iI c, iI T, iI lo, iI hi] = AV.agg [iI c, iI T, iI lo, iI hi], (AV.lst 4 n fun k => [iI (a k), iI (b k), iI (u k), iI (v k)]) = AV.lst 4 n fun k => [iI (a k), iI (b k), iI (u k), iI (v k)], (AV.lst 1 m fun k => [iI (f k)]) = AV.lst 1 m fun k => [iI (f k)], AV.ptr 0 0 = AV.ptr 0 0, AV.lit false = AV.lit false, AV.fn (Fn.func 79) [] [AV.ptr 0 0] = AV.fn (Fn.func 79) [] [AV.ptr 0 0], AV.ptr 23 0 = AV.ptr 23 0, (AV.lst 4 n fun k => [iI (a k), iI (b k), iI (u k), iI (v k)]) = AV.lst 4 n fun k => [iI (a k), iI (b k), iI (u k), iI (v k)], (↑n : Int) = (↑n : Int), 11 = 11, ∀ (k : Nat), k < 11 → hgA f m k = hgA f m k, c = c, T = T, lo = lo, hi = hi] (Tree.leaf AEx.ret)) (Tree.branch (decide (b k < c)) (Tree.need [inI64 (b k + (1 : Int))] (Tree.need [(0 : Int) ≤ b k + (1 : Int) ∧ b k + (1 : Int) < (↑(11 : Nat) : Int)] (Tree.need [Int.toNat (b k + (1 : Int)) * 1 + 0 < 11] (Tree.need [(0 : Int) ≤ a k ∧ a k < (↑(11 : Nat) : Int)] (Tree.need [Int.toNat (a k) * 1 + 0 < 11] (Tree.need [inI64 (hgA f m (Int.toNat (b k + (1 : Int)) * 1 + 0) - hgA f m (Int.toNat (a k) * 1 + 0))] (Tree.branch (decide (hgA f m (Int.toNat (b k + (1 : Int)) * 1 + 0) - hgA f m (Int.toNat (a k) * 1 + 0) ≤ u k)) (Tree.need [AV.agg [iI c, iI T, iI lo, iI hi] = AV.agg [iI c, iI T, iI lo, iI hi], (AV.lst 4 n fun k => [iI (a k), iI (b k), iI (u k), iI (v k)]) = AV.lst 4 n fun k => [iI (a k), iI (b k), iI (u k), iI (v k)], (AV.lst 1 m fun k => [iI (f k)]) = AV.lst 1 m fun k => [iI (f k)], AV.ptr 0 0 = AV.ptr 0 0, AV.lit false = AV.lit false, AV.fn (Fn.func 79) [] [AV.ptr 0 0] = AV.fn (Fn.func 79) [] [AV.ptr 0 0], AV.ptr 23 0 = AV.ptr 23 0, (AV.lst 4 n fun k => [iI (a k), iI (b k), iI (u k), iI (v k)]) = AV.lst 4 n fun k => [iI (a k), iI (b k), iI (u k), iI (v k)], (↑n : Int) = (↑n : Int), 11 = 11, ∀ (k : Nat), k < 11 → hgA f m k = hgA f m k, c = c, T = T, lo = lo, hi = hi] (Tree.leaf AEx.ret)) (Tree.need [inI64 ((↑k : Int) + (1 : Int))] (Tree.need [AV.agg [iI c, iI T, iI lo, iI hi] = AV.agg [iI c, iI T, iI lo, iI hi], (AV.lst 4 n fun k => [iI (a k), iI (b k), iI (u k), iI (v k)]) = AV.lst 4 n fun k => [iI (a k), iI (b k), iI (u k), iI (v k)], (AV.lst 1 m fun k => [iI (f k)]) = AV.lst 1 m fun k => [iI (f k)], AV.ptr 0 0 = AV.ptr 0 0, AV.fn (Fn.func 79) [] [AV.ptr 0 0] = AV.fn (Fn.func 79) [] [AV.ptr 0 0], AV.ptr 23 0 = AV.ptr 23 0, (AV.lst 4 n fun k => [iI (a k), iI (b k), iI (u k), iI (v k)]) = AV.lst 4 n fun k => [iI (a k), iI (b k), iI (u k), iI (v k)], (↑n : Int) = (↑n : Int), (↑k : Int) + (1 : Int) = (↑(k + 1) : Int), 11 = 11, ∀ (k : Nat), k < 11 → hgA f m k = hgA f m k, c = c, T = T, lo = lo, hi = hi] (Tree.leaf AEx.normal)))))))))) (Tree.need [inI64 ((↑k : Int) + (1 : Int))] (Tree.need [AV.agg [iI c, iI T, iI lo, iI hi] = AV.agg [iI c, iI T, iI lo, iI hi], (AV.lst 4 n fun k => [iI (a k), iI (b k), iI (u k), iI (v k)]) = AV.lst 4 n fun k => [iI (a k), iI (b k), iI (u k), iI (v k)], (AV.lst 1 m fun k => [iI (f k)]) = AV.lst 1 m fun k => [iI (f k)], AV.ptr 0 0 = AV.ptr 0 0, AV.fn (Fn.func 79) [] [AV.ptr 0 0] = AV.fn (Fn.func 79) [] [AV.ptr 0 0], AV.ptr 23 0 = AV.ptr 23 0, (AV.lst 4 n fun k => [iI (a k), iI (b k), iI (u k), iI (v k)]) = AV.lst 4 n fun k => [iI (a k), iI (b k), iI (u k), iI (v k)], (↑n : Int) = (↑n : Int), (↑k : Int) + (1 : Int) = (↑(k + 1) : Int), 11 = 11, ∀ (k : Nat), k < 11 → hgA f m k = hgA f m k, c = c, T = T, lo = lo, hi = hi] (Tree.leaf AEx.normal))))))))))) (Tree.need [AV.agg [iI c, iI T, iI lo, iI hi] = AV.agg [iI c, iI T, iI lo, iI hi], (AV.lst 4 n fun k => [iI (a k), iI (b k), iI (u k), iI (v k)]) = AV.lst 4 n fun k => [iI (a k), iI (b k), iI (u k), iI (v k)], (AV.lst 1 m fun k => [iI (f k)]) = AV.lst 1 m fun k => [iI (f k)], AV.ptr 0 0 = AV.ptr 0 0, AV.fn (Fn.func 79) [] [AV.ptr 0 0] = AV.fn (Fn.func 79) [] [AV.ptr 0 0], AV.ptr 23 0 = AV.ptr 23 0, (AV.lst 4 n fun k => [iI (a k), iI (b k), iI (u k), iI (v k)]) = AV.lst 4 n fun k => [iI (a k), iI (b k), iI (u k), iI (v k)], (↑n : Int) = (↑n : Int), (↑k : Int) = (↑n : Int), 11 = 11, ∀ (k : Nat), k < 11 → hgA f m k = hgA f m k, c = c, T = T, lo = lo, hi = hi] (Tree.leaf (AEx.exit 0)))) := by kernel_rfl
    rw [e]
    simp only [T_pt, out_pt, Tree.sat, Option.getD_some] at hQ
    have hf := flt_iff.1 pre0
    have hb := tube_bd hf.1
    have hcell := cellsB_iff.1 pre1
    have hgb : ∀ j, -20000 ≤ hgA f m j ∧ hgA f m j ≤ 20000 := fun j => by
      have := hgA_bd (f := f) (n := m) (N := 200) (j := j) (m := m) (by omega) (fun k hk => by have := hcell.2 k hk; omega) (Nat.le_refl _) (by omega)
      omega
    have hbad : k < n → ¬ (hgA f m (b k).toNat - hgA f m (a k).toNat ≤ v k ∧ (b k < c → u k < hgA f m (b k + 1).toNat - hgA f m (a k).toNat)) → allI (fun j => okH c (hgA f m) (a j) (b j) (u j) (v j)) n = false := fun h1 h2 => by
      rw [← Bool.not_eq_true, allI_iff]
      intro h3
      exact h2 (okH_iff.1 (h3 k h1))
    have hgood : (hgA f m (b k).toNat - hgA f m (a k).toNat ≤ v k ∧ (b k < c → u k < hgA f m (b k + 1).toNat - hgA f m (a k).toNat)) → ∀ j, j < k + 1 → okH c (hgA f m) (a j) (b j) (u j) (v j) = true := fun h1 j hj => by
      rcases (show j < k ∨ j = k by omega) with h | rfl
      · exact hx.2 j h
      · exact okH_iff.2 h1
    have g1 := hgb (b k).toNat
    have g2 := hgb (a k).toNat
    have g3 := hgb (b k + 1).toNat
    simp only [Tree.sat, allP, true_and, and_true, decide_eq_true_eq, decide_eq_false_iff_not, inI64, Int.toNat_natCast, Nat.mul_one, Nat.add_zero, gt_iff_lt]
    clear e
    refine ⟨fun h => ?_, fun h => ?_⟩
    · have hk := rdB_v (allI_iff.1 hf.2.2 k (by omega))
      (repeat' first | with_reducible apply And.intro | with_reducible intro _)
      all_goals first | exact True.intro | omega | with_reducible rfl | rfl | (rename_i E hE; cases hE; exact hQ.2 (hbad (by omega) (by omega))) | exact hgood (by omega) _ (by assumption)
    · have hend : allI (fun j => okH c (hgA f m) (a j) (b j) (u j) (v j)) n = true := allI_iff.2 (fun j hj => hx.2 j (by omega))
      obtain ⟨hx1, hx2⟩ := hx
      obtain rfl : k = n := by omega
      (repeat' first | with_reducible apply And.intro | with_reducible intro _)
      all_goals first | exact True.intro | omega | with_reducible rfl | rfl | (rename_i E hE; cases hE; exact hQ.1 hend)


/-- Whether volumes are a truth, as the package says. -/
def ptB (c T lo hi : Int) (n : Nat) (a b u v : Nat → Int) (m : Nat) (f : Nat → Int) : Bool := decide (flt c T lo hi n a b u v = 0) && cellsB c lo hi m f && allI (fun j => okH c (hgA f m) (a j) (b j) (u j) (v j)) n && decide (hgA f m c.toNat = T)

set_option maxRecDepth 100000 in
theorem ProveTruth_at (c T lo hi : Int) (n : Nat) (a b u v : Nat → Int) (m : Nat) (f : Nat → Int) (pre0 : m ≤ 100000) : SoundAt Try.prog 45 [.agg [i c, i T, i lo, i hi], rds n a b u v, .lst 1 m (fun k => [i (f k)])] (bl (ptB c T lo hi n a b u v m f)) := by
  refine soundAt_finX (G := [(80, S_check), (81, S_alliT), (82, S_raised)]) (X := { R := [], H := [] }) (L := [needSp [flt c T lo hi n a b u v = 0, cellsB c lo hi m f = true] (LS_pt c T lo hi n a b u v m f)]) (SoundG.cons check_ok (SoundG.cons alliT_ok (SoundG.cons raised_ok (SoundG.nil _)))) (SoundX.of (SoundRL.nil _) (SoundHL.nil _)) mixed Try.func45 (show Try.f45.body = some (bodyOf Try.f45) by kernel_rfl) (one_loop (fun cj hcj => by
    have e : loopAt (bodyOf Try.f45) 0 = some (.loop B_pt) := by kernel_rfl
    rw [e] at hcj; cases hcj
    exact (needSp_sound (ps := [flt c T lo hi n a b u v = 0, cellsB c lo hi m f = true]) (fun h => pt_ls c T lo hi n a b u v m f h.1 h.2)).N)) (t := (Tree.need [isRec 4 n fun k => [i (a k), i (b k), i (u k), i (v k)]] (Tree.branch (flt c T lo hi n a b u v != (0 : Int)) (Tree.leaf (RV.x (Value.bool false))) (Tree.branch ((↑m : Int) != c) (Tree.leaf (RV.x (Value.bool false))) (Tree.need [isRec 1 m fun k => [i (f k)], m ≤ 100000] (Tree.branch (!allI (fun k => bt lo (f k) hi) m) (Tree.leaf (RV.x (Value.bool false))) (Tree.need [isRec 1 m fun k => [i (f k)], m ≤ 10, ∀ (k : Nat), k < m → (-1000000 : Int) ≤ f k ∧ f k ≤ (1000000 : Int)] (Tree.need [0 + List.length [hgA f m (nat_lit 0), hgA f m (nat_lit 1), hgA f m (nat_lit 2), hgA f m (nat_lit 3), hgA f m (nat_lit 4), hgA f m (nat_lit 5), hgA f m (nat_lit 6), hgA f m (nat_lit 7), hgA f m (nat_lit 8), hgA f m (nat_lit 9), hgA f m (nat_lit 10)] ≤ 11] (Tree.need [flt c T lo hi n a b u v = (0 : Int), cellsB c lo hi m f = true] (Tree.need [AV.agg [iI c, iI T, iI lo, iI hi] = AV.agg [iI c, iI T, iI lo, iI hi], (AV.lst 4 n fun k => [iI (a k), iI (b k), iI (u k), iI (v k)]) = AV.lst 4 n fun k => [iI (a k), iI (b k), iI (u k), iI (v k)], (AV.lst 1 m fun k => [iI (f k)]) = AV.lst 1 m fun k => [iI (f k)], AV.ptr 0 0 = AV.ptr 0 0, AV.fn (Fn.func 79) [] [AV.ptr 0 0] = AV.fn (Fn.func 79) [] [AV.ptr 0 0], AV.ptr 23 0 = AV.ptr 23 0, (AV.lst 4 n fun k => [iI (a k), iI (b k), iI (u k), iI (v k)]) = AV.lst 4 n fun k => [iI (a k), iI (b k), iI (u k), iI (v k)], (↑n : Int) = (↑n : Int), (0 : Int) = (↑(0 : Nat) : Int), 11 = 11, ∀ (k : Nat), k < 11 → updI 10 (hgA f m (nat_lit 10)) (updI 9 (hgA f m (nat_lit 9)) (updI 8 (hgA f m (nat_lit 8)) (updI 7 (hgA f m (nat_lit 7)) (updI 6 (hgA f m (nat_lit 6)) (updI 5 (hgA f m (nat_lit 5)) (updI 4 (hgA f m (nat_lit 4)) (updI 3 (hgA f m (nat_lit 3)) (updI 2 (hgA f m (nat_lit 2)) (updI 1 (hgA f m (nat_lit 1)) (updI 0 (hgA f m (nat_lit 0)) (match (motive := Bool → Nat → Int) true with | true => numsF [(0 : Int), (0 : Int), (0 : Int), (0 : Int), (0 : Int), (0 : Int), (0 : Int), (0 : Int), (0 : Int), (0 : Int), (0 : Int)] | false => nthJ [(0 : Int), (0 : Int), (0 : Int), (0 : Int), (0 : Int), (0 : Int), (0 : Int), (0 : Int), (0 : Int), (0 : Int), (0 : Int)]))))))))))) k = hgA f m k, c = c, T = T, lo = lo, hi = hi] (Tree.branch (allI (fun j => okH c (hgA f m) (a j) (b j) (u j) (v j)) n) (Tree.need [(0 : Int) ≤ c ∧ c < (↑(11 : Nat) : Int)] (Tree.need [Int.toNat c * 1 + 0 < 11] (Tree.leaf (RV.x (Value.bool (hgA f m (Int.toNat c * 1 + 0) == T)))))) (Tree.leaf (RV.x (Value.bool false)))))))))))))) (by kernel_rfl) ?_
  simp only [Tree.sat, allP, fitP, fitL, valEq, true_and, and_true, bne_iff_ne, ne_eq, bne_eq_false_iff_eq, decide_eq_true_eq, decide_eq_false_iff_not, Nat.mul_one, Nat.add_zero, List.length_cons, List.length_nil]
  refine ⟨isRec4 n a b u v, fun h1 => ?_, fun h1 => ⟨fun h2 => ?_, fun h2 => ⟨⟨isRec1 _ _, by omega⟩, fun h3 => ?_, fun h3 => ?_⟩⟩⟩
  · simp [ptB, h1]
  · simp [ptB, cellsB, h2]
  · have h3 : allI (fun k => bt lo (f k) hi) m = false := by simpa using h3
    simp [ptB, cellsB, h3]
  · have h3 : allI (fun k => bt lo (f k) hi) m = true := by simpa using h3
    have hf := flt_iff.1 h1
    have hb := tube_bd hf.1
    have hcell : cellsB c lo hi m f = true := by simp [cellsB, h2, h3]
    have hc2 := cellsB_iff.1 hcell
    have e0 : ptB c T lo hi n a b u v m f = (allI (fun j => okH c (hgA f m) (a j) (b j) (u j) (v j)) n && decide (hgA f m c.toNat = T)) := by simp [ptB, h1, hcell]
    rw [e0]
    refine ⟨⟨isRec1 _ _, by omega, fun k hk => by have := hc2.2 k hk; omega⟩, by omega, ⟨h1, hcell⟩, ?_, fun h4 => ?_, fun h4 => ?_⟩
    · (repeat' first | with_reducible apply And.intro | with_reducible intro _)
      all_goals first | exact True.intro | omega | with_reducible rfl | rfl | (rename_i q hq; rcases (show q = 0 ∨ q = 1 ∨ q = 2 ∨ q = 3 ∨ q = 4 ∨ q = 5 ∨ q = 6 ∨ q = 7 ∨ q = 8 ∨ q = 9 ∨ q = 10 by omega) with rfl | rfl | rfl | rfl | rfl | rfl | rfl | rfl | rfl | rfl | rfl <;> rfl)
    · refine ⟨by omega, by omega, ?_⟩
      rw [h4]
      rfl
    · rw [h4]
      rfl

end Go.Proofs.Ytmdeoobmeokmeaa
/- Contracts of functions of the program, by the engine Sx: what each call comes to. Printed by a program of this repo (sxgen.py). -/
set_option linter.unusedSimpArgs false
set_option linter.unusedVariables false
namespace Go.Proofs.Ytmdeoobmeokmeaa
open Go Go.Sx Go.RowKit
end Go.Proofs.Ytmdeoobmeokmeaa
