/- Texts of this claim, put together: BrA, BrB, BrC, BrD, BrE, BrF, BrG, BrH, BrI, BrJ, BqH, BrK, BrL, BrM, BrO -/
import Derived.Test.YtmdeoobmeokmeaaMl
import Derived.Shelf.SlicesE.DeleteFunc
import Derived.Shelf.SlicesE.Index
/- What slices.DeleteFunc leaves of a list of numbers, and slices.Clone, as contracts. Conditions: none beyond those of each contract. -/
set_option linter.unusedSimpArgs false
set_option linter.unusedVariables false
namespace Go.Proofs.Ytmdeoobmeokmeaa
open Go Go.Sx Go.RowKit
def lay_del_ren : Go.Shelf.Ren := ⟨fun | 6 => 106 | 10 => 89 | n => n, fun | 0 => 0 | 3 => 3 | 4 => 4 | 22 => 58 | 23 => 3 | 25 => 116 | n => n, fun n => n⟩
theorem lay_del : SlLaysH.n10 Try.prog lay_del_ren where
  mixed := by kernel_rfl
  f6 := ⟨Try.f106.name, (of_decide_eq_true (by kernel_rfl)), Try.func106.trans (congrArg some (by kernel_rfl))⟩
  f10 := ⟨Try.f89.name, (of_decide_eq_true (by kernel_rfl)), Try.func89.trans (congrArg some (by kernel_rfl))⟩
  t0 := Try.underlying0
  a0 := Try.isAgg0
  z0 := Try.sizeOf0
  v0 := Try.zeroValue0
  t3 := Try.underlying3
  a3 := Try.isAgg3
  z3 := Try.sizeOf3
  v3 := Try.zeroValue3
  t4 := Try.underlying4
  a4 := Try.isAgg4
  z4 := Try.sizeOf4
  v4 := Try.zeroValue4
  t22 := Try.underlying58
  a22 := Try.isAgg58
  z22 := Try.sizeOf58
  v22 := Try.zeroValue58
  a23 := Try.isAgg3
  z23 := Try.sizeOf3
  t25 := Try.underlying116
  a25 := Try.isAgg116
  z25 := Try.sizeOf116
  v25 := Try.zeroValue116

def lay_con_ren : Go.Shelf.Ren := ⟨fun | 29 => 107 | 31 => 91 | n => n, fun | 0 => 0 | 3 => 3 | 4 => 4 | 22 => 58 | 23 => 3 | n => n, fun n => n⟩
theorem lay_con : SlLaysE.n31 Try.prog lay_con_ren where
  mixed := by kernel_rfl
  f29 := ⟨Try.f107.name, (of_decide_eq_true (by kernel_rfl)), Try.func107.trans (congrArg some (by kernel_rfl))⟩
  f31 := ⟨Try.f91.name, (of_decide_eq_true (by kernel_rfl)), Try.func91.trans (congrArg some (by kernel_rfl))⟩
  t0 := Try.underlying0
  a0 := Try.isAgg0
  z0 := Try.sizeOf0
  v0 := Try.zeroValue0
  t3 := Try.underlying3
  a3 := Try.isAgg3
  z3 := Try.sizeOf3
  v3 := Try.zeroValue3
  t4 := Try.underlying4
  a4 := Try.isAgg4
  z4 := Try.sizeOf4
  v4 := Try.zeroValue4
  t22 := Try.underlying58
  a22 := Try.isAgg58
  z22 := Try.sizeOf58
  v22 := Try.zeroValue58
  a23 := Try.isAgg3
  z23 := Try.sizeOf3

def lay_ixf_ren : Go.Shelf.Ren := ⟨fun | 6 => 106 | n => n, fun | 0 => 0 | 3 => 3 | 4 => 4 | 22 => 58 | 23 => 3 | 25 => 116 | n => n, fun n => n⟩
theorem lay_ixf : SlLaysH.n6 Try.prog lay_ixf_ren where
  mixed := by kernel_rfl
  f6 := ⟨Try.f106.name, (of_decide_eq_true (by kernel_rfl)), Try.func106.trans (congrArg some (by kernel_rfl))⟩
  t0 := Try.underlying0
  a0 := Try.isAgg0
  z0 := Try.sizeOf0
  v0 := Try.zeroValue0
  t3 := Try.underlying3
  a3 := Try.isAgg3
  z3 := Try.sizeOf3
  v3 := Try.zeroValue3
  t4 := Try.underlying4
  a4 := Try.isAgg4
  z4 := Try.sizeOf4
  v4 := Try.zeroValue4
  t22 := Try.underlying58
  a22 := Try.isAgg58
  z22 := Try.sizeOf58
  v22 := Try.zeroValue58
  a23 := Try.isAgg3
  z23 := Try.sizeOf3
  t25 := Try.underlying116
  a25 := Try.isAgg116
  z25 := Try.sizeOf116
  v25 := Try.zeroValue116


/-- The list that a slice of numbers has, in a world. -/
def SlI (W : World) (ov : Value) (xs : List Int) : Prop := (∃ a c, ov = .slice a 0 c ∧ xs = []) ∨ (∃ g c, ov = .slice (some ⟨g, 0, none⟩) xs.length c ∧ xs.length ≤ 9223372036854775807 ∧ ∀ j, j < xs.length → W.cell? ⟨g, 0 + j, none⟩ = some (.int .i64 xs[j]!))

theorem con_gives {ov : Value} {xs : List Int} {W : World} (ho : SlI W ov xs) (x : Int) : Calls Try.prog 91 #[ov, .int .i64 x] W fun e w' => e = .returned (.bool (xs.any fun y => x == y)) ∧ w' = W := by
  rcases ho with ⟨a, c, rfl, rfl⟩ | ⟨g, c, rfl, hl, hj⟩
  · exact AnyE.slices_Contains_empty lay_con a c (.int .i64 x) W
  · have := AnyE.slices_Contains lay_con (Value.int .i64) (fun a b => a == b) (EqlAt.int _ _ _) g 0 xs.length c xs x W (Nat.le_refl _) hl hj
    rw [List.take_length] at this
    exact this

theorem out_gives {ov : Value} {xs : List Int} {W : World} {B : Nat} (hc : W.cell? ⟨B, 0, none⟩ = some ov) (ho : SlI W ov xs) (x : Int) : FnGives Try.prog 90 #[.pointer (some ⟨B, 0, none⟩)] #[.int .i64 x] (.bool (xs.any fun y => x == y)) W := by
  have hcon := con_gives ho x
  show Calls Try.prog 90 #[.int .i64 x, .pointer (some ⟨B, 0, none⟩)] W _
  clear ho
  generalize (xs.any fun y => x == y) = r at hcon ⊢
  go_enter Try.func90, Try.ntmps90
  go_wp2_with (go_at_call 91; refine hcon.mono ?_; rintro e w' ⟨rfl, rfl⟩)
  all_goals (go_ret; exact ⟨rfl, 0, rfl⟩)


/-- A list of numbers without those of another one. -/
def delL (n k : Nat) (f g : Nat → Int) : List Int := ((List.range n).map f).filter fun x => !((List.range k).map g).any fun y => x == y
noncomputable def H_del_ : HSpec := fun avs m nx sv => match avs with
  | [.row q, .fn (.func fg) [] [.ptr cid z]] => match Nat.beq fg 90 && Nat.beq z 0 with
    | true => match getM m q, getM m cid with
      | some (.row T sz n f), some (.cells _ [.row o]) => match Nat.beq T 3 && Nat.beq sz 1 with
        | true => match getM m o with
          | some (.row T' sz' k g) => match Nat.beq T' 3 && (Nat.beq sz' 1 && !Nat.beq q o) with
            | true => some (.need [isRec 1 n f, isRec 1 k g, n ≤ 100000, k ≤ 100000] (.leaf (.row nx, (nx, .row 3 1 (delL n k (col 0 f) (col 0 g)).length (fun j => [i (nthJ (delL n k (col 0 f) (col 0 g)) j)])) :: delM m q, nx + 1, sv)))
            | false => none
          | _ => none
        | false => none
      | _, _ => none
    | false => none
  | _ => none


theorem row_ex {e : Env} {w : World} {id n : Nat} {f : Nat → List AV} (h : Holds e w id (.row 3 1 n f)) (hr : isRec 1 n f) : w.ownsRow 0 3 1 (e.val id) n ((List.range n).map fun j => Value.int .i64 (col 0 f j)) := by
  obtain ⟨h1, h2, hf, xs, h3, h4⟩ := h
  have hx : xs = (List.range n).map fun j => Value.int .i64 (col 0 f j) := by
    apply List.ext_getElem?
    intro j
    have hl : xs.length = n * 1 := h3.1
    rcases Nat.lt_or_ge j n with hj | hj
    · have hx : xs[j]? = some xs[j] := List.getElem?_eq_getElem (by omega)
      have e1 : (f j)[0]? = some (iI (col 0 f j)) := by
        rw [hr j hj]
        rfl
      have := h4 j 0 _ xs[j] hj e1 (by rw [show j * 1 + 0 = j by omega]; exact hx)
      rw [hx, this.x_inv]
      simp [hj]
    · rw [List.getElem?_eq_none (by omega), List.getElem?_eq_none (by simp; omega)]
  subst hx
  exact h3

theorem sli_of {w W : World} {ov : Value} {xs : List Int} (h : w.ownsRow 0 3 1 ov xs.length (xs.map (Value.int .i64))) (hb : ∀ b, ov.ownBlock = some b → W.heap[b]? = w.heap[b]?) : SlI W ov xs := by
  rcases h.2 with ⟨rfl, h0⟩ | ⟨g, cap, cur, rfl, _, hh, hnc, hcm, hcs, ht⟩
  · exact .inl ⟨none, 0, rfl, List.eq_nil_of_length_eq_zero h0⟩
  · refine .inr ⟨g, cap, rfl, by simp only [maxLen] at hcm; omega, fun j hj => ?_⟩
    have h1 := hb g rfl
    have h2 : cur[j]? = some (.int .i64 xs[j]!) := by
      have h3 := congrArg (fun l => l[j]?) ht
      simp only [List.getElem?_take, List.getElem?_map] at h3
      rw [if_pos (by omega), List.getElem?_eq_getElem hj] at h3
      rw [getElem!_pos xs j hj]
      simpa using h3
    simp [World.cell?, h1, hh, h2]

theorem del_nil (fv : Value) (w : World) : Calls Try.prog 89 #[.slice none 0 0, fv] w fun en w' => en = .returned (.slice none 0 0) ∧ w' = w := by
  have hI := AnyE.slices_IndexFunc_empty lay_ixf none 0 fv w
  change Calls Try.prog 106 _ _ _ at hI
  go_enter Try.func89, Try.ntmps89
  go_wp2_with (go_at_call 106; refine hI.mono ?_; rintro e w' ⟨rfl, rfl⟩)
  all_goals (go_ret; exact ⟨rfl, rfl⟩)

theorem nthJ_bang : ∀ (l : List Int) (j : Nat), j < l.length → l[j]? = some (nthJ l j) := fun l j hj => by rw [List.getElem?_eq_getElem hj, nthJ_get hj]

theorem del__okH : SoundHSpec Try.prog 89 H_del_ := by
  refine ⟨⟨_, Try.func89, by kernel_rfl, by kernel_rfl⟩, ?_⟩
  intro avs m nx sv t ht Q hQ c w0 T e ds args w hE hB hm hl hfoe hxt hr
  unfold H_del_ at ht
  split at ht
  · rename_i q fg cid z
    split at ht
    rotate_left
    · cases ht
    rename_i hb0
    rw [Bool.and_eq_true] at hb0
    obtain rfl := Nat.eq_of_beq_eq_true hb0.1
    obtain rfl := Nat.eq_of_beq_eq_true hb0.2
    split at ht
    · rename_i T1 sz1 n f T2 o h1 h2
      split at ht
      rotate_left
      · cases ht
      rename_i hb1
      rw [Bool.and_eq_true] at hb1
      obtain rfl := Nat.eq_of_beq_eq_true hb1.1
      obtain rfl := Nat.eq_of_beq_eq_true hb1.2
      split at ht
      · rename_i T3 sz3 k g h3
        split at ht
        rotate_left
        · cases ht
        rename_i hb2
        rw [Bool.and_eq_true, Bool.and_eq_true] at hb2
        obtain rfl := Nat.eq_of_beq_eq_true hb2.1
        obtain rfl := Nat.eq_of_beq_eq_true hb2.2.1
        have hn5 : q ≠ o := by
          rintro rfl
          have := hb2.2.2
          rw [Nat.beq_refl] at this
          cases this
        cases ht
        have hn1 : isRec 1 n f := allP_mem hQ.1 _ (by simp)
        have hn2 : isRec 1 k g := allP_mem hQ.1 _ (by simp)
        have hn3 : n ≤ 100000 := allP_mem hQ.1 _ (by simp)
        have hn4 : k ≤ 100000 := allP_mem hQ.1 _ (by simp)
        have hq := hQ.2
        obtain ⟨vs, l1, rfl, r1, hr⟩ := hr.cons_inv
        obtain ⟨fv, l2, rfl, r2, hr⟩ := hr.cons_inv
        obtain rfl := hr.nil_inv
        have kq := hm _ (getM_mem h1)
        have kc := hm _ (getM_mem h2)
        have ko := hm _ (getM_mem h3)
        have xq := row_ex kq hn1
        have xo := row_ex ko hn2
        have oq : ∀ b, (e.val q).ownBlock = some b → e.own b = some q := kq.2.1
        have oo : ∀ b, (e.val o).ownBlock = some b → e.own b = some o := ko.2.1
        obtain ⟨c1, c2, us, c3, c4⟩ := kc
        obtain ⟨ov, us', rfl, ro, c4⟩ := c4.cons_inv
        obtain rfl := c4.nil_inv
        have e1 : vs = e.val q := by
          cases r1 with
          | row _ a n c _ hv => exact hv.symm
        have e2 : ov = e.val o := by
          cases ro with
          | row _ a n c _ hv => exact hv.symm
        obtain ⟨v1, v2, rfl, r3, r4⟩ := r2.fn_inv
        obtain rfl := r3.nil_inv
        obtain ⟨pv, v3, rfl, r5, r6⟩ := r4.cons_inv
        obtain rfl := r6.nil_inv
        have e3 : pv = .pointer (some ⟨e.blk cid, 0, none⟩) := by cases r5; rfl
        subst e1 e2 e3
        have hcq : cid ≠ q := by
          rintro rfl
          rw [h1] at h2
          cases h2
        have hcc : w.cell? ⟨e.blk cid, 0, none⟩ = some (e.val o) := by simp [World.cell?, c3]
        obtain ⟨os, hos⟩ : ∃ os : List Int, os = (List.range k).map (col 0 g) := ⟨_, rfl⟩
        have xo' : w.ownsRow 0 3 1 (e.val o) os.length (os.map (Value.int .i64)) := by
          rw [hos, List.length_map, List.length_range, List.map_map]
          exact xo
        obtain ⟨p, hp⟩ : ∃ p : Int → Bool, p = fun x => os.any fun y => x == y := ⟨_, rfl⟩
        have hgives : ∀ (W : World) (x : Int), (∀ b, e.own b ≠ some q → b < w.heap.size → W.heap[b]? = w.heap[b]?) → FnGives Try.prog 90 #[.pointer (some ⟨e.blk cid, 0, none⟩)] #[.int .i64 x] (.bool (p x)) W := by
          intro W x hW
          rw [hp]
          refine out_gives ?_ (sli_of xo' fun b hb => hW b ?_ (hE.owned b _ (oo b hb)).2) x
          · rw [World.cell?_of_block (w := w) (hW _ (by rw [c2]; exact fun h => hcq (Option.some.inj h)) (Array.getElem?_eq_some_iff.1 c3).1)]
            exact hcc
          · rw [oo b hb]
            exact fun h => hn5 (Option.some.inj h).symm
        have hD : delL n k (col 0 f) (col 0 g) = ((List.range n).map (col 0 f)).filter fun x => !p x := by rw [hp, hos]; rfl
        rw [hD] at hq
        rcases xq.2 with ⟨hv, hn0⟩ | ⟨gb, cap, cur, hv, _, hh, hnc, hcm, hcs, htake⟩
        · subst hn0
          rw [hv]
          refine (del_nil _ w).mono ?_
          rintro en w' ⟨rfl, rfl⟩
          obtain ⟨e', g1, g2, g3, g4, g5, g6, g7⟩ := over_end (u := .slice none 0 0) (q := q) (T' := 3) (sz := 1) (n := 0) (f := fun j => [i (nthJ [] j)]) (xs := []) hE hB hm hl hfoe hxt rfl rfl rfl rfl (fun _ _ => rfl) (fun b hb => by cases hb) (World.ownsRow_nil _ _ _ _) (fun i hi => absurd hi (Nat.not_lt_zero _)) (fun i j a v hi => absurd hi (Nat.not_lt_zero _))
          exact ⟨_, _, _, _, _, e', rfl, hq, g1, g2, g3, g4, g5, g6, g7⟩
        · have hog : e.own gb = some q := oq gb (by rw [hv]; rfl)
          obtain ⟨d, hd⟩ : ∃ d : Array Int, d = ((List.range n).map (col 0 f)).toArray := ⟨_, rfl⟩
          have hds : d.size = n := by rw [hd]; simp
          have hdl : d.toList = (List.range n).map (col 0 f) := by rw [hd]
          rw [← hdl] at hq
          have hcur : ∀ j, j < n → cur[j]? = some (.int .i64 (col 0 f j)) := by
            intro j hj
            have h5 := congrArg (fun l => l[j]?) htake
            simp only [List.getElem?_take, List.getElem?_map] at h5
            rw [if_pos (by omega), List.getElem?_range hj] at h5
            simpa using h5
          have hH : Sort.Holds (Value.int .i64) w gb 0 d := by
            intro j hj
            have hj' : j < n := by omega
            have hdj : d[j]! = col 0 f j := by
              rw [getElem!_pos d j hj]
              subst hd
              simp
            refine ⟨?_, ?_⟩
            · rw [hdj]
              simp [World.cell?, hh, hcur j hj']
            · simp [World.frozen?, hh]
          have eg : ∀ args w, (callFunc 90 args).run Try.prog w = .ok (.enter 90 args) w := enters_of Try.func90 (by kernel_rfl) rfl
          have hsame : ∀ (b : Nat) (nn : Nat) (dk : Array Int), b ≠ gb → (Sort.putRow (Value.int .i64) (Sort.ahead w nn) gb 0 dk).heap[b]? = w.heap[b]? := by
            intro b nn dk hb
            simp [Sort.putRow, Sort.mapBlock, Sort.ahead, Array.getElem?_modify, Ne.symm hb]
          have hcon := AnyE.slices_DeleteFunc lay_del (Value.int .i64) (fun _ => rfl) p 90 #[.pointer (some ⟨e.blk cid, 0, none⟩)] eg 0 Try.zeroValue3 gb 0 cap d w
            (fun W x hb => hgives W x fun b _ hlt => hb.block b hlt)
            (fun nn osx dk x _ => hgives _ x fun b hb hlt => by
              unfold sortWorld
              have hne : b ≠ gb := fun h => hb (by rw [h]; exact hog)
              rw [Sort.heap_grow_old _ _ (by rw [Sort.size_putRow]; exact hlt)]
              exact hsame b nn dk hne)
            hH (by rw [hds]; omega) (by rw [hds]; exact hnc)
          change Calls Try.prog 89 _ _ _ at hcon
          rw [hds] at hcon
          rw [hv]
          refine hcon.mono ?_
          rintro en w' ⟨rfl, qq, rfl⟩
          obtain ⟨K, hK⟩ : ∃ K : List Int, K = d.toList.filter fun x => !p x := ⟨_, rfl⟩
          rw [← hK] at hq ⊢
          have hKl : K.length ≤ n := by
            rw [hK]
            refine Nat.le_trans (List.length_filter_le _ _) ?_
            rw [hdl]
            simp
          have ho : World.ownsRow (Sort.putRow (Value.int .i64) (Sort.ahead w qq) gb 0 (K ++ List.replicate (n - K.length) 0).toArray) 0 3 1 (.slice (some ⟨gb, 0, none⟩) K.length cap) K.length (K.map (Value.int .i64)) := by
            refine ⟨by simp, .inr ⟨gb, cap, Sort.putCells (Value.int .i64) 0 (K ++ List.replicate (n - K.length) 0).toArray cur, rfl, Nat.zero_le _, ?_, by omega, hcm, ?_, ?_⟩⟩
            · simp [Sort.putRow, Sort.mapBlock, Sort.ahead, Array.getElem?_modify, hh, Sort.onCells]
            · simp [Sort.putCells, hcs]
            · apply List.ext_getElem?
              intro j
              rw [List.getElem?_take]
              split
              · rename_i hj
                have hj' : j < K.length := by omega
                have hjc : j < cur.size := by omega
                rw [List.getElem?_map, nthJ_bang K j hj']
                simp only [Sort.putCells, Array.getElem?_toList, Array.getElem?_mapIdx, Array.getElem?_eq_getElem hjc, Option.map_some]
                rw [if_pos (by simp; omega)]
                congr 2
                have : j < (K ++ List.replicate (n - K.length) 0).toArray.size := by simp; omega
                rw [show j - 0 = j from rfl, getElem!_pos _ j this]
                simp [List.getElem_append, hj', nthJ_get hj']
              · rename_i hj
                rw [List.getElem?_eq_none (by simp; omega)]
          have hr2 : ∀ (i j : Nat) (a : AV) (v : Value), i < K.length → ([iI (nthJ K i)] : List AV)[j]? = some a → (K.map (Value.int .i64))[i * 1 + j]? = some v → a = .x v := by
            intro i j a v hi ha hv
            cases j with
            | zero =>
              simp only [List.getElem?_cons_zero, Option.some.injEq] at ha
              subst ha
              rw [show i * 1 + 0 = i by omega, List.getElem?_map, nthJ_bang K i hi] at hv
              simp only [Option.map_some, Option.some.injEq] at hv
              rw [← hv]
            | succ j => simp at ha
          have hu : ∀ b, (Value.slice (some ⟨gb, 0, none⟩) K.length cap).ownBlock = some b → e.own b = some q := by
            intro b hb
            have : gb = b := Option.some.inj hb
            rw [← this]
            exact hog
          have hot : ∀ b, e.own b ≠ some q → (Sort.putRow (Value.int .i64) (Sort.ahead w qq) gb 0 (K ++ List.replicate (n - K.length) 0).toArray).heap[b]? = w.heap[b]? := fun b hb => hsame b qq _ (fun h => hb (by rw [h]; exact hog))
          have hs1 := Sort.size_putRow (Value.int .i64) (Sort.ahead w qq) gb 0 (K ++ List.replicate (n - K.length) 0).toArray
          have hs2 : (Sort.putRow (Value.int .i64) (Sort.ahead w qq) gb 0 (K ++ List.replicate (n - K.length) 0).toArray).os = w.os := rfl
          have hs3 : (Sort.putRow (Value.int .i64) (Sort.ahead w qq) gb 0 (K ++ List.replicate (n - K.length) 0).toArray).tape = w.tape := rfl
          have hs4 : (Sort.putRow (Value.int .i64) (Sort.ahead w qq) gb 0 (K ++ List.replicate (n - K.length) 0).toArray).output = w.output := rfl
          have hs5 : (Sort.ahead w qq).heap.size = w.heap.size := rfl
          rw [hs5] at hs1
          generalize Sort.putRow (Value.int .i64) (Sort.ahead w qq) gb 0 (K ++ List.replicate (n - K.length) 0).toArray = W' at *
          obtain ⟨uu, huu⟩ : ∃ uu : Value, uu = .slice (some ⟨gb, 0, none⟩) K.length cap := ⟨_, rfl⟩
          rw [← huu] at hu ho ⊢
          obtain ⟨e', g1, g2, g3, g4, g5, g6, g7⟩ := over_end (q := q) (T' := 3) (sz := 1) (n := K.length) (f := fun j => [iI (nthJ K j)]) hE hB hm hl hfoe hxt hs2 hs3 hs4 hs1 hot hu ho (fun i hi => ⟨rfl, fun a ha => ⟨_, List.mem_singleton.1 ha⟩⟩) hr2
          exact ⟨_, _, _, _, _, e', rfl, hq, g1, g2, g3, g4, g5, g6, g7⟩
      · cases ht
    · cases ht
  · cases ht

end Go.Proofs.Ytmdeoobmeokmeaa
/- Contracts of functions of the program, by the engine Sx: what each call comes to. Printed by a program of this repo (sxgen.py). -/
set_option linter.unusedSimpArgs false
set_option linter.unusedVariables false
namespace Go.Proofs.Ytmdeoobmeokmeaa
open Go Go.Sx Go.RowKit
set_option maxRecDepth 100000 in
theorem numbers_atF (n : Nat) (a b u v : Nat → Int) (pre0 : n ≤ 100000) : SoundFAt Try.prog 83 [rds n a b u v] 3 1 (n) (fun j => [i (numF n j)]) := by
  refine soundFAt_fin (G := []) (X := { R := [], H := [] }) (L := [LS_nu n a b u v]) (SoundG.nil _) (SoundX.of (SoundRL.nil _) (SoundHL.nil _)) mixed Try.func83 (show Try.f83.body = some (bodyOf Try.f83) by kernel_rfl) (one_loop (fun cj hcj => by
    have e : loopAt (bodyOf Try.f83) 0 = some (.loop B_nu) := by kernel_rfl
    rw [e] at hcj; cases hcj
    exact (nu_ls n a b u v pre0).N)) (t := (Tree.need [(0 : Int) ≤ (↑n : Int) ∧ (↑n : Int) ≤ (1000000 : Int), (↑n : Int) = (↑n : Int)] (Tree.need [(AV.lst 4 n fun k => [iI (a k), iI (b k), iI (u k), iI (v k)]) = AV.lst 4 n fun k => [iI (a k), iI (b k), iI (u k), iI (v k)], AV.x (Value.slice none 0 0) = AV.x (Value.slice none 0 0), AV.row 900 = AV.row 900, (↑n : Int) = (↑n : Int), (0 : Int) = (↑(0 : Nat) : Int), n = n, ∀ (i : Nat), i < n → List.map AV.x (Array.toList (Value.cells (Value.int IntKind.i64 (0 : Int)))) = [Ytmdeoobmeokmeaa.i (numF 0 i)]] (Tree.leaf (some (3, 1, n, fun j => [iI (numF n j)])))))) (by kernel_rfl) ?_ (fun _ _ => rfl)
  simp only [Tree.sat, allP, fitF, true_and, inI64]
  (repeat' first | with_reducible apply And.intro | with_reducible intro _)
  all_goals first | exact True.intro | omega | with_reducible rfl | rfl | (rename_i hm; cases List.mem_singleton.1 hm; exact True.intro)

set_option maxRecDepth 100000 in
theorem clI_atF (n : Nat) (f : Nat → Int) (pre0 : n ≤ 100000) : SoundFAt Try.prog 92 [.lst 1 n (fun k => [i (f k)])] 3 1 (n) (fun k => [i (f k)]) := by
  refine soundFAt_fin (G := []) (X := { R := [], H := [] }) (L := []) (SoundG.nil _) (SoundX.of (SoundRL.nil _) (SoundHL.nil _)) mixed Try.func92 (show Try.f92.body = some (bodyOf Try.f92) by kernel_rfl) noLoopsS (t := (Tree.may (n = 0) (Tree.leaf none) (Tree.need [(0 + n) * 8 ≤ 140737488355328, ∀ (i : Nat), i < n → ∀ (a : AV), a ∈ [Ytmdeoobmeokmeaa.i (f i)] → AV.one a = true] (Tree.leaf (some (3, 1, 0 + n, catF 0 (fun x => []) fun k => [iI (f k)])))))) (by kernel_rfl) ?_ (fun _ _ => rfl)
  simp only [Tree.sat, allP, fitF, true_and]
  refine ⟨fun h => h, ⟨by omega, fun k hk x hm => one_of (k := 0) (sz := 1) (l := [i (f k)]) (show x ∈ chunk 1 _ 0 from hm) (by simp [AV.one, Value.oneCell'])⟩, by omega, fun k hk => ⟨?_, ?_⟩⟩
  · show mergeL (decide (k < 0)) [] [i (f (k - 0))] = _
    rw [show decide (k < 0) = false by simp]
    rfl
  · intro x hm
    cases List.mem_singleton.1 hm
    exact True.intro


def F_numbers : FSpec := fun l => match l with
  | [.lst 4 n f] => some ([isRec 4 n f, n ≤ 100000], 3, 1, n, fun j => [i (numF n j)])
  | _ => none
def F_clI : FSpec := fun l => match l with
  | [.lst 1 n f] => some ([isRec 1 n f, n ≤ 100000], 3, 1, n, fun j => [i (col 0 f j)])
  | _ => none


theorem numbers_okF : Sx.Enters Try.prog 83 ∧ ∀ avs ns T sz n g, F_numbers avs = some (ns, T, sz, n, g) → (∀ q ∈ ns, q) → SoundFAt Try.prog 83 avs T sz n g := by
  refine ⟨⟨_, Try.func83, by kernel_rfl, by kernel_rfl⟩, ?_⟩
  intro avs ns T sz n g h hn
  unfold F_numbers at h
  split at h
  · rename_i n f
    cases h
    have hr : isRec 4 n f := hn _ (by simp)
    exact SoundFAt.same (numbers_atF n (col 0 f) (col 1 f) (col 2 f) (col 3 f) (hn _ (by simp))) (.cons (.lst 4 n _ _ hr) .nil)
  · cases h
theorem clI_okF : Sx.Enters Try.prog 92 ∧ ∀ avs ns T sz n g, F_clI avs = some (ns, T, sz, n, g) → (∀ q ∈ ns, q) → SoundFAt Try.prog 92 avs T sz n g := by
  refine ⟨⟨_, Try.func92, by kernel_rfl, by kernel_rfl⟩, ?_⟩
  intro avs ns T sz n g h hn
  unfold F_clI at h
  split at h
  · rename_i n f
    cases h
    have hr : isRec 1 n f := hn _ (by simp)
    exact SoundFAt.same (clI_atF n (col 0 f) (hn _ (by simp))) (.cons (.lst 1 n _ _ hr) .nil)
  · cases h


noncomputable def H_numbers : HSpec := hOfF F_numbers
noncomputable def H_clI : HSpec := hOfF F_clI


theorem numbers_okH : SoundHSpec Try.prog 83 H_numbers := soundH_ofF numbers_okF
theorem clI_okH : SoundHSpec Try.prog 92 H_clI := soundH_ofF clI_okF

end Go.Proofs.Ytmdeoobmeokmeaa
/- Contracts of functions of the program, by the engine Sx: what each call comes to. Printed by a program of this repo (sxgen.py). -/
set_option linter.unusedSimpArgs false
set_option linter.unusedVariables false
namespace Go.Proofs.Ytmdeoobmeokmeaa
open Go Go.Sx Go.RowKit

/-- The first one of some numbers for which there is something. -/
def firstO (f : Nat → Option (List Int)) : Nat → Nat → Option (List Int)
  | _, 0 => none
  | s, k + 1 => match f s with
    | some r => some r
    | none => firstO f (s + 1) k
/-- The first list of so many numbers more, from a number on, that p allows. -/
def lvF (p : List Int → Bool) (n : Nat) : Nat → List Int → Nat → Option (List Int)
  | 0, out, _ => if p out then some out else none
  | m + 1, out, s => firstO (fun k => lvF p n m (out ++ [(k : Int)]) (k + 1)) s (n - s)
def lvG (p : List Int → Bool) (n m : Nat) (out : List Int) (s : Nat) : List Int := (lvF p n m out s).getD []
def restL (n : Nat) (out : List Int) : List Int := delL n out.length (numF n) (nthJ out)
/-- Do the others of some readings not contradict each other? -/
def ltB (c T lo hi : Int) (n : Nat) (a b u v : Nat → Int) (out : List Int) : Bool := !clB c T lo hi (restL n out).length a b u v (nthJ (restL n out))
def noAka (m : Mem) : Mem := m.filter fun p => !isAka p.2
def keepN (k : Nat) (ids : List Nat) : Mem → List Prop
  | [] => []
  | (q, r) :: t => match ids.any (Nat.beq q) with
    | true => match r with
      | .row T sz n' f' => (T = 3 ∧ sz = 1 ∧ n' ≤ k ∧ isRec 1 n' f') :: keepN k ids t
      | .aka _ _ _ _ _ => keepN k ids t
      | _ => False :: keepN k ids t
    | false => keepN k ids t
def numsB : List (Nat × Nat) → Bool
  | [] => true
  | (x, y) :: t => match Nat.beq x y with
    | true => numsB t
    | false => false
/-- A list of numbers of the caller's: the numbers of what its block can bear; how many; which. -/
def lvOut (m : Mem) : AV → Option (List Nat × Nat × (Nat → List AV))
  | .row q => match getM m q with
    | some (.row T sz k g) => match numsB [(T, 3), (sz, 1)] with
      | true => some ([q], k, g)
      | false => none
    | some (.aka r T sz k g) => match numsB [(T, 3), (sz, 1)] with
      | true => some ([q, r], k, g)
      | false => none
    | _ => none
  | .x (.slice none 0 0) => some ([], 0, fun _ => [])
  | _ => none
def outL (k : Nat) (g : Nat → List AV) : List Int := (List.range k).map (col 0 g)
noncomputable def H_lv (N : Nat) : HSpec := fun avs m nx sv => match avs with
  | [o, .x (.int .i64 s), .x (.int .i64 M), .ptr l z1, .ptr t z2, .ptr fo z3, .ptr le z4] => match getM m l, getM m t, getM m fo, getM m le, lvOut m o with
    | some (.cells Tl [.lst sl n f]), some (.cells Tt [.x (.int .i64 c), .x (.int .i64 T), .x (.int .i64 lo), .x (.int .i64 hi)]), some (.cells Tf [_]), some (.cells Te [.fn (.func fg) [] [.ptr l' y1, .ptr t' y2, .ptr fo' y3, .ptr le' y4]]), some (ids, k, g) =>
      match numsB [(z1, 0), (z2, 0), (z3, 0), (z4, 0), (y1, 0), (y2, 0), (y3, 0), (y4, 0), (Tl, 36), (sl, 4), (Tt, 34), (Tf, 58), (Te, 126), (fg, 88), (l, l'), (t, t'), (fo, fo'), (le, le')] && (!Nat.beq l t && (!Nat.beq l fo && (!Nat.beq l le && (!Nat.beq t fo && (!Nat.beq t le && !Nat.beq fo le))))) with
      | true => some (.needT ([isRec 4 n f, isRec 1 k g, flt c T lo hi n (col 0 f) (col 1 f) (col 2 f) (col 3 f) = 0, M = (N : Int), 0 ≤ s ∧ s ≤ n, k + N ≤ 1000] ++ keepN k ids m)
          (.branch (lvF (ltB c T lo hi n (col 0 f) (col 1 f) (col 2 f) (col 3 f)) n N (outL k g) s.toNat).isSome
            (.leaf (.lit true, (nx, .row 3 1 (lvG (ltB c T lo hi n (col 0 f) (col 1 f) (col 2 f) (col 3 f)) n N (outL k g) s.toNat).length (fun j => [i (nthJ (lvG (ltB c T lo hi n (col 0 f) (col 1 f) (col 2 f) (col 3 f)) n N (outL k g) s.toNat) j)])) :: setM (noAka m) fo (.cells 58 [.row nx]), nx + 1, sv))
            (.leaf (.lit false, setM (noAka m) fo (.cells 58 [.top]), nx, sv))))
      | false => none
    | _, _, _, _, _ => none
  | _ => none


theorem delL_mem {n k : Nat} {f g : Nat → Int} {x : Int} : x ∈ delL n k f g ↔ (∃ j, j < n ∧ x = f j) ∧ ∀ j, j < k → x ≠ g j := by
  unfold delL
  rw [List.mem_filter, List.mem_map]
  constructor
  · rintro ⟨⟨j, hj, rfl⟩, h⟩
    refine ⟨⟨j, List.mem_range.1 hj, rfl⟩, fun q hq he => ?_⟩
    rw [Bool.not_eq_true', ← Bool.not_eq_true] at h
    exact h (List.any_eq_true.2 ⟨g q, List.mem_map.2 ⟨q, List.mem_range.2 hq, rfl⟩, by rw [he]; exact beq_self_eq_true _⟩)
  · rintro ⟨⟨j, hj, rfl⟩, h⟩
    refine ⟨⟨j, List.mem_range.2 hj, rfl⟩, ?_⟩
    rw [Bool.not_eq_true', ← Bool.not_eq_true]
    intro h2
    obtain ⟨y, hy, he⟩ := List.any_eq_true.1 h2
    obtain ⟨q, hq, rfl⟩ := List.mem_map.1 hy
    exact h q (List.mem_range.1 hq) (by simpa using he)
theorem restL_in (n : Nat) (out : List Int) : inR n (restL n out).length (nthJ (restL n out)) := by
  intro j hj
  have hm : nthJ (restL n out) j ∈ restL n out := by
    rw [nthJ_get hj]
    exact List.getElem_mem hj
  obtain ⟨⟨q, hq, h⟩, _⟩ := delL_mem.1 hm
  rw [h]
  unfold numF
  rw [if_pos hq]
  omega
theorem restL_len (n : Nat) (out : List Int) : (restL n out).length ≤ n := by
  unfold restL delL
  refine Nat.le_trans (List.length_filter_le _ _) ?_
  simp

noncomputable def LM (c T lo hi : Int) (n : Nat) (a b u v : Nat → Int) (la : Option Addr) (ll lc : Nat) (out : List Int) : Mem := [(0, .cells 36 [rds n a b u v]), (0, .cells 36 [.x (.slice la ll lc)]), (1, .cells 34 [i c, i T, i lo, i hi]), (2, .cells 58 [.top]), (3, .cells 126 [.fn (.func 88) [] [.ptr 0 0, .ptr 1 0, .ptr 2 0, .ptr 3 0]]), (4, .row 3 1 out.length (fun j => [i (nthJ out j)]))]
noncomputable def LT_ (c T lo hi : Int) (n : Nat) (a b u v : Nat → Int) (la : Option Addr) (ll lc : Nat) (out R : List Int) : St := { σ := [], m := [(900, .row 3 1 R.length (fun j => [i (nthJ R j)])), (0, .cells 36 [rds n a b u v]), (0, .cells 36 [.x (.slice la ll lc)]), (1, .cells 34 [i c, i T, i lo, i hi]), (2, .cells 58 [.row 900]), (3, .cells 126 [.fn (.func 88) [] [.ptr 0 0, .ptr 1 0, .ptr 2 0, .ptr 3 0]]), (4, .row 3 1 out.length (fun j => [i (nthJ out j)]))], nx := 901, sv := [[.ptr 0 0, .ptr 1 0, .ptr 2 0, .ptr 3 0, .row 4]] }
noncomputable def LF_ (c T lo hi : Int) (n : Nat) (a b u v : Nat → Int) (la : Option Addr) (ll lc : Nat) (out : List Int) : St := { σ := [], m := [(0, .cells 36 [rds n a b u v]), (0, .cells 36 [.x (.slice la ll lc)]), (1, .cells 34 [i c, i T, i lo, i hi]), (2, .cells 58 [.top]), (3, .cells 126 [.fn (.func 88) [] [.ptr 0 0, .ptr 1 0, .ptr 2 0, .ptr 3 0]]), (4, .row 3 1 out.length (fun j => [i (nthJ out j)]))], nx := 901, sv := [[.ptr 0 0, .ptr 1 0, .ptr 2 0, .ptr 3 0, .row 4]] }
set_option maxRecDepth 100000 in
theorem lv_zero (c T lo hi : Int) (n : Nat) (a b u v : Nat → Int) (la : Option Addr) (ll lc : Nat) (out : List Int) (s : Nat) (pre0 : flt c T lo hi n a b u v = 0) (pre1 : out.length ≤ 1000) : EndsTF Try.prog 88 [.row 4, i s, i 0, .ptr 0 0, .ptr 1 0, .ptr 2 0, .ptr 3 0] (LM c T lo hi n a b u v la ll lc out) 5 [[.ptr 0 0, .ptr 1 0, .ptr 2 0, .ptr 3 0, .row 4]] (LT_ c T lo hi n a b u v la ll lc out out) (LF_ c T lo hi n a b u v la ll lc out) (ltB c T lo hi n a b u v out) := by
  refine inl_ends (G := [(84, S_clash)]) (X := { R := [], H := [(83, H_numbers), (89, H_del_), (92, H_clI)] }) (L := []) (SoundG.cons clash_ok (SoundG.nil _)) (SoundX.of (SoundRL.nil _) (SoundHL.cons numbers_okH (SoundHL.cons del__okH (SoundHL.cons clI_okH (SoundHL.nil _))))) mixed ⟨_, Try.func88, by kernel_rfl, by kernel_rfl⟩ Try.func88 (show Try.f88.body = some (bodyOf Try.f88) by kernel_rfl) noLoops (N := [(.cell 2 0, 900, 3, 1)]) (t := (Tree.branch ((0 : Int) == (0 : Int)) (Tree.need [isRec 4 n fun k => [i (a k), i (b k), i (u k), i (v k)], n ≤ 100000] (Tree.need [isRec 1 n fun j => [i (numF n j)], isRec 1 (List.length out) fun j => [i (nthJ out j)], n ≤ 100000, List.length out ≤ 100000] (Tree.need [isRec 4 n fun k => [i (a k), i (b k), i (u k), i (v k)], isRec 1 (List.length (delL n (List.length out) (numF n) (nthJ out))) fun j => [i (nthJ (delL n (List.length out) (numF n) (nthJ out)) j)], (1 : Int) ≤ c ∧ c ≤ (10 : Int), (1 : Int) ≤ lo ∧ lo ≤ hi ∧ hi ≤ (200 : Int) ∧ (1 : Int) ≤ T ∧ T ≤ (2000 : Int), List.length (delL n (List.length out) (numF n) (nthJ out)) ≤ 1000, ∀ (j : Nat), j < List.length (delL n (List.length out) (numF n) (nthJ out)) → (0 : Int) ≤ nthJ (delL n (List.length out) (numF n) (nthJ out)) j ∧ nthJ (delL n (List.length out) (numF n) (nthJ out)) j < (↑n : Int), allI (fun k => rdB c (selF a (nthJ (delL n (List.length out) (numF n) (nthJ out))) k) (selF b (nthJ (delL n (List.length out) (numF n) (nthJ out))) k) (selF u (nthJ (delL n (List.length out) (numF n) (nthJ out))) k) (selF v (nthJ (delL n (List.length out) (numF n) (nthJ out))) k)) (List.length (delL n (List.length out) (numF n) (nthJ out))) = true] (Tree.branch (clB c T lo hi (List.length (delL n (List.length out) (numF n) (nthJ out))) a b u v (nthJ (delL n (List.length out) (numF n) (nthJ out)))) (Tree.need [(AV.lst 4 n fun k => [iI (a k), iI (b k), iI (u k), iI (v k)]) = AV.lst 4 n fun k => [iI (a k), iI (b k), iI (u k), iI (v k)], AV.x (Value.slice la ll lc) = AV.x (Value.slice la ll lc), c = c, T = T, lo = lo, hi = hi, AV.fn (Fn.func 88) [] [AV.ptr 0 0, AV.ptr 1 0, AV.ptr 2 0, AV.ptr 3 0] = AV.fn (Fn.func 88) [] [AV.ptr 0 0, AV.ptr 1 0, AV.ptr 2 0, AV.ptr 3 0], List.length out = List.length out, ∀ (i : Nat), i < List.length out → [Ytmdeoobmeokmeaa.i (nthJ out i)] = [Ytmdeoobmeokmeaa.i (nthJ out i)], AV.ptr 0 0 = AV.ptr 0 0, AV.ptr 1 0 = AV.ptr 1 0, AV.ptr 2 0 = AV.ptr 2 0, AV.ptr 3 0 = AV.ptr 3 0, AV.row 4 = AV.row 4] (Tree.leaf false)) (Tree.need [isRec 1 (List.length out) fun j => [i (nthJ out j)], List.length out ≤ 100000] (Tree.need [List.length out = List.length out, ∀ (i : Nat), i < List.length out → [Ytmdeoobmeokmeaa.i (nthJ out i)] = [Ytmdeoobmeokmeaa.i (nthJ out i)], (AV.lst 4 n fun k => [iI (a k), iI (b k), iI (u k), iI (v k)]) = AV.lst 4 n fun k => [iI (a k), iI (b k), iI (u k), iI (v k)], AV.x (Value.slice la ll lc) = AV.x (Value.slice la ll lc), c = c, T = T, lo = lo, hi = hi, AV.row 900 = AV.row 900, AV.fn (Fn.func 88) [] [AV.ptr 0 0, AV.ptr 1 0, AV.ptr 2 0, AV.ptr 3 0] = AV.fn (Fn.func 88) [] [AV.ptr 0 0, AV.ptr 1 0, AV.ptr 2 0, AV.ptr 3 0], List.length out = List.length out, ∀ (i : Nat), i < List.length out → [Ytmdeoobmeokmeaa.i (nthJ out i)] = [Ytmdeoobmeokmeaa.i (nthJ out i)], AV.ptr 0 0 = AV.ptr 0 0, AV.ptr 1 0 = AV.ptr 1 0, AV.ptr 2 0 = AV.ptr 2 0, AV.ptr 3 0 = AV.ptr 3 0, AV.row 4 = AV.row 4] (Tree.leaf true))))))) Tree.fail)) (by kernel_rfl) (by kernel_rfl) rfl rfl (by kernel_rfl) ?_
  have hf := flt_iff.1 pre0
  have hb := tube_bd hf.1
  have hR : delL n out.length (numF n) (nthJ out) = restL n out := rfl
  have hl := restL_len n out
  have hL : ltB c T lo hi n a b u v out = !clB c T lo hi (restL n out).length a b u v (nthJ (restL n out)) := rfl
  simp only [Tree.sat, allP, true_and, and_true, hR]
  refine ⟨fun _ => ⟨⟨isRec4 n a b u v, by omega⟩, ⟨isRec1 _ _, isRec1 _ _, by omega, by omega⟩, ⟨isRec4 n a b u v, isRec1 _ _, hb.1, hb.2.1, by omega, restL_in n out, sel_rd hf.2.2 (restL_in n out)⟩, fun h => ⟨fun _ _ => trivial, ?_⟩, fun h => ⟨⟨isRec1 _ _, by omega⟩, ⟨fun _ _ => trivial, fun _ _ => trivial⟩, ?_⟩⟩, fun h => by simp at h⟩
  · rw [hL, h]; rfl
  · rw [hL, h]; rfl

end Go.Proofs.Ytmdeoobmeokmeaa
/- Contracts of functions of the program, by the engine Sx: what each call comes to. Printed by a program of this repo (sxgen.py). -/
set_option linter.unusedSimpArgs false
set_option linter.unusedVariables false
namespace Go.Proofs.Ytmdeoobmeokmeaa
open Go Go.Sx Go.RowKit

theorem catJ1 {l : List Int} {x : Int} {j : Nat} (h : j < l.length + 1) : catF l.length (fun j => [i (nthJ l j)]) (chunk 1 [i x]) j = [i (nthJ (l ++ [x]) j)] := by
  rw [nthJ_app]
  show mergeL (decide (j < l.length)) _ (chunk 1 [i x] (j - l.length)) = _
  rw [show j - l.length = 0 by omega]
  by_cases hj : j < l.length
  · rw [decide_eq_true hj, if_pos hj]; rfl
  · rw [decide_eq_false hj, if_neg hj]; rfl
theorem outL_list {k : Nat} {g : Nat → List AV} {l : List Int} (hl : l.length = k) (h : ∀ j, j < k → g j = [i (nthJ l j)]) : outL k g = l := by
  unfold outL
  apply List.ext_getElem?
  intro j
  rcases Nat.lt_or_ge j k with hj | hj
  · rw [List.getElem?_map, List.getElem?_range hj, List.getElem?_eq_getElem (by omega)]
    simp only [Option.map_some, Option.some.injEq]
    unfold col
    rw [h j hj, nthJ_get (by omega)]
    rfl
  · rw [List.getElem?_eq_none (by simp; omega), List.getElem?_eq_none (by omega)]
theorem outL_app (l : List Int) (x : Int) : outL (l.length + 1) (catF l.length (fun j => [i (nthJ l j)]) (chunk 1 [i x])) = l ++ [x] := outL_list (by simp) fun j hj => catJ1 hj
theorem rec_app (l : List Int) (x : Int) : isRec 1 (l.length + 1) (catF l.length (fun j => [i (nthJ l j)]) (chunk 1 [i x])) := fun j hj => by
  rw [catJ1 hj]
  rfl
theorem firstO_none {f : Nat → Option (List Int)} : ∀ {k s : Nat}, firstO f s k = none ↔ ∀ j, s ≤ j → j < s + k → f j = none
  | 0, s => ⟨fun _ j h1 h2 => by omega, fun _ => rfl⟩
  | k + 1, s => by
    unfold firstO
    cases h : f s with
    | some r => exact ⟨fun h1 => (by cases h1), fun h1 => (by rw [h1 s (Nat.le_refl _) (by omega)] at h; cases h)⟩
    | none =>
      simp only
      rw [firstO_none]
      refine ⟨fun h1 j h2 h3 => ?_, fun h1 j h2 h3 => h1 j (by omega) (by omega)⟩
      rcases (show j = s ∨ s + 1 ≤ j by omega) with rfl | h4
      · exact h
      · exact h1 j h4 (by omega)
theorem firstO_some {f : Nat → Option (List Int)} {r : List Int} {q : Nat} (hq : f q = some r) : ∀ {k s : Nat}, s ≤ q → q < s + k → (∀ j, s ≤ j → j < q → f j = none) → firstO f s k = some r
  | 0, s, h1, h2, _ => by omega
  | k + 1, s, h1, h2, h3 => by
    unfold firstO
    rcases (show s = q ∨ s < q by omega) with rfl | h4
    · rw [hq]
    · rw [h3 s (Nat.le_refl _) h4]
      exact firstO_some hq h4 (by omega) (fun j h5 h6 => h3 j (by omega) h6)

noncomputable def E_lv (c T lo hi : Int) (n : Nat) (a b u v : Nat → Int) (la : Option Addr) (ll lc : Nat) (out : List Int) (s : Nat) (N : Nat) : St := (some { σ := mkS 42 [(1, i s), (2, i ((N + 1 : Nat) : Int)), (3, .ptr 0 0), (4, .ptr 1 0), (5, .ptr 2 0), (6, .ptr 3 0), (7, .ptr 5 0)], m := [(5, .cells 58 [.row 4]), (0, .cells 36 [rds n a b u v]), (0, .cells 36 [.x (.slice la ll lc)]), (1, .cells 34 [i c, i T, i lo, i hi]), (2, .cells 58 [.top]), (3, .cells 126 [.fn (.func 88) [] [.ptr 0 0, .ptr 1 0, .ptr 2 0, .ptr 3 0]]), (4, .row 3 1 out.length (fun j => [i (nthJ out j)]))], nx := 901, sv := [[.ptr 0 0, .ptr 1 0, .ptr 2 0, .ptr 3 0, .row 4]] } : Option St).getD { σ := [], m := [], nx := 0 }
noncomputable def B_lv : Code := loopBody (loopAt (bodyOf Try.f88) 0)
noncomputable def inv_lv (c T lo hi : Int) (n : Nat) (a b u v : Nat → Int) (la : Option Addr) (ll lc : Nat) (out : List Int) (s : Nat) (N : Nat) (k : Nat) : St := { σ := ovrS [(12, i k)] (E_lv c T lo hi n a b u v la ll lc out s N).σ, m := [(5, .cells 58 [.row 4]), (0, .cells 36 [rds n a b u v]), (0, .cells 36 [.x (.slice la ll lc)]), (1, .cells 34 [i c, i T, i lo, i hi]), (2, .cells 58 [.top]), (3, .cells 126 [.fn (.func 88) [] [.ptr 0 0, .ptr 1 0, .ptr 2 0, .ptr 3 0]]), (4, .row 3 1 out.length (fun j => [i (nthJ out j)]))], nx := (E_lv c T lo hi n a b u v la ll lc out s N).nx, sv := [[.ptr 0 0, .ptr 1 0, .ptr 2 0, .ptr 3 0, .row 4]] }
noncomputable def out_lv (c T lo hi : Int) (n : Nat) (a b u v : Nat → Int) (la : Option Addr) (ll lc : Nat) (out : List Int) (s : Nat) (N : Nat) (k : Nat) : AEx → Option St := fun ex => match ex with
  | .exit 0 => some { σ := ovrS [] (E_lv c T lo hi n a b u v la ll lc out s N).σ, m := [(5, .cells 58 [.row 4]), (0, .cells 36 [rds n a b u v]), (0, .cells 36 [.x (.slice la ll lc)]), (1, .cells 34 [i c, i T, i lo, i hi]), (2, .cells 58 [.top]), (3, .cells 126 [.fn (.func 88) [] [.ptr 0 0, .ptr 1 0, .ptr 2 0, .ptr 3 0]]), (4, .row 3 1 out.length (fun j => [i (nthJ out j)]))], nx := (E_lv c T lo hi n a b u v la ll lc out s N).nx, sv := [[.ptr 0 0, .ptr 1 0, .ptr 2 0, .ptr 3 0, .row 4]] }
  | .ret => some { σ := ovrS [(10, .lit true)] (E_lv c T lo hi n a b u v la ll lc out s N).σ, m := [(900, .row 3 1 (lvG (ltB c T lo hi n a b u v) n (N + 1) out s).length (fun j => [i (nthJ (lvG (ltB c T lo hi n a b u v) n (N + 1) out s) j)])), (5, .cells 58 [.row 4]), (0, .cells 36 [rds n a b u v]), (0, .cells 36 [.x (.slice la ll lc)]), (1, .cells 34 [i c, i T, i lo, i hi]), (2, .cells 58 [.row 900]), (3, .cells 126 [.fn (.func 88) [] [.ptr 0 0, .ptr 1 0, .ptr 2 0, .ptr 3 0]]), (4, .row 3 1 out.length (fun j => [i (nthJ out j)]))], nx := (E_lv c T lo hi n a b u v la ll lc out s N).nx, sv := [[.ptr 0 0, .ptr 1 0, .ptr 2 0, .ptr 3 0, .row 4]] }
  | _ => none
noncomputable def T_lv (c T lo hi : Int) (n : Nat) (a b u v : Nat → Int) (la : Option Addr) (ll lc : Nat) (out : List Int) (s : Nat) (N : Nat) : CT := .branch (lvF (ltB c T lo hi n a b u v) n (N + 1) out s).isSome (.leaf (.ret, ( out_lv c T lo hi n a b u v la ll lc out s N s .ret).getD (E_lv c T lo hi n a b u v la ll lc out s N))) (.leaf (.exit 0, ( out_lv c T lo hi n a b u v la ll lc out s N s (.exit 0)).getD (E_lv c T lo hi n a b u v la ll lc out s N)))
noncomputable def LS_lv (c T lo hi : Int) (n : Nat) (a b u v : Nat → Int) (la : Option Addr) (ll lc : Nat) (out : List Int) (s : Nat) (N : Nat) : LSpec := normSp [(.cell 2 0, 900, 3, 1)] (sumL (inv_lv c T lo hi n a b u v la ll lc out s N (s)) (T_lv c T lo hi n a b u v la ll lc out s N))
set_option maxRecDepth 100000 in
theorem lv_ls (c T lo hi : Int) (n : Nat) (a b u v : Nat → Int) (la : Option Addr) (ll lc : Nat) (out : List Int) (s : Nat) (N : Nat) (pre0 : flt c T lo hi n a b u v = 0) (pre1 : out.length + (N + 1) ≤ 1000 ∧ s ≤ n) (pre2 : SoundHSpec Try.prog 88 (H_lv N)) : LSound Try.prog (.loop B_lv) (LS_lv c T lo hi n a b u v la ll lc out s N) := by
  refine loop_roundsX [(.cell 2 0, 900, 3, 1)] (E := { R := [], H := [(88, (H_lv N))] }) (G := []) (L := []) (SoundG.nil _) (SoundX.of (SoundRL.nil _) (SoundHL.cons pre2 (SoundHL.nil _))) mixed noLoops (X := Nat) (inv_lv c T lo hi n a b u v la ll lc out s N) (fun k => s ≤ k ∧ k ≤ n ∧ ∀ j, s ≤ j → j < k → lvF (ltB c T lo hi n a b u v) n N (out ++ [(j : Int)]) (j + 1) = none) (fun k => n - k) (out_lv c T lo hi n a b u v la ll lc out s N) (x0 := s) ⟨Nat.le_refl _, pre1.2, fun j h1 h2 => by omega⟩ ?_ ?_ ?_
  · rintro k
    kernel_rfl
  · rintro k y E h
    unfold out_lv at h
    split at h
    · cases h; kernel_rfl
    · cases h; kernel_rfl
    · cases h
  · rintro Q hQ k hx
    refine ⟨(k + 1), ?_⟩
    have e : roundX Try.prog [] { R := [], H := [(88, (H_lv N))] } [] [(.cell 2 0, 900, 3, 1)] B_lv (inv_lv c T lo hi n a b u v la ll lc out s N k) (inv_lv c T lo hi n a b u v la ll lc out s N ((k + 1))) (out_lv c T lo hi n a b u v la ll lc out s N k) = (Tree.branch (decide ((↑k : Int) < (↑n : Int))) (Tree.need [(List.length out + 1) * 8 ≤ 140737488355328, ∀ (i : Nat), i < 1 → ∀ (a : AV), a ∈ chunk 1 [iI (↑k : Int)] i → AV.one a = true] (Tree.need [inI64 ((↑k : Int) + (1 : Int))] (Tree.need [inI64 ((↑(N + 1) : Int) - (1 : Int))] (Tree.need [isRec 4 n fun k => [i (a k), i (b k), i (u k), i (v k)], isRec 1 (List.length out + 1) (catF (List.length out) (fun j => [i (nthJ out j)]) (chunk 1 [iI (↑k : Int)])), flt c T lo hi n a b u v = (0 : Int), (↑(N + 1) : Int) - (1 : Int) = (↑N : Int), (0 : Int) ≤ (↑k : Int) + (1 : Int) ∧ (↑k : Int) + (1 : Int) ≤ (↑n : Int), List.length out + 1 + N ≤ 1000, (3 : TypeId) = (3 : TypeId) ∧ 1 = 1 ∧ List.length out ≤ List.length out + 1 ∧ isRec 1 (List.length out) fun j => [i (nthJ out j)]] (Tree.branch (Option.isSome (lvF (ltB c T lo hi n a b u v) n N (outL (List.length out + 1) (catF (List.length out) (fun j => [i (nthJ out j)]) (chunk 1 [iI (↑k : Int)]))) (Int.toNat ((↑k : Int) + (1 : Int))))) (Tree.need [(↑s : Int) = (↑s : Int), (↑(N + 1) : Int) = (↑(N + 1) : Int), AV.ptr 0 0 = AV.ptr 0 0, AV.ptr 1 0 = AV.ptr 1 0, AV.ptr 2 0 = AV.ptr 2 0, AV.ptr 3 0 = AV.ptr 3 0, AV.ptr 5 0 = AV.ptr 5 0, AV.lit true = AV.lit true, List.length (lvG (ltB c T lo hi n a b u v) n N (outL (List.length out + 1) (catF (List.length out) (fun j => [i (nthJ out j)]) (chunk 1 [iI (↑k : Int)]))) (Int.toNat ((↑k : Int) + (1 : Int)))) = List.length (lvG (ltB c T lo hi n a b u v) n (N + 1) out s), ∀ (i : Nat), i < List.length (lvG (ltB c T lo hi n a b u v) n (N + 1) out s) → [Ytmdeoobmeokmeaa.i (nthJ (lvG (ltB c T lo hi n a b u v) n N (outL (List.length out + 1) (catF (List.length out) (fun j => [Ytmdeoobmeokmeaa.i (nthJ out j)]) (chunk 1 [iI (↑k : Int)]))) (Int.toNat ((↑k : Int) + (1 : Int)))) i)] = [Ytmdeoobmeokmeaa.i (nthJ (lvG (ltB c T lo hi n a b u v) n (N + 1) out s) i)], AV.row 4 = AV.row 4, (AV.lst 4 n fun k => [iI (a k), iI (b k), iI (u k), iI (v k)]) = AV.lst 4 n fun k => [iI (a k), iI (b k), iI (u k), iI (v k)], AV.x (Value.slice la ll lc) = AV.x (Value.slice la ll lc), c = c, T = T, lo = lo, hi = hi, AV.row 900 = AV.row 900, AV.fn (Fn.func 88) [] [AV.ptr 0 0, AV.ptr 1 0, AV.ptr 2 0, AV.ptr 3 0] = AV.fn (Fn.func 88) [] [AV.ptr 0 0, AV.ptr 1 0, AV.ptr 2 0, AV.ptr 3 0], List.length out = List.length out, ∀ (i : Nat), i < List.length out → [Ytmdeoobmeokmeaa.i (nthJ out i)] = [Ytmdeoobmeokmeaa.i (nthJ out i)], AV.ptr 0 0 = AV.ptr 0 0, AV.ptr 1 0 = AV.ptr 1 0, AV.ptr 2 0 = AV.ptr 2 0, AV.ptr 3 0 = AV.ptr 3 0, AV.row 4 = AV.row 4] (Tree.leaf AEx.ret)) (Tree.need [inI64 ((↑k : Int) + (1 : Int))] (Tree.need [(↑s : Int) = (↑s : Int), (↑(N + 1) : Int) = (↑(N + 1) : Int), AV.ptr 0 0 = AV.ptr 0 0, AV.ptr 1 0 = AV.ptr 1 0, AV.ptr 2 0 = AV.ptr 2 0, AV.ptr 3 0 = AV.ptr 3 0, AV.ptr 5 0 = AV.ptr 5 0, (↑k : Int) + (1 : Int) = (↑(k + 1) : Int), AV.row 4 = AV.row 4, (AV.lst 4 n fun k => [iI (a k), iI (b k), iI (u k), iI (v k)]) = AV.lst 4 n fun k => [iI (a k), iI (b k), iI (u k), iI (v k)], AV.x (Value.slice la ll lc) = AV.x (Value.slice la ll lc), c = c, T = T, lo = lo, hi = hi, AV.fn (Fn.func 88) [] [AV.ptr 0 0, AV.ptr 1 0, AV.ptr 2 0, AV.ptr 3 0] = AV.fn (Fn.func 88) [] [AV.ptr 0 0, AV.ptr 1 0, AV.ptr 2 0, AV.ptr 3 0], List.length out = List.length out, ∀ (i : Nat), i < List.length out → [Ytmdeoobmeokmeaa.i (nthJ out i)] = [Ytmdeoobmeokmeaa.i (nthJ out i)], AV.ptr 0 0 = AV.ptr 0 0, AV.ptr 1 0 = AV.ptr 1 0, AV.ptr 2 0 = AV.ptr 2 0, AV.ptr 3 0 = AV.ptr 3 0, AV.row 4 = AV.row 4] (Tree.leaf AEx.normal)))))))) (Tree.need [(↑s : Int) = (↑s : Int), (↑(N + 1) : Int) = (↑(N + 1) : Int), AV.ptr 0 0 = AV.ptr 0 0, AV.ptr 1 0 = AV.ptr 1 0, AV.ptr 2 0 = AV.ptr 2 0, AV.ptr 3 0 = AV.ptr 3 0, AV.ptr 5 0 = AV.ptr 5 0, AV.row 4 = AV.row 4, (AV.lst 4 n fun k => [iI (a k), iI (b k), iI (u k), iI (v k)]) = AV.lst 4 n fun k => [iI (a k), iI (b k), iI (u k), iI (v k)], AV.x (Value.slice la ll lc) = AV.x (Value.slice la ll lc), c = c, T = T, lo = lo, hi = hi, AV.fn (Fn.func 88) [] [AV.ptr 0 0, AV.ptr 1 0, AV.ptr 2 0, AV.ptr 3 0] = AV.fn (Fn.func 88) [] [AV.ptr 0 0, AV.ptr 1 0, AV.ptr 2 0, AV.ptr 3 0], List.length out = List.length out, ∀ (i : Nat), i < List.length out → [Ytmdeoobmeokmeaa.i (nthJ out i)] = [Ytmdeoobmeokmeaa.i (nthJ out i)], AV.ptr 0 0 = AV.ptr 0 0, AV.ptr 1 0 = AV.ptr 1 0, AV.ptr 2 0 = AV.ptr 2 0, AV.ptr 3 0 = AV.ptr 3 0, AV.row 4 = AV.row 4] (Tree.leaf (AEx.exit 0)))) := by kernel_rfl
    rw [e]
    simp only [T_lv, out_lv, Tree.sat, Option.getD_some] at hQ
    obtain ⟨x1, x2, x3⟩ := hx
    have e1 : ((k : Int) + 1).toNat = k + 1 := by omega
    have hn := (flt_iff.1 pre0).2.1
    have hdef : lvF (ltB c T lo hi n a b u v) n (N + 1) out s = firstO (fun k => lvF (ltB c T lo hi n a b u v) n N (out ++ [(k : Int)]) (k + 1)) s (n - s) := rfl
    have hgood : k < n → (lvF (ltB c T lo hi n a b u v) n N (out ++ [(k : Int)]) (k + 1)).isSome = true → (lvF (ltB c T lo hi n a b u v) n (N + 1) out s).isSome = true ∧ lvG (ltB c T lo hi n a b u v) n N (out ++ [(k : Int)]) (k + 1) = lvG (ltB c T lo hi n a b u v) n (N + 1) out s := by
      intro h1 h2
      obtain ⟨r, hr⟩ := Option.isSome_iff_exists.1 h2
      have h3 : lvF (ltB c T lo hi n a b u v) n (N + 1) out s = some r := by
        rw [hdef]
        exact firstO_some (q := k) hr x1 (by omega) x3
      unfold lvG
      rw [h3, hr]
      exact ⟨rfl, rfl⟩
    have hnext : (lvF (ltB c T lo hi n a b u v) n N (out ++ [(k : Int)]) (k + 1)).isSome = false → ∀ j, s ≤ j → j < k + 1 → lvF (ltB c T lo hi n a b u v) n N (out ++ [(j : Int)]) (j + 1) = none := by
      intro h1 j h2 h3
      rcases (show j = k ∨ j < k by omega) with rfl | h4
      · simpa using h1
      · exact x3 j h2 h4
    have hend : ¬ k < n → (lvF (ltB c T lo hi n a b u v) n (N + 1) out s).isSome = false := by
      intro h1
      rw [hdef, firstO_none.2 (fun j h2 h3 => x3 j h2 (by omega))]
      rfl
    have hc1 : ∀ x : Int, ∀ (j : Nat), j < 1 → ∀ y, y ∈ chunk 1 [iI x] j → AV.one y = true := fun x j _ y hy => one_of hy (by simp [AV.one, Value.oneCell'])
    simp only [Tree.sat, allP, fitP, fitL, valEq, inI64, true_and, and_true, decide_eq_true_eq, decide_eq_false_iff_not, Int.toNat_natCast, outL_app, e1]
    clear e
    refine ⟨fun h => ?_, fun h => ?_⟩
    · have hk : k < n := by omega
      refine ⟨⟨by omega, hc1 _⟩, ⟨by omega, by omega⟩, ⟨by omega, by omega⟩, ⟨isRec4 n a b u v, rec_app out _, pre0, by omega, by omega, by omega, by omega, isRec1 _ _⟩, fun h2 => ?_, fun h2 => ?_⟩
      · obtain ⟨g1, g2⟩ := hgood hk h2
        rw [g2]
        (repeat' first | with_reducible apply And.intro | with_reducible intro _)
        all_goals first | exact True.intro | omega | with_reducible rfl | (rename_i E hE; cases hE; exact hQ.1 g1) | rfl
      · have g1 := hnext h2
        (repeat' first | with_reducible apply And.intro | with_reducible intro _)
        all_goals first | exact True.intro | omega | with_reducible rfl | exact g1 _ (by assumption) (by assumption) | rfl
    · have g1 := hend (by omega)
      (repeat' first | with_reducible apply And.intro | with_reducible intro _)
      all_goals first | exact True.intro | omega | with_reducible rfl | (rename_i E hE; cases hE; exact hQ.2 g1) | rfl

set_option maxRecDepth 100000 in
theorem lv_succ (c T lo hi : Int) (n : Nat) (a b u v : Nat → Int) (la : Option Addr) (ll lc : Nat) (out : List Int) (s : Nat) (N : Nat) (pre0 : flt c T lo hi n a b u v = 0) (pre1 : out.length + (N + 1) ≤ 1000 ∧ s ≤ n) (pre2 : SoundHSpec Try.prog 88 (H_lv N)) : EndsTF Try.prog 88 [.row 4, i s, i ((N + 1 : Nat) : Int), .ptr 0 0, .ptr 1 0, .ptr 2 0, .ptr 3 0] (LM c T lo hi n a b u v la ll lc out) 5 [[.ptr 0 0, .ptr 1 0, .ptr 2 0, .ptr 3 0, .row 4]] (LT_ c T lo hi n a b u v la ll lc out (lvG (ltB c T lo hi n a b u v) n (N + 1) out s)) (LF_ c T lo hi n a b u v la ll lc out) (lvF (ltB c T lo hi n a b u v) n (N + 1) out s).isSome := by
  refine inl_ends (G := [(84, S_clash)]) (X := { R := [], H := [(83, H_numbers), (89, H_del_), (92, H_clI), (88, (H_lv N))] }) (L := [LS_lv c T lo hi n a b u v la ll lc out s N]) (SoundG.cons clash_ok (SoundG.nil _)) (SoundX.of (SoundRL.nil _) (SoundHL.cons numbers_okH (SoundHL.cons del__okH (SoundHL.cons clI_okH (SoundHL.cons pre2 (SoundHL.nil _)))))) mixed ⟨_, Try.func88, by kernel_rfl, by kernel_rfl⟩ Try.func88 (show Try.f88.body = some (bodyOf Try.f88) by kernel_rfl) (one_loop (fun cj hcj => by
    have e : loopAt (bodyOf Try.f88) 0 = some (.loop B_lv) := by kernel_rfl
    rw [e] at hcj; cases hcj
    exact lv_ls c T lo hi n a b u v la ll lc out s N pre0 pre1 pre2)) (N := [(.cell 2 0, 900, 3, 1)]) (t := (Tree.branch ((↑(N + 1) : Int) == (0 : Int)) (Tree.need [isRec 4 n fun k => [i (a k), i (b k), i (u k), i (v k)], n ≤ 100000] (Tree.need [isRec 1 n fun j => [i (numF n j)], isRec 1 (List.length out) fun j => [i (nthJ out j)], n ≤ 100000, List.length out ≤ 100000] (Tree.need [isRec 4 n fun k => [i (a k), i (b k), i (u k), i (v k)], isRec 1 (List.length (delL n (List.length out) (numF n) (nthJ out))) fun j => [i (nthJ (delL n (List.length out) (numF n) (nthJ out)) j)], (1 : Int) ≤ c ∧ c ≤ (10 : Int), (1 : Int) ≤ lo ∧ lo ≤ hi ∧ hi ≤ (200 : Int) ∧ (1 : Int) ≤ T ∧ T ≤ (2000 : Int), List.length (delL n (List.length out) (numF n) (nthJ out)) ≤ 1000, ∀ (j : Nat), j < List.length (delL n (List.length out) (numF n) (nthJ out)) → (0 : Int) ≤ nthJ (delL n (List.length out) (numF n) (nthJ out)) j ∧ nthJ (delL n (List.length out) (numF n) (nthJ out)) j < (↑n : Int), allI (fun k => rdB c (selF a (nthJ (delL n (List.length out) (numF n) (nthJ out))) k) (selF b (nthJ (delL n (List.length out) (numF n) (nthJ out))) k) (selF u (nthJ (delL n (List.length out) (numF n) (nthJ out))) k) (selF v (nthJ (delL n (List.length out) (numF n) (nthJ out))) k)) (List.length (delL n (List.length out) (numF n) (nthJ out))) = true] (Tree.branch (clB c T lo hi (List.length (delL n (List.length out) (numF n) (nthJ out))) a b u v (nthJ (delL n (List.length out) (numF n) (nthJ out)))) (Tree.need [(AV.lst 4 n fun k => [iI (a k), iI (b k), iI (u k), iI (v k)]) = AV.lst 4 n fun k => [iI (a k), iI (b k), iI (u k), iI (v k)], AV.x (Value.slice la ll lc) = AV.x (Value.slice la ll lc), c = c, T = T, lo = lo, hi = hi, AV.fn (Fn.func 88) [] [AV.ptr 0 0, AV.ptr 1 0, AV.ptr 2 0, AV.ptr 3 0] = AV.fn (Fn.func 88) [] [AV.ptr 0 0, AV.ptr 1 0, AV.ptr 2 0, AV.ptr 3 0], List.length out = List.length out, ∀ (i : Nat), i < List.length out → [Ytmdeoobmeokmeaa.i (nthJ out i)] = [Ytmdeoobmeokmeaa.i (nthJ out i)], AV.ptr 0 0 = AV.ptr 0 0, AV.ptr 1 0 = AV.ptr 1 0, AV.ptr 2 0 = AV.ptr 2 0, AV.ptr 3 0 = AV.ptr 3 0, AV.row 4 = AV.row 4] (Tree.leaf false)) (Tree.need [isRec 1 (List.length out) fun j => [i (nthJ out j)], List.length out ≤ 100000] (Tree.need [List.length out = List.length (lvG (ltB c T lo hi n a b u v) n (N + 1) out s), ∀ (i : Nat), i < List.length (lvG (ltB c T lo hi n a b u v) n (N + 1) out s) → [Ytmdeoobmeokmeaa.i (nthJ out i)] = [Ytmdeoobmeokmeaa.i (nthJ (lvG (ltB c T lo hi n a b u v) n (N + 1) out s) i)], (AV.lst 4 n fun k => [iI (a k), iI (b k), iI (u k), iI (v k)]) = AV.lst 4 n fun k => [iI (a k), iI (b k), iI (u k), iI (v k)], AV.x (Value.slice la ll lc) = AV.x (Value.slice la ll lc), c = c, T = T, lo = lo, hi = hi, AV.row 900 = AV.row 900, AV.fn (Fn.func 88) [] [AV.ptr 0 0, AV.ptr 1 0, AV.ptr 2 0, AV.ptr 3 0] = AV.fn (Fn.func 88) [] [AV.ptr 0 0, AV.ptr 1 0, AV.ptr 2 0, AV.ptr 3 0], List.length out = List.length out, ∀ (i : Nat), i < List.length out → [Ytmdeoobmeokmeaa.i (nthJ out i)] = [Ytmdeoobmeokmeaa.i (nthJ out i)], AV.ptr 0 0 = AV.ptr 0 0, AV.ptr 1 0 = AV.ptr 1 0, AV.ptr 2 0 = AV.ptr 2 0, AV.ptr 3 0 = AV.ptr 3 0, AV.row 4 = AV.row 4] (Tree.leaf true))))))) (Tree.need [(↑s : Int) = (↑s : Int), (↑(N + 1) : Int) = (↑(N + 1) : Int), AV.ptr 0 0 = AV.ptr 0 0, AV.ptr 1 0 = AV.ptr 1 0, AV.ptr 2 0 = AV.ptr 2 0, AV.ptr 3 0 = AV.ptr 3 0, AV.ptr 5 0 = AV.ptr 5 0, (↑s : Int) = (↑s : Int), AV.row 4 = AV.row 4, (AV.lst 4 n fun k => [iI (a k), iI (b k), iI (u k), iI (v k)]) = AV.lst 4 n fun k => [iI (a k), iI (b k), iI (u k), iI (v k)], AV.x (Value.slice la ll lc) = AV.x (Value.slice la ll lc), c = c, T = T, lo = lo, hi = hi, AV.fn (Fn.func 88) [] [AV.ptr 0 0, AV.ptr 1 0, AV.ptr 2 0, AV.ptr 3 0] = AV.fn (Fn.func 88) [] [AV.ptr 0 0, AV.ptr 1 0, AV.ptr 2 0, AV.ptr 3 0], List.length out = List.length out, ∀ (i : Nat), i < List.length out → [Ytmdeoobmeokmeaa.i (nthJ out i)] = [Ytmdeoobmeokmeaa.i (nthJ out i)], AV.ptr 0 0 = AV.ptr 0 0, AV.ptr 1 0 = AV.ptr 1 0, AV.ptr 2 0 = AV.ptr 2 0, AV.ptr 3 0 = AV.ptr 3 0, AV.row 4 = AV.row 4] (Tree.branch (Option.isSome (lvF (ltB c T lo hi n a b u v) n (N + 1) out s)) (Tree.need [List.length (lvG (ltB c T lo hi n a b u v) n (N + 1) out s) = List.length (lvG (ltB c T lo hi n a b u v) n (N + 1) out s), ∀ (i : Nat), i < List.length (lvG (ltB c T lo hi n a b u v) n (N + 1) out s) → [Ytmdeoobmeokmeaa.i (nthJ (lvG (ltB c T lo hi n a b u v) n (N + 1) out s) i)] = [Ytmdeoobmeokmeaa.i (nthJ (lvG (ltB c T lo hi n a b u v) n (N + 1) out s) i)], (AV.lst 4 n fun k => [iI (a k), iI (b k), iI (u k), iI (v k)]) = AV.lst 4 n fun k => [iI (a k), iI (b k), iI (u k), iI (v k)], AV.x (Value.slice la ll lc) = AV.x (Value.slice la ll lc), c = c, T = T, lo = lo, hi = hi, AV.row 900 = AV.row 900, AV.fn (Fn.func 88) [] [AV.ptr 0 0, AV.ptr 1 0, AV.ptr 2 0, AV.ptr 3 0] = AV.fn (Fn.func 88) [] [AV.ptr 0 0, AV.ptr 1 0, AV.ptr 2 0, AV.ptr 3 0], List.length out = List.length out, ∀ (i : Nat), i < List.length out → [Ytmdeoobmeokmeaa.i (nthJ out i)] = [Ytmdeoobmeokmeaa.i (nthJ out i)], AV.ptr 0 0 = AV.ptr 0 0, AV.ptr 1 0 = AV.ptr 1 0, AV.ptr 2 0 = AV.ptr 2 0, AV.ptr 3 0 = AV.ptr 3 0, AV.row 4 = AV.row 4] (Tree.leaf true)) (Tree.need [(AV.lst 4 n fun k => [iI (a k), iI (b k), iI (u k), iI (v k)]) = AV.lst 4 n fun k => [iI (a k), iI (b k), iI (u k), iI (v k)], AV.x (Value.slice la ll lc) = AV.x (Value.slice la ll lc), c = c, T = T, lo = lo, hi = hi, AV.fn (Fn.func 88) [] [AV.ptr 0 0, AV.ptr 1 0, AV.ptr 2 0, AV.ptr 3 0] = AV.fn (Fn.func 88) [] [AV.ptr 0 0, AV.ptr 1 0, AV.ptr 2 0, AV.ptr 3 0], List.length out = List.length out, ∀ (i : Nat), i < List.length out → [Ytmdeoobmeokmeaa.i (nthJ out i)] = [Ytmdeoobmeokmeaa.i (nthJ out i)], AV.ptr 0 0 = AV.ptr 0 0, AV.ptr 1 0 = AV.ptr 1 0, AV.ptr 2 0 = AV.ptr 2 0, AV.ptr 3 0 = AV.ptr 3 0, AV.row 4 = AV.row 4] (Tree.leaf false)))))) (by kernel_rfl) (by kernel_rfl) rfl rfl (by kernel_rfl) ?_
  have hz : ¬ (((N + 1 : Nat) : Int) == 0) = true := by
    rw [beq_iff_eq]
    omega
  simp only [Tree.sat, allP, true_and, and_true]
  refine ⟨fun h => absurd h hz, fun _ => ?_⟩
  (repeat' first | with_reducible apply And.intro | with_reducible intro _)
  all_goals first | exact True.intro | omega | with_reducible rfl | (rename_i h; exact h.symm) | rfl

end Go.Proofs.Ytmdeoobmeokmeaa
/- Contracts of functions of the program, by the engine Sx: what each call comes to. Printed by a program of this repo (sxgen.py). -/
set_option linter.unusedSimpArgs false
set_option linter.unusedVariables false
namespace Go.Proofs.Ytmdeoobmeokmeaa
open Go Go.Sx Go.RowKit

theorem numsB_cons {x y : Nat} {t : List (Nat × Nat)} : numsB ((x, y) :: t) = true ↔ x = y ∧ numsB t = true := by
  show (match Nat.beq x y with | true => numsB t | false => false) = true ↔ _
  cases h : Nat.beq x y with
  | true => simp [Nat.eq_of_beq_eq_true h]
  | false =>
    simp only [Bool.false_eq_true, false_iff, not_and]
    intro he
    rw [he, Nat.beq_refl] at h
    cases h

theorem nbeq_ne {x y : Nat} (h : (!Nat.beq x y) = true) : x ≠ y := by
  rintro rfl
  rw [Nat.beq_refl] at h
  cases h

theorem keepN_spec {k : Nat} {ids : List Nat} : ∀ {m : Mem}, (∀ p ∈ keepN k ids m, p) → ∀ p ∈ m, p.1 ∈ ids → isAka p.2 = true ∨ ∃ n' f', p.2 = .row 3 1 n' f' ∧ n' ≤ k ∧ isRec 1 n' f'
  | [], _, p, hp, _ => by cases hp
  | (q, r) :: t, h, p, hp, hi => by
    unfold keepN at h
    rcases List.mem_cons.1 hp with rfl | hp
    · have hany : ids.any (Nat.beq q) = true := List.any_eq_true.2 ⟨q, hi, Nat.beq_refl q⟩
      rw [hany] at h
      cases r with
      | row T sz n' f' =>
        obtain ⟨rfl, rfl, h1, h2⟩ := h _ List.mem_cons_self
        exact .inr ⟨n', f', rfl, h1, h2⟩
      | aka _ _ _ _ _ => exact .inl rfl
      | cells _ _ => exact (h _ List.mem_cons_self).elim
      | memo _ _ => exact (h _ List.mem_cons_self).elim
      | ints _ _ _ _ => exact (h _ List.mem_cons_self).elim
    · refine keepN_spec (m := t) (fun x hx => h x ?_) p hp hi
      split
      · split
        · exact List.mem_cons_of_mem _ hx
        · exact hx
        · exact List.mem_cons_of_mem _ hx
      · exact hx

theorem noAka_mem {m : Mem} {p : Nat × Res} (h : p ∈ noAka m) : p ∈ m ∧ isAka p.2 = false := by
  unfold noAka at h
  rw [List.mem_filter] at h
  exact ⟨h.1, by simpa using h.2⟩

/-- A list of numbers in a block of the number o: its values. -/
theorem rowO_ex {e : Env} {w : World} {id o n : Nat} {f : Nat → List AV} (h : RowO e w id o 3 1 n f) (hr : isRec 1 n f) : w.ownsRow 0 3 1 (e.val id) n ((outL n f).map (Value.int .i64)) := by
  obtain ⟨h2, hf, xs, h3, h4⟩ := h
  have hx : xs = (outL n f).map (Value.int .i64) := by
    apply List.ext_getElem?
    intro j
    unfold outL
    have hl : xs.length = n * 1 := h3.1
    rcases Nat.lt_or_ge j n with hj | hj
    · have hx : xs[j]? = some xs[j] := List.getElem?_eq_getElem (by omega)
      have e1 : (f j)[0]? = some (iI (col 0 f j)) := by
        rw [hr j hj]
        rfl
      have := h4 j 0 _ xs[j] hj e1 (by rw [show j * 1 + 0 = j by omega]; exact hx)
      rw [hx, this.x_inv]
      simp [hj]
    · rw [List.getElem?_eq_none (by omega), List.getElem?_eq_none (by simp; omega)]
  subst hx
  exact h3

theorem row_ex2 {e : Env} {w : World} {id n : Nat} {f : Nat → List AV} (h : Holds e w id (.row 3 1 n f)) (hr : isRec 1 n f) : w.ownsRow 0 3 1 (e.val id) n ((outL n f).map (Value.int .i64)) := rowO_ex (o := id) h.2 hr

theorem lvOut_of {e : Env} {w : World} {m : Mem} {o : AV} {ids : List Nat} {k : Nat} {g : Nat → List AV} {ov : Value} (h : lvOut m o = some (ids, k, g)) (hm : MemOk e m w) (hr : isRec 1 k g) (r : Rep e w o ov) :
    (∃ a nn cc, ov = .slice a nn cc) ∧ w.ownsRow 0 3 1 ov k ((outL k g).map (Value.int .i64)) ∧ ∀ b, ov.ownBlock = some b → ∃ j, j ∈ ids ∧ e.own b = some j := by
  unfold lvOut at h
  split at h
  · rename_i q
    have hv : ∃ a nn cc, ov = .slice a nn cc ∧ e.val q = ov := by
      cases r with
      | row _ a nn cc _ hv => exact ⟨a, nn, cc, rfl, hv⟩
    obtain ⟨a, nn, cc, h1, h2⟩ := hv
    split at h
    · rename_i T sz k' g' hg
      split at h
      · rename_i hb
        simp only [numsB_cons] at hb
        obtain ⟨rfl, rfl, _⟩ := hb
        cases h
        have hh := hm _ (getM_mem hg)
        have hx := row_ex2 hh hr
        simp only at hx
        rw [h2] at hx
        refine ⟨⟨a, nn, cc, h1⟩, hx, fun b hb => ⟨q, List.mem_singleton.2 rfl, hh.2.1 b ?_⟩⟩
        show (e.val q).ownBlock = some b
        rw [h2]
        exact hb
      · cases h
    · rename_i r' T sz k' g' hg
      split at h
      · rename_i hb
        simp only [numsB_cons] at hb
        obtain ⟨rfl, rfl, _⟩ := hb
        cases h
        obtain ⟨g1, g2, o', hor, hO⟩ := hm _ (getM_mem hg)
        have hx := rowO_ex hO hr
        simp only at hx
        rw [h2] at hx
        refine ⟨⟨a, nn, cc, h1⟩, hx, fun b hb => ⟨o', ?_, hO.1 b ?_⟩⟩
        · rcases hor with rfl | rfl
          · exact List.mem_cons_self
          · exact List.mem_cons_of_mem _ List.mem_cons_self
        · show (e.val q).ownBlock = some b
          rw [h2]
          exact hb
      · cases h
    · cases h
  · cases h
    cases r.x_inv
    exact ⟨⟨none, 0, 0, rfl⟩, World.ownsRow_nil _ _ _ _, fun b hb => by cases hb⟩
  · cases h

/-- What holds of memory that has not been written, but behind a list's end, holds on. -/
theorem holds_lv {e e' : Env} {B : Nat} {w w1 : World} {bf k : Nat} {ov : Value} {xs : List Value} {ids : List Nat} {fo : Nat} (st : Step e e' w w1) (hown : ∀ b j, e.own b = some j → e'.own b = some j) (hE : EnvOk e B w)
    (hsame : ∀ b, b < w.heap.size → b ≠ bf → ov.ownBlock ≠ some b → w1.heap[b]? = w.heap[b]?) (hbf : e.own bf = some fo) (hob : ∀ b, ov.ownBlock = some b → ∃ j, j ∈ ids ∧ e.own b = some j)
    (ho : w.ownsRow 0 3 1 ov k xs) (ho1 : w1.ownsRow 0 3 1 ov k xs) {p : Nat × Res} (hp : p.1 ≠ fo) (hna : isAka p.2 = false) (hk : p.1 ∈ ids → isAka p.2 = true ∨ ∃ n' f', p.2 = .row 3 1 n' f' ∧ n' ≤ k ∧ isRec 1 n' f') (h : Holds e w p.1 p.2) : Holds e' w1 p.1 p.2 := by
  obtain ⟨q, r⟩ := p
  simp only at hp hna hk h ⊢
  have hb : ∀ b, e.own b = some q → b ≠ bf := fun b hb he => hp (by rw [he, hbf] at hb; exact (Option.some.inj hb).symm)
  have hout : ∀ b, e.own b = some q → (∀ n' f', r ≠ .row 3 1 n' f') → w1.heap[b]? = w.heap[b]? := by
    intro b hq hnr
    refine hsame b (hE.owned b q hq).2 (hb b hq) fun he => ?_
    obtain ⟨j, hj, hj2⟩ := hob b he
    have : q = j := by rw [hq] at hj2; exact Option.some.inj hj2
    rcases hk (this ▸ hj) with h1 | ⟨n', f', h1, _⟩
    · rw [hna] at h1; cases h1
    · exact hnr n' f' h1
  cases r with
  | cells T l =>
    obtain ⟨h1, h2, vs, h3, h4⟩ := h
    obtain ⟨l1, l2, l3⟩ := st.live q h1
    refine ⟨l1, by rw [l2]; exact hown _ _ h2, vs, ?_, h4.step st⟩
    rw [l2, hout _ h2 (fun _ _ hh => by cases hh)]
    exact h3
  | ints T pre n f =>
    obtain ⟨h1, h2, vs, h3, h4⟩ := h
    obtain ⟨l1, l2, l3⟩ := st.live q h1
    refine ⟨l1, by rw [l2]; exact hown _ _ h2, vs, ?_, h4.step st⟩
    rw [l2, hout _ h2 (fun _ _ hh => by cases hh)]
    exact h3
  | memo g f =>
    obtain ⟨h1, h2, es, c, h3, h4⟩ := h
    obtain ⟨l1, l2, l3⟩ := st.live q h1
    refine ⟨l1, by rw [l2]; exact hown _ _ h2, es, c, ?_, h4⟩
    rw [l2, hout _ h2 (fun _ _ hh => by cases hh)]
    exact h3
  | aka _ _ _ _ _ => cases hna
  | row T sz n f =>
    have h' := h
    obtain ⟨h1, h2, hf, ys, h3, h4⟩ := h
    obtain ⟨l1, l2, l3⟩ := st.live q h1
    refine ⟨l1, fun b hb' => hown _ _ (h2 b (by rw [← l3]; exact hb')), hf, ys, ?_, fun i j a v hi ha hv => (h4 i j a v hi ha hv).step st⟩
    rw [l3]
    refine ⟨h3.1, h3.2.imp (fun h => h) ?_⟩
    rintro ⟨g', cap', cur', hv, hg, hh, r1, r2, r3, r4⟩
    have hq := h2 g' (by rw [hv]; rfl)
    rcases Classical.em (ov.ownBlock = some g') with he | he
    · obtain ⟨j, hj, hj2⟩ := hob g' he
      have hqj : q = j := by rw [hq] at hj2; exact Option.some.inj hj2
      rcases hk (hqj ▸ hj) with h5 | ⟨n', f', h5, hle, hrec⟩
      · cases h5
      · cases h5
        rcases ho.2 with ⟨hv2, _⟩ | ⟨g2, cap2, cur2, hv2, _, hh2, s1, s2, s3, s4⟩
        · rw [hv2] at he; cases he
        · rcases ho1.2 with ⟨hv3, _⟩ | ⟨g3, cap3, cur3, hv3, _, hh3, t1, t2, t3, t4⟩
          · rw [hv3] at he; cases he
          · rw [hv2] at hv3
            injection hv3 with u1 u2 u3
            injection u1 with u1
            injection u1 with u1
            have hg2 : g2 = g' := by rw [hv2] at he; exact Option.some.inj he
            rw [hg2] at hh2
            rw [← u1, hg2] at hh3
            have hcc : cur' = cur2 := by
              rw [hh] at hh2
              injection hh2 with hh2
              injection hh2
            refine ⟨g', cap', cur3, hv, hg, hh3, r1, r2, by rw [t3, ← u3, ← s3, ← hcc]; exact r3, ?_⟩
            rw [← r4, hcc]
            have e1 := congrArg (List.take (n * 1)) s4
            have e2 := congrArg (List.take (n * 1)) t4
            rw [List.take_take, Nat.min_eq_left (by omega)] at e1 e2
            rw [e1, e2]
    · exact ⟨g', cap', cur', hv, hg, (hsame g' (hE.owned g' q hq).2 (hb g' hq) he).trans hh, r1, r2, r3, r4⟩

end Go.Proofs.Ytmdeoobmeokmeaa
/- Contracts of functions of the program, by the engine Sx: what each call comes to. Printed by a program of this repo (sxgen.py). -/
set_option linter.unusedSimpArgs false
set_option linter.unusedVariables false
namespace Go.Proofs.Ytmdeoobmeokmeaa
open Go Go.Sx Go.RowKit

abbrev ptrV (b : Nat) : Value := .pointer (some ⟨b, 0, none⟩)
abbrev fnV (bl bt bf be : Nat) : Value := .func (.func 88) #[] #[ptrV bl, ptrV bt, ptrV bf, ptrV be]
/-- A small call of leave: what is known of it. -/
def LvSmall (N : Nat) : Prop := ∀ (c T lo hi : Int) (n : Nat) (a b u v : Nat → Int) (la : Option Addr) (ll lc : Nat) (out : List Int) (s : Nat), flt c T lo hi n a b u v = 0 → out.length + N ≤ 1000 → s ≤ n →
  EndsTF Try.prog 88 [.row 4, i s, i (N : Int), .ptr 0 0, .ptr 1 0, .ptr 2 0, .ptr 3 0] (LM c T lo hi n a b u v la ll lc out) 5 [[.ptr 0 0, .ptr 1 0, .ptr 2 0, .ptr 3 0, .row 4]] (LT_ c T lo hi n a b u v la ll lc out (lvG (ltB c T lo hi n a b u v) n N out s)) (LF_ c T lo hi n a b u v la ll lc out) (lvF (ltB c T lo hi n a b u v) n N out s).isSome

theorem row_blk {w : World} {ov : Value} {n : Nat} {xs : List Value} (h : w.ownsRow 0 3 1 ov n xs) {b : Nat} (hb : ov.ownBlock = some b) : b < w.heap.size := (h.lt b hb).2

theorem lv_small {N : Nat} (hs : LvSmall N) {c T lo hi : Int} {n : Nat} {a b u v : Nat → Int} {out : List Int} {s : Nat} (h1 : flt c T lo hi n a b u v = 0) (h2 : out.length + N ≤ 1000) (h3 : s ≤ n) {w : World} {bl bt bf be : Nat} {vl ov y : Value} {R : Env}
    (hl : w.heap[bl]? = some (.cells #[vl] 36 (0, 0))) (ht : w.heap[bt]? = some (.cells #[.int .i64 c, .int .i64 T, .int .i64 lo, .int .i64 hi] 34 (0, 0))) (hf : w.heap[bf]? = some (.cells #[y] 58 (0, 0))) (he : w.heap[be]? = some (.cells #[fnV bl bt bf be] 126 (0, 0)))
    (d1 : bl ≠ bt) (d2 : bl ≠ bf) (d3 : bl ≠ be) (d4 : bt ≠ bf) (d5 : bt ≠ be) (d6 : bf ≠ be) (ho : w.ownsRow 0 3 1 ov out.length (out.map (Value.int .i64))) (hov : ∃ a n c, ov = .slice a n c) (hob : ∀ x, ov.ownBlock = some x → x ≠ bl ∧ x ≠ bt ∧ x ≠ bf ∧ x ≠ be)
    (hR : Rep R w (rds n a b u v) vl) (hro : ∀ x, R.ro x → x < w.heap.size ∧ x ≠ bl ∧ x ≠ bt ∧ x ≠ bf ∧ x ≠ be ∧ ov.ownBlock ≠ some x) :
    Calls Try.prog 88 #[ov, .int .i64 s, .int .i64 N, ptrV bl, ptrV bt, ptrV bf, ptrV be] w fun en w1 => en = .returned (.bool (lvF (ltB c T lo hi n a b u v) n N out s).isSome) ∧ w.heap.size ≤ w1.heap.size ∧ w1.os = w.os ∧ w1.tape = w.tape ∧ w1.output = w.output ∧
      (∀ x, x < w.heap.size → x ≠ bf → ov.ownBlock ≠ some x → w1.heap[x]? = w.heap[x]?) ∧ w1.ownsRow 0 3 1 ov out.length (out.map (Value.int .i64)) ∧
      ∃ y', w1.heap[bf]? = some (.cells #[y'] 58 (0, 0)) ∧ ((lvF (ltB c T lo hi n a b u v) n N out s).isSome = true → (∃ a n c, y' = .slice a n c) ∧ w1.ownsRow 0 3 1 y' (lvG (ltB c T lo hi n a b u v) n N out s).length ((lvG (ltB c T lo hi n a b u v) n N out s).map (Value.int .i64)) ∧ ∀ x, y'.ownBlock = some x → w.heap.size ≤ x) := by
  have hlb := (Array.getElem?_eq_some_iff.1 hl).1
  have htb := (Array.getElem?_eq_some_iff.1 ht).1
  have hfb := (Array.getElem?_eq_some_iff.1 hf).1
  have heb := (Array.getElem?_eq_some_iff.1 he).1
  obtain ⟨la, ll, lc, hvl⟩ : ∃ la ll lc, vl = .slice la ll lc := by
    cases hR with
    | lstNil => exact ⟨_, _, _, rfl⟩
    | lst => exact ⟨_, _, _, rfl⟩
  obtain ⟨oa, on, oc, hov⟩ := hov
  let e0 : Env := { ro := fun x => x < w.heap.size ∧ x ≠ bl ∧ x ≠ bt ∧ x ≠ bf ∧ x ≠ be ∧ ov.ownBlock ≠ some x, own := fun x => if x = bl then some 0 else if x = bt then some 1 else if x = bf then some 2 else if x = be then some 3 else if ov.ownBlock = some x then some 4 else none, live := fun k => k < 5, blk := fun k => if k = 0 then bl else if k = 1 then bt else if k = 2 then bf else be, val := fun _ => ov }
  let c0 : Cx := { M := fun _ => False, Φ := fun _ _ _ => True, K := fun x o => e0.ro x ∧ w.heap[x]? = some o, saved := [[ptrV bl, ptrV bt, ptrV bf, ptrV be, ov]], sz := w.heap.size }
  let w00 : World := { w with heap := #[] }
  have o0 : e0.own bl = some 0 := if_pos rfl
  have o1 : e0.own bt = some 1 := by simp [e0, Ne.symm d1]
  have o2 : e0.own bf = some 2 := by simp [e0, Ne.symm d2, Ne.symm d4]
  have o3 : e0.own be = some 3 := by simp [e0, Ne.symm d3, Ne.symm d5, Ne.symm d6]
  have o4 : ∀ x, ov.ownBlock = some x → e0.own x = some 4 := by
    intro x hx
    obtain ⟨q1, q2, q3, q4⟩ := hob x hx
    simp [e0, q1, q2, q3, q4, hx]
  have hE : EnvOk e0 w00.heap.size w := by
    refine ⟨fun x hx => ?_, fun x k hk => ⟨Nat.zero_le _, ?_⟩⟩
    · obtain ⟨q0, q1, q2, q3, q4, q5⟩ := hx
      exact ⟨by simp [e0, q1, q2, q3, q4, q5], q0⟩
    · have hk : (if x = bl then some 0 else if x = bt then some 1 else if x = bf then some 2 else if x = be then some 3 else if ov.ownBlock = some x then some 4 else none) = some k := hk
      split at hk
      · rename_i h; rw [h]; exact hlb
      split at hk
      · rename_i h; rw [h]; exact htb
      split at hk
      · rename_i h; rw [h]; exact hfb
      split at hk
      · rename_i h; rw [h]; exact heb
      split at hk
      · rename_i h; exact row_blk ho h
      · cases hk
  have p0 : Rep e0 w (.ptr 0 0) (ptrV bl) := .ptr 0 0 (show 0 < 5 by omega)
  have p1 : Rep e0 w (.ptr 1 0) (ptrV bt) := .ptr 1 0 (show 1 < 5 by omega)
  have p2 : Rep e0 w (.ptr 2 0) (ptrV bf) := .ptr 2 0 (show 2 < 5 by omega)
  have p3 : Rep e0 w (.ptr 3 0) (ptrV be) := .ptr 3 0 (show 3 < 5 by omega)
  have p4 : Rep e0 w (.row 4) ov := by
    rw [hov]
    exact .row 4 _ _ _ (show 4 < 5 by omega) hov
  have hcaps : RepL e0 w [.ptr 0 0, .ptr 1 0, .ptr 2 0, .ptr 3 0] [ptrV bl, ptrV bt, ptrV bf, ptrV be] := .cons p0 (.cons p1 (.cons p2 (.cons p3 (.nil _ _))))
  have hfn : Rep e0 w (.fn (.func 88) [] [.ptr 0 0, .ptr 1 0, .ptr 2 0, .ptr 3 0]) (fnV bl bt bf be) := .fn _ [] _ [] _ rfl (fun i a v h => by simp at h) hcaps.1 hcaps.2
  have hrds : Rep e0 w (rds n a b u v) vl := Rep.idf (e := R) (e' := e0) (fun x hx => hro x hx) hR (.lst 4 n _ fun i hi a ha => by
    simp only [List.mem_cons, List.not_mem_nil, or_false] at ha
    rcases ha with rfl | rfl | rfl | rfl <;> exact .x _)
  have hM : MemOk e0 (LM c T lo hi n a b u v la ll lc out) w := by
    intro p hp
    unfold LM at hp
    simp only [List.mem_cons, List.not_mem_nil, or_false] at hp
    rcases hp with rfl | rfl | rfl | rfl | rfl | rfl
    · exact ⟨show 0 < 5 by omega, o0, [vl], hl, .cons hrds (.nil _ _)⟩
    · exact ⟨show 0 < 5 by omega, o0, [vl], hl, .cons (by rw [hvl]; exact .x _) (.nil _ _)⟩
    · exact ⟨show 1 < 5 by omega, o1, [.int .i64 c, .int .i64 T, .int .i64 lo, .int .i64 hi], ht, .cons (.x _) (.cons (.x _) (.cons (.x _) (.cons (.x _) (.nil _ _))))⟩
    · exact ⟨show 2 < 5 by omega, o2, [y], hf, .cons (.top _) (.nil _ _)⟩
    · exact ⟨show 3 < 5 by omega, o3, [fnV bl bt bf be], he, .cons hfn (.nil _ _)⟩
    · refine ⟨show 4 < 5 by omega, o4, fun i hi => ⟨rfl, fun a ha => by rw [List.mem_singleton.1 ha]; exact .x _⟩, _, ho, fun i j a v hi ha hv => ?_⟩
      cases j with
      | zero =>
        simp only [List.getElem?_cons_zero, Option.some.injEq] at ha
        subst ha
        rw [show i * 1 + 0 = i by omega, List.getElem?_map, nthJ_bang out i hi] at hv
        simp only [Option.map_some, Option.some.injEq] at hv
        rw [← hv]
        exact .x _
      | succ j => simp at ha
  have hX : Xt c0 e0 [[.ptr 0 0, .ptr 1 0, .ptr 2 0, .ptr 3 0, .row 4]] [] w :=
    ⟨⟨fun d hd => (by cases hd), List.nodup_nil⟩, fun x o hk => ⟨hk.1, hk.1.1, hk.2⟩, RepLL.cons (.cons p0 (.cons p1 (.cons p2 (.cons p3 (.cons p4 (.nil _ _)))))) ⟨rfl, fun i a v h => by simp at h⟩, Nat.le_refl _⟩
  have hA : RepL e0 w [.row 4, i s, i (N : Int), .ptr 0 0, .ptr 1 0, .ptr 2 0, .ptr 3 0] [ov, .int .i64 s, .int .i64 N, ptrV bl, ptrV bt, ptrV bf, ptrV be] := .cons p4 (.cons (.x _) (.cons (.x _) hcaps))
  have hcall := hs c T lo hi n a b u v la ll lc out s h1 h2 h3 c0 w00 (fun _ => False) e0 [] [ov, .int .i64 s, .int .i64 N, ptrV bl, ptrV bt, ptrV bf, ptrV be] w hE ⟨rfl, rfl, rfl, Nat.zero_le _, fun k hk => absurd hk (Nat.not_lt_zero _)⟩ hM (fun k hk => hk) (fun _ h => h.elim) hX hA
  refine hcall.mono ?_
  rintro en w1 ⟨hen, e1, g1, g2, g3, g4, _, g6⟩
  have hsv : (cond (lvF (ltB c T lo hi n a b u v) n N out s).isSome (LT_ c T lo hi n a b u v la ll lc out (lvG (ltB c T lo hi n a b u v) n N out s)) (LF_ c T lo hi n a b u v la ll lc out)).sv = [[.ptr 0 0, .ptr 1 0, .ptr 2 0, .ptr 3 0, .row 4]] := by
    cases (lvF (ltB c T lo hi n a b u v) n N out s).isSome <;> rfl
  have hsd := g6.saved
  rw [hsv] at hsd
  have hs1 := hsd.2 0 _ _ rfl rfl
  obtain ⟨v0, l0, q, r0, hs1⟩ := hs1.cons_inv
  obtain ⟨rfl, rfl⟩ := List.cons.inj q
  obtain ⟨v1, l1, q, r1, hs1⟩ := hs1.cons_inv
  obtain ⟨rfl, rfl⟩ := List.cons.inj q
  obtain ⟨v2, l2, q, r2, hs1⟩ := hs1.cons_inv
  obtain ⟨rfl, rfl⟩ := List.cons.inj q
  obtain ⟨v3, l3, q, r3, hs1⟩ := hs1.cons_inv
  obtain ⟨rfl, rfl⟩ := List.cons.inj q
  obtain ⟨v4, l4, q, r4, _⟩ := hs1.cons_inv
  obtain ⟨rfl, rfl⟩ := List.cons.inj q
  have ptr_inv : ∀ {k x : Nat}, Rep e1 w1 (.ptr k 0) (ptrV x) → e1.blk k = x := by
    intro k x h
    cases h
    rfl
  have b0 := ptr_inv r0
  have b1 := ptr_inv r1
  have b2 := ptr_inv r2
  have b3 := ptr_inv r3
  have b4 : e1.val 4 = ov := by
    generalize ov = z at r4
    cases r4 with
    | row _ a n c _ hv => exact hv
  have hmem : ∀ p, (p ∈ (LT_ c T lo hi n a b u v la ll lc out (lvG (ltB c T lo hi n a b u v) n N out s)).m ∧ p ∈ (LF_ c T lo hi n a b u v la ll lc out).m) → Holds e1 w1 p.1 p.2 := by
    intro p hp
    refine g3 p ?_
    cases (lvF (ltB c T lo hi n a b u v) n N out s).isSome
    · exact hp.2
    · exact hp.1
  have k0 := hmem (0, .cells 36 [.x (.slice la ll lc)]) ⟨by simp [LT_], by simp [LF_]⟩
  have k1 := hmem (1, .cells 34 [i c, i T, i lo, i hi]) ⟨by simp [LT_], by simp [LF_]⟩
  have k3 := hmem (3, .cells 126 [.fn (.func 88) [] [.ptr 0 0, .ptr 1 0, .ptr 2 0, .ptr 3 0]]) ⟨by simp [LT_], by simp [LF_]⟩
  have k4 := hmem (4, .row 3 1 out.length (fun j => [i (nthJ out j)])) ⟨by simp [LT_], by simp [LF_]⟩
  have m0 : w1.heap[bl]? = w.heap[bl]? := by
    obtain ⟨_, _, vs, q1, q2⟩ := k0
    obtain ⟨x, xs, rfl, q3, q4⟩ := q2.cons_inv
    obtain rfl := q4.nil_inv
    rw [b0] at q1
    rw [q1, hl, q3.x_inv, hvl]
  have m1 : w1.heap[bt]? = w.heap[bt]? := by
    obtain ⟨_, _, vs, q1, q2⟩ := k1
    obtain ⟨x1, xs, rfl, t1, q2⟩ := q2.cons_inv
    obtain ⟨x2, xs, rfl, t2, q2⟩ := q2.cons_inv
    obtain ⟨x3, xs, rfl, t3, q2⟩ := q2.cons_inv
    obtain ⟨x4, xs, rfl, t4, q2⟩ := q2.cons_inv
    obtain rfl := q2.nil_inv
    rw [b1] at q1
    rw [q1, ht, t1.x_inv, t2.x_inv, t3.x_inv, t4.x_inv]
  have m3 : w1.heap[be]? = w.heap[be]? := by
    obtain ⟨_, _, vs, q1, q2⟩ := k3
    obtain ⟨x, xs, rfl, t1, q2⟩ := q2.cons_inv
    obtain rfl := q2.nil_inv
    obtain ⟨us, us', rfl, t2, t3⟩ := t1.fn_inv
    obtain rfl := t2.nil_inv
    obtain ⟨x1, xs, rfl, s1, t3⟩ := t3.cons_inv
    obtain ⟨x2, xs, rfl, s2, t3⟩ := t3.cons_inv
    obtain ⟨x3, xs, rfl, s3, t3⟩ := t3.cons_inv
    obtain ⟨x4, xs, rfl, s4, t3⟩ := t3.cons_inv
    obtain rfl := t3.nil_inv
    have z : ∀ {k : Nat} {x : Value}, Rep e1 w1 (.ptr k 0) x → x = ptrV (e1.blk k) := by
      intro k x h
      cases h
      rfl
    rw [b3] at q1
    rw [q1, he, z s1, z s2, z s3, z s4, b0, b1, b2, b3]
  have hsame : ∀ x, x < w.heap.size → x ≠ bf → ov.ownBlock ≠ some x → w1.heap[x]? = w.heap[x]? := by
    intro x hx hxf hxo
    rcases Classical.em (x = bl) with rfl | n0
    · exact m0
    rcases Classical.em (x = bt) with rfl | n1
    · exact m1
    rcases Classical.em (x = be) with rfl | n3
    · exact m3
    have hk := g6.kept x w.heap[x] ⟨⟨hx, n0, n1, hxf, n3, hxo⟩, by simp [hx]⟩
    rw [hk.2.2]
    simp [hx]
  have ho1 : w1.ownsRow 0 3 1 ov out.length (out.map (Value.int .i64)) := by
    have := row_ex2 k4 (isRec1 _ _)
    rw [b4, outL_list rfl (fun j _ => rfl)] at this
    exact this
  have hsz : w.heap.size ≤ w1.heap.size := g6.size
  refine ⟨hen, hsz, g2.os, g2.tape, g2.output, hsame, ho1, ?_⟩
  cases hb : (lvF (ltB c T lo hi n a b u v) n N out s).isSome with
  | false =>
    rw [hb] at g3
    have k2 := g3 (2, .cells 58 [.top]) (by simp [LF_])
    obtain ⟨_, _, vs, q1, q2⟩ := k2
    obtain ⟨x, xs, rfl, _, q2⟩ := q2.cons_inv
    obtain rfl := q2.nil_inv
    rw [b2] at q1
    exact ⟨x, q1, fun h => by cases h⟩
  | true =>
    rw [hb] at g3
    have k2 := g3 (2, .cells 58 [.row 900]) (by simp [LT_])
    have k9 := g3 (900, .row 3 1 (lvG (ltB c T lo hi n a b u v) n N out s).length (fun j => [i (nthJ (lvG (ltB c T lo hi n a b u v) n N out s) j)])) (by simp [LT_])
    obtain ⟨_, _, vs, q1, q2⟩ := k2
    obtain ⟨x, xs, rfl, t1, q2⟩ := q2.cons_inv
    obtain rfl := q2.nil_inv
    rw [b2] at q1
    have hx : (∃ a n c, x = .slice a n c) ∧ e1.val 900 = x := by
      cases t1 with
      | row _ a n c _ hv => exact ⟨⟨a, n, c, rfl⟩, hv⟩
    have h9 := row_ex2 k9 (isRec1 _ _)
    rw [hx.2, outL_list rfl (fun j _ => rfl)] at h9
    refine ⟨x, q1, fun _ => ⟨hx.1, h9, fun z hz => ?_⟩⟩
    rcases Nat.lt_or_ge z w.heap.size with hlt | hge
    · exfalso
      have hoz : e1.own z = some 900 := k9.2.1 z (by show (e1.val 900).ownBlock = some z; rw [hx.2]; exact hz)
      rcases Classical.em (z = bl) with rfl | n0
      · have := k0.2.1
        rw [b0] at this
        rw [this] at hoz; cases hoz
      rcases Classical.em (z = bt) with rfl | n1
      · have := k1.2.1
        rw [b1] at this
        rw [this] at hoz; cases hoz
      rcases Classical.em (z = be) with rfl | n3
      · have := k3.2.1
        rw [b3] at this
        rw [this] at hoz; cases hoz
      rcases Classical.em (z = bf) with rfl | n2
      · have := (g3 (2, .cells 58 [.row 900]) (by simp [LT_])).2.1
        rw [b2] at this
        rw [this] at hoz; cases hoz
      rcases Classical.em (ov.ownBlock = some z) with n4 | n4
      · have := k4.2.1 z (by show (e1.val 4).ownBlock = some z; rw [b4]; exact n4)
        rw [this] at hoz; cases hoz
      have hk := g6.kept z w.heap[z] ⟨⟨hlt, n0, n1, n2, n3, n4⟩, by simp [hlt]⟩
      rw [(g1.apart z hk.1).1] at hoz
      cases hoz
    · exact hge

end Go.Proofs.Ytmdeoobmeokmeaa
/- Contracts of functions of the program, by the engine Sx: what each call comes to. Printed by a program of this repo (sxgen.py). -/
set_option linter.unusedSimpArgs false
set_option linter.unusedVariables false
namespace Go.Proofs.Ytmdeoobmeokmeaa
open Go Go.Sx Go.RowKit

theorem lv_frame {N : Nat} (hs : LvSmall N) : SoundHSpec Try.prog 88 (H_lv N) := by
  refine ⟨⟨_, Try.func88, by kernel_rfl, by kernel_rfl⟩, ?_⟩
  intro avs m nx sv tr ht Q hQ cx w0 TT e ds args w hE hB hm hlv hfoe hxt hr
  unfold H_lv at ht
  split at ht
  · rename_i o s M l z1 t z2 fo z3 le z4
    split at ht
    · rename_i Tl sl n f Tt c T lo hi Tf xf Te fg l' y1 t' y2 fo' y3 le' y4 ids k g h1 h2 h3 h4 h5
      split at ht
      · rename_i hb
        rw [Bool.and_eq_true] at hb
        obtain ⟨hb1, hb2⟩ := hb
        simp only [numsB_cons] at hb1
        obtain ⟨rfl, rfl, rfl, rfl, rfl, rfl, rfl, rfl, rfl, rfl, rfl, rfl, rfl, rfl, rfl, rfl, rfl, rfl, _⟩ := hb1
        simp only [Bool.and_eq_true] at hb2
        obtain ⟨d1, d2, d3, d4, d5, d6⟩ := hb2
        replace d1 := nbeq_ne d1
        replace d2 := nbeq_ne d2
        replace d3 := nbeq_ne d3
        replace d4 := nbeq_ne d4
        replace d5 := nbeq_ne d5
        replace d6 := nbeq_ne d6
        cases ht
        obtain ⟨hn, hq⟩ := Tree.sat_needT hQ
        have hn := allP_mem hn
        have n1 : isRec 4 n f := hn _ (List.mem_append_left _ (by simp))
        have n2 : isRec 1 k g := hn _ (List.mem_append_left _ (by simp))
        have n3 : flt c T lo hi n (col 0 f) (col 1 f) (col 2 f) (col 3 f) = 0 := hn _ (List.mem_append_left _ (by simp))
        have n4 : M = (N : Int) := hn _ (List.mem_append_left _ (by simp))
        have n5 : 0 ≤ s ∧ s ≤ n := hn _ (List.mem_append_left _ (by simp))
        have n6 : k + N ≤ 1000 := hn _ (List.mem_append_left _ (by simp))
        have hkeep := keepN_spec (fun p hp => hn p (List.mem_append_right _ hp))
        clear hn hQ
        subst n4
        obtain ⟨s, rfl⟩ : ∃ s' : Nat, s = s' := ⟨s.toNat, by omega⟩
        simp only [Int.toNat_natCast] at hq
        obtain ⟨ov, l1, rfl, r1, hr⟩ := hr.cons_inv
        obtain ⟨v2, l2, rfl, r2, hr⟩ := hr.cons_inv
        obtain ⟨v3, l3, rfl, r3, hr⟩ := hr.cons_inv
        obtain ⟨v4, l4, rfl, r4, hr⟩ := hr.cons_inv
        obtain ⟨v5, l5, rfl, r5, hr⟩ := hr.cons_inv
        obtain ⟨v6, l6, rfl, r6, hr⟩ := hr.cons_inv
        obtain ⟨v7, l7, rfl, r7, hr⟩ := hr.cons_inv
        obtain rfl := hr.nil_inv
        have z : ∀ {k : Nat} {x : Value}, Rep e w (.ptr k 0) x → x = ptrV (e.blk k) := by
          intro k x h
          cases h
          rfl
        obtain rfl := r2.x_inv
        obtain rfl := r3.x_inv
        obtain rfl := z r4
        obtain rfl := z r5
        obtain rfl := z r6
        obtain rfl := z r7
        have m1 := getM_mem h1
        have m2 := getM_mem h2
        have m3 := getM_mem h3
        have m4 := getM_mem h4
        obtain ⟨_, own1, vs1, hp1, q1⟩ := hm _ m1
        obtain ⟨vl, xs1, rfl, rl, q1⟩ := q1.cons_inv
        obtain rfl := q1.nil_inv
        obtain ⟨_, own2, vs2, hp2, q2⟩ := hm _ m2
        obtain ⟨x1, xs, rfl, t1, q2⟩ := q2.cons_inv
        obtain ⟨x2, xs, rfl, t2, q2⟩ := q2.cons_inv
        obtain ⟨x3, xs, rfl, t3, q2⟩ := q2.cons_inv
        obtain ⟨x4, xs, rfl, t4, q2⟩ := q2.cons_inv
        obtain rfl := q2.nil_inv
        obtain rfl := t1.x_inv
        obtain rfl := t2.x_inv
        obtain rfl := t3.x_inv
        obtain rfl := t4.x_inv
        obtain ⟨live3, own3, vs3, hp3, q3⟩ := hm _ m3
        obtain ⟨y, xs3, rfl, _, q3⟩ := q3.cons_inv
        obtain rfl := q3.nil_inv
        obtain ⟨_, own4, vs4, hp4, q4⟩ := hm _ m4
        obtain ⟨fv, xs4, rfl, t5, q4⟩ := q4.cons_inv
        obtain rfl := q4.nil_inv
        obtain ⟨us, us', rfl, t6, t7⟩ := t5.fn_inv
        obtain rfl := t6.nil_inv
        obtain ⟨x1, xs, rfl, s1, t7⟩ := t7.cons_inv
        obtain ⟨x2, xs, rfl, s2, t7⟩ := t7.cons_inv
        obtain ⟨x3, xs, rfl, s3, t7⟩ := t7.cons_inv
        obtain ⟨x4, xs, rfl, s4, t7⟩ := t7.cons_inv
        obtain rfl := t7.nil_inv
        obtain rfl := z s1
        obtain rfl := z s2
        obtain rfl := z s3
        obtain rfl := z s4
        replace own1 : e.own (e.blk l) = some l := own1
        replace own2 : e.own (e.blk t) = some t := own2
        replace own3 : e.own (e.blk fo) = some fo := own3
        replace own4 : e.own (e.blk le) = some le := own4
        obtain ⟨hsl, ho, hob⟩ := lvOut_of h5 hm n2 r1
        have hk : (outL k g).length = k := by simp [outL]
        have notin : ∀ {id : Nat} {T' : TypeId} {l' : List AV}, (id, Res.cells T' l') ∈ m → id ∉ ids := by
          intro id T' l' hmem hin
          rcases hkeep _ hmem hin with h | ⟨_, _, h, _⟩
          · cases h
          · cases h
        have dne : ∀ {x y j j' : Nat}, e.own x = some j → e.own y = some j' → j ≠ j' → x ≠ y := by
          rintro x y j j' hx hy hj rfl
          rw [hx] at hy
          exact hj (Option.some.inj hy)
        have hobn : ∀ x, ov.ownBlock = some x → x ≠ e.blk l ∧ x ≠ e.blk t ∧ x ≠ e.blk fo ∧ x ≠ e.blk le := by
          intro x hx
          obtain ⟨j, hj, hj2⟩ := hob x hx
          exact ⟨dne hj2 own1 (fun h => notin m1 (h ▸ hj)), dne hj2 own2 (fun h => notin m2 (h ▸ hj)), dne hj2 own3 (fun h => notin m3 (h ▸ hj)), dne hj2 own4 (fun h => notin m4 (h ▸ hj))⟩
        have hro : ∀ x, e.ro x → x < w.heap.size ∧ x ≠ e.blk l ∧ x ≠ e.blk t ∧ x ≠ e.blk fo ∧ x ≠ e.blk le ∧ ov.ownBlock ≠ some x := by
          intro x hx
          obtain ⟨hx1, hx2⟩ := hE.apart x hx
          have nx_ : ∀ {y j : Nat}, e.own y = some j → x ≠ y := by
            rintro y j hy rfl
            rw [hx1] at hy
            cases hy
          refine ⟨hx2, nx_ own1, nx_ own2, nx_ own3, nx_ own4, fun h => ?_⟩
          obtain ⟨j, _, hj2⟩ := hob x h
          rw [hx1] at hj2
          cases hj2
        have hcall := lv_small hs (out := outL k g) (s := s) n3 (by rw [hk]; exact n6) (by omega) (w := w) (bl := e.blk l) (bt := e.blk t) (bf := e.blk fo) (be := e.blk le) (vl := vl) (ov := ov) (y := y) (R := e)
          hp1 hp2 hp3 hp4 (dne own1 own2 d1) (dne own1 own3 d2) (dne own1 own4 d3) (dne own2 own3 d4) (dne own2 own4 d5) (dne own3 own4 d6) (by rw [hk]; exact ho) hsl hobn ((Same.lst 4 n _ _ n1).rep rl) hro
        refine hcall.mono ?_
        rintro en w1 ⟨rfl, hsz, q1, q2, q3, hsame, ho1, y', hy, htrue⟩
        rw [hk] at ho1
        have hlt : ∀ {x j : Nat}, e.own x = some j → w0.heap.size ≤ x := fun h => (hE.owned _ _ h).1
        have hBel : Below w0.heap.size w0 w1 := by
          refine ⟨q1.trans hB.os, q2.trans hB.tape, q3.trans hB.output, Nat.le_trans hB.size hsz, fun x hx => ?_⟩
          rw [hsame x (Nat.lt_of_lt_of_le hx hB.size) (fun h => by have := hlt own3; rw [h] at hx; omega) (fun h => by obtain ⟨j, _, hj2⟩ := hob x h; have := hlt hj2; omega)]
          exact hB.block x hx
        have hros : ∀ x, x < w.heap.size → e.ro x → w1.heap[x]? = w.heap[x]? := fun x hx hx2 => hsame x hx (hro x hx2).2.2.2.1 (hro x hx2).2.2.2.2.2
        cases hb : (lvF (ltB c T lo hi n (col 0 f) (col 1 f) (col 2 f) (col 3 f)) n N (outL k g) s).isSome with
        | false =>
          have hq := hq.2 hb
          have st : Step e e w w1 := ⟨fun x hx hx2 => ⟨hx2, hros x hx hx2⟩, fun _ h => ⟨h, rfl, rfl⟩, hsz⟩
          refine ⟨_, _, _, _, _, e, rfl, hq, ⟨fun x hx => ⟨(hE.apart x hx).1, Nat.lt_of_lt_of_le (hE.apart x hx).2 hsz⟩, fun x j hx => ⟨(hE.owned x j hx).1, Nat.lt_of_lt_of_le (hE.owned x j hx).2 hsz⟩⟩, hBel, ?_, hlv, hfoe, hxt.step st, .lit false⟩
          intro p hp
          rcases setM_mem hp with rfl | ⟨hp, hne, _⟩
          · exact ⟨live3, own3, [y'], hy, .cons (.top _) (.nil _ _)⟩
          · obtain ⟨hpm, hna⟩ := noAka_mem hp
            exact holds_lv st (fun _ _ h => h) hE hsame own3 hob ho ho1 hne hna (fun hi => hkeep p hpm hi) (hm p hpm)
        | true =>
          have hq := hq.1 hb
          obtain ⟨⟨ya, yn, yc, hy0⟩, hy1, hy2⟩ := htrue hb
          have hid : ¬ e.live nx := fun h => Nat.lt_irrefl _ (hlv _ h)
          have hfr : ∀ x, x < w.heap.size → y'.ownBlock ≠ some x := fun x hx h => by have := hy2 x h; omega
          have hown : ∀ x j, e.own x = some j → (e.app nx y').own x = some j := by
            intro x j hx
            simp only [Env.app]
            rw [if_neg (hfr x (hE.owned x j hx).2)]
            exact hx
          have st : Step e (e.app nx y') w w1 := ⟨fun x hx hx2 => ⟨hx2, hros x hx hx2⟩, fun j hj => ⟨.inr hj, rfl, by
            have : j ≠ nx := fun h => hid (h ▸ hj)
            simp [Env.app, this]⟩, hsz⟩
          refine ⟨_, _, _, _, _, e.app nx y', rfl, hq, ⟨fun x hx => ⟨?_, Nat.lt_of_lt_of_le (hE.apart x hx).2 hsz⟩, fun x j hx => ?_⟩, hBel, ?_, ?_, hfoe, hxt.step st, .lit true⟩
          · simp only [Env.app]
            rw [if_neg (hfr x (hE.apart x hx).2)]
            exact (hE.apart x hx).1
          · simp only [Env.app] at hx
            split at hx
            · rename_i hxb
              exact ⟨Nat.le_trans hB.size (hy2 x hxb), (hy1.lt x hxb).2⟩
            · exact ⟨(hE.owned x j hx).1, Nat.lt_of_lt_of_le (hE.owned x j hx).2 hsz⟩
          · intro p hp
            rcases List.mem_cons.1 hp with rfl | hp
            · refine ⟨.inl rfl, fun x hx => ?_, fun i hi => ⟨rfl, fun a ha => by rw [List.mem_singleton.1 ha]; exact .x _⟩, (lvG (ltB c T lo hi n (col 0 f) (col 1 f) (col 2 f) (col 3 f)) n N (outL k g) s).map (Value.int .i64), ?_, fun i j a v hi ha hv => ?_⟩
              · have hx : y'.ownBlock = some x := by simpa [Env.app] using hx
                simp [Env.app, hx]
              · show w1.ownsRow 0 3 1 (if nx = nx then y' else e.val nx) _ _
                rw [if_pos rfl]
                exact hy1
              · cases j with
                | zero =>
                  simp only [List.getElem?_cons_zero, Option.some.injEq] at ha
                  subst ha
                  rw [show i * 1 + 0 = i by omega, List.getElem?_map, nthJ_bang _ i hi] at hv
                  simp only [Option.map_some, Option.some.injEq] at hv
                  rw [← hv]
                  exact .x _
                | succ j => simp at ha
            · rcases setM_mem hp with rfl | ⟨hp, hne, _⟩
              · refine ⟨.inr live3, hown _ _ own3, [y'], hy, .cons ?_ (.nil _ _)⟩
                rw [hy0]
                exact .row nx _ _ _ (.inl rfl) (by simp [Env.app])
              · obtain ⟨hpm, hna⟩ := noAka_mem hp
                exact holds_lv st hown hE hsame own3 hob ho ho1 hne hna (fun hi => hkeep p hpm hi) (hm p hpm)
          · rintro j (rfl | hj)
            · exact Nat.lt_succ_self _
            · exact Nat.lt_succ_of_lt (hlv j hj)
      · cases ht
    · cases ht
  · cases ht

theorem lv_all : ∀ N : Nat, SoundHSpec Try.prog 88 (H_lv N)
  | 0 => lv_frame fun c T lo hi n a b u v la ll lc out s h1 h2 h3 => by
    have h := lv_zero c T lo hi n a b u v la ll lc out s h1 (by omega)
    have e1 : lvF (ltB c T lo hi n a b u v) n 0 out s = if ltB c T lo hi n a b u v out then some out else none := rfl
    unfold lvG
    rw [e1]
    cases hb : ltB c T lo hi n a b u v out with
    | true =>
      rw [hb] at h
      exact h
    | false =>
      rw [hb] at h
      exact h
  | N + 1 => lv_frame fun c T lo hi n a b u v la ll lc out s h1 h2 h3 => lv_succ c T lo hi n a b u v la ll lc out s N h1 ⟨h2, h3⟩ (lv_all N)

end Go.Proofs.Ytmdeoobmeokmeaa
/- Contracts of functions of the program, by the engine Sx: what each call comes to. Printed by a program of this repo (sxgen.py). -/
set_option linter.unusedSimpArgs false
set_option linter.unusedVariables false
namespace Go.Proofs.Ytmdeoobmeokmeaa
open Go Go.Sx Go.RowKit

/-- A rising list of numbers from s on, below n. -/
def risF : Nat → Nat → List Int → Prop
  | _, _, [] => True
  | s, n, x :: t => (s : Int) ≤ x ∧ x < n ∧ risF (x.toNat + 1) n t
/-- Is a list before another one, where they differ first? -/
def lexL : List Int → List Int → Bool
  | x :: a, y :: b => if x = y then lexL a b else decide (x < y)
  | _, _ => false
/-- The first one of the shortest lists that p allows. -/
def blR (p : List Int → Bool) (n : Nat) : List Int := (firstO (fun m => lvF p n m [] 0) 0 (n + 1)).getD []
def numsL (s : Nat) : Nat → List Int
  | 0 => []
  | k + 1 => (s : Int) :: numsL (s + 1) k


theorem risF_len : ∀ {S : List Int} {s n : Nat}, risF s n S → S.length ≤ n - s
  | [], _, _, _ => Nat.zero_le _
  | x :: t, s, n, h => by
    obtain ⟨h1, h2, h3⟩ := h
    have := risF_len h3
    rw [List.length_cons]
    omega
theorem firstO_inv {f : Nat → Option (List Int)} {R : List Int} : ∀ {k s : Nat}, firstO f s k = some R → ∃ q, s ≤ q ∧ q < s + k ∧ f q = some R ∧ ∀ j, s ≤ j → j < q → f j = none
  | 0, _, h => by cases h
  | k + 1, s, h => by
    unfold firstO at h
    cases hf : f s with
    | some r =>
      rw [hf] at h
      cases h
      exact ⟨s, Nat.le_refl _, by omega, hf, fun j h1 h2 => by omega⟩
    | none =>
      rw [hf] at h
      obtain ⟨q, h1, h2, h3, h4⟩ := firstO_inv h
      refine ⟨q, by omega, by omega, h3, fun j h5 h6 => ?_⟩
      rcases (show j = s ∨ s + 1 ≤ j by omega) with rfl | h7
      · exact hf
      · exact h4 j h7 h6
theorem lvF_some {p : List Int → Bool} {n : Nat} : ∀ {S out : List Int} {s : Nat}, risF s n S → p (out ++ S) = true → (lvF p n S.length out s).isSome = true
  | [], out, s, _, hp => by
    rw [List.append_nil] at hp
    show (if p out then some out else none).isSome = true
    rw [if_pos hp]
    rfl
  | x :: t, out, s, h, hp => by
    obtain ⟨h1, h2, h3⟩ := h
    have ih := lvF_some (p := p) (out := out ++ [x]) h3 (by rw [List.append_assoc]; exact hp)
    show (firstO (fun k => lvF p n t.length (out ++ [(k : Int)]) (k + 1)) s (n - s)).isSome = true
    cases hf : firstO (fun k => lvF p n t.length (out ++ [(k : Int)]) (k + 1)) s (n - s) with
    | some r => rfl
    | none =>
      have := firstO_none.1 hf x.toNat (by omega) (by omega)
      have e : ((x.toNat : Nat) : Int) = x := by omega
      simp only [e] at this
      rw [this] at ih
      cases ih
theorem lvF_spec {p : List Int → Bool} {n : Nat} : ∀ {m : Nat} {out : List Int} {s : Nat} {R : List Int}, lvF p n m out s = some R → ∃ S, R = out ++ S ∧ S.length = m ∧ risF s n S ∧ p R = true ∧ ∀ S', S'.length = m → risF s n S' → p (out ++ S') = true → lexL S' S = false
  | 0, out, s, R, h => by
    have h : (if p out then some out else none) = some R := h
    split at h
    · rename_i hp
      cases h
      exact ⟨[], by simp, rfl, trivial, hp, fun S' h1 _ _ => by rw [List.eq_nil_of_length_eq_zero h1]; rfl⟩
    · cases h
  | m + 1, out, s, R, h => by
    obtain ⟨q, h1, h2, h3, h4⟩ := firstO_inv (f := fun k => lvF p n m (out ++ [(k : Int)]) (k + 1)) h
    obtain ⟨S, e1, e2, e3, e4, e5⟩ := lvF_spec h3
    refine ⟨(q : Int) :: S, by rw [e1, List.append_assoc]; rfl, by rw [List.length_cons, e2], ⟨by omega, by omega, by rw [Int.toNat_natCast]; exact e3⟩, e4, fun S' h5 h6 h7 => ?_⟩
    cases S' with
    | nil => cases h5
    | cons x t =>
      obtain ⟨g1, g2, g3⟩ := h6
      have ht : t.length = m := by simpa using h5
      show (if x = (q : Int) then lexL t S else decide (x < (q : Int))) = false
      by_cases hx : x = (q : Int)
      · rw [if_pos hx]
        subst hx
        rw [Int.toNat_natCast] at g3
        exact e5 t ht g3 (by rw [List.append_assoc]; exact h7)
      · rw [if_neg hx, decide_eq_false_iff_not]
        intro hlt
        have hn := h4 x.toNat (by omega) (by omega)
        have e : ((x.toNat : Nat) : Int) = x := by omega
        simp only [e] at hn
        have := lvF_some (p := p) (out := out ++ [x]) g3 (by rw [List.append_assoc]; exact h7)
        rw [ht, hn] at this
        cases this
theorem blR_spec {p : List Int → Bool} {n : Nat} {S0 : List Int} (h : risF 0 n S0) (hp : p S0 = true) : ∃ m, m ≤ n ∧ lvF p n m [] 0 = some (blR p n) ∧ (∀ j, j < m → lvF p n j [] 0 = none) ∧ risF 0 n (blR p n) ∧ p (blR p n) = true ∧ (blR p n).length = m ∧
    ∀ S, risF 0 n S → p S = true → m ≤ S.length ∧ (S.length = m → lexL S (blR p n) = false) := by
  have hl := risF_len h
  have h0 := lvF_some (p := p) (out := []) h hp
  cases hf : firstO (fun m => lvF p n m [] 0) 0 (n + 1) with
  | none =>
    have := firstO_none.1 hf S0.length (Nat.zero_le _) (by omega)
    rw [this] at h0
    cases h0
  | some R =>
    obtain ⟨m, _, h2, h3, h4⟩ := firstO_inv hf
    have eR : blR p n = R := by unfold blR; rw [hf]; rfl
    rw [eR]
    obtain ⟨S, e1, e2, e3, e4, e5⟩ := lvF_spec h3
    have e1 : R = S := e1
    subst e1
    refine ⟨m, by omega, h3, fun j hj => h4 j (Nat.zero_le _) hj, e3, e4, e2, fun S hS hpS => ⟨?_, fun hm => e5 S hm hS hpS⟩⟩
    rcases Nat.lt_or_ge S.length m with hlt | hge
    · have h6 := lvF_some (p := p) (out := []) hS hpS
      rw [h4 S.length (Nat.zero_le _) hlt] at h6
      cases h6
    · exact hge
theorem numsL_ris : ∀ {k s n : Nat}, s + k ≤ n → risF s n (numsL s k)
  | 0, _, _, _ => trivial
  | k + 1, s, n, h => ⟨Int.le_refl _, by omega, by rw [Int.toNat_natCast]; exact numsL_ris (by omega)⟩
theorem numsL_nth : ∀ {k s j : Nat}, j < k → nthJ (numsL s k) j = ((s + j : Nat) : Int)
  | k + 1, s, 0, _ => rfl
  | k + 1, s, j + 1, h => by
    have := numsL_nth (k := k) (s := s + 1) (j := j) (by omega)
    show nthJ (numsL (s + 1) k) j = _
    rw [this]
    congr 1
    omega
theorem numsL_len : ∀ {k s : Nat}, (numsL s k).length = k
  | 0, _ => rfl
  | k + 1, s => by rw [numsL, List.length_cons, numsL_len]
theorem rest_all (n : Nat) : restL n (numsL 0 n) = [] := by
  rw [List.eq_nil_iff_forall_not_mem]
  intro x hx
  obtain ⟨⟨j, hj, rfl⟩, h2⟩ := delL_mem.1 hx
  refine h2 j (by rw [numsL_len]; exact hj) ?_
  rw [numsL_nth hj]
  unfold numF
  rw [if_pos hj, Nat.zero_add]
theorem lt_all {c T lo hi : Int} {n : Nat} {a b u v : Nat → Int} (h : flt c T lo hi n a b u v = 0) : ltB c T lo hi n a b u v (numsL 0 n) = true := by
  unfold ltB
  rw [rest_all]
  have h0 := (free_all (a := selF a (nthJ [])) (b := selF b (nthJ [])) (u := selF u (nthJ [])) (v := selF v (nthJ [])) (flt_iff.1 h).1).1
  have h1 := (fltB_iff.1 h0).2.2
  show (!!okB c T lo hi 0 _ _ _ _) = true
  rw [h1]
  rfl
theorem bl_spec {c T lo hi : Int} {n : Nat} {a b u v : Nat → Int} (h : flt c T lo hi n a b u v = 0) : ∃ m, m ≤ n ∧ lvF (ltB c T lo hi n a b u v) n m [] 0 = some (blR (ltB c T lo hi n a b u v) n) ∧ (∀ j, j < m → lvF (ltB c T lo hi n a b u v) n j [] 0 = none) ∧ risF 0 n (blR (ltB c T lo hi n a b u v) n) ∧ ltB c T lo hi n a b u v (blR (ltB c T lo hi n a b u v) n) = true ∧ (blR (ltB c T lo hi n a b u v) n).length = m ∧
    ∀ S, risF 0 n S → ltB c T lo hi n a b u v S = true → m ≤ S.length ∧ (S.length = m → lexL S (blR (ltB c T lo hi n a b u v) n) = false) := blR_spec (p := ltB c T lo hi n a b u v) (numsL_ris (Nat.le_of_eq (Nat.zero_add n))) (lt_all h)


noncomputable def H_lvA : HSpec := fun avs m nx sv => match avs with
  | [o, s, .x (.int .i64 M), l, t, f, e] => H_lv M.toNat [o, s, .x (.int .i64 M), l, t, f, e] m nx sv
  | _ => none
def blL (c T lo hi : Int) (n : Nat) (a b u v : Nat → Int) : List Int := if flt c T lo hi n a b u v = 0 then blR (ltB c T lo hi n a b u v) n else []


theorem lvA_okH : SoundHSpec Try.prog 88 H_lvA := by
  refine ⟨(lv_all 0).1, ?_⟩
  intro avs m nx sv t ht
  unfold H_lvA at ht
  split at ht
  · exact (lv_all _).2 _ m nx sv t ht
  · cases ht

noncomputable def E_bm (c T lo hi : Int) (n : Nat) (a b u v : Nat → Int) : St := (some
  {
    σ :=
      [AV.agg
          [AV.x (Value.int IntKind.i64 c), AV.x (Value.int IntKind.i64 T), AV.x (Value.int IntKind.i64 lo),
            AV.x (Value.int IntKind.i64 hi)],
        AV.lst (4 : Nat) n fun k =>
          [AV.x (Value.int IntKind.i64 (a k)), AV.x (Value.int IntKind.i64 (b k)), AV.x (Value.int IntKind.i64 (u k)),
            AV.x (Value.int IntKind.i64 (v k))],
        AV.ptr (0 : Nat) (0 : Nat), AV.ptr (1 : Nat) (0 : Nat), AV.x (Value.slice none (0 : Nat) (0 : Nat)),
        AV.x (Value.int IntKind.i64 (0 : Int)), AV.x (Value.int IntKind.i64 (flt c T lo hi n a b u v)),
        AV.ptr (10 : Nat) (0 : Nat), AV.ptr (11 : Nat) (0 : Nat), AV.top, AV.top, AV.top, AV.top, AV.top, AV.top,
        AV.top, AV.top, AV.top, AV.top, AV.x (Value.int IntKind.i64 ((↑n : Int) + (1 : Int))), AV.top, AV.top, AV.top,
        AV.top, AV.top, AV.top, AV.top, AV.top],
    m :=
      [((900 : Nat), Res.row (3 : Nat) (1 : Nat) (0 : Nat) fun x => []),
        ((11 : Nat),
          Res.cells (126 : Nat)
            [AV.fn (Fn.func (88 : Nat)) []
                [AV.ptr (1 : Nat) (0 : Nat), AV.ptr (0 : Nat) (0 : Nat), AV.ptr (10 : Nat) (0 : Nat),
                  AV.ptr (11 : Nat) (0 : Nat)]]),
        ((10 : Nat), Res.cells (58 : Nat) [AV.row (900 : Nat)]),
        ((1 : Nat),
          Res.cells (36 : Nat)
            [AV.lst (4 : Nat) n fun k =>
                [AV.x (Value.int IntKind.i64 (a k)), AV.x (Value.int IntKind.i64 (b k)),
                  AV.x (Value.int IntKind.i64 (u k)), AV.x (Value.int IntKind.i64 (v k))]]),
        ((0 : Nat),
          Res.cells (34 : Nat)
            [AV.x (Value.int IntKind.i64 c), AV.x (Value.int IntKind.i64 T), AV.x (Value.int IntKind.i64 lo),
              AV.x (Value.int IntKind.i64 hi)])],
    nx := (901 : Nat) } : Option St).getD { σ := [], m := [], nx := 0 }
noncomputable def B_bm : Code := loopBody (loopAt (bodyOf Try.f54) 0)
noncomputable def inv_bm (c T lo hi : Int) (n : Nat) (a b u v : Nat → Int) (k : Nat) : St := { σ := ovrS [(20, i k)] (E_bm c T lo hi n a b u v).σ, m := [(11, .cells 126 [.fn (.func 88) [] [.ptr 1 0, .ptr 0 0, .ptr 10 0, .ptr 11 0]]), (10, .cells 58 [.top]), (1, .cells 36 [rds n a b u v]), (0, .cells 34 [i c, i T, i lo, i hi])], nx := 901 }
noncomputable def out_bm (c T lo hi : Int) (n : Nat) (a b u v : Nat → Int) (k : Nat) : AEx → Option St := fun ex => match ex with
  | .exit 0 => some { σ := ovrS [] (E_bm c T lo hi n a b u v).σ, m := [(900, .row 3 1 (blR (ltB c T lo hi n a b u v) n).length (fun j => [i (nthJ (blR (ltB c T lo hi n a b u v) n) j)])), (11, .cells 126 [.fn (.func 88) [] [.ptr 1 0, .ptr 0 0, .ptr 10 0, .ptr 11 0]]), (10, .cells 58 [.row 900]), (1, .cells 36 [rds n a b u v]), (0, .cells 34 [i c, i T, i lo, i hi])], nx := 901 }
  | _ => none
noncomputable def T_bm (c T lo hi : Int) (n : Nat) (a b u v : Nat → Int) : CT := .leaf (.exit 0, ( out_bm c T lo hi n a b u v 0 (.exit 0)).getD (E_bm c T lo hi n a b u v))
noncomputable def LS_bm (c T lo hi : Int) (n : Nat) (a b u v : Nat → Int) : LSpec := normSp [(.cell 10 0, 900, 3, 1)] (sumL (inv_bm c T lo hi n a b u v (0)) (T_bm c T lo hi n a b u v))
set_option maxRecDepth 100000 in
theorem bm_ls (c T lo hi : Int) (n : Nat) (a b u v : Nat → Int) (pre0 : flt c T lo hi n a b u v = 0) : LSound Try.prog (.loop B_bm) (LS_bm c T lo hi n a b u v) := by
  refine loop_roundsX [(.cell 10 0, 900, 3, 1)] (E := { R := [], H := [(88, H_lvA)] }) (G := [(80, S_check)]) (L := []) (SoundG.cons check_ok (SoundG.nil _)) (SoundX.of (SoundRL.nil _) (SoundHL.cons lvA_okH (SoundHL.nil _))) mixed noLoops (X := Nat) (inv_bm c T lo hi n a b u v) (fun k => k ≤ n + 1 ∧ ∀ j, j < k → lvF (ltB c T lo hi n a b u v) n j [] 0 = none) (fun k => n + 1 - k) (out_bm c T lo hi n a b u v) (x0 := 0) ⟨Nat.zero_le _, fun j h1 => by omega⟩ ?_ ?_ ?_
  · rintro k
    kernel_rfl
  · rintro k y E h
    unfold out_bm at h
    split at h
    · cases h; kernel_rfl
    · cases h
  · rintro Q hQ k hx
    refine ⟨(k + 1), ?_⟩
    have e : roundX Try.prog [(80, S_check)] { R := [], H := [(88, H_lvA)] } [] [(.cell 10 0, 900, 3, 1)] B_bm (inv_bm c T lo hi n a b u v k) (inv_bm c T lo hi n a b u v ((k + 1))) (out_bm c T lo hi n a b u v k) = (Tree.branch (decide ((↑k : Int) < (↑n : Int) + (1 : Int))) (Tree.need [isRec 4 n fun k => [i (a k), i (b k), i (u k), i (v k)], isRec 1 0 fun x => [], flt c T lo hi n a b u v = (0 : Int), (↑k : Int) = (↑k : Int), (0 : Int) ≤ (0 : Int) ∧ (0 : Int) ≤ (↑n : Int), 0 + k ≤ 1000] (Tree.branch (Option.isSome (lvF (ltB c T lo hi n a b u v) n k (outL 0 fun x => []) (Int.toNat (0 : Int)))) (Tree.need [AV.agg [iI c, iI T, iI lo, iI hi] = AV.agg [iI c, iI T, iI lo, iI hi], (AV.lst 4 n fun k => [iI (a k), iI (b k), iI (u k), iI (v k)]) = AV.lst 4 n fun k => [iI (a k), iI (b k), iI (u k), iI (v k)], AV.ptr 0 0 = AV.ptr 0 0, AV.ptr 1 0 = AV.ptr 1 0, AV.x (Value.slice none 0 0) = AV.x (Value.slice none 0 0), (0 : Int) = (0 : Int), flt c T lo hi n a b u v = flt c T lo hi n a b u v, AV.ptr 10 0 = AV.ptr 10 0, AV.ptr 11 0 = AV.ptr 11 0, (↑n : Int) + (1 : Int) = (↑n : Int) + (1 : Int), List.length (lvG (ltB c T lo hi n a b u v) n k (outL 0 fun x => []) (Int.toNat (0 : Int))) = List.length (blR (ltB c T lo hi n a b u v) n), ∀ (i : Nat), i < List.length (blR (ltB c T lo hi n a b u v) n) → [Ytmdeoobmeokmeaa.i (nthJ (lvG (ltB c T lo hi n a b u v) n k (outL 0 fun x => []) (Int.toNat (0 : Int))) i)] = [Ytmdeoobmeokmeaa.i (nthJ (blR (ltB c T lo hi n a b u v) n) i)], AV.fn (Fn.func 88) [] [AV.ptr 1 0, AV.ptr 0 0, AV.ptr 10 0, AV.ptr 11 0] = AV.fn (Fn.func 88) [] [AV.ptr 1 0, AV.ptr 0 0, AV.ptr 10 0, AV.ptr 11 0], AV.row 900 = AV.row 900, (AV.lst 4 n fun k => [iI (a k), iI (b k), iI (u k), iI (v k)]) = AV.lst 4 n fun k => [iI (a k), iI (b k), iI (u k), iI (v k)], c = c, T = T, lo = lo, hi = hi] (Tree.leaf (AEx.exit 0))) (Tree.need [inI64 ((↑k : Int) + (1 : Int))] (Tree.need [AV.agg [iI c, iI T, iI lo, iI hi] = AV.agg [iI c, iI T, iI lo, iI hi], (AV.lst 4 n fun k => [iI (a k), iI (b k), iI (u k), iI (v k)]) = AV.lst 4 n fun k => [iI (a k), iI (b k), iI (u k), iI (v k)], AV.ptr 0 0 = AV.ptr 0 0, AV.ptr 1 0 = AV.ptr 1 0, AV.x (Value.slice none 0 0) = AV.x (Value.slice none 0 0), (0 : Int) = (0 : Int), flt c T lo hi n a b u v = flt c T lo hi n a b u v, AV.ptr 10 0 = AV.ptr 10 0, AV.ptr 11 0 = AV.ptr 11 0, (↑n : Int) + (1 : Int) = (↑n : Int) + (1 : Int), (↑k : Int) + (1 : Int) = (↑(k + 1) : Int), AV.fn (Fn.func 88) [] [AV.ptr 1 0, AV.ptr 0 0, AV.ptr 10 0, AV.ptr 11 0] = AV.fn (Fn.func 88) [] [AV.ptr 1 0, AV.ptr 0 0, AV.ptr 10 0, AV.ptr 11 0], (AV.lst 4 n fun k => [iI (a k), iI (b k), iI (u k), iI (v k)]) = AV.lst 4 n fun k => [iI (a k), iI (b k), iI (u k), iI (v k)], c = c, T = T, lo = lo, hi = hi] (Tree.leaf AEx.normal))))) (Tree.need [AV.agg [iI c, iI T, iI lo, iI hi] = AV.agg [iI c, iI T, iI lo, iI hi], (AV.lst 4 n fun k => [iI (a k), iI (b k), iI (u k), iI (v k)]) = AV.lst 4 n fun k => [iI (a k), iI (b k), iI (u k), iI (v k)], AV.ptr 0 0 = AV.ptr 0 0, AV.ptr 1 0 = AV.ptr 1 0, AV.x (Value.slice none 0 0) = AV.x (Value.slice none 0 0), (0 : Int) = (0 : Int), flt c T lo hi n a b u v = flt c T lo hi n a b u v, AV.ptr 10 0 = AV.ptr 10 0, AV.ptr 11 0 = AV.ptr 11 0, (↑n : Int) + (1 : Int) = (↑n : Int) + (1 : Int), False, AV.fn (Fn.func 88) [] [AV.ptr 1 0, AV.ptr 0 0, AV.ptr 10 0, AV.ptr 11 0] = AV.fn (Fn.func 88) [] [AV.ptr 1 0, AV.ptr 0 0, AV.ptr 10 0, AV.ptr 11 0], AV.top = AV.row 900, (AV.lst 4 n fun k => [iI (a k), iI (b k), iI (u k), iI (v k)]) = AV.lst 4 n fun k => [iI (a k), iI (b k), iI (u k), iI (v k)], c = c, T = T, lo = lo, hi = hi] (Tree.leaf (AEx.exit 0)))) := by kernel_rfl
    rw [e]
    simp only [T_bm, out_bm, Tree.sat, Option.getD_some] at hQ
    obtain ⟨x1, x2⟩ := hx
    have hn := (flt_iff.1 pre0).2.1
    obtain ⟨m, hm, hlm, hnone, _⟩ := bl_spec pre0
    have hO : outL 0 (fun _ => ([] : List AV)) = [] := rfl
    have hz : Int.toNat 0 = 0 := rfl
    have hgood : (lvF (ltB c T lo hi n a b u v) n k [] 0).isSome = true → lvG (ltB c T lo hi n a b u v) n k [] 0 = blR (ltB c T lo hi n a b u v) n := by
      intro h
      have hk : k = m := by
        rcases (show k < m ∨ k = m ∨ m < k by omega) with h1 | h1 | h1
        · rw [hnone k h1] at h
          cases h
        · exact h1
        · rw [x2 m h1] at hlm
          cases hlm
      subst hk
      unfold lvG
      rw [hlm]
      rfl
    have hnext : (lvF (ltB c T lo hi n a b u v) n k [] 0).isSome = false → ∀ j, j < k + 1 → lvF (ltB c T lo hi n a b u v) n j [] 0 = none := by
      intro h j hj
      rcases (show j = k ∨ j < k by omega) with rfl | h4
      · simpa using h
      · exact x2 j h4
    simp only [Tree.sat, allP, fitP, fitL, valEq, inI64, true_and, and_true, decide_eq_true_eq, decide_eq_false_iff_not, Int.toNat_natCast, hO, hz]
    clear e
    refine ⟨fun h => ?_, fun h => ?_⟩
    · refine ⟨⟨isRec4 n a b u v, fun j hj => absurd hj (Nat.not_lt_zero _), pre0, by omega, by omega⟩, fun h2 => ?_, fun h2 => ?_⟩
      · rw [hgood h2]
        (repeat' first | with_reducible apply And.intro | with_reducible intro _)
        all_goals first | exact True.intro | omega | with_reducible rfl | (rename_i E hE; cases hE; exact hQ) | rfl
      · have g1 := hnext h2
        (repeat' first | with_reducible apply And.intro | with_reducible intro _)
        all_goals first | exact True.intro | omega | with_reducible rfl | exact g1 _ (by assumption) | rfl
    · exfalso
      rw [x2 m (by omega)] at hlm
      cases hlm

set_option maxRecDepth 100000 in
theorem Blame_at (c T lo hi : Int) (n : Nat) (a b u v : Nat → Int) : SoundAt Try.prog 54 [.agg [i c, i T, i lo, i hi], rds n a b u v] (.tup [.lst 1 (blL c T lo hi n a b u v).length (fun k => [i (nthJ (blL c T lo hi n a b u v) k)]), i (flt c T lo hi n a b u v)]) := by
  refine soundAt_finX (G := [(80, S_check)]) (X := { R := [], H := [(88, H_lvA)] }) (L := [needSp [flt c T lo hi n a b u v = 0] (LS_bm c T lo hi n a b u v)]) (SoundG.cons check_ok (SoundG.nil _)) (SoundX.of (SoundRL.nil _) (SoundHL.cons lvA_okH (SoundHL.nil _))) mixed Try.func54 (show Try.f54.body = some (bodyOf Try.f54) by kernel_rfl) (one_loop (fun cj hcj => by
    have e : loopAt (bodyOf Try.f54) 0 = some (.loop B_bm) := by kernel_rfl
    rw [e] at hcj; cases hcj
    exact (needSp_sound (ps := [flt c T lo hi n a b u v = 0]) (fun h => bm_ls c T lo hi n a b u v h)).N)) (t := (Tree.need [isRec 4 n fun k => [i (a k), i (b k), i (u k), i (v k)]] (Tree.branch (flt c T lo hi n a b u v != (0 : Int)) (Tree.leaf (RV.tup [RV.x (Value.slice none 0 0), RV.x (Value.int IntKind.i64 (flt c T lo hi n a b u v))])) (Tree.need [inI64 ((↑n : Int) + (1 : Int))] (Tree.need [flt c T lo hi n a b u v = (0 : Int)] (Tree.need [AV.agg [iI c, iI T, iI lo, iI hi] = AV.agg [iI c, iI T, iI lo, iI hi], (AV.lst 4 n fun k => [iI (a k), iI (b k), iI (u k), iI (v k)]) = AV.lst 4 n fun k => [iI (a k), iI (b k), iI (u k), iI (v k)], AV.ptr 0 0 = AV.ptr 0 0, AV.ptr 1 0 = AV.ptr 1 0, AV.x (Value.slice none 0 0) = AV.x (Value.slice none 0 0), (0 : Int) = (0 : Int), flt c T lo hi n a b u v = flt c T lo hi n a b u v, AV.ptr 10 0 = AV.ptr 10 0, AV.ptr 11 0 = AV.ptr 11 0, (↑n : Int) + (1 : Int) = (↑n : Int) + (1 : Int), (0 : Int) = (↑(0 : Nat) : Int), AV.fn (Fn.func 88) [] [AV.ptr 1 0, AV.ptr 0 0, AV.ptr 10 0, AV.ptr 11 0] = AV.fn (Fn.func 88) [] [AV.ptr 1 0, AV.ptr 0 0, AV.ptr 10 0, AV.ptr 11 0], (AV.lst 4 n fun k => [iI (a k), iI (b k), iI (u k), iI (v k)]) = AV.lst 4 n fun k => [iI (a k), iI (b k), iI (u k), iI (v k)], c = c, T = T, lo = lo, hi = hi] (Tree.leaf (RV.tup [RV.lst 1 (List.length (blR (ltB c T lo hi n a b u v) n)) fun j => [iI (nthJ (blR (ltB c T lo hi n a b u v) n) j)], RV.x (Value.int IntKind.i64 (0 : Int))])))))))) (by kernel_rfl) ?_
  have hB : flt c T lo hi n a b u v = 0 → blL c T lo hi n a b u v = blR (ltB c T lo hi n a b u v) n := fun h => if_pos h
  simp only [Tree.sat, allP, fitP, fitL, valEq, inI64, true_and, and_true, decide_eq_true_eq, decide_eq_false_iff_not, bne_iff_ne, ne_eq, bne_eq_false_iff_eq]
  refine ⟨isRec4 n a b u v, fun h => ?_, fun h => ?_⟩
  · have e : blL c T lo hi n a b u v = [] := if_neg h
    rw [e]
    exact ⟨True.intro, rfl⟩
  · rw [hB h]
    have hn := (flt_iff.1 h).2.1
    (repeat' first | with_reducible apply And.intro | with_reducible intro _)
    all_goals first | exact True.intro | omega | with_reducible rfl | exact h | exact h.symm | (rename_i hm; cases List.mem_singleton.1 hm; exact True.intro) | rfl

end Go.Proofs.Ytmdeoobmeokmeaa
/- Contracts of functions of the program, by the engine Sx: what each call comes to. Printed by a program of this repo (sxgen.py). -/
set_option linter.unusedSimpArgs false
set_option linter.unusedVariables false
namespace Go.Proofs.Ytmdeoobmeokmeaa
open Go Go.Sx Go.RowKit

end Go.Proofs.Ytmdeoobmeokmeaa
/- Contracts of functions of the program, by the engine Sx: what each call comes to. Printed by a program of this repo (sxgen.py). -/
set_option linter.unusedSimpArgs false
set_option linter.unusedVariables false
namespace Go.Proofs.Ytmdeoobmeokmeaa
open Go Go.Sx Go.RowKit

end Go.Proofs.Ytmdeoobmeokmeaa
/- Contracts of functions of the program, by the engine Sx: what each call comes to. Printed by a program of this repo (sxgen.py). -/
set_option linter.unusedSimpArgs false
set_option linter.unusedVariables false
namespace Go.Proofs.Ytmdeoobmeokmeaa
open Go Go.Sx Go.RowKit
def S_isNaN : Sx.Spec := fun l => match l with
  | [.x (.int .i64 x)] => some ([], bl false)
  | _ => none

set_option maxRecDepth 100000 in
theorem isNaN_at (x : Int) : SoundAt Try.prog 111 [i x] (bl false) := by
  refine soundAt_fin (G := []) (L := []) (SoundG.nil _) mixed Try.func111 (show Try.f111.body = some (bodyOf Try.f111) by kernel_rfl) noLoops (t := (Tree.leaf (RV.x (Value.bool (x != x))))) (by kernel_rfl) ?_
  simp [Tree.sat, fitP, valEq]
theorem isNaN_ok : SoundSpec Try.prog 111 S_isNaN := by
  refine ⟨⟨_, Try.func111, by kernel_rfl, by kernel_rfl⟩, ?_⟩
  intro avs ns res h hn
  unfold S_isNaN at h
  split at h
  · cases h
    exact isNaN_at _
  · cases h

def S_cless : Sx.Spec := fun l => match l with
  | [.x (.int .i64 x), .x (.int .i64 y)] => some ([], bl (decide (x < y)))
  | _ => none

set_option maxRecDepth 100000 in
theorem cless_at (x y : Int) : SoundAt Try.prog 105 [i x, i y] (bl (decide (x < y))) := by
  refine soundAt_fin (G := [(111, S_isNaN)]) (L := []) (SoundG.cons isNaN_ok (SoundG.nil _)) mixed Try.func105 (show Try.f105.body = some (bodyOf Try.f105) by kernel_rfl) noLoops (t := (Tree.branch false (Tree.branch (!false) (Tree.leaf (RV.x (Value.bool true))) (Tree.leaf (RV.x (Value.bool (decide (x < y)))))) (Tree.leaf (RV.x (Value.bool (decide (x < y))))))) (by kernel_rfl) ?_
  simp [Tree.sat, fitP, valEq]
theorem cless_ok : SoundSpec Try.prog 105 S_cless := by
  refine ⟨⟨_, Try.func105, by kernel_rfl, by kernel_rfl⟩, ?_⟩
  intro avs ns res h hn
  unfold S_cless at h
  split at h
  · cases h
    exact cless_at _ _
  · cases h

noncomputable def E_sr (m : Nat) (f : Nat → Int) : St := (some
  {
    σ :=
      [AV.lst (1 : Nat) m fun k => [AV.x (Value.int IntKind.i64 (f k))], AV.top, AV.top, AV.top, AV.top, AV.top, AV.top,
        AV.top, AV.top, AV.top, AV.top, AV.top, AV.top, AV.top, AV.top, AV.top, AV.top, AV.top, AV.top, AV.top, AV.top],
    m := [], nx := (5 : Nat) } : Option St).getD { σ := [], m := [], nx := 0 }
noncomputable def B_sr : Code := loopBody (loopAt (bodyOf Try.f86) 0)
noncomputable def inv_sr (m : Nat) (f : Nat → Int) (k : Nat) : St := { σ := ovrS [(3, i ((m : Int) - 1 - k))] (E_sr m f).σ, m := (E_sr m f).m, nx := (E_sr m f).nx }
noncomputable def out_sr (m : Nat) (f : Nat → Int) (k : Nat) : AEx → Option St := fun ex => match ex with
  | .exit 0 => some { σ := ovrS [] (E_sr m f).σ, m := (E_sr m f).m, nx := (E_sr m f).nx }
  | .ret => some { σ := ovrS [(2, .lit false)] (E_sr m f).σ, m := (E_sr m f).m, nx := (E_sr m f).nx }
  | _ => none
noncomputable def T_sr (m : Nat) (f : Nat → Int) : CT := .branch (srtB m f) (.leaf (.exit 0, ( out_sr m f 0 (.exit 0)).getD (E_sr m f))) (.leaf (.ret, ( out_sr m f 0 .ret).getD (E_sr m f)))
noncomputable def LS_sr (m : Nat) (f : Nat → Int) : LSpec := (sumL (inv_sr m f (0)) (T_sr m f))
set_option maxRecDepth 100000 in
theorem sr_ls (m : Nat) (f : Nat → Int) (pre0 : m ≤ 100000) : LSound Try.prog (.loop B_sr) (LS_sr m f) := by
  refine loop_rounds (G := [(105, S_cless)]) (L := []) (SoundG.cons cless_ok (SoundG.nil _)) mixed noLoops (X := Nat) (inv_sr m f) (fun k => k ≤ m - 1 ∧ ∀ j, m - 1 - k ≤ j → j < m - 1 → ¬ f (j + 1) < f j) (fun k => m - 1 - k) (out_sr m f) (x0 := 0) ⟨by omega, fun j h1 h2 => by omega⟩ ?_ ?_ ?_
  · rintro k
    kernel_rfl
  · rintro k y E h
    unfold out_sr at h
    split at h
    · cases h; kernel_rfl
    · cases h; kernel_rfl
    · cases h
  · rintro Q hQ k hx
    refine ⟨(k + 1), ?_⟩
    have e : roundT Try.prog [(105, S_cless)] [] B_sr (inv_sr m f k) (inv_sr m f ((k + 1))) (out_sr m f k) = (Tree.branch (decide ((↑m : Int) - (1 : Int) - (↑k : Int) > (0 : Int))) (Tree.need [(0 : Int) ≤ (↑m : Int) - (1 : Int) - (↑k : Int) ∧ (↑m : Int) - (1 : Int) - (↑k : Int) < (↑m : Int)] (Tree.need [inI64 ((↑m : Int) - (1 : Int) - (↑k : Int) - (1 : Int))] (Tree.need [(0 : Int) ≤ (↑m : Int) - (1 : Int) - (↑k : Int) - (1 : Int) ∧ (↑m : Int) - (1 : Int) - (↑k : Int) - (1 : Int) < (↑m : Int)] (Tree.branch (decide (f (Int.toNat ((↑m : Int) - (1 : Int) - (↑k : Int))) < f (Int.toNat ((↑m : Int) - (1 : Int) - (↑k : Int) - (1 : Int))))) (Tree.need [(AV.lst 1 m fun k => [iI (f k)]) = AV.lst 1 m fun k => [iI (f k)], AV.lit false = AV.lit false] (Tree.leaf AEx.ret)) (Tree.need [inI64 ((↑m : Int) - (1 : Int) - (↑k : Int) - (1 : Int))] (Tree.need [(AV.lst 1 m fun k => [iI (f k)]) = AV.lst 1 m fun k => [iI (f k)], (↑m : Int) - (1 : Int) - (↑k : Int) - (1 : Int) = (↑m : Int) - (1 : Int) - (↑(k + 1) : Int)] (Tree.leaf AEx.normal))))))) (Tree.need [(AV.lst 1 m fun k => [iI (f k)]) = AV.lst 1 m fun k => [iI (f k)]] (Tree.leaf (AEx.exit 0)))) := by kernel_rfl
    rw [e]
    simp only [T_sr, out_sr, Tree.sat, Option.getD_some] at hQ
    obtain ⟨x1, x2⟩ := hx
    have e1 : ((m : Int) - 1 - k).toNat = m - 1 - k := by omega
    have e2 : ((m : Int) - 1 - k - 1).toNat = m - 1 - k - 1 := by omega
    have hbad : k < m - 1 → f (m - 1 - k) < f (m - 1 - k - 1) → srtB m f = false := by
      intro h1 h2
      rw [← Bool.not_eq_true]
      intro h3
      have := allI_iff.1 h3 (m - 1 - k - 1) (by omega)
      rw [show m - 1 - k - 1 + 1 = m - 1 - k by omega] at this
      simp at this
      omega
    have hend : ¬ k < m - 1 → srtB m f = true := fun h => allI_iff.2 fun j hj => by
      have := x2 j (by omega) hj
      simp
      omega
    have hgood : k < m - 1 → ¬ f (m - 1 - k) < f (m - 1 - k - 1) → ∀ j, m - 1 - (k + 1) ≤ j → j < m - 1 → ¬ f (j + 1) < f j := by
      intro h1 h2 j h3 h4
      rcases (show j = m - 1 - k - 1 ∨ m - 1 - k ≤ j by omega) with rfl | h
      · rw [show m - 1 - k - 1 + 1 = m - 1 - k by omega]; exact h2
      · exact x2 j h h4
    simp only [Tree.sat, allP, fitP, fitL, valEq, inI64, true_and, and_true, decide_eq_true_eq, decide_eq_false_iff_not, Int.toNat_natCast, e1, e2, gt_iff_lt]
    clear e
    refine ⟨fun h => ⟨by omega, by omega, by omega, fun h2 => ?_, fun h2 => ?_⟩, fun h => ?_⟩
    · intro E hE
      cases hE
      exact hQ.2 (hbad (by omega) h2)
    · exact ⟨by omega, by omega, ⟨by omega, hgood (by omega) h2⟩, by omega⟩
    · intro E hE
      cases hE
      exact hQ.1 (hend (by omega))

set_option maxRecDepth 100000 in
theorem srt_at (m : Nat) (f : Nat → Int) (pre0 : m ≤ 100000) : SoundAt Try.prog 86 [.lst 1 m (fun k => [i (f k)])] (bl (srtB m f)) := by
  refine soundAt_fin (G := [(105, S_cless)]) (L := [LS_sr m f]) (SoundG.cons cless_ok (SoundG.nil _)) mixed Try.func86 (show Try.f86.body = some (bodyOf Try.f86) by kernel_rfl) (one_loop (fun cj hcj => by
    have e : loopAt (bodyOf Try.f86) 0 = some (.loop B_sr) := by kernel_rfl
    rw [e] at hcj; cases hcj
    exact sr_ls m f pre0)) (t := (Tree.need [inI64 ((↑m : Int) - (1 : Int))] (Tree.need [(AV.lst 1 m fun k => [iI (f k)]) = AV.lst 1 m fun k => [iI (f k)], (↑m : Int) - (1 : Int) = (↑m : Int) - (1 : Int) - (↑(0 : Nat) : Int)] (Tree.branch (srtB m f) (Tree.leaf (RV.x (Value.bool true))) (Tree.leaf (RV.x (Value.bool false))))))) (by kernel_rfl) ?_
  simp only [Tree.sat, allP, fitP, fitL, valEq, inI64, true_and, and_true]
  refine ⟨by omega, by omega, fun h => ?_, fun h => ?_⟩
  · rw [h]
  · rw [h]

def S_srt : Sx.Spec := fun l => match l with
  | [.lst 1 m f] => some ([isRec 1 m f, m ≤ 100000], bl (srtB m (col 0 f)))
  | _ => none

theorem srt_ok : SoundSpec Try.prog 86 S_srt := by
  refine ⟨⟨_, Try.func86, by kernel_rfl, by kernel_rfl⟩, ?_⟩
  intro avs ns res h hn
  unfold S_srt at h
  split at h
  · rename_i m f
    cases h
    have hr0 : isRec 1 m f := hn _ (by simp)
    exact (srt_at m (col 0 f) (hn _ (by simp))).same (.cons (.lst 1 m _ _ hr0) .nil)
  · cases h

def CofS (s : Sx.Spec) : CSpec := fun l => match s l with
  | some (ns, r) => some (.needT ns (.leaf r))
  | none => none
def pkP (c T lo hi : Int) (a b u v : Nat → Int) (m : Nat) (g : Nat → Int) (k : Nat) : Bool := !clB c T lo hi (m - 1) a b u v (butF k g)


theorem cofS_ok {P : Program} {f : FuncId} {s : Sx.Spec} (h : SoundR P f s) : Sx.Enters P f ∧ ∀ avs t, CofS s avs = some t → SoundCAt P f avs t := by
  refine ⟨h.1, fun avs t ht Q hQ e w args hro hidf hrep => ?_⟩
  unfold CofS at ht
  split at ht
  · rename_i ns r hs
    cases ht
    obtain ⟨h1, h2⟩ := Tree.sat_needT hQ
    refine (h.2 _ _ _ hs (allP_mem h1) e w args hro hidf hrep).mono ?_
    rintro en w' ⟨v, h3, h4, h5⟩
    exact ⟨v, r, h3, h2, h4, h5⟩
  · cases ht

noncomputable def E_pk (c T lo hi : Int) (n : Nat) (a b u v : Nat → Int) (m : Nat) (g : Nat → Int) : St := (some
  {
    σ :=
      [AV.agg
          [AV.x (Value.int IntKind.i64 c), AV.x (Value.int IntKind.i64 T), AV.x (Value.int IntKind.i64 lo),
            AV.x (Value.int IntKind.i64 hi)],
        AV.lst (4 : Nat) n fun k =>
          [AV.x (Value.int IntKind.i64 (a k)), AV.x (Value.int IntKind.i64 (b k)), AV.x (Value.int IntKind.i64 (u k)),
            AV.x (Value.int IntKind.i64 (v k))],
        AV.lst (1 : Nat) m fun j => [AV.x (Value.int IntKind.i64 (g j))], AV.ptr (0 : Nat) (0 : Nat),
        AV.ptr (1 : Nat) (0 : Nat), AV.top, AV.top, AV.top, AV.top, AV.top, AV.top, AV.top, AV.top, AV.top, AV.top,
        AV.top, AV.top, AV.top, AV.top, AV.top, AV.top, AV.top, AV.top, AV.top, AV.top, AV.top, AV.top, AV.top, AV.top,
        AV.top, AV.top, AV.x (Value.int IntKind.i64 (↑m : Int)), AV.top, AV.top, AV.top, AV.top, AV.top, AV.top, AV.top,
        AV.top, AV.top, AV.top],
    m :=
      [((1 : Nat),
          Res.cells (36 : Nat)
            [AV.lst (4 : Nat) n fun k =>
                [AV.x (Value.int IntKind.i64 (a k)), AV.x (Value.int IntKind.i64 (b k)),
                  AV.x (Value.int IntKind.i64 (u k)), AV.x (Value.int IntKind.i64 (v k))]]),
        ((0 : Nat),
          Res.cells (34 : Nat)
            [AV.x (Value.int IntKind.i64 c), AV.x (Value.int IntKind.i64 T), AV.x (Value.int IntKind.i64 lo),
              AV.x (Value.int IntKind.i64 hi)])],
    nx := (28 : Nat) } : Option St).getD { σ := [], m := [], nx := 0 }
noncomputable def B_pk : Code := loopBody (loopAt (bodyOf Try.f50) 0)
noncomputable def inv_pk (c T lo hi : Int) (n : Nat) (a b u v : Nat → Int) (m : Nat) (g : Nat → Int) (k : Nat) : St := { σ := ovrS [(32, i k)] (E_pk c T lo hi n a b u v m g).σ, m := [(1, .cells 36 [rds n a b u v]), (0, .cells 34 [i c, i T, i lo, i hi])], nx := (E_pk c T lo hi n a b u v m g).nx }
noncomputable def out_pk (c T lo hi : Int) (n : Nat) (a b u v : Nat → Int) (m : Nat) (g : Nat → Int) (k : Nat) : AEx → Option St := fun ex => match ex with
  | .exit 0 => some { σ := ovrS [] (E_pk c T lo hi n a b u v m g).σ, m := [(1, .cells 36 [rds n a b u v]), (0, .cells 34 [i c, i T, i lo, i hi])], nx := (E_pk c T lo hi n a b u v m g).nx }
  | .ret => some { σ := ovrS [(6, .lit false)] (E_pk c T lo hi n a b u v m g).σ, m := [(1, .cells 36 [rds n a b u v]), (0, .cells 34 [i c, i T, i lo, i hi])], nx := (E_pk c T lo hi n a b u v m g).nx }
  | _ => none
noncomputable def T_pk (c T lo hi : Int) (n : Nat) (a b u v : Nat → Int) (m : Nat) (g : Nat → Int) : CT := .branch (allI (pkP c T lo hi a b u v m g) m) (.leaf (.exit 0, ( out_pk c T lo hi n a b u v m g 0 (.exit 0)).getD (E_pk c T lo hi n a b u v m g))) (.leaf (.ret, ( out_pk c T lo hi n a b u v m g 0 .ret).getD (E_pk c T lo hi n a b u v m g)))
noncomputable def LS_pk (c T lo hi : Int) (n : Nat) (a b u v : Nat → Int) (m : Nat) (g : Nat → Int) : LSpec := normSp [] (sumL (inv_pk c T lo hi n a b u v m g (0)) (T_pk c T lo hi n a b u v m g))
set_option maxRecDepth 100000 in
theorem pk_ls (c T lo hi : Int) (n : Nat) (a b u v : Nat → Int) (m : Nat) (g : Nat → Int) (pre0 : flt c T lo hi n a b u v = 0) (pre1 : m ≤ 1000) (pre2 : inR n m g) : LSound Try.prog (.loop B_pk) (LS_pk c T lo hi n a b u v m g) := by
  refine loop_roundsX [] (E := { R := [], H := [], C := [(85, (CofS S_but))] }) (G := [(80, S_check), (86, S_srt), (81, S_alliK), (84, S_clash)]) (L := []) (SoundG.cons check_ok (SoundG.cons srt_ok (SoundG.cons alliK_ok (SoundG.cons clash_ok (SoundG.nil _))))) (SoundX.ofC (SoundRL.nil _) (SoundHL.nil _) (SoundCL.cons (cofS_ok but_okR) (SoundCL.nil _))) mixed noLoops (X := Nat) (inv_pk c T lo hi n a b u v m g) (fun k => k ≤ m ∧ ∀ j, j < k → pkP c T lo hi a b u v m g j = true) (fun k => m - k) (out_pk c T lo hi n a b u v m g) (x0 := 0) ⟨by omega, fun j h1 => by omega⟩ ?_ ?_ ?_
  · rintro k
    kernel_rfl
  · rintro k y E h
    unfold out_pk at h
    split at h
    · cases h; kernel_rfl
    · cases h; kernel_rfl
    · cases h
  · rintro Q hQ k hx
    refine ⟨(k + 1), ?_⟩
    have e : roundX Try.prog [(80, S_check), (86, S_srt), (81, S_alliK), (84, S_clash)] { R := [], H := [], C := [(85, (CofS S_but))] } [] [] B_pk (inv_pk c T lo hi n a b u v m g k) (inv_pk c T lo hi n a b u v m g ((k + 1))) (out_pk c T lo hi n a b u v m g k) = (Tree.branch (decide ((↑k : Int) < (↑m : Int))) (Tree.need [isRec 1 m fun j => [iI (g j)], m ≤ 100000, (0 : Int) ≤ (↑k : Int) ∧ (↑k : Int) < (↑m : Int)] (Tree.need [isRec 4 n fun k => [i (a k), i (b k), i (u k), i (v k)], isRec 1 (m - 1) fun j => [i (butF k g j)], (1 : Int) ≤ c ∧ c ≤ (10 : Int), (1 : Int) ≤ lo ∧ lo ≤ hi ∧ hi ≤ (200 : Int) ∧ (1 : Int) ≤ T ∧ T ≤ (2000 : Int), m - 1 ≤ 1000, ∀ (j : Nat), j < m - 1 → (0 : Int) ≤ butF k g j ∧ butF k g j < (↑n : Int), allI (fun k_1 => rdB c (selF a (butF k g) k_1) (selF b (butF k g) k_1) (selF u (butF k g) k_1) (selF v (butF k g) k_1)) (m - 1) = true] (Tree.branch (clB c T lo hi (m - 1) a b u v (butF k g)) (Tree.need [AV.agg [iI c, iI T, iI lo, iI hi] = AV.agg [iI c, iI T, iI lo, iI hi], (AV.lst 4 n fun k => [iI (a k), iI (b k), iI (u k), iI (v k)]) = AV.lst 4 n fun k => [iI (a k), iI (b k), iI (u k), iI (v k)], (AV.lst 1 m fun j => [iI (g j)]) = AV.lst 1 m fun j => [iI (g j)], AV.ptr 0 0 = AV.ptr 0 0, AV.ptr 1 0 = AV.ptr 1 0, AV.lit false = AV.lit false, (↑m : Int) = (↑m : Int), (AV.lst 4 n fun k => [iI (a k), iI (b k), iI (u k), iI (v k)]) = AV.lst 4 n fun k => [iI (a k), iI (b k), iI (u k), iI (v k)], c = c, T = T, lo = lo, hi = hi] (Tree.leaf AEx.ret)) (Tree.need [inI64 ((↑k : Int) + (1 : Int))] (Tree.need [AV.agg [iI c, iI T, iI lo, iI hi] = AV.agg [iI c, iI T, iI lo, iI hi], (AV.lst 4 n fun k => [iI (a k), iI (b k), iI (u k), iI (v k)]) = AV.lst 4 n fun k => [iI (a k), iI (b k), iI (u k), iI (v k)], (AV.lst 1 m fun j => [iI (g j)]) = AV.lst 1 m fun j => [iI (g j)], AV.ptr 0 0 = AV.ptr 0 0, AV.ptr 1 0 = AV.ptr 1 0, (↑m : Int) = (↑m : Int), (↑k : Int) + (1 : Int) = (↑(k + 1) : Int), (AV.lst 4 n fun k => [iI (a k), iI (b k), iI (u k), iI (v k)]) = AV.lst 4 n fun k => [iI (a k), iI (b k), iI (u k), iI (v k)], c = c, T = T, lo = lo, hi = hi] (Tree.leaf AEx.normal)))))) (Tree.need [AV.agg [iI c, iI T, iI lo, iI hi] = AV.agg [iI c, iI T, iI lo, iI hi], (AV.lst 4 n fun k => [iI (a k), iI (b k), iI (u k), iI (v k)]) = AV.lst 4 n fun k => [iI (a k), iI (b k), iI (u k), iI (v k)], (AV.lst 1 m fun j => [iI (g j)]) = AV.lst 1 m fun j => [iI (g j)], AV.ptr 0 0 = AV.ptr 0 0, AV.ptr 1 0 = AV.ptr 1 0, (↑m : Int) = (↑m : Int), (AV.lst 4 n fun k => [iI (a k), iI (b k), iI (u k), iI (v k)]) = AV.lst 4 n fun k => [iI (a k), iI (b k), iI (u k), iI (v k)], c = c, T = T, lo = lo, hi = hi] (Tree.leaf (AEx.exit 0)))) := by kernel_rfl
    rw [e]
    simp only [T_pk, out_pk, Tree.sat, Option.getD_some] at hQ
    obtain ⟨x1, x2⟩ := hx
    have hf := flt_iff.1 pre0
    have hb := tube_bd hf.1
    have hP : pkP c T lo hi a b u v m g k = !clB c T lo hi (m - 1) a b u v (butF k g) := rfl
    have hgood : pkP c T lo hi a b u v m g k = true → ∀ j, j < k + 1 → pkP c T lo hi a b u v m g j = true := by
      intro h2 j hj
      rcases (show j = k ∨ j < k by omega) with rfl | h
      · exact h2
      · exact x2 j h
    have hend : ¬ k < m → allI (pkP c T lo hi a b u v m g) m = true := fun h => allI_iff.2 fun j hj => x2 j (by omega)
    have hbad : k < m → pkP c T lo hi a b u v m g k = false → allI (pkP c T lo hi a b u v m g) m = false := by
      intro h1 h2
      rw [← Bool.not_eq_true]
      intro h3
      have := allI_iff.1 h3 k h1
      rw [h2] at this
      cases this
    simp only [Tree.sat, allP, fitP, fitL, valEq, inI64, true_and, and_true, decide_eq_true_eq, decide_eq_false_iff_not, Int.toNat_natCast]
    clear e
    refine ⟨fun h => ?_, fun h => ?_⟩
    · have hk : k < m := by omega
      refine ⟨⟨isRec1 _ _, by omega, by omega, by omega⟩, ⟨isRec4 n a b u v, isRec1 _ _, hb.1, hb.2.1, by omega, but_inR pre2 hk, sel_rd hf.2.2 (but_inR pre2 hk)⟩, fun h2 => ?_, fun h2 => ?_⟩
      · intro E hE
        cases hE
        exact hQ.2 (hbad hk (by rw [hP, h2]; rfl))
      · have hg := hgood (by rw [hP, h2]; rfl)
        (repeat' first | with_reducible apply And.intro | with_reducible intro _)
        all_goals first | exact True.intro | omega | with_reducible rfl | exact hg _ (by assumption) | rfl
    · intro E hE
      cases hE
      exact hQ.1 (hend (by omega))

set_option maxRecDepth 100000 in
theorem ProveKnot_at (c T lo hi : Int) (n : Nat) (a b u v : Nat → Int) (m : Nat) (g : Nat → Int) (pre0 : m ≤ 1000) : SoundAt Try.prog 50 [.agg [i c, i T, i lo, i hi], rds n a b u v, .lst 1 m (fun j => [i (g j)])] (bl (pkB c T lo hi n a b u v m g)) := by
  refine soundAt_finX (G := [(80, S_check), (86, S_srt), (81, S_alliK), (84, S_clash)]) (X := { R := [], H := [], C := [(85, (CofS S_but))] }) (L := [needSp [flt c T lo hi n a b u v = 0, inR n m g] (LS_pk c T lo hi n a b u v m g)]) (SoundG.cons check_ok (SoundG.cons srt_ok (SoundG.cons alliK_ok (SoundG.cons clash_ok (SoundG.nil _))))) (SoundX.ofC (SoundRL.nil _) (SoundHL.nil _) (SoundCL.cons (cofS_ok but_okR) (SoundCL.nil _))) mixed Try.func50 (show Try.f50.body = some (bodyOf Try.f50) by kernel_rfl) (one_loop (fun cj hcj => by
    have e : loopAt (bodyOf Try.f50) 0 = some (.loop B_pk) := by kernel_rfl
    rw [e] at hcj; cases hcj
    exact (needSp_sound (ps := [flt c T lo hi n a b u v = 0, inR n m g]) (fun h => pk_ls c T lo hi n a b u v m g h.1 pre0 h.2)).N)) (t := (Tree.need [isRec 4 n fun k => [i (a k), i (b k), i (u k), i (v k)]] (Tree.branch (flt c T lo hi n a b u v != (0 : Int)) (Tree.leaf (RV.x (Value.bool false))) (Tree.need [isRec 1 m fun j => [i (g j)], m ≤ 100000] (Tree.branch (!srtB m g) (Tree.leaf (RV.x (Value.bool false))) (Tree.need [isRec 1 m fun j => [i (g j)], m ≤ 100000, n ≤ 100000] (Tree.branch (!allI (fun k => bt (0 : Int) (g k) ((↑n : Int) - (1 : Int))) m) (Tree.leaf (RV.x (Value.bool false))) (Tree.need [isRec 4 n fun k => [i (a k), i (b k), i (u k), i (v k)], isRec 1 m fun j => [i (g j)], (1 : Int) ≤ c ∧ c ≤ (10 : Int), (1 : Int) ≤ lo ∧ lo ≤ hi ∧ hi ≤ (200 : Int) ∧ (1 : Int) ≤ T ∧ T ≤ (2000 : Int), m ≤ 1000, ∀ (j : Nat), j < m → (0 : Int) ≤ g j ∧ g j < (↑n : Int), allI (fun k => rdB c (selF a g k) (selF b g k) (selF u g k) (selF v g k)) m = true] (Tree.branch (!clB c T lo hi m a b u v g) (Tree.leaf (RV.x (Value.bool false))) (Tree.need [flt c T lo hi n a b u v = (0 : Int), inR n m g] (Tree.need [AV.agg [iI c, iI T, iI lo, iI hi] = AV.agg [iI c, iI T, iI lo, iI hi], (AV.lst 4 n fun k => [iI (a k), iI (b k), iI (u k), iI (v k)]) = AV.lst 4 n fun k => [iI (a k), iI (b k), iI (u k), iI (v k)], (AV.lst 1 m fun j => [iI (g j)]) = AV.lst 1 m fun j => [iI (g j)], AV.ptr 0 0 = AV.ptr 0 0, AV.ptr 1 0 = AV.ptr 1 0, (↑m : Int) = (↑m : Int), (0 : Int) = (↑(0 : Nat) : Int), (AV.lst 4 n fun k => [iI (a k), iI (b k), iI (u k), iI (v k)]) = AV.lst 4 n fun k => [iI (a k), iI (b k), iI (u k), iI (v k)], c = c, T = T, lo = lo, hi = hi] (Tree.branch (allI (pkP c T lo hi a b u v m g) m) (Tree.leaf (RV.x (Value.bool true))) (Tree.leaf (RV.x (Value.bool false))))))))))))))) (by kernel_rfl) ?_
  simp only [Tree.sat, allP, fitP, fitL, valEq, inI64, true_and, and_true, decide_eq_true_eq, decide_eq_false_iff_not, Int.toNat_natCast, bne_iff_ne, ne_eq, bne_eq_false_iff_eq, Bool.not_eq_true', Bool.not_eq_false']
  refine ⟨isRec4 n a b u v, fun h1 => ?_, fun h1 => ⟨⟨isRec1 _ _, by omega⟩, fun h2 => ?_, fun h2 => ⟨⟨isRec1 _ _, by omega, by have := (flt_iff.1 h1).2.1; omega⟩, fun h3 => ?_, fun h3 => ?_⟩⟩⟩
  · simp [pkB, h1]
  · simp [pkB, h2]
  · unfold pkB
    rw [h3]
    simp
  · have hf := flt_iff.1 h1
    have hb := tube_bd hf.1
    have hin : inR n m g := in_iff.1 h3
    refine ⟨⟨isRec4 n a b u v, isRec1 _ _, hb.1, hb.2.1, pre0, hin, sel_rd hf.2.2 hin⟩, fun h4 => ?_, fun h4 => ⟨⟨h1, hin⟩, rfl, fun h5 => ?_, fun h5 => ?_⟩⟩
    · simp [pkB, h4]
    · have h5 : allI (fun k => !clB c T lo hi (m - 1) a b u v (butF k g)) m = true := h5
      unfold pkB
      rw [decide_eq_true h1, h2, h3, h4, h5]
      rfl
    · have h5 : allI (fun k => !clB c T lo hi (m - 1) a b u v (butF k g)) m = false := h5
      unfold pkB
      rw [h5, Bool.and_false]

def S_ProveKnot : Sx.Spec := fun l => match l with
  | [.agg [.x (.int .i64 c), .x (.int .i64 T), .x (.int .i64 lo), .x (.int .i64 hi)], .lst 4 n f, .lst 1 m g] => some ([isRec 4 n f, isRec 1 m g, m ≤ 1000], bl (pkB c T lo hi n (col 0 f) (col 1 f) (col 2 f) (col 3 f) m (col 0 g)))
  | _ => none

theorem ProveKnot_ok : SoundSpec Try.prog 50 S_ProveKnot := by
  refine ⟨⟨_, Try.func50, by kernel_rfl, by kernel_rfl⟩, ?_⟩
  intro avs ns res h hn
  unfold S_ProveKnot at h
  split at h
  · rename_i c T lo hi n f m g
    cases h
    have hr0 : isRec 4 n f := hn _ (by simp)
    have hr1 : isRec 1 m g := hn _ (by simp)
    exact (ProveKnot_at c T lo hi n (col 0 f) (col 1 f) (col 2 f) (col 3 f) m (col 0 g) (hn _ (by simp))).same (.cons (.refl _) (.cons (.lst 4 n _ _ hr0) (.cons (.lst 1 m _ _ hr1) .nil)))
  · cases h


end Go.Proofs.Ytmdeoobmeokmeaa
/- Contracts of functions of the program, by the engine Sx: what each call comes to. Printed by a program of this repo (sxgen.py). -/
set_option linter.unusedSimpArgs false
set_option linter.unusedVariables false
namespace Go.Proofs.Ytmdeoobmeokmeaa
open Go Go.Sx Go.RowKit

def S_Blame : Sx.Spec := fun l => match l with
  | [.agg [.x (.int .i64 c), .x (.int .i64 T), .x (.int .i64 lo), .x (.int .i64 hi)], .lst 4 n f] => some ([isRec 4 n f], .tup [.lst 1 (blL c T lo hi n (col 0 f) (col 1 f) (col 2 f) (col 3 f)).length (fun j => [i (nthJ (blL c T lo hi n (col 0 f) (col 1 f) (col 2 f) (col 3 f)) j)]), i (flt c T lo hi n (col 0 f) (col 1 f) (col 2 f) (col 3 f))])
  | _ => none

theorem Blame_ok : SoundSpec Try.prog 54 S_Blame := by
  refine ⟨⟨_, Try.func54, by kernel_rfl, by kernel_rfl⟩, ?_⟩
  intro avs ns res h hn
  unfold S_Blame at h
  split at h
  · rename_i c T lo hi n f
    cases h
    have hr0 : isRec 4 n f := hn _ (by simp)
    exact (Blame_at c T lo hi n (col 0 f) (col 1 f) (col 2 f) (col 3 f)).same (.cons (.refl _) (.cons (.lst 4 n _ _ hr0) .nil))
  · cases h

end Go.Proofs.Ytmdeoobmeokmeaa
/- Contracts of functions of the program, by the engine Sx: what each call comes to. Printed by a program of this repo (sxgen.py). -/
set_option linter.unusedSimpArgs false
set_option linter.unusedVariables false
namespace Go.Proofs.Ytmdeoobmeokmeaa
open Go Go.Sx Go.RowKit

end Go.Proofs.Ytmdeoobmeokmeaa
/- Contracts of functions of the program, by the engine Sx: what each call comes to. Printed by a program of this repo (sxgen.py). -/
set_option linter.unusedSimpArgs false
set_option linter.unusedVariables false
namespace Go.Proofs.Ytmdeoobmeokmeaa
open Go Go.Sx Go.RowKit

end Go.Proofs.Ytmdeoobmeokmeaa
/- Contracts of functions of the program, by the engine Sx: what each call comes to. Printed by a program of this repo (sxgen.py). -/
set_option linter.unusedSimpArgs false
set_option linter.unusedVariables false
namespace Go.Proofs.Ytmdeoobmeokmeaa
open Go Go.Sx Go.RowKit
def S_ProveTruthZ : Sx.Spec := fun l => match l with
  | [.agg [.x (.int .i64 c), .x (.int .i64 T), .x (.int .i64 lo), .x (.int .i64 hi)], .lst 4 n f, .lst 1 m g] => some ([isRec 4 n f, isRec 1 m g, m ≤ 100000], bl (ptB c T lo hi n (col 0 f) (col 1 f) (col 2 f) (col 3 f) m (col 0 g)))
  | [.agg [.x (.int .i64 c), .x (.int .i64 T), .x (.int .i64 lo), .x (.int .i64 hi)], .x (.slice none 0 0), .lst 1 m g] => some ([isRec 1 m g, m ≤ 100000], bl (ptB c T lo hi 0 (fun _ => 0) (fun _ => 0) (fun _ => 0) (fun _ => 0) m (col 0 g)))
  | _ => none

theorem ProveTruthZ_ok : SoundSpec Try.prog 45 S_ProveTruthZ := by
  refine ⟨⟨_, Try.func45, by kernel_rfl, by kernel_rfl⟩, ?_⟩
  intro avs ns res h hn
  unfold S_ProveTruthZ at h
  split at h
  · rename_i c T lo hi n f m g
    cases h
    have hr0 : isRec 4 n f := hn _ (by simp)
    have hr1 : isRec 1 m g := hn _ (by simp)
    exact (ProveTruth_at c T lo hi n (col 0 f) (col 1 f) (col 2 f) (col 3 f) m (col 0 g) (hn _ (by simp))).same (.cons (.refl _) (.cons (.lst 4 n _ _ hr0) (.cons (.lst 1 m _ _ hr1) .nil)))
  · rename_i c T lo hi m g
    cases h
    have hr0 : isRec 1 m g := hn _ (by simp)
    exact (ProveTruth_at c T lo hi 0 (fun _ => 0) (fun _ => 0) (fun _ => 0) (fun _ => 0) m (col 0 g) (hn _ (by simp))).same (.cons (.refl _) (.cons (.nil 4 _) (.cons (.lst 1 m _ _ hr0) .nil)))
  · cases h

set_option maxRecDepth 100000 in
theorem BoreNames_at  : SoundAt Try.prog 18 [] (bl true) := by
  refine soundAt_finX (G := [(62, S_glass), (61, S_threads), (32, S_between), (54, S_Blame), (55, S_ints), (36, S_Doubt), (41, S_Shows), (45, S_ProveTruthZ), (50, S_ProveKnot), (29, S_Heights), (21, S_Next), (44, S_CheckTube), (20, S_wakes)]) (X := { R := [(49, S_Knot)], H := [] }) (L := []) (SoundG.cons glass_ok (SoundG.cons threads_ok (SoundG.cons between_ok (SoundG.cons Blame_ok (SoundG.cons ints_ok (SoundG.cons Doubt_ok (SoundG.cons Shows_ok (SoundG.cons ProveTruthZ_ok (SoundG.cons ProveKnot_ok (SoundG.cons Heights_ok (SoundG.cons Next_ok (SoundG.cons CheckTube_ok (SoundG.cons wakes_ok (SoundG.nil _)))))))))))))) (SoundX.of (SoundRL.cons Knot_okR (SoundRL.nil _)) (SoundHL.nil _)) mixed Try.func18 (show Try.f18.body = some (bodyOf Try.f18) by kernel_rfl) noLoopsS (t := (Tree.need [isRec 4 1 (chunk 4 [iI (0 : Int), iI (2 : Int), iI (40 : Int), iI (40 : Int)])] (Tree.need [isRec 4 3 (chunk 4 [iI (0 : Int), iI (1 : Int), iI (40 : Int), iI (40 : Int), iI (2 : Int), iI (3 : Int), iI (48 : Int), iI (50 : Int), iI (col 0 (chunk 4 [iI (0 : Int), iI (2 : Int), iI (40 : Int), iI (40 : Int)]) 0), iI (col 1 (chunk 4 [iI (0 : Int), iI (2 : Int), iI (40 : Int), iI (40 : Int)]) 0), iI (col 2 (chunk 4 [iI (0 : Int), iI (2 : Int), iI (40 : Int), iI (40 : Int)]) 0), iI (col 3 (chunk 4 [iI (0 : Int), iI (2 : Int), iI (40 : Int), iI (40 : Int)]) 0)])] (Tree.need [isRec 4 2 (chunk 4 [iI (0 : Int), iI (1 : Int), iI (40 : Int), iI (40 : Int), iI (2 : Int), iI (3 : Int), iI (48 : Int), iI (50 : Int)])] (Tree.need [isRec 4 2 (chunk 4 [iI (0 : Int), iI (1 : Int), iI (40 : Int), iI (40 : Int), iI (2 : Int), iI (3 : Int), iI (48 : Int), iI (50 : Int)])] (Tree.need [isRec 4 2 (chunk 4 [iI (0 : Int), iI (1 : Int), iI (40 : Int), iI (40 : Int), iI (2 : Int), iI (3 : Int), iI (48 : Int), iI (50 : Int)])] (Tree.branch (flt (4 : Int) (100 : Int) (20 : Int) (30 : Int) 3 (col 0 (chunk 4 [iI (0 : Int), iI (1 : Int), iI (40 : Int), iI (40 : Int), iI (2 : Int), iI (3 : Int), iI (48 : Int), iI (50 : Int), iI (col 0 (chunk 4 [iI (0 : Int), iI (2 : Int), iI (40 : Int), iI (40 : Int)]) 0), iI (col 1 (chunk 4 [iI (0 : Int), iI (2 : Int), iI (40 : Int), iI (40 : Int)]) 0), iI (col 2 (chunk 4 [iI (0 : Int), iI (2 : Int), iI (40 : Int), iI (40 : Int)]) 0), iI (col 3 (chunk 4 [iI (0 : Int), iI (2 : Int), iI (40 : Int), iI (40 : Int)]) 0)])) (col 1 (chunk 4 [iI (0 : Int), iI (1 : Int), iI (40 : Int), iI (40 : Int), iI (2 : Int), iI (3 : Int), iI (48 : Int), iI (50 : Int), iI (col 0 (chunk 4 [iI (0 : Int), iI (2 : Int), iI (40 : Int), iI (40 : Int)]) 0), iI (col 1 (chunk 4 [iI (0 : Int), iI (2 : Int), iI (40 : Int), iI (40 : Int)]) 0), iI (col 2 (chunk 4 [iI (0 : Int), iI (2 : Int), iI (40 : Int), iI (40 : Int)]) 0), iI (col 3 (chunk 4 [iI (0 : Int), iI (2 : Int), iI (40 : Int), iI (40 : Int)]) 0)])) (col 2 (chunk 4 [iI (0 : Int), iI (1 : Int), iI (40 : Int), iI (40 : Int), iI (2 : Int), iI (3 : Int), iI (48 : Int), iI (50 : Int), iI (col 0 (chunk 4 [iI (0 : Int), iI (2 : Int), iI (40 : Int), iI (40 : Int)]) 0), iI (col 1 (chunk 4 [iI (0 : Int), iI (2 : Int), iI (40 : Int), iI (40 : Int)]) 0), iI (col 2 (chunk 4 [iI (0 : Int), iI (2 : Int), iI (40 : Int), iI (40 : Int)]) 0), iI (col 3 (chunk 4 [iI (0 : Int), iI (2 : Int), iI (40 : Int), iI (40 : Int)]) 0)])) (col 3 (chunk 4 [iI (0 : Int), iI (1 : Int), iI (40 : Int), iI (40 : Int), iI (2 : Int), iI (3 : Int), iI (48 : Int), iI (50 : Int), iI (col 0 (chunk 4 [iI (0 : Int), iI (2 : Int), iI (40 : Int), iI (40 : Int)]) 0), iI (col 1 (chunk 4 [iI (0 : Int), iI (2 : Int), iI (40 : Int), iI (40 : Int)]) 0), iI (col 2 (chunk 4 [iI (0 : Int), iI (2 : Int), iI (40 : Int), iI (40 : Int)]) 0), iI (col 3 (chunk 4 [iI (0 : Int), iI (2 : Int), iI (40 : Int), iI (40 : Int)]) 0)])) != (0 : Int)) (Tree.leaf (RV.x (Value.bool false))) (Tree.need [isRec 1 1 fun j => [i (nthJ (blL (4 : Int) (100 : Int) (20 : Int) (30 : Int) 3 (col 0 (chunk 4 [iI (0 : Int), iI (1 : Int), iI (40 : Int), iI (40 : Int), iI (2 : Int), iI (3 : Int), iI (48 : Int), iI (50 : Int), iI (col 0 (chunk 4 [iI (0 : Int), iI (2 : Int), iI (40 : Int), iI (40 : Int)]) 0), iI (col 1 (chunk 4 [iI (0 : Int), iI (2 : Int), iI (40 : Int), iI (40 : Int)]) 0), iI (col 2 (chunk 4 [iI (0 : Int), iI (2 : Int), iI (40 : Int), iI (40 : Int)]) 0), iI (col 3 (chunk 4 [iI (0 : Int), iI (2 : Int), iI (40 : Int), iI (40 : Int)]) 0)])) (col 1 (chunk 4 [iI (0 : Int), iI (1 : Int), iI (40 : Int), iI (40 : Int), iI (2 : Int), iI (3 : Int), iI (48 : Int), iI (50 : Int), iI (col 0 (chunk 4 [iI (0 : Int), iI (2 : Int), iI (40 : Int), iI (40 : Int)]) 0), iI (col 1 (chunk 4 [iI (0 : Int), iI (2 : Int), iI (40 : Int), iI (40 : Int)]) 0), iI (col 2 (chunk 4 [iI (0 : Int), iI (2 : Int), iI (40 : Int), iI (40 : Int)]) 0), iI (col 3 (chunk 4 [iI (0 : Int), iI (2 : Int), iI (40 : Int), iI (40 : Int)]) 0)])) (col 2 (chunk 4 [iI (0 : Int), iI (1 : Int), iI (40 : Int), iI (40 : Int), iI (2 : Int), iI (3 : Int), iI (48 : Int), iI (50 : Int), iI (col 0 (chunk 4 [iI (0 : Int), iI (2 : Int), iI (40 : Int), iI (40 : Int)]) 0), iI (col 1 (chunk 4 [iI (0 : Int), iI (2 : Int), iI (40 : Int), iI (40 : Int)]) 0), iI (col 2 (chunk 4 [iI (0 : Int), iI (2 : Int), iI (40 : Int), iI (40 : Int)]) 0), iI (col 3 (chunk 4 [iI (0 : Int), iI (2 : Int), iI (40 : Int), iI (40 : Int)]) 0)])) (col 3 (chunk 4 [iI (0 : Int), iI (1 : Int), iI (40 : Int), iI (40 : Int), iI (2 : Int), iI (3 : Int), iI (48 : Int), iI (50 : Int), iI (col 0 (chunk 4 [iI (0 : Int), iI (2 : Int), iI (40 : Int), iI (40 : Int)]) 0), iI (col 1 (chunk 4 [iI (0 : Int), iI (2 : Int), iI (40 : Int), iI (40 : Int)]) 0), iI (col 2 (chunk 4 [iI (0 : Int), iI (2 : Int), iI (40 : Int), iI (40 : Int)]) 0), iI (col 3 (chunk 4 [iI (0 : Int), iI (2 : Int), iI (40 : Int), iI (40 : Int)]) 0)]))) j)], isRec 1 1 (chunk 1 [iI (0 : Int)]), 1 ≤ 100000] (Tree.branch (!(decide (1 = 1) && (true && nthJ (blL (4 : Int) (100 : Int) (20 : Int) (30 : Int) 3 (col 0 (chunk 4 [iI (0 : Int), iI (1 : Int), iI (40 : Int), iI (40 : Int), iI (2 : Int), iI (3 : Int), iI (48 : Int), iI (50 : Int), iI (col 0 (chunk 4 [iI (0 : Int), iI (2 : Int), iI (40 : Int), iI (40 : Int)]) 0), iI (col 1 (chunk 4 [iI (0 : Int), iI (2 : Int), iI (40 : Int), iI (40 : Int)]) 0), iI (col 2 (chunk 4 [iI (0 : Int), iI (2 : Int), iI (40 : Int), iI (40 : Int)]) 0), iI (col 3 (chunk 4 [iI (0 : Int), iI (2 : Int), iI (40 : Int), iI (40 : Int)]) 0)])) (col 1 (chunk 4 [iI (0 : Int), iI (1 : Int), iI (40 : Int), iI (40 : Int), iI (2 : Int), iI (3 : Int), iI (48 : Int), iI (50 : Int), iI (col 0 (chunk 4 [iI (0 : Int), iI (2 : Int), iI (40 : Int), iI (40 : Int)]) 0), iI (col 1 (chunk 4 [iI (0 : Int), iI (2 : Int), iI (40 : Int), iI (40 : Int)]) 0), iI (col 2 (chunk 4 [iI (0 : Int), iI (2 : Int), iI (40 : Int), iI (40 : Int)]) 0), iI (col 3 (chunk 4 [iI (0 : Int), iI (2 : Int), iI (40 : Int), iI (40 : Int)]) 0)])) (col 2 (chunk 4 [iI (0 : Int), iI (1 : Int), iI (40 : Int), iI (40 : Int), iI (2 : Int), iI (3 : Int), iI (48 : Int), iI (50 : Int), iI (col 0 (chunk 4 [iI (0 : Int), iI (2 : Int), iI (40 : Int), iI (40 : Int)]) 0), iI (col 1 (chunk 4 [iI (0 : Int), iI (2 : Int), iI (40 : Int), iI (40 : Int)]) 0), iI (col 2 (chunk 4 [iI (0 : Int), iI (2 : Int), iI (40 : Int), iI (40 : Int)]) 0), iI (col 3 (chunk 4 [iI (0 : Int), iI (2 : Int), iI (40 : Int), iI (40 : Int)]) 0)])) (col 3 (chunk 4 [iI (0 : Int), iI (1 : Int), iI (40 : Int), iI (40 : Int), iI (2 : Int), iI (3 : Int), iI (48 : Int), iI (50 : Int), iI (col 0 (chunk 4 [iI (0 : Int), iI (2 : Int), iI (40 : Int), iI (40 : Int)]) 0), iI (col 1 (chunk 4 [iI (0 : Int), iI (2 : Int), iI (40 : Int), iI (40 : Int)]) 0), iI (col 2 (chunk 4 [iI (0 : Int), iI (2 : Int), iI (40 : Int), iI (40 : Int)]) 0), iI (col 3 (chunk 4 [iI (0 : Int), iI (2 : Int), iI (40 : Int), iI (40 : Int)]) 0)]))) (nat_lit 0) == col 0 (chunk 1 [iI (0 : Int)]) (nat_lit 0)))) (Tree.leaf (RV.x (Value.bool false))) (Tree.branch (flt (4 : Int) (100 : Int) (20 : Int) (30 : Int) 2 (col 0 (chunk 4 [iI (0 : Int), iI (1 : Int), iI (40 : Int), iI (40 : Int), iI (2 : Int), iI (3 : Int), iI (48 : Int), iI (50 : Int)])) (col 1 (chunk 4 [iI (0 : Int), iI (1 : Int), iI (40 : Int), iI (40 : Int), iI (2 : Int), iI (3 : Int), iI (48 : Int), iI (50 : Int)])) (col 2 (chunk 4 [iI (0 : Int), iI (1 : Int), iI (40 : Int), iI (40 : Int), iI (2 : Int), iI (3 : Int), iI (48 : Int), iI (50 : Int)])) (col 3 (chunk 4 [iI (0 : Int), iI (1 : Int), iI (40 : Int), iI (40 : Int), iI (2 : Int), iI (3 : Int), iI (48 : Int), iI (50 : Int)])) != (0 : Int)) (Tree.leaf (RV.x (Value.bool false))) (Tree.branch ((↑(0 : Nat) : Int) != (0 : Int)) (Tree.leaf (RV.x (Value.bool false))) (Tree.branch (eB (4 : Int) (100 : Int) (20 : Int) (30 : Int) 2 (col 0 (chunk 4 [iI (0 : Int), iI (1 : Int), iI (40 : Int), iI (40 : Int), iI (2 : Int), iI (3 : Int), iI (48 : Int), iI (50 : Int)])) (col 1 (chunk 4 [iI (0 : Int), iI (1 : Int), iI (40 : Int), iI (40 : Int), iI (2 : Int), iI (3 : Int), iI (48 : Int), iI (50 : Int)])) (col 2 (chunk 4 [iI (0 : Int), iI (1 : Int), iI (40 : Int), iI (40 : Int), iI (2 : Int), iI (3 : Int), iI (48 : Int), iI (50 : Int)])) (col 3 (chunk 4 [iI (0 : Int), iI (1 : Int), iI (40 : Int), iI (40 : Int), iI (2 : Int), iI (3 : Int), iI (48 : Int), iI (50 : Int)])) != (0 : Int)) (Tree.leaf (RV.x (Value.bool false))) (Tree.branch (dtB (4 : Int) (100 : Int) (20 : Int) (30 : Int) 2 (col 0 (chunk 4 [iI (0 : Int), iI (1 : Int), iI (40 : Int), iI (40 : Int), iI (2 : Int), iI (3 : Int), iI (48 : Int), iI (50 : Int)])) (col 1 (chunk 4 [iI (0 : Int), iI (1 : Int), iI (40 : Int), iI (40 : Int), iI (2 : Int), iI (3 : Int), iI (48 : Int), iI (50 : Int)])) (col 2 (chunk 4 [iI (0 : Int), iI (1 : Int), iI (40 : Int), iI (40 : Int), iI (2 : Int), iI (3 : Int), iI (48 : Int), iI (50 : Int)])) (col 3 (chunk 4 [iI (0 : Int), iI (1 : Int), iI (40 : Int), iI (40 : Int), iI (2 : Int), iI (3 : Int), iI (48 : Int), iI (50 : Int)])) != (10 : Int)) (Tree.leaf (RV.x (Value.bool false))) (Tree.branch (shE (4 : Int) (100 : Int) (20 : Int) (30 : Int) 2 (col 0 (chunk 4 [iI (0 : Int), iI (1 : Int), iI (40 : Int), iI (40 : Int), iI (2 : Int), iI (3 : Int), iI (48 : Int), iI (50 : Int)])) (col 1 (chunk 4 [iI (0 : Int), iI (1 : Int), iI (40 : Int), iI (40 : Int), iI (2 : Int), iI (3 : Int), iI (48 : Int), iI (50 : Int)])) (col 2 (chunk 4 [iI (0 : Int), iI (1 : Int), iI (40 : Int), iI (40 : Int), iI (2 : Int), iI (3 : Int), iI (48 : Int), iI (50 : Int)])) (col 3 (chunk 4 [iI (0 : Int), iI (1 : Int), iI (40 : Int), iI (40 : Int), iI (2 : Int), iI (3 : Int), iI (48 : Int), iI (50 : Int)])) (2 : Int) != (0 : Int)) (Tree.leaf (RV.x (Value.bool false))) (Tree.need [isRec 4 2 (chunk 4 [iI (0 : Int), iI (1 : Int), iI (40 : Int), iI (40 : Int), iI (2 : Int), iI (3 : Int), iI (48 : Int), iI (50 : Int)]), isRec 1 (shL (4 : Int) (100 : Int) (20 : Int) (30 : Int) 2 (col 0 (chunk 4 [iI (0 : Int), iI (1 : Int), iI (40 : Int), iI (40 : Int), iI (2 : Int), iI (3 : Int), iI (48 : Int), iI (50 : Int)])) (col 1 (chunk 4 [iI (0 : Int), iI (1 : Int), iI (40 : Int), iI (40 : Int), iI (2 : Int), iI (3 : Int), iI (48 : Int), iI (50 : Int)])) (col 2 (chunk 4 [iI (0 : Int), iI (1 : Int), iI (40 : Int), iI (40 : Int), iI (2 : Int), iI (3 : Int), iI (48 : Int), iI (50 : Int)])) (col 3 (chunk 4 [iI (0 : Int), iI (1 : Int), iI (40 : Int), iI (40 : Int), iI (2 : Int), iI (3 : Int), iI (48 : Int), iI (50 : Int)])) (2 : Int)) fun k => [i (shV (4 : Int) (100 : Int) (20 : Int) (30 : Int) 2 (col 0 (chunk 4 [iI (0 : Int), iI (1 : Int), iI (40 : Int), iI (40 : Int), iI (2 : Int), iI (3 : Int), iI (48 : Int), iI (50 : Int)])) (col 1 (chunk 4 [iI (0 : Int), iI (1 : Int), iI (40 : Int), iI (40 : Int), iI (2 : Int), iI (3 : Int), iI (48 : Int), iI (50 : Int)])) (col 2 (chunk 4 [iI (0 : Int), iI (1 : Int), iI (40 : Int), iI (40 : Int), iI (2 : Int), iI (3 : Int), iI (48 : Int), iI (50 : Int)])) (col 3 (chunk 4 [iI (0 : Int), iI (1 : Int), iI (40 : Int), iI (40 : Int), iI (2 : Int), iI (3 : Int), iI (48 : Int), iI (50 : Int)])) true k)], shL (4 : Int) (100 : Int) (20 : Int) (30 : Int) 2 (col 0 (chunk 4 [iI (0 : Int), iI (1 : Int), iI (40 : Int), iI (40 : Int), iI (2 : Int), iI (3 : Int), iI (48 : Int), iI (50 : Int)])) (col 1 (chunk 4 [iI (0 : Int), iI (1 : Int), iI (40 : Int), iI (40 : Int), iI (2 : Int), iI (3 : Int), iI (48 : Int), iI (50 : Int)])) (col 2 (chunk 4 [iI (0 : Int), iI (1 : Int), iI (40 : Int), iI (40 : Int), iI (2 : Int), iI (3 : Int), iI (48 : Int), iI (50 : Int)])) (col 3 (chunk 4 [iI (0 : Int), iI (1 : Int), iI (40 : Int), iI (40 : Int), iI (2 : Int), iI (3 : Int), iI (48 : Int), iI (50 : Int)])) (2 : Int) ≤ 100000] (Tree.branch (!ptB (4 : Int) (100 : Int) (20 : Int) (30 : Int) 2 (col 0 (chunk 4 [iI (0 : Int), iI (1 : Int), iI (40 : Int), iI (40 : Int), iI (2 : Int), iI (3 : Int), iI (48 : Int), iI (50 : Int)])) (col 1 (chunk 4 [iI (0 : Int), iI (1 : Int), iI (40 : Int), iI (40 : Int), iI (2 : Int), iI (3 : Int), iI (48 : Int), iI (50 : Int)])) (col 2 (chunk 4 [iI (0 : Int), iI (1 : Int), iI (40 : Int), iI (40 : Int), iI (2 : Int), iI (3 : Int), iI (48 : Int), iI (50 : Int)])) (col 3 (chunk 4 [iI (0 : Int), iI (1 : Int), iI (40 : Int), iI (40 : Int), iI (2 : Int), iI (3 : Int), iI (48 : Int), iI (50 : Int)])) (shL (4 : Int) (100 : Int) (20 : Int) (30 : Int) 2 (col 0 (chunk 4 [iI (0 : Int), iI (1 : Int), iI (40 : Int), iI (40 : Int), iI (2 : Int), iI (3 : Int), iI (48 : Int), iI (50 : Int)])) (col 1 (chunk 4 [iI (0 : Int), iI (1 : Int), iI (40 : Int), iI (40 : Int), iI (2 : Int), iI (3 : Int), iI (48 : Int), iI (50 : Int)])) (col 2 (chunk 4 [iI (0 : Int), iI (1 : Int), iI (40 : Int), iI (40 : Int), iI (2 : Int), iI (3 : Int), iI (48 : Int), iI (50 : Int)])) (col 3 (chunk 4 [iI (0 : Int), iI (1 : Int), iI (40 : Int), iI (40 : Int), iI (2 : Int), iI (3 : Int), iI (48 : Int), iI (50 : Int)])) (2 : Int)) (shV (4 : Int) (100 : Int) (20 : Int) (30 : Int) 2 (col 0 (chunk 4 [iI (0 : Int), iI (1 : Int), iI (40 : Int), iI (40 : Int), iI (2 : Int), iI (3 : Int), iI (48 : Int), iI (50 : Int)])) (col 1 (chunk 4 [iI (0 : Int), iI (1 : Int), iI (40 : Int), iI (40 : Int), iI (2 : Int), iI (3 : Int), iI (48 : Int), iI (50 : Int)])) (col 2 (chunk 4 [iI (0 : Int), iI (1 : Int), iI (40 : Int), iI (40 : Int), iI (2 : Int), iI (3 : Int), iI (48 : Int), iI (50 : Int)])) (col 3 (chunk 4 [iI (0 : Int), iI (1 : Int), iI (40 : Int), iI (40 : Int), iI (2 : Int), iI (3 : Int), iI (48 : Int), iI (50 : Int)])) true)) (Tree.leaf (RV.x (Value.bool false))) (Tree.branch ((↑(shL (4 : Int) (100 : Int) (20 : Int) (30 : Int) 2 (col 0 (chunk 4 [iI (0 : Int), iI (1 : Int), iI (40 : Int), iI (40 : Int), iI (2 : Int), iI (3 : Int), iI (48 : Int), iI (50 : Int)])) (col 1 (chunk 4 [iI (0 : Int), iI (1 : Int), iI (40 : Int), iI (40 : Int), iI (2 : Int), iI (3 : Int), iI (48 : Int), iI (50 : Int)])) (col 2 (chunk 4 [iI (0 : Int), iI (1 : Int), iI (40 : Int), iI (40 : Int), iI (2 : Int), iI (3 : Int), iI (48 : Int), iI (50 : Int)])) (col 3 (chunk 4 [iI (0 : Int), iI (1 : Int), iI (40 : Int), iI (40 : Int), iI (2 : Int), iI (3 : Int), iI (48 : Int), iI (50 : Int)])) (2 : Int)) : Int) != (4 : Int)) (Tree.leaf (RV.x (Value.bool false))) (Tree.need [(0 : Int) ≤ (0 : Int) ∧ (0 : Int) < (↑(shL (4 : Int) (100 : Int) (20 : Int) (30 : Int) 2 (col 0 (chunk 4 [iI (0 : Int), iI (1 : Int), iI (40 : Int), iI (40 : Int), iI (2 : Int), iI (3 : Int), iI (48 : Int), iI (50 : Int)])) (col 1 (chunk 4 [iI (0 : Int), iI (1 : Int), iI (40 : Int), iI (40 : Int), iI (2 : Int), iI (3 : Int), iI (48 : Int), iI (50 : Int)])) (col 2 (chunk 4 [iI (0 : Int), iI (1 : Int), iI (40 : Int), iI (40 : Int), iI (2 : Int), iI (3 : Int), iI (48 : Int), iI (50 : Int)])) (col 3 (chunk 4 [iI (0 : Int), iI (1 : Int), iI (40 : Int), iI (40 : Int), iI (2 : Int), iI (3 : Int), iI (48 : Int), iI (50 : Int)])) (2 : Int)) : Int)] (Tree.need [(0 : Int) ≤ (1 : Int) ∧ (1 : Int) < (↑(shL (4 : Int) (100 : Int) (20 : Int) (30 : Int) 2 (col 0 (chunk 4 [iI (0 : Int), iI (1 : Int), iI (40 : Int), iI (40 : Int), iI (2 : Int), iI (3 : Int), iI (48 : Int), iI (50 : Int)])) (col 1 (chunk 4 [iI (0 : Int), iI (1 : Int), iI (40 : Int), iI (40 : Int), iI (2 : Int), iI (3 : Int), iI (48 : Int), iI (50 : Int)])) (col 2 (chunk 4 [iI (0 : Int), iI (1 : Int), iI (40 : Int), iI (40 : Int), iI (2 : Int), iI (3 : Int), iI (48 : Int), iI (50 : Int)])) (col 3 (chunk 4 [iI (0 : Int), iI (1 : Int), iI (40 : Int), iI (40 : Int), iI (2 : Int), iI (3 : Int), iI (48 : Int), iI (50 : Int)])) (2 : Int)) : Int)] (Tree.need [inI64 (shV (4 : Int) (100 : Int) (20 : Int) (30 : Int) 2 (col 0 (chunk 4 [iI (0 : Int), iI (1 : Int), iI (40 : Int), iI (40 : Int), iI (2 : Int), iI (3 : Int), iI (48 : Int), iI (50 : Int)])) (col 1 (chunk 4 [iI (0 : Int), iI (1 : Int), iI (40 : Int), iI (40 : Int), iI (2 : Int), iI (3 : Int), iI (48 : Int), iI (50 : Int)])) (col 2 (chunk 4 [iI (0 : Int), iI (1 : Int), iI (40 : Int), iI (40 : Int), iI (2 : Int), iI (3 : Int), iI (48 : Int), iI (50 : Int)])) (col 3 (chunk 4 [iI (0 : Int), iI (1 : Int), iI (40 : Int), iI (40 : Int), iI (2 : Int), iI (3 : Int), iI (48 : Int), iI (50 : Int)])) true (Int.toNat (0 : Int)) + shV (4 : Int) (100 : Int) (20 : Int) (30 : Int) 2 (col 0 (chunk 4 [iI (0 : Int), iI (1 : Int), iI (40 : Int), iI (40 : Int), iI (2 : Int), iI (3 : Int), iI (48 : Int), iI (50 : Int)])) (col 1 (chunk 4 [iI (0 : Int), iI (1 : Int), iI (40 : Int), iI (40 : Int), iI (2 : Int), iI (3 : Int), iI (48 : Int), iI (50 : Int)])) (col 2 (chunk 4 [iI (0 : Int), iI (1 : Int), iI (40 : Int), iI (40 : Int), iI (2 : Int), iI (3 : Int), iI (48 : Int), iI (50 : Int)])) (col 3 (chunk 4 [iI (0 : Int), iI (1 : Int), iI (40 : Int), iI (40 : Int), iI (2 : Int), iI (3 : Int), iI (48 : Int), iI (50 : Int)])) true (Int.toNat (1 : Int)))] (Tree.branch (shV (4 : Int) (100 : Int) (20 : Int) (30 : Int) 2 (col 0 (chunk 4 [iI (0 : Int), iI (1 : Int), iI (40 : Int), iI (40 : Int), iI (2 : Int), iI (3 : Int), iI (48 : Int), iI (50 : Int)])) (col 1 (chunk 4 [iI (0 : Int), iI (1 : Int), iI (40 : Int), iI (40 : Int), iI (2 : Int), iI (3 : Int), iI (48 : Int), iI (50 : Int)])) (col 2 (chunk 4 [iI (0 : Int), iI (1 : Int), iI (40 : Int), iI (40 : Int), iI (2 : Int), iI (3 : Int), iI (48 : Int), iI (50 : Int)])) (col 3 (chunk 4 [iI (0 : Int), iI (1 : Int), iI (40 : Int), iI (40 : Int), iI (2 : Int), iI (3 : Int), iI (48 : Int), iI (50 : Int)])) true (Int.toNat (0 : Int)) + shV (4 : Int) (100 : Int) (20 : Int) (30 : Int) 2 (col 0 (chunk 4 [iI (0 : Int), iI (1 : Int), iI (40 : Int), iI (40 : Int), iI (2 : Int), iI (3 : Int), iI (48 : Int), iI (50 : Int)])) (col 1 (chunk 4 [iI (0 : Int), iI (1 : Int), iI (40 : Int), iI (40 : Int), iI (2 : Int), iI (3 : Int), iI (48 : Int), iI (50 : Int)])) (col 2 (chunk 4 [iI (0 : Int), iI (1 : Int), iI (40 : Int), iI (40 : Int), iI (2 : Int), iI (3 : Int), iI (48 : Int), iI (50 : Int)])) (col 3 (chunk 4 [iI (0 : Int), iI (1 : Int), iI (40 : Int), iI (40 : Int), iI (2 : Int), iI (3 : Int), iI (48 : Int), iI (50 : Int)])) true (Int.toNat (1 : Int)) != (51 : Int)) (Tree.leaf (RV.x (Value.bool false))) (Tree.need [isRec 4 3 (chunk 4 [iI (0 : Int), iI (1 : Int), iI (40 : Int), iI (40 : Int), iI (2 : Int), iI (3 : Int), iI (48 : Int), iI (50 : Int), iI (col 0 (chunk 4 [iI (0 : Int), iI (2 : Int), iI (40 : Int), iI (40 : Int)]) 0), iI (col 1 (chunk 4 [iI (0 : Int), iI (2 : Int), iI (40 : Int), iI (40 : Int)]) 0), iI (col 2 (chunk 4 [iI (0 : Int), iI (2 : Int), iI (40 : Int), iI (40 : Int)]) 0), iI (col 3 (chunk 4 [iI (0 : Int), iI (2 : Int), iI (40 : Int), iI (40 : Int)]) 0)]), isRec 1 2 (chunk 1 [iI (0 : Int), iI (2 : Int)]), 2 ≤ 1000] (Tree.branch (!pkB (4 : Int) (100 : Int) (20 : Int) (30 : Int) 3 (col 0 (chunk 4 [iI (0 : Int), iI (1 : Int), iI (40 : Int), iI (40 : Int), iI (2 : Int), iI (3 : Int), iI (48 : Int), iI (50 : Int), iI (col 0 (chunk 4 [iI (0 : Int), iI (2 : Int), iI (40 : Int), iI (40 : Int)]) 0), iI (col 1 (chunk 4 [iI (0 : Int), iI (2 : Int), iI (40 : Int), iI (40 : Int)]) 0), iI (col 2 (chunk 4 [iI (0 : Int), iI (2 : Int), iI (40 : Int), iI (40 : Int)]) 0), iI (col 3 (chunk 4 [iI (0 : Int), iI (2 : Int), iI (40 : Int), iI (40 : Int)]) 0)])) (col 1 (chunk 4 [iI (0 : Int), iI (1 : Int), iI (40 : Int), iI (40 : Int), iI (2 : Int), iI (3 : Int), iI (48 : Int), iI (50 : Int), iI (col 0 (chunk 4 [iI (0 : Int), iI (2 : Int), iI (40 : Int), iI (40 : Int)]) 0), iI (col 1 (chunk 4 [iI (0 : Int), iI (2 : Int), iI (40 : Int), iI (40 : Int)]) 0), iI (col 2 (chunk 4 [iI (0 : Int), iI (2 : Int), iI (40 : Int), iI (40 : Int)]) 0), iI (col 3 (chunk 4 [iI (0 : Int), iI (2 : Int), iI (40 : Int), iI (40 : Int)]) 0)])) (col 2 (chunk 4 [iI (0 : Int), iI (1 : Int), iI (40 : Int), iI (40 : Int), iI (2 : Int), iI (3 : Int), iI (48 : Int), iI (50 : Int), iI (col 0 (chunk 4 [iI (0 : Int), iI (2 : Int), iI (40 : Int), iI (40 : Int)]) 0), iI (col 1 (chunk 4 [iI (0 : Int), iI (2 : Int), iI (40 : Int), iI (40 : Int)]) 0), iI (col 2 (chunk 4 [iI (0 : Int), iI (2 : Int), iI (40 : Int), iI (40 : Int)]) 0), iI (col 3 (chunk 4 [iI (0 : Int), iI (2 : Int), iI (40 : Int), iI (40 : Int)]) 0)])) (col 3 (chunk 4 [iI (0 : Int), iI (1 : Int), iI (40 : Int), iI (40 : Int), iI (2 : Int), iI (3 : Int), iI (48 : Int), iI (50 : Int), iI (col 0 (chunk 4 [iI (0 : Int), iI (2 : Int), iI (40 : Int), iI (40 : Int)]) 0), iI (col 1 (chunk 4 [iI (0 : Int), iI (2 : Int), iI (40 : Int), iI (40 : Int)]) 0), iI (col 2 (chunk 4 [iI (0 : Int), iI (2 : Int), iI (40 : Int), iI (40 : Int)]) 0), iI (col 3 (chunk 4 [iI (0 : Int), iI (2 : Int), iI (40 : Int), iI (40 : Int)]) 0)])) 2 (col 0 (chunk 1 [iI (0 : Int), iI (2 : Int)]))) (Tree.leaf (RV.x (Value.bool false))) (Tree.need [isRec 4 3 (chunk 4 [iI (0 : Int), iI (1 : Int), iI (40 : Int), iI (40 : Int), iI (2 : Int), iI (3 : Int), iI (48 : Int), iI (50 : Int), iI (col 0 (chunk 4 [iI (0 : Int), iI (2 : Int), iI (40 : Int), iI (40 : Int)]) 0), iI (col 1 (chunk 4 [iI (0 : Int), iI (2 : Int), iI (40 : Int), iI (40 : Int)]) 0), iI (col 2 (chunk 4 [iI (0 : Int), iI (2 : Int), iI (40 : Int), iI (40 : Int)]) 0), iI (col 3 (chunk 4 [iI (0 : Int), iI (2 : Int), iI (40 : Int), iI (40 : Int)]) 0)]), isRec 1 3 (chunk 1 [iI (0 : Int), iI (1 : Int), iI (2 : Int)]), 3 ≤ 1000] (Tree.branch (pkB (4 : Int) (100 : Int) (20 : Int) (30 : Int) 3 (col 0 (chunk 4 [iI (0 : Int), iI (1 : Int), iI (40 : Int), iI (40 : Int), iI (2 : Int), iI (3 : Int), iI (48 : Int), iI (50 : Int), iI (col 0 (chunk 4 [iI (0 : Int), iI (2 : Int), iI (40 : Int), iI (40 : Int)]) 0), iI (col 1 (chunk 4 [iI (0 : Int), iI (2 : Int), iI (40 : Int), iI (40 : Int)]) 0), iI (col 2 (chunk 4 [iI (0 : Int), iI (2 : Int), iI (40 : Int), iI (40 : Int)]) 0), iI (col 3 (chunk 4 [iI (0 : Int), iI (2 : Int), iI (40 : Int), iI (40 : Int)]) 0)])) (col 1 (chunk 4 [iI (0 : Int), iI (1 : Int), iI (40 : Int), iI (40 : Int), iI (2 : Int), iI (3 : Int), iI (48 : Int), iI (50 : Int), iI (col 0 (chunk 4 [iI (0 : Int), iI (2 : Int), iI (40 : Int), iI (40 : Int)]) 0), iI (col 1 (chunk 4 [iI (0 : Int), iI (2 : Int), iI (40 : Int), iI (40 : Int)]) 0), iI (col 2 (chunk 4 [iI (0 : Int), iI (2 : Int), iI (40 : Int), iI (40 : Int)]) 0), iI (col 3 (chunk 4 [iI (0 : Int), iI (2 : Int), iI (40 : Int), iI (40 : Int)]) 0)])) (col 2 (chunk 4 [iI (0 : Int), iI (1 : Int), iI (40 : Int), iI (40 : Int), iI (2 : Int), iI (3 : Int), iI (48 : Int), iI (50 : Int), iI (col 0 (chunk 4 [iI (0 : Int), iI (2 : Int), iI (40 : Int), iI (40 : Int)]) 0), iI (col 1 (chunk 4 [iI (0 : Int), iI (2 : Int), iI (40 : Int), iI (40 : Int)]) 0), iI (col 2 (chunk 4 [iI (0 : Int), iI (2 : Int), iI (40 : Int), iI (40 : Int)]) 0), iI (col 3 (chunk 4 [iI (0 : Int), iI (2 : Int), iI (40 : Int), iI (40 : Int)]) 0)])) (col 3 (chunk 4 [iI (0 : Int), iI (1 : Int), iI (40 : Int), iI (40 : Int), iI (2 : Int), iI (3 : Int), iI (48 : Int), iI (50 : Int), iI (col 0 (chunk 4 [iI (0 : Int), iI (2 : Int), iI (40 : Int), iI (40 : Int)]) 0), iI (col 1 (chunk 4 [iI (0 : Int), iI (2 : Int), iI (40 : Int), iI (40 : Int)]) 0), iI (col 2 (chunk 4 [iI (0 : Int), iI (2 : Int), iI (40 : Int), iI (40 : Int)]) 0), iI (col 3 (chunk 4 [iI (0 : Int), iI (2 : Int), iI (40 : Int), iI (40 : Int)]) 0)])) 3 (col 0 (chunk 1 [iI (0 : Int), iI (1 : Int), iI (2 : Int)]))) (Tree.leaf (RV.x (Value.bool false))) (Tree.need [isRec 4 3 (chunk 4 [iI (0 : Int), iI (1 : Int), iI (40 : Int), iI (40 : Int), iI (2 : Int), iI (3 : Int), iI (48 : Int), iI (50 : Int), iI (col 0 (chunk 4 [iI (0 : Int), iI (2 : Int), iI (40 : Int), iI (40 : Int)]) 0), iI (col 1 (chunk 4 [iI (0 : Int), iI (2 : Int), iI (40 : Int), iI (40 : Int)]) 0), iI (col 2 (chunk 4 [iI (0 : Int), iI (2 : Int), iI (40 : Int), iI (40 : Int)]) 0), iI (col 3 (chunk 4 [iI (0 : Int), iI (2 : Int), iI (40 : Int), iI (40 : Int)]) 0)]), isRec 1 2 (chunk 1 [iI (2 : Int), iI (0 : Int)]), 2 ≤ 1000] (Tree.branch (pkB (4 : Int) (100 : Int) (20 : Int) (30 : Int) 3 (col 0 (chunk 4 [iI (0 : Int), iI (1 : Int), iI (40 : Int), iI (40 : Int), iI (2 : Int), iI (3 : Int), iI (48 : Int), iI (50 : Int), iI (col 0 (chunk 4 [iI (0 : Int), iI (2 : Int), iI (40 : Int), iI (40 : Int)]) 0), iI (col 1 (chunk 4 [iI (0 : Int), iI (2 : Int), iI (40 : Int), iI (40 : Int)]) 0), iI (col 2 (chunk 4 [iI (0 : Int), iI (2 : Int), iI (40 : Int), iI (40 : Int)]) 0), iI (col 3 (chunk 4 [iI (0 : Int), iI (2 : Int), iI (40 : Int), iI (40 : Int)]) 0)])) (col 1 (chunk 4 [iI (0 : Int), iI (1 : Int), iI (40 : Int), iI (40 : Int), iI (2 : Int), iI (3 : Int), iI (48 : Int), iI (50 : Int), iI (col 0 (chunk 4 [iI (0 : Int), iI (2 : Int), iI (40 : Int), iI (40 : Int)]) 0), iI (col 1 (chunk 4 [iI (0 : Int), iI (2 : Int), iI (40 : Int), iI (40 : Int)]) 0), iI (col 2 (chunk 4 [iI (0 : Int), iI (2 : Int), iI (40 : Int), iI (40 : Int)]) 0), iI (col 3 (chunk 4 [iI (0 : Int), iI (2 : Int), iI (40 : Int), iI (40 : Int)]) 0)])) (col 2 (chunk 4 [iI (0 : Int), iI (1 : Int), iI (40 : Int), iI (40 : Int), iI (2 : Int), iI (3 : Int), iI (48 : Int), iI (50 : Int), iI (col 0 (chunk 4 [iI (0 : Int), iI (2 : Int), iI (40 : Int), iI (40 : Int)]) 0), iI (col 1 (chunk 4 [iI (0 : Int), iI (2 : Int), iI (40 : Int), iI (40 : Int)]) 0), iI (col 2 (chunk 4 [iI (0 : Int), iI (2 : Int), iI (40 : Int), iI (40 : Int)]) 0), iI (col 3 (chunk 4 [iI (0 : Int), iI (2 : Int), iI (40 : Int), iI (40 : Int)]) 0)])) (col 3 (chunk 4 [iI (0 : Int), iI (1 : Int), iI (40 : Int), iI (40 : Int), iI (2 : Int), iI (3 : Int), iI (48 : Int), iI (50 : Int), iI (col 0 (chunk 4 [iI (0 : Int), iI (2 : Int), iI (40 : Int), iI (40 : Int)]) 0), iI (col 1 (chunk 4 [iI (0 : Int), iI (2 : Int), iI (40 : Int), iI (40 : Int)]) 0), iI (col 2 (chunk 4 [iI (0 : Int), iI (2 : Int), iI (40 : Int), iI (40 : Int)]) 0), iI (col 3 (chunk 4 [iI (0 : Int), iI (2 : Int), iI (40 : Int), iI (40 : Int)]) 0)])) 2 (col 0 (chunk 1 [iI (2 : Int), iI (0 : Int)]))) (Tree.leaf (RV.x (Value.bool false))) (Tree.need [isRec 4 2 (chunk 4 [iI (0 : Int), iI (1 : Int), iI (40 : Int), iI (40 : Int), iI (2 : Int), iI (3 : Int), iI (48 : Int), iI (50 : Int)]), isRec 1 4 (chunk 1 [iI (20 : Int), iI (20 : Int), iI (30 : Int), iI (30 : Int)]), 4 ≤ 100000] (Tree.branch (ptB (4 : Int) (100 : Int) (20 : Int) (30 : Int) 2 (col 0 (chunk 4 [iI (0 : Int), iI (1 : Int), iI (40 : Int), iI (40 : Int), iI (2 : Int), iI (3 : Int), iI (48 : Int), iI (50 : Int)])) (col 1 (chunk 4 [iI (0 : Int), iI (1 : Int), iI (40 : Int), iI (40 : Int), iI (2 : Int), iI (3 : Int), iI (48 : Int), iI (50 : Int)])) (col 2 (chunk 4 [iI (0 : Int), iI (1 : Int), iI (40 : Int), iI (40 : Int), iI (2 : Int), iI (3 : Int), iI (48 : Int), iI (50 : Int)])) (col 3 (chunk 4 [iI (0 : Int), iI (1 : Int), iI (40 : Int), iI (40 : Int), iI (2 : Int), iI (3 : Int), iI (48 : Int), iI (50 : Int)])) 4 (col 0 (chunk 1 [iI (20 : Int), iI (20 : Int), iI (30 : Int), iI (30 : Int)]))) (Tree.leaf (RV.x (Value.bool false))) (Tree.need [isRec 1 4 (chunk 1 [iI (20 : Int), iI (20 : Int), iI (30 : Int), iI (30 : Int)]), 4 ≤ 100000] (Tree.branch (!ptB (4 : Int) (100 : Int) (20 : Int) (30 : Int) 0 (fun x => (0 : Int)) (fun x => (0 : Int)) (fun x => (0 : Int)) (fun x => (0 : Int)) 4 (col 0 (chunk 1 [iI (20 : Int), iI (20 : Int), iI (30 : Int), iI (30 : Int)]))) (Tree.leaf (RV.x (Value.bool false))) (Tree.need [isRec 4 3 (chunk 4 [iI (0 : Int), iI (1 : Int), iI (40 : Int), iI (40 : Int), iI (2 : Int), iI (3 : Int), iI (48 : Int), iI (50 : Int), iI (col 0 (chunk 4 [iI (0 : Int), iI (2 : Int), iI (40 : Int), iI (40 : Int)]) 0), iI (col 1 (chunk 4 [iI (0 : Int), iI (2 : Int), iI (40 : Int), iI (40 : Int)]) 0), iI (col 2 (chunk 4 [iI (0 : Int), iI (2 : Int), iI (40 : Int), iI (40 : Int)]) 0), iI (col 3 (chunk 4 [iI (0 : Int), iI (2 : Int), iI (40 : Int), iI (40 : Int)]) 0)])] (Tree.need [isRec 4 2 (chunk 4 [iI (0 : Int), iI (1 : Int), iI (40 : Int), iI (40 : Int), iI (2 : Int), iI (3 : Int), iI (48 : Int), iI (50 : Int)])] (Tree.need [isRec 4 3 (chunk 4 [iI (0 : Int), iI (1 : Int), iI (40 : Int), iI (40 : Int), iI (2 : Int), iI (3 : Int), iI (48 : Int), iI (50 : Int), iI (col 0 (chunk 4 [iI (0 : Int), iI (2 : Int), iI (40 : Int), iI (40 : Int)]) 0), iI (col 1 (chunk 4 [iI (0 : Int), iI (2 : Int), iI (40 : Int), iI (40 : Int)]) 0), iI (col 2 (chunk 4 [iI (0 : Int), iI (2 : Int), iI (40 : Int), iI (40 : Int)]) 0), iI (col 3 (chunk 4 [iI (0 : Int), iI (2 : Int), iI (40 : Int), iI (40 : Int)]) 0)])] (Tree.need [isRec 4 2 (chunk 4 [iI (0 : Int), iI (1 : Int), iI (40 : Int), iI (40 : Int), iI (2 : Int), iI (3 : Int), iI (48 : Int), iI (50 : Int)])] (Tree.need [isRec 4 1 (chunk 4 [iI (4 : Int), iI (4 : Int), iI (0 : Int), iI (0 : Int)])] (Tree.need [isRec 4 3 (chunk 4 [iI (0 : Int), iI (1 : Int), iI (40 : Int), iI (40 : Int), iI (2 : Int), iI (3 : Int), iI (48 : Int), iI (50 : Int), iI (col 0 (chunk 4 [iI (4 : Int), iI (4 : Int), iI (0 : Int), iI (0 : Int)]) 0), iI (col 1 (chunk 4 [iI (4 : Int), iI (4 : Int), iI (0 : Int), iI (0 : Int)]) 0), iI (col 2 (chunk 4 [iI (4 : Int), iI (4 : Int), iI (0 : Int), iI (0 : Int)]) 0), iI (col 3 (chunk 4 [iI (4 : Int), iI (4 : Int), iI (0 : Int), iI (0 : Int)]) 0)])] (Tree.need [isRec 4 1 (chunk 4 [iI (2 : Int), iI (1 : Int), iI (0 : Int), iI (0 : Int)])] (Tree.need [isRec 4 3 (chunk 4 [iI (0 : Int), iI (1 : Int), iI (40 : Int), iI (40 : Int), iI (2 : Int), iI (3 : Int), iI (48 : Int), iI (50 : Int), iI (col 0 (chunk 4 [iI (2 : Int), iI (1 : Int), iI (0 : Int), iI (0 : Int)]) 0), iI (col 1 (chunk 4 [iI (2 : Int), iI (1 : Int), iI (0 : Int), iI (0 : Int)]) 0), iI (col 2 (chunk 4 [iI (2 : Int), iI (1 : Int), iI (0 : Int), iI (0 : Int)]) 0), iI (col 3 (chunk 4 [iI (2 : Int), iI (1 : Int), iI (0 : Int), iI (0 : Int)]) 0)])] (Tree.need [(0 : Int) ≤ (13 : Int) ∧ (13 : Int) ≤ (1000000 : Int), (13 : Int) = (13 : Int)] (Tree.need [isRec 4 (Int.toNat (13 : Int)) fun x => List.map AV.x (Array.toList (Value.cells (Value.agg #[Value.int IntKind.i64 (0 : Int), Value.int IntKind.i64 (0 : Int), Value.int IntKind.i64 (0 : Int), Value.int IntKind.i64 (0 : Int)])))] (Tree.branch (eB (4 : Int) (100 : Int) (20 : Int) (30 : Int) 3 (col 0 (chunk 4 [iI (0 : Int), iI (1 : Int), iI (40 : Int), iI (40 : Int), iI (2 : Int), iI (3 : Int), iI (48 : Int), iI (50 : Int), iI (col 0 (chunk 4 [iI (0 : Int), iI (2 : Int), iI (40 : Int), iI (40 : Int)]) 0), iI (col 1 (chunk 4 [iI (0 : Int), iI (2 : Int), iI (40 : Int), iI (40 : Int)]) 0), iI (col 2 (chunk 4 [iI (0 : Int), iI (2 : Int), iI (40 : Int), iI (40 : Int)]) 0), iI (col 3 (chunk 4 [iI (0 : Int), iI (2 : Int), iI (40 : Int), iI (40 : Int)]) 0)])) (col 1 (chunk 4 [iI (0 : Int), iI (1 : Int), iI (40 : Int), iI (40 : Int), iI (2 : Int), iI (3 : Int), iI (48 : Int), iI (50 : Int), iI (col 0 (chunk 4 [iI (0 : Int), iI (2 : Int), iI (40 : Int), iI (40 : Int)]) 0), iI (col 1 (chunk 4 [iI (0 : Int), iI (2 : Int), iI (40 : Int), iI (40 : Int)]) 0), iI (col 2 (chunk 4 [iI (0 : Int), iI (2 : Int), iI (40 : Int), iI (40 : Int)]) 0), iI (col 3 (chunk 4 [iI (0 : Int), iI (2 : Int), iI (40 : Int), iI (40 : Int)]) 0)])) (col 2 (chunk 4 [iI (0 : Int), iI (1 : Int), iI (40 : Int), iI (40 : Int), iI (2 : Int), iI (3 : Int), iI (48 : Int), iI (50 : Int), iI (col 0 (chunk 4 [iI (0 : Int), iI (2 : Int), iI (40 : Int), iI (40 : Int)]) 0), iI (col 1 (chunk 4 [iI (0 : Int), iI (2 : Int), iI (40 : Int), iI (40 : Int)]) 0), iI (col 2 (chunk 4 [iI (0 : Int), iI (2 : Int), iI (40 : Int), iI (40 : Int)]) 0), iI (col 3 (chunk 4 [iI (0 : Int), iI (2 : Int), iI (40 : Int), iI (40 : Int)]) 0)])) (col 3 (chunk 4 [iI (0 : Int), iI (1 : Int), iI (40 : Int), iI (40 : Int), iI (2 : Int), iI (3 : Int), iI (48 : Int), iI (50 : Int), iI (col 0 (chunk 4 [iI (0 : Int), iI (2 : Int), iI (40 : Int), iI (40 : Int)]) 0), iI (col 1 (chunk 4 [iI (0 : Int), iI (2 : Int), iI (40 : Int), iI (40 : Int)]) 0), iI (col 2 (chunk 4 [iI (0 : Int), iI (2 : Int), iI (40 : Int), iI (40 : Int)]) 0), iI (col 3 (chunk 4 [iI (0 : Int), iI (2 : Int), iI (40 : Int), iI (40 : Int)]) 0)])) == (9 : Int)) (Tree.branch (knE (4 : Int) (100 : Int) (20 : Int) (30 : Int) 2 (col 0 (chunk 4 [iI (0 : Int), iI (1 : Int), iI (40 : Int), iI (40 : Int), iI (2 : Int), iI (3 : Int), iI (48 : Int), iI (50 : Int)])) (col 1 (chunk 4 [iI (0 : Int), iI (1 : Int), iI (40 : Int), iI (40 : Int), iI (2 : Int), iI (3 : Int), iI (48 : Int), iI (50 : Int)])) (col 2 (chunk 4 [iI (0 : Int), iI (1 : Int), iI (40 : Int), iI (40 : Int), iI (2 : Int), iI (3 : Int), iI (48 : Int), iI (50 : Int)])) (col 3 (chunk 4 [iI (0 : Int), iI (1 : Int), iI (40 : Int), iI (40 : Int), iI (2 : Int), iI (3 : Int), iI (48 : Int), iI (50 : Int)])) == (7 : Int)) (Tree.branch (shE (4 : Int) (100 : Int) (20 : Int) (30 : Int) 3 (col 0 (chunk 4 [iI (0 : Int), iI (1 : Int), iI (40 : Int), iI (40 : Int), iI (2 : Int), iI (3 : Int), iI (48 : Int), iI (50 : Int), iI (col 0 (chunk 4 [iI (0 : Int), iI (2 : Int), iI (40 : Int), iI (40 : Int)]) 0), iI (col 1 (chunk 4 [iI (0 : Int), iI (2 : Int), iI (40 : Int), iI (40 : Int)]) 0), iI (col 2 (chunk 4 [iI (0 : Int), iI (2 : Int), iI (40 : Int), iI (40 : Int)]) 0), iI (col 3 (chunk 4 [iI (0 : Int), iI (2 : Int), iI (40 : Int), iI (40 : Int)]) 0)])) (col 1 (chunk 4 [iI (0 : Int), iI (1 : Int), iI (40 : Int), iI (40 : Int), iI (2 : Int), iI (3 : Int), iI (48 : Int), iI (50 : Int), iI (col 0 (chunk 4 [iI (0 : Int), iI (2 : Int), iI (40 : Int), iI (40 : Int)]) 0), iI (col 1 (chunk 4 [iI (0 : Int), iI (2 : Int), iI (40 : Int), iI (40 : Int)]) 0), iI (col 2 (chunk 4 [iI (0 : Int), iI (2 : Int), iI (40 : Int), iI (40 : Int)]) 0), iI (col 3 (chunk 4 [iI (0 : Int), iI (2 : Int), iI (40 : Int), iI (40 : Int)]) 0)])) (col 2 (chunk 4 [iI (0 : Int), iI (1 : Int), iI (40 : Int), iI (40 : Int), iI (2 : Int), iI (3 : Int), iI (48 : Int), iI (50 : Int), iI (col 0 (chunk 4 [iI (0 : Int), iI (2 : Int), iI (40 : Int), iI (40 : Int)]) 0), iI (col 1 (chunk 4 [iI (0 : Int), iI (2 : Int), iI (40 : Int), iI (40 : Int)]) 0), iI (col 2 (chunk 4 [iI (0 : Int), iI (2 : Int), iI (40 : Int), iI (40 : Int)]) 0), iI (col 3 (chunk 4 [iI (0 : Int), iI (2 : Int), iI (40 : Int), iI (40 : Int)]) 0)])) (col 3 (chunk 4 [iI (0 : Int), iI (1 : Int), iI (40 : Int), iI (40 : Int), iI (2 : Int), iI (3 : Int), iI (48 : Int), iI (50 : Int), iI (col 0 (chunk 4 [iI (0 : Int), iI (2 : Int), iI (40 : Int), iI (40 : Int)]) 0), iI (col 1 (chunk 4 [iI (0 : Int), iI (2 : Int), iI (40 : Int), iI (40 : Int)]) 0), iI (col 2 (chunk 4 [iI (0 : Int), iI (2 : Int), iI (40 : Int), iI (40 : Int)]) 0), iI (col 3 (chunk 4 [iI (0 : Int), iI (2 : Int), iI (40 : Int), iI (40 : Int)]) 0)])) (5 : Int) == (2 : Int)) (Tree.branch (nxE (4 : Int) (100 : Int) (20 : Int) (30 : Int) 2 (col 0 (chunk 4 [iI (0 : Int), iI (1 : Int), iI (40 : Int), iI (40 : Int), iI (2 : Int), iI (3 : Int), iI (48 : Int), iI (50 : Int)])) (col 1 (chunk 4 [iI (0 : Int), iI (1 : Int), iI (40 : Int), iI (40 : Int), iI (2 : Int), iI (3 : Int), iI (48 : Int), iI (50 : Int)])) (col 2 (chunk 4 [iI (0 : Int), iI (1 : Int), iI (40 : Int), iI (40 : Int), iI (2 : Int), iI (3 : Int), iI (48 : Int), iI (50 : Int)])) (col 3 (chunk 4 [iI (0 : Int), iI (1 : Int), iI (40 : Int), iI (40 : Int), iI (2 : Int), iI (3 : Int), iI (48 : Int), iI (50 : Int)])) (5 : Int) (4 : Int) == (2 : Int)) (Tree.branch (eB (4 : Int) (100 : Int) (20 : Int) (30 : Int) 3 (col 0 (chunk 4 [iI (0 : Int), iI (1 : Int), iI (40 : Int), iI (40 : Int), iI (2 : Int), iI (3 : Int), iI (48 : Int), iI (50 : Int), iI (col 0 (chunk 4 [iI (4 : Int), iI (4 : Int), iI (0 : Int), iI (0 : Int)]) 0), iI (col 1 (chunk 4 [iI (4 : Int), iI (4 : Int), iI (0 : Int), iI (0 : Int)]) 0), iI (col 2 (chunk 4 [iI (4 : Int), iI (4 : Int), iI (0 : Int), iI (0 : Int)]) 0), iI (col 3 (chunk 4 [iI (4 : Int), iI (4 : Int), iI (0 : Int), iI (0 : Int)]) 0)])) (col 1 (chunk 4 [iI (0 : Int), iI (1 : Int), iI (40 : Int), iI (40 : Int), iI (2 : Int), iI (3 : Int), iI (48 : Int), iI (50 : Int), iI (col 0 (chunk 4 [iI (4 : Int), iI (4 : Int), iI (0 : Int), iI (0 : Int)]) 0), iI (col 1 (chunk 4 [iI (4 : Int), iI (4 : Int), iI (0 : Int), iI (0 : Int)]) 0), iI (col 2 (chunk 4 [iI (4 : Int), iI (4 : Int), iI (0 : Int), iI (0 : Int)]) 0), iI (col 3 (chunk 4 [iI (4 : Int), iI (4 : Int), iI (0 : Int), iI (0 : Int)]) 0)])) (col 2 (chunk 4 [iI (0 : Int), iI (1 : Int), iI (40 : Int), iI (40 : Int), iI (2 : Int), iI (3 : Int), iI (48 : Int), iI (50 : Int), iI (col 0 (chunk 4 [iI (4 : Int), iI (4 : Int), iI (0 : Int), iI (0 : Int)]) 0), iI (col 1 (chunk 4 [iI (4 : Int), iI (4 : Int), iI (0 : Int), iI (0 : Int)]) 0), iI (col 2 (chunk 4 [iI (4 : Int), iI (4 : Int), iI (0 : Int), iI (0 : Int)]) 0), iI (col 3 (chunk 4 [iI (4 : Int), iI (4 : Int), iI (0 : Int), iI (0 : Int)]) 0)])) (col 3 (chunk 4 [iI (0 : Int), iI (1 : Int), iI (40 : Int), iI (40 : Int), iI (2 : Int), iI (3 : Int), iI (48 : Int), iI (50 : Int), iI (col 0 (chunk 4 [iI (4 : Int), iI (4 : Int), iI (0 : Int), iI (0 : Int)]) 0), iI (col 1 (chunk 4 [iI (4 : Int), iI (4 : Int), iI (0 : Int), iI (0 : Int)]) 0), iI (col 2 (chunk 4 [iI (4 : Int), iI (4 : Int), iI (0 : Int), iI (0 : Int)]) 0), iI (col 3 (chunk 4 [iI (4 : Int), iI (4 : Int), iI (0 : Int), iI (0 : Int)]) 0)])) == (2 : Int)) (Tree.branch (eB (4 : Int) (100 : Int) (20 : Int) (30 : Int) 3 (col 0 (chunk 4 [iI (0 : Int), iI (1 : Int), iI (40 : Int), iI (40 : Int), iI (2 : Int), iI (3 : Int), iI (48 : Int), iI (50 : Int), iI (col 0 (chunk 4 [iI (2 : Int), iI (1 : Int), iI (0 : Int), iI (0 : Int)]) 0), iI (col 1 (chunk 4 [iI (2 : Int), iI (1 : Int), iI (0 : Int), iI (0 : Int)]) 0), iI (col 2 (chunk 4 [iI (2 : Int), iI (1 : Int), iI (0 : Int), iI (0 : Int)]) 0), iI (col 3 (chunk 4 [iI (2 : Int), iI (1 : Int), iI (0 : Int), iI (0 : Int)]) 0)])) (col 1 (chunk 4 [iI (0 : Int), iI (1 : Int), iI (40 : Int), iI (40 : Int), iI (2 : Int), iI (3 : Int), iI (48 : Int), iI (50 : Int), iI (col 0 (chunk 4 [iI (2 : Int), iI (1 : Int), iI (0 : Int), iI (0 : Int)]) 0), iI (col 1 (chunk 4 [iI (2 : Int), iI (1 : Int), iI (0 : Int), iI (0 : Int)]) 0), iI (col 2 (chunk 4 [iI (2 : Int), iI (1 : Int), iI (0 : Int), iI (0 : Int)]) 0), iI (col 3 (chunk 4 [iI (2 : Int), iI (1 : Int), iI (0 : Int), iI (0 : Int)]) 0)])) (col 2 (chunk 4 [iI (0 : Int), iI (1 : Int), iI (40 : Int), iI (40 : Int), iI (2 : Int), iI (3 : Int), iI (48 : Int), iI (50 : Int), iI (col 0 (chunk 4 [iI (2 : Int), iI (1 : Int), iI (0 : Int), iI (0 : Int)]) 0), iI (col 1 (chunk 4 [iI (2 : Int), iI (1 : Int), iI (0 : Int), iI (0 : Int)]) 0), iI (col 2 (chunk 4 [iI (2 : Int), iI (1 : Int), iI (0 : Int), iI (0 : Int)]) 0), iI (col 3 (chunk 4 [iI (2 : Int), iI (1 : Int), iI (0 : Int), iI (0 : Int)]) 0)])) (col 3 (chunk 4 [iI (0 : Int), iI (1 : Int), iI (40 : Int), iI (40 : Int), iI (2 : Int), iI (3 : Int), iI (48 : Int), iI (50 : Int), iI (col 0 (chunk 4 [iI (2 : Int), iI (1 : Int), iI (0 : Int), iI (0 : Int)]) 0), iI (col 1 (chunk 4 [iI (2 : Int), iI (1 : Int), iI (0 : Int), iI (0 : Int)]) 0), iI (col 2 (chunk 4 [iI (2 : Int), iI (1 : Int), iI (0 : Int), iI (0 : Int)]) 0), iI (col 3 (chunk 4 [iI (2 : Int), iI (1 : Int), iI (0 : Int), iI (0 : Int)]) 0)])) == (2 : Int)) (Tree.branch (flt (4 : Int) (100 : Int) (20 : Int) (30 : Int) (Int.toNat (13 : Int)) (col 0 fun x => List.map AV.x (Array.toList (Value.cells (Value.agg #[Value.int IntKind.i64 (0 : Int), Value.int IntKind.i64 (0 : Int), Value.int IntKind.i64 (0 : Int), Value.int IntKind.i64 (0 : Int)])))) (col 1 fun x => List.map AV.x (Array.toList (Value.cells (Value.agg #[Value.int IntKind.i64 (0 : Int), Value.int IntKind.i64 (0 : Int), Value.int IntKind.i64 (0 : Int), Value.int IntKind.i64 (0 : Int)])))) (col 2 fun x => List.map AV.x (Array.toList (Value.cells (Value.agg #[Value.int IntKind.i64 (0 : Int), Value.int IntKind.i64 (0 : Int), Value.int IntKind.i64 (0 : Int), Value.int IntKind.i64 (0 : Int)])))) (col 3 fun x => List.map AV.x (Array.toList (Value.cells (Value.agg #[Value.int IntKind.i64 (0 : Int), Value.int IntKind.i64 (0 : Int), Value.int IntKind.i64 (0 : Int), Value.int IntKind.i64 (0 : Int)])))) == (3 : Int)) (Tree.branch ((if tubeB (11 : Int) (100 : Int) (20 : Int) (30 : Int) = true then (0 : Int) else (1 : Int)) == (1 : Int)) (Tree.branch ((if tubeB (4 : Int) (100 : Int) (26 : Int) (30 : Int) = true then (0 : Int) else (1 : Int)) == (1 : Int)) (Tree.branch ((if tubeB (4 : Int) (121 : Int) (20 : Int) (30 : Int) = true then (0 : Int) else (1 : Int)) == (1 : Int)) (Tree.branch ((if tubeB (0 : Int) (0 : Int) (0 : Int) (0 : Int) = true then (0 : Int) else (1 : Int)) == (1 : Int)) (Tree.leaf (RV.x (Value.bool true))) (Tree.leaf (RV.x (Value.bool false)))) (Tree.leaf (RV.x (Value.bool false)))) (Tree.leaf (RV.x (Value.bool false)))) (Tree.leaf (RV.x (Value.bool false)))) (Tree.leaf (RV.x (Value.bool false)))) (Tree.leaf (RV.x (Value.bool false)))) (Tree.leaf (RV.x (Value.bool false)))) (Tree.leaf (RV.x (Value.bool false)))) (Tree.leaf (RV.x (Value.bool false)))) (Tree.leaf (RV.x (Value.bool false)))) (Tree.leaf (RV.x (Value.bool false))))))))))))))))))))))))))))))))))))))))))))) (by kernel_rfl) ?_
  simp only [Tree.sat, allP, true_and, and_true]
  repeat' first | with_reducible apply And.intro | with_reducible intro _
  all_goals first | exact True.intro | omega | exact isRec1 _ _ | (intro k hk; rfl) | (intro k hk; rcases (show k = 0 ∨ k = 1 ∨ k = 2 ∨ k = 3 by omega) with rfl | rfl | rfl | rfl <;> first | rfl | omega) | (unfold inI64; decide +kernel) | (rename_i h; exact absurd h (by decide +kernel)) | decide +kernel | (show (_ : Bool) = true; decide +kernel)

end Go.Proofs.Ytmdeoobmeokmeaa
