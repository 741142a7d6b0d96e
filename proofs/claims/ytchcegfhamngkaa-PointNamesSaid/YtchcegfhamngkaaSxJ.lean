/- An append to a row of the call's own, or to nil. -/
import Derived.Test.YtchcegfhamngkaaSxI
namespace Go.Sx
open Go Go.RowKit

section
variable {P : Program}

/-- Where the result of an append lies: in the row's own block, or in a new one. -/
theorem append_block {w w' : World} {t ty el : TypeId} {ie : TypeInfo} {z v v' : Value} {n m c : Nat} {xs news : List Value} {ad : Addr} (ht : P.underlying t = some (.slice el)) (hi : P.info? el = some ie) (hz : ie.zero = some z)
    (hown : w.ownsRow 0 el ie.size v n xs) (hl : news.length = m * ie.size) (hnews : ∀ j u, news[j]? = some u → w.cell? (ad.add j) = some u) (h1 : ∀ u ∈ news, u.oneCell' = true)
    (h63 : n + m ≤ maxLen) (hbytes : (n + m) * ie.bytes ≤ 140737488355328)
    (hr : (Builtin.append_ #[t, t] ty #[v, .slice (some ad) m c]).run P w = .ok v' w') (hnil : v' = .slice none 0 0 ↔ v = .slice none 0 0 ∧ m = 0) :
    v'.ownBlock = v.ownBlock ∨ v'.ownBlock = some w.heap.size := by
  have hsmall : n + m ≤ 9223372036854775807 := by simp only [maxLen] at h63; omega
  rcases hown.2 with ⟨rfl, rfl⟩ | ⟨g, cap, cur, rfl, hbg, hg, hnc, hcm, hcs, htake⟩
  · by_cases hm : m = 0
    · rw [hnil.2 ⟨rfl, hm⟩]; exact .inl rfl
    · have h2 := run_append_nil (P := P) w t ty el ie z ht hi hz ad m c news hl hnews (by omega) (by omega) (by have hb := hbytes; simp only [Nat.zero_add] at hb; omega)
      rw [h2] at hr
      injection hr with hr _
      rw [← hr]; exact .inr rfl
  · by_cases hroom : n + m ≤ cap
    · have h2 := run_append_room (P := P) w t ty el ie ht hi g n cap cur hg ad m c news hl hnews h1 hroom (by rw [hl, hcs, ← Nat.add_mul]; exact Nat.mul_le_mul_right _ hroom)
      rw [h2] at hr
      injection hr with hr _
      rw [← hr]; exact .inl rfl
    · have h2 := run_append_grow (P := P) w t ty el ie z ht hi hz ⟨g, 0, none⟩ n cap xs hown.1 (hown.cells (g := g) rfl) ad m c news hl hnews (by omega) (by omega) (growslice_fits (by omega) hbytes)
      rw [h2] at hr
      injection hr with hr _
      rw [← hr]; exact .inr rfl

/-- The environment behind an append. -/
def Env.app (e : Env) (id : Nat) (v : Value) : Env :=
  { ro := e.ro, own := fun b => if v.ownBlock = some b then some id else e.own b, live := fun k => k = id ∨ e.live k, blk := e.blk, val := fun k => if k = id then v else e.val k }

theorem opAppend_frame {e : Env} {B : Nat} {w : World} {m m' : Mem} {id : Nat} {t ty : TypeId} {s x val : AV} {vs vx : Value} {ns : List Prop} (h : opAppend P id m t s x = some (ns, val, m')) (hn : ∀ p ∈ ns, p)
    (hE : EnvOk e B w) (hB : B ≤ w.heap.size) (hm : MemOk e m w) (hid : ¬ e.live id) (rs : Rep e w s vs) (rx : Rep e w x vx) :
    ∃ u w', (Builtin.append_ #[t, t] ty #[vs, vx]).run P w = .ok u w' ∧ Wrote' e B w id val (fun k res => (∃ tl, m' = (id, res) :: tl) ∧ k = id ∨ Holds e w k res ∧ ∀ q, s = .row q → k ≠ q) u w' ∧ ∃ r, m' = (id, r) :: dropRow m s := by
  unfold opAppend at h
  split at h
  · rename_i el ht
    split at h
    · rename_i ie hi
      split at h
      · rename_i z hz
        split at h
        · rename_i hb
          simp only [Bool.and_eq_true] at hb
          obtain ⟨⟨hb1, hb2⟩, hb3⟩ := hb
          have hzs : z.cells.size = ie.size := Nat.eq_of_beq_eq_true hb1
          have hsz := Nat.le_of_ble_eq_true hb2
          have hby := Nat.le_of_ble_eq_true hb3
          split at h
          · rename_i n1 f1 n2 f2 hro hso
            simp only [Option.some.injEq, Prod.mk.injEq] at h
            obtain ⟨rfl, rfl, rfl⟩ := h
            have hbytes : (n1 + n2) * ie.bytes ≤ 140737488355328 := hn _ (by simp)
            have hone : ∀ i, i < n2 → ∀ a ∈ f2 i, AV.one a = true := hn _ (by simp)
            obtain ⟨hf1, hob, xs, hx, hrep1⟩ := rowOf_rep hro hm rs
            obtain ⟨hf2, hsrc⟩ := srcOf_rep hso hm rx
            have h63 : n1 + n2 ≤ maxLen := by
              have : n1 + n2 ≤ (n1 + n2) * ie.bytes := Nat.le_mul_of_pos_right _ hby
              unfold maxLen; omega
            -- the run
            have key : ∃ (u : Value) (w' : World) (us : List Value), (Builtin.append_ #[t, t] ty #[vs, vx]).run P w = .ok u w' ∧ w'.ownsRow 0 el ie.size u (n1 + n2) (xs ++ us) ∧ w.grownBy w' vs.ownBlock ∧
                (u.ownBlock = vs.ownBlock ∨ u.ownBlock = some w.heap.size) ∧ us.length = n2 * ie.size ∧ (∀ (i j : Nat) (a : AV) (v : Value), i < n2 → (f2 i)[j]? = some a → us[i * ie.size + j]? = some v → Rep e w a v) := by
              rcases hsrc with ⟨rfl, rfl⟩ | ⟨ad, c, us, rfl, hul, hus, hrep2⟩
              · refine ⟨vs, w, [], ?_, by simpa using hx, ⟨rfl, rfl, rfl, Nat.le_refl _, fun _ _ _ => rfl⟩, .inl rfl, by simp, fun i j a v hi => by omega⟩
                rcases hx.2 with ⟨rfl, rfl⟩ | ⟨g, cap, cur, rfl, _, _, hnc, _⟩
                · simp [Builtin.append_, run_underlying ht, sizeOf, typeInfo, hi, Builtin.lenOf, Builtin.firstCells]
                · simp [Builtin.append_, run_underlying ht, sizeOf, typeInfo, hi, Builtin.lenOf, Builtin.firstCells, hnc, storeCells]
              · have h1 : ∀ u ∈ us, u.oneCell' = true := by
                  intro u hu
                  obtain ⟨q, hq⟩ := List.mem_iff_getElem?.1 hu
                  have hq1 : q < n2 * ie.size := by rw [← hul]; exact (List.getElem?_eq_some_iff.1 hq).1
                  have hd : q / ie.size < n2 := (Nat.div_lt_iff_lt_mul hsz).2 hq1
                  have hmod := Nat.mod_lt q hsz
                  have hlt : q % ie.size < (f2 (q / ie.size)).length := by rw [(hf2 _ hd).1]; exact hmod
                  have he : q / ie.size * ie.size + q % ie.size = q := by rw [Nat.mul_comm]; exact Nat.div_add_mod q ie.size
                  exact one_rep (hone _ hd _ (List.getElem_mem hlt)) (hrep2 (q / ie.size) (q % ie.size) _ u hd (List.getElem?_eq_getElem hlt) (by rw [he]; exact hq))
                obtain ⟨v', w', hr, ho, hg, hnil⟩ := run_append_own (P := P) w 0 t ty el ie z ie.size ie.bytes ht hi hz rfl rfl hzs (by omega) vs n1 xs hx ad n2 c us hul hus h1 h63 hbytes (Nat.zero_le _)
                exact ⟨v', w', us, hr, ho, hg, append_block ht hi hz hx hul hus h1 h63 hbytes hr hnil, hul, hrep2⟩
            obtain ⟨u, w', us, hr, ho, hg, hblk, hul, hrep2⟩ := key
            have hoB : ∀ b, vs.ownBlock = some b → B ≤ b ∧ e.ro b = False ∧ ∃ k, s = .row k ∧ e.own b = some k := by
              intro b hb
              obtain ⟨k, hk, hk'⟩ := hob b hb
              refine ⟨(hE.owned b k hk').1, ?_, k, hk, hk'⟩
              apply propext
              exact ⟨(fun hr => by rw [(hE.apart b hr).1] at hk'; cases hk'), False.elim⟩
            have hroNe : ∀ b, e.ro b → some b ≠ vs.ownBlock := by
              intro b hrb he
              have := (hoB b he.symm).2.1
              rw [this] at hrb
              exact hrb
            have hroU : ∀ b, e.ro b → u.ownBlock ≠ some b := by
              intro b hrb he
              rcases hblk with h | h
              · exact hroNe b hrb (by rw [← he, h])
              · rw [h] at he; have := (hE.apart b hrb).2; simp at he; omega
            have hulive : ∀ b, u.ownBlock = some b → b < w'.heap.size := fun b hb => (ho.lt b hb).2
            have st : Step e (e.app id u) w w' := by
              refine ⟨fun b hlt hrb => ⟨hrb, hg.block b hlt (hroNe b hrb)⟩, fun k hk => ?_, hg.size⟩
              have hne : k ≠ id := fun he => hid (he ▸ hk)
              exact ⟨.inr hk, rfl, by simp [Env.app, hne]⟩
            refine ⟨u, w', hr, ⟨e.app id u, ⟨hg.os, hg.tape, hg.output, hg.size, fun k hk => hg.block k (by omega) (fun he => by have := (hoB k he.symm).1; omega)⟩, st, ⟨?_, ?_⟩, ?_, ?_, ?_, fun _ h => h⟩, _, rfl⟩
            · intro b hrb
              have h1 := hE.apart b hrb
              have h2 := hg.size
              refine ⟨?_, by omega⟩
              simp only [Env.app]
              rw [if_neg (hroU b hrb)]
              exact h1.1
            · intro b k hk
              simp only [Env.app] at hk
              split at hk
              · rename_i hub
                refine ⟨?_, hulive b hub⟩
                rcases hblk with h | h
                · exact (hoB b (by rw [← h]; exact hub)).1
                · rw [h] at hub; cases hub; exact hB
              · have := hE.owned b k hk; have := hg.size; exact ⟨(hE.owned b k hk).1, by omega⟩
            · rcases ho.2 with ⟨hv, _⟩ | ⟨g, cap, cur, hv, _⟩
              · rw [hv]; exact .row id _ _ _ (.inl rfl) (by simp [Env.app])
              · rw [hv]; exact .row id _ _ _ (.inl rfl) (by simp [Env.app])
            · intro k0 res0 hp
              rcases hp with ⟨⟨tl, htl⟩, rfl⟩ | ⟨hH, hpm⟩
              · have htl' := (List.cons.inj htl).1
                cases htl'
                refine ⟨.inl rfl, ?_, ?_, xs ++ us, ?_, ?_⟩
                · intro b hb
                  simp only [Env.app, if_true] at hb ⊢
                  rw [if_pos hb]
                · intro i hi'
                  have hp := mergeL_pick (c := decide (i < n1)) (f1 i) (f2 (i - n1))
                  by_cases hc : i < n1
                  · have e1 : decide (i < n1) = true := by simpa using hc
                    rw [e1] at hp
                    simp only [if_true] at hp
                    simp only [catF]; rw [e1]
                    refine ⟨by rw [hp.1]; exact (hf1 i hc).1, fun a ha => ?_⟩
                    obtain ⟨q, hq⟩ := List.mem_iff_getElem?.1 ha
                    obtain ⟨y, hy, _, hy2⟩ := hp.2 q a hq
                    exact hy2 ((hf1 i hc).2 y (List.mem_of_getElem? hy))
                  · have e1 : decide (i < n1) = false := by simpa using hc
                    rw [e1] at hp
                    simp only [Bool.false_eq_true, if_false] at hp
                    simp only [catF]; rw [e1]
                    refine ⟨by rw [hp.1]; exact (hf2 _ (by omega)).1, fun a ha => ?_⟩
                    obtain ⟨q, hq⟩ := List.mem_iff_getElem?.1 ha
                    obtain ⟨y, hy, _, hy2⟩ := hp.2 q a hq
                    exact hy2 ((hf2 _ (by omega)).2 y (List.mem_of_getElem? hy))
                · simpa [Env.app] using ho
                · intro i j a v hi' ha hv
                  have hp := mergeL_pick (c := decide (i < n1)) (f1 i) (f2 (i - n1))
                  have hxl : xs.length = n1 * ie.size := hx.1
                  by_cases hc : i < n1
                  · have e1 : decide (i < n1) = true := by simpa using hc
                    rw [e1] at hp
                    simp only [if_true] at hp
                    simp only [catF] at ha; rw [e1] at ha
                    obtain ⟨y, hy, hy1, _⟩ := hp.2 j a ha
                    have hj : j < ie.size := by rw [← (hf1 i hc).1]; exact (List.getElem?_eq_some_iff.1 hy).1
                    have hle : i * ie.size + ie.size ≤ n1 * ie.size := by
                      have := Nat.mul_le_mul_right ie.size (Nat.succ_le_of_lt hc)
                      rwa [Nat.succ_mul] at this
                    rw [List.getElem?_append, if_pos (by omega)] at hv
                    exact (hy1 _ _ _ (hrep1 i j y v hc hy hv)).step st
                  · have e1 : decide (i < n1) = false := by simpa using hc
                    rw [e1] at hp
                    simp only [Bool.false_eq_true, if_false] at hp
                    simp only [catF] at ha; rw [e1] at ha
                    obtain ⟨y, hy, hy1, _⟩ := hp.2 j a ha
                    have hge : n1 * ie.size ≤ i * ie.size := Nat.mul_le_mul_right _ (by omega)
                    rw [List.getElem?_append, if_neg (by omega)] at hv
                    have e2 : i * ie.size + j - xs.length = (i - n1) * ie.size + j := by rw [hxl, Nat.sub_mul]; omega
                    rw [e2] at hv
                    exact (hy1 _ _ _ (hrep2 (i - n1) j y v (by omega) hy hv)).step st
              · -- the other rows
                have hne : k0 ≠ id := by
                  intro he
                  apply hid
                  rw [← he]
                  cases res0 with
                  | cells T l => exact hH.1
                  | row T sz n f => exact hH.1
                  | memo h f => exact hH.1
                have hoth : ∀ b k, e.own b = some k → k0 = k → some b ≠ vs.ownBlock := by
                  intro b k hk hpk he
                  obtain ⟨_, _, k', hk', hk''⟩ := hoB b he.symm
                  rw [hk] at hk''
                  cases hk''
                  exact hpm _ hk' hpk
                have hown' : ∀ b, e.own b = some k0 → (e.app id u).own b = some k0 ∧ w'.heap[b]? = w.heap[b]? := by
                  intro b hb
                  have hblt := (hE.owned b _ hb).2
                  have hne2 := hoth b _ hb rfl
                  refine ⟨?_, hg.block b hblt hne2⟩
                  simp only [Env.app]
                  rw [if_neg ?_]
                  · exact hb
                  · intro he
                    rcases hblk with h | h
                    · exact hne2 (by rw [← he, h])
                    · rw [h] at he; simp at he; omega
                cases res0 with
                | cells T l =>
                  obtain ⟨q1, q2, vs', q3, q4⟩ := hH
                  have hq := hown' _ q2
                  exact ⟨.inr q1, hq.1, vs', hq.2.trans q3, q4.step st⟩
                | row T sz n f =>
                  obtain ⟨q1, q2, q5, ys, q3, q4⟩ := hH
                  have ev : (e.app id u).val k0 = e.val k0 := by simp only [Env.app]; rw [if_neg hne]
                  refine ⟨.inr q1, ?_, q5, ys, ?_, fun i j a v hi ha hv => (q4 i j a v hi ha hv).step st⟩
                  · rw [ev]; exact fun b hb => (hown' b (q2 b hb)).1
                  · rw [ev]
                    refine ⟨q3.1, q3.2.imp (fun h => h) ?_⟩
                    rintro ⟨g', cap, cur, hv, hg', hh, rest⟩
                    exact ⟨g', cap, cur, hv, hg', by rw [(hown' g' (q2 g' (by rw [hv]; rfl))).2]; exact hh, rest⟩
                | memo h f =>
                  obtain ⟨q1, q2, es, c, q3, q4⟩ := hH
                  have hq := hown' _ q2
                  exact ⟨.inr q1, hq.1, es, c, hq.2.trans q3, q4⟩
            · rintro k (rfl | hk)
              · exact .inr rfl
              · exact .inl hk
          · cases h
        · cases h
      · cases h
    · cases h
  · cases h

theorem opAppend_sound {e : Env} {B : Nat} {w : World} {m m' : Mem} {id : Nat} {t ty : TypeId} {s x val : AV} {vs vx : Value} {ns : List Prop} (h : opAppend P id m t s x = some (ns, val, m')) (hn : ∀ p ∈ ns, p)
    (hE : EnvOk e B w) (hB : B ≤ w.heap.size) (hm : MemOk e m w) (hid : ¬ e.live id) (rs : Rep e w s vs) (rx : Rep e w x vx) :
    ∃ u w', (Builtin.append_ #[t, t] ty #[vs, vx]).run P w = .ok u w' ∧ Wrote e B w id val m' u w' := by
  obtain ⟨u, w', hr, ⟨e', h1, h2, h3, h4, h5, h6, h7⟩, r, hm'⟩ := opAppend_frame (ty := ty) h hn hE hB hm hid rs rx
  refine ⟨u, w', hr, e', h1, h2, h3, h4, ?_, h6, h7⟩
  intro p hp
  rw [hm'] at hp
  rcases List.mem_cons.1 hp with rfl | hp
  · exact h5 _ _ (.inl ⟨⟨_, hm'⟩, rfl⟩)
  · have hpm : p ∈ m ∧ ∀ k, s = .row k → p.1 ≠ k := by
      cases s with
      | row k => exact ⟨(delM_mem hp).1, fun k' hk' => by cases hk'; exact (delM_mem hp).2⟩
      | _ => exact ⟨hp, fun k hk => by cases hk⟩
    exact h5 p.1 p.2 (.inr ⟨hm p hpm.1, hpm.2⟩)
end
end Go.Sx
