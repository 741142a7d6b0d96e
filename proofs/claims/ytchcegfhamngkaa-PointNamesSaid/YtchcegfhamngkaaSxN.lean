/- A region that draws its order: from the first operations, in any order, to the last ones, in theirs. -/
import Derived.Test.YtchcegfhamngkaaSxM
namespace Go.Sx
open Go Go.RowKit

theorem RelE.drew {c : Cx} {w0 : World} {T : Nat → Prop} {e : Env} {s : St} {a : Act} {w : World} (r : RelE c w0 T e s a w) : RelE c w0 T e s a { w with drawn := w.drawn + 1 } := by
  have st : Step e e w { w with drawn := w.drawn + 1 } := ⟨fun _ _ h => ⟨h, rfl⟩, fun _ h => ⟨h, rfl, rfl⟩, Nat.le_refl _⟩
  have hb : Below w.heap.size w { w with drawn := w.drawn + 1 } := ⟨rfl, rfl, rfl, Nat.le_refl _, fun _ _ => rfl⟩
  exact ⟨⟨r.env.apart, r.env.owned⟩, r.below.trans (hb.mono r.hB), r.mem.ext hb st (fun _ _ h => h), r.live, r.foe, r.xt.step st, r.slots.step st⟩

section
variable {P : Program} {G : List (Nat × Spec)} {ops : Array Oper} {X : Ext} {c : Cx} {w0 : World} {T : Nat → Prop} {s0 : St} {outs : List Outc} {dec : List (Nat × Bool)}

theorem slot_getD {σ : List AV} {t : Nat} {v : AV} (h : σ[t]? = some v) : σ.getD t .top = v := by simp [List.getD, h]

/-- All of the first operations are done: the state behind them. -/
theorem inv1_end {mm : Nat} (hall : AllOk P G ops.toList (masks ops.toList []) s0.σ s0.m s0.nx mm outs dec) (hlen : outs.length = mm) {L : Array Bool} {a : Act} {w : World}
    (hΦ : c.Φ s0.gh T w0) (hI : Inv1 ops c w0 T s0 outs mm L a w) (hfull : ∀ k, k < mm → inS L k) :
    Rel c { s0 with σ := finS ops.toList mm outs dec s0.σ 0, m := addsFin s0.nx outs outs 0 ++ s0.m, nx := s0.nx + mm } a w := by
  obtain ⟨e, hE, hB, hm0, hadds, hlive, hdef, htsz, hslots⟩ := hI.rel
  refine ⟨w0, T, e, hΦ, hE, hB, ?_, ?_, hdef.1, hdef.2, ?_, ?_⟩
  · intro p hp
    rcases List.mem_append.1 hp with hp | hp
    · obtain ⟨j, c, r, h1, h3, h4, h5, h6⟩ := addsFin_mem hp
      simp only [Nat.zero_add] at h3 h5 h6
      have hj : j < mm := by rw [← hlen]; exact (List.getElem?_eq_some_iff.1 h1).1
      rw [h3, h5]
      obtain ⟨r'', hh, hk1, hk2⟩ := hadds j c (hfull j hj) h1 _ h4 (fun i' ci _ hci he => by rw [ateB_true hci he] at h6; cases h6)
      cases hu : updOf outs j with
      | some r' =>
        obtain ⟨i', ci, hi', hui⟩ := updOf_some hu
        have hi'm : i' < mm := by rw [← hlen]; exact (List.getElem?_eq_some_iff.1 hi').1
        rw [← hk1 i' ci r' (hfull i' hi'm) hi' hui]; exact hh
      | none =>
        rw [← hk2 (fun i' ci r' _ hci => updOf_none hu i' ci r' hci)]; exact hh
    · exact hm0 p hp
  · intro k hk
    show k < s0.nx + mm
    rcases hlive k hk with h | ⟨i, h1, h2⟩
    · omega
    · have := hI.lt i h1; omega
  · rw [finS_length]; simpa using htsz.symm
  · intro t av v hav hv
    rw [finS_get] at hav
    have hv' : a.tmps[t]? = some v := by simpa using hv
    rw [Option.map_eq_some_iff] at hav
    obtain ⟨a0, ha0, rfl⟩ := hav
    have hs := hslots t v hv'
    unfold slotAV at hs
    unfold finV
    simp only [Nat.zero_add]
    cases hwt : writer t ops.toList 0 with
    | none => rw [hwt] at hs; simp only at hs ⊢; rw [slot_getD ha0] at hs; exact hs
    | some k =>
      rw [hwt] at hs
      simp only at hs ⊢
      split
      · rename_i hb
        have hk : k < mm := by simpa [Nat.blt_eq] using hb
        rw [if_pos (show L.getD k false = true from hfull k hk)] at hs
        simp only [decV]
        cases hld : lookD dec k with
        | some d =>
          have := (hall.1 k d hld).2
          rw [this] at hs
          exact hs.litOf
        | none => exact hs
      · rename_i hb
        have hk : ¬ k < mm := fun h => by
          have h' : Nat.blt k mm = true := by rw [Nat.blt_eq]; exact h
          rw [h'] at hb; cases hb
        rw [if_neg (show ¬ L.getD k false = true from fun h => hk (hI.lt k h)), slot_getD ha0] at hs
        exact hs

/-- The first k operations are listed. -/
def firstL (n k : Nat) (L : Array Bool) : Prop := L.size = n ∧ ∀ j, inS L j ↔ j < k

theorem wpOps_op {ro : Option Nat} {n : Nat} {Q : Exit → Act → World → Prop} {i : Nat} {rest : List Nat} {a : Act} {w : World} (h : wpOpsIn (fr ro) n P ops Q (i :: rest) a w) : wpOpIn (fr ro) n P ops Q i (wpOpsIn (fr ro) n P ops Q rest) a w := by
  rwa [wpOpsIn_cons] at h

theorem regD_sound (hG : SoundG P G) (hX : SoundX P X c) (hmix : P.follows .mixedOrders = true) {id : Nat} {s : St} {R : St → Prop} {Q : Exit → Act → World → Prop} (h : (regD P G X ops.toList s).sat R) {a : Act} {w : World} (r : Rel c s a w) {ro : Option Nat} {n : Nat}
    (hQ : ∀ s a w, R s → Rel c s a w → Q .normal a w) : (Code.region id ops true).wpIn (fr ro) n P Q a w := by
  refine wpIn_region_any hmix ?_
  obtain ⟨w0, T, e, hΦ, r⟩ := r
  unfold regD at h
  split at h
  · exact h.elim
  rename_i hwell
  have h2 := Tree.sat_bind h
  generalize hM : masks ops.toList [] = M at h2
  generalize hmm : mmOf M ops.toList.length = mm at h2
  have hmmle : mm ≤ ops.size := by rw [← hmm]; have := mmOf_le M ops.toList.length; simpa using this
  obtain ⟨outs, dec, hsat, hall, hlen⟩ := drawT_sound (P := P) (G := G) (ops := ops.toList) (M := M) (σ0 := s.σ) (m0 := s.m) (nx0 := s.nx) (mm := mm) (ops.toList.take mm) [] [] [] (by simp [Nat.min_eq_left hmmle]) rfl h2 ⟨fun k d hk => by simp [lookD] at hk, fun i o hi => by simp at hi⟩
  have hlen' : outs.length = mm := by rw [hlen]; simp; omega
  subst hM
  have hforced : ∀ k j, mm ≤ k → k < ops.size → j < k → ((masks ops.toList []).getD k 0).testBit j = true := by
    intro k j h1 h2 h3
    exact forced_bit (mmOf_forced _ _ k (by rw [hmm]; exact h1) (by simpa using h2)) h3
  have hdir : ∀ k o, ops[k]? = some o → ∀ j ∈ directP o, j < k := by
    intro k o ho j hj
    have := (wellB_at hwell k o (by simpa using ho)).2 j hj
    simpa using this
  have hm0lt : ∀ p ∈ s.m, p.1 < s.nx := by
    intro p hp
    refine r.live p.1 ?_
    have := r.mem p hp
    obtain ⟨k, res⟩ := p
    cases res with
    | cells T l => exact this.1
    | row T sz n f => exact this.1
    | memo h f => exact this.1
  -- the two phases
  let s1 : St := { s with σ := finS ops.toList mm outs dec s.σ 0, m := addsFin s.nx outs outs 0 ++ s.m, nx := s.nx + mm }
  let Inv : Array Bool → Act → World → Prop := fun L a w => (Inv1 ops c w0 T s outs mm L a w ∧ ∃ k, k < mm ∧ ¬ inS L k) ∨ (∃ k, mm ≤ k ∧ k ≤ ops.size ∧ firstL ops.size k L ∧ wpOpsIn (fr ro) n P ops Q (List.range' k (ops.size - k)) a w)
  have hsecond : ∀ L a w, Inv1 ops c w0 T s outs mm L a w → (∀ k, k < mm → inS L k) → Inv L a w := by
    intro L a w hI hfull
    refine .inr ⟨mm, Nat.le_refl _, hmmle, ⟨hI.size, fun j => ⟨hI.lt j, hfull j⟩⟩, ?_⟩
    exact regT_sound hG hX hQ (ops.toList.drop mm) mm rfl s1 a w hsat (inv1_end hall hlen' hΦ hI hfull)
  have hreadyNil : ∀ (L : Array Bool), L.size = ops.size → Region.ready .any ops L = [] → ∀ k, k < ops.size → inS L k := by
    intro L hsz hr k
    induction k using Nat.strongRecOn with
    | _ k ih =>
      intro hk
      rcases Classical.em (inS L k) with h' | h'
      · exact h'
      · exfalso
        have hmem : k ∈ Region.ready .any ops L := by
          unfold Region.ready
          rw [List.mem_filter]
          refine ⟨List.mem_range.2 hk, ?_⟩
          have hok : ops[k]? = some ops[k] := by simp [hk]
          rw [hok]
          simp only [Option.map_some, Option.getD_some, Bool.and_eq_true, Bool.not_eq_true']
          refine ⟨?_, ?_⟩
          · unfold inS at h'
            simp [Array.getD_eq_getD_getElem?, hsz, hk] at h' ⊢
            exact h'
          · rw [Array.all_eq_true_iff_forall_mem]
            intro ed hed
            cases hb : Region.binds .any ed with
            | false => simp
            | true =>
              have hj : ed.on ∈ directP ops[k] := by
                simp only [directP, List.mem_map, List.mem_filter]
                exact ⟨ed, ⟨by simpa using hed, hb⟩, rfl⟩
              have hlt := hdir k _ hok _ hj
              have := ih ed.on hlt (by omega)
              simpa [inS] using this
        rw [hr] at hmem; cases hmem
  refine wpAny_of Inv ?_ ?_ ?_ ops.size _ a _ ?_ ?_
  · -- a step
    rintro L a w i (⟨hI, k0, hk0, hk0'⟩ | ⟨k, hk1, hk2, ⟨hsz, hfl⟩, hwp⟩) hi
    · obtain ⟨hin, hun, o, ho, hpre⟩ := mem_ready hi
      have him : i < mm := by
        rcases Nat.lt_or_ge i mm with h' | h'
        · exact h'
        · exfalso
          exact hk0' (mask_in hI.dc i o (by simpa using ho) hpre k0 (hforced i k0 h' hin (by omega)))
      refine wpOpIn_mono (fun a' w' hI' => ?_) (step1 hG hwell hall hlen' hmmle hm0lt hI hi him)
      rcases Classical.em (∀ k, k < mm → inS (L.setIfInBounds i true) k) with hf | hf
      · exact hsecond _ _ _ hI' hf
      · refine .inl ⟨hI', ?_⟩
        rcases Classical.not_forall.1 hf with ⟨k, hk⟩
        exact ⟨k, (Classical.not_imp.1 hk).1, (Classical.not_imp.1 hk).2⟩
    · obtain ⟨hin, hun, o, ho, hpre⟩ := mem_ready hi
      have hni : ¬ inS L i := not_inS (by rw [hsz]; exact hin) hun
      have hki : k ≤ i := by rcases Nat.lt_or_ge i k with h' | h'
                             · exact absurd ((hfl i).2 h') hni
                             · exact h'
      have hdc : DC ops.toList L := by
        intro k' o' ho' hk' j hj
        have := hdir k' o' (by simpa using ho') j hj
        have := (hfl k').1 hk'
        exact (hfl j).2 (by omega)
      have hik : i = k := by
        rcases Nat.lt_or_ge k i with h' | h'
        · exfalso
          have := mask_in hdc i o (by simpa using ho) hpre k (hforced i k (by omega) hin h')
          have := (hfl k).1 this
          omega
        · omega
      subst hik
      have e1 : ops.size - i = (ops.size - (i + 1)) + 1 := by omega
      rw [e1, List.range'_succ] at hwp
      refine wpOpIn_mono (fun a' w' hwp' => ?_) (wpOps_op hwp)
      refine .inr ⟨i + 1, by omega, hin, ⟨by simp [hsz], fun j => ?_⟩, hwp'⟩
      rw [inS_set (by rw [hsz]; exact hin), hfl]
      omega
  · rintro L a w (⟨hI, k0, hk0, hk0'⟩ | ⟨k, hk1, hk2, ⟨hsz, hfl⟩, hwp⟩) hr
    · exact absurd (hreadyNil L hI.size hr k0 (by omega)) hk0'
    · have hkn : k = ops.size := by
        rcases Nat.lt_or_ge k ops.size with h' | h'
        · have := (hfl k).1 (hreadyNil L hsz hr k h'); omega
        · omega
      subst hkn
      simpa [wpOpsIn] using hwp
  · rintro L a w (⟨hI, _⟩ | ⟨k, _, _, ⟨hsz, _⟩, _⟩)
    · exact hI.size
    · exact hsz
  · -- the start
    have hno : ∀ k, ¬ inS (Array.replicate ops.size false) k := by
      intro k hk
      unfold inS at hk
      rw [Array.getD_eq_getD_getElem?, Array.getElem?_replicate] at hk
      split at hk <;> cases hk
    have hI : Inv1 ops c w0 T s outs mm (Array.replicate ops.size false) a { w with drawn := w.drawn + 1 } := by
      have r := r.drew
      refine ⟨by simp, fun k o _ hk => absurd hk (hno k), fun k hk => absurd hk (hno k), e, r.env, r.below, r.mem, fun i c hi => absurd hi (hno i), fun k hk => .inl (r.live k hk), ⟨r.foe, r.xt⟩, by simpa using r.slots.1.symm, ?_⟩
      intro t v hv
      have hlt : t < s.σ.length := by
        have h1 := r.slots.1
        have h2 := (Array.getElem?_eq_some_iff.1 hv).1
        simp at h1
        omega
      have hr := r.slots.2 t s.σ[t] v (List.getElem?_eq_getElem hlt) (by simpa using hv)
      unfold slotAV
      have hg : s.σ.getD t .top = s.σ[t] := by simp [List.getD, List.getElem?_eq_getElem hlt]
      split
      · rename_i k hk
        rw [if_neg (show ¬ (Array.replicate ops.size false).getD k false = true from hno k), hg]; exact hr
      · rw [hg]; exact hr
    rcases Nat.eq_zero_or_pos mm with h0 | h0
    · exact hsecond _ _ _ hI (fun k hk => by omega)
    · exact .inl ⟨hI, 0, h0, hno 0⟩
  · unfold unl
    exact Nat.le_trans List.countP_le_length (by simp)
end
end Go.Sx
