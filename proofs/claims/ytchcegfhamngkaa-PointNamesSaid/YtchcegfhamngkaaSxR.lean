/- Loops by their rounds: the states at the head and at the ways out are given; what is left to show is a tree of conditions. -/
import Derived.Test.YtchcegfhamngkaaSxQ
namespace Go.Sx
open Go Go.RowKit

/-- The slots that a code fills. -/
def dstsO : List Oper → List Nat
  | [] => []
  | o :: t => match o.dst with
    | some k => k :: dstsO t
    | none => dstsO t

def dsts : Code → List Nat
  | .seq a b => dsts a ++ dsts b
  | .cond _ a b => dsts a ++ dsts b
  | .block _ c => dsts c
  | .scope c => dsts c
  | .loop c => dsts c
  | .rangeFunc _ ps a b => ps.toList ++ dsts a ++ dsts b
  | .region _ ops _ => dstsO ops.toList
  | _ => []

def memN (k : Nat) : List Nat → Bool
  | [] => false
  | j :: t => match Nat.beq j k with
    | true => true
    | false => memN k t

/-- Slots of a list become unknown. -/
def maskS (ds : List Nat) : List AV → Nat → List AV
  | [], _ => []
  | a :: t, k => (match memN k ds with
    | true => .top
    | false => a) :: maskS ds t (k + 1)

/-- Slots by number over others. -/
def ovrS : List (Nat × AV) → List AV → List AV
  | [], σ => σ
  | (k, a) :: t, σ => (ovrS t σ).set k a

/-- The state in which a loop is met that ends in the way out 9999 (to look at it). -/
def entryOf : CT → Option St
  | .leaf (.exit 9999, s) => some s
  | .leaf _ => none
  | .branch _ t f => match entryOf f with
    | some s => some s
    | none => entryOf t
  | .need _ t => entryOf t
  | .may _ t f => match entryOf f with
    | some s => some s
    | none => entryOf t
  | .fail => none

/-- A round: from a state at the head to the next one, or out. -/
def roundT (P : Program) (G : List (Nat × Spec)) (L : List LSpec) (body : Code) (s nxt : St) (out : AEx → Option St) : Tree AEx :=
  (codeT P G L body 0 s).bind fun p => match p.1 with
    | .normal => .needT (subP p.2 nxt) (.leaf .normal)
    | .exit id => match out (.exit id) with
      | some E => .needT (subP p.2 E) (.leaf (.exit id))
      | none => .fail
    | .ret => match out .ret with
      | some E => .needT (subP p.2 E) (.leaf .ret)
      | none => .fail

theorem roundT_sat {P : Program} {G : List (Nat × Spec)} {L : List LSpec} {body : Code} {s nxt : St} {out : AEx → Option St} {R : AEx → Prop} (h : (roundT P G L body s nxt out).sat R) :
    (codeT P G L body 0 s).sat (fun p => match p.1 with
      | .normal => R .normal ∧ allP (subP p.2 nxt)
      | y => ∃ E, out y = some E ∧ R y ∧ allP (subP p.2 E)) := by
  refine Tree.sat_mono ?_ (Tree.sat_bind h)
  rintro ⟨y, s'⟩ hp
  cases y with
  | normal => exact ⟨(Tree.sat_needT hp).2, (Tree.sat_needT hp).1⟩
  | exit id =>
    dsimp only at hp ⊢
    split at hp
    · rename_i E hE
      exact ⟨E, hE, (Tree.sat_needT hp).2, (Tree.sat_needT hp).1⟩
    · exact hp.elim
  | ret =>
    dsimp only at hp ⊢
    split at hp
    · rename_i E hE
      exact ⟨E, hE, (Tree.sat_needT hp).2, (Tree.sat_needT hp).1⟩
    · exact hp.elim

/-- A LOOP, by its rounds: the summary from the state 'inv x0' on. -/
theorem loop_rounds {P : Program} {G : List (Nat × Spec)} {L : List LSpec} (hG : SoundG P G) (hmix : P.follows .mixedOrders = true) {body : Code} (hL : ∀ j cj, loopAt body j = some cj → ∀ sp, L[j]? = some sp → LSound P cj sp)
    {X : Type} (inv : X → St) (I : X → Prop) (μ : X → Nat) (out : X → AEx → Option St) {t : CT} {x0 : X} (h0 : I x0)
    (hok : ∀ x, okB (inv x) = true) (hokO : ∀ x y E, out x y = some E → okB E = true)
    (round : ∀ (Q : AEx × St → Prop), t.sat Q → ∀ x, I x → ∃ x', (roundT P G L body (inv x) (inv x') (out x)).sat (fun y => match y with
      | .normal => I x' ∧ μ x' < μ x
      | y => ∀ E, out x y = some E → Q (y, E))) : LSound P (.loop body) (sumL (inv x0) t) := by
  intro ro cx
  refine sumL_soundC (hok x0) ?_
  intro n Q hQ a w r
  refine loopIn μ (fun x a w => I x ∧ Rel cx (inv x) a w) ?_ ⟨h0, r⟩
  rintro x a w ⟨hx, hr⟩
  obtain ⟨x', hround⟩ := round Q hQ x hx
  refine wpIn_mono (codeX_sound hG (SoundX.nil P cx) hmix body 0 (inv x) _ a w (fun j cj hj sp hsp => hL j cj hj sp (by simpa using hsp) ro cx) (roundT_sat hround) hr) ?_
  rintro ex a₁ w₁ ⟨y, s', rfl, hq, hr'⟩
  cases y with
  | normal =>
    obtain ⟨⟨h1, h2⟩, h3⟩ := hq
    exact ⟨x', h2, h1, sub_rel (allP_mem h3) (hok x') hr'⟩
  | exit id =>
    obtain ⟨E, hE, h1, h3⟩ := hq
    exact ⟨.exit id, E, rfl, h1 E hE, sub_rel (allP_mem h3) (hokO x _ E hE) hr'⟩
  | ret =>
    obtain ⟨E, hE, h1, h3⟩ := hq
    exact ⟨.ret, E, rfl, h1 E hE, sub_rel (allP_mem h3) (hokO x _ E hE) hr'⟩

/-- The first number below n at which p is so, or n. -/
def fstI (p : Nat → Bool) : Nat → Nat
  | 0 => 0
  | n + 1 => match Nat.blt (fstI p n) n with
    | true => fstI p n
    | false => match p n with
      | true => n
      | false => n + 1

theorem fstI_spec (p : Nat → Bool) : ∀ n, fstI p n ≤ n ∧ (∀ j, j < fstI p n → p j = false) ∧ (fstI p n < n → p (fstI p n) = true)
  | 0 => by simp [fstI]
  | n + 1 => by
    obtain ⟨h1, h2, h3⟩ := fstI_spec p n
    unfold fstI
    split
    · rename_i hb
      rw [Nat.blt_eq] at hb
      exact ⟨by omega, h2, fun _ => h3 hb⟩
    · rename_i hb
      rw [← Bool.not_eq_true, Nat.blt_eq] at hb
      have : fstI p n = n := by omega
      rw [this] at h2
      split
      · rename_i hp
        exact ⟨by omega, h2, fun _ => hp⟩
      · rename_i hp
        refine ⟨by omega, fun j hj => ?_, fun h => by omega⟩
        rcases (show j < n ∨ j = n by omega) with h | rfl
        · exact h2 j h
        · exact hp

theorem fstI_eq {p : Nat → Bool} {n k : Nat} (hk : k < n) (hp : p k = true) (hb : ∀ j, j < k → p j = false) : fstI p n = k := by
  obtain ⟨h1, h2, h3⟩ := fstI_spec p n
  rcases Nat.lt_trichotomy (fstI p n) k with h | h | h
  · have := h3 (by omega)
    rw [hb _ h] at this
    cases this
  · exact h
  · rw [h2 k h] at hp
    cases hp

theorem fstI_none {p : Nat → Bool} {n : Nat} (hb : ∀ j, j < n → p j = false) : fstI p n = n := by
  obtain ⟨h1, h2, h3⟩ := fstI_spec p n
  rcases Nat.lt_or_ge (fstI p n) n with h | h
  · have := h3 h
    rw [hb _ h] at this
    cases this
  · omega

/-- Is p so at all numbers below n? -/
def allI (p : Nat → Bool) : Nat → Bool
  | 0 => true
  | n + 1 => allI p n && p n

theorem allI_iff {p : Nat → Bool} : ∀ {n : Nat}, allI p n = true ↔ ∀ j, j < n → p j = true
  | 0 => by simp [allI]
  | n + 1 => by
    rw [allI, Bool.and_eq_true, allI_iff]
    constructor
    · rintro ⟨h1, h2⟩ j hj
      rcases (show j < n ∨ j = n by omega) with h | rfl
      · exact h1 j h
      · exact h2
    · exact fun h => ⟨fun j hj => h j (by omega), h n (by omega)⟩

theorem allI_fst {p : Nat → Bool} {n : Nat} : allI p n = decide (fstI (fun k => !p k) n = n) := by
  obtain ⟨h1, h2, h3⟩ := fstI_spec (fun k => !p k) n
  rw [Bool.eq_iff_iff, allI_iff, decide_eq_true_eq]
  constructor
  · intro h
    exact fstI_none (fun j hj => by simp [h j hj])
  · intro h j hj
    have := h2 j (by omega)
    simpa using this
end Go.Sx
