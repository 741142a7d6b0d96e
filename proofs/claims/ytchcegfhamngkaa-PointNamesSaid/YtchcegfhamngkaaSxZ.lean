/- A guide through a tree of ways: which way is taken at each fork; what the fork asks is noted. -/
import Derived.Test.YtchcegfhamngkaaSxY
namespace Go.Sx
open Go Go.RowKit

inductive Gd where
  | rest
  | go (b : Bool) (g : Gd)
  | both (g g' : Gd)

def guide {α : Type} : Tree α → Gd → Tree α
  | .fail, _ => .fail
  | .leaf a, _ => .leaf a
  | .need ps t, g => .need ps (guide t g)
  | .branch b t f, g => match g with
    | .rest => .branch b t f
    | .go true g => .need [b = true] (guide t g)
    | .go false g => .need [b = false] (guide f g)
    | .both g g' => .branch b (guide t g) (guide f g')
  | .may p t f, g => match g with
    | .rest => .may p t f
    | .go true g => .may p (guide t g) (guide f g)
    | .go false g => .need [¬ p] (guide f g)
    | .both g g' => .may p (guide t g) (guide f g')

theorem guide_sat {α : Type} {Q : α → Prop} {t : Tree α} : ∀ {g : Gd}, (guide t g).sat Q → t.sat Q := by
  induction t with
  | fail => intro g h; exact h
  | leaf a => intro g h; exact h
  | need ps t ih => intro g h; exact ⟨h.1, ih h.2⟩
  | branch b t f iht ihf =>
    intro g h
    cases g with
    | rest => exact h
    | go d g =>
      cases d
      · obtain ⟨h1, h2⟩ := h
        exact ⟨fun hb => absurd ((show b = false from h1).symm.trans hb) (by decide), fun _ => ihf h2⟩
      · obtain ⟨h1, h2⟩ := h
        exact ⟨fun _ => iht h2, fun hb => absurd ((show b = true from h1).symm.trans hb) (by decide)⟩
    | both g g' => exact ⟨fun hb => iht (h.1 hb), fun hb => ihf (h.2 hb)⟩
  | may p t f iht ihf =>
    intro g h
    cases g with
    | rest => exact h
    | go d g =>
      cases d
      · exact ⟨fun hp => absurd hp h.1, ihf h.2⟩
      · exact ⟨fun hp => iht (h.1 hp), ihf h.2⟩
    | both g g' => exact ⟨fun hp => iht (h.1 hp), ihf h.2⟩

/-- The guided tree, computed. -/
theorem guided {α : Type} {Q : α → Prop} {t t' : Tree α} (g : Gd) (h : guide t g = t') (k : t'.sat Q) : t.sat Q := guide_sat (g := g) (by rw [h]; exact k)

/-- A FUNCTION: its contract, from the guided tree of its results. -/
theorem soundAt_finG {P : Program} {G : List (Nat × Spec)} {X : Ext} {L : List LSpec} {f : FuncId} {fn : Func} {c : Code} {avs : List AV} {res : AV} {t : Tree RV} (g : Gd) (hG : SoundG P G) (hX : ∀ cx, SoundX P X cx) (hmix : P.follows .mixedOrders = true) (hf : P.funcs[f]? = some fn) (hb : fn.body = some c)
    (hL : ∀ j cj, loopAt c j = some cj → ∀ sp, L[j]? = some sp → LSoundN P cj sp) (ht : guide (finT P fn.results.toList (codeX P G X L c 0 (startS fn avs))) g = t) (h : t.sat (fun r => fitP r res)) : SoundAt P f avs res := by
  subst ht
  exact soundAt_ofX hG hX hmix hf hb hL (endOk_fin (guide_sat h))

end Go.Sx
