/- Lists of records of numbers as arguments. -/
import Derived.Test.YtchcegfhamngkaaSxP
namespace Go.Sx
open Go Go.RowKit

def intAt (l : List AV) (j : Nat) : Int := match l[j]? with
  | some (.x (.int _ n)) => n
  | _ => 0

/-- An element of so many ints. -/
def recL : Nat → (Nat → Int) → List AV
  | 0, _ => []
  | k + 1, g => .x (.int .i64 (g 0)) :: recL k (fun j => g (j + 1))

def isRec (sz n : Nat) (f : Nat → List AV) : Prop := ∀ k, k < n → f k = recL sz (intAt (f k))

theorem SoundAt.args {P : Program} {f : FuncId} {avs avs' : List AV} {res : AV} (h : SoundAt P f avs' res) (hr : ∀ e w vs, RepL e w avs vs → RepL e w avs' vs) (hi : (∀ a ∈ avs, Idf a) → ∀ a ∈ avs', Idf a) : SoundAt P f avs res :=
  fun e w args hro hidf hrep => h e w args hro (hi hidf) (hr e w args hrep)

/-- Value for value: the same, or lists that agree within their lengths. -/
inductive Same : AV → AV → Prop
  | refl (a : AV) : Same a a
  | lst (sz n : Nat) (f g : Nat → List AV) : (∀ k, k < n → f k = g k) → Same (.lst sz n f) (.lst sz n g)

theorem Same.rep {e : Env} {w : World} {a b : AV} {v : Value} (h : Same a b) (r : Rep e w a v) : Rep e w b v := by
  cases h with
  | refl => exact r
  | lst sz n f g hfg =>
    cases r with
    | lstNil sz f => exact .lstNil sz g
    | lst sz n f b o cap gg h1 h2 h3 h4 h5 h6 h7 h8 =>
      exact .lst sz n g b o cap gg h1 h2 (fun i hi a ha => h3 i hi a (by rw [hfg i hi]; exact ha)) h4 h5 h6 (fun i hi => by rw [← hfg i hi]; exact h7 i hi) (fun i j a hi ha => h8 i j a hi (by rw [hfg i hi]; exact ha))

theorem Same.idf {a b : AV} (h : Same a b) (k : Idf a) : Idf b := by
  cases h with
  | refl => exact k
  | lst sz n f g hfg => cases k with | lst sz n f k => exact .lst sz n g (fun i hi a ha => k i hi a (by rw [hfg i hi]; exact ha))

/-- Arguments, place by place. -/
inductive Sames : List AV → List AV → Prop
  | nil : Sames [] []
  | cons {a b : AV} {l l' : List AV} : Same a b → Sames l l' → Sames (a :: l) (b :: l')

theorem Sames.rep {e : Env} {w : World} {l l' : List AV} (h : Sames l l') : ∀ {vs : List Value}, RepL e w l vs → RepL e w l' vs := by
  induction h with
  | nil => exact fun r => r
  | cons h1 _ ih =>
    intro vs r
    obtain ⟨v, vs', rfl, hv, hvs⟩ := r.cons_inv
    exact RepL.cons (h1.rep hv) (ih hvs)

theorem Sames.idf {l l' : List AV} (h : Sames l l') : (∀ a ∈ l, Idf a) → ∀ a ∈ l', Idf a := by
  induction h with
  | nil => exact fun _ a ha => by cases ha
  | cons h1 _ ih =>
    intro k a ha
    rcases List.mem_cons.1 ha with rfl | ha
    · exact h1.idf (k _ List.mem_cons_self)
    · exact ih (fun a ha => k a (List.mem_cons_of_mem _ ha)) a ha

theorem SoundAt.same {P : Program} {f : FuncId} {avs avs' : List AV} {res : AV} (h : SoundAt P f avs' res) (k : Sames avs avs') : SoundAt P f avs res := h.args (fun _ _ _ r => k.rep r) k.idf
end Go.Sx
