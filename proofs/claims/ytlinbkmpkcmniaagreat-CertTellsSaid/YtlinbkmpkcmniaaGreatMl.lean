/- Texts of this claim, put together: BoE, BoF, BoG, BoH, BoI, BoJ, BoK, BoL -/
import Derived.Test.YtlinbkmpkcmniaaGreatMk
/- Contracts of functions of the program, by the engine Sx: what each call comes to. Printed by a program of this repo (sxgen.py). -/
set_option linter.unusedSimpArgs false
set_option linter.unusedVariables false
namespace Go.Proofs.YtlinbkmpkcmniaaGreat.Bo
open Go Go.Sx Go.RowKit

def fwS (M : Nat → Nat → Int) (o f t : Nat) : Nat → Nat → Int := bnd M f t (M f o + M o t)
def fwT (M : Nat → Nat → Int) (o f : Nat) : Nat → Nat → Nat → Int
  | 0 => M
  | t + 1 => fwS (fwT M o f t) o f t
def fwF (c : Nat) (M : Nat → Nat → Int) (o : Nat) : Nat → Nat → Nat → Int
  | 0 => M
  | f + 1 => fwT (fwF c M o f) o f (c + 1)
def fwO (c : Nat) (M : Nat → Nat → Int) : Nat → Nat → Nat → Int
  | 0 => M
  | o + 1 => fwF c (fwO c M o) o (c + 1)


def LB (B : Int) (M : Nat → Nat → Int) : Prop := ∀ x y, -B ≤ M x y ∧ M x y ≤ 2000
def JB (B : Int) (o f t : Nat) (M : Nat → Nat → Int) : Prop := ∀ x y, M x y ≤ 2000 ∧ -(6 * B) ≤ M x y ∧ (x = o → -(3 * B) ≤ M x y) ∧ (y = o → -(3 * B) ≤ M x y) ∧ (x = o → y = o → -(2 * B) ≤ M x y) ∧ (¬ (x < f ∨ (x = f ∧ y < t)) → -B ≤ M x y)
theorem JB_start {B : Int} {o : Nat} {M : Nat → Nat → Int} (hB : 0 ≤ B) (h : LB B M) : JB B o 0 0 M := by
  intro x y
  have := h x y
  refine ⟨by omega, by omega, fun _ => by omega, fun _ => by omega, fun _ _ => by omega, fun _ => by omega⟩
theorem JB_step {B : Int} {o f t : Nat} {M : Nat → Nat → Int} (hB : 0 ≤ B) (h : JB B o f t M) : JB B o f (t + 1) (fwS M o f t) := by
  have hft := h f t
  have hfo := h f o
  have hot := h o t
  have hoo := h o o
  have hn := hft.2.2.2.2.2 (by omega)
  intro x y
  have hxy := h x y
  unfold fwS bnd set2
  by_cases hc : x = f ∧ y = t
  · rw [if_pos hc]
    obtain ⟨rfl, rfl⟩ := hc
    by_cases h1 : x = o
    · subst h1
      by_cases h2 : y = x
      · subst h2
        refine ⟨by omega, by omega, fun _ => by omega, fun _ => by omega, fun _ _ => by omega, fun _ => by omega⟩
      · refine ⟨by omega, by omega, fun _ => by have := hoo.2.2.2.2.1 rfl rfl; omega, fun h => absurd h h2, fun _ h => absurd h h2, fun _ => by omega⟩
    · by_cases h2 : y = o
      · subst h2
        refine ⟨by omega, by omega, fun h => absurd h h1, fun _ => by have := hoo.2.2.2.2.1 rfl rfl; omega, fun h => absurd h h1, fun _ => by omega⟩
      · have q1 := hfo.2.2.2.1 rfl
        have q2 := hot.2.2.1 rfl
        refine ⟨by omega, by omega, fun h => absurd h h1, fun h => absurd h h2, fun h => absurd h h1, fun _ => by omega⟩
  · rw [if_neg hc]
    exact ⟨hxy.1, hxy.2.1, hxy.2.2.1, hxy.2.2.2.1, hxy.2.2.2.2.1, fun hv => hxy.2.2.2.2.2 (by omega)⟩
theorem JB_T {B : Int} {o f : Nat} {M : Nat → Nat → Int} (hB : 0 ≤ B) (h : JB B o f 0 M) : ∀ t, JB B o f t (fwT M o f t)
  | 0 => h
  | t + 1 => JB_step hB (JB_T hB h t)
theorem JB_row {B : Int} {o f t : Nat} {M : Nat → Nat → Int} (h : JB B o f t M) : JB B o (f + 1) 0 M := by
  intro x y
  have hxy := h x y
  exact ⟨hxy.1, hxy.2.1, hxy.2.2.1, hxy.2.2.2.1, hxy.2.2.2.2.1, fun hv => hxy.2.2.2.2.2 (by omega)⟩
theorem JB_F {B : Int} {c o : Nat} {M : Nat → Nat → Int} (hB : 0 ≤ B) (h : LB B M) : ∀ f, JB B o f 0 (fwF c M o f)
  | 0 => JB_start hB h
  | f + 1 => JB_row (JB_T hB (JB_F hB h f) (c + 1))
theorem LB_O {c : Nat} {M : Nat → Nat → Int} (h : LB 2001 M) : ∀ o, LB (2001 * 6 ^ o) (fwO c M o)
  | 0 => by
    rw [show (2001 : Int) * 6 ^ 0 = 2001 by decide]
    exact h
  | o + 1 => by
    have ih := LB_O (c := c) h o
    have hp : (0 : Int) ≤ 2001 * 6 ^ o := Int.mul_nonneg (by omega) (Int.pow_nonneg (by omega))
    have hj := JB_F (c := c) (o := o) hp ih (c + 1)
    intro x y
    have := hj x y
    have e : (2001 : Int) * 6 ^ (o + 1) = 6 * (2001 * 6 ^ o) := by rw [Int.pow_succ]; omega
    rw [e]
    exact ⟨this.2.1, this.1⟩
theorem pow6 : ∀ o : Nat, o ≤ 10 → (6 : Int) ^ o ≤ 60466176 := by
  intro o ho
  rcases (show o = 0 ∨ o = 1 ∨ o = 2 ∨ o = 3 ∨ o = 4 ∨ o = 5 ∨ o = 6 ∨ o = 7 ∨ o = 8 ∨ o = 9 ∨ o = 10 by omega) with rfl | rfl | rfl | rfl | rfl | rfl | rfl | rfl | rfl | rfl | rfl <;> decide
theorem fw_in {c : Nat} {M : Nat → Nat → Int} (h : LB 2001 M) {o f t : Nat} (ho : o ≤ 10) (x y : Nat) : -800000000000 ≤ fwT (fwF c (fwO c M o) o f) o f t x y ∧ fwT (fwF c (fwO c M o) o f) o f t x y ≤ 2000 := by
  have ih := LB_O (c := c) h o
  have hp : (0 : Int) ≤ 2001 * 6 ^ o := Int.mul_nonneg (by omega) (Int.pow_nonneg (by omega))
  have hj := JB_T hp (JB_F (c := c) (o := o) hp ih f) t x y
  have := pow6 o ho
  omega
theorem bnd_lb {B : Int} {M : Nat → Nat → Int} (h : LB B M) {a b : Nat} {v : Int} (hv : -B ≤ v) : LB B (bnd M a b v) := by
  intro x y
  have h1 := h a b
  have h2 := h x y
  unfold bnd set2
  split <;> omega
theorem cel_lb {c : Nat} {lo hi : Int} (h : 1 ≤ lo ∧ lo ≤ hi ∧ hi ≤ 200) : ∀ k, LB 2001 (cel c lo hi k)
  | 0 => by
    intro x y
    unfold cel ini
    split <;> omega
  | k + 1 => bnd_lb (bnd_lb (cel_lb h k) (by omega)) (by omega)
theorem rdM_lb {c : Nat} {T lo hi : Int} {a b u v : Nat → Int} {n : Nat} (h : 1 ≤ lo ∧ lo ≤ hi ∧ hi ≤ 200 ∧ 1 ≤ T ∧ T ≤ 2000) (hv : ∀ j, j < n → 0 ≤ u j ∧ u j ≤ v j ∧ v j ≤ 2000) : ∀ k, k ≤ n → LB 2001 (rdM c T lo hi a b u v k)
  | 0, _ => bnd_lb (bnd_lb (cel_lb (by omega) c) (by omega)) (by omega)
  | k + 1, hk => by
    have ih := rdM_lb (c := c) (a := a) (b := b) h hv k (by omega)
    have := hv k (by omega)
    show LB 2001 (rdS _ _ _ _ _ _)
    unfold rdS
    split
    · exact bnd_lb (bnd_lb ih (by omega)) (by omega)
    · exact bnd_lb ih (by omega)

noncomputable def E_re (c : Nat) (T lo hi : Int) (n : Nat) (a b u v : Nat → Int) : St := (some { σ := [AV.agg [iI (↑c : Int), iI T, iI lo, iI hi], AV.lst 4 n fun k => [iI (a k), iI (b k), iI (u k), iI (v k)], AV.ptr 0 0, AV.top, AV.x (Value.pointer none), AV.lit false, AV.ptr 5 0, AV.top, AV.top, AV.top, AV.mp 63, AV.top, AV.top, AV.top, AV.top, AV.top, AV.top, AV.top, AV.top, AV.top, AV.top, AV.top, iI ((↑c : Int) + (1 : Int)), iI ((↑c : Int) + (1 : Int)), AV.top, AV.top, AV.top, AV.top, AV.top, AV.top, AV.top, AV.top, AV.top, AV.top, AV.top, AV.top, AV.top, AV.top, AV.top, AV.top, AV.top, AV.top, AV.top, AV.top, AV.top, iI (↑c : Int), iI (↑c : Int), AV.top, AV.top, AV.top, AV.top, AV.top, AV.top, AV.top, AV.top, AV.top, AV.top, AV.top, AV.top, AV.top, AV.top, AV.top, AV.top, AV.top, AV.top, AV.top, AV.top, AV.top, AV.top, AV.top, AV.top, AV.top, AV.top, AV.top, AV.top, AV.top, AV.top, AV.top, AV.top, AV.top, AV.top, AV.lst 4 n fun k => [iI (a k), iI (b k), iI (u k), iI (v k)], iI (↑n : Int), iI (↑n : Int), AV.top, AV.top, AV.top, AV.top, AV.top, AV.top, AV.top, AV.top, AV.top, AV.top, AV.top, AV.top, AV.top, AV.top, AV.top, AV.top, AV.top, AV.top, AV.top, AV.top, AV.top, AV.top, AV.top, AV.top, AV.top, AV.top, AV.top, AV.top, AV.top, AV.top, AV.top, AV.top, AV.top, AV.top, AV.top, AV.top, AV.top, iI ((↑c : Int) + (1 : Int)), AV.top, AV.top, AV.top, AV.top, AV.top, AV.top, AV.top, AV.top, AV.top, AV.top, AV.top, AV.top, AV.top, AV.top, AV.top, AV.top, AV.top, AV.top, AV.top, AV.top, AV.top, AV.top, AV.top, AV.top, AV.top, AV.top, AV.top, AV.top, AV.top, AV.top, AV.top, AV.top, AV.top, AV.top, AV.top, AV.top, AV.top, AV.top, AV.top, AV.top, AV.top, AV.top, AV.top, AV.top, AV.top, AV.top, AV.top, AV.top, AV.top, AV.top, AV.top, AV.top, AV.top, AV.top, AV.top, AV.top], m := [(5, Res.ints 217 [] 125 fun k => siteF (↑c : Int) T lo hi (rdM c T lo hi a b u v n) k), (0, Res.cells 42 [iI (↑c : Int), iI T, iI lo, iI hi]), (63, Res.memo (fun x => sn a b u v n x) fun x => Value.bool true)], nx := 72 } : Option St).getD { σ := [], m := [], nx := 0 }

noncomputable def B_re : Code := loopBody (loopAt (bodyOf Tryz.f121) 3)
noncomputable def inv_re (c : Nat) (T lo hi : Int) (n : Nat) (a b u v : Nat → Int) (o : Nat) : St := { σ := ovrS [(122, i o)] (E_re c T lo hi n a b u v).σ, m := [(5, .ints 217 [] 125 (siteF c T lo hi (fwO c (rdM c T lo hi a b u v n) o))), (0, .cells 42 [i c, i T, i lo, i hi])], nx := (E_re c T lo hi n a b u v).nx }
noncomputable def out_re (c : Nat) (T lo hi : Int) (n : Nat) (a b u v : Nat → Int) (o : Nat) : AEx → Option St := fun ex => match ex with
  | .exit 8 => some { σ := ovrS [(122, i ((c : Int) + 1))] (E_re c T lo hi n a b u v).σ, m := [(5, .ints 217 [] 125 (siteF c T lo hi (fwO c (rdM c T lo hi a b u v n) (c + 1)))), (0, .cells 42 [i c, i T, i lo, i hi])], nx := (E_re c T lo hi n a b u v).nx }
  | _ => none
noncomputable def T_re (c : Nat) (T lo hi : Int) (n : Nat) (a b u v : Nat → Int) : CT := .leaf (.exit 8, ( out_re c T lo hi n a b u v 0 (.exit 8)).getD (E_re c T lo hi n a b u v))
noncomputable def LS_re (c : Nat) (T lo hi : Int) (n : Nat) (a b u v : Nat → Int) : LSpec := normSp [] (sumL (inv_re c T lo hi n a b u v (0)) (T_re c T lo hi n a b u v))
noncomputable def E_rf (c : Nat) (T lo hi : Int) (n : Nat) (a b u v : Nat → Int) (o : Nat) : St := (some { σ := [AV.agg [iI (↑c : Int), iI T, iI lo, iI hi], AV.lst 4 n fun k => [iI (a k), iI (b k), iI (u k), iI (v k)], AV.ptr 0 0, AV.top, AV.x (Value.pointer none), AV.lit false, AV.ptr 5 0, AV.top, AV.top, AV.top, AV.mp 63, AV.top, AV.top, iI (↑o : Int), AV.top, AV.top, AV.top, AV.top, AV.top, AV.top, AV.top, AV.top, iI ((↑c : Int) + (1 : Int)), iI ((↑c : Int) + (1 : Int)), AV.top, AV.top, AV.top, AV.top, AV.top, AV.top, AV.top, AV.top, AV.top, AV.top, AV.top, AV.top, AV.top, AV.top, AV.top, AV.top, AV.top, AV.top, AV.top, AV.top, AV.top, iI (↑c : Int), iI (↑c : Int), AV.top, AV.top, AV.top, AV.top, AV.top, AV.top, AV.top, AV.top, AV.top, AV.top, AV.top, AV.top, AV.top, AV.top, AV.top, AV.top, AV.top, AV.top, AV.top, AV.top, AV.top, AV.top, AV.top, AV.top, AV.top, AV.top, AV.top, AV.top, AV.top, AV.top, AV.top, AV.top, AV.top, AV.top, AV.lst 4 n fun k => [iI (a k), iI (b k), iI (u k), iI (v k)], iI (↑n : Int), iI (↑n : Int), AV.top, AV.top, AV.top, AV.top, AV.top, AV.top, AV.top, AV.top, AV.top, AV.top, AV.top, AV.top, AV.top, AV.top, AV.top, AV.top, AV.top, AV.top, AV.top, AV.top, AV.top, AV.top, AV.top, AV.top, AV.top, AV.top, AV.top, AV.top, AV.top, AV.top, AV.top, AV.top, AV.top, AV.top, AV.top, AV.top, AV.top, iI ((↑c : Int) + (1 : Int)), iI (↑o : Int), AV.top, AV.top, AV.top, AV.top, iI ((↑c : Int) + (1 : Int)), AV.top, AV.top, AV.top, AV.top, AV.top, AV.top, AV.top, AV.top, AV.top, AV.top, AV.top, AV.top, AV.top, AV.top, AV.top, AV.top, AV.top, AV.top, AV.top, AV.top, AV.top, AV.top, AV.top, AV.top, AV.top, AV.top, AV.top, AV.top, AV.top, AV.top, AV.top, AV.top, AV.top, AV.top, AV.top, AV.top, AV.top, AV.top, AV.top, AV.top, AV.top, AV.top, AV.top, AV.top, AV.top, AV.top, AV.top, AV.top, AV.top, AV.top], m := [(5, Res.ints 217 [] 125 fun k => siteF (↑c : Int) T lo hi (fwO c (rdM c T lo hi a b u v n) o) k), (0, Res.cells 42 [iI (↑c : Int), iI T, iI lo, iI hi])], nx := 79 } : Option St).getD { σ := [], m := [], nx := 0 }

noncomputable def B_rf : Code := (loopBody (loopAt (loopBody (loopAt (bodyOf Tryz.f121) 3)) 0))
noncomputable def inv_rf (c : Nat) (T lo hi : Int) (n : Nat) (a b u v : Nat → Int) (o : Nat) (f : Nat) : St := { σ := ovrS [(128, i f)] (E_rf c T lo hi n a b u v o).σ, m := [(5, .ints 217 [] 125 (siteF c T lo hi (fwF c (fwO c (rdM c T lo hi a b u v n) o) o f))), (0, .cells 42 [i c, i T, i lo, i hi])], nx := (E_rf c T lo hi n a b u v o).nx }
noncomputable def out_rf (c : Nat) (T lo hi : Int) (n : Nat) (a b u v : Nat → Int) (o : Nat) (f : Nat) : AEx → Option St := fun ex => match ex with
  | .exit 10 => some { σ := ovrS [(128, i ((c : Int) + 1))] (E_rf c T lo hi n a b u v o).σ, m := [(5, .ints 217 [] 125 (siteF c T lo hi (fwF c (fwO c (rdM c T lo hi a b u v n) o) o (c + 1)))), (0, .cells 42 [i c, i T, i lo, i hi])], nx := (E_rf c T lo hi n a b u v o).nx }
  | _ => none
noncomputable def T_rf (c : Nat) (T lo hi : Int) (n : Nat) (a b u v : Nat → Int) (o : Nat) : CT := .leaf (.exit 10, ( out_rf c T lo hi n a b u v o 0 (.exit 10)).getD (E_rf c T lo hi n a b u v o))
noncomputable def LS_rf (c : Nat) (T lo hi : Int) (n : Nat) (a b u v : Nat → Int) (o : Nat) : LSpec := normSp [] (sumL (inv_rf c T lo hi n a b u v o (0)) (T_rf c T lo hi n a b u v o))
noncomputable def E_rg (c : Nat) (T lo hi : Int) (n : Nat) (a b u v : Nat → Int) (o : Nat) (f : Nat) : St := (some { σ := [AV.agg [iI (↑c : Int), iI T, iI lo, iI hi], AV.lst 4 n fun k => [iI (a k), iI (b k), iI (u k), iI (v k)], AV.ptr 0 0, AV.top, AV.x (Value.pointer none), AV.lit false, AV.ptr 5 0, AV.top, AV.top, AV.top, AV.mp 63, AV.top, AV.top, iI (↑o : Int), iI (↑f : Int), AV.top, AV.top, AV.top, AV.top, AV.top, AV.top, AV.top, iI ((↑c : Int) + (1 : Int)), iI ((↑c : Int) + (1 : Int)), AV.top, AV.top, AV.top, AV.top, AV.top, AV.top, AV.top, AV.top, AV.top, AV.top, AV.top, AV.top, AV.top, AV.top, AV.top, AV.top, AV.top, AV.top, AV.top, AV.top, AV.top, iI (↑c : Int), iI (↑c : Int), AV.top, AV.top, AV.top, AV.top, AV.top, AV.top, AV.top, AV.top, AV.top, AV.top, AV.top, AV.top, AV.top, AV.top, AV.top, AV.top, AV.top, AV.top, AV.top, AV.top, AV.top, AV.top, AV.top, AV.top, AV.top, AV.top, AV.top, AV.top, AV.top, AV.top, AV.top, AV.top, AV.top, AV.top, AV.lst 4 n fun k => [iI (a k), iI (b k), iI (u k), iI (v k)], iI (↑n : Int), iI (↑n : Int), AV.top, AV.top, AV.top, AV.top, AV.top, AV.top, AV.top, AV.top, AV.top, AV.top, AV.top, AV.top, AV.top, AV.top, AV.top, AV.top, AV.top, AV.top, AV.top, AV.top, AV.top, AV.top, AV.top, AV.top, AV.top, AV.top, AV.top, AV.top, AV.top, AV.top, AV.top, AV.top, AV.top, AV.top, AV.top, AV.top, AV.top, iI ((↑c : Int) + (1 : Int)), iI (↑o : Int), AV.top, AV.top, AV.top, AV.top, iI ((↑c : Int) + (1 : Int)), iI (↑f : Int), AV.top, AV.top, AV.top, AV.top, iI ((↑c : Int) + (1 : Int)), AV.top, AV.top, AV.top, AV.top, AV.top, AV.top, AV.top, AV.top, AV.top, AV.top, AV.top, AV.top, AV.top, AV.top, AV.top, AV.top, AV.top, AV.top, AV.top, AV.top, AV.top, AV.top, AV.top, AV.top, AV.top, AV.top, AV.top, AV.top, AV.top, AV.top, AV.top, AV.top, AV.top, AV.top, AV.top, AV.top, AV.top, AV.top, AV.top, AV.top, AV.top, AV.top, AV.top, AV.top], m := [(5, Res.ints 217 [] 125 fun k => siteF (↑c : Int) T lo hi (fwF c (fwO c (rdM c T lo hi a b u v n) o) o f) k), (0, Res.cells 42 [iI (↑c : Int), iI T, iI lo, iI hi])], nx := 86 } : Option St).getD { σ := [], m := [], nx := 0 }

noncomputable def B_rg : Code := (loopBody (loopAt (loopBody (loopAt (loopBody (loopAt (bodyOf Tryz.f121) 3)) 0)) 0))
noncomputable def inv_rg (c : Nat) (T lo hi : Int) (n : Nat) (a b u v : Nat → Int) (o : Nat) (f : Nat) (t : Nat) : St := { σ := ovrS [(134, i t)] (E_rg c T lo hi n a b u v o f).σ, m := [(5, .ints 217 [] 125 (siteF c T lo hi (fwT (fwF c (fwO c (rdM c T lo hi a b u v n) o) o f) o f t))), (0, .cells 42 [i c, i T, i lo, i hi])], nx := (E_rg c T lo hi n a b u v o f).nx }
noncomputable def out_rg (c : Nat) (T lo hi : Int) (n : Nat) (a b u v : Nat → Int) (o : Nat) (f : Nat) (t : Nat) : AEx → Option St := fun ex => match ex with
  | .exit 12 => some { σ := ovrS [(134, i ((c : Int) + 1))] (E_rg c T lo hi n a b u v o f).σ, m := [(5, .ints 217 [] 125 (siteF c T lo hi (fwT (fwF c (fwO c (rdM c T lo hi a b u v n) o) o f) o f (c + 1)))), (0, .cells 42 [i c, i T, i lo, i hi])], nx := (E_rg c T lo hi n a b u v o f).nx }
  | _ => none
noncomputable def T_rg (c : Nat) (T lo hi : Int) (n : Nat) (a b u v : Nat → Int) (o : Nat) (f : Nat) : CT := .leaf (.exit 12, ( out_rg c T lo hi n a b u v o f 0 (.exit 12)).getD (E_rg c T lo hi n a b u v o f))
noncomputable def LS_rg (c : Nat) (T lo hi : Int) (n : Nat) (a b u v : Nat → Int) (o : Nat) (f : Nat) : LSpec := normSp [] (sumL (inv_rg c T lo hi n a b u v o f (0)) (T_rg c T lo hi n a b u v o f))
set_option maxRecDepth 100000 in
theorem rg_ls (c : Nat) (T lo hi : Int) (n : Nat) (a b u v : Nat → Int) (o : Nat) (f : Nat) (pre0 : 1 ≤ c ∧ c ≤ 10) (pre1 : 1 ≤ lo ∧ lo ≤ hi ∧ hi ≤ 200 ∧ 1 ≤ T ∧ T ≤ 2000) (pre2 : n ≤ 1000) (pre3 : allI (fun k => rdB c (a k) (b k) (u k) (v k)) n = true) (pre4 : o ≤ c) (pre5 : f ≤ c) : LSound Tryz.prog (.loop B_rg) (LS_rg c T lo hi n a b u v o f) := by
  refine loop_roundsX [] (E := { R := [], H := [(141, H_bound)] }) (G := [(157, S_least)]) (L := []) (SoundG.cons least_ok (SoundG.nil _)) (SoundX.of (SoundRL.nil _) (SoundHL.cons bound_okH (SoundHL.nil _))) mixed noLoops (X := Nat) (inv_rg c T lo hi n a b u v o f) (fun t => t ≤ c + 1) (fun t => c + 1 - t) (out_rg c T lo hi n a b u v o f) (x0 := 0) (by simp) ?_ ?_ ?_
  · rintro t
    kernel_rfl
  · rintro t y E h
    unfold out_rg at h
    split at h
    · cases h; kernel_rfl
    · cases h
  · rintro Q hQ t hx
    refine ⟨(t + 1), ?_⟩
    have e : roundX Tryz.prog [(157, S_least)] { R := [], H := [(141, H_bound)] } [] [] B_rg (inv_rg c T lo hi n a b u v o f t) (inv_rg c T lo hi n a b u v o f ((t + 1))) (out_rg c T lo hi n a b u v o f t) = (Tree.branch (decide ((↑t : Int) < (↑c : Int) + (1 : Int))) (Tree.need [(0 : Int) ≤ (↑f : Int) ∧ (↑f : Int) < (↑(11 : Nat) : Int)] (Tree.need [(0 : Int) ≤ (↑o : Int) ∧ (↑o : Int) < (↑(11 : Nat) : Int)] (Tree.need [o * 1 + (f * 11 + 4) < 125] (Tree.need [(0 : Int) ≤ (↑o : Int) ∧ (↑o : Int) < (↑(11 : Nat) : Int)] (Tree.need [(0 : Int) ≤ (↑t : Int) ∧ (↑t : Int) < (↑(11 : Nat) : Int)] (Tree.need [t * 1 + (o * 11 + 4) < 125] (Tree.need [inI64 (siteF (↑c : Int) T lo hi (fwT (fwF c (fwO c (rdM c T lo hi a b u v n) o) o f) o f t) (o * 1 + (f * 11 + 4)) + siteF (↑c : Int) T lo hi (fwT (fwF c (fwO c (rdM c T lo hi a b u v n) o) o f) o f t) (t * 1 + (o * 11 + 4)))] (Tree.need [(0 : Int) ≤ (↑f : Int) ∧ (↑f : Int) < (↑(11 : Nat) : Int)] (Tree.need [(0 : Int) ≤ (↑t : Int) ∧ (↑t : Int) < (↑(11 : Nat) : Int)] (Tree.need [t * 1 + (f * 11 + 4) < 125] (Tree.need [(0 : Int) ≤ (↑f : Int) ∧ (↑f : Int) < (↑(11 : Nat) : Int)] (Tree.need [(0 : Int) ≤ (↑t : Int) ∧ (↑t : Int) < (↑(11 : Nat) : Int)] (Tree.need [t * 1 + (f * 11 + 4) + List.length [min (siteF (↑c : Int) T lo hi (fwT (fwF c (fwO c (rdM c T lo hi a b u v n) o) o f) o f t) (t * 1 + (f * 11 + 4))) (siteF (↑c : Int) T lo hi (fwT (fwF c (fwO c (rdM c T lo hi a b u v n) o) o f) o f t) (o * 1 + (f * 11 + 4)) + siteF (↑c : Int) T lo hi (fwT (fwF c (fwO c (rdM c T lo hi a b u v n) o) o f) o f t) (t * 1 + (o * 11 + 4)))] ≤ 125] (Tree.need [inI64 ((↑t : Int) + (1 : Int))] (Tree.need [AV.agg [iI (↑c : Int), iI T, iI lo, iI hi] = AV.agg [iI (↑c : Int), iI T, iI lo, iI hi], (AV.lst 4 n fun k => [iI (a k), iI (b k), iI (u k), iI (v k)]) = AV.lst 4 n fun k => [iI (a k), iI (b k), iI (u k), iI (v k)], AV.ptr 0 0 = AV.ptr 0 0, AV.x (Value.pointer none) = AV.x (Value.pointer none), AV.lit false = AV.lit false, AV.ptr 5 0 = AV.ptr 5 0, AV.mp 63 = AV.mp 63, (↑o : Int) = (↑o : Int), (↑f : Int) = (↑f : Int), (↑c : Int) + (1 : Int) = (↑c : Int) + (1 : Int), (↑c : Int) + (1 : Int) = (↑c : Int) + (1 : Int), (↑c : Int) = (↑c : Int), (↑c : Int) = (↑c : Int), (AV.lst 4 n fun k => [iI (a k), iI (b k), iI (u k), iI (v k)]) = AV.lst 4 n fun k => [iI (a k), iI (b k), iI (u k), iI (v k)], (↑n : Int) = (↑n : Int), (↑n : Int) = (↑n : Int), (↑c : Int) + (1 : Int) = (↑c : Int) + (1 : Int), (↑o : Int) = (↑o : Int), (↑c : Int) + (1 : Int) = (↑c : Int) + (1 : Int), (↑f : Int) = (↑f : Int), (↑c : Int) + (1 : Int) = (↑c : Int) + (1 : Int), (↑t : Int) + (1 : Int) = (↑(t + 1) : Int), 125 = 125, ∀ (k : Nat), k < 125 → updI (t * 1 + (f * 11 + 4)) (min (siteF (↑c : Int) T lo hi (fwT (fwF c (fwO c (rdM c T lo hi a b u v n) o) o f) o f t) (t * 1 + (f * 11 + 4))) (siteF (↑c : Int) T lo hi (fwT (fwF c (fwO c (rdM c T lo hi a b u v n) o) o f) o f t) (o * 1 + (f * 11 + 4)) + siteF (↑c : Int) T lo hi (fwT (fwF c (fwO c (rdM c T lo hi a b u v n) o) o f) o f t) (t * 1 + (o * 11 + 4)))) (siteF (↑c : Int) T lo hi (fwT (fwF c (fwO c (rdM c T lo hi a b u v n) o) o f) o f t)) k = siteF (↑c : Int) T lo hi (fwT (fwF c (fwO c (rdM c T lo hi a b u v n) o) o f) o f (t + 1)) k, (↑c : Int) = (↑c : Int), T = T, lo = lo, hi = hi] (Tree.leaf AEx.normal)))))))))))))))) (Tree.need [AV.agg [iI (↑c : Int), iI T, iI lo, iI hi] = AV.agg [iI (↑c : Int), iI T, iI lo, iI hi], (AV.lst 4 n fun k => [iI (a k), iI (b k), iI (u k), iI (v k)]) = AV.lst 4 n fun k => [iI (a k), iI (b k), iI (u k), iI (v k)], AV.ptr 0 0 = AV.ptr 0 0, AV.x (Value.pointer none) = AV.x (Value.pointer none), AV.lit false = AV.lit false, AV.ptr 5 0 = AV.ptr 5 0, AV.mp 63 = AV.mp 63, (↑o : Int) = (↑o : Int), (↑f : Int) = (↑f : Int), (↑c : Int) + (1 : Int) = (↑c : Int) + (1 : Int), (↑c : Int) + (1 : Int) = (↑c : Int) + (1 : Int), (↑c : Int) = (↑c : Int), (↑c : Int) = (↑c : Int), (AV.lst 4 n fun k => [iI (a k), iI (b k), iI (u k), iI (v k)]) = AV.lst 4 n fun k => [iI (a k), iI (b k), iI (u k), iI (v k)], (↑n : Int) = (↑n : Int), (↑n : Int) = (↑n : Int), (↑c : Int) + (1 : Int) = (↑c : Int) + (1 : Int), (↑o : Int) = (↑o : Int), (↑c : Int) + (1 : Int) = (↑c : Int) + (1 : Int), (↑f : Int) = (↑f : Int), (↑c : Int) + (1 : Int) = (↑c : Int) + (1 : Int), (↑t : Int) = (↑c : Int) + (1 : Int), 125 = 125, ∀ (k : Nat), k < 125 → siteF (↑c : Int) T lo hi (fwT (fwF c (fwO c (rdM c T lo hi a b u v n) o) o f) o f t) k = siteF (↑c : Int) T lo hi (fwT (fwF c (fwO c (rdM c T lo hi a b u v n) o) o f) o f (c + 1)) k, (↑c : Int) = (↑c : Int), T = T, lo = lo, hi = hi] (Tree.leaf (AEx.exit 12)))) := by kernel_rfl
    rw [e]
    simp only [T_rg, out_rg, Tree.sat, Option.getD_some] at hQ
    simp only [Tree.sat, allP, fitP, fitL, valEq, inI64, true_and, and_true, decide_eq_true_eq, decide_eq_false_iff_not, Int.natCast_zero, Int.toNat_natCast, bne_iff_ne, ne_eq, bne_eq_false_iff_eq, List.length_cons, List.length_nil, updL_one, out_rg]
    clear e
    
    have hv : ∀ j, j < n → 0 ≤ u j ∧ u j ≤ v j ∧ v j ≤ 2000 := by
      intro j hj
      have := allI_iff.1 pre3 j hj
      simp only [rdB, Bool.and_eq_true, bt_iff, insB_iff] at this
      omega
    have hl := fun x y => fw_in (c := c) (rdM_lb (c := c) (a := a) (b := b) pre1 hv n (Nat.le_refl _)) (o := o) (f := f) (t := t) (by omega) x y
    have hfo := hl f o
    have hot := hl o t
    refine ⟨fun h => ?_, fun h => ?_⟩
    · have h1 : ∀ M, siteF c T lo hi M (o * 1 + (f * 11 + 4)) = M f o := fun M => site_get _ _ _ _ _ (by omega) (by omega)
      have h2 : ∀ M, siteF c T lo hi M (t * 1 + (o * 11 + 4)) = M o t := fun M => site_get _ _ _ _ _ (by omega) (by omega)
      have h3 : ∀ M v, updI (t * 1 + (f * 11 + 4)) (min (siteF c T lo hi M (t * 1 + (f * 11 + 4))) v) (siteF c T lo hi M) = siteF c T lo hi (bnd M f t v) := fun M v => bnd_set (by omega) (by omega)
      simp only [h3]
      simp only [h1, h2]
      (repeat' first | with_reducible apply And.intro | with_reducible intro _)
      all_goals first | exact True.intro | omega | with_reducible rfl | (rename_i E hE; cases hE; exact hQ) | rfl
    · obtain rfl : t = c + 1 := by omega
      (repeat' first | with_reducible apply And.intro | with_reducible intro _)
      all_goals first | exact True.intro | omega | with_reducible rfl | (rename_i E hE; cases hE; exact hQ) | rfl

set_option maxRecDepth 100000 in
theorem rf_ls (c : Nat) (T lo hi : Int) (n : Nat) (a b u v : Nat → Int) (o : Nat) (pre0 : 1 ≤ c ∧ c ≤ 10) (pre1 : 1 ≤ lo ∧ lo ≤ hi ∧ hi ≤ 200 ∧ 1 ≤ T ∧ T ≤ 2000) (pre2 : n ≤ 1000) (pre3 : allI (fun k => rdB c (a k) (b k) (u k) (v k)) n = true) (pre4 : o ≤ c) : LSound Tryz.prog (.loop B_rf) (LS_rf c T lo hi n a b u v o) := by
  refine loop_roundsX [] (E := { R := [], H := [(141, H_bound)] }) (G := [(157, S_least)]) (L := [depSp 14 (fun k => needSp [k ≤ c] (LS_rg c T lo hi n a b u v o k))]) (SoundG.cons least_ok (SoundG.nil _)) (SoundX.of (SoundRL.nil _) (SoundHL.cons bound_okH (SoundHL.nil _))) mixed (one_loop (fun cj hcj => by
    have e : loopAt B_rf 0 = some (.loop B_rg) := by kernel_rfl
    rw [e] at hcj; cases hcj
    exact depSp_sound (fun k => needSp_sound (fun h => rg_ls c T lo hi n a b u v o k pre0 pre1 pre2 pre3 pre4 h)))) (X := Nat) (inv_rf c T lo hi n a b u v o) (fun f => f ≤ c + 1) (fun f => c + 1 - f) (out_rf c T lo hi n a b u v o) (x0 := 0) (by simp) ?_ ?_ ?_
  · rintro f
    kernel_rfl
  · rintro f y E h
    unfold out_rf at h
    split at h
    · cases h; kernel_rfl
    · cases h
  · rintro Q hQ f hx
    refine ⟨(f + 1), ?_⟩
    have e : roundX Tryz.prog [(157, S_least)] { R := [], H := [(141, H_bound)] } [depSp 14 (fun k => needSp [k ≤ c] (LS_rg c T lo hi n a b u v o k))] [] B_rf (inv_rf c T lo hi n a b u v o f) (inv_rf c T lo hi n a b u v o ((f + 1))) (out_rf c T lo hi n a b u v o f) = (Tree.branch (decide ((↑f : Int) < (↑c : Int) + (1 : Int))) (Tree.need [inI64 ((↑c : Int) + (1 : Int))] (Tree.need [f ≤ c] (Tree.need [AV.agg [iI (↑c : Int), iI T, iI lo, iI hi] = AV.agg [iI (↑c : Int), iI T, iI lo, iI hi], (AV.lst 4 n fun k => [iI (a k), iI (b k), iI (u k), iI (v k)]) = AV.lst 4 n fun k => [iI (a k), iI (b k), iI (u k), iI (v k)], AV.ptr 0 0 = AV.ptr 0 0, AV.x (Value.pointer none) = AV.x (Value.pointer none), AV.lit false = AV.lit false, AV.ptr 5 0 = AV.ptr 5 0, AV.mp 63 = AV.mp 63, (↑o : Int) = (↑o : Int), (↑f : Int) = (↑f : Int), (↑c : Int) + (1 : Int) = (↑c : Int) + (1 : Int), (↑c : Int) + (1 : Int) = (↑c : Int) + (1 : Int), (↑c : Int) = (↑c : Int), (↑c : Int) = (↑c : Int), (AV.lst 4 n fun k => [iI (a k), iI (b k), iI (u k), iI (v k)]) = AV.lst 4 n fun k => [iI (a k), iI (b k), iI (u k), iI (v k)], (↑n : Int) = (↑n : Int), (↑n : Int) = (↑n : Int), (↑c : Int) + (1 : Int) = (↑c : Int) + (1 : Int), (↑o : Int) = (↑o : Int), (↑c : Int) + (1 : Int) = (↑c : Int) + (1 : Int), (↑f : Int) = (↑f : Int), (↑c : Int) + (1 : Int) = (↑c : Int) + (1 : Int), (0 : Int) = (↑(0 : Nat) : Int), 125 = 125, ∀ (k : Nat), k < 125 → siteF (↑c : Int) T lo hi (fwF c (fwO c (rdM c T lo hi a b u v n) o) o f) k = siteF (↑c : Int) T lo hi (fwT (fwF c (fwO c (rdM c T lo hi a b u v n) o) o f) o f 0) k, (↑c : Int) = (↑c : Int), T = T, lo = lo, hi = hi] (Tree.need [inI64 ((↑f : Int) + (1 : Int))] (Tree.need [AV.agg [iI (↑c : Int), iI T, iI lo, iI hi] = AV.agg [iI (↑c : Int), iI T, iI lo, iI hi], (AV.lst 4 n fun k => [iI (a k), iI (b k), iI (u k), iI (v k)]) = AV.lst 4 n fun k => [iI (a k), iI (b k), iI (u k), iI (v k)], AV.ptr 0 0 = AV.ptr 0 0, AV.x (Value.pointer none) = AV.x (Value.pointer none), AV.lit false = AV.lit false, AV.ptr 5 0 = AV.ptr 5 0, AV.mp 63 = AV.mp 63, (↑o : Int) = (↑o : Int), (↑c : Int) + (1 : Int) = (↑c : Int) + (1 : Int), (↑c : Int) + (1 : Int) = (↑c : Int) + (1 : Int), (↑c : Int) = (↑c : Int), (↑c : Int) = (↑c : Int), (AV.lst 4 n fun k => [iI (a k), iI (b k), iI (u k), iI (v k)]) = AV.lst 4 n fun k => [iI (a k), iI (b k), iI (u k), iI (v k)], (↑n : Int) = (↑n : Int), (↑n : Int) = (↑n : Int), (↑c : Int) + (1 : Int) = (↑c : Int) + (1 : Int), (↑o : Int) = (↑o : Int), (↑c : Int) + (1 : Int) = (↑c : Int) + (1 : Int), (↑f : Int) + (1 : Int) = (↑(f + 1) : Int), 125 = 125, ∀ (k : Nat), k < 125 → siteF (↑c : Int) T lo hi (fwT (fwF c (fwO c (rdM c T lo hi a b u v n) o) o f) o f (c + 1)) k = siteF (↑c : Int) T lo hi (fwF c (fwO c (rdM c T lo hi a b u v n) o) o (f + 1)) k, (↑c : Int) = (↑c : Int), T = T, lo = lo, hi = hi] (Tree.leaf AEx.normal)))))) (Tree.need [AV.agg [iI (↑c : Int), iI T, iI lo, iI hi] = AV.agg [iI (↑c : Int), iI T, iI lo, iI hi], (AV.lst 4 n fun k => [iI (a k), iI (b k), iI (u k), iI (v k)]) = AV.lst 4 n fun k => [iI (a k), iI (b k), iI (u k), iI (v k)], AV.ptr 0 0 = AV.ptr 0 0, AV.x (Value.pointer none) = AV.x (Value.pointer none), AV.lit false = AV.lit false, AV.ptr 5 0 = AV.ptr 5 0, AV.mp 63 = AV.mp 63, (↑o : Int) = (↑o : Int), (↑c : Int) + (1 : Int) = (↑c : Int) + (1 : Int), (↑c : Int) + (1 : Int) = (↑c : Int) + (1 : Int), (↑c : Int) = (↑c : Int), (↑c : Int) = (↑c : Int), (AV.lst 4 n fun k => [iI (a k), iI (b k), iI (u k), iI (v k)]) = AV.lst 4 n fun k => [iI (a k), iI (b k), iI (u k), iI (v k)], (↑n : Int) = (↑n : Int), (↑n : Int) = (↑n : Int), (↑c : Int) + (1 : Int) = (↑c : Int) + (1 : Int), (↑o : Int) = (↑o : Int), (↑c : Int) + (1 : Int) = (↑c : Int) + (1 : Int), (↑f : Int) = (↑c : Int) + (1 : Int), 125 = 125, ∀ (k : Nat), k < 125 → siteF (↑c : Int) T lo hi (fwF c (fwO c (rdM c T lo hi a b u v n) o) o f) k = siteF (↑c : Int) T lo hi (fwF c (fwO c (rdM c T lo hi a b u v n) o) o (c + 1)) k, (↑c : Int) = (↑c : Int), T = T, lo = lo, hi = hi] (Tree.leaf (AEx.exit 10)))) := by kernel_rfl
    rw [e]
    simp only [T_rf, out_rf, Tree.sat, Option.getD_some] at hQ
    simp only [Tree.sat, allP, fitP, fitL, valEq, inI64, true_and, and_true, decide_eq_true_eq, decide_eq_false_iff_not, Int.natCast_zero, Int.toNat_natCast, bne_iff_ne, ne_eq, bne_eq_false_iff_eq, List.length_cons, List.length_nil, updL_one, out_rf]
    clear e
    
    refine ⟨fun h => ?_, fun h => ?_⟩
    · (repeat' first | with_reducible apply And.intro | with_reducible intro _)
      all_goals first | exact True.intro | omega | with_reducible rfl | (rename_i E hE; cases hE; exact hQ) | rfl
    · obtain rfl : f = c + 1 := by omega
      (repeat' first | with_reducible apply And.intro | with_reducible intro _)
      all_goals first | exact True.intro | omega | with_reducible rfl | (rename_i E hE; cases hE; exact hQ) | rfl

set_option maxRecDepth 100000 in
theorem re_ls (c : Nat) (T lo hi : Int) (n : Nat) (a b u v : Nat → Int) (pre0 : 1 ≤ c ∧ c ≤ 10) (pre1 : 1 ≤ lo ∧ lo ≤ hi ∧ hi ≤ 200 ∧ 1 ≤ T ∧ T ≤ 2000) (pre2 : n ≤ 1000) (pre3 : allI (fun k => rdB c (a k) (b k) (u k) (v k)) n = true) : LSound Tryz.prog (.loop B_re) (LS_re c T lo hi n a b u v) := by
  refine loop_roundsX [] (E := { R := [], H := [(141, H_bound)] }) (G := [(157, S_least)]) (L := [depSp 13 (fun k => needSp [k ≤ c] (LS_rf c T lo hi n a b u v k))]) (SoundG.cons least_ok (SoundG.nil _)) (SoundX.of (SoundRL.nil _) (SoundHL.cons bound_okH (SoundHL.nil _))) mixed (one_loop (fun cj hcj => by
    have e : loopAt B_re 0 = some (.loop B_rf) := by kernel_rfl
    rw [e] at hcj; cases hcj
    exact depSp_sound (fun k => needSp_sound (fun h => rf_ls c T lo hi n a b u v k pre0 pre1 pre2 pre3 h)))) (X := Nat) (inv_re c T lo hi n a b u v) (fun o => o ≤ c + 1) (fun o => c + 1 - o) (out_re c T lo hi n a b u v) (x0 := 0) (by simp) ?_ ?_ ?_
  · rintro o
    kernel_rfl
  · rintro o y E h
    unfold out_re at h
    split at h
    · cases h; kernel_rfl
    · cases h
  · rintro Q hQ o hx
    refine ⟨(o + 1), ?_⟩
    have e : roundX Tryz.prog [(157, S_least)] { R := [], H := [(141, H_bound)] } [depSp 13 (fun k => needSp [k ≤ c] (LS_rf c T lo hi n a b u v k))] [] B_re (inv_re c T lo hi n a b u v o) (inv_re c T lo hi n a b u v ((o + 1))) (out_re c T lo hi n a b u v o) = (Tree.branch (decide ((↑o : Int) < (↑c : Int) + (1 : Int))) (Tree.need [inI64 ((↑c : Int) + (1 : Int))] (Tree.need [o ≤ c] (Tree.need [AV.agg [iI (↑c : Int), iI T, iI lo, iI hi] = AV.agg [iI (↑c : Int), iI T, iI lo, iI hi], (AV.lst 4 n fun k => [iI (a k), iI (b k), iI (u k), iI (v k)]) = AV.lst 4 n fun k => [iI (a k), iI (b k), iI (u k), iI (v k)], AV.ptr 0 0 = AV.ptr 0 0, AV.x (Value.pointer none) = AV.x (Value.pointer none), AV.lit false = AV.lit false, AV.ptr 5 0 = AV.ptr 5 0, AV.mp 63 = AV.mp 63, (↑o : Int) = (↑o : Int), (↑c : Int) + (1 : Int) = (↑c : Int) + (1 : Int), (↑c : Int) + (1 : Int) = (↑c : Int) + (1 : Int), (↑c : Int) = (↑c : Int), (↑c : Int) = (↑c : Int), (AV.lst 4 n fun k => [iI (a k), iI (b k), iI (u k), iI (v k)]) = AV.lst 4 n fun k => [iI (a k), iI (b k), iI (u k), iI (v k)], (↑n : Int) = (↑n : Int), (↑n : Int) = (↑n : Int), (↑c : Int) + (1 : Int) = (↑c : Int) + (1 : Int), (↑o : Int) = (↑o : Int), (↑c : Int) + (1 : Int) = (↑c : Int) + (1 : Int), (0 : Int) = (↑(0 : Nat) : Int), 125 = 125, ∀ (k : Nat), k < 125 → siteF (↑c : Int) T lo hi (fwO c (rdM c T lo hi a b u v n) o) k = siteF (↑c : Int) T lo hi (fwF c (fwO c (rdM c T lo hi a b u v n) o) o 0) k, (↑c : Int) = (↑c : Int), T = T, lo = lo, hi = hi] (Tree.need [inI64 ((↑o : Int) + (1 : Int))] (Tree.need [AV.agg [iI (↑c : Int), iI T, iI lo, iI hi] = AV.agg [iI (↑c : Int), iI T, iI lo, iI hi], (AV.lst 4 n fun k => [iI (a k), iI (b k), iI (u k), iI (v k)]) = AV.lst 4 n fun k => [iI (a k), iI (b k), iI (u k), iI (v k)], AV.ptr 0 0 = AV.ptr 0 0, AV.x (Value.pointer none) = AV.x (Value.pointer none), AV.lit false = AV.lit false, AV.ptr 5 0 = AV.ptr 5 0, AV.mp 63 = AV.mp 63, (↑c : Int) + (1 : Int) = (↑c : Int) + (1 : Int), (↑c : Int) + (1 : Int) = (↑c : Int) + (1 : Int), (↑c : Int) = (↑c : Int), (↑c : Int) = (↑c : Int), (AV.lst 4 n fun k => [iI (a k), iI (b k), iI (u k), iI (v k)]) = AV.lst 4 n fun k => [iI (a k), iI (b k), iI (u k), iI (v k)], (↑n : Int) = (↑n : Int), (↑n : Int) = (↑n : Int), (↑c : Int) + (1 : Int) = (↑c : Int) + (1 : Int), (↑o : Int) + (1 : Int) = (↑(o + 1) : Int), 125 = 125, ∀ (k : Nat), k < 125 → siteF (↑c : Int) T lo hi (fwF c (fwO c (rdM c T lo hi a b u v n) o) o (c + 1)) k = siteF (↑c : Int) T lo hi (fwO c (rdM c T lo hi a b u v n) (o + 1)) k, (↑c : Int) = (↑c : Int), T = T, lo = lo, hi = hi] (Tree.leaf AEx.normal)))))) (Tree.need [AV.agg [iI (↑c : Int), iI T, iI lo, iI hi] = AV.agg [iI (↑c : Int), iI T, iI lo, iI hi], (AV.lst 4 n fun k => [iI (a k), iI (b k), iI (u k), iI (v k)]) = AV.lst 4 n fun k => [iI (a k), iI (b k), iI (u k), iI (v k)], AV.ptr 0 0 = AV.ptr 0 0, AV.x (Value.pointer none) = AV.x (Value.pointer none), AV.lit false = AV.lit false, AV.ptr 5 0 = AV.ptr 5 0, AV.mp 63 = AV.mp 63, (↑c : Int) + (1 : Int) = (↑c : Int) + (1 : Int), (↑c : Int) + (1 : Int) = (↑c : Int) + (1 : Int), (↑c : Int) = (↑c : Int), (↑c : Int) = (↑c : Int), (AV.lst 4 n fun k => [iI (a k), iI (b k), iI (u k), iI (v k)]) = AV.lst 4 n fun k => [iI (a k), iI (b k), iI (u k), iI (v k)], (↑n : Int) = (↑n : Int), (↑n : Int) = (↑n : Int), (↑c : Int) + (1 : Int) = (↑c : Int) + (1 : Int), (↑o : Int) = (↑c : Int) + (1 : Int), 125 = 125, ∀ (k : Nat), k < 125 → siteF (↑c : Int) T lo hi (fwO c (rdM c T lo hi a b u v n) o) k = siteF (↑c : Int) T lo hi (fwO c (rdM c T lo hi a b u v n) (c + 1)) k, (↑c : Int) = (↑c : Int), T = T, lo = lo, hi = hi] (Tree.leaf (AEx.exit 8)))) := by kernel_rfl
    rw [e]
    simp only [T_re, out_re, Tree.sat, Option.getD_some] at hQ
    simp only [Tree.sat, allP, fitP, fitL, valEq, inI64, true_and, and_true, decide_eq_true_eq, decide_eq_false_iff_not, Int.natCast_zero, Int.toNat_natCast, bne_iff_ne, ne_eq, bne_eq_false_iff_eq, List.length_cons, List.length_nil, updL_one, out_re]
    clear e
    
    refine ⟨fun h => ?_, fun h => ?_⟩
    · (repeat' first | with_reducible apply And.intro | with_reducible intro _)
      all_goals first | exact True.intro | omega | with_reducible rfl | (rename_i E hE; cases hE; exact hQ) | rfl
    · obtain rfl : o = c + 1 := by omega
      (repeat' first | with_reducible apply And.intro | with_reducible intro _)
      all_goals first | exact True.intro | omega | with_reducible rfl | (rename_i E hE; cases hE; exact hQ) | rfl

end Go.Proofs.YtlinbkmpkcmniaaGreat.Bo
/- Contracts of functions of the program, by the engine Sx: what each call comes to. Printed by a program of this repo (sxgen.py). -/
set_option linter.unusedSimpArgs false
set_option linter.unusedVariables false
namespace Go.Proofs.YtlinbkmpkcmniaaGreat.Bo
open Go Go.Sx Go.RowKit

def fwM (c : Nat) (T lo hi : Int) (n : Nat) (a b u v : Nat → Int) : Nat → Nat → Int := fwO c (rdM c T lo hi a b u v n) (c + 1)
def okR (c : Nat) (T lo hi : Int) (n : Nat) (a b u v : Nat → Int) : Bool := allI (fun k => decide (0 ≤ fwM c T lo hi n a b u v k k)) (c + 1)

noncomputable def E_rh (c : Nat) (T lo hi : Int) (n : Nat) (a b u v : Nat → Int) : St := (some { σ := [AV.agg [iI (↑c : Int), iI T, iI lo, iI hi], AV.lst 4 n fun k => [iI (a k), iI (b k), iI (u k), iI (v k)], AV.ptr 0 0, AV.top, AV.top, AV.top, AV.ptr 5 0, AV.top, AV.top, AV.top, AV.mp 63, AV.top, AV.top, AV.top, AV.top, AV.top, AV.top, AV.top, AV.top, AV.top, AV.top, AV.top, iI ((↑c : Int) + (1 : Int)), iI ((↑c : Int) + (1 : Int)), AV.top, AV.top, AV.top, AV.top, AV.top, AV.top, AV.top, AV.top, AV.top, AV.top, AV.top, AV.top, AV.top, AV.top, AV.top, AV.top, AV.top, AV.top, AV.top, AV.top, AV.top, iI (↑c : Int), iI (↑c : Int), AV.top, AV.top, AV.top, AV.top, AV.top, AV.top, AV.top, AV.top, AV.top, AV.top, AV.top, AV.top, AV.top, AV.top, AV.top, AV.top, AV.top, AV.top, AV.top, AV.top, AV.top, AV.top, AV.top, AV.top, AV.top, AV.top, AV.top, AV.top, AV.top, AV.top, AV.top, AV.top, AV.top, AV.top, AV.lst 4 n fun k => [iI (a k), iI (b k), iI (u k), iI (v k)], iI (↑n : Int), iI (↑n : Int), AV.top, AV.top, AV.top, AV.top, AV.top, AV.top, AV.top, AV.top, AV.top, AV.top, AV.top, AV.top, AV.top, AV.top, AV.top, AV.top, AV.top, AV.top, AV.top, AV.top, AV.top, AV.top, AV.top, AV.top, AV.top, AV.top, AV.top, AV.top, AV.top, AV.top, AV.top, AV.top, AV.top, AV.top, AV.top, AV.top, AV.top, iI ((↑c : Int) + (1 : Int)), iI ((↑c : Int) + (1 : Int)), AV.top, AV.top, AV.top, AV.top, AV.top, AV.top, AV.top, AV.top, AV.top, AV.top, AV.top, AV.top, AV.top, AV.top, AV.top, AV.top, AV.top, AV.top, AV.top, AV.top, AV.top, AV.top, AV.top, AV.top, AV.top, AV.top, AV.top, AV.top, AV.top, AV.top, AV.top, AV.top, AV.top, AV.top, AV.top, AV.top, AV.top, AV.top, AV.top, AV.top, iI ((↑c : Int) + (1 : Int)), AV.top, AV.top, AV.top, AV.top, AV.top, AV.top, AV.top, AV.top, AV.top, AV.top, AV.top, AV.top, AV.top, AV.top], m := [(5, Res.ints 217 [] 125 fun k => siteF (↑c : Int) T lo hi (fwO c (rdM c T lo hi a b u v n) (c + 1)) k), (0, Res.cells 42 [iI (↑c : Int), iI T, iI lo, iI hi])], nx := 76 } : Option St).getD { σ := [], m := [], nx := 0 }

noncomputable def B_rh : Code := loopBody (loopAt (bodyOf Tryz.f121) 4)
noncomputable def inv_rh (c : Nat) (T lo hi : Int) (n : Nat) (a b u v : Nat → Int) (k : Nat) : St := { σ := ovrS [(164, i k)] (E_rh c T lo hi n a b u v).σ, m := [(5, .ints 217 [] 125 (siteF c T lo hi (fwM c T lo hi n a b u v))), (0, .cells 42 [i c, i T, i lo, i hi])], nx := (E_rh c T lo hi n a b u v).nx }
noncomputable def out_rh (c : Nat) (T lo hi : Int) (n : Nat) (a b u v : Nat → Int) (k : Nat) : AEx → Option St := fun ex => match ex with
  | .ret => some { σ := ovrS [(4, .x (.pointer none)), (5, .lit false), (164, .top)] (E_rh c T lo hi n a b u v).σ, m := [(5, .ints 217 [] 125 (siteF c T lo hi (fwM c T lo hi n a b u v))), (0, .cells 42 [i c, i T, i lo, i hi])], nx := (E_rh c T lo hi n a b u v).nx }
  | .exit 14 => some { σ := ovrS [(164, .top)] (E_rh c T lo hi n a b u v).σ, m := [(5, .ints 217 [] 125 (siteF c T lo hi (fwM c T lo hi n a b u v))), (0, .cells 42 [i c, i T, i lo, i hi])], nx := (E_rh c T lo hi n a b u v).nx }
  | _ => none
noncomputable def T_rh (c : Nat) (T lo hi : Int) (n : Nat) (a b u v : Nat → Int) : CT := .branch (okR c T lo hi n a b u v) (.leaf (.exit 14, ( out_rh c T lo hi n a b u v 0 (.exit 14)).getD (E_rh c T lo hi n a b u v))) (.leaf (.ret, ( out_rh c T lo hi n a b u v 0 .ret).getD (E_rh c T lo hi n a b u v)))
noncomputable def LS_rh (c : Nat) (T lo hi : Int) (n : Nat) (a b u v : Nat → Int) : LSpec := normSp [] (sumL (inv_rh c T lo hi n a b u v (0)) (T_rh c T lo hi n a b u v))
set_option maxRecDepth 100000 in
theorem rh_ls (c : Nat) (T lo hi : Int) (n : Nat) (a b u v : Nat → Int) (pre0 : 1 ≤ c ∧ c ≤ 10) (pre1 : 1 ≤ lo ∧ lo ≤ hi ∧ hi ≤ 200 ∧ 1 ≤ T ∧ T ≤ 2000) (pre2 : n ≤ 1000) (pre3 : allI (fun k => rdB c (a k) (b k) (u k) (v k)) n = true) : LSound Tryz.prog (.loop B_rh) (LS_rh c T lo hi n a b u v) := by
  refine loop_roundsX [] (E := { R := [], H := [(141, H_bound)] }) (G := [(157, S_least)]) (L := []) (SoundG.cons least_ok (SoundG.nil _)) (SoundX.of (SoundRL.nil _) (SoundHL.cons bound_okH (SoundHL.nil _))) mixed noLoops (X := Nat) (inv_rh c T lo hi n a b u v) (fun k => k ≤ c + 1 ∧ ∀ j, j < k → 0 ≤ fwM c T lo hi n a b u v j j) (fun k => c + 1 - k) (out_rh c T lo hi n a b u v) (x0 := 0) (by simp) ?_ ?_ ?_
  · rintro k
    kernel_rfl
  · rintro k y E h
    unfold out_rh at h
    split at h
    · cases h; kernel_rfl
    · cases h; kernel_rfl
    · cases h
  · rintro Q hQ k hx
    refine ⟨(k + 1), ?_⟩
    have e : roundX Tryz.prog [(157, S_least)] { R := [], H := [(141, H_bound)] } [] [] B_rh (inv_rh c T lo hi n a b u v k) (inv_rh c T lo hi n a b u v ((k + 1))) (out_rh c T lo hi n a b u v k) = (Tree.branch (decide ((↑k : Int) < (↑c : Int) + (1 : Int))) (Tree.need [(0 : Int) ≤ (↑k : Int) ∧ (↑k : Int) < (↑(11 : Nat) : Int)] (Tree.need [(0 : Int) ≤ (↑k : Int) ∧ (↑k : Int) < (↑(11 : Nat) : Int)] (Tree.need [k * 1 + (k * 11 + 4) < 125] (Tree.branch (decide (siteF (↑c : Int) T lo hi (fwM c T lo hi n a b u v) (k * 1 + (k * 11 + 4)) < (0 : Int))) (Tree.need [AV.agg [iI (↑c : Int), iI T, iI lo, iI hi] = AV.agg [iI (↑c : Int), iI T, iI lo, iI hi], (AV.lst 4 n fun k => [iI (a k), iI (b k), iI (u k), iI (v k)]) = AV.lst 4 n fun k => [iI (a k), iI (b k), iI (u k), iI (v k)], AV.ptr 0 0 = AV.ptr 0 0, AV.x (Value.pointer none) = AV.x (Value.pointer none), AV.lit false = AV.lit false, AV.ptr 5 0 = AV.ptr 5 0, AV.mp 63 = AV.mp 63, (↑c : Int) + (1 : Int) = (↑c : Int) + (1 : Int), (↑c : Int) + (1 : Int) = (↑c : Int) + (1 : Int), (↑c : Int) = (↑c : Int), (↑c : Int) = (↑c : Int), (AV.lst 4 n fun k => [iI (a k), iI (b k), iI (u k), iI (v k)]) = AV.lst 4 n fun k => [iI (a k), iI (b k), iI (u k), iI (v k)], (↑n : Int) = (↑n : Int), (↑n : Int) = (↑n : Int), (↑c : Int) + (1 : Int) = (↑c : Int) + (1 : Int), (↑c : Int) + (1 : Int) = (↑c : Int) + (1 : Int), (↑c : Int) + (1 : Int) = (↑c : Int) + (1 : Int), 125 = 125, ∀ (k : Nat), k < 125 → siteF (↑c : Int) T lo hi (fwM c T lo hi n a b u v) k = siteF (↑c : Int) T lo hi (fwM c T lo hi n a b u v) k, (↑c : Int) = (↑c : Int), T = T, lo = lo, hi = hi] (Tree.leaf AEx.ret)) (Tree.need [inI64 ((↑k : Int) + (1 : Int))] (Tree.need [AV.agg [iI (↑c : Int), iI T, iI lo, iI hi] = AV.agg [iI (↑c : Int), iI T, iI lo, iI hi], (AV.lst 4 n fun k => [iI (a k), iI (b k), iI (u k), iI (v k)]) = AV.lst 4 n fun k => [iI (a k), iI (b k), iI (u k), iI (v k)], AV.ptr 0 0 = AV.ptr 0 0, AV.ptr 5 0 = AV.ptr 5 0, AV.mp 63 = AV.mp 63, (↑c : Int) + (1 : Int) = (↑c : Int) + (1 : Int), (↑c : Int) + (1 : Int) = (↑c : Int) + (1 : Int), (↑c : Int) = (↑c : Int), (↑c : Int) = (↑c : Int), (AV.lst 4 n fun k => [iI (a k), iI (b k), iI (u k), iI (v k)]) = AV.lst 4 n fun k => [iI (a k), iI (b k), iI (u k), iI (v k)], (↑n : Int) = (↑n : Int), (↑n : Int) = (↑n : Int), (↑c : Int) + (1 : Int) = (↑c : Int) + (1 : Int), (↑c : Int) + (1 : Int) = (↑c : Int) + (1 : Int), (↑c : Int) + (1 : Int) = (↑c : Int) + (1 : Int), (↑k : Int) + (1 : Int) = (↑(k + 1) : Int), 125 = 125, ∀ (k : Nat), k < 125 → siteF (↑c : Int) T lo hi (fwM c T lo hi n a b u v) k = siteF (↑c : Int) T lo hi (fwM c T lo hi n a b u v) k, (↑c : Int) = (↑c : Int), T = T, lo = lo, hi = hi] (Tree.leaf AEx.normal))))))) (Tree.need [AV.agg [iI (↑c : Int), iI T, iI lo, iI hi] = AV.agg [iI (↑c : Int), iI T, iI lo, iI hi], (AV.lst 4 n fun k => [iI (a k), iI (b k), iI (u k), iI (v k)]) = AV.lst 4 n fun k => [iI (a k), iI (b k), iI (u k), iI (v k)], AV.ptr 0 0 = AV.ptr 0 0, AV.ptr 5 0 = AV.ptr 5 0, AV.mp 63 = AV.mp 63, (↑c : Int) + (1 : Int) = (↑c : Int) + (1 : Int), (↑c : Int) + (1 : Int) = (↑c : Int) + (1 : Int), (↑c : Int) = (↑c : Int), (↑c : Int) = (↑c : Int), (AV.lst 4 n fun k => [iI (a k), iI (b k), iI (u k), iI (v k)]) = AV.lst 4 n fun k => [iI (a k), iI (b k), iI (u k), iI (v k)], (↑n : Int) = (↑n : Int), (↑n : Int) = (↑n : Int), (↑c : Int) + (1 : Int) = (↑c : Int) + (1 : Int), (↑c : Int) + (1 : Int) = (↑c : Int) + (1 : Int), (↑c : Int) + (1 : Int) = (↑c : Int) + (1 : Int), 125 = 125, ∀ (k : Nat), k < 125 → siteF (↑c : Int) T lo hi (fwM c T lo hi n a b u v) k = siteF (↑c : Int) T lo hi (fwM c T lo hi n a b u v) k, (↑c : Int) = (↑c : Int), T = T, lo = lo, hi = hi] (Tree.leaf (AEx.exit 14)))) := by kernel_rfl
    rw [e]
    simp only [T_rh, out_rh, Tree.sat, Option.getD_some] at hQ
    simp only [Tree.sat, allP, fitP, fitL, valEq, inI64, true_and, and_true, decide_eq_true_eq, decide_eq_false_iff_not, Int.natCast_zero, Int.toNat_natCast, bne_iff_ne, ne_eq, bne_eq_false_iff_eq, List.length_cons, List.length_nil, updL_one, out_rh]
    clear e
    
    have h1 : siteF c T lo hi (fwM c T lo hi n a b u v) (k * 1 + (k * 11 + 4)) = fwM c T lo hi n a b u v k k ∨ 11 ≤ k := by
      rcases Nat.lt_or_ge k 11 with h | h
      · exact .inl (site_get _ _ _ _ _ (by omega) h)
      · exact .inr h
    refine ⟨fun h => ?_, fun h => ?_⟩
    · have h2 := h1.resolve_right (by omega)
      rw [h2]
      refine ⟨by omega, by omega, by omega, fun hneg => ?_, fun hpos => ?_⟩
      · have hno : okR c T lo hi n a b u v = false := by
          cases ho : okR c T lo hi n a b u v
          · rfl
          · have := allI_iff.1 ho k (by omega)
            simp at this
            omega
        (repeat' first | with_reducible apply And.intro | with_reducible intro _)
        all_goals first | exact True.intro | omega | with_reducible rfl | (rename_i E hE; cases hE; exact hQ) | rfl | (rename_i E hE; cases hE; exact hQ.2 hno)
      · (repeat' first | with_reducible apply And.intro | with_reducible intro _)
        all_goals first | exact True.intro | omega | with_reducible rfl | (rename_i E hE; cases hE; exact hQ) | rfl | (rename_i j hj; rcases (show j < k ∨ j = k by omega) with h3 | h3; exact hx.2 j h3; subst h3; omega)
    · obtain ⟨hx1, hx2⟩ := hx
      obtain rfl : k = c + 1 := by omega
      have hyes : okR c T lo hi n a b u v = true := allI_iff.2 (fun j hj => by simpa using hx2 j hj)
      (repeat' first | with_reducible apply And.intro | with_reducible intro _)
      all_goals first | exact True.intro | omega | with_reducible rfl | (rename_i E hE; cases hE; exact hQ) | rfl | (rename_i E hE; cases hE; exact hQ.1 hyes)


theorem five_loops {S : Code → LSpec → Prop} {c : Code} {s0 s1 s2 s3 s4 : LSpec} (h0 : ∀ cj, loopAt c 0 = some cj → S cj s0) (h1 : ∀ cj, loopAt c 1 = some cj → S cj s1) (h2 : ∀ cj, loopAt c 2 = some cj → S cj s2) (h3 : ∀ cj, loopAt c 3 = some cj → S cj s3) (h4 : ∀ cj, loopAt c 4 = some cj → S cj s4) :
    ∀ j cj, loopAt c j = some cj → ∀ sp, [s0, s1, s2, s3, s4][j]? = some sp → S cj sp := by
  intro j cj hj sp hsp
  match j with
  | 0 => simp at hsp; subst hsp; exact h0 cj hj
  | 1 => simp at hsp; subst hsp; exact h1 cj hj
  | 2 => simp at hsp; subst hsp; exact h2 cj hj
  | 3 => simp at hsp; subst hsp; exact h3 cj hj
  | 4 => simp at hsp; subst hsp; exact h4 cj hj
  | j + 5 => simp at hsp
theorem SoundCAt.same {P : Program} {f : FuncId} {avs avs' : List AV} {t : Tree AV} (h : SoundCAt P f avs' t) (k : Sames avs avs') : SoundCAt P f avs t := fun Q hQ e w args hro hidf hr => h Q hQ e w args hro (k.idf hidf) (k.rep hr)


abbrev siteA (c : Nat) (T lo hi : Int) (n : Nat) (a b u v : Nat → Int) : AV := .roI [] 125 (siteF c T lo hi (fwM c T lo hi n a b u v)) 0
abbrev nilP : AV := .x (.pointer none)

set_option maxRecDepth 100000 in
theorem read_at (c : Nat) (T lo hi : Int) (n : Nat) (a b u v : Nat → Int) (pre0 : 1 ≤ c ∧ c ≤ 10) (pre1 : 1 ≤ lo ∧ lo ≤ hi ∧ hi ≤ 200 ∧ 1 ≤ T ∧ T ≤ 2000) (pre2 : n ≤ 1000) (pre3 : allI (fun k => rdB c (a k) (b k) (u k) (v k)) n = true) : SoundCAt Tryz.prog 121 [.agg [i c, i T, i lo, i hi], rds n a b u v] (.branch (okR c T lo hi n a b u v) (.leaf (.tup [siteA c T lo hi n a b u v, .lit true])) (.leaf (.tup [nilP, .lit false]))) := by
  refine soundCAt_fin (G := [(157, S_least)]) (X := { R := [], H := [(141, H_bound)] }) (L := [LS_ra c T lo hi n a b u v, LS_rc c T lo hi n a b u v, LS_rd c T lo hi n a b u v, LS_re c T lo hi n a b u v, LS_rh c T lo hi n a b u v]) (SoundG.cons least_ok (SoundG.nil _)) (SoundX.of (SoundRL.nil _) (SoundHL.cons bound_okH (SoundHL.nil _))) mixed Tryz.func121 (show Tryz.f121.body = some (bodyOf Tryz.f121) by kernel_rfl) (five_loops (fun cj hcj => by
    have e : loopAt (bodyOf Tryz.f121) 0 = some (.loop B_ra) := by kernel_rfl
    rw [e] at hcj; cases hcj
    exact (ra_ls c T lo hi n a b u v pre0 pre1).N) (fun cj hcj => by
    have e : loopAt (bodyOf Tryz.f121) 1 = some (.loop B_rc) := by kernel_rfl
    rw [e] at hcj; cases hcj
    exact (rc_ls c T lo hi n a b u v pre0 pre1).N) (fun cj hcj => by
    have e : loopAt (bodyOf Tryz.f121) 2 = some (.loop B_rd) := by kernel_rfl
    rw [e] at hcj; cases hcj
    exact (rd_ls c T lo hi n a b u v pre0 pre1 pre2 pre3).N) (fun cj hcj => by
    have e : loopAt (bodyOf Tryz.f121) 3 = some (.loop B_re) := by kernel_rfl
    rw [e] at hcj; cases hcj
    exact (re_ls c T lo hi n a b u v pre0 pre1 pre2 pre3).N) (fun cj hcj => by
    have e : loopAt (bodyOf Tryz.f121) 4 = some (.loop B_rh) := by kernel_rfl
    rw [e] at hcj; cases hcj
    exact (rh_ls c T lo hi n a b u v pre0 pre1 pre2 pre3).N)) (t := (Tree.need [inI64 ((↑c : Int) + (1 : Int))] (Tree.need [AV.agg [iI (↑c : Int), iI T, iI lo, iI hi] = AV.agg [iI (↑c : Int), iI T, iI lo, iI hi], (AV.lst 4 n fun k => [iI (a k), iI (b k), iI (u k), iI (v k)]) = AV.lst 4 n fun k => [iI (a k), iI (b k), iI (u k), iI (v k)], AV.ptr 0 0 = AV.ptr 0 0, AV.x (Value.pointer none) = AV.x (Value.pointer none), AV.lit false = AV.lit false, AV.ptr 5 0 = AV.ptr 5 0, (↑c : Int) + (1 : Int) = (↑c : Int) + (1 : Int), (0 : Int) = (↑(0 : Nat) : Int), List.length [(↑c : Int), T, lo, hi, (0 : Int), (0 : Int), (0 : Int), (0 : Int), (0 : Int), (0 : Int), (0 : Int), (0 : Int), (0 : Int), (0 : Int), (0 : Int), (0 : Int), (0 : Int), (0 : Int), (0 : Int), (0 : Int), (0 : Int), (0 : Int), (0 : Int), (0 : Int), (0 : Int), (0 : Int), (0 : Int), (0 : Int), (0 : Int), (0 : Int), (0 : Int), (0 : Int), (0 : Int), (0 : Int), (0 : Int), (0 : Int), (0 : Int), (0 : Int), (0 : Int), (0 : Int), (0 : Int), (0 : Int), (0 : Int), (0 : Int), (0 : Int), (0 : Int), (0 : Int), (0 : Int), (0 : Int), (0 : Int), (0 : Int), (0 : Int), (0 : Int), (0 : Int), (0 : Int), (0 : Int), (0 : Int), (0 : Int), (0 : Int), (0 : Int), (0 : Int), (0 : Int), (0 : Int), (0 : Int), (0 : Int), (0 : Int), (0 : Int), (0 : Int), (0 : Int), (0 : Int), (0 : Int), (0 : Int), (0 : Int), (0 : Int), (0 : Int), (0 : Int), (0 : Int), (0 : Int), (0 : Int), (0 : Int), (0 : Int), (0 : Int), (0 : Int), (0 : Int), (0 : Int), (0 : Int), (0 : Int), (0 : Int), (0 : Int), (0 : Int), (0 : Int), (0 : Int), (0 : Int), (0 : Int), (0 : Int), (0 : Int), (0 : Int), (0 : Int), (0 : Int), (0 : Int), (0 : Int), (0 : Int), (0 : Int), (0 : Int), (0 : Int), (0 : Int), (0 : Int), (0 : Int), (0 : Int), (0 : Int), (0 : Int), (0 : Int), (0 : Int), (0 : Int), (0 : Int), (0 : Int), (0 : Int), (0 : Int), (0 : Int), (0 : Int), (0 : Int), (0 : Int), (0 : Int), (0 : Int), (0 : Int)] = 125, ∀ (k : Nat), k < 125 → nthJ [(↑c : Int), T, lo, hi, (0 : Int), (0 : Int), (0 : Int), (0 : Int), (0 : Int), (0 : Int), (0 : Int), (0 : Int), (0 : Int), (0 : Int), (0 : Int), (0 : Int), (0 : Int), (0 : Int), (0 : Int), (0 : Int), (0 : Int), (0 : Int), (0 : Int), (0 : Int), (0 : Int), (0 : Int), (0 : Int), (0 : Int), (0 : Int), (0 : Int), (0 : Int), (0 : Int), (0 : Int), (0 : Int), (0 : Int), (0 : Int), (0 : Int), (0 : Int), (0 : Int), (0 : Int), (0 : Int), (0 : Int), (0 : Int), (0 : Int), (0 : Int), (0 : Int), (0 : Int), (0 : Int), (0 : Int), (0 : Int), (0 : Int), (0 : Int), (0 : Int), (0 : Int), (0 : Int), (0 : Int), (0 : Int), (0 : Int), (0 : Int), (0 : Int), (0 : Int), (0 : Int), (0 : Int), (0 : Int), (0 : Int), (0 : Int), (0 : Int), (0 : Int), (0 : Int), (0 : Int), (0 : Int), (0 : Int), (0 : Int), (0 : Int), (0 : Int), (0 : Int), (0 : Int), (0 : Int), (0 : Int), (0 : Int), (0 : Int), (0 : Int), (0 : Int), (0 : Int), (0 : Int), (0 : Int), (0 : Int), (0 : Int), (0 : Int), (0 : Int), (0 : Int), (0 : Int), (0 : Int), (0 : Int), (0 : Int), (0 : Int), (0 : Int), (0 : Int), (0 : Int), (0 : Int), (0 : Int), (0 : Int), (0 : Int), (0 : Int), (0 : Int), (0 : Int), (0 : Int), (0 : Int), (0 : Int), (0 : Int), (0 : Int), (0 : Int), (0 : Int), (0 : Int), (0 : Int), (0 : Int), (0 : Int), (0 : Int), (0 : Int), (0 : Int), (0 : Int), (0 : Int), (0 : Int), (0 : Int), (0 : Int)] k = siteF (↑c : Int) T lo hi (ini c 0 0) k, (↑c : Int) = (↑c : Int), T = T, lo = lo, hi = hi] (Tree.need [AV.agg [iI (↑c : Int), iI T, iI lo, iI hi] = AV.agg [iI (↑c : Int), iI T, iI lo, iI hi], (AV.lst 4 n fun k => [iI (a k), iI (b k), iI (u k), iI (v k)]) = AV.lst 4 n fun k => [iI (a k), iI (b k), iI (u k), iI (v k)], AV.ptr 0 0 = AV.ptr 0 0, AV.x (Value.pointer none) = AV.x (Value.pointer none), AV.lit false = AV.lit false, AV.ptr 5 0 = AV.ptr 5 0, (↑c : Int) + (1 : Int) = (↑c : Int) + (1 : Int), (↑c : Int) + (1 : Int) = (↑c : Int) + (1 : Int), (↑c : Int) = (↑c : Int), (0 : Int) = (↑(0 : Nat) : Int), 125 = 125, ∀ (k : Nat), k < 125 → siteF (↑c : Int) T lo hi (ini c (c + 1) 0) k = siteF (↑c : Int) T lo hi (cel c lo hi 0) k, (↑c : Int) = (↑c : Int), T = T, lo = lo, hi = hi] (Tree.need [(0 : Int) ≤ (0 : Int) ∧ (0 : Int) < (↑(11 : Nat) : Int)] (Tree.need [(0 : Int) ≤ (↑c : Int) ∧ (↑c : Int) < (↑(11 : Nat) : Int)] (Tree.need [c * 1 + 4 < 125] (Tree.need [(0 : Int) ≤ (0 : Int) ∧ (0 : Int) < (↑(11 : Nat) : Int)] (Tree.need [(0 : Int) ≤ (↑c : Int) ∧ (↑c : Int) < (↑(11 : Nat) : Int)] (Tree.need [c * 1 + 4 + List.length [min (siteF (↑c : Int) T lo hi (cel c lo hi c) (c * 1 + 4)) T] ≤ 125] (Tree.need [inI64 (-T)] (Tree.need [(0 : Int) ≤ (↑c : Int) ∧ (↑c : Int) < (↑(11 : Nat) : Int)] (Tree.need [(0 : Int) ≤ (0 : Int) ∧ (0 : Int) < (↑(11 : Nat) : Int)] (Tree.need [0 + (c * 11 + 4) < 125] (Tree.need [(0 : Int) ≤ (↑c : Int) ∧ (↑c : Int) < (↑(11 : Nat) : Int)] (Tree.need [(0 : Int) ≤ (0 : Int) ∧ (0 : Int) < (↑(11 : Nat) : Int)] (Tree.need [0 + (c * 11 + 4) + List.length [min (updI (c * 1 + 4) (min (siteF (↑c : Int) T lo hi (cel c lo hi c) (c * 1 + 4)) T) (siteF (↑c : Int) T lo hi (cel c lo hi c)) (0 + (c * 11 + 4))) (-T)] ≤ 125] (Tree.need [AV.agg [iI (↑c : Int), iI T, iI lo, iI hi] = AV.agg [iI (↑c : Int), iI T, iI lo, iI hi], (AV.lst 4 n fun k => [iI (a k), iI (b k), iI (u k), iI (v k)]) = AV.lst 4 n fun k => [iI (a k), iI (b k), iI (u k), iI (v k)], AV.ptr 0 0 = AV.ptr 0 0, AV.x (Value.pointer none) = AV.x (Value.pointer none), AV.lit false = AV.lit false, AV.ptr 5 0 = AV.ptr 5 0, AV.mp 63 = AV.mp 63, (↑c : Int) + (1 : Int) = (↑c : Int) + (1 : Int), (↑c : Int) + (1 : Int) = (↑c : Int) + (1 : Int), (↑c : Int) = (↑c : Int), (↑c : Int) = (↑c : Int), (AV.lst 4 n fun k => [iI (a k), iI (b k), iI (u k), iI (v k)]) = AV.lst 4 n fun k => [iI (a k), iI (b k), iI (u k), iI (v k)], (↑n : Int) = (↑n : Int), (0 : Int) = (↑(0 : Nat) : Int), 125 = 125, ∀ (k : Nat), k < 125 → updI (0 + (c * 11 + 4)) (min (updI (c * 1 + 4) (min (siteF (↑c : Int) T lo hi (cel c lo hi c) (c * 1 + 4)) T) (siteF (↑c : Int) T lo hi (cel c lo hi c)) (0 + (c * 11 + 4))) (-T)) (updL (c * 1 + 4) [min (siteF (↑c : Int) T lo hi (cel c lo hi c) (c * 1 + 4)) T] (siteF (↑c : Int) T lo hi (cel c lo hi c))) k = siteF (↑c : Int) T lo hi (rdM c T lo hi a b u v 0) k, (↑c : Int) = (↑c : Int), T = T, lo = lo, hi = hi, ∀ (k : Value), False → sn a b u v 0 k ∧ k = Value.bool true] (Tree.need [inI64 ((↑c : Int) + (1 : Int))] (Tree.need [AV.agg [iI (↑c : Int), iI T, iI lo, iI hi] = AV.agg [iI (↑c : Int), iI T, iI lo, iI hi], (AV.lst 4 n fun k => [iI (a k), iI (b k), iI (u k), iI (v k)]) = AV.lst 4 n fun k => [iI (a k), iI (b k), iI (u k), iI (v k)], AV.ptr 0 0 = AV.ptr 0 0, AV.x (Value.pointer none) = AV.x (Value.pointer none), AV.lit false = AV.lit false, AV.ptr 5 0 = AV.ptr 5 0, AV.mp 63 = AV.mp 63, (↑c : Int) + (1 : Int) = (↑c : Int) + (1 : Int), (↑c : Int) + (1 : Int) = (↑c : Int) + (1 : Int), (↑c : Int) = (↑c : Int), (↑c : Int) = (↑c : Int), (AV.lst 4 n fun k => [iI (a k), iI (b k), iI (u k), iI (v k)]) = AV.lst 4 n fun k => [iI (a k), iI (b k), iI (u k), iI (v k)], (↑n : Int) = (↑n : Int), (↑n : Int) = (↑n : Int), (↑c : Int) + (1 : Int) = (↑c : Int) + (1 : Int), (0 : Int) = (↑(0 : Nat) : Int), 125 = 125, ∀ (k : Nat), k < 125 → siteF (↑c : Int) T lo hi (rdM c T lo hi a b u v n) k = siteF (↑c : Int) T lo hi (fwO c (rdM c T lo hi a b u v n) 0) k, (↑c : Int) = (↑c : Int), T = T, lo = lo, hi = hi] (Tree.need [inI64 ((↑c : Int) + (1 : Int))] (Tree.need [AV.agg [iI (↑c : Int), iI T, iI lo, iI hi] = AV.agg [iI (↑c : Int), iI T, iI lo, iI hi], (AV.lst 4 n fun k => [iI (a k), iI (b k), iI (u k), iI (v k)]) = AV.lst 4 n fun k => [iI (a k), iI (b k), iI (u k), iI (v k)], AV.ptr 0 0 = AV.ptr 0 0, AV.ptr 5 0 = AV.ptr 5 0, AV.mp 63 = AV.mp 63, (↑c : Int) + (1 : Int) = (↑c : Int) + (1 : Int), (↑c : Int) + (1 : Int) = (↑c : Int) + (1 : Int), (↑c : Int) = (↑c : Int), (↑c : Int) = (↑c : Int), (AV.lst 4 n fun k => [iI (a k), iI (b k), iI (u k), iI (v k)]) = AV.lst 4 n fun k => [iI (a k), iI (b k), iI (u k), iI (v k)], (↑n : Int) = (↑n : Int), (↑n : Int) = (↑n : Int), (↑c : Int) + (1 : Int) = (↑c : Int) + (1 : Int), (↑c : Int) + (1 : Int) = (↑c : Int) + (1 : Int), (↑c : Int) + (1 : Int) = (↑c : Int) + (1 : Int), (0 : Int) = (↑(0 : Nat) : Int), 125 = 125, ∀ (k : Nat), k < 125 → siteF (↑c : Int) T lo hi (fwO c (rdM c T lo hi a b u v n) (c + 1)) k = siteF (↑c : Int) T lo hi (fwM c T lo hi n a b u v) k, (↑c : Int) = (↑c : Int), T = T, lo = lo, hi = hi] (Tree.branch (okR c T lo hi n a b u v) (Tree.leaf (AV.tup [AV.roI [] 125 (fun k => siteF (↑c : Int) T lo hi (fwM c T lo hi n a b u v) k) 0, AV.lit true])) (Tree.leaf (AV.tup [AV.x (Value.pointer none), AV.lit false]))))))))))))))))))))))))) (by kernel_rfl) ?_
  intro Q hQ
  have h1 : ∀ M w, updI (c * 1 + 4) (min (siteF c T lo hi M (c * 1 + 4)) w) (siteF c T lo hi M) = siteF c T lo hi (bnd M 0 c w) := fun M w => bnd_set (by omega) (by omega)
  have h2 : ∀ M w, updI (0 + (c * 11 + 4)) (min (siteF c T lo hi M (0 + (c * 11 + 4))) w) (siteF c T lo hi M) = siteF c T lo hi (bnd M c 0 w) := fun M w => bnd_set (by omega) (by omega)
  simp only [Tree.sat, allP, true_and, and_true, inI64, List.length_cons, List.length_nil, updL_one, h1, h2] at hQ ⊢
  (repeat' first | with_reducible apply And.intro | with_reducible intro _)
  all_goals first | exact True.intro | omega | with_reducible rfl | rfl | exact site_ini _ _ _ _ _ _ | (rename_i h; exact h.elim) | (rename_i h; exact ⟨.tup [siteA c T lo hi n a b u v, .lit true], ⟨⟨rfl, rfl, fun _ _ => rfl, rfl⟩, rfl, True.intro⟩, hQ.1 h⟩) | (rename_i h; exact ⟨.tup [nilP, .lit false], ⟨rfl, rfl, True.intro⟩, hQ.2 h⟩)

def col (j : Nat) (f : Nat → List AV) : Nat → Int := fun k => intAt (f k) j
noncomputable def C_read : CSpec := fun l => match l with
  | [.agg [.x (.int .i64 c), .x (.int .i64 T), .x (.int .i64 lo), .x (.int .i64 hi)], .lst 4 n f] => some (.need [isRec 4 n f, 1 ≤ c ∧ c ≤ 10, 1 ≤ lo ∧ lo ≤ hi ∧ hi ≤ 200 ∧ 1 ≤ T ∧ T ≤ 2000, n ≤ 1000, allI (fun k => rdB c (col 0 f k) (col 1 f k) (col 2 f k) (col 3 f k)) n = true]
      (.branch (okR c.toNat T lo hi n (col 0 f) (col 1 f) (col 2 f) (col 3 f)) (.leaf (.tup [siteA c.toNat T lo hi n (col 0 f) (col 1 f) (col 2 f) (col 3 f), .lit true])) (.leaf (.tup [nilP, .lit false]))))
  | _ => none


theorem read_okC : Enters Tryz.prog 121 ∧ ∀ avs t, C_read avs = some t → SoundCAt Tryz.prog 121 avs t := by
  refine ⟨⟨_, Tryz.func121, by kernel_rfl, by kernel_rfl⟩, ?_⟩
  intro avs t h
  unfold C_read at h
  split at h
  · rename_i c T lo hi n f
    cases h
    intro Q hQ
    have hn := allP_mem hQ.1
    have hr : isRec 4 n f := hn _ (by simp)
    have hc : 1 ≤ c ∧ c ≤ 10 := hn _ (by simp)
    have hall : allI (fun k => rdB c (col 0 f k) (col 1 f k) (col 2 f k) (col 3 f k)) n = true := hn _ (by simp)
    have e : ((c.toNat : Nat) : Int) = c := by omega
    have h0 := read_at c.toNat T lo hi n (col 0 f) (col 1 f) (col 2 f) (col 3 f) (by omega) (hn _ (by simp)) (hn _ (by simp)) (by rw [e]; exact hall)
    rw [e] at h0
    exact SoundCAt.same h0 (.cons (.refl _) (.cons (.lst 4 n _ _ hr) .nil)) Q hQ.2
  · cases h


theorem SoundDAt.same {P : Program} {f : FuncId} {avs avs' : List AV} {t : Tree AV} (h : SoundDAt P f avs' t) (k : Sames avs avs') : SoundDAt P f avs t := fun Q hQ e w args hro hidf hr => h Q hQ e w args hro (k.idf hidf) (k.rep hr)
end Go.Proofs.YtlinbkmpkcmniaaGreat.Bo
/- Contracts of functions of the program, by the engine Sx: what each call comes to. Printed by a program of this repo (sxgen.py). -/
set_option linter.unusedSimpArgs false
set_option linter.unusedVariables false
namespace Go.Proofs.YtlinbkmpkcmniaaGreat.Bo
open Go Go.Sx Go.RowKit
def S_allr1 : Sx.Spec := fun l => match l with
  | [.agg [.x (.int .i64 a), .x (.int .i64 b), .x (.int .i64 u), .x (.int .i64 v)], .ro [.fn (.func 139) [.agg [.x (.int .i64 c), .x (.int .i64 T), .x (.int .i64 lo), .x (.int .i64 hi)]] []]] => some ([1 ≤ c ∧ c ≤ 10], bl (!rdB c a b u v))
  | _ => none

set_option maxRecDepth 100000 in
theorem allr1_at (c T lo hi a b u v : Int) (pre0 : 1 ≤ c ∧ c ≤ 10) : SoundAt Tryz.prog 156 [.agg [i a, i b, i u, i v], .ro [.fn (.func 139) [.agg [i c, i T, i lo, i hi]] []]] (bl (!rdB c a b u v)) := by
  refine soundAt_fin (G := [(139, S_reading)]) (L := []) (SoundG.cons reading_ok (SoundG.nil _)) mixed Tryz.func156 (show Tryz.f156.body = some (bodyOf Tryz.f156) by kernel_rfl) noLoops (t := (Tree.need [(1 : Int) ≤ c ∧ c ≤ (10 : Int)] (Tree.leaf (RV.x (Value.bool !rdB c a b u v))))) (by kernel_rfl) ?_
  simp [Tree.sat, allP, fitP, valEq]; exact pre0
theorem allr1_ok : SoundSpec Tryz.prog 156 S_allr1 := by
  refine ⟨⟨_, Tryz.func156, by kernel_rfl, by kernel_rfl⟩, ?_⟩
  intro avs ns res h hn
  unfold S_allr1 at h
  split at h
  · cases h
    exact allr1_at _ _ _ _ _ _ _ _ (hn _ (by simp))
  · cases h


def notR (c : Int) (a b u v : Nat → Int) (k : Nat) : Bool := !rdB c (a k) (b k) (u k) (v k)
def allR (c : Int) (n : Nat) (a b u v : Nat → Int) : Bool := allI (fun k => rdB c (a k) (b k) (u k) (v k)) n

noncomputable def E_xfr (c T lo hi : Int) (n : Nat) (a b u v : Nat → Int) : St := (some { σ := [AV.lst 4 n fun k => [iI (a k), iI (b k), iI (u k), iI (v k)], AV.fn (Fn.func 156) [] [AV.ro [AV.fn (Fn.func 139) [AV.agg [iI c, iI T, iI lo, iI hi]] []]], AV.top, AV.top, AV.top, AV.top, AV.top, iI (↑n : Int), AV.top, AV.top, AV.top, AV.top, AV.top, AV.top, AV.top, AV.top, AV.top, AV.top, AV.top], m := [], nx := 4 } : Option St).getD { σ := [], m := [], nx := 0 }

noncomputable def B_xfr : Code := loopBody (loopAt (bodyOf Tryz.f162) 0)
noncomputable def inv_xfr (c T lo hi : Int) (n : Nat) (a b u v : Nat → Int) (k : Nat) : St := { σ := ovrS [(8, i k)] (E_xfr c T lo hi n a b u v).σ, m := (E_xfr c T lo hi n a b u v).m, nx := (E_xfr c T lo hi n a b u v).nx }
noncomputable def out_xfr (c T lo hi : Int) (n : Nat) (a b u v : Nat → Int) (k : Nat) : AEx → Option St := fun ex => match ex with
  | .ret => some { σ := ovrS [(4, i (fstI (notR c a b u v) n))] (E_xfr c T lo hi n a b u v).σ, m := (E_xfr c T lo hi n a b u v).m, nx := (E_xfr c T lo hi n a b u v).nx }
  | .exit 0 => some { σ := ovrS [] (E_xfr c T lo hi n a b u v).σ, m := (E_xfr c T lo hi n a b u v).m, nx := (E_xfr c T lo hi n a b u v).nx }
  | _ => none
noncomputable def T_xfr (c T lo hi : Int) (n : Nat) (a b u v : Nat → Int) : CT := .branch (decide (fstI (notR c a b u v) n < n)) (.leaf (.ret, ( out_xfr c T lo hi n a b u v 0 .ret).getD (E_xfr c T lo hi n a b u v))) (.leaf (.exit 0, ( out_xfr c T lo hi n a b u v 0 (.exit 0)).getD (E_xfr c T lo hi n a b u v)))
noncomputable def LS_xfr (c T lo hi : Int) (n : Nat) (a b u v : Nat → Int) : LSpec := (sumL (inv_xfr c T lo hi n a b u v (0)) (T_xfr c T lo hi n a b u v))
set_option maxRecDepth 100000 in
theorem xfr_ls (c T lo hi : Int) (n : Nat) (a b u v : Nat → Int) (pre0 : n ≤ 100000) (pre1 : 1 ≤ c ∧ c ≤ 10) : LSound Tryz.prog (.loop B_xfr) (LS_xfr c T lo hi n a b u v) := by
  refine loop_rounds (G := [(156, S_allr1)]) (L := []) (SoundG.cons allr1_ok (SoundG.nil _)) mixed noLoops (X := Nat) (inv_xfr c T lo hi n a b u v) (fun k => k ≤ n ∧ ∀ j, j < k → notR c a b u v j = false) (fun k => n - k) (out_xfr c T lo hi n a b u v) (x0 := 0) (by simp) ?_ ?_ ?_
  · rintro k
    kernel_rfl
  · rintro k y E h
    unfold out_xfr at h
    split at h
    · cases h; kernel_rfl
    · cases h; kernel_rfl
    · cases h
  · rintro Q hQ k hx
    refine ⟨(k + 1), ?_⟩
    have e : roundT Tryz.prog [(156, S_allr1)] [] B_xfr (inv_xfr c T lo hi n a b u v k) (inv_xfr c T lo hi n a b u v ((k + 1))) (out_xfr c T lo hi n a b u v k) = (Tree.branch (decide ((↑k : Int) < (↑n : Int))) (Tree.need [(0 : Int) ≤ (↑k : Int) ∧ (↑k : Int) < (↑n : Int)] (Tree.need [(1 : Int) ≤ c ∧ c ≤ (10 : Int)] (Tree.branch (!rdB c (a k) (b k) (u k) (v k)) (Tree.need [(AV.lst 4 n fun k => [iI (a k), iI (b k), iI (u k), iI (v k)]) = AV.lst 4 n fun k => [iI (a k), iI (b k), iI (u k), iI (v k)], AV.fn (Fn.func 156) [] [AV.ro [AV.fn (Fn.func 139) [AV.agg [iI c, iI T, iI lo, iI hi]] []]] = AV.fn (Fn.func 156) [] [AV.ro [AV.fn (Fn.func 139) [AV.agg [iI c, iI T, iI lo, iI hi]] []]], (↑k : Int) = (↑(fstI (notR c a b u v) n) : Int), (↑n : Int) = (↑n : Int)] (Tree.leaf AEx.ret)) (Tree.need [inI64 ((↑k : Int) + (1 : Int))] (Tree.need [(AV.lst 4 n fun k => [iI (a k), iI (b k), iI (u k), iI (v k)]) = AV.lst 4 n fun k => [iI (a k), iI (b k), iI (u k), iI (v k)], AV.fn (Fn.func 156) [] [AV.ro [AV.fn (Fn.func 139) [AV.agg [iI c, iI T, iI lo, iI hi]] []]] = AV.fn (Fn.func 156) [] [AV.ro [AV.fn (Fn.func 139) [AV.agg [iI c, iI T, iI lo, iI hi]] []]], (↑n : Int) = (↑n : Int), (↑k : Int) + (1 : Int) = (↑(k + 1) : Int)] (Tree.leaf AEx.normal)))))) (Tree.need [(AV.lst 4 n fun k => [iI (a k), iI (b k), iI (u k), iI (v k)]) = AV.lst 4 n fun k => [iI (a k), iI (b k), iI (u k), iI (v k)], AV.fn (Fn.func 156) [] [AV.ro [AV.fn (Fn.func 139) [AV.agg [iI c, iI T, iI lo, iI hi]] []]] = AV.fn (Fn.func 156) [] [AV.ro [AV.fn (Fn.func 139) [AV.agg [iI c, iI T, iI lo, iI hi]] []]], (↑n : Int) = (↑n : Int)] (Tree.leaf (AEx.exit 0)))) := by kernel_rfl
    rw [e]
    simp only [T_xfr, out_xfr, Tree.sat, Option.getD_some, decide_eq_true_eq, decide_eq_false_iff_not] at hQ
    simp only [Tree.sat, allP, true_and, and_true, decide_eq_true_eq, decide_eq_false_iff_not, inI64, out_xfr, Int.toNat_natCast]
    refine ⟨fun h => ⟨by omega, pre1, fun hb => ?_, fun hb => ?_⟩, fun h => ?_⟩
    · have hf : fstI (notR c a b u v) n = k := fstI_eq (by omega) hb hx.2
      refine ⟨by omega, fun E hE => ?_⟩
      cases hE
      exact hQ.1 (by omega)
    · refine ⟨by omega, by omega, ⟨by omega, fun j hj => ?_⟩, by omega⟩
      rcases (show j < k ∨ j = k by omega) with h1 | rfl
      · exact hx.2 j h1
      · exact hb
    · have hf : fstI (notR c a b u v) n = n := fstI_none (fun j hj => hx.2 j (by omega))
      intro E hE
      cases hE
      exact hQ.2 (by omega)

set_option maxRecDepth 100000 in
theorem xfr_at (c T lo hi : Int) (n : Nat) (a b u v : Nat → Int) (pre0 : n ≤ 100000) (pre1 : 1 ≤ c ∧ c ≤ 10) : SoundAt Tryz.prog 162 [rds n a b u v, .fn (.func 156) [] [.ro [.fn (.func 139) [.agg [i c, i T, i lo, i hi]] []]]] (i (if fstI (notR c a b u v) n < n then (fstI (notR c a b u v) n : Int) else -1)) := by
  refine soundAt_fin (G := [(156, S_allr1)]) (L := [LS_xfr c T lo hi n a b u v]) (SoundG.cons allr1_ok (SoundG.nil _)) mixed Tryz.func162 (show Tryz.f162.body = some (bodyOf Tryz.f162) by kernel_rfl) (one_loop (fun cj hcj => by
    have e : loopAt (bodyOf Tryz.f162) 0 = some (.loop B_xfr) := by kernel_rfl
    rw [e] at hcj; cases hcj
    exact xfr_ls c T lo hi n a b u v pre0 pre1)) (t := (Tree.need [(AV.lst 4 n fun k => [iI (a k), iI (b k), iI (u k), iI (v k)]) = AV.lst 4 n fun k => [iI (a k), iI (b k), iI (u k), iI (v k)], AV.fn (Fn.func 156) [] [AV.ro [AV.fn (Fn.func 139) [AV.agg [iI c, iI T, iI lo, iI hi]] []]] = AV.fn (Fn.func 156) [] [AV.ro [AV.fn (Fn.func 139) [AV.agg [iI c, iI T, iI lo, iI hi]] []]], (↑n : Int) = (↑n : Int), (0 : Int) = (↑(0 : Nat) : Int)] (Tree.branch (decide (fstI (notR c a b u v) n < n)) (Tree.leaf (RV.x (Value.int IntKind.i64 (↑(fstI (notR c a b u v) n) : Int)))) (Tree.leaf (RV.x (Value.int IntKind.i64 (-1 : Int))))))) (by kernel_rfl) ?_
  simp only [Tree.sat, allP, fitP, valEq, true_and, and_true, decide_eq_true_eq, decide_eq_false_iff_not]
  simp +contextual


theorem isRec4 (n : Nat) (a b u v : Nat → Int) : isRec 4 n (fun k => [i (a k), i (b k), i (u k), i (v k)]) := fun _ _ => rfl
def S_xfr : Sx.Spec := fun l => match l with
  | [.lst 4 n f, .fn (.func 156) [] [.ro [.fn (.func 139) [.agg [.x (.int .i64 c), .x (.int .i64 T), .x (.int .i64 lo), .x (.int .i64 hi)]] []]]] => some ([isRec 4 n f, n ≤ 100000, 1 ≤ c ∧ c ≤ 10], i (if fstI (notR c (col 0 f) (col 1 f) (col 2 f) (col 3 f)) n < n then (fstI (notR c (col 0 f) (col 1 f) (col 2 f) (col 3 f)) n : Int) else -1))
  | _ => none
def S_cfr : Sx.Spec := fun l => match l with
  | [.lst 4 n f, .fn (.func 156) [] [.ro [.fn (.func 139) [.agg [.x (.int .i64 c), .x (.int .i64 T), .x (.int .i64 lo), .x (.int .i64 hi)]] []]]] => some ([isRec 4 n f, n ≤ 100000, 1 ≤ c ∧ c ≤ 10], bl (!allR c n (col 0 f) (col 1 f) (col 2 f) (col 3 f)))
  | _ => none
def S_allr : Sx.Spec := fun l => match l with
  | [.lst 4 n f, .fn (.func 139) [.agg [.x (.int .i64 c), .x (.int .i64 T), .x (.int .i64 lo), .x (.int .i64 hi)]] []] => some ([isRec 4 n f, n ≤ 100000, 1 ≤ c ∧ c ≤ 10], bl (allR c n (col 0 f) (col 1 f) (col 2 f) (col 3 f)))
  | _ => none
def flt (c T lo hi : Int) (n : Nat) (a b u v : Nat → Int) : Int := if tubeB c T lo hi then (if 12 < n then 3 else if allR c n a b u v then 0 else 2) else 1
def S_check : Sx.Spec := fun l => match l with
  | [.agg [.x (.int .i64 c), .x (.int .i64 T), .x (.int .i64 lo), .x (.int .i64 hi)], .lst 4 n f] => some ([isRec 4 n f], i (flt c T lo hi n (col 0 f) (col 1 f) (col 2 f) (col 3 f)))
  | _ => none


theorem xfr_ok : SoundSpec Tryz.prog 162 S_xfr := by
  refine ⟨⟨_, Tryz.func162, by kernel_rfl, by kernel_rfl⟩, ?_⟩
  intro avs ns res h hn
  unfold S_xfr at h
  split at h
  · cases h
    have hr : isRec 4 _ _ := hn _ (List.mem_cons_self)
    exact (xfr_at _ _ _ _ _ (col 0 _) (col 1 _) (col 2 _) (col 3 _) (hn _ (by simp)) (hn _ (by simp))).same (.cons (.lst 4 _ _ _ hr) (.cons (.refl _) .nil))
  · cases h

set_option maxRecDepth 100000 in
theorem cfr_at (c T lo hi : Int) (n : Nat) (a b u v : Nat → Int) (pre0 : n ≤ 100000) (pre1 : 1 ≤ c ∧ c ≤ 10) : SoundAt Tryz.prog 155 [rds n a b u v, .fn (.func 156) [] [.ro [.fn (.func 139) [.agg [i c, i T, i lo, i hi]] []]]] (bl (!allR c n a b u v)) := by
  refine soundAt_fin (G := [(162, S_xfr)]) (L := []) (SoundG.cons xfr_ok (SoundG.nil _)) mixed Tryz.func155 (show Tryz.f155.body = some (bodyOf Tryz.f155) by kernel_rfl) noLoops (t := (Tree.need [isRec 4 n fun k => [i (a k), i (b k), i (u k), i (v k)], n ≤ 100000, (1 : Int) ≤ c ∧ c ≤ (10 : Int)] (Tree.leaf (RV.x (Value.bool (decide ((if fstI (notR c a b u v) n < n then (↑(fstI (notR c a b u v) n) : Int) else (-1 : Int)) ≥ (0 : Int)))))))) (by kernel_rfl) ?_
  simp only [Tree.sat, allP, fitP, valEq, true_and, and_true]
  refine ⟨⟨isRec4 n _ _ _ _, pre0, pre1⟩, ?_⟩
  unfold allR
  rw [allI_fst]
  have := fstI_spec (notR c a b u v) n
  have e : (fun k => !(fun k => rdB c (a k) (b k) (u k) (v k)) k) = notR c a b u v := rfl
  rw [e]
  split <;> simp <;> omega


theorem cfr_ok : SoundSpec Tryz.prog 155 S_cfr := by
  refine ⟨⟨_, Tryz.func155, by kernel_rfl, by kernel_rfl⟩, ?_⟩
  intro avs ns res h hn
  unfold S_cfr at h
  split at h
  · cases h
    have hr : isRec 4 _ _ := hn _ (List.mem_cons_self)
    exact (cfr_at _ _ _ _ _ (col 0 _) (col 1 _) (col 2 _) (col 3 _) (hn _ (by simp)) (hn _ (by simp))).same (.cons (.lst 4 _ _ _ hr) (.cons (.refl _) .nil))
  · cases h

set_option maxRecDepth 100000 in
theorem allr_at (c T lo hi : Int) (n : Nat) (a b u v : Nat → Int) (pre0 : n ≤ 100000) (pre1 : 1 ≤ c ∧ c ≤ 10) : SoundAt Tryz.prog 140 [rds n a b u v, .fn (.func 139) [.agg [i c, i T, i lo, i hi]] []] (bl (allR c n a b u v)) := by
  refine soundAt_fin (G := [(155, S_cfr)]) (L := []) (SoundG.cons cfr_ok (SoundG.nil _)) mixed Tryz.func140 (show Tryz.f140.body = some (bodyOf Tryz.f140) by kernel_rfl) noLoops (t := (Tree.need [isRec 4 n fun k => [i (a k), i (b k), i (u k), i (v k)], n ≤ 100000, (1 : Int) ≤ c ∧ c ≤ (10 : Int)] (Tree.leaf (RV.x (Value.bool !!allR c n a b u v))))) (by kernel_rfl) ?_
  simp only [Tree.sat, allP, fitP, valEq, true_and, and_true]
  refine ⟨⟨isRec4 n _ _ _ _, pre0, pre1⟩, ?_⟩
  simp


theorem allr_ok : SoundSpec Tryz.prog 140 S_allr := by
  refine ⟨⟨_, Tryz.func140, by kernel_rfl, by kernel_rfl⟩, ?_⟩
  intro avs ns res h hn
  unfold S_allr at h
  split at h
  · cases h
    have hr : isRec 4 _ _ := hn _ (List.mem_cons_self)
    exact (allr_at _ _ _ _ _ (col 0 _) (col 1 _) (col 2 _) (col 3 _) (hn _ (by simp)) (hn _ (by simp))).same (.cons (.lst 4 _ _ _ hr) (.cons (.refl _) .nil))
  · cases h


theorem tube_bd {c T lo hi : Int} (h : tubeB c T lo hi = true) : (1 ≤ c ∧ c ≤ 10) ∧ (1 ≤ lo ∧ lo ≤ hi ∧ hi ≤ 200 ∧ 1 ≤ T ∧ T ≤ 2000) ∧ c * lo ≤ T ∧ T ≤ c * hi := by
  simp only [tubeB, Bool.and_eq_true, bt_iff, insB_iff] at h
  omega

set_option maxRecDepth 100000 in
theorem check_at (c T lo hi : Int) (n : Nat) (a b u v : Nat → Int) : SoundAt Tryz.prog 120 [.agg [i c, i T, i lo, i hi], rds n a b u v] (i (flt c T lo hi n a b u v)) := by
  refine soundAt_fin (G := [(125, S_CheckTube), (140, S_allr)]) (L := []) (SoundG.cons CheckTube_ok (SoundG.cons allr_ok (SoundG.nil _))) mixed Tryz.func120 (show Tryz.f120.body = some (bodyOf Tryz.f120) by kernel_rfl) noLoops (t := (Tree.branch ((if tubeB c T lo hi = true then (0 : Int) else (1 : Int)) != (0 : Int)) (Tree.leaf (RV.x (Value.int IntKind.i64 (if tubeB c T lo hi = true then (0 : Int) else (1 : Int))))) (Tree.branch (decide ((↑n : Int) > (12 : Int))) (Tree.leaf (RV.x (Value.int IntKind.i64 (3 : Int)))) (Tree.need [isRec 4 n fun k => [i (a k), i (b k), i (u k), i (v k)], n ≤ 100000, (1 : Int) ≤ c ∧ c ≤ (10 : Int)] (Tree.branch (!allR c n a b u v) (Tree.leaf (RV.x (Value.int IntKind.i64 (2 : Int)))) (Tree.leaf (RV.x (Value.int IntKind.i64 (0 : Int))))))))) (by kernel_rfl) ?_
  simp only [Tree.sat, allP, fitP, valEq, true_and, and_true, flt]
  by_cases ht : tubeB c T lo hi = true
  · have hb := tube_bd ht
    by_cases hn : 12 < n
    · simp [ht, hn]; omega
    · cases ha : allR c n a b u v <;> simp [ht, hn, ha, isRec4 n a b u v] <;> omega
  · simp [ht]


theorem check_ok : SoundSpec Tryz.prog 120 S_check := by
  refine ⟨⟨_, Tryz.func120, by kernel_rfl, by kernel_rfl⟩, ?_⟩
  intro avs ns res h hn
  unfold S_check at h
  split at h
  · cases h
    have hr : isRec 4 _ _ := hn _ (List.mem_cons_self)
    exact (check_at _ _ _ _ _ (col 0 _) (col 1 _) (col 2 _) (col 3 _)).same (.cons (.refl _) (.cons (.lst 4 _ _ _ hr) .nil))
  · cases h

end Go.Proofs.YtlinbkmpkcmniaaGreat.Bo
/- Contracts of functions of the program, by the engine Sx: what each call comes to. Printed by a program of this repo (sxgen.py). -/
set_option linter.unusedSimpArgs false
set_option linter.unusedVariables false
namespace Go.Proofs.YtlinbkmpkcmniaaGreat.Bo
open Go Go.Sx Go.RowKit
set_option maxRecDepth 100000 in
theorem low_at (f : Nat → Int) (k : Nat) (pre0 : k ≤ 10) (pre1 : -1000000000000 ≤ f (k * 11 + 4) ∧ f (k * 11 + 4) ≤ 1000000000000) : SoundAt Tryz.prog 122 [.roI [] 125 f 0, i k] (i (-(f (k * 11 + 4)))) := by
  refine soundAt_fin (G := []) (L := []) (SoundG.nil _) mixed Tryz.func122 (show Tryz.f122.body = some (bodyOf Tryz.f122) by kernel_rfl) noLoops (t := (Tree.need [(0 : Int) ≤ (↑k : Int) ∧ (↑k : Int) < (↑(11 : Nat) : Int)] (Tree.need [(0 : Int) ≤ (0 : Int) ∧ (0 : Int) < (↑(11 : Nat) : Int)] (Tree.need [0 + (k * 11 + 4) < 125] (Tree.need [inI64 (-f (0 + (k * 11 + 4)))] (Tree.leaf (RV.x (Value.int IntKind.i64 (-f (0 + (k * 11 + 4))))))))))) (by kernel_rfl) ?_
  simp only [Tree.sat, allP, fitP, fitL, valEq, true_and, and_true, Int.toNat_natCast]
  rw [show 0 + (k * 11 + 4) = k * 11 + 4 by omega]
  simp only [inI64]
  simp
  omega


def S_low : Sx.Spec := fun l => match l with
  | [.roI [] 125 f 0, .x (.int .i64 k)] => some ([0 ≤ k ∧ k ≤ 10, -1000000000000 ≤ f (k.toNat * 11 + 4) ∧ f (k.toNat * 11 + 4) ≤ 1000000000000], i (-(f (k.toNat * 11 + 4))))
  | _ => none


theorem low_ok : SoundSpec Tryz.prog 122 S_low := by
  refine ⟨⟨_, Tryz.func122, by kernel_rfl, by kernel_rfl⟩, ?_⟩
  intro avs ns res h hn
  unfold S_low at h
  split at h
  · rename_i f k
    cases h
    have hk : 0 ≤ k ∧ k ≤ 10 := hn _ (by simp)
    have e : ((k.toNat : Nat) : Int) = k := by omega
    have h0 := low_at f k.toNat (by omega) (hn _ (by simp))
    rw [e] at h0
    exact h0
  · cases h

set_option maxRecDepth 100000 in
theorem high_at (f : Nat → Int) (k : Nat) (pre0 : k ≤ 10) (pre1 : -1000000000000 ≤ f (k * 11 + 4) ∧ f (k * 11 + 4) ≤ 1000000000000) : SoundAt Tryz.prog 123 [.roI [] 125 f 0, i k] (i (f (k + 4))) := by
  refine soundAt_fin (G := []) (L := []) (SoundG.nil _) mixed Tryz.func123 (show Tryz.f123.body = some (bodyOf Tryz.f123) by kernel_rfl) noLoops (t := (Tree.need [(0 : Int) ≤ (0 : Int) ∧ (0 : Int) < (↑(11 : Nat) : Int)] (Tree.need [(0 : Int) ≤ (↑k : Int) ∧ (↑k : Int) < (↑(11 : Nat) : Int)] (Tree.need [k * 1 + 4 < 125] (Tree.leaf (RV.x (Value.int IntKind.i64 (f (k * 1 + 4))))))))) (by kernel_rfl) ?_
  simp only [Tree.sat, allP, fitP, fitL, valEq, true_and, and_true, Int.toNat_natCast]
  rw [show k * 1 + 4 = k + 4 by omega]
  simp only [inI64]
  simp
  omega


def S_high : Sx.Spec := fun l => match l with
  | [.roI [] 125 f 0, .x (.int .i64 k)] => some ([0 ≤ k ∧ k ≤ 10, -1000000000000 ≤ f (k.toNat * 11 + 4) ∧ f (k.toNat * 11 + 4) ≤ 1000000000000], i (f (k.toNat + 4)))
  | _ => none


theorem high_ok : SoundSpec Tryz.prog 123 S_high := by
  refine ⟨⟨_, Tryz.func123, by kernel_rfl, by kernel_rfl⟩, ?_⟩
  intro avs ns res h hn
  unfold S_high at h
  split at h
  · rename_i f k
    cases h
    have hk : 0 ≤ k ∧ k ≤ 10 := hn _ (by simp)
    have e : ((k.toNat : Nat) : Int) = k := by omega
    have h0 := high_at f k.toNat (by omega) (hn _ (by simp))
    rw [e] at h0
    exact h0
  · cases h

def S_lowest : Sx.Spec := fun l => match l with
  | [] => some ([], .agg [.fn (.func 122) [] []])
  | _ => none

set_option maxRecDepth 100000 in
theorem lowest_at  : SoundAt Tryz.prog 88 [] (.agg [.fn (.func 122) [] []]) := by
  refine soundAt_fin (G := []) (L := []) (SoundG.nil _) mixed Tryz.func88 (show Tryz.f88.body = some (bodyOf Tryz.f88) by kernel_rfl) noLoops (t := (Tree.leaf (RV.agg [RV.fn (Fn.func 122)]))) (by kernel_rfl) ?_
  simp only [Tree.sat, allP, fitP, fitL, valEq, true_and, and_true, Int.toNat_natCast]
  repeat' first | with_reducible apply And.intro | with_reducible intro _
  all_goals first | exact True.intro | omega | with_reducible rfl | assumption
theorem lowest_ok : SoundSpec Tryz.prog 88 S_lowest := by
  refine ⟨⟨_, Tryz.func88, by kernel_rfl, by kernel_rfl⟩, ?_⟩
  intro avs ns res h hn
  unfold S_lowest at h
  split at h
  · cases h
    exact lowest_at 
  · cases h

def S_highest : Sx.Spec := fun l => match l with
  | [] => some ([], .agg [.fn (.func 123) [] []])
  | _ => none

set_option maxRecDepth 100000 in
theorem highest_at  : SoundAt Tryz.prog 89 [] (.agg [.fn (.func 123) [] []]) := by
  refine soundAt_fin (G := []) (L := []) (SoundG.nil _) mixed Tryz.func89 (show Tryz.f89.body = some (bodyOf Tryz.f89) by kernel_rfl) noLoops (t := (Tree.leaf (RV.agg [RV.fn (Fn.func 123)]))) (by kernel_rfl) ?_
  simp only [Tree.sat, allP, fitP, fitL, valEq, true_and, and_true, Int.toNat_natCast]
  repeat' first | with_reducible apply And.intro | with_reducible intro _
  all_goals first | exact True.intro | omega | with_reducible rfl | assumption
theorem highest_ok : SoundSpec Tryz.prog 89 S_highest := by
  refine ⟨⟨_, Tryz.func89, by kernel_rfl, by kernel_rfl⟩, ?_⟩
  intro avs ns res h hn
  unfold S_highest at h
  split at h
  · cases h
    exact highest_at 
  · cases h

set_option maxRecDepth 100000 in
theorem bounds_at (f : Nat → Int) (k : Nat) (pre0 : k ≤ 10) (pre1 : -1000000000000 ≤ f (k * 11 + 4) ∧ f (k * 11 + 4) ≤ 1000000000000) : SoundAt Tryz.prog 105 [.roI [] 125 f 0, i k] (.agg [i (-(f (k * 11 + 4))), i (f (k + 4))]) := by
  refine soundAt_fin (G := [(122, S_low), (123, S_high), (88, S_lowest), (89, S_highest)]) (L := []) (SoundG.cons low_ok (SoundG.cons high_ok (SoundG.cons lowest_ok (SoundG.cons highest_ok (SoundG.nil _))))) mixed Tryz.func105 (show Tryz.f105.body = some (bodyOf Tryz.f105) by kernel_rfl) noLoops (t := (Tree.need [(0 : Int) ≤ (↑k : Int) ∧ (↑k : Int) ≤ (10 : Int), (-1000000000000 : Int) ≤ f (k * 11 + 4) ∧ f (k * 11 + 4) ≤ (1000000000000 : Int)] (Tree.need [(0 : Int) ≤ (↑k : Int) ∧ (↑k : Int) ≤ (10 : Int), (-1000000000000 : Int) ≤ f (k * 11 + 4) ∧ f (k * 11 + 4) ≤ (1000000000000 : Int)] (Tree.leaf (RV.agg [RV.x (Value.int IntKind.i64 (-f (k * 11 + 4))), RV.x (Value.int IntKind.i64 (f (k + 4)))]))))) (by kernel_rfl) ?_
  simp only [Tree.sat, allP, fitP, fitL, valEq, true_and, and_true, Int.toNat_natCast]
  repeat' first | with_reducible apply And.intro | with_reducible intro _
  all_goals first | exact True.intro | omega | with_reducible rfl | assumption

end Go.Proofs.YtlinbkmpkcmniaaGreat.Bo
/- Contracts of functions of the program, by the engine Sx: what each call comes to. Printed by a program of this repo (sxgen.py). -/
set_option linter.unusedSimpArgs false
set_option linter.unusedVariables false
namespace Go.Proofs.YtlinbkmpkcmniaaGreat.Bo
open Go Go.Sx Go.RowKit

def S_bounds : Sx.Spec := fun l => match l with
  | [.roI [] 125 f 0, .x (.int .i64 k)] => some ([0 ≤ k ∧ k ≤ 10, -1000000000000 ≤ f (k.toNat * 11 + 4) ∧ f (k.toNat * 11 + 4) ≤ 1000000000000], .agg [i (-(f (k.toNat * 11 + 4))), i (f (k.toNat + 4))])
  | _ => none


theorem bounds_ok : SoundSpec Tryz.prog 105 S_bounds := by
  refine ⟨⟨_, Tryz.func105, by kernel_rfl, by kernel_rfl⟩, ?_⟩
  intro avs ns res h hn
  unfold S_bounds at h
  split at h
  · rename_i f k
    cases h
    have hk : 0 ≤ k ∧ k ≤ 10 := hn _ (by simp)
    have e : ((k.toNat : Nat) : Int) = k := by omega
    have h0 := bounds_at f k.toNat (by omega) (hn _ (by simp))
    rw [e] at h0
    exact h0
  · cases h


end Go.Proofs.YtlinbkmpkcmniaaGreat.Bo
/- Contracts of functions of the program, by the engine Sx: what each call comes to. Printed by a program of this repo (sxgen.py). -/
set_option linter.unusedSimpArgs false
set_option linter.unusedVariables false
namespace Go.Proofs.YtlinbkmpkcmniaaGreat.Bo
open Go Go.Sx Go.RowKit

abbrev siteB (c T lo hi : Int) (n : Nat) (a b u v : Nat → Int) : AV := siteA c.toNat T lo hi n a b u v
def okB (c T lo hi : Int) (n : Nat) (a b u v : Nat → Int) : Bool := okR c.toNat T lo hi n a b u v
def fltB (c T lo hi : Int) (n : Nat) (a b u v : Nat → Int) (r : Bool) : Int := if flt c T lo hi n a b u v = 0 then (if r then (if okB c T lo hi n a b u v then 0 else 9) else 2) else flt c T lo hi n a b u v


theorem flt_iff {c T lo hi : Int} {n : Nat} {a b u v : Nat → Int} : flt c T lo hi n a b u v = 0 ↔ tubeB c T lo hi = true ∧ n ≤ 12 ∧ allI (fun k => rdB c (a k) (b k) (u k) (v k)) n = true := by
  unfold flt allR
  split
  · rename_i h1
    split
    · rename_i h2
      constructor
      · intro h; cases h
      · intro h; omega
    · rename_i h2
      split
      · rename_i h3
        exact ⟨fun _ => ⟨h1, by omega, h3⟩, fun _ => rfl⟩
      · rename_i h3
        constructor
        · intro h; cases h
        · intro h; exact absurd h.2.2 h3
  · rename_i h1
    constructor
    · intro h; cases h
    · intro h; exact absurd h.1 h1
theorem fltB_iff {c T lo hi : Int} {n : Nat} {a b u v : Nat → Int} {r : Bool} : fltB c T lo hi n a b u v r = 0 ↔ flt c T lo hi n a b u v = 0 ∧ r = true ∧ okB c T lo hi n a b u v = true := by
  unfold fltB
  split
  · rename_i h1
    split
    · rename_i h2
      split
      · rename_i h3
        simp [h1, h2, h3]
      · rename_i h3
        simp [h1, h2, h3]
    · rename_i h2
      simp [h1, h2]
  · rename_i h1
    simp [h1]

set_option maxRecDepth 100000 in
theorem tried_at (c T lo hi : Int) (n : Nat) (a b u v : Nat → Int) (r : Bool) : SoundCAt Tryz.prog 86 [.agg [i c, i T, i lo, i hi], rds n a b u v, bl r] (.branch (decide (fltB c T lo hi n a b u v r = 0)) (.leaf (.tup [siteB c T lo hi n a b u v, i 0])) (.leaf (.tup [nilP, i (fltB c T lo hi n a b u v r)]))) := by
  refine soundCAt_fin (G := [(120, S_check)]) (X := { R := [], H := [], C := [(121, C_read)] }) (L := []) (SoundG.cons check_ok (SoundG.nil _)) (SoundX.ofC (SoundRL.nil _) (SoundHL.nil _) (SoundCL.cons read_okC (SoundCL.nil _))) mixed Tryz.func86 (show Tryz.f86.body = some (bodyOf Tryz.f86) by kernel_rfl) noLoopsS (t := (Tree.need [isRec 4 n fun k => [i (a k), i (b k), i (u k), i (v k)]] (Tree.branch (flt c T lo hi n a b u v != (0 : Int)) (Tree.leaf (AV.tup [AV.x (Value.pointer none), iI (flt c T lo hi n a b u v)])) (Tree.branch (!r) (Tree.leaf (AV.tup [AV.x (Value.pointer none), iI (2 : Int)])) (Tree.need [isRec 4 n fun k => [i (a k), i (b k), i (u k), i (v k)], (1 : Int) ≤ c ∧ c ≤ (10 : Int), (1 : Int) ≤ lo ∧ lo ≤ hi ∧ hi ≤ (200 : Int) ∧ (1 : Int) ≤ T ∧ T ≤ (2000 : Int), n ≤ 1000, allI (fun k => rdB c (a k) (b k) (u k) (v k)) n = true] (Tree.branch (okR (Int.toNat c) T lo hi n a b u v) (Tree.leaf (AV.tup [AV.roI [] 125 (fun k => siteF (↑(Int.toNat c) : Int) T lo hi (fwM (Int.toNat c) T lo hi n a b u v) k) 0, iI (0 : Int)])) (Tree.leaf (AV.tup [AV.x (Value.pointer none), iI (9 : Int)])))))))) (by kernel_rfl) ?_
  intro Q hQ
  have e : c.toNat = c ∨ c < 0 := by omega
  simp only [Tree.sat, allP, true_and, and_true, bne_iff_ne, ne_eq, decide_eq_true_eq, decide_eq_false_iff_not, Bool.not_eq_true', bne_eq_false_iff_eq] at hQ ⊢
  refine ⟨isRec4 n a b u v, fun h1 => ?_, fun h1 => ?_⟩
  · refine ⟨.tup [nilP, i (flt c T lo hi n a b u v)], ⟨rfl, ⟨rfl, rfl⟩, True.intro⟩, ?_⟩
    have h2 : fltB c T lo hi n a b u v r = flt c T lo hi n a b u v := by unfold fltB; rw [if_neg h1]
    rw [h2] at hQ
    exact hQ.2 h1
  · have hf := flt_iff.1 h1
    have hb := tube_bd hf.1
    refine ⟨fun h2 => ?_, fun h2 => ⟨⟨isRec4 n a b u v, hb.1, hb.2.1, by have := hf.2.1; omega, hf.2.2⟩, fun h3 => ?_, fun h3 => ?_⟩⟩
    · subst h2
      have h4 : fltB c T lo hi n a b u v false = 2 := by unfold fltB; rw [if_pos h1]; rfl
      rw [h4] at hQ
      exact ⟨.tup [nilP, i 2], ⟨rfl, ⟨rfl, rfl⟩, True.intro⟩, hQ.2 (by omega)⟩
    · have h2 : r = true := by simpa using h2
      subst h2
      have h4 : fltB c T lo hi n a b u v true = 0 := fltB_iff.2 ⟨h1, rfl, h3⟩
      exact ⟨.tup [siteB c T lo hi n a b u v, i 0], ⟨⟨rfl, rfl, fun _ _ => rfl, rfl⟩, ⟨rfl, rfl⟩, True.intro⟩, hQ.1 h4⟩
    · have h2 : r = true := by simpa using h2
      subst h2
      have h4 : fltB c T lo hi n a b u v true = 9 := by unfold fltB okB; rw [if_pos h1, h3]; rfl
      rw [h4] at hQ
      exact ⟨.tup [nilP, i 9], ⟨rfl, ⟨rfl, rfl⟩, True.intro⟩, hQ.2 (by omega)⟩


noncomputable def C_tried : CSpec := fun l => match l with
  | [.agg [.x (.int .i64 c), .x (.int .i64 T), .x (.int .i64 lo), .x (.int .i64 hi)], .lst 4 n f, .x (.bool r)] => some (.need [isRec 4 n f] (.branch (decide (fltB c T lo hi n (col 0 f) (col 1 f) (col 2 f) (col 3 f) r = 0)) (.leaf (.tup [siteB c T lo hi n (col 0 f) (col 1 f) (col 2 f) (col 3 f), i 0])) (.leaf (.tup [nilP, i (fltB c T lo hi n (col 0 f) (col 1 f) (col 2 f) (col 3 f) r)]))))
  | [.agg [.x (.int .i64 c), .x (.int .i64 T), .x (.int .i64 lo), .x (.int .i64 hi)], .lst 4 n f, .lit r] => some (.need [isRec 4 n f] (.branch (decide (fltB c T lo hi n (col 0 f) (col 1 f) (col 2 f) (col 3 f) r = 0)) (.leaf (.tup [siteB c T lo hi n (col 0 f) (col 1 f) (col 2 f) (col 3 f), i 0])) (.leaf (.tup [nilP, i (fltB c T lo hi n (col 0 f) (col 1 f) (col 2 f) (col 3 f) r)]))))
  | _ => none


theorem RepL.lits {e : Env} {w : World} {r : Bool} : ∀ {l : List AV} {vs : List Value}, RepL e w (l ++ [.lit r]) vs → RepL e w (l ++ [.x (.bool r)]) vs
  | [], vs, h => by
    obtain ⟨v, vs', rfl, hv, hvs⟩ := h.cons_inv
    cases hv
    exact RepL.cons (.x _) hvs
  | a :: l, vs, h => by
    obtain ⟨v, vs', rfl, hv, hvs⟩ := h.cons_inv
    exact RepL.cons hv (RepL.lits hvs)
theorem SoundCAt.lits {P : Program} {f : FuncId} {l : List AV} {r : Bool} {t : Tree AV} (h : SoundCAt P f (l ++ [.x (.bool r)]) t) : SoundCAt P f (l ++ [.lit r]) t := fun Q hQ e w args hro hidf hr => h Q hQ e w args hro (fun a ha => by
  rcases List.mem_append.1 ha with h1 | h1
  · exact hidf a (List.mem_append_left _ h1)
  · cases List.mem_singleton.1 h1
    exact .x _) (RepL.lits hr)


theorem tried_okC : Enters Tryz.prog 86 ∧ ∀ avs t, C_tried avs = some t → SoundCAt Tryz.prog 86 avs t := by
  refine ⟨⟨_, Tryz.func86, by kernel_rfl, by kernel_rfl⟩, ?_⟩
  intro avs t h
  unfold C_tried at h
  split at h
  · rename_i c T lo hi n f r
    cases h
    intro Q hQ
    have hr : isRec 4 n f := allP_mem hQ.1 _ (by simp)
    exact SoundCAt.same (tried_at c T lo hi n (col 0 f) (col 1 f) (col 2 f) (col 3 f) r) (.cons (.refl _) (.cons (.lst 4 n _ _ hr) (.cons (.refl _) .nil))) Q hQ.2
  · rename_i c T lo hi n f r
    cases h
    intro Q hQ
    have hr : isRec 4 n f := allP_mem hQ.1 _ (by simp)
    exact SoundCAt.lits (l := [.agg [.x (.int .i64 c), .x (.int .i64 T), .x (.int .i64 lo), .x (.int .i64 hi)], .lst 4 n f]) (SoundCAt.same (tried_at c T lo hi n (col 0 f) (col 1 f) (col 2 f) (col 3 f) r) (.cons (.refl _) (.cons (.lst 4 n _ _ hr) (.cons (.refl _) .nil)))) Q hQ.2
  · cases h

end Go.Proofs.YtlinbkmpkcmniaaGreat.Bo
/- Contracts of functions of the program, by the engine Sx: what each call comes to. Printed by a program of this repo (sxgen.py). -/
set_option linter.unusedSimpArgs false
set_option linter.unusedVariables false
namespace Go.Proofs.YtlinbkmpkcmniaaGreat.Bo
open Go Go.Sx Go.RowKit

def eB (c T lo hi : Int) (n : Nat) (a b u v : Nat → Int) : Int := fltB c T lo hi n a b u v true
def fwB (c T lo hi : Int) (n : Nat) (a b u v : Nat → Int) : Nat → Nat → Int := fwM c.toNat T lo hi n a b u v
def sfB (c T lo hi : Int) (n : Nat) (a b u v : Nat → Int) : Nat → Int := siteF (c.toNat : Nat) T lo hi (fwB c T lo hi n a b u v)
def lenB (c T lo hi : Int) (n : Nat) (a b u v : Nat → Int) : Nat := if eB c T lo hi n a b u v = 0 then c.toNat + 1 else 0


theorem rdB_v {c a b u v : Int} (h : rdB c a b u v = true) : (0 ≤ a ∧ a ≤ c - 1) ∧ (a ≤ b ∧ b ≤ c) ∧ 0 ≤ u ∧ u ≤ v ∧ v ≤ 2000 := by
  simp only [rdB, Bool.and_eq_true, bt_iff, insB_iff] at h
  omega
theorem fwM_bd {c T lo hi : Int} {n : Nat} {a b u v : Nat → Int} (h : flt c T lo hi n a b u v = 0) (x y : Nat) : -1000000000000 ≤ fwB c T lo hi n a b u v x y ∧ fwB c T lo hi n a b u v x y ≤ 2000 := by
  have hf := flt_iff.1 h
  have hb := tube_bd hf.1
  have hl := rdM_lb (c := c.toNat) (a := a) (b := b) hb.2.1 (fun j hj => (rdB_v (allI_iff.1 hf.2.2 j hj)).2.2) n (Nat.le_refl n)
  have h1 := LB_O (c := c.toNat) hl (c.toNat + 1) x y
  have h2 := pow6 c.toNat (by omega)
  rw [Int.pow_succ] at h1
  unfold fwB fwM
  omega
theorem sfB_low (c T lo hi : Int) (n : Nat) (a b u v : Nat → Int) (k : Nat) : sfB c T lo hi n a b u v (k * 11 + 4) = fwB c T lo hi n a b u v k 0 := site_get _ _ _ _ _ (by omega) (by omega)
theorem sfB_high (c T lo hi : Int) (n : Nat) (a b u v : Nat → Int) {k : Nat} (hk : k ≤ 10) : sfB c T lo hi n a b u v (k + 4) = fwB c T lo hi n a b u v 0 k := site_get _ _ _ _ _ (by omega) (by omega)


theorem chunk_mem {sz k : Nat} {l : List AV} {x : AV} (h : x ∈ chunk sz l k) : x ∈ l := List.mem_of_mem_drop (List.mem_of_mem_take h)
theorem one_of {sz k : Nat} {l : List AV} {x : AV} (hm : x ∈ chunk sz l k) (h : ∀ y ∈ l, AV.one y = true) : AV.one x = true := h x (chunk_mem hm)
theorem catF2 {k j : Nat} {a b : Nat → Int} {x y : Int} (h : j < k + 1) (hx : x = a k) (hy : y = b k) : catF k (fun k => [i (a k), i (b k)]) (chunk 2 [i x, i y]) j = [i (a j), i (b j)] := by
  have e : j - k = 0 := by omega
  show mergeL (decide (j < k)) [i (a j), i (b j)] (chunk 2 [i x, i y] (j - k)) = _
  rw [e]
  by_cases hj : j < k
  · rw [show decide (j < k) = true by simp [hj]]
    rfl
  · have hk : j = k := by omega
    rw [show decide (j < k) = false by simp [hj], hk, hx, hy]
    rfl
noncomputable def E_hs (c T lo hi : Int) (n : Nat) (a b u v : Nat → Int) : St := (some { σ := [.agg [i c, i T, i lo, i hi], rds n a b u v, .ptr 0 0, .top, .x (.slice none 0 0), i 0, siteB c T lo hi n a b u v, i 0, .top, .top, .top, .top, .top, .top, .top, .top, .top, .top, .top, .top, .top, i (c + 1), .top, .top, .top, .top, .top, .top, .top, .top, .top, .top, .top], m := [(900, .row 40 2 0 (fun _ => [])), (0, .cells 42 [i c, i T, i lo, i hi])], nx := 901 } : Option St).getD { σ := [], m := [], nx := 0 }

noncomputable def B_hs : Code := loopBody (loopAt (bodyOf Tryz.f70) 0)
noncomputable def inv_hs (c T lo hi : Int) (n : Nat) (a b u v : Nat → Int) (k : Nat) : St := { σ := ovrS [(8, .row 900), (22, i k)] (E_hs c T lo hi n a b u v).σ, m := [(900, .row 40 2 (k) (fun k => [i (-(fwB c T lo hi n a b u v k 0)), i (fwB c T lo hi n a b u v 0 k)])), (0, .cells 42 [i c, i T, i lo, i hi])], nx := (E_hs c T lo hi n a b u v).nx }
noncomputable def out_hs (c T lo hi : Int) (n : Nat) (a b u v : Nat → Int) (k : Nat) : AEx → Option St := fun ex => match ex with
  | .exit 0 => some { σ := ovrS [(8, .row 900)] (E_hs c T lo hi n a b u v).σ, m := [(900, .row 40 2 (c.toNat + 1) (fun k => [i (-(fwB c T lo hi n a b u v k 0)), i (fwB c T lo hi n a b u v 0 k)])), (0, .cells 42 [i c, i T, i lo, i hi])], nx := (E_hs c T lo hi n a b u v).nx }
  | _ => none
noncomputable def T_hs (c T lo hi : Int) (n : Nat) (a b u v : Nat → Int) : CT := .leaf (.exit 0, ( out_hs c T lo hi n a b u v 0 (.exit 0)).getD (E_hs c T lo hi n a b u v))
noncomputable def LS_hs (c T lo hi : Int) (n : Nat) (a b u v : Nat → Int) : LSpec := normSp [(.slot 8, 900, 40, 2)] (sumL (inv_hs c T lo hi n a b u v (0)) (T_hs c T lo hi n a b u v))
set_option maxRecDepth 100000 in
theorem hs_ls (c T lo hi : Int) (n : Nat) (a b u v : Nat → Int) (pre0 : flt c T lo hi n a b u v = 0) : LSound Tryz.prog (.loop B_hs) (LS_hs c T lo hi n a b u v) := by
  refine loop_roundsN [(.slot 8, 900, 40, 2)] (G := [(105, S_bounds)]) (L := []) (SoundG.cons bounds_ok (SoundG.nil _)) mixed noLoops (X := Nat) (inv_hs c T lo hi n a b u v) (fun k => k ≤ c.toNat + 1) (fun k => c.toNat + 1 - k) (out_hs c T lo hi n a b u v) (x0 := 0) (by simp) ?_ ?_ ?_
  · rintro k
    kernel_rfl
  · rintro k y E h
    unfold out_hs at h
    split at h
    · cases h; kernel_rfl
    · cases h
  · rintro Q hQ k hx
    refine ⟨(k + 1), ?_⟩
    have e : roundN Tryz.prog [(105, S_bounds)] [] [(.slot 8, 900, 40, 2)] B_hs (inv_hs c T lo hi n a b u v k) (inv_hs c T lo hi n a b u v ((k + 1))) (out_hs c T lo hi n a b u v k) = (Tree.branch (decide ((↑k : Int) < c + (1 : Int))) (Tree.need [(0 : Int) ≤ (↑k : Int) ∧ (↑k : Int) ≤ (10 : Int), (-1000000000000 : Int) ≤ siteF (↑(Int.toNat c) : Int) T lo hi (fwM (Int.toNat c) T lo hi n a b u v) (k * 11 + 4) ∧ siteF (↑(Int.toNat c) : Int) T lo hi (fwM (Int.toNat c) T lo hi n a b u v) (k * 11 + 4) ≤ (1000000000000 : Int)] (Tree.need [(k + 1) * 16 ≤ 140737488355328, ∀ (i : Nat), i < 1 → ∀ (a_2 : AV), a_2 ∈ chunk 2 [iI (-siteF (↑(Int.toNat c) : Int) T lo hi (fwM (Int.toNat c) T lo hi n a b u v) (k * 11 + 4)), iI (siteF (↑(Int.toNat c) : Int) T lo hi (fwM (Int.toNat c) T lo hi n a b u v) (k + 4))] i → AV.one a_2 = true] (Tree.need [inI64 ((↑k : Int) + (1 : Int))] (Tree.need [AV.agg [iI c, iI T, iI lo, iI hi] = AV.agg [iI c, iI T, iI lo, iI hi], (AV.lst 4 n fun k => [iI (a k), iI (b k), iI (u k), iI (v k)]) = AV.lst 4 n fun k => [iI (a k), iI (b k), iI (u k), iI (v k)], AV.ptr 0 0 = AV.ptr 0 0, AV.x (Value.slice none 0 0) = AV.x (Value.slice none 0 0), (0 : Int) = (0 : Int), AV.roI [] 125 (fun k => siteF (↑(Int.toNat c) : Int) T lo hi (fwM (Int.toNat c) T lo hi n a b u v) k) 0 = AV.roI [] 125 (fun k => siteF (↑(Int.toNat c) : Int) T lo hi (fwM (Int.toNat c) T lo hi n a b u v) k) 0, (0 : Int) = (0 : Int), AV.row 900 = AV.row 900, c + (1 : Int) = c + (1 : Int), (↑k : Int) + (1 : Int) = (↑(k + 1) : Int), k + 1 = k + 1, ∀ (i : Nat), i < k + 1 → catF k (fun k => [Bo.i (-fwB c T lo hi n a b u v k 0), Bo.i (fwB c T lo hi n a b u v 0 k)]) (chunk 2 [iI (-siteF (↑(Int.toNat c) : Int) T lo hi (fwM (Int.toNat c) T lo hi n a b u v) (k * 11 + 4)), iI (siteF (↑(Int.toNat c) : Int) T lo hi (fwM (Int.toNat c) T lo hi n a b u v) (k + 4))]) i = [Bo.i (-fwB c T lo hi n a b u v i 0), Bo.i (fwB c T lo hi n a b u v 0 i)], c = c, T = T, lo = lo, hi = hi] (Tree.leaf AEx.normal))))) (Tree.need [AV.agg [iI c, iI T, iI lo, iI hi] = AV.agg [iI c, iI T, iI lo, iI hi], (AV.lst 4 n fun k => [iI (a k), iI (b k), iI (u k), iI (v k)]) = AV.lst 4 n fun k => [iI (a k), iI (b k), iI (u k), iI (v k)], AV.ptr 0 0 = AV.ptr 0 0, AV.x (Value.slice none 0 0) = AV.x (Value.slice none 0 0), (0 : Int) = (0 : Int), AV.roI [] 125 (fun k => siteF (↑(Int.toNat c) : Int) T lo hi (fwM (Int.toNat c) T lo hi n a b u v) k) 0 = AV.roI [] 125 (fun k => siteF (↑(Int.toNat c) : Int) T lo hi (fwM (Int.toNat c) T lo hi n a b u v) k) 0, (0 : Int) = (0 : Int), AV.row 900 = AV.row 900, c + (1 : Int) = c + (1 : Int), k = Int.toNat c + 1, ∀ (i : Nat), i < Int.toNat c + 1 → [Bo.i (-fwB c T lo hi n a b u v i 0), Bo.i (fwB c T lo hi n a b u v 0 i)] = [Bo.i (-fwB c T lo hi n a b u v i 0), Bo.i (fwB c T lo hi n a b u v 0 i)], c = c, T = T, lo = lo, hi = hi] (Tree.leaf (AEx.exit 0)))) := by kernel_rfl
    rw [e]
    simp only [T_hs, out_hs, Tree.sat, Option.getD_some] at hQ
    have hc := (tube_bd (flt_iff.1 pre0).1).1
    have e0 : ((c.toNat : Nat) : Int) = c := by omega
    have eq : ∀ k, siteF c.toNat T lo hi (fwM c.toNat T lo hi n a b u v) k = sfB c T lo hi n a b u v k := fun _ => rfl
    simp only [Tree.sat, allP, fitP, fitL, valEq, inI64, true_and, and_true, decide_eq_true_eq, decide_eq_false_iff_not, Int.natCast_zero, Int.toNat_natCast, out_hs, eq]
    clear e
    refine ⟨fun h => ?_, fun h => ?_⟩
    · have h2 := fwM_bd pre0 k 0
      have h3 := fwM_bd pre0 0 k
      refine ⟨⟨by omega, by rw [sfB_low]; omega⟩, ⟨by omega, fun i hi a ha => one_of ha (by simp [AV.one, Value.oneCell'])⟩, by omega, ⟨by omega, fun i hi => catF2 hi (by rw [sfB_low]) (by rw [sfB_high _ _ _ _ _ _ _ _ _ (by omega)])⟩, by omega, by omega⟩
    · obtain rfl : k = c.toNat + 1 := by omega
      exact ⟨⟨rfl, fun _ _ => True.intro⟩, fun E hE => by cases hE; exact hQ⟩

set_option maxRecDepth 100000 in
theorem Heights_at1 (c T lo hi : Int) (n : Nat) (a b u v : Nat → Int) (pre0 : fltB c T lo hi n a b u v true = 0) (pre1 : flt c T lo hi n a b u v = 0) : SoundAt Tryz.prog 70 [.agg [i c, i T, i lo, i hi], rds n a b u v] (.tup [.lst 2 (lenB c T lo hi n a b u v) (fun k => [i (-(fwB c T lo hi n a b u v k 0)), i (fwB c T lo hi n a b u v 0 k)]), i (eB c T lo hi n a b u v)]) := by
  refine soundAt_finG (G := [(105, S_bounds)]) (X := { R := [], H := [], C := [(86, C_tried)] }) (L := [LS_hs c T lo hi n a b u v]) (Gd.go true (Gd.go false Gd.rest)) (SoundG.cons bounds_ok (SoundG.nil _)) (SoundX.ofC (SoundRL.nil _) (SoundHL.nil _) (SoundCL.cons tried_okC (SoundCL.nil _))) mixed Tryz.func70 (show Tryz.f70.body = some (bodyOf Tryz.f70) by kernel_rfl) (one_loop (fun cj hcj => by
    have e : loopAt (bodyOf Tryz.f70) 0 = some (.loop B_hs) := by kernel_rfl
    rw [e] at hcj; cases hcj
    exact (hs_ls c T lo hi n a b u v pre1).N)) (t := (Tree.need [isRec 4 n fun k => [i (a k), i (b k), i (u k), i (v k)]] (Tree.need [decide (fltB c T lo hi n a b u v true = (0 : Int)) = true] (Tree.need [((0 : Int) != (0 : Int)) = false] (Tree.need [inI64 (c + (1 : Int))] (Tree.need [AV.agg [iI c, iI T, iI lo, iI hi] = AV.agg [iI c, iI T, iI lo, iI hi], (AV.lst 4 n fun k => [iI (a k), iI (b k), iI (u k), iI (v k)]) = AV.lst 4 n fun k => [iI (a k), iI (b k), iI (u k), iI (v k)], AV.ptr 0 0 = AV.ptr 0 0, AV.x (Value.slice none 0 0) = AV.x (Value.slice none 0 0), (0 : Int) = (0 : Int), AV.roI [] 125 (fun k => siteF (↑(Int.toNat c) : Int) T lo hi (fwM (Int.toNat c) T lo hi n a b u v) k) 0 = AV.roI [] 125 (fun k => siteF (↑(Int.toNat c) : Int) T lo hi (fwM (Int.toNat c) T lo hi n a b u v) k) 0, (0 : Int) = (0 : Int), AV.row 900 = AV.row 900, c + (1 : Int) = c + (1 : Int), (0 : Int) = (↑(0 : Nat) : Int), 0 = 0, ∀ (i : Nat), i < 0 → [] = [Bo.i (-fwB c T lo hi n a b u v i 0), Bo.i (fwB c T lo hi n a b u v 0 i)], c = c, T = T, lo = lo, hi = hi] (Tree.leaf (RV.tup [RV.lst 2 (Int.toNat c + 1) fun k => [iI (-fwB c T lo hi n a b u v k 0), iI (fwB c T lo hi n a b u v 0 k)], RV.x (Value.int IntKind.i64 (0 : Int))])))))))) (by kernel_rfl) ?_
  have hc := (tube_bd (flt_iff.1 pre1).1).1
  have hl : lenB c T lo hi n a b u v = c.toNat + 1 := if_pos pre0
  have he : eB c T lo hi n a b u v = 0 := pre0
  rw [hl, he]
  simp only [Tree.sat, allP, fitP, fitL, valEq, inI64, true_and, and_true]
  (repeat' first | with_reducible apply And.intro | with_reducible intro _)
  all_goals first | exact True.intro | with_reducible rfl | omega | exact isRec4 _ _ _ _ _ | (simp [*]; done) | (rename_i hm; simp only [List.mem_cons, List.not_mem_nil, or_false] at hm; rcases hm with rfl | rfl <;> exact True.intro)

set_option maxRecDepth 100000 in
theorem Heights_at0 (c T lo hi : Int) (n : Nat) (a b u v : Nat → Int) (pre0 : fltB c T lo hi n a b u v true ≠ 0) : SoundAt Tryz.prog 70 [.agg [i c, i T, i lo, i hi], rds n a b u v] (.tup [.lst 2 (lenB c T lo hi n a b u v) (fun k => [i (-(fwB c T lo hi n a b u v k 0)), i (fwB c T lo hi n a b u v 0 k)]), i (eB c T lo hi n a b u v)]) := by
  refine soundAt_finG (G := [(105, S_bounds)]) (X := { R := [], H := [], C := [(86, C_tried)] }) (L := []) (Gd.go false (Gd.go true Gd.rest)) (SoundG.cons bounds_ok (SoundG.nil _)) (SoundX.ofC (SoundRL.nil _) (SoundHL.nil _) (SoundCL.cons tried_okC (SoundCL.nil _))) mixed Tryz.func70 (show Tryz.f70.body = some (bodyOf Tryz.f70) by kernel_rfl) noLoopsS (t := (Tree.need [isRec 4 n fun k => [i (a k), i (b k), i (u k), i (v k)]] (Tree.need [decide (fltB c T lo hi n a b u v true = (0 : Int)) = false] (Tree.need [(fltB c T lo hi n a b u v true != (0 : Int)) = true] (Tree.leaf (RV.tup [RV.x (Value.slice none 0 0), RV.x (Value.int IntKind.i64 (fltB c T lo hi n a b u v true))])))))) (by kernel_rfl) ?_
  have hl : lenB c T lo hi n a b u v = 0 := if_neg pre0
  have he : eB c T lo hi n a b u v = fltB c T lo hi n a b u v true := rfl
  rw [hl, he]
  simp only [Tree.sat, allP, fitP, fitL, valEq, inI64, true_and, and_true]
  (repeat' first | with_reducible apply And.intro | with_reducible intro _)
  all_goals first | exact True.intro | with_reducible rfl | omega | exact isRec4 _ _ _ _ _ | (simp [*]; done)


def S_Heights : Sx.Spec := fun l => match l with
  | [.agg [.x (.int .i64 c), .x (.int .i64 T), .x (.int .i64 lo), .x (.int .i64 hi)], .lst 4 n f] => some ([isRec 4 n f], .tup [.lst 2 (lenB c T lo hi n (col 0 f) (col 1 f) (col 2 f) (col 3 f)) (fun k => [i (-(fwB c T lo hi n (col 0 f) (col 1 f) (col 2 f) (col 3 f) k 0)), i (fwB c T lo hi n (col 0 f) (col 1 f) (col 2 f) (col 3 f) 0 k)]), i (eB c T lo hi n (col 0 f) (col 1 f) (col 2 f) (col 3 f))])
  | _ => none


theorem Heights_at (c T lo hi : Int) (n : Nat) (a b u v : Nat → Int) : SoundAt Tryz.prog 70 [.agg [i c, i T, i lo, i hi], rds n a b u v] (.tup [.lst 2 (lenB c T lo hi n a b u v) (fun k => [i (-(fwB c T lo hi n a b u v k 0)), i (fwB c T lo hi n a b u v 0 k)]), i (eB c T lo hi n a b u v)]) := by
  by_cases h : fltB c T lo hi n a b u v true = 0
  · exact Heights_at1 c T lo hi n a b u v h (fltB_iff.1 h).1
  · exact Heights_at0 c T lo hi n a b u v h


theorem Heights_ok : SoundSpec Tryz.prog 70 S_Heights := by
  refine ⟨⟨_, Tryz.func70, by kernel_rfl, by kernel_rfl⟩, ?_⟩
  intro avs ns res h hn
  unfold S_Heights at h
  split at h
  · rename_i c T lo hi n f
    cases h
    have hr : isRec 4 n f := hn _ (List.mem_cons_self)
    exact (Heights_at c T lo hi n (col 0 f) (col 1 f) (col 2 f) (col 3 f)).same (.cons (.refl _) (.cons (.lst 4 n _ _ hr) .nil))
  · cases h

end Go.Proofs.YtlinbkmpkcmniaaGreat.Bo
/- Contracts of functions of the program, by the engine Sx: what each call comes to. Printed by a program of this repo (sxgen.py). -/
set_option linter.unusedSimpArgs false
set_option linter.unusedVariables false
namespace Go.Proofs.YtlinbkmpkcmniaaGreat.Bo
open Go Go.Sx Go.RowKit

end Go.Proofs.YtlinbkmpkcmniaaGreat.Bo
