/- The operations one by one, third part: numbers, tests, new memory. -/
import Derived.Test.YtchcegfhamngkaaSxD
namespace Go.Sx
open Go Go.RowKit

section
variable {P : Program}

def boolOf : AV → Option Bool
  | .lit b => some b
  | .x (.bool b) => some b
  | _ => none

theorem boolOf_rep {e : Env} {w : World} {a : AV} {v : Value} {b : Bool} (h : boolOf a = some b) (r : Rep e w a v) : v = .bool b := by
  cases r with
  | lit b' => simp [boolOf] at h; rw [h]
  | x v => cases v <;> simp [boolOf] at h; rw [h]
  | _ => simp [boolOf] at h

/-- '==' at a type, of abstract values. -/
def eqA (P : Program) : Nat → TypeId → AV → AV → Option Bool
  | 0, _, _, _ => none
  | d + 1, t, a, b =>
    match P.underlying t with
    | some (.int _) => match a, b with
      | .x (.int k x), .x (.int k' y) => match decide (k = k') with
        | true => some (x == y)
        | false => none
      | _, _ => none
    | some .bool => match boolOf a, boolOf b with
      | some x, some y => some (x == y)
      | _, _ => none
    | some .string => match a, b with
      | .x (.string x), .x (.string y) => some (x.toList == y.toList)
      | _, _ => none
    | some (.struct fs) => match a, b with
      | .agg xs, .agg ys => match P.stoodInHeld t with
        | true => none
        | false => fs.toList.foldr (fun f acc => match decide (f.name = "_") with
            | true => acc
            | false => match partL P f.type xs f.offset, partL P f.type ys f.offset with
              | some p, some q => match eqA P d f.type p q, acc with
                | some r, some s => some (r && s)
                | _, _ => none
              | _, _ => none) (some true)
      | _, _ => none
    | _ => none

theorem eqA_sound {e : Env} {w : World} : ∀ (d : Nat) (t : TypeId) (a b : AV) (va vb : Value) (r : Bool), eqA P d t a b = some r → Rep e w a va → Rep e w b vb → (Op.equalIn d t va vb).run P w = .ok r w
  | 0, _, _, _, _, _, _, h, _, _ => by simp [eqA] at h
  | d + 1, t, a, b, va, vb, r, h, ra, rb => by
    unfold eqA at h
    split at h
    · rename_i k0 hu
      split at h
      · rename_i k x k' y
        cases ra.x_inv; cases rb.x_inv
        split at h
        · rename_i hk
          have hk' : k = k' := of_decide_eq_true hk
          subst hk'
          cases h
          exact run_equalIn_int w d t k k0 x y hu
        · cases h
      · cases h
    · rename_i hu
      split at h
      · rename_i x y hx hy
        cases boolOf_rep hx ra; cases boolOf_rep hy rb
        cases h
        exact run_equalIn_bool' w d t x y hu
      · cases h
    · rename_i hu
      split at h
      · rename_i x y
        cases ra.x_inv; cases rb.x_inv
        cases h
        exact run_equalIn_string w d t x y hu
      · cases h
    · rename_i fs hu
      split at h
      · rename_i xs ys
        obtain ⟨vs, rfl, hvs⟩ := ra.agg_inv
        obtain ⟨us, rfl, hus⟩ := rb.agg_inv
        split at h
        · cases h
        · rename_i hst
          have hfs : P.fieldsOf t = fs := by simp [Program.fieldsOf, hu]
          rw [run_equalIn_struct w d t _ _ (by rw [hfs]; exact hu) hst, hfs]
          clear hfs hu
          generalize fs.toList = l at h
          induction l generalizing r with
          | nil => simp at h; subst h; rfl
          | cons f l ih =>
            simp only [List.foldr_cons] at h
            split at h
            · rename_i hn
              have hn' : f.name = "_" := of_decide_eq_true hn
              simp only [Op.eqFields, hn', ne_eq, not_true_eq_false, if_false]
              exact ih r h
            · rename_i hn
              have hn' : f.name ≠ "_" := of_decide_eq_false hn
              split at h
              · rename_i p q hp hq
                split at h
                · rename_i r1 s hr1 hacc
                  cases h
                  obtain ⟨v1, hv1, rep1⟩ := run_part (P := P) hp hvs
                  obtain ⟨v2, hv2, rep2⟩ := run_part (P := P) hq hus
                  have h1 := eqA_sound d f.type p q v1 v2 r1 hr1 rep1 rep2
                  have h2 := ih s hacc
                  simp only [Op.eqFields, hn', ne_eq, not_false_eq_true, if_true, Sem.run_bind, hv1, Result.andThen_ok, hv2, h1]
                  cases r1
                  · simp
                  · simp [h2]
                · cases h
              · cases h
      · cases h
    · cases h

def cmpI (op : BinOp) (a b : Int) : Option Bool :=
  match op with
  | .eql => some (a == b)
  | .neq => some (a != b)
  | .lss => some (decide (a < b))
  | .leq => some (decide (a ≤ b))
  | .gtr => some (decide (a > b))
  | .geq => some (decide (a ≥ b))
  | _ => none

/-- Arithmetic on int. -/
def arI (op : BinOp) (a b : Int) : Option (List Prop × Int) :=
  match op with
  | .add => some ([inI64 (a + b)], a + b)
  | .sub => some ([inI64 (a - b)], a - b)
  | .mul => some ([inI64 (a * b)], a * b)
  | .quo => some ([b ≠ 0, inI64 (a.tdiv b)], a.tdiv b)
  | .rem => some ([b ≠ 0], a.tmod b)
  | _ => none

def opBin (P : Program) (op : BinOp) (t : TypeId) (x y : AV) : Option Out :=
  match x, y with
  | .x (.int k a), .x (.int k' b) => match decide (k = k') with
    | true => match cmpI op a b with
      | some r => some ([], .x (.bool r), none)
      | none => match decide (k = .i64) with
        | true => match arI op a b with
          | some (ns, r) => some (ns, .x (.int .i64 r), none)
          | none => none
        | false => none
    | false => none
  | .x (.string a), .x (.string b) => match op with
    | .eql => some ([], .x (.bool (a.toList == b.toList)), none)
    | .neq => some ([], .x (.bool (!(a.toList == b.toList))), none)
    | _ => none
  | .agg l, .agg l' => match P.eqGuardType P.depth t with
    | true => none
    | false => match op, eqA P 10000 t (.agg l) (.agg l') with
      | .eql, some r => some ([], .x (.bool r), none)
      | .neq, some r => some ([], .x (.bool !r), none)
      | _, _ => none
  | x, y => match boolOf x, boolOf y, P.underlying t with
    | some a, some b, some .bool => match op with
      | .eql => some ([], .x (.bool (a == b)), none)
      | .neq => some ([], .x (.bool (!(a == b))), none)
      | _ => none
    | _, _, _ => none

theorem opBin_sound {e : Env} {B : Nat} {w : World} {m : Mem} {id : Nat} {op : BinOp} {t : TypeId} {ox oy : Operand} {x y : AV} {vx vy : Value} {ns : List Prop} {val : AV} {add : Option Res} (h : opBin P op t x y = some (ns, val, add)) (hn : ∀ p ∈ ns, p)
    (hE : EnvOk e B w) (hm : MemOk e m w) (rx : Rep e w x vx) (ry : Rep e w y vy) :
    ∃ u w', (do eqGuard op t ox oy vx vy; binOp op t vx vy : Sem Value).run P w = .ok u w' ∧ Came e B w m id val add u w' := by
  unfold opBin at h
  split at h
  · rename_i k a k' b
    cases rx.x_inv; cases ry.x_inv
    have hg : (eqGuard op t ox oy (.int k a) (.int k' b)).run P w = .ok () w := by cases op <;> simp [eqGuard]
    split at h
    · rename_i hk
      have hk' : k = k' := of_decide_eq_true hk
      subst hk'
      split at h
      · rename_i r hr
        cases h
        refine ⟨.bool r, w, ?_, came_same hE hm (.x _)⟩
        rw [Sem.run_bind, hg]
        cases op <;> simp [cmpI] at hr <;> subst hr <;> simp [binOp, Op.intCmp]
      · rename_i hr
        split at h
        · rename_i hi
          have hi' : k = .i64 := of_decide_eq_true hi
          subst hi'
          split at h
          · rename_i ns' r har
            cases h
            refine ⟨.int .i64 r, w, ?_, came_same hE hm (.x _)⟩
            rw [Sem.run_bind, hg]
            cases op <;> simp [arI] at har
            case add =>
              obtain ⟨rfl, rfl⟩ := har
              have h1 : inI64 (a + b) := hn _ (by simp)
              simp [binOp, Op.intArith, wrap_i64 h1]
            case sub =>
              obtain ⟨rfl, rfl⟩ := har
              have h1 : inI64 (a - b) := hn _ (by simp)
              simp [binOp, Op.intArith, wrap_i64 h1]
            case mul =>
              obtain ⟨rfl, rfl⟩ := har
              have h1 : inI64 (a * b) := hn _ (by simp)
              simp [binOp, Op.intArith, wrap_i64 h1]
            case quo =>
              obtain ⟨rfl, rfl⟩ := har
              have h0 : b ≠ 0 := hn _ (by simp)
              have h1 : inI64 (a.tdiv b) := hn _ (by simp)
              simp [binOp, Op.intDiv, h0, wrap_i64 h1]
            case rem =>
              obtain ⟨rfl, rfl⟩ := har
              have h0 : b ≠ 0 := hn _ (by simp)
              simp [binOp, Op.intDiv, h0]
          · cases h
        · cases h
    · cases h
  · rename_i a b
    cases rx.x_inv; cases ry.x_inv
    have hg : (eqGuard op t ox oy (.string a) (.string b)).run P w = .ok () w := by cases op <;> simp [eqGuard]
    split at h
    · cases h
      refine ⟨_, w, ?_, came_same hE hm (.x _)⟩
      rw [Sem.run_bind, hg]; simp [binOp, Op.stringOp]
    · cases h
      refine ⟨_, w, ?_, came_same hE hm (.x _)⟩
      rw [Sem.run_bind, hg]; simp [binOp, Op.stringOp]
    · cases h
  · rename_i l l'
    split at h
    · cases h
    · rename_i hgt
      obtain ⟨vs, rfl, _⟩ := rx.agg_inv
      obtain ⟨us, rfl, _⟩ := ry.agg_inv
      have hg := run_eqGuard_agg (P := P) w op t ox oy vs.toArray us.toArray hgt
      split at h
      · rename_i r hr
        cases h
        have := eqA_sound (P := P) 10000 t _ _ _ _ r hr rx ry
        refine ⟨_, w, ?_, came_same hE hm (.x _)⟩
        rw [Sem.run_bind, hg, Result.andThen_ok, run_eql_struct, this]; rfl
      · rename_i r hr
        cases h
        have := eqA_sound (P := P) 10000 t _ _ _ _ r hr rx ry
        refine ⟨_, w, ?_, came_same hE hm (.x _)⟩
        rw [Sem.run_bind, hg, Result.andThen_ok, run_neq_struct, this]; rfl
      · cases h
  · split at h
    · rename_i a b ha hb hu
      cases boolOf_rep ha rx; cases boolOf_rep hb ry
      have hg : (eqGuard op t ox oy (.bool a) (.bool b)).run P w = .ok () w := by cases op <;> simp [eqGuard]
      have he : (Op.equal t (.bool a) (.bool b)).run P w = .ok (a == b) w := run_equalIn_bool' w 9999 t a b hu
      split at h
      · cases h
        refine ⟨_, w, ?_, came_same hE hm (.x _)⟩
        rw [Sem.run_bind, hg]; simp [binOp, he]
      · cases h
        refine ⟨_, w, ?_, came_same hE hm (.x _)⟩
        rw [Sem.run_bind, hg]; simp [binOp, he]
      · cases h
    · cases h
end
end Go.Sx
