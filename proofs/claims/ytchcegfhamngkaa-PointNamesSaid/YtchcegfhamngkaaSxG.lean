/- The operations one by one, fifth part: slices of slices, lengths, calls by contract; all of them under one name. -/
import Derived.Test.YtchcegfhamngkaaSxF
namespace Go.Sx
open Go Go.RowKit

section
variable {P : Program}

def loI : Option AV → Option Int
  | none => some 0
  | some (.x (.int _ i)) => some i
  | _ => none

def hiI (n : Nat) : Option AV → Option Int
  | none => some n
  | some (.x (.int _ i)) => some i
  | _ => none

def opSlice (P : Program) (t : TypeId) (x : AV) (lo hi : Option AV) : Option Out :=
  match x with
  | .lst sz n f => match P.underlying t with
    | some (.slice el) => match P.info? el with
      | some info => match Nat.beq info.size sz with
        | true => match loI lo, hiI n hi with
          | some l, some h => some ([0 ≤ l ∧ l ≤ h ∧ h ≤ (n : Int)], .lst sz (h.toNat - l.toNat) (fun i => f (l.toNat + i)), none)
          | _, _ => none
        | false => none
      | none => none
    | _ => none
  | .x (.string s) => match P.underlying t with
    | some .string => match loI lo, hiI s.size hi with
      | some l, some h => some ([0 ≤ l ∧ l ≤ h ∧ h ≤ (s.size : Int)], .x (.string (s.extract l.toNat h.toNat)), none)
      | _, _ => none
    | _ => none
  | _ => none

def RepO (e : Env) (w : World) : Option AV → Option Value → Prop
  | none, none => True
  | some a, some v => Rep e w a v
  | _, _ => False

theorem run_bounds {e : Env} {w : World} (isSlice : Bool) (len cap : Nat) (lo hi : Option AV) (vlo vhi : Option Value) (l h : Int) (hl : loI lo = some l) (hh : hiI len hi = some h) (rl : RepO e w lo vlo) (rh : RepO e w hi vhi)
    (b : 0 ≤ l ∧ l ≤ h ∧ h ≤ (len : Int)) (hc : len ≤ cap) : (Instr.sliceBounds isSlice len cap vlo vhi none).run P w = .ok (l.toNat, h.toNat, cap) w := by
  obtain ⟨b1, b2, b3⟩ := b
  have hhi : (match vhi with | some v => Instr.sliceBound v cap (if isSlice then .sliceAcap else .sliceAlen) | none => pure len : Sem Nat).run P w = .ok h.toNat w := by
    cases hi with
    | none =>
      cases vhi with
      | none => simp [hiI] at hh; subst hh; simp
      | some v => exact rh.elim
    | some a =>
      cases vhi with
      | none => exact rh.elim
      | some v =>
        cases a with
        | x u =>
          cases u <;> simp [hiI] at hh
          rename_i k i
          subst hh
          cases Rep.x_inv rh
          simp only [Instr.sliceBound, asIntOf, Sem.run_bind, Sem.run_pure, Result.andThen_ok, Sem.run_ite]
          rw [if_pos (by omega)]
        | _ => simp [hiI] at hh
  have hlo : ∀ hn : Nat, hn = h.toNat → (match vlo with | some v => Instr.sliceBound v hn .sliceB | none => pure 0 : Sem Nat).run P w = .ok l.toNat w := by
    intro hn hhn
    subst hhn
    cases lo with
    | none =>
      cases vlo with
      | none => simp [loI] at hl; subst hl; simp
      | some v => exact rl.elim
    | some a =>
      cases vlo with
      | none => exact rl.elim
      | some v =>
        cases a with
        | x u =>
          cases u <;> simp [loI] at hl
          rename_i k i
          subst hl
          cases Rep.x_inv rl
          simp only [Instr.sliceBound, asIntOf, Sem.run_bind, Sem.run_pure, Result.andThen_ok, Sem.run_ite]
          rw [if_pos (by omega)]
        | _ => simp [loI] at hl
  unfold Instr.sliceBounds
  cases vhi <;> cases vlo <;> simp at hhi hlo ⊢ <;> simp [hhi, hlo]

theorem opSlice_sound {e : Env} {B : Nat} {w : World} {m : Mem} {id : Nat} {t : TypeId} {x : AV} {lo hi : Option AV} {v : Value} {vlo vhi : Option Value} {ns : List Prop} {val : AV} {add : Option Res} (h : opSlice P t x lo hi = some (ns, val, add)) (hn : ∀ p ∈ ns, p)
    (hE : EnvOk e B w) (hm : MemOk e m w) (rx : Rep e w x v) (rl : RepO e w lo vlo) (rh : RepO e w hi vhi) : ∃ u w', (Instr.sliceAt t v vlo vhi none).run P w = .ok u w' ∧ Came e B w m id val add u w' := by
  unfold opSlice at h
  split at h
  · rename_i sz n f
    split at h
    · rename_i el hu
      split at h
      · rename_i info hi'
        split at h
        · rename_i hs
          have hs' : info.size = sz := Nat.eq_of_beq_eq_true hs
          subst hs'
          split at h
          · rename_i l hh hl hhh
            simp only [Option.some.injEq, Prod.mk.injEq] at h
            obtain ⟨rfl, rfl, rfl⟩ := h
            have b := hn _ (List.mem_singleton.2 rfl)
            cases rx with
            | lstNil sz f =>
              have hb := run_bounds (P := P) true 0 0 lo hi vlo vhi l hh hl hhh rl rh b (Nat.le_refl _)
              have hl0 : l.toNat = 0 := by omega
              have hh0 : hh.toNat = 0 := by omega
              refine ⟨.slice none 0 0, w, ?_, came_same hE hm ?_⟩
              · simp [Instr.sliceAt, Instr.slice, run_underlying hu, hb, sizeOf, typeInfo, hi', hl0, hh0]
              · rw [hl0, hh0]; exact .lstNil _ _
            | lst sz n f bb o cap g h1 h2 hid h3 h3' h4 h5 h6 =>
              have hb := run_bounds (P := P) true n cap lo hi vlo vhi l hh hl hhh rl rh b h3
              by_cases hz : cap = l.toNat
              · subst hz
                refine ⟨.slice (some ⟨bb, o, none⟩) (hh.toNat - l.toNat) (l.toNat - l.toNat), w, ?_, came_same hE hm ?_⟩
                · simp [Instr.sliceAt, Instr.slice, run_underlying hu, hb, sizeOf, typeInfo, hi']
                · have hz0 : hh.toNat - l.toNat = 0 := by omega
                  exact .lst _ _ _ bb o _ (fun _ _ => .nilIface) h1 h2 (fun i hi => by omega) (by omega) (by omega) (fun i j hi => by omega) (fun i hi => by omega) (fun i j a hi => by omega)
              · refine ⟨.slice (some ⟨bb, o + l.toNat * info.size, none⟩) (hh.toNat - l.toNat) (cap - l.toNat), w, ?_, came_same hE hm ?_⟩
                · simp [Instr.sliceAt, Instr.slice, run_underlying hu, hb, sizeOf, typeInfo, hi', hz, addrAdd]
                · refine .lst _ _ _ bb _ _ (fun i j => g (l.toNat + i) j) h1 h2 (fun i hi => hid _ (by omega)) (by omega) (by omega) ?_ ?_ ?_
                  · intro i j hi hj
                    have := h4 (l.toNat + i) j (by omega) hj
                    rw [Nat.add_mul] at this
                    rw [← this]
                    congr 2
                    omega
                  · exact fun i hi => h5 _ (by omega)
                  · exact fun i j a hi ha => h6 _ _ _ (by omega) ha
          · cases h
        · cases h
      · cases h
    · cases h
  · rename_i s
    cases rx.x_inv
    split at h
    · rename_i hu
      split at h
      · rename_i l hh hl hhh
        simp only [Option.some.injEq, Prod.mk.injEq] at h
        obtain ⟨rfl, rfl, rfl⟩ := h
        have b := hn _ (List.mem_singleton.2 rfl)
        have hb := run_bounds (P := P) false s.size s.size lo hi vlo vhi l hh hl hhh rl rh b (Nat.le_refl _)
        exact ⟨_, w, by simp [Instr.sliceAt, Instr.slice, run_underlying hu, hb], came_same hE hm (.x _)⟩
      · cases h
    · cases h
  · cases h

def opLen (P : Program) (m : Mem) (t : TypeId) (x : AV) : Option Out :=
  match P.underlying t with
  | some (.slice _) => match x with
    | .lst _ n _ => some ([], .x (.int .i64 (n : Int)), none)
    | .row id => match getM m id with
      | some (.row _ _ n _) => some ([], .x (.int .i64 (n : Int)), none)
      | _ => none
    | .x (.slice _ n _) => some ([], .x (.int .i64 (n : Int)), none)
    | _ => none
  | some .string => match x with
    | .x (.string s) => some ([], .x (.int .i64 (s.size : Int)), none)
    | _ => none
  | some (.array n _) => some ([], .x (.int .i64 (n : Int)), none)
  | _ => none

theorem opLen_sound {e : Env} {B : Nat} {w : World} {m : Mem} {id : Nat} {t ty : TypeId} {x : AV} {v : Value} {ns : List Prop} {val : AV} {add : Option Res} (h : opLen P m t x = some (ns, val, add))
    (hE : EnvOk e B w) (hm : MemOk e m w) (rx : Rep e w x v) : ∃ u w', (Builtin.len_ #[t] ty #[v]).run P w = .ok u w' ∧ Came e B w m id val add u w' := by
  unfold opLen at h
  split at h
  · rename_i el hu
    have key : ∀ (a : Option Addr) (n c : Nat), v = .slice a n c → val = .x (.int .i64 (n : Int)) → add = none → ∃ u w', (Builtin.len_ #[t] ty #[v]).run P w = .ok u w' ∧ Came e B w m id val add u w' := by
      rintro a n c rfl rfl rfl
      exact ⟨_, w, by simp [Builtin.len_, run_underlying hu, goInt], came_same hE hm (.x _)⟩
    split at h
    · rename_i sz n f
      cases h
      cases rx with
      | lstNil sz f => exact key _ _ _ rfl rfl rfl
      | lst sz n f b o cap g h1 h2 hid h3 h3' h4 h5 h6 => exact key _ _ _ rfl rfl rfl
    · rename_i k
      split at h
      · rename_i T sz n f hg
        cases h
        obtain ⟨hlv, hown, hf, xs, hx, hrep⟩ := hm _ (getM_mem hg)
        cases rx with
        | row _ a n' c hl hv =>
          rcases hx.2 with ⟨hv0, hn0⟩ | ⟨g, cap, cur, hv0, _, _⟩
          · rw [hv] at hv0; cases hv0; subst hn0; exact key _ _ _ rfl rfl rfl
          · rw [hv] at hv0; cases hv0; exact key _ _ _ rfl rfl rfl
      · cases h
    · rename_i a n c
      cases h
      cases rx.x_inv
      exact key _ _ _ rfl rfl rfl
    · cases h
  · rename_i hu
    split at h
    · rename_i s
      cases h
      cases rx.x_inv
      exact ⟨_, w, by simp [Builtin.len_, run_underlying hu, goInt], came_same hE hm (.x _)⟩
    · cases h
  · rename_i n el hu
    cases h
    exact ⟨_, w, by simp [Builtin.len_, run_underlying hu, goInt], came_same hE hm (.x _)⟩
  · cases h

/-- min and max of ints. -/
def opMin (isMax : Bool) (acc : Int) : List AV → Option Int
  | [] => some acc
  | .x (.int .i64 b) :: r => opMin isMax (match isMax with | true => max acc b | false => min acc b) r
  | _ => none

theorem opMin_min {e : Env} {w : World} : ∀ (l : List AV) (vs : List Value) (acc r : Int), opMin false acc l = some r → RepL e w l vs → (vs.foldlM Builtin.min2 (.int .i64 acc)).run P w = .ok (.int .i64 r) w
  | [], vs, acc, r, h, k => by cases k.nil_inv; simp [opMin] at h; subst h; rfl
  | a :: l, vs, acc, r, h, k => by
    obtain ⟨v, vs', rfl, hv, hvs⟩ := k.cons_inv
    unfold opMin at h
    split at h
    · rename_i hnil; cases hnil
    · rename_i b r' heq
      cases heq
      cases hv.x_inv
      have hm : (if b < acc then b else acc) = min acc b := by omega
      simp only [List.foldlM_cons, Builtin.min2, hm, Sem.run_bind, Sem.run_pure, Result.andThen_ok]
      exact opMin_min l vs' _ r h hvs
    · cases h

theorem opMin_max {e : Env} {w : World} : ∀ (l : List AV) (vs : List Value) (acc r : Int), opMin true acc l = some r → RepL e w l vs → (vs.foldlM Builtin.max2 (.int .i64 acc)).run P w = .ok (.int .i64 r) w
  | [], vs, acc, r, h, k => by cases k.nil_inv; simp [opMin] at h; subst h; rfl
  | a :: l, vs, acc, r, h, k => by
    obtain ⟨v, vs', rfl, hv, hvs⟩ := k.cons_inv
    unfold opMin at h
    split at h
    · rename_i hnil; cases hnil
    · rename_i b r' heq
      cases heq
      cases hv.x_inv
      have hm : (if b > acc then b else acc) = max acc b := by omega
      simp only [List.foldlM_cons, Builtin.max2, hm, Sem.run_bind, Sem.run_pure, Result.andThen_ok]
      exact opMin_max l vs' _ r h hvs
    · cases h

def opBuiltin (P : Program) (m : Mem) (b : Builtin) (ts : List TypeId) (args : List AV) : Option Out :=
  match b with
  | .len => match ts, args with
    | [t], [x] => opLen P m t x
    | _, _ => none
  | .min => match args with
    | .x (.int .i64 a) :: r => match opMin false a r with
      | some n => some ([], .x (.int .i64 n), none)
      | none => none
    | _ => none
  | .max => match args with
    | .x (.int .i64 a) :: r => match opMin true a r with
      | some n => some ([], .x (.int .i64 n), none)
      | none => none
    | _ => none
  | _ => none

theorem opBuiltin_sound {e : Env} {B : Nat} {w : World} {m : Mem} {id : Nat} {b : Builtin} {ts : Array TypeId} {ty : TypeId} {cs : Array Bool} {args : List AV} {vs : List Value} {ns : List Prop} {val : AV} {add : Option Res} (h : opBuiltin P m b ts.toList args = some (ns, val, add))
    (hE : EnvOk e B w) (hm : MemOk e m w) (r : RepL e w args vs) : ∃ u w', (builtin b ts ty cs vs.toArray).run P w = .ok (.value u) w' ∧ Came e B w m id val add u w' := by
  unfold opBuiltin at h
  split at h
  · split at h
    · rename_i t x hts
      obtain ⟨v, vs', rfl, hv, hvs⟩ := r.cons_inv
      cases hvs.nil_inv
      obtain ⟨u, w', h1, h2⟩ := opLen_sound (P := P) (ty := ty) (id := id) h hE hm hv
      have hts' : ts = #[t] := Array.ext' (by simpa using hts)
      exact ⟨u, w', by simp [builtin, hts', h1], h2⟩
    · cases h
  · split at h
    · rename_i a l
      split at h
      · rename_i n hn
        cases h
        obtain ⟨v, vs', rfl, hv, hvs⟩ := r.cons_inv
        cases hv.x_inv
        exact ⟨_, w, by simp [builtin, Builtin.min_, opMin_min (P := P) l vs' a n hn hvs], came_same hE hm (.x _)⟩
      · cases h
    · cases h
  · split at h
    · rename_i a l
      split at h
      · rename_i n hn
        cases h
        obtain ⟨v, vs', rfl, hv, hvs⟩ := r.cons_inv
        cases hv.x_inv
        exact ⟨_, w, by simp [builtin, Builtin.max_, opMin_max (P := P) l vs' a n hn hvs], came_same hE hm (.x _)⟩
      · cases h
    · cases h
  · cases h
end
end Go.Sx
