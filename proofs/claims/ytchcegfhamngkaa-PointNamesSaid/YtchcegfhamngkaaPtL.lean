/- Contracts of functions of the program, by the engine Sx: what each call comes to. Printed by a program of this repo (sxgen.py). -/
import Derived.Test.YtchcegfhamngkaaPtK
set_option linter.unusedSimpArgs false
set_option linter.unusedVariables false
namespace Go.Proofs.Ytchcegfhamngkaa
open Go Go.Sx Go.RowKit
def S_steam : Sx.Spec := fun l => match l with
  | [] => some ([], .lst 2 3 (chunk 2 [i 720, i 985, i 760, i 1000, i 800, i 1014]))
  | _ => none

set_option maxRecDepth 100000 in
theorem steam_at  : SoundAt Try.prog 50 [] (.lst 2 3 (chunk 2 [i 720, i 985, i 760, i 1000, i 800, i 1014])) := by
  refine soundAt_fin (G := []) (L := []) (SoundG.nil _) mixed Try.func50 (show Try.f50.body = some (bodyOf Try.f50) by kernel_rfl) noLoops (t := (Tree.leaf (RV.lst 2 3 (chunk 2 [iI (720 : Int), iI (985 : Int), iI (760 : Int), iI (1000 : Int), iI (800 : Int), iI (1014 : Int)])))) (by kernel_rfl) ?_
  simp only [Tree.sat, fitP, true_and]
  exact chunk_isX (by simp [isX])
theorem steam_ok : SoundSpec Try.prog 50 S_steam := by
  refine ⟨⟨_, Try.func50, by kernel_rfl, by kernel_rfl⟩, ?_⟩
  intro avs ns res h hn
  unfold S_steam at h
  split at h
  · cases h
    exact steam_at 
  · cases h

set_option maxRecDepth 100000 in
theorem book_at (a b c : Int) : SoundAt Try.prog 51 [.lst 3 1 (chunk 3 [i a, i b, i c])] (.lst 3 3 (chunk 3 [i 68, i 190, i 210, i 212, i 1000, i 1000, i a, i b, i c])) := by
  refine soundAt_fin (G := [(35, S_between)]) (L := []) (SoundG.cons between_ok (SoundG.nil _)) mixed Try.func51 (show Try.f51.body = some (bodyOf Try.f51) by kernel_rfl) noLoops (t := (Tree.need [(2 + 1) * 24 ≤ 140737488355328, ∀ (i : Nat), i < 1 → ∀ (a_2 : AV), a_2 ∈ chunk 3 [iI a, iI b, iI c] i → AV.one a_2 = true] (Tree.leaf (RV.lst 3 3 (catF 2 (chunk 3 [iI (68 : Int), iI (190 : Int), iI (210 : Int), iI (212 : Int), iI (1000 : Int), iI (1000 : Int)]) (chunk 3 [iI a, iI b, iI c])))))) (by kernel_rfl) ?_
  simp only [Tree.sat, allP, fitP, true_and]
  refine ⟨⟨by omega, fun k hk x hm => one_of hm (by simp [AV.one, Value.oneCell'])⟩, fun k hk => ⟨?_, chunk_isX (n := 3) (by simp [isX]) k hk⟩⟩
  rcases (show k = 0 ∨ k = 1 ∨ k = 2 by omega) with rfl | rfl | rfl <;> rfl

set_option maxRecDepth 100000 in
theorem book0_at  : SoundAt Try.prog 51 [.x (.slice none 0 0)] (.lst 3 2 (chunk 3 [i 68, i 190, i 210, i 212, i 1000, i 1000])) := by
  refine soundAt_fin (G := [(35, S_between)]) (L := []) (SoundG.cons between_ok (SoundG.nil _)) mixed Try.func51 (show Try.f51.body = some (bodyOf Try.f51) by kernel_rfl) noLoops (t := (Tree.need [(2 + 0) * 24 ≤ 140737488355328, ∀ (i : Nat), i < 0 → ∀ (a : AV), a ∈ [] → AV.one a = true] (Tree.leaf (RV.lst 3 2 (catF 2 (chunk 3 [iI (68 : Int), iI (190 : Int), iI (210 : Int), iI (212 : Int), iI (1000 : Int), iI (1000 : Int)]) fun x => []))))) (by kernel_rfl) ?_
  simp only [Tree.sat, allP, fitP, true_and]
  refine ⟨⟨by omega, fun k hk => by omega⟩, fun k hk => ⟨?_, chunk_isX (n := 2) (by simp [isX]) k hk⟩⟩
  rcases (show k = 0 ∨ k = 1 by omega) with rfl | rfl <;> rfl

set_option maxRecDepth 100000 in
theorem clone_at (n : Nat) (a : Nat → Int) (pre0 : n ≤ 100000) : SoundAt Try.prog 74 [.lst 1 n (fun k => [i (a k)])] (.lst 1 n (fun k => [i (a k)])) := by
  refine soundAt_fin (G := []) (L := []) (SoundG.nil _) mixed Try.func74 (show Try.f74.body = some (bodyOf Try.f74) by kernel_rfl) noLoops (t := (Tree.may (n = 0) (Tree.leaf (RV.x (Value.slice none 0 0))) (Tree.need [(0 + n) * 8 ≤ 140737488355328, ∀ (i : Nat), i < n → ∀ (a_2 : AV), a_2 ∈ [Ytchcegfhamngkaa.i (a i)] → AV.one a_2 = true] (Tree.leaf (RV.lst 1 (0 + n) (catF 0 (fun x => []) fun k => [iI (a k)])))))) (by kernel_rfl) ?_
  simp only [Tree.sat, allP, fitP, true_and, isNil]
  refine ⟨fun h => h, ⟨by omega, fun k hk x hm => ?_⟩, by omega, fun k hk => ⟨?_, ?_⟩⟩
  · rw [List.mem_singleton] at hm
    subst hm
    simp [AV.one, Value.oneCell']
  · show mergeL (decide (k < 0)) [] [i (a (k - 0))] = _
    rw [show decide (k < 0) = false by simp]
    rfl
  · intro x hm
    rw [List.mem_singleton] at hm
    subst hm
    exact True.intro


def S_clone : Sx.Spec := fun l => match l with
  | [.lst 1 n f] => some ([isRec 1 n f, n ≤ 100000], .lst 1 n (fun k => [i (col 0 f k)]))
  | _ => none
def S_book : Sx.Spec := fun l => match l with
  | [.lst 3 1 f] => some ([isRec 3 1 f], .lst 3 3 (chunk 3 [i 68, i 190, i 210, i 212, i 1000, i 1000, i (col 0 f 0), i (col 1 f 0), i (col 2 f 0)]))
  | [.x (.slice none 0 0)] => some ([], .lst 3 2 (chunk 3 [i 68, i 190, i 210, i 212, i 1000, i 1000]))
  | _ => none


theorem clone_ok : SoundSpec Try.prog 74 S_clone := by
  refine ⟨⟨_, Try.func74, by kernel_rfl, by kernel_rfl⟩, ?_⟩
  intro avs ns res h hn
  unfold S_clone at h
  split at h
  · rename_i n f
    cases h
    have hr : isRec 1 n f := hn _ (by simp)
    exact (clone_at n (col 0 f) (hn _ (by simp))).same (.cons (.lst 1 n _ _ hr) .nil)
  · cases h


theorem book_ok : SoundSpec Try.prog 51 S_book := by
  refine ⟨⟨_, Try.func51, by kernel_rfl, by kernel_rfl⟩, ?_⟩
  intro avs ns res h hn
  unfold S_book at h
  split at h
  · rename_i f
    cases h
    have hr : isRec 3 1 f := hn _ (by simp)
    refine (book_at (col 0 f 0) (col 1 f 0) (col 2 f 0)).same (.cons (.lst 3 1 _ _ ?_) .nil)
    intro k hk
    have : k = 0 := by omega
    subst this
    exact hr 0 (by omega)
  · cases h
    exact book0_at
  · cases h

end Go.Proofs.Ytchcegfhamngkaa
