/-
  A function is walked in pieces: the parts of its code, and a frame of which some slots are known. Conditions: none. No program is named here.
-/
import Derived.Test.YticljmgcgjibpaaGreatDoorMem
namespace Go.Proofs.YticljmgcgjibpaaGreatDoor
open Go Go.RowKit

def cL : Code → Code
  | .seq a _ => a
  | c => c
def cR : Code → Code
  | .seq _ b => b
  | c => c
def cB : Code → Code
  | .block _ c => c
  | c => c
def cO : Code → Code
  | .loop c => c
  | c => c
def slots (a : Act) : List (Nat × Value) → Prop
  | [] => True
  | (i, v) :: r => a.tmps.getD i undef = v ∧ slots a r
/-- A frame of n slots, some of which are known. -/
def Fr (n : Nat) (a : Act) (l : List (Nat × Value)) : Prop := a.tmps.size = n ∧ a.defers = [] ∧ slots a l
set_option maxRecDepth 1000000 in
theorem Fr.open47 {a : Act} {l : List (Nat × Value)} (h : Fr 47 a l) : ∃ f : Nat → Value, a = ⟨#[f 0, f 1, f 2, f 3, f 4, f 5, f 6, f 7, f 8, f 9, f 10, f 11, f 12, f 13, f 14, f 15, f 16, f 17, f 18, f 19, f 20, f 21, f 22, f 23, f 24, f 25, f 26, f 27, f 28, f 29, f 30, f 31, f 32, f 33, f 34, f 35, f 36, f 37, f 38, f 39, f 40, f 41, f 42, f 43, f 44, f 45, f 46], []⟩ ∧ slots a l ∧ ∀ i, a.tmps.getD i undef = f i := by
  obtain ⟨t, d⟩ := a
  obtain ⟨h1, h2, h3⟩ := h
  simp only at h1 h2
  subst h2
  have e : t = ((List.range 47).map fun i => t.getD i undef).toArray := by
    refine Array.ext (by simp [h1]) fun i h4 h5 => ?_
    simp [h4]
  have e2 : ((List.range 47).map fun i => t.getD i undef).toArray = (fun f : Nat → Value => #[f 0, f 1, f 2, f 3, f 4, f 5, f 6, f 7, f 8, f 9, f 10, f 11, f 12, f 13, f 14, f 15, f 16, f 17, f 18, f 19, f 20, f 21, f 22, f 23, f 24, f 25, f 26, f 27, f 28, f 29, f 30, f 31, f 32, f 33, f 34, f 35, f 36, f 37, f 38, f 39, f 40, f 41, f 42, f 43, f 44, f 45, f 46]) fun i => t.getD i undef := by kernel_rfl
  exact ⟨fun i => t.getD i undef, by conv => lhs; rw [e, e2], h3, fun i => rfl⟩
set_option maxRecDepth 1000000 in
theorem Fr.open79 {a : Act} {l : List (Nat × Value)} (h : Fr 79 a l) : ∃ f : Nat → Value, a = ⟨#[f 0, f 1, f 2, f 3, f 4, f 5, f 6, f 7, f 8, f 9, f 10, f 11, f 12, f 13, f 14, f 15, f 16, f 17, f 18, f 19, f 20, f 21, f 22, f 23, f 24, f 25, f 26, f 27, f 28, f 29, f 30, f 31, f 32, f 33, f 34, f 35, f 36, f 37, f 38, f 39, f 40, f 41, f 42, f 43, f 44, f 45, f 46, f 47, f 48, f 49, f 50, f 51, f 52, f 53, f 54, f 55, f 56, f 57, f 58, f 59, f 60, f 61, f 62, f 63, f 64, f 65, f 66, f 67, f 68, f 69, f 70, f 71, f 72, f 73, f 74, f 75, f 76, f 77, f 78], []⟩ ∧ slots a l ∧ ∀ i, a.tmps.getD i undef = f i := by
  obtain ⟨t, d⟩ := a
  obtain ⟨h1, h2, h3⟩ := h
  simp only at h1 h2
  subst h2
  have e : t = ((List.range 79).map fun i => t.getD i undef).toArray := by
    refine Array.ext (by simp [h1]) fun i h4 h5 => ?_
    simp [h4]
  have e2 : ((List.range 79).map fun i => t.getD i undef).toArray = (fun f : Nat → Value => #[f 0, f 1, f 2, f 3, f 4, f 5, f 6, f 7, f 8, f 9, f 10, f 11, f 12, f 13, f 14, f 15, f 16, f 17, f 18, f 19, f 20, f 21, f 22, f 23, f 24, f 25, f 26, f 27, f 28, f 29, f 30, f 31, f 32, f 33, f 34, f 35, f 36, f 37, f 38, f 39, f 40, f 41, f 42, f 43, f 44, f 45, f 46, f 47, f 48, f 49, f 50, f 51, f 52, f 53, f 54, f 55, f 56, f 57, f 58, f 59, f 60, f 61, f 62, f 63, f 64, f 65, f 66, f 67, f 68, f 69, f 70, f 71, f 72, f 73, f 74, f 75, f 76, f 77, f 78]) fun i => t.getD i undef := by kernel_rfl
  exact ⟨fun i => t.getD i undef, by conv => lhs; rw [e, e2], h3, fun i => rfl⟩
set_option maxRecDepth 1000000 in
theorem Fr.open34 {a : Act} {l : List (Nat × Value)} (h : Fr 34 a l) : ∃ f : Nat → Value, a = ⟨#[f 0, f 1, f 2, f 3, f 4, f 5, f 6, f 7, f 8, f 9, f 10, f 11, f 12, f 13, f 14, f 15, f 16, f 17, f 18, f 19, f 20, f 21, f 22, f 23, f 24, f 25, f 26, f 27, f 28, f 29, f 30, f 31, f 32, f 33], []⟩ ∧ slots a l ∧ ∀ i, a.tmps.getD i undef = f i := by
  obtain ⟨t, d⟩ := a
  obtain ⟨h1, h2, h3⟩ := h
  simp only at h1 h2
  subst h2
  have e : t = ((List.range 34).map fun i => t.getD i undef).toArray := by
    refine Array.ext (by simp [h1]) fun i h4 h5 => ?_
    simp [h4]
  have e2 : ((List.range 34).map fun i => t.getD i undef).toArray = (fun f : Nat → Value => #[f 0, f 1, f 2, f 3, f 4, f 5, f 6, f 7, f 8, f 9, f 10, f 11, f 12, f 13, f 14, f 15, f 16, f 17, f 18, f 19, f 20, f 21, f 22, f 23, f 24, f 25, f 26, f 27, f 28, f 29, f 30, f 31, f 32, f 33]) fun i => t.getD i undef := by kernel_rfl
  exact ⟨fun i => t.getD i undef, by conv => lhs; rw [e, e2], h3, fun i => rfl⟩
set_option maxRecDepth 1000000 in
theorem Fr.open95 {a : Act} {l : List (Nat × Value)} (h : Fr 95 a l) : ∃ f : Nat → Value, a = ⟨#[f 0, f 1, f 2, f 3, f 4, f 5, f 6, f 7, f 8, f 9, f 10, f 11, f 12, f 13, f 14, f 15, f 16, f 17, f 18, f 19, f 20, f 21, f 22, f 23, f 24, f 25, f 26, f 27, f 28, f 29, f 30, f 31, f 32, f 33, f 34, f 35, f 36, f 37, f 38, f 39, f 40, f 41, f 42, f 43, f 44, f 45, f 46, f 47, f 48, f 49, f 50, f 51, f 52, f 53, f 54, f 55, f 56, f 57, f 58, f 59, f 60, f 61, f 62, f 63, f 64, f 65, f 66, f 67, f 68, f 69, f 70, f 71, f 72, f 73, f 74, f 75, f 76, f 77, f 78, f 79, f 80, f 81, f 82, f 83, f 84, f 85, f 86, f 87, f 88, f 89, f 90, f 91, f 92, f 93, f 94], []⟩ ∧ slots a l ∧ ∀ i, a.tmps.getD i undef = f i := by
  obtain ⟨t, d⟩ := a
  obtain ⟨h1, h2, h3⟩ := h
  simp only at h1 h2
  subst h2
  have e : t = ((List.range 95).map fun i => t.getD i undef).toArray := by
    refine Array.ext (by simp [h1]) fun i h4 h5 => ?_
    simp [h4]
  have e2 : ((List.range 95).map fun i => t.getD i undef).toArray = (fun f : Nat → Value => #[f 0, f 1, f 2, f 3, f 4, f 5, f 6, f 7, f 8, f 9, f 10, f 11, f 12, f 13, f 14, f 15, f 16, f 17, f 18, f 19, f 20, f 21, f 22, f 23, f 24, f 25, f 26, f 27, f 28, f 29, f 30, f 31, f 32, f 33, f 34, f 35, f 36, f 37, f 38, f 39, f 40, f 41, f 42, f 43, f 44, f 45, f 46, f 47, f 48, f 49, f 50, f 51, f 52, f 53, f 54, f 55, f 56, f 57, f 58, f 59, f 60, f 61, f 62, f 63, f 64, f 65, f 66, f 67, f 68, f 69, f 70, f 71, f 72, f 73, f 74, f 75, f 76, f 77, f 78, f 79, f 80, f 81, f 82, f 83, f 84, f 85, f 86, f 87, f 88, f 89, f 90, f 91, f 92, f 93, f 94]) fun i => t.getD i undef := by kernel_rfl
  exact ⟨fun i => t.getD i undef, by conv => lhs; rw [e, e2], h3, fun i => rfl⟩
end Go.Proofs.YticljmgcgjibpaaGreatDoor
