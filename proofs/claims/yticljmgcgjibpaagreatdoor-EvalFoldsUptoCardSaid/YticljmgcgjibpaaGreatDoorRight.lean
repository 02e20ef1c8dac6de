/-
  The walks of value.Right and chanceryref17.Right. Conditions: none.
-/
import Derived.Test.YticljmgcgjibpaaGreatDoorCellA
namespace Go.Proofs.YticljmgcgjibpaaGreatDoor
open Go.RowKit
theorem toList_len (s : ByteArray) : s.toList.length = s.size := by
  rw [ByteArray.toList_eq, Array.length_toList]
  rfl
theorem empty_yes {s : ByteArray} (h : s.size = 0) : s.toList = [] := List.eq_nil_of_length_eq_zero (by rw [toList_len, h])
theorem empty_no {s : ByteArray} (h : ¬ s.size = 0) : s.toList.isEmpty = false ∧ ¬ s.toList = [] := by
  have hl := toList_len s
  cases hs : s.toList with
  | nil => rw [hs] at hl; exact absurd hl.symm h
  | cons a t => simp

theorem ret_bool {b c : Bool} {x : Value} {P : Prop} (h : b = c) (hx : x = .bool c) (hp : P) : Ending.returned x = .returned (.bool b) ∧ P := by
  subst h hx
  exact ⟨rfl, hp⟩

set_option maxHeartbeats 2000000 in
theorem right_any (k : UInt8) (n : Int) (s : ByteArray) (w : World) :
    Calls Tryz.prog 42 #[.agg #[.int .u8 (k.toNat : Int), .int .i64 n, .string s]] w fun e w' => e = .returned (.bool (Cell.rightB ⟨k, n, s⟩)) ∧ Below w.heap.size w w' := by
  obtain ⟨b, hb⟩ : ∃ b, b = Cell.rightB ⟨k, n, s⟩ := ⟨_, rfl⟩
  rw [← hb]
  unfold Cell.rightB at hb
  simp only at hb
  have HB := hide hb
  clear hb
  by_cases h0 : k.toNat = 0
  · have hb := HB.out
    simp only [h0] at hb
    by_cases hs : s.size = 0
    · rw [decide_eq_true hs] at hb
      simp only [Bool.and_true] at hb
      have hS1 := empty_yes hs
      have HB0 := hide hb
      clear hb HB hs
      go_enter Tryz.func42, Tryz.ntmps42
      go_wp2
      all_goals
        go_ret
        refine ret_bool ?_ rfl ((Below.refl _ _).alloc (Nat.le_refl _) _)
        first | exact HB0.out | ((rw [HB0.out]; rw [Bool.eq_iff_iff]; simp [*]); done) | (rw [HB0.out]; rw [Bool.eq_iff_iff]; simp; omega)
    · rw [decide_eq_false hs] at hb
      simp only [Bool.and_false] at hb
      obtain ⟨hS1, hS2⟩ := empty_no hs
      have HB0 := hide hb
      clear hb HB hs
      go_enter Tryz.func42, Tryz.ntmps42
      go_wp2
      all_goals
        go_ret
        refine ret_bool ?_ rfl ((Below.refl _ _).alloc (Nat.le_refl _) _)
        first | exact HB0.out | ((rw [HB0.out]; rw [Bool.eq_iff_iff]; simp [*]); done) | (rw [HB0.out]; rw [Bool.eq_iff_iff]; simp; omega)
  by_cases h1 : k.toNat = 1
  · have hb := HB.out
    simp only [h1] at hb
    by_cases hs : s.size = 0
    · rw [decide_eq_true hs] at hb
      simp only [Bool.and_true] at hb
      have hS1 := empty_yes hs
      have HB0 := hide hb
      clear hb HB hs
      go_enter Tryz.func42, Tryz.ntmps42
      go_wp2
      all_goals
        go_ret
        refine ret_bool ?_ rfl ((Below.refl _ _).alloc (Nat.le_refl _) _)
        first | exact HB0.out | ((rw [HB0.out]; rw [Bool.eq_iff_iff]; simp [*]); done) | (rw [HB0.out]; rw [Bool.eq_iff_iff]; simp; omega)
    · rw [decide_eq_false hs] at hb
      simp only [Bool.and_false] at hb
      obtain ⟨hS1, hS2⟩ := empty_no hs
      have HB0 := hide hb
      clear hb HB hs
      go_enter Tryz.func42, Tryz.ntmps42
      go_wp2
      all_goals
        go_ret
        refine ret_bool ?_ rfl ((Below.refl _ _).alloc (Nat.le_refl _) _)
        first | exact HB0.out | ((rw [HB0.out]; rw [Bool.eq_iff_iff]; simp [*]); done) | (rw [HB0.out]; rw [Bool.eq_iff_iff]; simp; omega)
  by_cases h2 : k.toNat = 2
  · have hb := HB.out
    simp only [h2] at hb
    by_cases hs : s.size = 0
    · rw [decide_eq_true hs] at hb
      have hS1 := empty_yes hs
      have HB0 := hide hb
      clear hb HB hs
      go_enter Tryz.func42, Tryz.ntmps42
      go_wp2
      all_goals
        go_ret
        refine ret_bool ?_ rfl ((Below.refl _ _).alloc (Nat.le_refl _) _)
        first | exact HB0.out | ((rw [HB0.out]; rw [Bool.eq_iff_iff]; simp [*]); done) | (rw [HB0.out]; rw [Bool.eq_iff_iff]; simp; omega)
    · rw [decide_eq_false hs] at hb
      obtain ⟨hS1, hS2⟩ := empty_no hs
      have HB0 := hide hb
      clear hb HB hs
      go_enter Tryz.func42, Tryz.ntmps42
      go_wp2
      all_goals
        go_ret
        refine ret_bool ?_ rfl ((Below.refl _ _).alloc (Nat.le_refl _) _)
        first | exact HB0.out | ((rw [HB0.out]; rw [Bool.eq_iff_iff]; simp [*]); done) | (rw [HB0.out]; rw [Bool.eq_iff_iff]; simp; omega)
  by_cases h3 : k.toNat = 3
  · have hb := HB.out
    simp only [h3] at hb
    by_cases hs : s.size = 0
    · rw [decide_eq_true hs] at hb
      have hS1 := empty_yes hs
      have HB0 := hide hb
      clear hb HB hs
      go_enter Tryz.func42, Tryz.ntmps42
      go_wp2
      all_goals
        go_ret
        refine ret_bool ?_ rfl ((Below.refl _ _).alloc (Nat.le_refl _) _)
        first | exact HB0.out | ((rw [HB0.out]; rw [Bool.eq_iff_iff]; simp [*]); done) | (rw [HB0.out]; rw [Bool.eq_iff_iff]; simp; omega)
    · rw [decide_eq_false hs] at hb
      obtain ⟨hS1, hS2⟩ := empty_no hs
      have HB0 := hide hb
      clear hb HB hs
      go_enter Tryz.func42, Tryz.ntmps42
      go_wp2
      all_goals
        go_ret
        refine ret_bool ?_ rfl ((Below.refl _ _).alloc (Nat.le_refl _) _)
        first | exact HB0.out | ((rw [HB0.out]; rw [Bool.eq_iff_iff]; simp [*]); done) | (rw [HB0.out]; rw [Bool.eq_iff_iff]; simp; omega)
  by_cases h4 : k.toNat = 4
  · have hb := HB.out
    simp only [h4] at hb
    by_cases hs : s.size ≤ 200
    · rw [decide_eq_true hs] at hb
      simp only [Bool.and_true] at hb
      have hS1 : decide ((s.size : Int) ≤ 200) = true := by simp; omega
      have HB0 := hide hb
      clear hb HB
      go_enter Tryz.func42, Tryz.ntmps42
      go_wp2
      all_goals
        go_ret
        refine ret_bool ?_ rfl ((Below.refl _ _).alloc (Nat.le_refl _) _)
        first | exact HB0.out | ((rw [HB0.out]; rw [Bool.eq_iff_iff]; simp [*]); done) | (rw [HB0.out]; rw [Bool.eq_iff_iff]; simp; omega)
    · rw [decide_eq_false hs] at hb
      simp only [Bool.and_false] at hb
      have hS1 : decide ((s.size : Int) ≤ 200) = false := by simp; omega
      have HB0 := hide hb
      clear hb HB
      go_enter Tryz.func42, Tryz.ntmps42
      go_wp2
      all_goals
        go_ret
        refine ret_bool ?_ rfl ((Below.refl _ _).alloc (Nat.le_refl _) _)
        first | exact HB0.out | ((rw [HB0.out]; rw [Bool.eq_iff_iff]; simp [*]); done) | (rw [HB0.out]; rw [Bool.eq_iff_iff]; simp; omega)
  by_cases h5 : k.toNat = 5
  · have hb := HB.out
    simp only [h5] at hb
    by_cases hs : s.size ≤ 200
    · rw [decide_eq_true hs] at hb
      simp only [Bool.and_true] at hb
      have hS1 : decide ((s.size : Int) ≤ 200) = true := by simp; omega
      have HB0 := hide hb
      clear hb HB
      go_enter Tryz.func42, Tryz.ntmps42
      go_wp2
      all_goals
        go_ret
        refine ret_bool ?_ rfl ((Below.refl _ _).alloc (Nat.le_refl _) _)
        first | exact HB0.out | ((rw [HB0.out]; rw [Bool.eq_iff_iff]; simp [*]); done) | (rw [HB0.out]; rw [Bool.eq_iff_iff]; simp; omega)
    · rw [decide_eq_false hs] at hb
      simp only [Bool.and_false] at hb
      have hS1 : decide ((s.size : Int) ≤ 200) = false := by simp; omega
      have HB0 := hide hb
      clear hb HB
      go_enter Tryz.func42, Tryz.ntmps42
      go_wp2
      all_goals
        go_ret
        refine ret_bool ?_ rfl ((Below.refl _ _).alloc (Nat.le_refl _) _)
        first | exact HB0.out | ((rw [HB0.out]; rw [Bool.eq_iff_iff]; simp [*]); done) | (rw [HB0.out]; rw [Bool.eq_iff_iff]; simp; omega)
  have hb := HB.out
  have hb' : b = false := by
    split at hb <;> first | contradiction | exact hb
  have HB0 := hide hb'
  clear hb hb' HB
  go_enter Tryz.func42, Tryz.ntmps42
  go_wp2
  all_goals
    go_ret
    exact ret_bool HB0.out rfl ((Below.refl _ _).alloc (Nat.le_refl _) _)

set_option maxHeartbeats 2000000 in
theorem refRight_any (k : UInt8) (n : Int) (s : ByteArray) (w : World) :
    Calls Tryz.prog 60 #[.agg #[.int .u8 (k.toNat : Int), .int .i64 n, .string s]] w fun e w' => e = .returned (.bool (Cell.rightB ⟨k, n, s⟩)) ∧ Below w.heap.size w w' := by
  obtain ⟨b, hb⟩ : ∃ b, b = Cell.rightB ⟨k, n, s⟩ := ⟨_, rfl⟩
  rw [← hb]
  unfold Cell.rightB at hb
  simp only at hb
  have HB := hide hb
  clear hb
  by_cases h0 : k.toNat = 0
  · have hb := HB.out
    simp only [h0] at hb
    by_cases hs : s.size = 0
    · rw [decide_eq_true hs] at hb
      simp only [Bool.and_true] at hb
      have hS1 := empty_yes hs
      have HB0 := hide hb
      clear hb HB hs
      go_enter Tryz.func60, Tryz.ntmps60
      go_wp2
      all_goals
        go_ret
        refine ret_bool ?_ rfl ((Below.refl _ _).alloc (Nat.le_refl _) _)
        first | exact HB0.out | ((rw [HB0.out]; rw [Bool.eq_iff_iff]; simp [*]); done) | (rw [HB0.out]; rw [Bool.eq_iff_iff]; simp; omega)
    · rw [decide_eq_false hs] at hb
      simp only [Bool.and_false] at hb
      obtain ⟨hS1, hS2⟩ := empty_no hs
      have HB0 := hide hb
      clear hb HB hs
      go_enter Tryz.func60, Tryz.ntmps60
      go_wp2
      all_goals
        go_ret
        refine ret_bool ?_ rfl ((Below.refl _ _).alloc (Nat.le_refl _) _)
        first | exact HB0.out | ((rw [HB0.out]; rw [Bool.eq_iff_iff]; simp [*]); done) | (rw [HB0.out]; rw [Bool.eq_iff_iff]; simp; omega)
  by_cases h1 : k.toNat = 1
  · have hb := HB.out
    simp only [h1] at hb
    by_cases hs : s.size = 0
    · rw [decide_eq_true hs] at hb
      simp only [Bool.and_true] at hb
      have hS1 := empty_yes hs
      have HB0 := hide hb
      clear hb HB hs
      go_enter Tryz.func60, Tryz.ntmps60
      go_wp2
      all_goals
        go_ret
        refine ret_bool ?_ rfl ((Below.refl _ _).alloc (Nat.le_refl _) _)
        first | exact HB0.out | ((rw [HB0.out]; rw [Bool.eq_iff_iff]; simp [*]); done) | (rw [HB0.out]; rw [Bool.eq_iff_iff]; simp; omega)
    · rw [decide_eq_false hs] at hb
      simp only [Bool.and_false] at hb
      obtain ⟨hS1, hS2⟩ := empty_no hs
      have HB0 := hide hb
      clear hb HB hs
      go_enter Tryz.func60, Tryz.ntmps60
      go_wp2
      all_goals
        go_ret
        refine ret_bool ?_ rfl ((Below.refl _ _).alloc (Nat.le_refl _) _)
        first | exact HB0.out | ((rw [HB0.out]; rw [Bool.eq_iff_iff]; simp [*]); done) | (rw [HB0.out]; rw [Bool.eq_iff_iff]; simp; omega)
  by_cases h2 : k.toNat = 2
  · have hb := HB.out
    simp only [h2] at hb
    by_cases hs : s.size = 0
    · rw [decide_eq_true hs] at hb
      have hS1 := empty_yes hs
      have HB0 := hide hb
      clear hb HB hs
      go_enter Tryz.func60, Tryz.ntmps60
      go_wp2
      all_goals
        go_ret
        refine ret_bool ?_ rfl ((Below.refl _ _).alloc (Nat.le_refl _) _)
        first | exact HB0.out | ((rw [HB0.out]; rw [Bool.eq_iff_iff]; simp [*]); done) | (rw [HB0.out]; rw [Bool.eq_iff_iff]; simp; omega)
    · rw [decide_eq_false hs] at hb
      obtain ⟨hS1, hS2⟩ := empty_no hs
      have HB0 := hide hb
      clear hb HB hs
      go_enter Tryz.func60, Tryz.ntmps60
      go_wp2
      all_goals
        go_ret
        refine ret_bool ?_ rfl ((Below.refl _ _).alloc (Nat.le_refl _) _)
        first | exact HB0.out | ((rw [HB0.out]; rw [Bool.eq_iff_iff]; simp [*]); done) | (rw [HB0.out]; rw [Bool.eq_iff_iff]; simp; omega)
  by_cases h3 : k.toNat = 3
  · have hb := HB.out
    simp only [h3] at hb
    by_cases hs : s.size = 0
    · rw [decide_eq_true hs] at hb
      have hS1 := empty_yes hs
      have HB0 := hide hb
      clear hb HB hs
      go_enter Tryz.func60, Tryz.ntmps60
      go_wp2
      all_goals
        go_ret
        refine ret_bool ?_ rfl ((Below.refl _ _).alloc (Nat.le_refl _) _)
        first | exact HB0.out | ((rw [HB0.out]; rw [Bool.eq_iff_iff]; simp [*]); done) | (rw [HB0.out]; rw [Bool.eq_iff_iff]; simp; omega)
    · rw [decide_eq_false hs] at hb
      obtain ⟨hS1, hS2⟩ := empty_no hs
      have HB0 := hide hb
      clear hb HB hs
      go_enter Tryz.func60, Tryz.ntmps60
      go_wp2
      all_goals
        go_ret
        refine ret_bool ?_ rfl ((Below.refl _ _).alloc (Nat.le_refl _) _)
        first | exact HB0.out | ((rw [HB0.out]; rw [Bool.eq_iff_iff]; simp [*]); done) | (rw [HB0.out]; rw [Bool.eq_iff_iff]; simp; omega)
  by_cases h4 : k.toNat = 4
  · have hb := HB.out
    simp only [h4] at hb
    by_cases hs : s.size ≤ 200
    · rw [decide_eq_true hs] at hb
      simp only [Bool.and_true] at hb
      have hS1 : decide ((s.size : Int) ≤ 200) = true := by simp; omega
      have HB0 := hide hb
      clear hb HB
      go_enter Tryz.func60, Tryz.ntmps60
      go_wp2
      all_goals
        go_ret
        refine ret_bool ?_ rfl ((Below.refl _ _).alloc (Nat.le_refl _) _)
        first | exact HB0.out | ((rw [HB0.out]; rw [Bool.eq_iff_iff]; simp [*]); done) | (rw [HB0.out]; rw [Bool.eq_iff_iff]; simp; omega)
    · rw [decide_eq_false hs] at hb
      simp only [Bool.and_false] at hb
      have hS1 : decide ((s.size : Int) ≤ 200) = false := by simp; omega
      have HB0 := hide hb
      clear hb HB
      go_enter Tryz.func60, Tryz.ntmps60
      go_wp2
      all_goals
        go_ret
        refine ret_bool ?_ rfl ((Below.refl _ _).alloc (Nat.le_refl _) _)
        first | exact HB0.out | ((rw [HB0.out]; rw [Bool.eq_iff_iff]; simp [*]); done) | (rw [HB0.out]; rw [Bool.eq_iff_iff]; simp; omega)
  by_cases h5 : k.toNat = 5
  · have hb := HB.out
    simp only [h5] at hb
    by_cases hs : s.size ≤ 200
    · rw [decide_eq_true hs] at hb
      simp only [Bool.and_true] at hb
      have hS1 : decide ((s.size : Int) ≤ 200) = true := by simp; omega
      have HB0 := hide hb
      clear hb HB
      go_enter Tryz.func60, Tryz.ntmps60
      go_wp2
      all_goals
        go_ret
        refine ret_bool ?_ rfl ((Below.refl _ _).alloc (Nat.le_refl _) _)
        first | exact HB0.out | ((rw [HB0.out]; rw [Bool.eq_iff_iff]; simp [*]); done) | (rw [HB0.out]; rw [Bool.eq_iff_iff]; simp; omega)
    · rw [decide_eq_false hs] at hb
      simp only [Bool.and_false] at hb
      have hS1 : decide ((s.size : Int) ≤ 200) = false := by simp; omega
      have HB0 := hide hb
      clear hb HB
      go_enter Tryz.func60, Tryz.ntmps60
      go_wp2
      all_goals
        go_ret
        refine ret_bool ?_ rfl ((Below.refl _ _).alloc (Nat.le_refl _) _)
        first | exact HB0.out | ((rw [HB0.out]; rw [Bool.eq_iff_iff]; simp [*]); done) | (rw [HB0.out]; rw [Bool.eq_iff_iff]; simp; omega)
  have hb := HB.out
  have hb' : b = false := by
    split at hb <;> first | contradiction | exact hb
  have HB0 := hide hb'
  clear hb hb' HB
  go_enter Tryz.func60, Tryz.ntmps60
  go_wp2
  all_goals
    go_ret
    exact ret_bool HB0.out rfl ((Below.refl _ _).alloc (Nat.le_refl _) _)

end Go.Proofs.YticljmgcgjibpaaGreatDoor
