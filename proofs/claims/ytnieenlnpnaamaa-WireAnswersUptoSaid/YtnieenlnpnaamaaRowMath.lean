/-
  The plain mathematics of chapter 18: rows' lengths. Conditions: none. No program is named here.
-/
import Derived.Test.YtnieenlnpnaamaaNameMath
namespace Go.Proofs.Ytnieenlnpnaamaa.Cell

theorem bytes_len {v : Val} (h : rightB v = true) : (bytes v).length ≤ 202 := by
  unfold bytes tail
  unfold rightB at h
  split at h
  · rename_i hk; simp only [hk, List.length_cons, List.length_nil]; omega
  · rename_i hk; simp only [hk, List.length_cons, List.length_nil]; omega
  · rename_i hk; simp only [hk, List.length_cons, be8, List.length_nil]; omega
  · rename_i hk; simp only [hk, List.length_cons, be8, List.length_nil]; omega
  · rename_i hk
    simp only [hk, List.length_cons, txt_len]
    simp only [Bool.and_eq_true, decide_eq_true_eq] at h
    omega
  · rename_i hk
    simp only [hk, List.length_cons, txt_len]
    simp only [Bool.and_eq_true, decide_eq_true_eq] at h
    omega
  · cases h
theorem flat_take {r : List Val} {k : Nat} {v : Val} (h : r[k]? = some v) : flat (r.take (k + 1)) = flat (r.take k) ++ bytes v := by
  rw [List.take_add_one, h, Option.toList_some, flat_snoc]
theorem all_rstop {r : List Val} {k : Nat} {v : Val} (h : r[k]? = some v) (hs : rightB v = false) : r.all rightB = false := by
  rw [List.all_eq_false]
  exact ⟨v, List.mem_of_getElem? h, by simp [hs]⟩
theorem all_rnext {r : List Val} {k : Nat} {v : Val} (h : r[k]? = some v) (ha : (r.take k).all rightB = true) (hs : rightB v = true) : (r.take (k + 1)).all rightB = true := by
  rw [List.take_add_one, h]
  simp only [Option.toList_some, List.all_append, ha, List.all_cons, hs, List.all_nil]
  rfl
theorem all_rat {r : List Val} {k : Nat} {v : Val} (h : r[k]? = some v) (ha : r.all rightB = true) : rightB v = true := List.all_eq_true.1 ha v (List.mem_of_getElem? h)
theorem row_bad {r : List Val} (h : r.all rightB = false) : row r = (2, []) := by unfold row; rw [if_pos h]
theorem row_many {r : List Val} (h : r.all rightB = true) (h2 : 12 < r.length) : row r = (3, []) := by unfold row; rw [if_neg (by simp [h]), if_pos h2]
theorem row_long {r : List Val} (h : r.all rightB = true) (h2 : ¬ 12 < r.length) (h3 : 480 < 1 + (flat r).length) : row r = (3, []) := by unfold row; rw [if_neg (by simp [h]), if_neg h2, if_pos h3]
theorem row_fine {r : List Val} (h : r.all rightB = true) (h2 : ¬ 12 < r.length) (h3 : ¬ 480 < 1 + (flat r).length) : row r = (0, byteOf r.length :: flat r) := by unfold row; rw [if_neg (by simp [h]), if_neg h2, if_neg h3]
theorem row_len (r : List Val) : (row r).2.length ≤ 480 := by
  unfold row
  split
  · simp
  · split
    · simp
    · split
      · simp
      · simp only [List.length_cons]; omega
theorem row_err {r : List Val} (h : (row r).1 ≠ 0) : (row r).2 = [] := by
  unfold row at h ⊢
  split at h
  · rename_i h1; rw [if_pos h1]
  · rename_i h1
    rw [if_neg h1]
    split at h
    · rename_i h2; rw [if_pos h2]
    · rename_i h2
      rw [if_neg h2]
      split at h
      · rename_i h3; rw [if_pos h3]
      · exact absurd rfl h
end Go.Proofs.Ytnieenlnpnaamaa.Cell
