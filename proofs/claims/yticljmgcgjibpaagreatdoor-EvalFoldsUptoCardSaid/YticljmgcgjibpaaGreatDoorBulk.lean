/-
  What the bound of an '..UptoSaid' statement gives: how long slices and texts are. Conditions: none.
-/
import Derived.Test.YticljmgcgjibpaaGreatDoorRows
import Derived.Test.YticljmgcgjibpaaGreatDoorOpen
import Derived.JoinedCond
namespace Go.Proofs.YticljmgcgjibpaaGreatDoor.bulks
open Go.ChangeShapes Go.WideShapes Go.ChangeAt Go.RowKit

theorem one_le {H : Type} (d : DataW H) : 1 ≤ Rows.uptoBulk d := by
  cases d with
  | lit l => cases l <;> simp [Rows.uptoBulk]
  | _ => simp [Rows.uptoBulk]
theorem length_le {H : Type} (l : List (DataW H)) : l.length ≤ Rows.uptoBulkAll l := by
  induction l with
  | nil => simp [Rows.uptoBulkAll]
  | cons x r ih => have := one_le x; simp only [Rows.uptoBulkAll, List.length_cons]; omega
theorem part_le {H : Type} {d : DataW H} {l : List (DataW H)} (h : d ∈ l) : Rows.uptoBulk d ≤ Rows.uptoBulkAll l := by
  induction l with
  | nil => cases h
  | cons x r ih =>
    simp only [Rows.uptoBulkAll]
    cases List.mem_cons.1 h with
    | inl e => subst e; omega
    | inr e => have := ih e; omega
theorem bound {H : Type} {l : List (DataW H)} (hk : Rows.uptoSmall H l = true) : Rows.uptoBulkAll l ≤ 1048576 := of_decide_eq_true hk
theorem bytes_le {H : Type} {d : DataW H} {len cap : Nat} (hd : d = .nil ∧ len = 0 ∧ cap = 0 ∨ ∃ zs : List Int, zs.length = cap ∧ d = .slice (lits .u8 (zs.take len)) (lits .u8 (zs.drop len))) : cap ≤ Rows.uptoBulk d := by
  rcases hd with ⟨rfl, rfl, rfl⟩ | ⟨zs, hz, rfl⟩
  · simp
  · have h1 := length_le (lits (H := H) .u8 (zs.take len))
    have h2 := length_le (lits (H := H) .u8 (zs.drop len))
    have e1 : (lits (H := H) .u8 (zs.take len)).length = min len zs.length := by simp [lits]
    have e2 : (lits (H := H) .u8 (zs.drop len)).length = zs.length - len := by simp [lits]
    simp only [Rows.uptoBulk]
    omega
theorem string_le {H : Type} (s : ByteArray) : s.size ≤ Rows.uptoBulk (DataW.lit (H := H) (.string s.data.toList)) := by
  simp only [Rows.uptoBulk]
  have e : s.data.toList.length = s.size := by rw [Array.length_toList]; rfl
  omega
end Go.Proofs.YticljmgcgjibpaaGreatDoor.bulks
