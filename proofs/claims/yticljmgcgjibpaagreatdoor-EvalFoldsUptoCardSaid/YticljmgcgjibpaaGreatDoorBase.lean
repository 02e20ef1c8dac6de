/-
  Words on memory that every walk of the seat uses; the law of a slice of bytes. Conditions: none.
-/
import Derived.Test.YticljmgcgjibpaaGreatDoorRows
import Derived.Test.YticljmgcgjibpaaGreatDoorMem
import Derived.Test.YticljmgcgjibpaaGreatDoorApp
import Derived.Laws.OwnMore
import Derived.IntWalk
namespace Go.Proofs.YticljmgcgjibpaaGreatDoor
open Go.RowKit

theorem info8 : (Tryz.prog.info? 5).map (fun i => (i.zero, i.size, i.bytes)) = some (some (.int .u8 0), 1, 1) := by kernel_rfl
theorem below_drewN {B : Nat} {a w : World} (h : Below B a w) (n : Nat) : Below B a (w.drewN n) := ⟨h.os, h.tape, h.output, h.size, h.block⟩
theorem Rb.drewN {w : World} {B : Nat} {A : Option Addr} {n : Nat} {l : List UInt8} (h : Rb w B A n l) (q : Nat) : Rb (w.drewN q) B A n l := h.keep fun _ _ => rfl
theorem take_snoc (l : List UInt8) (k : Nat) (x : UInt8) (h : l[k]? = some x) : l.take k ++ [x] = l.take (k + 1) := by
  rw [List.take_add_one, h]
  rfl
theorem Rb.drewE {w w' : World} {q : Nat} {A : Option Addr} {n B : Nat} {l : List UInt8} (h : Rb w B A n l) (e : w' = w.drewN q) : Rb w' B A n l := by rw [e]; exact h.drewN q
theorem Blk.drewE {w w' : World} {q : Nat} {g : Nat} {t : TypeId} {cs : Array Value} (h : Blk w g t cs) (e : w' = w.drewN q) : Blk w' g t cs := by rw [e]; exact h
theorem Below.drewE {B : Nat} {a w w' : World} {q : Nat} (h : Below B a w) (e : w' = w.drewN q) : Below B a w' := by rw [e]; exact below_drewN h q
/-- A row of the call's own, under a name that is carried over calls. -/
def Own (w : World) (base : Nat) (e : TypeId) (size : Nat) (v : Value) (n : Nat) (xs : List Value) : Prop := w.ownsRow base e size v n xs
section
variable {w w' : World} {base size n : Nat} {e : TypeId} {v : Value} {xs : List Value}
theorem Own.row (h : Own w base e size v n xs) : w.ownsRow base e size v n xs := h
theorem Own.below {C : Nat} (h : Own w base e size v n xs) (hb : Below C w w') (hC : w.heap.size ≤ C) : Own w' base e size v n xs := own_below h (hb.mono hC)
theorem Own.drewE {q : Nat} (h : Own w base e size v n xs) (he : w' = w.drewN q) : Own w' base e size v n xs := by rw [he]; exact own_agree h fun _ _ => rfl
theorem own_own_ne {base' size' n' : Nat} {e' : TypeId} {v' : Value} {xs' : List Value} {g : Nat} (h : w.ownsRow base e size v n xs) (h' : w.ownsRow base' e' size' v' n' xs') (hg : v'.ownBlock = some g) (hne : e ≠ e') : v.ownBlock ≠ some g := by
  rcases h'.2 with ⟨rfl, _⟩ | ⟨g', cap, cur, rfl, _, hh, _⟩
  · simp [Value.ownBlock] at hg
  · have : g' = g := by simpa [Value.ownBlock] using hg
    subst this
    exact own_blk_ne (t := e') (cs := cur) h hh hne
end
theorem str_len (s : ByteArray) : s.data.toList.length = s.size := by rw [Array.length_toList]; rfl
/-- A byte of a text. -/
theorem str_at {s : ByteArray} {i : Nat} (h : i < s.size) : ∃ c, s.data.toList[i]? = some c ∧ s[i] = c := by
  have hl : i < s.data.toList.length := by rw [str_len]; exact h
  exact ⟨s.data.toList[i], List.getElem?_eq_getElem hl, rfl⟩
end Go.Proofs.YticljmgcgjibpaaGreatDoor
