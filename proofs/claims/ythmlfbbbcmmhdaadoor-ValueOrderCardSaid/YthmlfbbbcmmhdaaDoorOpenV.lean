/-
  How an argument of type api.Value is opened. Conditions: none.
-/
import Derived.Test.YthmlfbbbcmmhdaaDoorOpen
import Derived.Lib.SmallJoins
import Derived.Test.YthmlfbbbcmmhdaaDoorRight
namespace Go.Proofs.YthmlfbbbcmmhdaaDoor
open Go.ChangeShapes Go.WideShapes Go.ChangeAt Go.RowKit Go.Joins

set_option maxRecDepth 8000
section
variable {H : Type} {enc : TypeId × Value → H} {W : World} {base b0 : Nat} {r : Reach} {spare : Nat → Bool} {held : Bool}
theorem cell_int {k : IntKind} {t : TypeId} {n : Nat} {v : Value} {y : DataW H × List MemPlace} (ht : Tryd.prog.underlying t = some (.int k)) (h : DataW.trod enc Tryd.prog W base spare held n t [v] = some y) : ∃ a, v = .int k a ∧ (Lit.int k a).wf = true := by
  obtain ⟨a, h1, _, h3⟩ := DataW.trod_int ht h
  injection h1 with h1
  exact ⟨a, h1, h3⟩
theorem cell_byte {t : TypeId} {n : Nat} {v : Value} {y : DataW H × List MemPlace} (ht : Tryd.prog.underlying t = some (.int .u8)) (h : DataW.trod enc Tryd.prog W base spare held n t [v] = some y) : ∃ c : UInt8, v = .int .u8 (c.toNat : Int) := by
  obtain ⟨a, rfl, hw⟩ := cell_int ht h
  have hb := bounds_u8 hw
  refine ⟨UInt8.ofNat a.toNat, ?_⟩
  congr 1
  rw [UInt8.toNat_ofNat_of_lt' (by show a.toNat < 256; omega)]
  omega
theorem cell_long {t : TypeId} {n : Nat} {v : Value} {y : DataW H × List MemPlace} (ht : Tryd.prog.underlying t = some (.int .i64)) (h : DataW.trod enc Tryd.prog W base spare held n t [v] = some y) : ∃ a : Int, v = .int .i64 a ∧ -9223372036854775808 ≤ a ∧ a ≤ 9223372036854775807 := by
  obtain ⟨a, rfl, hw⟩ := cell_int ht h
  have hb := bounds_i64 hw
  exact ⟨a, rfl, by omega, by omega⟩
theorem cell_str {t : TypeId} {n : Nat} {v : Value} {y : DataW H × List MemPlace} (ht : Tryd.prog.underlying t = some .string) (h : DataW.trod enc Tryd.prog W base spare held n t [v] = some y) : ∃ s : ByteArray, v = .string s ∧ s.size ≤ maxLen := by
  obtain ⟨s, h1, _, h3⟩ := DataW.trod_string ht h
  injection h1 with h1
  exact ⟨s, h1, h3⟩
theorem open_value {v : Value} {d : DataW H} {p : List MemPlace} (hv : Value.okWide Tryd.prog W r b0 25 v) (h : DataW.Trod enc Tryd.prog W base spare held 25 v d p) :
    ∃ (k : UInt8) (n : Int) (s : ByteArray), v = .agg #[.int .u8 (k.toNat : Int), .int .i64 n, .string s] ∧ s.size ≤ maxLen ∧ -9223372036854775808 ≤ n ∧ n ≤ 9223372036854775807 := by
  obtain ⟨v0, v1, v2, y0, y1, y2, n, rfl, _, _, h0, h1, h2⟩ := open_agg3 Tryd.underlying25 (by kernel_rfl) (by kernel_rfl) hv h
  obtain ⟨k, rfl⟩ := cell_byte Tryd.underlying23 h0
  obtain ⟨a, rfl, a1, a2⟩ := cell_long Tryd.underlying2 h1
  obtain ⟨s, rfl, hs⟩ := cell_str Tryd.underlying9 h2
  exact ⟨k, a, s, rfl, hs, a1, a2⟩
end
end Go.Proofs.YthmlfbbbcmmhdaaDoor
