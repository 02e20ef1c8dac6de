/-
  How an argument of type [][]byte is opened. Conditions: none.
-/
import Derived.Test.YtnieenlnpnaamaaKit
import Derived.Test.YtnieenlnpnaamaaOpen
import Derived.Test.YtnieenlnpnaamaaBulk
import Derived.Lib.SmallJoins
import Derived.Deep.Slices
import Derived.Deep.Fields
import Derived.ChangeSame
namespace Go.Proofs.Ytnieenlnpnaamaa
open Go.ChangeShapes Go.WideShapes Go.ChangeAt Go.RowKit Go.Joins Go.Deep

section
variable {H : Type} {enc : TypeId × Value → H} {W : World}

/-- Every row of the list lies where the slice at `a` says; each takes at most U bytes. -/
def Chs (W : World) (U : Nat) (a : Option Addr) (len : Nat) (L : List (List UInt8)) : Prop :=
  L.length = len ∧ ∀ i, i < len → ∃ b off A n c, a = some ⟨b, off, none⟩ ∧ b < W.heap.size ∧ W.cell? ⟨b, off + i, none⟩ = some (.slice A n c) ∧ Rb W W.heap.size A n (L.getD i []) ∧ n ≤ c ∧ c ≤ maxLen ∧ c ≤ U

theorem Chs.mono {U U' : Nat} {a : Option Addr} {len : Nat} {L : List (List UInt8)} (h : Chs W U a len L) (hu : U ≤ U') : Chs W U' a len L :=
  ⟨h.1, fun i hi => by
    obtain ⟨b, off, A, n, c, h1, h2, h3, h4, h5, h6, h7⟩ := h.2 i hi
    exact ⟨b, off, A, n, c, h1, h2, h3, h4, h5, h6, Nat.le_trans h7 hu⟩⟩
theorem open_chunks {a : Option Addr} {len cap : Nat} {d : DataW H} {p : List MemPlace} (h : DataW.Trod enc Try.prog W 0 (fun _ => true) true 36 (.slice a len cap) d p) :
    ∃ L, Chs W (Rows.uptoBulk d) a len L ∧ len ≤ cap ∧ cap ≤ maxLen := by
  obtain ⟨fuel, hf⟩ := h
  rcases open_slice Try.underlying36 hf with ⟨hcs, hx⟩ | ⟨a', len', cap', m, n, D, Pl, hcs, _, hl, hm, hmm, hx, hi⟩
  · simp [Value.cells] at hcs
    obtain ⟨rfl, rfl, rfl⟩ := hcs
    exact ⟨[], ⟨rfl, fun i h => absurd h (by omega)⟩, Nat.le_refl _, Nat.zero_le _⟩
  · simp [Value.cells] at hcs
    obtain ⟨rfl, rfl, rfl⟩ := hcs
    simp only [if_true] at hmm
    subst hmm
    have hC : Try.prog.cellsOf 22 = 1 := by kernel_rfl
    rw [hC] at hi
    have key : ∀ i, i < m → ∃ l, ∃ A n c, W.cell? (a'.add i) = some (.slice A n c) ∧ Rb W W.heap.size A n l ∧ n ≤ c ∧ c ≤ maxLen ∧ c ≤ Rows.uptoBulk (D i) := by
      intro i him
      obtain ⟨cs', hc, ht'⟩ := hi i him
      obtain ⟨_, hcl, hat⟩ := World.cells?_some hc
      match cs', hcl with
      | [c0], _ =>
        have hc0 := hat 0 (by omega)
        have ht2 := ht'
        rcases open_slice Try.underlying22 ht' with ⟨hcs2, _⟩ | ⟨_, _, _, _, _, _, _, hcs2, _⟩
        all_goals
          simp at hcs2
          subst hcs2
          obtain ⟨l, hl1, hl2, hl3, hl4⟩ := open_bytes (H := H) (enc := enc) Try.underlying22 Try.underlying5 (by kernel_rfl) ⟨_, ht2⟩
          refine ⟨l, _, _, _, ?_, hl1, hl2, hl3, bulks.bytes_le hl4⟩
          simpa [Addr.add] using hc0
    obtain ⟨V, hV⟩ := choose_lt (α := List UInt8) key
    refine ⟨(List.range len).map V, ⟨by simp, fun i hi' => ?_⟩, hl, hm⟩
    obtain ⟨A, n, c, hcell, h1, h2, h3, h4⟩ := hV i (by omega)
    have h5 : c ≤ Rows.uptoBulk d := by
      simp only [Prod.mk.injEq] at hx
      have h6 : D i ∈ (List.range len).map D := List.mem_map.2 ⟨i, List.mem_range.2 hi', rfl⟩
      have h7 := bulks.part_le h6
      rw [hx.1]
      simp only [Rows.uptoBulk]
      omega
    obtain ⟨_, _, _, hcell0, _⟩ := hV 0 (by omega)
    obtain ⟨b, off, spot⟩ := a'
    have hspot : spot = none := by simpa [Addr.add] using World.cell?_spot hcell0
    subst hspot
    rw [addr_add] at hcell
    refine ⟨b, off, A, n, c, rfl, World.block_lt_of_cell? W _ hcell, ?_, ?_, h2, h3, h5⟩
    · exact hcell
    · rw [show ((List.range len).map V).getD i [] = V i by simp [List.getD, hi']]
      exact h1
end
end Go.Proofs.Ytnieenlnpnaamaa
