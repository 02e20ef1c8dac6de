/-
  How arguments that are structs, and rows of structs, are opened (api.Value, api.Row, chancerylaw18.Place, chancerylaw18.Two). Conditions: none.
-/
import Derived.Test.YtccapkkaeljnfaaRow
import Derived.Test.YtccapkkaeljnfaaOpen
import Derived.Lib.SmallJoins
import Derived.Deep.Slices
import Derived.Deep.Fields
import Derived.ChangeSame
namespace Go.Proofs.Ytccapkkaeljnfaa
open Go.ChangeShapes Go.WideShapes Go.ChangeAt Go.RowKit Go.Joins Go.Deep

section
variable {H : Type} {enc : TypeId × Value → H} {W : World} {base b0 : Nat} {r : Reach} {spare : Nat → Bool} {held : Bool}

theorem cell_int {k : IntKind} {t : TypeId} {n : Nat} {v : Value} {y : DataW H × List MemPlace} (ht : Try.prog.underlying t = some (.int k)) (h : DataW.trod enc Try.prog W base spare held n t [v] = some y) : ∃ a, v = .int k a ∧ (Lit.int k a).wf = true := by
  obtain ⟨a, h1, _, h3⟩ := DataW.trod_int ht h
  injection h1 with h1
  exact ⟨a, h1, h3⟩
theorem cell_byte {t : TypeId} {n : Nat} {v : Value} {y : DataW H × List MemPlace} (ht : Try.prog.underlying t = some (.int .u8)) (h : DataW.trod enc Try.prog W base spare held n t [v] = some y) : ∃ c : UInt8, v = .int .u8 (c.toNat : Int) := by
  obtain ⟨a, rfl, hw⟩ := cell_int ht h
  have hb := bounds_u8 hw
  refine ⟨UInt8.ofNat a.toNat, ?_⟩
  congr 1
  rw [UInt8.toNat_ofNat_of_lt' (by show a.toNat < 256; omega)]
  omega
theorem cell_long {t : TypeId} {n : Nat} {v : Value} {y : DataW H × List MemPlace} (ht : Try.prog.underlying t = some (.int .i64)) (h : DataW.trod enc Try.prog W base spare held n t [v] = some y) : ∃ a : Int, v = .int .i64 a ∧ -9223372036854775808 ≤ a ∧ a ≤ 9223372036854775807 := by
  obtain ⟨a, rfl, hw⟩ := cell_int ht h
  have hb := bounds_i64 hw
  exact ⟨a, rfl, by omega, by omega⟩
theorem cell_str {t : TypeId} {n : Nat} {v : Value} {y : DataW H × List MemPlace} (ht : Try.prog.underlying t = some .string) (h : DataW.trod enc Try.prog W base spare held n t [v] = some y) : ∃ s : ByteArray, v = .string s ∧ s.size ≤ maxLen := by
  obtain ⟨s, h1, _, h3⟩ := DataW.trod_string ht h
  injection h1 with h1
  exact ⟨s, h1, h3⟩

theorem open_value {v : Value} {d : DataW H} {p : List MemPlace} (hv : Value.okWide Try.prog W r b0 36 v) (h : DataW.Trod enc Try.prog W base spare held 36 v d p) :
    ∃ (k : UInt8) (n : Int) (s : ByteArray), v = .agg #[.int .u8 (k.toNat : Int), .int .i64 n, .string s] ∧ s.size ≤ maxLen ∧ -9223372036854775808 ≤ n ∧ n ≤ 9223372036854775807 := by
  obtain ⟨v0, v1, v2, y0, y1, y2, n, rfl, _, _, h0, h1, h2⟩ := open_agg3 Try.underlying36 (by kernel_rfl) (by kernel_rfl) hv h
  obtain ⟨k, rfl⟩ := cell_byte Try.underlying34 h0
  obtain ⟨a, rfl, a1, a2⟩ := cell_long Try.underlying2 h1
  obtain ⟨s, rfl, hs⟩ := cell_str Try.underlying9 h2
  exact ⟨k, a, s, rfl, hs, a1, a2⟩

theorem open_place {v : Value} {d : DataW H} {p : List MemPlace} (hv : Value.okWide Try.prog W r b0 40 v) (h : DataW.Trod enc Try.prog W base spare held 40 v d p) :
    ∃ (t : Int) (kd : UInt8) (tbl col : ByteArray), v = .agg #[.int .i64 t, .int .u8 (kd.toNat : Int), .string tbl, .string col] ∧ tbl.size ≤ maxLen ∧ col.size ≤ maxLen ∧ -9223372036854775808 ≤ t ∧ t ≤ 9223372036854775807 := by
  obtain ⟨v0, v1, v2, v3, y0, y1, y2, y3, n, rfl, _, _, h0, h1, h2, h3⟩ := open_agg4 Try.underlying40 (by kernel_rfl) (by kernel_rfl) hv h
  obtain ⟨a, rfl, a1, a2⟩ := cell_long Try.underlying3 h0
  obtain ⟨k, rfl⟩ := cell_byte Try.underlying5 h1
  obtain ⟨s, rfl, hs⟩ := cell_str Try.underlying9 h2
  obtain ⟨s2, rfl, hs2⟩ := cell_str Try.underlying9 h3
  exact ⟨a, k, s, s2, rfl, hs, hs2, a1, a2⟩

theorem open_two {v : Value} {d : DataW H} {p : List MemPlace} (hv : Value.okWide Try.prog W r b0 50 v) (h : DataW.Trod enc Try.prog W base spare held 50 v d p) :
    ∃ (k : UInt8) (n : Int) (s : ByteArray) (k' : UInt8) (n' : Int) (s' : ByteArray), v = .agg #[.int .u8 (k.toNat : Int), .int .i64 n, .string s, .int .u8 (k'.toNat : Int), .int .i64 n', .string s'] ∧ s.size ≤ maxLen ∧ -9223372036854775808 ≤ n ∧ n ≤ 9223372036854775807 ∧ s'.size ≤ maxLen ∧ -9223372036854775808 ≤ n' ∧ n' ≤ 9223372036854775807 := by
  obtain ⟨cs, rfl, hsz⟩ := okWide_struct Try.underlying50 hv
  obtain ⟨l⟩ := cs
  have h6 : Try.prog.cellsOf 50 = 6 := by kernel_rfl
  match l, hsz.trans h6 with
  | [c0, c1, c2, c3, c4, c5], _ =>
    obtain ⟨fuel, hf⟩ := h
    obtain ⟨y0, y1, n, _, _, g0, g1⟩ := trod_struct2 Try.underlying50 hf
    have e3 : Try.prog.cellsOf 36 = 3 := by kernel_rfl
    have e0 : Try.prog.cellsOf 34 = 1 := by kernel_rfl
    have e1 : Try.prog.cellsOf 2 = 1 := by kernel_rfl
    have e2 : Try.prog.cellsOf 9 = 1 := by kernel_rfl
    simp only [e3, Value.cells, List.drop_zero, List.take_succ_cons, List.take_zero, List.drop_succ_cons] at g0 g1
    obtain ⟨_, _, _, _, _, _, h0, h1, h2⟩ := trod_struct3 Try.underlying36 g0
    obtain ⟨_, _, _, _, _, _, h3, h4, h5⟩ := trod_struct3 Try.underlying36 g1
    simp only [e0, e1, e2, List.drop_zero, List.take_succ_cons, List.take_zero, List.drop_succ_cons] at h0 h1 h2 h3 h4 h5
    obtain ⟨k, rfl⟩ := cell_byte Try.underlying34 h0
    obtain ⟨a, rfl, a1, a2⟩ := cell_long Try.underlying2 h1
    obtain ⟨s, rfl, hs⟩ := cell_str Try.underlying9 h2
    obtain ⟨k', rfl⟩ := cell_byte Try.underlying34 h3
    obtain ⟨a', rfl, a1', a2'⟩ := cell_long Try.underlying2 h4
    obtain ⟨s', rfl, hs'⟩ := cell_str Try.underlying9 h5
    exact ⟨k, a, s, k', a', s', rfl, hs, a1, a2, hs', a1', a2'⟩

theorem open_vals {a : Option Addr} {len cap : Nat} {d : DataW H} {p : List MemPlace} (h : DataW.Trod enc Try.prog W 0 (fun _ => true) true 23 (.slice a len cap) d p) :
    ∃ rv : List Cell.Val, Rv W W.heap.size a len rv ∧ len ≤ cap ∧ cap ≤ maxLen ∧ (d = .nil ∧ len = 0 ∧ cap = 0 ∨ ∃ D D', d = .slice D D' ∧ D.length + D'.length = cap) := by
  obtain ⟨fuel, hf⟩ := h
  rcases open_slice Try.underlying23 hf with ⟨hcs, hx⟩ | ⟨a', len', cap', m, n, D, Pl, hcs, _, hl, hm, hmm, hx, hi⟩
  · simp [Value.cells] at hcs
    obtain ⟨rfl, rfl, rfl⟩ := hcs
    simp only [Prod.mk.injEq] at hx
    exact ⟨[], ⟨⟨rfl, fun h => absurd h (by omega)⟩, by simp⟩, Nat.le_refl _, Nat.zero_le _, .inl ⟨hx.1, rfl, rfl⟩⟩
  · simp [Value.cells] at hcs
    obtain ⟨rfl, rfl, rfl⟩ := hcs
    simp only [if_true] at hmm
    subst hmm
    simp only [Prod.mk.injEq] at hx
    have hC : Try.prog.cellsOf 36 = 3 := by kernel_rfl
    rw [hC] at hi
    have key : ∀ i, i < m → ∃ v : Cell.Val, (∀ j u, (vcells [v])[j]? = some u → W.cell? (a'.add (i * 3 + j)) = some u) ∧ (v.s.size ≤ maxLen ∧ -9223372036854775808 ≤ v.n ∧ v.n ≤ 9223372036854775807) := by
      intro i him
      obtain ⟨cs', hc, ht'⟩ := hi i him
      obtain ⟨y0, y1, y2, n', _, _, h0, h1, h2⟩ := trod_struct3 Try.underlying36 ht'
      obtain ⟨_, hcl, hat⟩ := World.cells?_some hc
      match cs', hcl with
      | [c0, c1, c2], _ =>
        have e0 : Try.prog.cellsOf 34 = 1 := by kernel_rfl
        have e1 : Try.prog.cellsOf 2 = 1 := by kernel_rfl
        have e2 : Try.prog.cellsOf 9 = 1 := by kernel_rfl
        simp only [e0, e1, e2, List.drop_zero, List.take_succ_cons, List.take_zero, List.drop_succ_cons] at h0 h1 h2
        obtain ⟨k, rfl⟩ := cell_byte Try.underlying34 h0
        obtain ⟨z, rfl, z1, z2⟩ := cell_long Try.underlying2 h1
        obtain ⟨s, rfl, hs⟩ := cell_str Try.underlying9 h2
        refine ⟨⟨k, z, s⟩, fun j u hu => ?_, hs, z1, z2⟩
        have hj : j < 3 := by
          rcases Nat.lt_or_ge j 3 with h | h
          · exact h
          · rw [List.getElem?_eq_none (by simp [vcells]; omega)] at hu
            cases hu
        rw [← add_add, hat j hj]
        exact hu
    haveI : Inhabited Cell.Val := ⟨⟨0, 0, ByteArray.empty⟩⟩
    obtain ⟨V, hV⟩ := choose_lt (α := Cell.Val) key
    have hat : ∀ (k : Nat), k ≤ m → ∀ j u, (vcells ((List.range k).map V))[j]? = some u → W.cell? (a'.add j) = some u := by
      intro k
      induction k with
      | zero => intro _ j u hu; simp [vcells] at hu
      | succ k ih =>
        intro hk j u hu
        rw [List.range_succ, List.map_append, vcells_append, List.getElem?_append] at hu
        split at hu
        · exact ih (by omega) j u hu
        · rename_i hge
          rw [vcells_len, List.length_map, List.length_range] at hge hu
          have := (hV k (by omega)).1 (j - k * 3) u hu
          rwa [show k * 3 + (j - k * 3) = j by omega] at this
    refine ⟨(List.range len).map V, ⟨⟨by rw [vcells_len]; simp, fun h0 => ?_⟩, fun v hv => ?_⟩, hl, hm, .inr ⟨_, _, hx.1, by simp; omega⟩⟩
    · have hcell := (hV 0 (by omega)).1 0 (.int .u8 ((V 0).k.toNat : Int)) rfl
      obtain ⟨b, off, spot⟩ := a'
      have hspot : spot = none := by simpa [Addr.add] using World.cell?_spot hcell
      subst hspot
      refine ⟨b, off, rfl, World.block_lt_of_cell? W _ hcell, fun j u hu => ?_⟩
      have := hat len hl j u hu
      rwa [addr_add] at this
    · simp only [List.mem_map, List.mem_range] at hv
      obtain ⟨i, hi', rfl⟩ := hv
      exact (hV i (by omega)).2
end
end Go.Proofs.Ytccapkkaeljnfaa
