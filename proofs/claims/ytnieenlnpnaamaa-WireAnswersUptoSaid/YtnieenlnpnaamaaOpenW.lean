/-
  How an answer and a list of frames are opened. Conditions: none.
-/
import Derived.Test.YtnieenlnpnaamaaRows2
import Derived.Test.YtnieenlnpnaamaaRefRd
import Derived.Test.YtnieenlnpnaamaaBulk
import Derived.Deep.Strs
import Derived.Test.YtnieenlnpnaamaaOpen
import Derived.Lib.SmallJoins
import Derived.Deep.Slices
import Derived.Deep.Fields
import Derived.ChangeSame
namespace Go.Proofs.Ytnieenlnpnaamaa
open Go.ChangeShapes Go.WideShapes Go.ChangeAt Go.RowKit Go.Joins Go.Deep

section
variable {H : Type} {enc : TypeId × Value → H} {W : World} {base b0 : Nat} {r : Reach} {spare : Nat → Bool} {held : Bool}

theorem cell_int {k : IntKind} {t : TypeId} {n : Nat} {v : Value} {y : DataW H × List MemPlace} (ht : Try.prog.underlying t = some (.int k)) (h : DataW.trod enc Try.prog W base spare held n t [v] = some y) : ∃ a, v = .int k a ∧ (Lit.int k a).wf = true := by
  obtain ⟨a, h1, _, h3⟩ := DataW.trod_int ht h
  injection h1 with h1
  exact ⟨a, h1, h3⟩
theorem cell_byte {t : TypeId} {n : Nat} {v : Value} {y : DataW H × List MemPlace} (ht : Try.prog.underlying t = some (.int .u8)) (h : DataW.trod enc Try.prog W base spare held n t [v] = some y) : ∃ c : UInt8, v = .int .u8 (c.toNat : Int) := by
  obtain ⟨a, rfl, hw⟩ := cell_int ht h
  have hb := bounds_u8 hw
  refine ⟨UInt8.ofNat a.toNat, ?_⟩
  congr 1
  rw [UInt8.toNat_ofNat_of_lt' (by show a.toNat < 256; omega)]
  omega
theorem cell_long {t : TypeId} {n : Nat} {v : Value} {y : DataW H × List MemPlace} (ht : Try.prog.underlying t = some (.int .i64)) (h : DataW.trod enc Try.prog W base spare held n t [v] = some y) : ∃ a : Int, v = .int .i64 a ∧ -9223372036854775808 ≤ a ∧ a ≤ 9223372036854775807 := by
  obtain ⟨a, rfl, hw⟩ := cell_int ht h
  have hb := bounds_i64 hw
  exact ⟨a, rfl, by omega, by omega⟩
theorem cell_str {t : TypeId} {n : Nat} {v : Value} {y : DataW H × List MemPlace} (ht : Try.prog.underlying t = some .string) (h : DataW.trod enc Try.prog W base spare held n t [v] = some y) : ∃ s : ByteArray, v = .string s ∧ s.size ≤ maxLen := by
  obtain ⟨s, h1, _, h3⟩ := DataW.trod_string ht h
  injection h1 with h1
  exact ⟨s, h1, h3⟩

theorem open_vals {a : Option Addr} {len cap : Nat} {d : DataW H} {p : List MemPlace} (h : DataW.Trod enc Try.prog W 0 (fun _ => true) true 67 (.slice a len cap) d p) :
    ∃ rv : List Cell.Val, Rv W W.heap.size a len rv ∧ len ≤ cap ∧ cap ≤ maxLen ∧ (d = .nil ∧ len = 0 ∧ cap = 0 ∨ ∃ D D', d = .slice D D' ∧ D.length + D'.length = cap) := by
  obtain ⟨fuel, hf⟩ := h
  rcases open_slice Try.underlying67 hf with ⟨hcs, hx⟩ | ⟨a', len', cap', m, n, D, Pl, hcs, _, hl, hm, hmm, hx, hi⟩
  · simp [Value.cells] at hcs
    obtain ⟨rfl, rfl, rfl⟩ := hcs
    simp only [Prod.mk.injEq] at hx
    exact ⟨[], ⟨⟨rfl, fun h => absurd h (by omega)⟩, by simp⟩, Nat.le_refl _, Nat.zero_le _, .inl ⟨hx.1, rfl, rfl⟩⟩
  · simp [Value.cells] at hcs
    obtain ⟨rfl, rfl, rfl⟩ := hcs
    simp only [if_true] at hmm
    subst hmm
    simp only [Prod.mk.injEq] at hx
    have hC : Try.prog.cellsOf 83 = 3 := by kernel_rfl
    rw [hC] at hi
    have key : ∀ i, i < m → ∃ v : Cell.Val, (∀ j u, (vcells [v])[j]? = some u → W.cell? (a'.add (i * 3 + j)) = some u) ∧ (v.s.size ≤ maxLen ∧ -9223372036854775808 ≤ v.n ∧ v.n ≤ 9223372036854775807) := by
      intro i him
      obtain ⟨cs', hc, ht'⟩ := hi i him
      obtain ⟨y0, y1, y2, n', _, _, h0, h1, h2⟩ := trod_struct3 Try.underlying83 ht'
      obtain ⟨_, hcl, hat⟩ := World.cells?_some hc
      match cs', hcl with
      | [c0, c1, c2], _ =>
        have e0 : Try.prog.cellsOf 81 = 1 := by kernel_rfl
        have e1 : Try.prog.cellsOf 2 = 1 := by kernel_rfl
        have e2 : Try.prog.cellsOf 9 = 1 := by kernel_rfl
        simp only [e0, e1, e2, List.drop_zero, List.take_succ_cons, List.take_zero, List.drop_succ_cons] at h0 h1 h2
        obtain ⟨k, rfl⟩ := cell_byte Try.underlying81 h0
        obtain ⟨z, rfl, z1, z2⟩ := cell_long Try.underlying2 h1
        obtain ⟨s, rfl, hs⟩ := cell_str Try.underlying9 h2
        refine ⟨⟨k, z, s⟩, fun j u hu => ?_, hs, z1, z2⟩
        have hj : j < 3 := by
          rcases Nat.lt_or_ge j 3 with h | h
          · exact h
          · rw [List.getElem?_eq_none (by simp [vcells]; omega)] at hu
            cases hu
        rw [← add_add, hat j hj]
        exact hu
    haveI : Inhabited Cell.Val := ⟨⟨0, 0, ByteArray.empty⟩⟩
    obtain ⟨V, hV⟩ := choose_lt (α := Cell.Val) key
    have hat : ∀ (k : Nat), k ≤ m → ∀ j u, (vcells ((List.range k).map V))[j]? = some u → W.cell? (a'.add j) = some u := by
      intro k
      induction k with
      | zero => intro _ j u hu; simp [vcells] at hu
      | succ k ih =>
        intro hk j u hu
        rw [List.range_succ, List.map_append, vcells_append, List.getElem?_append] at hu
        split at hu
        · exact ih (by omega) j u hu
        · rename_i hge
          rw [vcells_len, List.length_map, List.length_range] at hge hu
          have := (hV k (by omega)).1 (j - k * 3) u hu
          rwa [show k * 3 + (j - k * 3) = j by omega] at this
    refine ⟨(List.range len).map V, ⟨⟨by rw [vcells_len]; simp, fun h0 => ?_⟩, fun v hv => ?_⟩, hl, hm, .inr ⟨_, _, hx.1, by simp; omega⟩⟩
    · have hcell := (hV 0 (by omega)).1 0 (.int .u8 ((V 0).k.toNat : Int)) rfl
      obtain ⟨b, off, spot⟩ := a'
      have hspot : spot = none := by simpa [Addr.add] using World.cell?_spot hcell
      subst hspot
      refine ⟨b, off, rfl, World.block_lt_of_cell? W _ hcell, fun j u hu => ?_⟩
      have := hat len hl j u hu
      rwa [addr_add] at this
    · simp only [List.mem_map, List.mem_range] at hv
      obtain ⟨i, hi', rfl⟩ := hv
      exact (hV i (by omega)).2
theorem open_texts {a : Option Addr} {len cap : Nat} {d : DataW H} {p : List MemPlace} (h : DataW.Trod enc Try.prog W 0 (fun _ => true) true 47 (.slice a len cap) d p) :
    ∃ ns : List ByteArray, Rt W W.heap.size a len ns ∧ len ≤ cap ∧ cap ≤ maxLen ∧ len ≤ Rows.uptoBulk d := by
  obtain ⟨fuel, hf⟩ := h
  rcases open_slice Try.underlying47 hf with ⟨hcs, hx⟩ | ⟨a', len', cap', m, n, D, Pl, hcs, _, hl, hm, hmm, hx, hi⟩
  · simp [Value.cells] at hcs
    obtain ⟨rfl, rfl, rfl⟩ := hcs
    exact ⟨[], ⟨Rd.nil, by simp⟩, Nat.le_refl _, Nat.zero_le _, Nat.zero_le _⟩
  · simp [Value.cells] at hcs
    obtain ⟨rfl, rfl, rfl⟩ := hcs
    simp only [if_true] at hmm
    subst hmm
    simp only [Prod.mk.injEq] at hx
    have hC : Try.prog.cellsOf 9 = 1 := by kernel_rfl
    rw [hC] at hi
    have key : ∀ i, i < m → ∃ s : ByteArray, W.cell? (a'.add i) = some (.string s) ∧ s.size ≤ maxLen := by
      intro i him
      obtain ⟨cs', hc, ht'⟩ := hi i him
      obtain ⟨_, hcl, hat⟩ := World.cells?_some hc
      match cs', hcl with
      | [c0], _ =>
        have hc0 := hat 0 (by omega)
        obtain ⟨s, rfl, hs⟩ := cell_str Try.underlying9 ht'
        exact ⟨s, by simpa [Addr.add] using hc0, hs⟩
    haveI : Inhabited ByteArray := ⟨ByteArray.empty⟩
    obtain ⟨V, hV⟩ := choose_lt (α := ByteArray) key
    refine ⟨(List.range len).map V, ⟨⟨by simp, fun h0 => ?_⟩, fun s hs => ?_⟩, hl, hm, ?_⟩
    · have hcell := (hV 0 (by omega)).1
      obtain ⟨b, off, spot⟩ := a'
      have hspot : spot = none := by simpa [Addr.add] using World.cell?_spot hcell
      subst hspot
      refine ⟨b, off, rfl, World.block_lt_of_cell? W _ hcell, fun j u hu => ?_⟩
      have hj : j < len := by
        rcases Nat.lt_or_ge j len with h | h
        · exact h
        · rw [List.getElem?_eq_none (by simp; omega)] at hu
          cases hu
      have := (hV j (by omega)).1
      rw [addr_add] at this
      rw [this, ← hu]
      simp [hj]
    · simp only [List.mem_map, List.mem_range] at hs
      obtain ⟨i, hi', rfl⟩ := hs
      exact (hV i (by omega)).2
    · rw [hx.1]
      have := bulks.length_le ((List.range len).map D)
      simp only [List.length_map, List.length_range] at this
      simp only [Rows.uptoBulk]
      omega
theorem open_rows {a : Option Addr} {len cap : Nat} {d : DataW H} {p : List MemPlace} (h : DataW.Trod enc Try.prog W 0 (fun _ => true) true 48 (.slice a len cap) d p) :
    ∃ rs : List (List Cell.Val), Rrs W W.heap.size a len rs ∧ len ≤ cap ∧ cap ≤ maxLen ∧ len ≤ Rows.uptoBulk d ∧ ∀ r ∈ rs, VOk r := by
  obtain ⟨fuel, hf⟩ := h
  rcases open_slice Try.underlying48 hf with ⟨hcs, hx⟩ | ⟨a', len', cap', m, n, D, Pl, hcs, _, hl, hm, hmm, hx, hi⟩
  · simp [Value.cells] at hcs
    obtain ⟨rfl, rfl, rfl⟩ := hcs
    exact ⟨[], Rrs.nil _ _ _, Nat.le_refl _, Nat.zero_le _, Nat.zero_le _, by simp⟩
  · simp [Value.cells] at hcs
    obtain ⟨rfl, rfl, rfl⟩ := hcs
    simp only [if_true] at hmm
    subst hmm
    simp only [Prod.mk.injEq] at hx
    have hC : Try.prog.cellsOf 67 = 1 := by kernel_rfl
    rw [hC] at hi
    have key : ∀ i, i < m → ∃ r : List Cell.Val, ∃ A n c, W.cell? (a'.add i) = some (.slice A n c) ∧ Rv W W.heap.size A n r ∧ n ≤ maxLen := by
      intro i him
      obtain ⟨cs', hc, ht'⟩ := hi i him
      obtain ⟨_, hcl, hat⟩ := World.cells?_some hc
      match cs', hcl with
      | [c0], _ =>
        have hc0 := hat 0 (by omega)
        have ht2 := ht'
        rw [Nat.mul_one, add_add, Nat.add_zero] at hc0
        rcases open_slice Try.underlying67 ht' with ⟨hcs2, _⟩ | ⟨a2, l2, c2, _, _, _, _, hcs2, _⟩
        · simp at hcs2
          subst hcs2
          obtain ⟨r, hr1, hr2, hr3, _⟩ := open_vals (H := H) (enc := enc) (a := none) (len := 0) (cap := 0) ⟨_, ht2⟩
          exact ⟨r, _, _, _, hc0, hr1, Nat.le_trans hr2 hr3⟩
        · simp at hcs2
          subst hcs2
          obtain ⟨r, hr1, hr2, hr3, _⟩ := open_vals (H := H) (enc := enc) (a := some a2) (len := l2) (cap := c2) ⟨_, ht2⟩
          exact ⟨r, _, _, _, hc0, hr1, Nat.le_trans hr2 hr3⟩
    obtain ⟨V, hV⟩ := choose_lt (α := List Cell.Val) key
    refine ⟨(List.range len).map V, ⟨by simp, (List.range len).map (fun i => (W.cell? (a'.add i)).getD undef), by simp, ⟨by simp, fun h0 => ?_⟩, fun i r b hr hb => ?_⟩, hl, hm, ?_, fun r hr => ?_⟩
    · obtain ⟨A, n, c, hcell, _⟩ := hV 0 (by omega)
      obtain ⟨b, off, spot⟩ := a'
      have hspot : spot = none := by simpa [Addr.add] using World.cell?_spot hcell
      subst hspot
      refine ⟨b, off, rfl, World.block_lt_of_cell? W _ hcell, fun j u hu => ?_⟩
      have hj : j < len := by
        rcases Nat.lt_or_ge j len with h | h
        · exact h
        · rw [List.getElem?_eq_none (by simp; omega)] at hu
          cases hu
      obtain ⟨A', n', c', hcell', _⟩ := hV j (by omega)
      simp only [List.getElem?_map, List.getElem?_range hj, Option.map_some, Option.some.injEq] at hu
      rw [hcell'] at hu
      rw [addr_add] at hcell'
      rw [hcell', ← hu]
      rfl
    · have hi' : i < len := by
        rcases Nat.lt_or_ge i len with h | h
        · exact h
        · rw [List.getElem?_eq_none (by simp; omega)] at hr
          cases hr
      obtain ⟨A, n, c, hcell, hrv, hnm⟩ := hV i (by omega)
      simp only [List.getElem?_map, List.getElem?_range hi', Option.map_some, Option.some.injEq] at hr hb
      subst hr
      rw [hcell] at hb
      have hln := hrv.len
      refine ⟨A, c, ?_, ?_, ?_⟩
      · rw [hln, ← hb]; rfl
      · rw [hln]; exact hrv
      · rw [hln]; unfold maxLen at hnm; omega
    · rw [hx.1]
      have := bulks.length_le ((List.range len).map D)
      simp only [List.length_map, List.length_range] at this
      simp only [Rows.uptoBulk]
      omega
    · simp only [List.mem_map, List.mem_range] at hr
      obtain ⟨i, hi', rfl⟩ := hr
      obtain ⟨_, _, _, _, hrv, _⟩ := hV i (by omega)
      exact hrv.2
theorem open_frames {a : Option Addr} {len cap : Nat} {d : DataW H} {p : List MemPlace} (h : DataW.Trod enc Try.prog W 0 (fun _ => true) true 26 (.slice a len cap) d p) (hu : Rows.uptoBulk d ≤ 1048576) :
    ∃ fs : List Fr, FrRd W W.heap.size a len fs ∧ len ≤ cap ∧ cap ≤ maxLen ∧ len ≤ Rows.uptoBulk d ∧ CapOk W a len := by
  obtain ⟨fuel, hf⟩ := h
  rcases open_slice Try.underlying26 hf with ⟨hcs, hx⟩ | ⟨a', len', cap', m, n, D, Pl, hcs, _, hl, hm, hmm, hx, hi⟩
  · simp [Value.cells] at hcs
    obtain ⟨rfl, rfl, rfl⟩ := hcs
    exact ⟨[], FrRd.nil _ _ _, Nat.le_refl _, Nat.zero_le _, Nat.zero_le _, fun i hi => absurd hi (by omega)⟩
  · simp [Value.cells] at hcs
    obtain ⟨rfl, rfl, rfl⟩ := hcs
    simp only [if_true] at hmm
    subst hmm
    simp only [Prod.mk.injEq] at hx
    have hC : Try.prog.cellsOf 42 = 2 := by kernel_rfl
    rw [hC] at hi
    have key : ∀ i, i < m → ∃ f : Fr, ∃ A c, W.cell? (a'.add (i * 2)) = some (.int .u8 (f.1.toNat : Int)) ∧ W.cell? (a'.add (i * 2 + 1)) = some (.slice A f.2.length c) ∧ Rb W W.heap.size A f.2.length f.2 ∧ f.2.length ≤ c ∧ c ≤ Rows.uptoBulk (D i) := by
      intro i him
      obtain ⟨cs', hc, ht'⟩ := hi i him
      obtain ⟨y0, y1, n', hxx, _, h0, h1⟩ := trod_struct2 Try.underlying42 ht'
      obtain ⟨_, hcl, hat⟩ := World.cells?_some hc
      match cs', hcl with
      | [c0, c1], _ =>
        have e0 : Try.prog.cellsOf 40 = 1 := by kernel_rfl
        have e1 : Try.prog.cellsOf 22 = 1 := by kernel_rfl
        simp only [e0, e1, List.drop_zero, List.take_succ_cons, List.take_zero, List.drop_succ_cons] at h0 h1
        obtain ⟨k, rfl⟩ := cell_byte Try.underlying40 h0
        have hc0 := hat 0 (by omega)
        have hc1 := hat 1 (by omega)
        have h2 := h1
        rw [add_add, Nat.add_zero] at hc0
        rw [add_add] at hc1
        rcases open_slice Try.underlying22 h1 with ⟨hcs2, _⟩ | ⟨a2, l2, c2, _, _, _, _, hcs2, _⟩
        · simp at hcs2
          subst hcs2
          obtain ⟨l, hl1, hl2, hl3, hl4⟩ := open_bytes (H := H) (enc := enc) (a := none) (len := 0) (cap := 0) Try.underlying22 Try.underlying5 (by kernel_rfl) ⟨_, h2⟩
          have hln := hl1.len
          have hb := bulks.bytes_le hl4
          have hp := bulks.part_le (d := y1.1) (l := [y0.1, y1.1]) (by simp)
          have hD : Rows.uptoBulk (D i) = Rows.uptoBulkAll [y0.1, y1.1] + 1 := by
            have : D i = .agg [y0.1, y1.1] := by injection hxx
            rw [this]
            rfl
          exact ⟨(k, l), _, _, hc0, by rw [hln]; exact hc1, by rw [hln]; exact hl1, by rw [hln]; exact hl2, by omega⟩
        · simp at hcs2
          subst hcs2
          obtain ⟨l, hl1, hl2, hl3, hl4⟩ := open_bytes (H := H) (enc := enc) (a := some a2) (len := l2) (cap := c2) Try.underlying22 Try.underlying5 (by kernel_rfl) ⟨_, h2⟩
          have hln := hl1.len
          have hb := bulks.bytes_le hl4
          have hp := bulks.part_le (d := y1.1) (l := [y0.1, y1.1]) (by simp)
          have hD : Rows.uptoBulk (D i) = Rows.uptoBulkAll [y0.1, y1.1] + 1 := by
            have : D i = .agg [y0.1, y1.1] := by injection hxx
            rw [this]
            rfl
          exact ⟨(k, l), _, _, hc0, by rw [hln]; exact hc1, by rw [hln]; exact hl1, by rw [hln]; exact hl2, by omega⟩
    haveI : Inhabited Fr := ⟨(0, [])⟩
    obtain ⟨V, hV⟩ := choose_lt (α := Fr) key
    have hcapD : ∀ i, i < len → Rows.uptoBulk (D i) ≤ 1048576 := fun i hi' => by
      have h6 : D i ∈ (List.range len).map D := List.mem_map.2 ⟨i, List.mem_range.2 hi', rfl⟩
      have h7 := bulks.part_le h6
      rw [hx.1] at hu
      simp only [Rows.uptoBulk] at hu
      omega
    refine ⟨(List.range len).map V, ⟨by simp, (List.range len).map (fun i => (W.cell? (a'.add (i * 2 + 1))).getD undef), by simp, ⟨?_, fun h0 => ?_⟩, fun i f b hf' hb => ?_⟩, hl, hm, ?_, ?_⟩
    · rw [frCells_len _ _ (by simp)]
      simp
    · obtain ⟨A, c, hcell, _⟩ := hV 0 (by omega)
      obtain ⟨b, off, spot⟩ := a'
      have hspot : spot = none := by simpa [Addr.add] using World.cell?_spot hcell
      subst hspot
      refine ⟨b, off, rfl, World.block_lt_of_cell? W _ hcell, fun j u hu' => ?_⟩
      have hj : j / 2 < len := by
        rcases Nat.lt_or_ge j (len * 2) with h | h
        · omega
        · rw [List.getElem?_eq_none (by rw [frCells_len _ _ (by simp)]; simp; omega)] at hu'
          cases hu'
      obtain ⟨A', c', g0, g1, _⟩ := hV (j / 2) (by omega)
      obtain ⟨k0, k1⟩ := frCells_at ((List.range len).map V) ((List.range len).map (fun i => (W.cell? ((⟨b, off, none⟩ : Addr).add (i * 2 + 1))).getD undef)) (j / 2) (V (j / 2)) (.slice A' (V (j / 2)).2.length c') (by simp [hj]) (by simp only [List.getElem?_map, List.getElem?_range hj, Option.map_some]; rw [g1]; rfl)
      rw [addr_add] at g0 g1
      rcases Nat.mod_two_eq_zero_or_one j with hm2 | hm2
      · have : 2 * (j / 2) = j := by omega
        rw [this] at k0
        rw [k0] at hu'
        injection hu' with hu'
        rw [← hu', ← g0]
        congr 3
        omega
      · have : 2 * (j / 2) + 1 = j := by omega
        rw [this] at k1
        rw [k1] at hu'
        injection hu' with hu'
        rw [← hu', ← g1]
        congr 3
        omega
    · have hi' : i < len := by
        rcases Nat.lt_or_ge i len with h | h
        · exact h
        · rw [List.getElem?_eq_none (by simp; omega)] at hf'
          cases hf'
      obtain ⟨A, c, g0, g1, hrb, hcl, hcb⟩ := hV i (by omega)
      have hcd := hcapD i hi'
      simp only [List.getElem?_map, List.getElem?_range hi', Option.map_some, Option.some.injEq] at hf' hb
      subst hf'
      rw [g1] at hb
      exact ⟨A, c, hb.symm, hrb, by omega, hcl, by omega⟩
    · rw [hx.1]
      have := bulks.length_le ((List.range len).map D)
      simp only [List.length_map, List.length_range] at this
      simp only [Rows.uptoBulk]
      omega
    · intro i hi' g off Ab m' cb ha hcell
      injection ha with ha
      subst ha
      obtain ⟨A, c, g0, g1, hrb, hcl, hcb⟩ := hV i (by omega)
      have hcd := hcapD i hi'
      rw [addr_add, ← Nat.add_assoc] at g1
      rw [g1] at hcell
      injection hcell with hcell
      injection hcell with _ _ e3
      omega
theorem open_answer {v : Value} {d : DataW H} {p : List MemPlace} (hv : Value.okWide Try.prog W r b0 50 v) (h : DataW.Trod enc Try.prog W 0 (fun _ => true) true 50 v d p) :
    ∃ (An : Option Addr) (nn cn : Nat) (ns : List ByteArray) (Ar : Option Addr) (nr cr : Nat) (rs : List (List Cell.Val)) (cnt : Int), v = .agg #[.slice An nn cn, .slice Ar nr cr, .int .i64 cnt] ∧ Rt W W.heap.size An nn ns ∧ Rrs W W.heap.size Ar nr rs ∧ nn ≤ Rows.uptoBulk d ∧ nr ≤ Rows.uptoBulk d ∧ (∀ r ∈ rs, VOk r) ∧ -9223372036854775808 ≤ cnt ∧ cnt ≤ 9223372036854775807 := by
  obtain ⟨v0, v1, v2, y0, y1, y2, n, rfl, hd, _, h0, h1, h2⟩ := open_agg3 Try.underlying50 (by kernel_rfl) (by kernel_rfl) hv h
  obtain ⟨cnt, rfl, c1, c2⟩ := cell_long Try.underlying3 h2
  have g0 := h0
  have g1 := h1
  have hb0 := bulks.part_le (d := y0.1) (l := [y0.1, y1.1, y2.1]) (by simp)
  have hb1 := bulks.part_le (d := y1.1) (l := [y0.1, y1.1, y2.1]) (by simp)
  have hbd : Rows.uptoBulk d = Rows.uptoBulkAll [y0.1, y1.1, y2.1] + 1 := by rw [hd]; rfl
  have e0 : ∃ a len cap, v0 = .slice a len cap := by
    rcases open_slice Try.underlying47 h0 with ⟨hcs, _⟩ | ⟨_, _, _, _, _, _, _, hcs, _⟩
    · exact ⟨_, _, _, by simpa using hcs⟩
    · exact ⟨_, _, _, by simpa using hcs⟩
  have e1 : ∃ a len cap, v1 = .slice a len cap := by
    rcases open_slice Try.underlying48 h1 with ⟨hcs, _⟩ | ⟨_, _, _, _, _, _, _, hcs, _⟩
    · exact ⟨_, _, _, by simpa using hcs⟩
    · exact ⟨_, _, _, by simpa using hcs⟩
  obtain ⟨An, nn, cn, rfl⟩ := e0
  obtain ⟨Ar, nr, cr, rfl⟩ := e1
  obtain ⟨ns, hn, _, _, hnb⟩ := open_texts (H := H) (enc := enc) ⟨_, g0⟩
  obtain ⟨rs, hr, _, _, hrb, hok⟩ := open_rows (H := H) (enc := enc) ⟨_, g1⟩
  exact ⟨An, nn, cn, ns, Ar, nr, cr, rs, cnt, rfl, hn, hr, by omega, by omega, hok, c1, c2⟩
end
end Go.Proofs.Ytnieenlnpnaamaa
