/-
  How arguments of chapter 24 are opened: values, rows of values, expressions with all that hangs below them. Conditions: each slice takes at most the reach (the form says so).
-/
import Derived.Test.YticljmgcgjibpaaGreatDoorEvH
import Derived.Test.YticljmgcgjibpaaGreatDoorOpen
import Derived.SizedLaws
import Derived.Deep.Strs
import Derived.Lib.SmallJoins
import Derived.Deep.Slices
import Derived.Deep.Fields
import Derived.ChangeSame
namespace Go.Proofs.YticljmgcgjibpaaGreatDoor
open Go.ChangeShapes Go.WideShapes Go.ChangeAt Go.RowKit Go.Joins Go.Deep

section
variable {H : Type} {P : Program} {enc : TypeId × Value → H} {W : World} {base b0 : Nat} {r : Reach} {spare : Nat → Bool} {held : Bool}
theorem weights_all_mem {P : Program} {e : TypeId} {n : Nat} : ∀ {ds : List (DataW H)} {d : DataW H}, d ∈ ds → n ∈ d.weights P e → n ∈ DataW.weightsAll P e ds := by
  intro ds
  induction ds with
  | nil => intro d hd; cases hd
  | cons d0 ds ih =>
    intro d hd hn
    simp only [DataW.weightsAll, List.mem_append]
    rcases List.mem_cons.1 hd with rfl | hd
    · exact .inl hn
    · exact .inr (ih hd hn)
theorem trod_struct6 {t : TypeId} {f0 f1 f2 f3 f4 f5 : Field} {fuel : Nat} {cs : List Value} {x : DataW H × List MemPlace} (ht : P.underlying t = some (.struct #[f0, f1, f2, f3, f4, f5])) (h : DataW.trod enc P W base spare held fuel t cs = some x) :
    ∃ y0 y1 y2 y3 y4 y5 n, fuel = n + 1 ∧ x.1 = .agg [y0.1, y1.1, y2.1, y3.1, y4.1, y5.1] ∧ cs.length = P.cellsOf t ∧ DataW.trod enc P W base spare held n f0.type ((cs.drop f0.offset).take (P.cellsOf f0.type)) = some y0 ∧
      DataW.trod enc P W base spare held n f1.type ((cs.drop f1.offset).take (P.cellsOf f1.type)) = some y1 ∧ DataW.trod enc P W base spare held n f2.type ((cs.drop f2.offset).take (P.cellsOf f2.type)) = some y2 ∧
      DataW.trod enc P W base spare held n f3.type ((cs.drop f3.offset).take (P.cellsOf f3.type)) = some y3 ∧ DataW.trod enc P W base spare held n f4.type ((cs.drop f4.offset).take (P.cellsOf f4.type)) = some y4 ∧
      DataW.trod enc P W base spare held n f5.type ((cs.drop f5.offset).take (P.cellsOf f5.type)) = some y5 := by
  obtain ⟨xs, n, hn, rfl, hl, hlen, hf⟩ := DataW.trod_struct ht h
  match xs, hlen with
  | [y0, y1, y2, y3, y4, y5], _ => exact ⟨y0, y1, y2, y3, y4, y5, n, hn, by simp, hl, by simpa using hf 0 f0 rfl, by simpa using hf 1 f1 rfl, by simpa using hf 2 f2 rfl, by simpa using hf 3 f3 rfl, by simpa using hf 4 f4 rfl, by simpa using hf 5 f5 rfl⟩
theorem list8 {α : Type} {l : List α} (h : l.length = 8) : ∃ c0 c1 c2 c3 c4 c5 c6 c7, l = [c0, c1, c2, c3, c4, c5, c6, c7] := by
  match l, h with
  | [c0, c1, c2, c3, c4, c5, c6, c7], _ => exact ⟨_, _, _, _, _, _, _, _, rfl⟩
theorem list3 {α : Type} {l : List α} (h : l.length = 3) : ∃ c0 c1 c2, l = [c0, c1, c2] := by
  match l, h with
  | [c0, c1, c2], _ => exact ⟨_, _, _, rfl⟩
set_option maxRecDepth 100000 in
theorem cell_int {k : IntKind} {t : TypeId} {n : Nat} {v : Value} {y : DataW H × List MemPlace} (ht : Tryz.prog.underlying t = some (.int k)) (h : DataW.trod enc Tryz.prog W base spare held n t [v] = some y) : ∃ a, v = .int k a ∧ (Lit.int k a).wf = true := by
  obtain ⟨a, h1, _, h3⟩ := DataW.trod_int ht h
  injection h1 with h1
  exact ⟨a, h1, h3⟩
set_option maxRecDepth 100000 in
theorem cell_byte {t : TypeId} {n : Nat} {v : Value} {y : DataW H × List MemPlace} (ht : Tryz.prog.underlying t = some (.int .u8)) (h : DataW.trod enc Tryz.prog W base spare held n t [v] = some y) : ∃ c : UInt8, v = .int .u8 (c.toNat : Int) := by
  obtain ⟨a, rfl, hw⟩ := cell_int ht h
  have hb := bounds_u8 hw
  refine ⟨UInt8.ofNat a.toNat, ?_⟩
  congr 1
  rw [UInt8.toNat_ofNat_of_lt' (by show a.toNat < 256; omega)]
  omega
set_option maxRecDepth 100000 in
theorem cell_long {t : TypeId} {n : Nat} {v : Value} {y : DataW H × List MemPlace} (ht : Tryz.prog.underlying t = some (.int .i64)) (h : DataW.trod enc Tryz.prog W base spare held n t [v] = some y) : ∃ a : Int, v = .int .i64 a ∧ -9223372036854775808 ≤ a ∧ a ≤ 9223372036854775807 := by
  obtain ⟨a, rfl, hw⟩ := cell_int ht h
  have hb := bounds_i64 hw
  exact ⟨a, rfl, by omega, by omega⟩
set_option maxRecDepth 100000 in
theorem cell_str {t : TypeId} {n : Nat} {v : Value} {y : DataW H × List MemPlace} (ht : Tryz.prog.underlying t = some .string) (h : DataW.trod enc Tryz.prog W base spare held n t [v] = some y) : ∃ s : ByteArray, v = .string s ∧ s.size ≤ maxLen := by
  obtain ⟨s, h1, _, h3⟩ := DataW.trod_string ht h
  injection h1 with h1
  exact ⟨s, h1, h3⟩
set_option maxRecDepth 100000 in
/-- A value's cells. -/
theorem cells_val {n : Nat} {cs : List Value} {y : DataW H × List MemPlace} (h : DataW.trod enc Tryz.prog W base spare held n 25 cs = some y) : ∃ v : Cell.Val, cs = vcells [v] ∧ vOk v := by
  obtain ⟨y0, y1, y2, n', _, hcl, h0, h1, h2⟩ := trod_struct3 Tryz.underlying25 h
  have hC : Tryz.prog.cellsOf 25 = 3 := by kernel_rfl
  obtain ⟨c0, c1, c2, rfl⟩ := list3 (hcl.trans hC)
  have e0 : Tryz.prog.cellsOf 23 = 1 := by kernel_rfl
  have e1 : Tryz.prog.cellsOf 2 = 1 := by kernel_rfl
  have e2 : Tryz.prog.cellsOf 9 = 1 := by kernel_rfl
  simp only [e0, e1, e2, List.drop_zero, List.take_succ_cons, List.take_zero, List.drop_succ_cons] at h0 h1 h2
  obtain ⟨k, rfl⟩ := cell_byte Tryz.underlying23 h0
  obtain ⟨z, rfl, z1, z2⟩ := cell_long Tryz.underlying2 h1
  obtain ⟨s, rfl, hs⟩ := cell_str Tryz.underlying9 h2
  exact ⟨⟨k, z, s⟩, rfl, hs, z1, z2⟩
set_option maxRecDepth 100000 in
theorem open_value {v : Value} {d : DataW H} {p : List MemPlace} (hv : Value.okWide Tryz.prog W r b0 25 v) (h : DataW.Trod enc Tryz.prog W base spare held 25 v d p) :
    ∃ (k : UInt8) (n : Int) (s : ByteArray), v = .agg #[.int .u8 (k.toNat : Int), .int .i64 n, .string s] ∧ s.size ≤ maxLen ∧ -9223372036854775808 ≤ n ∧ n ≤ 9223372036854775807 := by
  obtain ⟨v0, v1, v2, y0, y1, y2, n, rfl, _, _, h0, h1, h2⟩ := open_agg3 Tryz.underlying25 (by kernel_rfl) (by kernel_rfl) hv h
  obtain ⟨k, rfl⟩ := cell_byte Tryz.underlying23 h0
  obtain ⟨a, rfl, a1, a2⟩ := cell_long Tryz.underlying2 h1
  obtain ⟨s, rfl, hs⟩ := cell_str Tryz.underlying9 h2
  exact ⟨k, a, s, rfl, hs, a1, a2⟩
set_option maxRecDepth 100000 in
theorem open_vals {a : Option Addr} {len cap : Nat} {d : DataW H} {p : List MemPlace} (h : DataW.Trod enc Tryz.prog W 0 (fun _ => true) true 30 (.slice a len cap) d p) :
    ∃ rv : List Cell.Val, Rv W W.heap.size a len rv ∧ len ≤ cap ∧ cap ≤ maxLen ∧ (d = .nil ∧ len = 0 ∧ cap = 0 ∨ ∃ D D', d = .slice D D' ∧ D.length + D'.length = cap) := by
  obtain ⟨fuel, hf⟩ := h
  rcases open_slice Tryz.underlying30 hf with ⟨hcs, hx⟩ | ⟨a', len', cap', m, n, D, Pl, hcs, _, hl, hm, hmm, hx, hi⟩
  · simp [Value.cells] at hcs
    obtain ⟨rfl, rfl, rfl⟩ := hcs
    simp only [Prod.mk.injEq] at hx
    exact ⟨[], ⟨⟨rfl, fun h => absurd h (by omega)⟩, by simp⟩, Nat.le_refl _, Nat.zero_le _, .inl ⟨hx.1, rfl, rfl⟩⟩
  · simp [Value.cells] at hcs
    obtain ⟨rfl, rfl, rfl⟩ := hcs
    simp only [if_true] at hmm
    subst hmm
    simp only [Prod.mk.injEq] at hx
    have hC : Tryz.prog.cellsOf 25 = 3 := by kernel_rfl
    rw [hC] at hi
    have key : ∀ i, i < m → ∃ v : Cell.Val, (∀ j u, (vcells [v])[j]? = some u → W.cell? (a'.add (i * 3 + j)) = some u) ∧ vOk v := by
      intro i him
      obtain ⟨cs', hc, ht'⟩ := hi i him
      obtain ⟨v, rfl, hv⟩ := cells_val ht'
      obtain ⟨_, hcl, hat⟩ := World.cells?_some hc
      refine ⟨v, fun j u hu => ?_, hv⟩
      have hj : j < 3 := by
        rcases Nat.lt_or_ge j 3 with h | h
        · exact h
        · rw [List.getElem?_eq_none (by simp [vcells]; omega)] at hu
          cases hu
      rw [← add_add, hat j hj]
      exact hu
    haveI : Inhabited Cell.Val := ⟨⟨0, 0, ByteArray.empty⟩⟩
    obtain ⟨V, hV⟩ := choose_lt (α := Cell.Val) key
    have hat : ∀ (k : Nat), k ≤ m → ∀ j u, (vcells ((List.range k).map V))[j]? = some u → W.cell? (a'.add j) = some u := by
      intro k
      induction k with
      | zero => intro _ j u hu; simp [vcells] at hu
      | succ k ih =>
        intro hk j u hu
        rw [List.range_succ, List.map_append, vcells_append, List.getElem?_append] at hu
        split at hu
        · exact ih (by omega) j u hu
        · rename_i hge
          rw [vcells_len, List.length_map, List.length_range] at hge hu
          have := (hV k (by omega)).1 (j - k * 3) u hu
          rwa [show k * 3 + (j - k * 3) = j by omega] at this
    refine ⟨(List.range len).map V, ⟨⟨by rw [vcells_len]; simp, fun h0 => ?_⟩, fun v hv => ?_⟩, hl, hm, .inr ⟨_, _, hx.1, by simp; omega⟩⟩
    · have hcell := (hV 0 (by omega)).1 0 (.int .u8 ((V 0).k.toNat : Int)) rfl
      obtain ⟨b, off, spot⟩ := a'
      have hspot : spot = none := by simpa [Addr.add] using World.cell?_spot hcell
      subst hspot
      refine ⟨b, off, rfl, World.block_lt_of_cell? W _ hcell, fun j u hu => ?_⟩
      have := hat len hl j u hu
      rwa [addr_add] at this
    · simp only [List.mem_map, List.mem_range] at hv
      obtain ⟨i, hi', rfl⟩ := hv
      exact (hV i (by omega)).2
set_option maxRecDepth 100000 in
/-- A node's cells. -/
theorem open_node {n : Nat} {cs : List Value} {y : DataW H × List MemPlace} (h : DataW.trod enc Tryz.prog W base spare held n 28 cs = some y) (hz : ∀ q ∈ y.1.weights Tryz.prog 28, q ≤ reachBytes) :
    ∃ (o k : UInt8) (a N : Int) (s nm of : ByteArray) (c : Value) (n' : Nat) (z : DataW H × List MemPlace), n = n' + 1 ∧ cs = [.int .u8 (o.toNat : Int), .int .u8 (k.toNat : Int), .int .i64 a, .string s, .string nm, .string of, .int .i64 N, c] ∧ HdOk ⟨o, ⟨k, a, s⟩, nm, of, N⟩ ∧
      DataW.trod enc Tryz.prog W base spare held n' 26 [c] = some z ∧ ∀ q ∈ z.1.weights Tryz.prog 26, q ≤ reachBytes := by
  obtain ⟨y0, y1, y2, y3, y4, y5, n', hn, hd, hcl, h0, h1, h2, h3, h4, h5⟩ := trod_struct6 Tryz.underlying28 h
  have hC : Tryz.prog.cellsOf 28 = 8 := by kernel_rfl
  obtain ⟨c0, c1, c2, c3, c4, c5, c6, c7, rfl⟩ := list8 (hcl.trans hC)
  have e0 : Tryz.prog.cellsOf 22 = 1 := by kernel_rfl
  have e1 : Tryz.prog.cellsOf 25 = 3 := by kernel_rfl
  have e2 : Tryz.prog.cellsOf 9 = 1 := by kernel_rfl
  have e3 : Tryz.prog.cellsOf 3 = 1 := by kernel_rfl
  have e4 : Tryz.prog.cellsOf 26 = 1 := by kernel_rfl
  simp only [e0, e1, e2, e3, e4, List.drop_zero, List.take_succ_cons, List.take_zero, List.drop_succ_cons] at h0 h1 h2 h3 h4 h5
  obtain ⟨o, rfl⟩ := cell_byte Tryz.underlying22 h0
  obtain ⟨v, hv, ok⟩ := cells_val h1
  simp only [vcells, List.cons.injEq, and_true] at hv
  obtain ⟨rfl, rfl, rfl⟩ := hv
  obtain ⟨nm, rfl, hnm⟩ := cell_str Tryz.underlying9 h2
  obtain ⟨of, rfl, hof⟩ := cell_str Tryz.underlying9 h3
  obtain ⟨N, rfl, N1, N2⟩ := cell_long Tryz.underlying3 h4
  have hU : Tryz.prog.underlying 28 = _ := Tryz.underlying28
  rw [hd] at hz
  simp only [DataW.weights, hU] at hz
  exact ⟨o, v.k, v.n, N, v.s, nm, of, c7, n', y5, hn, rfl, ⟨ok, hnm, hof, N1, N2⟩, h5, fun q hq => hz q (DataW.weights_mem_each (j := 5) rfl rfl q hq)⟩
set_option maxRecDepth 100000 in
theorem open_kids : ∀ (n : Nat) {c : Value} {y : DataW H × List MemPlace}, DataW.trod enc Tryz.prog W 0 (fun _ => true) held n 26 [c] = some y → (∀ q ∈ y.1.weights Tryz.prog 26, q ≤ reachBytes) →
    ∃ A m cp ks, c = .slice A m cp ∧ ExK W (· < W.heap.size) n A m ks ∧ m ≤ cp ∧ cp ≤ 9223372036854775807 := by
  intro n
  induction n using Nat.strongRecOn with
  | ind n ih =>
    intro c y h hz
    rcases DataW.trod_slice Tryz.underlying26 h with ⟨hcs, hx⟩ | ⟨a, len, cap, elems, rest, n', hn, hcs, hx, _, hl, hm, hlen, hel, hsp, _⟩
    · simp only [List.cons.injEq, and_true] at hcs
      exact ⟨none, 0, 0, [], hcs, ExK.nil _ _ _ _, Nat.le_refl _, by omega⟩
    · simp only [List.cons.injEq, and_true] at hcs
      subst hcs hn
      have hC : Tryz.prog.cellsOf 28 = 8 := by kernel_rfl
      have hB : Tryz.prog.bytesOf 28 = 104 := by kernel_rfl
      have hU : Tryz.prog.underlying 26 = some (.slice 28) := Tryz.underlying26
      have hr : reachBytes = 140737488351232 := rfl
      rw [hC] at hel
      rw [hx] at hz
      have hcap := hz _ (by simp only [DataW.weights, hU]; exact List.mem_cons_self)
      simp only [List.length_map] at hcap
      rw [hB, hr, (hsp rfl).1, hlen] at hcap
      have key : ∀ i, i < len → ∃ x : It, (∀ j v, (ecell x.h x.A x.m x.c)[j]? = some v → W.cell? (a.add (i * 8 + j)) = some v) ∧ HdOk x.h ∧ x.m ≤ x.c ∧ x.c ≤ 9223372036854775807 ∧ ExK W (· < W.heap.size) n' x.A x.m x.ks := by
        intro i hil
        have he := hel i hil
        have hee : elems[i]? = some (elems[i]'(by omega)) := List.getElem?_eq_getElem (by omega)
        rw [hee, Option.bind_eq_some_iff] at he
        obtain ⟨cs', hc, ht⟩ := he
        obtain ⟨o, k, a1, N, s, nm, of, c2, n2, z, hn2, rfl, hok, h5, hz5⟩ := open_node ht (fun q hq => hz q (by
          simp only [DataW.weights, hU, List.mem_cons, List.mem_append]
          exact .inr (.inl (weights_all_mem (List.mem_map.2 ⟨_, List.getElem_mem (by omega), rfl⟩) hq))))
        obtain ⟨A, m, cp, ks, rfl, hk, h1, h2⟩ := ih n2 (by omega) h5 hz5
        obtain ⟨_, hcl, hat⟩ := World.cells?_some hc
        refine ⟨⟨⟨o, ⟨k, a1, s⟩, nm, of, N⟩, A, m, cp, ks⟩, fun j v hv => ?_, hok, h1, h2, hk.mono (by omega)⟩
        have hj : j < 8 := by
          rcases Nat.lt_or_ge j 8 with h | h
          · exact h
          · rw [List.getElem?_eq_none (by simpa [ecell] using h)] at hv
            cases hv
        rw [← add_add, hat j hj]
        exact hv
      haveI : Inhabited It := ⟨⟨⟨0, ⟨0, 0, ByteArray.empty⟩, ByteArray.empty, ByteArray.empty, 0⟩, none, 0, 0, []⟩⟩
      obtain ⟨V, hV⟩ := choose_lt (α := It) key
      refine ⟨some a, len, cap, (List.range len).map fun i => Ev.Ex.mk (V i).h (V i).ks, rfl, ⟨by simp, by omega, fun h0 => ?_⟩, hl, by have : maxLen = 9223372036854775807 := rfl; omega⟩
      have hcell := (hV 0 h0).1 0 _ rfl
      obtain ⟨b, off, spot⟩ := a
      have hspot : spot = none := by simpa [Addr.add] using World.cell?_spot hcell
      subst hspot
      refine ⟨b, off, rfl, World.block_lt_of_cell? W _ hcell, fun i h ks' hi => ?_⟩
      rw [List.getElem?_map] at hi
      obtain ⟨i', hi', e⟩ := Option.map_eq_some_iff.1 hi
      have hil : i < len := by
        have := (List.getElem?_eq_some_iff.1 hi').1
        simpa using this
      rw [List.getElem?_range hil] at hi'
      injection hi' with hi'
      subst hi'
      injection e with e1 e2
      subst e1 e2
      obtain ⟨hc, g1, g2, g3, g4⟩ := hV i hil
      have hm2 := g4.len.1
      have hc' := fun j v hv => (addr_add b off (i * 8 + j)) ▸ hc j v hv
      refine ⟨(V i).A, (V i).c, ?_, ?_, ?_, ?_, ?_, ?_, ?_, ?_, by omega, g3, g1, by rw [← hm2]; exact g4⟩
      · exact hc' 0 _ rfl
      · exact hc' 1 _ rfl
      · exact hc' 2 _ rfl
      · exact hc' 3 _ rfl
      · exact hc' 4 _ rfl
      · exact hc' 5 _ rfl
      · exact hc' 6 _ rfl
      · rw [← hm2]; exact hc' 7 _ rfl
set_option maxRecDepth 100000 in
theorem open_expr {v : Value} {d : DataW H} {p : List MemPlace} (hv : Value.okWide Tryz.prog W r b0 28 v) (h : DataW.Trod enc Tryz.prog W 0 (fun _ => true) held 28 v d p) (hz : ∀ n ∈ d.weights Tryz.prog 28, n ≤ reachBytes) :
    ∃ (eh : Ev.Hd) (A : Option Addr) (m c dp : Nat) (ks : List Ev.Ex), v = exV eh A m c ∧ ExK W (· < W.heap.size) dp A m ks ∧ HdOk eh ∧ m ≤ c ∧ c ≤ 9223372036854775807 := by
  obtain ⟨cs, rfl, hsz⟩ := okWide_struct Tryz.underlying28 hv
  obtain ⟨fuel, hf⟩ := h
  obtain ⟨o, k, a1, N, s, nm, of, c2, n2, z, hn2, hcs, hok, h5, hz5⟩ := open_node hf hz
  obtain ⟨A, m, cp, ks, rfl, hk, h1, h2⟩ := open_kids n2 h5 hz5
  refine ⟨⟨o, ⟨k, a1, s⟩, nm, of, N⟩, A, m, cp, n2, ks, ?_, hk, hok, h1, h2⟩
  simp only [Value.cells] at hcs
  unfold exV
  congr 1
  exact Array.ext' hcs
end
end Go.Proofs.YticljmgcgjibpaaGreatDoor
