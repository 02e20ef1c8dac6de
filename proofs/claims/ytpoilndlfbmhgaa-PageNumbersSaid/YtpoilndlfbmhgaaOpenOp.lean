/-
  How a script of calls on a page is opened. Conditions: each slice takes at most the reach (the form says so).
-/
import Derived.Test.YtpoilndlfbmhgaaMapReg
import Derived.Test.YtpoilndlfbmhgaaOpenP
namespace Go.Proofs.Ytpoilndlfbmhgaa
open Go.ChangeShapes Go.WideShapes Go.ChangeAt Go.RowKit Go.Joins Go.Deep

/-- A call: its kind, key and value. -/
abbrev Op1 := Int × List UInt8 × List UInt8
/-- A script that is read. -/
def OpRd (w : World) (B : Nat) (A : Option Addr) (n : Nat) (os : List Op1) : Prop :=
  n = os.length ∧ ∀ (i : Nat) (o : Op1), os[i]? = some o → ∃ g off b1 b2, A = some ⟨g, off, none⟩ ∧ g < B ∧ w.cell? ⟨g, off + i * 3, none⟩ = some (.int .i64 o.1) ∧ w.cell? ⟨g, off + (i * 3 + 1), none⟩ = some b1 ∧ w.cell? ⟨g, off + (i * 3 + 2), none⟩ = some b2 ∧ Bd w B b1 o.2.1 ∧ Bd w B b2 o.2.2 ∧ -9223372036854775808 ≤ o.1 ∧ o.1 ≤ 9223372036854775807
theorem OpRd.keep {w w' : World} {B n : Nat} {A : Option Addr} {os : List Op1} (h : OpRd w B A n os) (hk : ∀ p : Addr, p.block < B → w'.cell? p = w.cell? p) : OpRd w' B A n os := by
  refine ⟨h.1, fun i o ho => ?_⟩
  obtain ⟨g, off, b1, b2, e, hg, h1, h2, h3, h4, h5, h6⟩ := h.2 i o ho
  exact ⟨g, off, b1, b2, e, hg, (hk _ hg).trans h1, (hk _ hg).trans h2, (hk _ hg).trans h3, h4.keep hk, h5.keep hk, h6⟩
section
variable {H : Type} {enc : TypeId × Value → H} {W : World} {base b0 : Nat} {r : Reach} {spare : Nat → Bool} {held : Bool}
theorem open_ops {a : Option Addr} {len cap : Nat} {d : DataW H} {p : List MemPlace} (h : DataW.Trod enc Try.prog W 0 (fun _ => true) true 45 (.slice a len cap) d p) (hz : ∀ n ∈ d.weights Try.prog 45, n ≤ reachBytes) :
    ∃ os : List Op1, OpRd W W.heap.size a len os ∧ len ≤ cap ∧ cap * 56 ≤ 140737488351232 := by
  obtain ⟨fuel, hf⟩ := h
  rcases open_slice Try.underlying45 hf with ⟨hcs, hx⟩ | ⟨a', len', cap', m, n, D, Pl, hcs, _, hl, hm, hmm, hx, hi⟩
  · simp [Value.cells] at hcs
    obtain ⟨rfl, rfl, rfl⟩ := hcs
    exact ⟨[], ⟨rfl, fun i o ho => by simp at ho⟩, Nat.le_refl _, by omega⟩
  · simp [Value.cells] at hcs
    obtain ⟨rfl, rfl, rfl⟩ := hcs
    simp only [if_true] at hmm
    subst hmm
    simp only [Prod.mk.injEq] at hx
    have hC : Try.prog.cellsOf 48 = 3 := by kernel_rfl
    have hB : Try.prog.bytesOf 48 = 56 := by kernel_rfl
    have hU : Try.prog.underlying 45 = some (.slice 48) := Try.underlying45
    have hUC : Try.prog.underlying 48 = _ := Try.underlying48
    have hr : reachBytes = 140737488351232 := rfl
    rw [hC] at hi
    have hzD : ∀ i, i < len → ∀ n ∈ (D i).weights Try.prog 48, n ≤ reachBytes := fun i hi' n hn => by
      refine hz n ?_
      rw [hx.1]
      simp only [DataW.weights, hU, List.mem_cons, List.mem_append]
      exact .inr (.inl (weights_all_mem (List.mem_map.2 ⟨i, List.mem_range.2 hi', rfl⟩) hn))
    have hcap := hz _ (by rw [hx.1]; simp only [DataW.weights, hU]; exact List.mem_cons_self)
    rw [hB, hr] at hcap
    have key : ∀ i, i < len → ∃ f : Op1, ∃ b1 b2, W.cell? (a'.add (i * 3)) = some (.int .i64 f.1) ∧ W.cell? (a'.add (i * 3 + 1)) = some b1 ∧ W.cell? (a'.add (i * 3 + 2)) = some b2 ∧ Bd W W.heap.size b1 f.2.1 ∧ Bd W W.heap.size b2 f.2.2 ∧ -9223372036854775808 ≤ f.1 ∧ f.1 ≤ 9223372036854775807 := by
      intro i him
      obtain ⟨cs', hc, ht'⟩ := hi i (by omega)
      obtain ⟨y0, y1, y2, n', hxx, _, h0, h1, h2⟩ := trod_struct3 Try.underlying48 ht'
      obtain ⟨_, hcl, hat⟩ := World.cells?_some hc
      match cs', hcl with
      | [c0, c1, c2], _ =>
        have e1 : Try.prog.cellsOf 26 = 1 := by kernel_rfl
        have e2 : Try.prog.cellsOf 3 = 1 := by kernel_rfl
        simp only [e1, e2, List.drop_zero, List.take_succ_cons, List.take_zero, List.drop_succ_cons] at h0 h1 h2
        have hc0 := hat 0 (by omega)
        have hc1 := hat 1 (by omega)
        have hc2 := hat 2 (by omega)
        rw [add_add, Nat.add_zero] at hc0
        rw [add_add] at hc1 hc2
        have hDi : D i = .agg [y0.1, y1.1, y2.1] := by injection hxx
        have hzi := hzD i him
        rw [hDi] at hzi
        simp only [DataW.weights, hUC] at hzi
        obtain ⟨k, rfl, g2, g3⟩ := cell_long Try.underlying3 h0
        obtain ⟨l0, g0⟩ := cell_bytes h1 (fun n hn => hzi n (DataW.weights_mem_each (j := 1) rfl rfl n hn))
        obtain ⟨l1, g1⟩ := cell_bytes h2 (fun n hn => hzi n (DataW.weights_mem_each (j := 2) rfl rfl n hn))
        exact ⟨(k, l0, l1), c1, c2, hc0, hc1, hc2, g0, g1, g2, g3⟩
    haveI : Inhabited Op1 := ⟨(0, [], [])⟩
    obtain ⟨V, hV⟩ := choose_lt (α := Op1) key
    refine ⟨(List.range len).map V, ⟨by simp, fun i o ho => ?_⟩, hl, ?_⟩
    · rw [List.getElem?_map] at ho
      have hil : i < len := by
        rcases Nat.lt_or_ge i len with h | h
        · exact h
        · rw [List.getElem?_eq_none (by simp; omega)] at ho; cases ho
      rw [List.getElem?_range hil] at ho
      simp only [Option.map_some, Option.some.injEq] at ho
      subst ho
      obtain ⟨b1, b2, h1, h2, h3, h4, h5, h6⟩ := hV i hil
      obtain ⟨b, off, spot⟩ := a'
      obtain ⟨_, _, h10, _⟩ := hV 0 (by omega)
      have hspot : spot = none := by simpa [Addr.add] using World.cell?_spot h10
      subst hspot
      rw [addr_add] at h1 h2 h3
      exact ⟨b, off, b1, b2, rfl, World.block_lt_of_cell? W _ h1, h1, h2, h3, h4, h5, h6⟩
    · simp only [List.length_map, List.length_range] at hcap
      omega
end
end Go.Proofs.Ytpoilndlfbmhgaa
