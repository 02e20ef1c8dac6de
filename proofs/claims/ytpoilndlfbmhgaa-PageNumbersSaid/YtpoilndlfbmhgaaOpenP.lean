/-
  How a page and a list of cells are opened. Conditions: each slice takes at most the reach (the form says so).
-/
import Derived.Test.YtpoilndlfbmhgaaPageTellsW
import Derived.Test.YtpoilndlfbmhgaaOpen
import Derived.SizedLaws
import Derived.Deep.Strs
import Derived.Lib.SmallJoins
import Derived.Deep.Slices
import Derived.Deep.Fields
import Derived.ChangeSame
namespace Go.Proofs.Ytpoilndlfbmhgaa
open Go.ChangeShapes Go.WideShapes Go.ChangeAt Go.RowKit Go.Joins Go.Deep

section
variable {H : Type} {enc : TypeId × Value → H} {W : World} {base b0 : Nat} {r : Reach} {spare : Nat → Bool} {held : Bool}

theorem weights_all_mem {P : Program} {e : TypeId} {n : Nat} : ∀ {ds : List (DataW H)} {d : DataW H}, d ∈ ds → n ∈ d.weights P e → n ∈ DataW.weightsAll P e ds := by
  intro ds
  induction ds with
  | nil => intro d hd; cases hd
  | cons d0 ds ih =>
    intro d hd hn
    simp only [DataW.weightsAll, List.mem_append]
    rcases List.mem_cons.1 hd with rfl | hd
    · exact .inl hn
    · exact .inr (ih hd hn)
theorem cell_int {k : IntKind} {t : TypeId} {n : Nat} {v : Value} {y : DataW H × List MemPlace} (ht : Try.prog.underlying t = some (.int k)) (h : DataW.trod enc Try.prog W base spare held n t [v] = some y) : ∃ a, v = .int k a ∧ (Lit.int k a).wf = true := by
  obtain ⟨a, h1, _, h3⟩ := DataW.trod_int ht h
  injection h1 with h1
  exact ⟨a, h1, h3⟩
theorem cell_byte {t : TypeId} {n : Nat} {v : Value} {y : DataW H × List MemPlace} (ht : Try.prog.underlying t = some (.int .u8)) (h : DataW.trod enc Try.prog W base spare held n t [v] = some y) : ∃ c : UInt8, v = .int .u8 (c.toNat : Int) := by
  obtain ⟨a, rfl, hw⟩ := cell_int ht h
  have hb := bounds_u8 hw
  refine ⟨UInt8.ofNat a.toNat, ?_⟩
  congr 1
  rw [UInt8.toNat_ofNat_of_lt' (by show a.toNat < 256; omega)]
  omega
theorem cell_long {t : TypeId} {n : Nat} {v : Value} {y : DataW H × List MemPlace} (ht : Try.prog.underlying t = some (.int .i64)) (h : DataW.trod enc Try.prog W base spare held n t [v] = some y) : ∃ a : Int, v = .int .i64 a ∧ -9223372036854775808 ≤ a ∧ a ≤ 9223372036854775807 := by
  obtain ⟨a, rfl, hw⟩ := cell_int ht h
  have hb := bounds_i64 hw
  exact ⟨a, rfl, by omega, by omega⟩
/-- Bytes, of at most the reach. -/
theorem open_bytesZ {a : Option Addr} {len cap : Nat} {d : DataW H} {p : List MemPlace} (h : DataW.Trod enc Try.prog W 0 (fun _ => true) true 26 (.slice a len cap) d p) (hz : ∀ n ∈ d.weights Try.prog 26, n ≤ reachBytes) :
    ∃ l, Rb W W.heap.size a len l ∧ len ≤ cap ∧ cap ≤ 140737488351232 := by
  obtain ⟨l, h1, h2, h3, h4⟩ := open_bytes (H := H) (enc := enc) Try.underlying26 Try.underlying5 (by kernel_rfl) h
  refine ⟨l, h1, h2, ?_⟩
  rcases h4 with ⟨_, _, h0⟩ | ⟨zs, hzs, hd⟩
  · omega
  · have hb : Try.prog.bytesOf 5 = 1 := by kernel_rfl
    have hu : Try.prog.underlying 26 = some (.slice 5) := Try.underlying26
    have hr : reachBytes = 140737488351232 := rfl
    have := hz (((lits (H := H) .u8 (zs.take len)).length + (lits (H := H) .u8 (zs.drop len)).length) * Try.prog.bytesOf 5) (by rw [hd]; simp [DataW.weights, hu])
    rw [hb, hr] at this
    simp only [lits, List.length_map, List.length_take, List.length_drop] at this
    omega
theorem cell_bytes {n : Nat} {v : Value} {y : DataW H × List MemPlace} (h : DataW.trod enc Try.prog W 0 (fun _ => true) true n 26 [v] = some y) (hz : ∀ n ∈ y.1.weights Try.prog 26, n ≤ reachBytes) :
    ∃ l, Bd W W.heap.size v l := by
  have h2 := h
  rcases open_slice Try.underlying26 h with ⟨hcs2, _⟩ | ⟨a2, l2, c2, _, _, _, _, hcs2, _⟩
  · simp at hcs2
    subst hcs2
    exact ⟨[], _, _, rfl, Rb.nil, by simp, by simp, by omega⟩
  · simp at hcs2
    subst hcs2
    obtain ⟨l, hl1, hl2, hl3⟩ := open_bytesZ (H := H) (enc := enc) (a := some a2) (len := l2) (cap := c2) ⟨_, h2⟩ hz
    have hln := hl1.len
    subst hln
    exact ⟨l, _, _, rfl, hl1, by omega, hl2, by omega⟩
theorem open_cells {a : Option Addr} {len cap : Nat} {d : DataW H} {p : List MemPlace} (h : DataW.Trod enc Try.prog W 0 (fun _ => true) true 23 (.slice a len cap) d p) (hz : ∀ n ∈ d.weights Try.prog 23, n ≤ reachBytes) :
    ∃ cs : List Pag.Ce, CeRd W W.heap.size a len cs ∧ len ≤ cap ∧ cap * 48 ≤ 140737488351232 := by
  obtain ⟨fuel, hf⟩ := h
  rcases open_slice Try.underlying23 hf with ⟨hcs, hx⟩ | ⟨a', len', cap', m, n, D, Pl, hcs, _, hl, hm, hmm, hx, hi⟩
  · simp [Value.cells] at hcs
    obtain ⟨rfl, rfl, rfl⟩ := hcs
    exact ⟨[], CeRd.nil _ _ _, Nat.le_refl _, by omega⟩
  · simp [Value.cells] at hcs
    obtain ⟨rfl, rfl, rfl⟩ := hcs
    simp only [if_true] at hmm
    subst hmm
    simp only [Prod.mk.injEq] at hx
    have hC : Try.prog.cellsOf 41 = 2 := by kernel_rfl
    have hB : Try.prog.bytesOf 41 = 48 := by kernel_rfl
    have hU : Try.prog.underlying 23 = some (.slice 41) := Try.underlying23
    have hUC : Try.prog.underlying 41 = _ := Try.underlying41
    have hr : reachBytes = 140737488351232 := rfl
    rw [hC] at hi
    have hzD : ∀ i, i < len → ∀ n ∈ (D i).weights Try.prog 41, n ≤ reachBytes := fun i hi' n hn => by
      refine hz n ?_
      rw [hx.1]
      simp only [DataW.weights, hU, List.mem_cons, List.mem_append]
      exact .inr (.inl (weights_all_mem (List.mem_map.2 ⟨i, List.mem_range.2 hi', rfl⟩) hn))
    have hcap := hz _ (by rw [hx.1]; simp only [DataW.weights, hU]; exact List.mem_cons_self)
    rw [hB, hr] at hcap
    have key : ∀ i, i < len → ∃ f : Pag.Ce, ∃ b1 b2, W.cell? (a'.add (i * 2)) = some b1 ∧ W.cell? (a'.add (i * 2 + 1)) = some b2 ∧ Bd W W.heap.size b1 f.1 ∧ Bd W W.heap.size b2 f.2 := by
      intro i him
      obtain ⟨cs', hc, ht'⟩ := hi i (by omega)
      obtain ⟨y0, y1, n', hxx, _, h0, h1⟩ := trod_struct2 Try.underlying41 ht'
      obtain ⟨_, hcl, hat⟩ := World.cells?_some hc
      match cs', hcl with
      | [c0, c1], _ =>
        have e1 : Try.prog.cellsOf 26 = 1 := by kernel_rfl
        simp only [e1, List.drop_zero, List.take_succ_cons, List.take_zero, List.drop_succ_cons] at h0 h1
        have hc0 := hat 0 (by omega)
        have hc1 := hat 1 (by omega)
        rw [add_add, Nat.add_zero] at hc0
        rw [add_add] at hc1
        have hDi : D i = .agg [y0.1, y1.1] := by injection hxx
        have hzi := hzD i him
        rw [hDi] at hzi
        simp only [DataW.weights, hUC] at hzi
        obtain ⟨l0, g0⟩ := cell_bytes h0 (fun n hn => hzi n (DataW.weights_mem_each (j := 0) rfl rfl n hn))
        obtain ⟨l1, g1⟩ := cell_bytes h1 (fun n hn => hzi n (DataW.weights_mem_each (j := 1) rfl rfl n hn))
        exact ⟨(l0, l1), c0, c1, hc0, hc1, g0, g1⟩
    haveI : Inhabited Pag.Ce := ⟨([], [])⟩
    obtain ⟨V, hV⟩ := choose_lt (α := Pag.Ce) key
    have bat : ∀ i, i < len → W.cell? (a'.add (i * 2)) = some ((W.cell? (a'.add (i * 2))).getD undef) ∧ W.cell? (a'.add (i * 2 + 1)) = some ((W.cell? (a'.add (i * 2 + 1))).getD undef) ∧ Bd W W.heap.size ((W.cell? (a'.add (i * 2))).getD undef) (V i).1 ∧ Bd W W.heap.size ((W.cell? (a'.add (i * 2 + 1))).getD undef) (V i).2 := fun i hi' => by
      obtain ⟨b1, b2, h1, h2, h3, h4⟩ := hV i hi'
      rw [h1, h2]
      exact ⟨rfl, rfl, h3, h4⟩
    refine ⟨(List.range len).map V, ⟨by simp, (List.range len).map (fun i => ((W.cell? (a'.add (i * 2))).getD undef, (W.cell? (a'.add (i * 2 + 1))).getD undef)), by simp, ⟨?_, fun h0 => ?_⟩, fun i f b hf' hb => ?_⟩, hl, ?_⟩
    · rw [prs_len]
      simp
    · obtain ⟨hcell, _⟩ := bat 0 (by omega)
      obtain ⟨b, off, spot⟩ := a'
      have hspot : spot = none := by simpa [Addr.add] using World.cell?_spot hcell
      subst hspot
      refine ⟨b, off, rfl, World.block_lt_of_cell? W _ hcell, fun j u hu' => ?_⟩
      have hj : j / 2 < len := by
        rcases Nat.lt_or_ge j (len * 2) with h | h
        · omega
        · rw [List.getElem?_eq_none (by rw [prs_len]; simp; omega)] at hu'
          cases hu'
      obtain ⟨g0, g1, _⟩ := bat (j / 2) hj
      obtain ⟨k0, k1⟩ := prs_at ((List.range len).map (fun i => ((W.cell? ((⟨b, off, none⟩ : Addr).add (i * 2))).getD undef, (W.cell? ((⟨b, off, none⟩ : Addr).add (i * 2 + 1))).getD undef))) (j / 2) _ (by simp only [List.getElem?_map, List.getElem?_range hj, Option.map_some]; rfl)
      rw [addr_add] at g0 g1 k0 k1
      rcases Nat.mod_two_eq_zero_or_one j with h2 | h2
      · rw [show j / 2 * 2 = j by omega] at g0 k0
        rw [k0] at hu'
        rw [g0, ← hu']
      · rw [show j / 2 * 2 + 1 = j by omega] at g1 k1
        rw [k1] at hu'
        rw [g1, ← hu']
        simp only [addr_add]
    · simp only [List.getElem?_map] at hf' hb
      have hil : i < len := by
        rcases Nat.lt_or_ge i len with h | h
        · exact h
        · rw [List.getElem?_eq_none (by simp; omega)] at hf'; cases hf'
      rw [List.getElem?_range hil] at hf' hb
      simp only [Option.map_some, Option.some.injEq] at hf' hb
      subst hf' hb
      exact (bat i hil).2.2
    · simp only [List.length_map, List.length_range] at hcap
      omega
theorem open_page {v : Value} {d : DataW H} {p : List MemPlace} (hv : Value.okWide Try.prog W r b0 25 v) (h : DataW.Trod enc Try.prog W 0 (fun _ => true) true 25 v d p) (hz : ∀ n ∈ d.weights Try.prog 25, n ≤ reachBytes) :
    ∃ (kd : UInt8) (nx : Int) (A : Option Addr) (n c : Nat) (cs : List Pag.Ce), v = .agg #[.int .u8 (kd.toNat : Int), .int .i64 nx, .slice A n c] ∧ CeRd W W.heap.size A n cs ∧ n ≤ 2932031007402 := by
  obtain ⟨v0, v1, v2, y0, y1, y2, n, rfl, hd, _, h0, h1, h2⟩ := open_agg3 Try.underlying25 (by kernel_rfl) (by kernel_rfl) hv h
  obtain ⟨kd, rfl⟩ := cell_byte Try.underlying22 h0
  obtain ⟨nx, rfl, _, _⟩ := cell_long Try.underlying3 h1
  have hU : Try.prog.underlying 25 = _ := Try.underlying25
  rw [hd] at hz
  simp only [DataW.weights, hU] at hz
  have g2 := h2
  have e2 : ∃ a len cap, v2 = .slice a len cap := by
    rcases open_slice Try.underlying23 h2 with ⟨hcs, _⟩ | ⟨_, _, _, _, _, _, _, hcs, _⟩
    · exact ⟨_, _, _, by simpa using hcs⟩
    · exact ⟨_, _, _, by simpa using hcs⟩
  obtain ⟨A, n, c, rfl⟩ := e2
  obtain ⟨cs, hc, h3, h4⟩ := open_cells (H := H) (enc := enc) ⟨_, g2⟩ (fun n hn => hz n (DataW.weights_mem_each (j := 2) rfl rfl n hn))
  exact ⟨kd, nx, A, n, c, cs, rfl, hc, by omega⟩
end
theorem pageTells_walk (kd : UInt8) (nx : Int) (A : Option Addr) (n c : Nat) (cs : List Pag.Ce) (Ak : Option Addr) (nk ck : Nat) (key : List UInt8) (w : World) (hl : CeRd w w.heap.size A n cs) (hn : n ≤ 2932031007402) (hk : Rb w w.heap.size Ak nk key) (_ : nk ≤ ck) (_ : ck ≤ maxLen) (_ : ck ≤ 140737488351232) :
    Calls Try.prog 3 #[.agg #[.int .u8 (kd.toNat : Int), .int .i64 nx, .slice A n c], .slice Ak nk ck] w fun e w' => e = .returned (.bool true) ∧ Below w.heap.size w w' :=
  pageTells_any kd nx A Ak n c nk ck cs key w hl hk hn
end Go.Proofs.Ytpoilndlfbmhgaa
