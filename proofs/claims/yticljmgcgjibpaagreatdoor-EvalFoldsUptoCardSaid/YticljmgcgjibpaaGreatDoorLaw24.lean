/-
  From the card's condition on the listed variables to what the walks ask. Conditions: none.
-/
import Derived.Test.YticljmgcgjibpaaGreatDoorEvH
import Derived.Test.YticljmgcgjibpaaGreatDoorRows
import Derived.MakeChecks
import Derived.Lib.LaidTab
import Derived.OpenShut
namespace Go.Proofs.YticljmgcgjibpaaGreatDoor
open Go.RowKit

theorem laid_var {P : Program} {w : World} : ∀ {L : List (String × DataW Unit)} {ps : List MemPlace} {n : String} {d : DataW Unit}, DataW.LaidVars P w L ps → (n, d) ∈ L →
    ∃ g t cs fuel p, P.globalNamed n = some g ∧ (P.globals[g]?).map (·.type) = some t ∧ w.var? P n = some cs ∧ DataW.trod (fun _ => ()) P w 0 (fun _ => true) false fuel t cs.toList = some (d, p) := by
  intro L
  induction L with
  | nil => intro ps n d _ h; cases h
  | cons x r ih =>
    intro ps n d h hm
    obtain ⟨n', d'⟩ := x
    obtain ⟨g, t, cs, fuel, p, q, h1, h2, h3, h4, h5, _⟩ := h
    rcases List.mem_cons.1 hm with e | hm
    · injection e with e1 e2
      subst e1 e2
      exact ⟨g, t, cs, fuel, p, h1, h2, h3, h4⟩
    · exact ih h5 hm
theorem var_block {P : Program} {w : World} {n : String} {cs : Array Value} {g : Nat} (hg : P.globalNamed n = some g) (h : w.var? P n = some cs) : ∃ t m, w.heap[g]? = some (.cells cs t m) := by
  unfold World.var? at h
  rw [hg] at h
  simp only [Option.bind_some] at h
  split at h
  · rename_i cs' t m he
    injection h with h
    subst h
    exact ⟨t, m, he⟩
  · cases h
theorem nine {α : Type} {l : List α} (h : l.length = 9) {a b c : List α} (ha : (l.drop 0).take 3 = a) (hb : (l.drop 3).take 3 = b) (hc : (l.drop 6).take 3 = c) : l = a ++ b ++ c := by
  match l, h with
  | [x0, x1, x2, x3, x4, x5, x6, x7, x8], _ => subst ha hb hc; rfl
set_option maxRecDepth 8000 in
theorem tab3 {w : World} {cs : List Value} {fuel : Nat} {p : List MemPlace} {a b c : List Int} (h : DataW.trod (fun _ => ()) Tryz.prog w 0 (fun _ => true) false fuel 103 cs = some (.agg [Lib.tabData .u8 a, Lib.tabData .u8 b, Lib.tabData .u8 c], p)) :
    cs = (a ++ b ++ c).map (Value.int .u8) := by
  obtain ⟨xs, m, _, hx, hl, hn, hi⟩ := DataW.trod_array Tryz.underlying103 h
  have e3 : Tryz.prog.cellsOf 102 = 3 := by kernel_rfl
  have e9 : Tryz.prog.cellsOf 103 = 9 := by kernel_rfl
  have e1 : Tryz.prog.cellsOf 5 = 1 := by kernel_rfl
  rw [e9] at hl
  rw [e3] at hi
  injection hx with hx1 hx2
  match xs, hn with
  | [x, y, z], _ =>
    simp only [List.map_cons, List.map_nil, DataW.agg.injEq, List.cons.injEq, and_true] at hx1
    obtain ⟨h1, h2, h3⟩ := hx1
    have k0 := hi 0 (by omega)
    have k1 := hi 1 (by omega)
    have k2 := hi 2 (by omega)
    obtain ⟨x1, x2⟩ := x
    obtain ⟨y1, y2⟩ := y
    obtain ⟨z1, z2⟩ := z
    simp only at h1 h2 h3
    subst h1 h2 h3
    have c0 := Lib.cells_of_tab Tryz.underlying102 Tryz.underlying5 e1 e3 k0
    have c1 := Lib.cells_of_tab Tryz.underlying102 Tryz.underlying5 e1 e3 k1
    have c2 := Lib.cells_of_tab Tryz.underlying102 Tryz.underlying5 e1 e3 k2
    rw [nine hl c0 c1 c2]
    simp
section
variable {w : World} {L : List (String × DataW Unit)}
theorem tab33_of (h : laidMet Tryz.prog L w) {n : String} {g0 : Nat} {d : DataW Unit} {a b c : List Int} {l : List Nat} (hm : (n, d) ∈ L) (hg : Tryz.prog.globalNamed n = some g0) (ht : (Tryz.prog.globals[g0]?).map (·.type) = some 103)
    (hd : d = .agg [Lib.tabData .u8 a, Lib.tabData .u8 b, Lib.tabData .u8 c]) (hl : (a ++ b ++ c).map (Value.int .u8) = l.map fun (n : Nat) => Value.int .u8 (n : Int)) : Tb w g0 l := by
  obtain ⟨ps, h, _⟩ := h
  obtain ⟨g, t, cs, fuel, p, h1, h2, h3, h4⟩ := laid_var h hm
  obtain rfl : g0 = g := Option.some.inj (hg.symm.trans h1)
  obtain rfl : 103 = t := Option.some.inj (ht.symm.trans h2)
  rw [hd] at h4
  have := tab3 h4
  obtain ⟨t, m, hb⟩ := var_block hg h3
  refine ⟨t, m, ?_⟩
  rw [hb, ← hl, ← this]
theorem and_of (h : laidMet Tryz.prog L w) (hm : ("chancery/value.andTable", (Rows.laid_chancery_value_andTable : DataW Unit)) ∈ L) : TAnd w :=
  tab33_of h (a := [0, 0, 0]) (b := [0, 1, 2]) (c := [0, 2, 2]) hm (by kernel_rfl) (by kernel_rfl) (by kernel_rfl) rfl
theorem or_of (h : laidMet Tryz.prog L w) (hm : ("chancery/value.orTable", (Rows.laid_chancery_value_orTable : DataW Unit)) ∈ L) : TOr w :=
  tab33_of h (a := [0, 1, 2]) (b := [1, 1, 1]) (c := [2, 1, 2]) hm (by kernel_rfl) (by kernel_rfl) (by kernel_rfl) rfl
theorem not_of (h : laidMet Tryz.prog L w) (hm : ("chancery/value.notTable", (Rows.laid_chancery_value_notTable : DataW Unit)) ∈ L) : TNot w := by
  obtain ⟨ps, h, _⟩ := h
  obtain ⟨g, t, cs, fuel, p, h1, h2, h3, h4⟩ := laid_var h hm
  obtain rfl : 2 = g := Option.some.inj ((show Tryz.prog.globalNamed "chancery/value.notTable" = some 2 from by kernel_rfl).symm.trans h1)
  obtain rfl : 102 = t := Option.some.inj ((show (Tryz.prog.globals[(2 : Nat)]?).map (·.type) = some 102 from by kernel_rfl).symm.trans h2)
  have e : (Rows.laid_chancery_value_notTable : DataW Unit) = Lib.tabData .u8 [1, 0, 2] := by kernel_rfl
  rw [e] at h4
  have := Lib.cells_of_tab Tryz.underlying102 Tryz.underlying5 (by kernel_rfl) (by kernel_rfl) h4
  obtain ⟨t, m, hb⟩ := var_block h1 h3
  refine ⟨t, m, ?_⟩
  rw [hb]
  congr 2
  exact Array.ext' (by rw [this]; rfl)
theorem env24_of (hL : laidMetH Tryz.prog L w) (hp : (L.all fun x => x.2.handleName?.isNone) = true)
    (h1 : ("chancery/value.andTable", (Rows.laid_chancery_value_andTable : DataW Unit)) ∈ L) (h2 : ("chancery/value.orTable", (Rows.laid_chancery_value_orTable : DataW Unit)) ∈ L) (h3 : ("chancery/value.notTable", (Rows.laid_chancery_value_notTable : DataW Unit)) ∈ L) : Env w := by
  rw [MakeChecks.laidMetH_plain _ _ _ hp] at hL
  exact ⟨and_of hL h1, or_of hL h2, not_of hL h3⟩
end
end Go.Proofs.YticljmgcgjibpaaGreatDoor
