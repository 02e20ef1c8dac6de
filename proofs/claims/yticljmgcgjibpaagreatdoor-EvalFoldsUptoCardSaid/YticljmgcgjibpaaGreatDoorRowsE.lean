/-
  Rows of rows of the call's own: append, and what reads them. Conditions: none.
-/
import Derived.Test.YticljmgcgjibpaaGreatDoorEvH
import Derived.Lib.SmallJoins
import Derived.Deep.Slices
namespace Go.Proofs.YticljmgcgjibpaaGreatDoor
open Go.RowKit Go.Joins Go.Deep

structure Ir where
  A : Option Addr
  c : Nat
  r : List Cell.Val
def Ir.v (x : Ir) : Value := .slice x.A x.r.length x.c
/-- A row of rows of the call's own, from block lo on; the rows' blocks are among P. -/
def RwOwn (w : World) (lo : Nat) (P : Nat → Prop) (v : Value) (rs : List (List Cell.Val)) : Prop :=
  ∃ its : List Ir, its.map Ir.r = rs ∧ w.ownsRow lo 30 1 v its.length (its.map Ir.v) ∧ ∀ x ∈ its, x.r.length ≤ x.c ∧ x.c ≤ 9223372036854775807 ∧ Rvp w (fun g => P g ∧ g < w.heap.size ∧ some g ≠ v.ownBlock) x.A x.r.length x.r
theorem infoRow : (Tryz.prog.info? 30).map (fun i => (i.zero, i.size, i.bytes)) = some (some (.slice none 0 0), 1, 24) := by kernel_rfl
section
variable {w w' : World} {lo : Nat} {P : Nat → Prop} {v : Value} {rs : List (List Cell.Val)}
theorem RwOwn.nil (w : World) (lo : Nat) (P : Nat → Prop) : RwOwn w lo P (.slice none 0 0) [] := ⟨[], rfl, own_nil _ _ _ _, fun x h => absurd h (by simp)⟩
theorem RwOwn.len (h : RwOwn w lo P v rs) : w.ownsRow lo 30 1 v rs.length (((Classical.choose h).map Ir.v)) := by
  have := (Classical.choose_spec h)
  have hl : (Classical.choose h).length = rs.length := by
    have := congrArg List.length this.1
    simpa using this
  rw [← hl]
  exact this.2.1
theorem RwOwn.form (h : RwOwn w lo P v rs) : ∃ A c, v = .slice A rs.length c ∧ rs.length ≤ c ∧ c ≤ 9223372036854775807 := by
  obtain ⟨A, c, e, _, c1, c2⟩ := own_form h.len
  exact ⟨A, c, e, c1, by unfold maxLen at c2; omega⟩
theorem RwOwn.lt (h : RwOwn w lo P v rs) {g : Nat} (hg : v.ownBlock = some g) : lo ≤ g ∧ g < w.heap.size := h.len.lt g hg
theorem RwOwn.below (h : RwOwn w lo P v rs) (hb : Below w.heap.size w w') : RwOwn w' lo P v rs := by
  obtain ⟨its, h1, h2, h3⟩ := h
  refine ⟨its, h1, own_below h2 hb, fun x hx => ?_⟩
  obtain ⟨g1, g2, g3⟩ := h3 x hx
  exact ⟨g1, g2, g3.keep (fun g hg => ⟨hg.1, Nat.lt_of_lt_of_le hg.2.1 hb.size, hg.2.2⟩) (fun g o hg => hb.cell hg.2.1)⟩
theorem RwOwn.rws {n c : Nat} {A : Option Addr} (h : RwOwn w lo P (.slice A n c) rs) (hn : n = rs.length) (hl : n * 32 ≤ 140737488355328) : Rws w (fun g => g < w.heap.size) A n rs := by
  obtain ⟨its, h1, h2, h3⟩ := h
  have hi : its.length = rs.length := by rw [← h1]; simp
  have hni : n = its.length := by omega
  have hrd : Rd w w.heap.size 1 A n (its.map Ir.v) := by rw [hni] at h2 ⊢; exact Rd.own h2
  refine ⟨hn, hl, fun h0 => ?_⟩
  obtain ⟨g, off, e, hg, hc⟩ := hrd.2 h0
  refine ⟨g, off, e, hg, fun i r hr => ?_⟩
  rw [← h1, List.getElem?_map] at hr
  obtain ⟨x, hx, e2⟩ := Option.map_eq_some_iff.1 hr
  subst e2
  obtain ⟨g1, g2, g3⟩ := h3 x (List.mem_of_getElem? hx)
  exact ⟨x.A, x.c, hc i _ (by rw [List.getElem?_map, hx]; rfl), g1, g2, g3.keep (fun g hg => hg.2.1) (fun _ _ _ => rfl)⟩
theorem Rws.items {n : Nat} {A : Option Addr} (h : Rws w P A n rs) {B : Nat} (hB : ∀ g, P g → g < B) : ∃ its : List Ir, its.map Ir.r = rs ∧ its.length = n ∧ Rd w B 1 A n (its.map Ir.v) ∧ ∀ x ∈ its, x.r.length ≤ x.c ∧ x.c ≤ 9223372036854775807 ∧ Rvp w P x.A x.r.length x.r := by
  obtain ⟨hn, hl, hc⟩ := h
  rcases Nat.eq_zero_or_pos n with h0 | h0
  · subst h0
    exact ⟨[], (List.eq_nil_of_length_eq_zero hn.symm).symm, rfl, ⟨rfl, fun h => absurd h (by omega)⟩, fun x h => absurd h (by simp)⟩
  · obtain ⟨g, off, rfl, hg, hc⟩ := hc h0
    have key : ∀ i, i < n → ∃ x : Ir, rs[i]? = some x.r ∧ w.cell? ⟨g, off + i, none⟩ = some x.v ∧ x.r.length ≤ x.c ∧ x.c ≤ 9223372036854775807 ∧ Rvp w P x.A x.r.length x.r := by
      intro i hi
      have hri : rs[i]? = some rs[i] := List.getElem?_eq_getElem (by omega)
      obtain ⟨A', c', k0, k1, k2, k3⟩ := hc i _ hri
      exact ⟨⟨A', c', rs[i]⟩, hri, k0, k1, k2, k3⟩
    haveI : Inhabited Ir := ⟨⟨none, 0, []⟩⟩
    obtain ⟨V, hV⟩ := choose_lt (α := Ir) key
    refine ⟨(List.range n).map V, ?_, by simp, ⟨by simp, fun _ => ⟨g, off, rfl, hB g hg, fun j u hu => ?_⟩⟩, fun x hx => ?_⟩
    · refine List.ext_getElem? fun i => ?_
      rw [List.map_map, List.getElem?_map]
      by_cases hi : i < n
      · rw [List.getElem?_range hi, (hV i hi).1]
        rfl
      · rw [List.getElem?_eq_none (by simp; omega), List.getElem?_eq_none (by omega)]
        rfl
    · rw [List.map_map, List.getElem?_map] at hu
      have hj : j < n := by
        rcases Nat.lt_or_ge j n with h | h
        · exact h
        · rw [List.getElem?_eq_none (by simp; omega)] at hu; cases hu
      rw [List.getElem?_range hj] at hu
      injection hu with hu
      rw [(hV j hj).2.1, ← hu]
      rfl
    · simp only [List.mem_map, List.mem_range] at hx
      obtain ⟨i, hi, rfl⟩ := hx
      exact (hV i hi).2.2
/-- 'out = append(out, rows...)' of rows. -/
theorem wpList_appRw {ops : Array Oper} {rest : List Oper} {o : Oper} {a : Act} {Q : Exit → Act → World → Prop} (hgd : o.guard = none) (s x : Operand) {T : TypeId} (hT : Tryz.prog.underlying T = some (.slice 30))
    (ho : o.op = .call { callee := .builtin .append, args := #[s, x], argTypes := #[T, T] })
    (lo : Nat) (P : Nat → Prop) (v : Value) (rs : List (List Cell.Val)) (hs : a.eval s = v) (hF : RwOwn w lo P v rs)
    (A : Option Addr) (m c : Nat) (rs2 : List (List Cell.Val)) (P2 : Nat → Prop) (hx : a.eval x = .slice A m c) (hr : Rws w P2 A m rs2) (hP : ∀ g, P2 g → P g ∧ g < w.heap.size ∧ some g ≠ v.ownBlock) (hm : (rs.length + m) * 24 ≤ 140737488355328) (hlo : lo ≤ w.heap.size)
    (h : ∀ v' w', RwOwn w' lo P v' (rs ++ rs2) → Below lo w w' → wpList Tryz.prog ops Q rest (a.put o.dst v') w') : wpList Tryz.prog ops Q (o :: rest) a w := by
  obtain ⟨its, h1, h2, h3⟩ := hF
  have hil : its.length = rs.length := by rw [← h1]; simp
  obtain ⟨it2, j1, j2, j3, j4⟩ := hr.items (B := w.heap.size) (fun g hg => (hP g hg).2.1)
  obtain ⟨iC, hiC, hz0, hz1, hz2⟩ := info_parts infoRow
  have hone : ∀ u ∈ it2.map Ir.v, u.oneCell' = true := by
    intro u hu
    obtain ⟨x, _, rfl⟩ := List.mem_map.1 hu
    rfl
  refine wpList_plain hgd fun _ hK => wp_append_rd w s x _ ho lo 30 iC _ 1 24 hT hiC hz0 hz1 hz2 rfl (by omega) v its.length (its.map Ir.v) hs h2 _ _ m c _ hx j3 hone (by unfold maxLen; omega) (by omega) hlo fun v' w' k1 k2 k3 => hK _ _ (h v' w' ?_ ((Below.refl _ _).grown k2 hlo fun k hk => (h2.lt k hk).1))
  have hP2 : ∀ g, (P g ∧ g < w.heap.size ∧ some g ≠ v.ownBlock) → P g ∧ g < w'.heap.size ∧ some g ≠ v'.ownBlock := fun g hg => ⟨hg.1, Nat.lt_of_lt_of_le hg.2.1 k2.size, by
    rcases k3 with e | e
    · rw [e]; exact hg.2.2
    · rw [e]; intro q; injection q with q; have := hg.2.1; omega⟩
  have hC : ∀ g o, (P g ∧ g < w.heap.size ∧ some g ≠ v.ownBlock) → w'.cell? ⟨g, o, none⟩ = w.cell? ⟨g, o, none⟩ := fun g o hg => World.cell?_of_block (a := ⟨g, o, none⟩) (k2.block g hg.2.1 hg.2.2)
  refine ⟨its ++ it2, by rw [List.map_append, h1, j1], by rw [List.length_append, j2, List.map_append]; exact k1, fun y hy => ?_⟩
  rcases List.mem_append.1 hy with hy | hy
  · obtain ⟨g1, g2, g3⟩ := h3 y hy
    exact ⟨g1, g2, g3.keep hP2 hC⟩
  · obtain ⟨g1, g2, g3⟩ := j4 y hy
    exact ⟨g1, g2, g3.keep (fun g hg => hP2 g (hP g hg)) (fun g o hg => hC g o (hP g hg))⟩
end
end Go.Proofs.YticljmgcgjibpaaGreatDoor
