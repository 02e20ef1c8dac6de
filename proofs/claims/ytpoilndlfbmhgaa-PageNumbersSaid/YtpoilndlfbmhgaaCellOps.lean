/-
  slices.Delete and slices.Insert of a page's cells, one at a time. Conditions: the cells are a row of the call's own.
-/
import Derived.Test.YtpoilndlfbmhgaaKeep
import Derived.Lib.Overlaps
import Derived.Lib.AppendZerosOnto
namespace Go.Proofs.Ytpoilndlfbmhgaa
open Go.RowKit

section
variable {P : Program} (w : World)
/-- What stands in a row behind 'vs laid at o'. -/
def lay3 (cur : Array Value) (o : Nat) (vs : List Value) : Array Value := (cur.toList.take o ++ vs ++ cur.toList.drop (o + vs.length)).toArray
theorem lay3_size (cur : Array Value) (o : Nat) (vs : List Value) (h : o + vs.length ≤ cur.size) : (lay3 cur o vs).size = cur.size := by
  unfold lay3
  simp only [List.size_toArray, List.length_append, List.length_take, List.length_drop, Array.length_toList]
  omega
theorem lay3_list (cur : Array Value) (o : Nat) (vs : List Value) : (lay3 cur o vs).toList = cur.toList.take o ++ vs ++ cur.toList.drop (o + vs.length) := rfl
/-- 'copy' between rows (or within one), elements of any size. -/
theorem run_copy_rows (dT sT ty e : TypeId) (size : Nat) (g o dLen dCap : Nat) (a : Addr) (sLen sCap m : Nat) (cur : Array Value) (t : TypeId) (cs : List Value)
    (hu : P.underlying dT = some (.slice e)) (hs : (P.info? e).map (·.size) = some size) (hg : w.heap[g]? = some (.cells cur t (0, 0))) (hm : Nat.min sLen dLen = m) (hn : cs.length = m * size)
    (hsrc : ∀ j v, cs[j]? = some v → w.cell? (a.add j) = some v) (hfit : o + cs.length ≤ cur.size) (h1 : ∀ v ∈ cs, v.oneCell' = true) :
    (Builtin.copy_ #[dT, sT] ty #[.slice (some ⟨g, o, none⟩) dLen dCap, .slice (some a) sLen sCap]).run P w = .ok (goInt m) (w.setRow g (lay3 cur o cs)) := by
  have hl := run_loadCells_list (P := P) w a cs hsrc
  have hst := run_storeCells_at P g o t cs 0 cur w hg (by simpa using hfit) h1
  simp only [Nat.add_zero] at hst
  cases hq : P.info? e with
  | none => simp [hq] at hs
  | some i =>
    have hi : i.size = size := by simpa [hq] using hs
    rw [hn] at hl
    simp [Builtin.copy_, run_underlying hu, Builtin.lenOf, Builtin.firstCells, sizeOf, typeInfo, hq, hi, hm, hl, hst, lay3]
/-- 'append' where there is room, the source read first (it may lie in the same row). -/
theorem run_append_in (t ty e : TypeId) (i : TypeInfo) (size : Nat) (ht : P.underlying t = some (.slice e)) (hi : P.info? e = some i) (hsize : i.size = size)
    (g n cap : Nat) (cur : Array Value) (hg : w.heap[g]? = some (.cells cur e (0, 0))) (ad : Addr) (m c : Nat) (news : List Value) (hl : news.length = m * size)
    (hsrc : ∀ j u, news[j]? = some u → w.cell? (ad.add j) = some u) (h1 : ∀ u ∈ news, u.oneCell' = true) (hroom : n + m ≤ cap) (hfit : n * size + news.length ≤ cur.size) :
    (Builtin.append_ #[t, t] ty #[.slice (some ⟨g, 0, none⟩) n cap, .slice (some ad) m c]).run P w = .ok (.slice (some ⟨g, 0, none⟩) (n + m) cap) (w.setRow g (lay3 cur (n * size) news)) := by
  have hfc := run_firstCells_some (P := P) w i.size m ad m c news (by rw [hsize]; exact hl) hsrc
  have hst := run_storeCells_at P g (n * size) e news 0 cur w hg (by simpa using hfit) h1
  simp only [Nat.add_zero] at hst
  rw [hsize] at hfc
  simp [Builtin.append_, run_underlying ht, sizeOf, typeInfo, hi, hsize, Builtin.lenOf, hroom, hfc, Addr.add_lit, hst, lay3]
/-- 'clear' of a part of a row. -/
theorem run_clear_row (t e ty : TypeId) (z : Value) (ht : P.underlying t = some (.slice e)) (hv : ∀ w, (zeroValue e).run P w = .ok z w) (g o n c : Nat) (cur : Array Value) (t' : TypeId) (hg : w.heap[g]? = some (.cells cur t' (0, 0)))
    (zs : List Value) (hz : (Builtin.zeroCells z.cells n).toList = zs) (h1 : ∀ u ∈ zs, u.oneCell' = true) (hn : 0 < n) (hfit : o + zs.length ≤ cur.size) :
    (Builtin.clear_ #[t] ty #[.slice (some ⟨g, o, none⟩) n c]).run P w = .ok (.tuple #[]) (w.setRow g (lay3 cur o zs)) := by
  have hst := run_storeCells_at P g o t' zs 0 cur w hg (by simpa using hfit) h1
  simp only [Nat.add_zero] at hst
  obtain ⟨k, rfl⟩ : ∃ k, n = k + 1 := ⟨n - 1, by omega⟩
  simp [Builtin.clear_, run_underlying ht, hv, hz, hst, lay3]
end
theorem exec_copy {P : Program} {w w' : World} {o : Oper} {a : Act} {t t' : TypeId} {v y v' : Value} (s x : Operand) (ho : o.op = .call { callee := .builtin .copy, args := #[s, x], argTypes := #[t, t'] }) (hs : a.eval s = v) (hx : a.eval x = y)
    (hrun : (Builtin.copy_ #[t, t'] o.type #[v, y]).run P w = .ok v' w') : (execOp a.eval o).run P w = .ok (.value v') w' := by
  unfold execOp
  simp only [ho, resolve, invoke, builtin, Sem.run_bind, Sem.run_pure, Result.andThen_ok, List.map_toArray, List.map_cons, List.map_nil, hs, hx, hrun]
theorem wpList_run {P : Program} {w w' : World} {ops : Array Oper} {rest : List Oper} {o : Oper} {a : Act} {Q : Exit → Act → World → Prop} {v' : Value} (hgd : o.guard = none) (hr : (execOp a.eval o).run P w = .ok (.value v') w') (h : wpList P ops Q rest (a.put o.dst v') w') : wpList P ops Q (o :: rest) a w :=
  wpList_plain hgd fun _ hK => by
    unfold Oper.wp
    rw [hr]
    exact hK _ _ h
/-- The row of a list of cells. -/
structure CeRow (w : World) (lo k : Nat) (g n cap : Nat) (cs : List Pag.Ce) (bs : List (Value × Value)) (cur : Array Value) : Prop where
  len : n = cs.length
  bl : bs.length = cs.length
  big : lo ≤ g
  heap : w.heap[g]? = some (.cells cur 41 (0, 0))
  nc : n ≤ cap
  cm : cap ≤ maxLen
  size : cur.size = cap * 2
  take : cur.toList.take (n * 2) = prs bs
  body : ∀ (i : Nat) (c : Pag.Ce) (b : Value × Value), cs[i]? = some c → bs[i]? = some b → Bo w lo k b.1 c.1 ∧ Bo w lo k b.2 c.2
theorem CeOwn.row {w : World} {lo k n c : Nat} {A : Option Addr} {cs : List Pag.Ce} (h : CeOwn w lo k (.slice A n c) cs) (hn : n = cs.length) (h0 : 0 < n) : ∃ g bs cur, A = some ⟨g, 0, none⟩ ∧ CeRow w lo k g n c cs bs cur := by
  subst hn
  obtain ⟨bs, h1, h2, h3⟩ := h
  rcases h2.2 with ⟨e, e0⟩ | ⟨g, cap, cur, e, hb, hg, hnc, hcm, hcs, ht⟩
  · omega
  · injection e with e1 e2 e3
    subst e1 e3
    exact ⟨g, bs, cur, rfl, rfl, h1, hb, hg, hnc, hcm, hcs, ht, h3⟩
theorem Bo.row {w : World} {lo k g : Nat} {b : Value} {l : List UInt8} {cur cur' : Array Value} (h : Bo w lo k b l) (hg : w.heap[g]? = some (.cells cur 41 (0, 0))) (hlo : lo ≤ g) : Bo (w.setRow g cur') lo k b l := by
  rcases h with ⟨h, hm⟩ | ⟨h, hk⟩
  · refine .inl ⟨own_agree h fun j hj => setRow_other w g j cur' fun e => ?_, hm⟩
    exact own_blk_ne h (show Blk w g 41 cur from hg) (by decide) (by rw [hj, e])
  · exact .inr ⟨h.keep fun p hp => cell_setRow_other w g cur' p (by omega), hk⟩
theorem Bo.drew {w : World} {lo k : Nat} {b : Value} {l : List UInt8} (h : Bo w lo k b l) : Bo w.drew lo k b l := h
theorem CeRow.cell {w : World} {lo k g n cap : Nat} {cs : List Pag.Ce} {bs : List (Value × Value)} {cur : Array Value} (h : CeRow w lo k g n cap cs bs cur) {j : Nat} {u : Value} (hj : (prs bs)[j]? = some u) : w.cell? ⟨g, j, none⟩ = some u := by
  rw [cell_of_row w g j cur _ (0, 0) h.heap, ← Array.getElem?_toList]
  rw [← h.take, List.getElem?_take] at hj
  split at hj
  · exact hj
  · cases hj
theorem CeRow.one {w : World} {lo k g n cap : Nat} {cs : List Pag.Ce} {bs : List (Value × Value)} {cur : Array Value} (h : CeRow w lo k g n cap cs bs cur) (hlo : lo ≤ w.heap.size) : ∀ u ∈ prs bs, u.oneCell' = true := by
  have hb : ∀ (b : Value × Value), b ∈ bs → b.1.oneCell' = true ∧ b.2.oneCell' = true := fun b hb => by
    obtain ⟨i, hi, rfl⟩ := List.mem_iff_getElem.1 hb
    have hbl := h.bl
    obtain ⟨g1, g2⟩ := h.body i _ _ (List.getElem?_eq_getElem (by omega)) (List.getElem?_eq_getElem hi)
    obtain ⟨A1, c1, e1, _⟩ := g1.bd hlo
    obtain ⟨A2, c2, e2, _⟩ := g2.bd hlo
    rw [e1, e2]
    exact ⟨rfl, rfl⟩
  clear h
  induction bs with
  | nil => intro u hu; cases hu
  | cons b r ih =>
    intro u hu
    simp only [prs, List.mem_cons] at hu
    have h2 := hb b List.mem_cons_self
    rcases hu with rfl | rfl | hu
    · exact h2.1
    · exact h2.2
    · exact ih (fun b hb' => hb b (List.mem_cons_of_mem _ hb')) u hu
/-- A list of cells out of a row that was turned. -/
theorem CeRow.own {w w' : World} {lo k g n cap n' : Nat} {cs ds : List Pag.Ce} {bs es : List (Value × Value)} {cur cur' : Array Value} (h : CeRow w lo k g n cap cs bs cur) (hh : w'.heap[g]? = some (.cells cur' 41 (0, 0))) (hk : ∀ b l, Bo w lo k b l → Bo w' lo k b l)
    (hn : n' = ds.length) (hel : es.length = ds.length) (hnc : n' ≤ cap) (hs : cur'.size = cap * 2) (ht : cur'.toList.take (n' * 2) = prs es)
    (hb : ∀ (i : Nat) (c : Pag.Ce) (b : Value × Value), ds[i]? = some c → es[i]? = some b → Bo w lo k b.1 c.1 ∧ Bo w lo k b.2 c.2) : CeOwn w' lo k (.slice (some ⟨g, 0, none⟩) n' cap) ds := by
  subst hn
  exact ⟨es, hel, ⟨by rw [prs_len, hel], .inr ⟨g, cap, cur', rfl, h.big, hh, hnc, h.cm, hs, ht⟩⟩, fun i c b hc hb' => ⟨hk _ _ (hb i c b hc hb').1, hk _ _ (hb i c b hc hb').2⟩⟩
end Go.Proofs.Ytpoilndlfbmhgaa
