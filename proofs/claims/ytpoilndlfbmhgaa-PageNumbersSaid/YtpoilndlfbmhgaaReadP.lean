/-
  The walk of page.read: the cells that the bytes seem to hold. Conditions: the bytes read as a list.
-/
import Derived.Test.YtpoilndlfbmhgaaClone
import Derived.Test.YtpoilndlfbmhgaaTold
import Derived.Laws.ResultCell
namespace Go.Proofs.Ytpoilndlfbmhgaa
open Go.RowKit

namespace Pag
/-- What read reads. -/
def readB (b : List UInt8) : Option Pg := if b.length ≠ 4080 then none else (candC b).map fun cs => ⟨candK b, candN b, cs⟩
/-- k of the N cells have been read: cs; the rest begins at a. -/
def Pre (b : List UInt8) (N k a : Nat) (cs : List Ce) : Prop := candC b = (cellsAt b (N - k) a).map (cs ++ ·)
theorem Pre.start (b : List UInt8) : Pre b (leAt b 2 2) 0 (8 + 2 * leAt b 2 2) [] := by
  unfold Pre candC
  show cellsAt b (leAt b 2 2) (8 + 2 * leAt b 2 2) = _
  rw [Nat.sub_zero]
  cases cellsAt b (leAt b 2 2) (8 + 2 * leAt b 2 2) <;> simp
theorem Pre.stop1 {b : List UInt8} {N k a : Nat} {cs : List Ce} (h : Pre b N k a cs) (hk : k < N) (ha : b.length < a + 4) : candC b = none := by
  unfold Pre at h
  rw [h, show N - k = (N - k - 1) + 1 by omega, cellsAt, if_pos ha]
  rfl
theorem Pre.stop2 {b : List UInt8} {N k a : Nat} {cs : List Ce} (h : Pre b N k a cs) (hk : k < N) (ha : ¬ b.length < a + 4) (hs : b.length < a + 4 + leAt b a 2 + leAt b (a + 2) 2) : candC b = none := by
  unfold Pre at h
  unfold leAt at hs
  rw [h, show N - k = (N - k - 1) + 1 by omega, cellsAt, if_neg ha]
  simp only
  rw [if_pos hs]
  rfl
theorem Pre.next {b : List UInt8} {N k a x y : Nat} {cs : List Ce} (h : Pre b N k a cs) (hk : k < N) (hx : x = leAt b a 2) (hy : y = leAt b (a + 2) 2) (ha : ¬ b.length < a + 4) (hs : ¬ b.length < a + 4 + x + y) : Pre b N (k + 1) (a + 4 + x + y) (cs ++ [((b.drop (a + 4)).take x, (b.drop (a + 4 + x)).take y)]) := by
  subst hx hy
  unfold Pre at h ⊢
  unfold leAt at hs ⊢
  rw [h, show N - k = (N - (k + 1)) + 1 by omega, cellsAt, if_neg ha]
  simp only
  rw [if_neg hs, Option.map_map]
  congr 1
  funext r
  simp
theorem Pre.fin {b : List UInt8} {N a : Nat} {cs : List Ce} (h : Pre b N N a cs) : candC b = some cs := by
  unfold Pre at h
  rw [h, Nat.sub_self]
  simp [cellsAt]
theorem readB_none {b : List UInt8} (h : candC b = none) : readB b = none := by
  unfold readB
  rw [h]
  split <;> rfl
theorem readB_some {b : List UInt8} {cs : List Ce} (h : candC b = some cs) (hl : b.length = 4080) : readB b = some ⟨candK b, candN b, cs⟩ := by
  unfold readB
  rw [h, if_neg (by omega)]
  rfl
end Pag
/-- A page whose cells are the call's own. -/
def PgOwn (w : World) (lo : Nat) (v : Value) (p : Pag.Pg) : Prop :=
  ∃ A c, v = .agg #[.int .u8 (p.kind.toNat : Int), .int .i64 p.next, .slice A p.cells.length c] ∧ CeOwn w lo 0 (.slice A p.cells.length c) p.cells
/-- The answer of read. -/
def RdP (w : World) (r : Option Pag.Pg) (e : Ending) (w' : World) : Prop :=
  Below w.heap.size w w' ∧ match r with
  | none => e = .returned (.tuple #[.agg #[.int .u8 0, .int .i64 0, .slice none 0 0], .bool false])
  | some p => ∃ v, e = .returned (.tuple #[v, .bool true]) ∧ PgOwn w' w.heap.size v p
theorem RdP.none {w w' : World} {r : Option Pag.Pg} (h : r = Option.none) (hb : Below w.heap.size w w') : RdP w r (.returned (.tuple #[.agg #[.int .u8 0, .int .i64 0, .slice Option.none 0 0], .bool false])) w' := by
  subst h
  exact ⟨hb, rfl⟩
theorem blk3 {w : World} {g : Nat} {t : TypeId} {a b c : Value} (h : Blk w g t #[a, b, c]) (x y z : Value) : Blk (((w.setCell ⟨g, 0, none⟩ x).setCell ⟨g, 1, none⟩ y).setCell ⟨g, 2, none⟩ z) g t #[x, y, z] := by
  simpa using ((h.put 0 x).put 1 y).put 2 z
theorem below3 {B g : Nat} {w0 w : World} (h : Below B w0 w) (hg : B ≤ g) (x y z : Value) : Below B w0 (((w.setCell ⟨g, 0, none⟩ x).setCell ⟨g, 1, none⟩ y).setCell ⟨g, 2, none⟩ z) :=
  ((h.setCell (p := ⟨g, 0, none⟩) hg x).setCell (p := ⟨g, 1, none⟩) hg y).setCell (p := ⟨g, 2, none⟩) hg z
theorem results_page {fn : Func} {p u : Tmp} {tmps : Array Value} {w : World} {g : Nat} {k nx c v : Value} (h : fn.results = #[.cell p 25, .tmp u]) (hk : Blk w g 25 #[k, nx, c]) (hp : tmps.getD p undef = .pointer (some ⟨g, 0, none⟩)) (hu : tmps.getD u undef = v) :
    (results fn tmps).run Try.prog w = .ok (.tuple #[.agg #[k, nx, c], v]) w := by
  have r0 := hk.cell 0
  have r1 := hk.cell 1
  have r2 := hk.cell 2
  simp at r0 r1 r2
  rw [results_cell_tmp h, hp, hu]
  simp [go_sem, r0, r1, r2]
theorem u16_some (A : Option Addr) (n c : Nat) (l : List UInt8) (a : Nat) (w : World) (hl : Rb w w.heap.size A n l) (hn : n ≤ maxLen) :
    Calls Try.prog 55 #[.slice A n c, .int .i64 (a : Int)] w fun e w' => ∃ (x : Nat) (t : Bool), x < 65536 ∧ e = .returned (.tuple #[.int .u16 (x : Int), .bool t]) ∧ w = w' := by
  by_cases h : a + 2 ≤ n
  · refine (u16_yes A n c l a w hl h hn).mono ?_
    rintro e w' ⟨rfl, rfl⟩
    exact ⟨_, _, leAt_lt l a 2, rfl, rfl⟩
  · refine (u16_no A n c a w (by omega) hn).mono ?_
    rintro e w' ⟨rfl, rfl⟩
    exact ⟨0, false, by omega, rfl, rfl⟩
/-- A store into the page's own box. -/
theorem CeOwn.box {w : World} {lo k g : Nat} {v : Value} {cs : List Pag.Ce} {xs : Array Value} (h : CeOwn w lo k v cs) (hb : Blk w g 25 xs) (hg : lo ≤ g) (i : Nat) (u : Value) : CeOwn (w.setCell ⟨g, i, none⟩ u) lo k v cs := by
  have far : ∀ {e : TypeId} {size n : Nat} {v : Value} {ys : List Value}, w.ownsRow lo e size v n ys → e ≠ 25 → (w.setCell ⟨g, i, none⟩ u).ownsRow lo e size v n ys := fun h2 hne =>
    own_agree h2 fun k hk => Below.heap_setCell _ _ _ _ fun e => own_blk_ne h2 hb hne (by rw [hk, e])
  have bo : ∀ {b : Value} {l : List UInt8}, Bo w lo k b l → Bo (w.setCell ⟨g, i, none⟩ u) lo k b l := fun h2 => by
    rcases h2 with ⟨h2, hm⟩ | ⟨h2, hk⟩
    · exact .inl ⟨far h2 (by decide), hm⟩
    · exact .inr ⟨h2.keep fun p hp => ((Below.refl g w).setCell (p := ⟨g, i, none⟩) (Nat.le_refl _) u).cell (by omega), hk⟩
  obtain ⟨bs, h1, h2, h3⟩ := h
  exact ⟨bs, h1, far h2 (by decide), fun i c b hc hb' => ⟨bo (h3 i c b hc hb').1, bo (h3 i c b hc hb').2⟩⟩
/-- The parts of a read's round. -/
theorem Rb.at2 {w : World} {B : Nat} {A : Option Addr} {n : Nat} {l : List UInt8} {i m cap : Nat} (h : Rb w B A n l) (hm : i + m ≤ n) (hc : n ≤ cap) : Rb w B (if cap = i then A else A.map (·.add i)) m ((l.drop i).take m) := by
  have h1 := (h.take hm).cut (k := i) (cap := cap) (by omega) (by omega)
  rwa [Nat.add_sub_cancel_left, List.drop_take, Nat.add_sub_cancel_left] at h1
/-- 'b[i:i+m]'. -/
theorem run_sliceB (w : World) (A : Option Addr) (n c i m : Nat) (lo hi : Int) (hlo : lo = i) (hhi : hi = (i + m : Nat)) (h : i + m ≤ c) :
    (Instr.sliceAt 26 (.slice A n c) (some (.int .i64 lo)) (some (.int .i64 hi)) none).run Try.prog w = .ok (.slice (if c = i then A else A.map (·.add i)) m (c - i)) w := by
  subst hlo hhi
  have ht : Try.prog.underlying 26 = some (.slice (Try.prog.elem 26)) := by kernel_rfl
  have hs : (sizeOf (Try.prog.elem 26)).run Try.prog w = .ok 1 w := by kernel_rfl
  rw [run_sliceAt_slice (P := Try.prog) w _ _ _ _ _ ht, run_slice_lh (P := Try.prog) w _ _ _ _ ht _ _ _ _ (by omega) (by omega) (by omega), hs]
  simp only [Result.andThen, sliced, Nat.mul_one]
  rw [Int.toNat_natCast, Int.toNat_natCast, Nat.add_sub_cancel_left]
/-- 'out = append(out, cell)', the cell laid in a block of its own. -/
theorem wpList_appCg {ops : Array Oper} {rest : List Oper} {o : Oper} {a : Act} {Q : Exit → Act → World → Prop} {w : World} (hgd : o.guard = none) (s x : Operand)
    (ho : o.op = .call { callee := .builtin .append, args := #[s, x], argTypes := #[23, 23] })
    (lo k : Nat) (v : Value) (cs : List Pag.Ce) (hs : a.eval s = v) (hF : CeOwn w lo k v cs)
    (g c : Nat) (f : Pag.Ce) (b1 b2 : Value) (hb1 : Bo w lo k b1 f.1) (hb2 : Bo w lo k b2 f.2) (hx : a.eval x = .slice (some ⟨g, 0, none⟩) 1 c) (hg : Blk w g 41 #[b1, b2]) (hm : (cs.length + 1) * 48 ≤ 140737488355328) (hlo : lo ≤ w.heap.size)
    (h : ∀ v' w', CeOwn w' lo k v' (cs ++ [f]) → Below lo w w' → (∀ (g : Nat) (e : TypeId) (xs : Array Value), Blk w g e xs → e ≠ 41 → Blk w' g e xs) → wpList Try.prog ops Q rest (a.put o.dst v') w') : wpList Try.prog ops Q (o :: rest) a w := by
  obtain ⟨iC, hiC, hz0, hz1, hz2⟩ := info_parts infoC
  obtain ⟨bs, hbl, hrow, hbod⟩ := hF
  have o1 : b1.oneCell' = true := by obtain ⟨A, c, e, _⟩ := hb1.bd hlo; rw [e]; rfl
  have o2 : b2.oneCell' = true := by obtain ⟨A, c, e, _⟩ := hb2.bd hlo; rw [e]; rfl
  have hr : Rd w (g + 1) 2 (some ⟨g, 0, none⟩) 1 [b1, b2] := by
    refine ⟨rfl, fun _ => ⟨g, 0, rfl, by omega, fun j u hu => ?_⟩⟩
    have := hg.cell j
    rw [Nat.zero_add, this]
    simpa using hu
  refine wpList_append_rd w hgd s x _ ho lo 41 iC _ 2 48 Try.underlying23 hiC hz0 hz1 hz2 rfl (by omega) v cs.length (prs bs) hs hrow _ _ 1 c _ hx hr ?_ (by unfold maxLen; omega) hm hlo ?_
  · intro u hu
    simp at hu
    rcases hu with rfl | rfl
    · exact o1
    · exact o2
  · intro v3 w3 hown3 hb3 hg3
    have keep : ∀ (b : Value) (l : List UInt8), Bo w lo k b l → Bo w3 lo k b l := fun b l hb => hb.grown hrow hg3 hb3
    refine h v3 w3 ⟨bs ++ [(b1, b2)], by simp [hbl], by rw [prs_append, List.length_append]; exact hown3, fun i f' b' hf hb => ?_⟩ hb3 (fun g e xs hh hne => hh.grown hg3 (fun e' => own_blk_ne hrow hh hne.symm e'.symm))
    by_cases hi : i < cs.length
    · rw [List.getElem?_append_left hi] at hf
      rw [List.getElem?_append_left (by omega)] at hb
      obtain ⟨g1, g2⟩ := hbod i f' b' hf hb
      exact ⟨keep _ _ g1, keep _ _ g2⟩
    · have hi' : i = cs.length := by
        rcases Nat.lt_or_ge i (cs ++ [f]).length with h | h
        · simp at h; omega
        · rw [List.getElem?_eq_none h] at hf; cases hf
      subst hi'
      have e1 : (cs ++ [f])[cs.length]? = some f := by simp
      have e2 : (bs ++ [(b1, b2)])[cs.length]? = some (b1, b2) := by rw [← hbl]; simp
      rw [e1] at hf
      rw [e2] at hb
      injection hf with hf
      injection hb with hb
      subst hf hb
      exact ⟨keep _ _ hb1, keep _ _ hb2⟩
end Go.Proofs.Ytpoilndlfbmhgaa
