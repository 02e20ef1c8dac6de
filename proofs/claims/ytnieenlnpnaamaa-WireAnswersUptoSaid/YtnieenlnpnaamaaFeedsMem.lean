/-
  Words on memory for the law WireFeeds: a list of frames whose bodies are written over; what stays of a reader. Conditions: none.
-/
import Derived.Test.YtnieenlnpnaamaaCopy
import Derived.Test.YtnieenlnpnaamaaRefCut
namespace Go.Proofs.Ytnieenlnpnaamaa
open Go.RowKit

/-- All but the blocks from lo on and ahead of hi is as it was. -/
structure Out (lo hi : Nat) (w w' : World) : Prop where
  os : w'.os = w.os
  tape : w'.tape = w.tape
  output : w'.output = w.output
  size : w'.heap.size = w.heap.size
  block : ∀ k, ¬ (lo ≤ k ∧ k < hi) → w'.heap[k]? = w.heap[k]?
theorem Out.refl (lo hi : Nat) (w : World) : Out lo hi w w := ⟨rfl, rfl, rfl, rfl, fun _ _ => rfl⟩
theorem Out.put {lo hi : Nat} {w w' : World} (h : Out lo hi w w') {p : Addr} (h1 : lo ≤ p.block) (h2 : p.block < hi) (u : Value) : Out lo hi w (w'.setCell p u) :=
  ⟨h.os, h.tape, h.output, by simpa [World.setCell] using h.size, fun k hk => (Below.heap_setCell w' p u k (fun e => hk ⟨e ▸ h1, e ▸ h2⟩)).trans (h.block k hk)⟩
theorem Out.below {lo hi B : Nat} {w w' : World} (h : Out lo hi w w') (hB : B ≤ lo) : Below B w w' := ⟨h.os, h.tape, h.output, by rw [h.size]; exact Nat.le_refl _, fun k hk => h.block k (by omega)⟩
theorem Out.own {lo hi : Nat} {w w' : World} (h : Out lo hi w w') {base : Nat} {e : TypeId} {size : Nat} {v : Value} {n : Nat} {xs : List Value} (ho : w.ownsRow base e size v n xs) (hv : ∀ k, v.ownBlock = some k → ¬ (lo ≤ k ∧ k < hi)) : w'.ownsRow base e size v n xs :=
  own_agree ho fun k hk => h.block k (hv k hk)

/-- A slice of n cells of the call's own in a block of type t from lo on, ahead of hi: what is in them is of no concern. -/
def Spot (w : World) (lo hi : Nat) (t : TypeId) (b : Value) (n : Nat) : Prop :=
  ∃ A c, b = .slice A n c ∧ (0 < n → ∃ g cs, A = some ⟨g, 0, none⟩ ∧ lo ≤ g ∧ g < hi ∧ Blk w g t cs ∧ n ≤ cs.size)
theorem Spot.of_own {w : World} {lo base hi : Nat} {t : TypeId} {b : Value} {n : Nat} {xs : List Value} (h : w.ownsRow base t 1 b n xs) (hl : lo ≤ base) (hh : ∀ k, b.ownBlock = some k → k < hi) : Spot w lo hi t b n := by
  obtain ⟨A, c, rfl⟩ := own_sl h
  refine ⟨A, c, rfl, fun hn => ?_⟩
  rcases h.2 with ⟨_, h0⟩ | ⟨g, cap, cur, hv, hb, hg, h1, h2, h3, _⟩
  · omega
  · injection hv with e1 _ e3
    subst e1 e3
    exact ⟨g, cur, rfl, by omega, hh g rfl, hg, by rw [Nat.mul_one] at h3; omega⟩
theorem Spot.of_in {w : World} {g base cap : Nat} {t : TypeId} {n : Nat} {xs : List Value} (h : w.ownsRow base t 1 (.slice (some ⟨g, 0, none⟩) n cap) n xs) : Spot w g (g + 1) t (.slice (some ⟨g, 0, none⟩) n cap) n := by
  refine ⟨_, _, rfl, fun hn => ?_⟩
  rcases h.2 with ⟨h0, _⟩ | ⟨g', cap', cur, hv, hb, hg, h1, h2, h3, _⟩
  · cases h0
  · injection hv with e1 _ e3
    injection e1 with e1
    injection e1 with e1
    subst e1 e3
    exact ⟨g, cur, rfl, Nat.le_refl _, Nat.lt_succ_self _, hg, by rw [Nat.mul_one] at h3; omega⟩
theorem Spot.put {w : World} {lo hi : Nat} {t : TypeId} {b : Value} {n : Nat} (h : Spot w lo hi t b n) (g i : Nat) (u : Value) : Spot (w.setCell ⟨g, i, none⟩ u) lo hi t b n := by
  obtain ⟨A, c, rfl, h1⟩ := h
  refine ⟨A, c, rfl, fun hn => ?_⟩
  obtain ⟨g', cs, rfl, a1, a2, a3, a4⟩ := h1 hn
  by_cases hg : g' = g
  · subst hg
    exact ⟨g', _, rfl, a1, a2, a3.put i u, by simpa using a4⟩
  · exact ⟨g', cs, rfl, a1, a2, a3.far (by exact hg) u, a4⟩
theorem Spot.at {w : World} {lo hi : Nat} {t : TypeId} {b : Value} {n k : Nat} (h : Spot w lo hi t b n) (hk : k < n) : ∃ g c u, b = .slice (some ⟨g, 0, none⟩) n c ∧ lo ≤ g ∧ g < hi ∧ w.cell? ⟨g, k, none⟩ = some u ∧ w.frozen? ⟨g, k, none⟩ = false := by
  obtain ⟨A, c, rfl, h1⟩ := h
  obtain ⟨g, cs, rfl, a1, a2, a3, a4⟩ := h1 (by omega)
  exact ⟨g, c, cs[k]'(by omega), rfl, a1, a2, by rw [a3.cell k]; exact Array.getElem?_eq_getElem (by omega), a3.frozen k⟩

/-- The row of frames at block gl, whose bodies may be written over. -/
def Lent (w : World) (lo hi gl : Nat) (cs : Array Value) (ns : List Nat) : Prop :=
  Blk w gl 42 cs ∧ ∀ i n, ns[i]? = some n → ∃ b, cs[2 * i + 1]? = some b ∧ Spot w lo hi 5 b n
theorem Lent.put {w : World} {lo hi gl : Nat} {cs : Array Value} {ns : List Nat} (h : Lent w lo hi gl cs ns) {g i : Nat} {u : Value} (hg : gl ≠ g) : Lent (w.setCell ⟨g, i, none⟩ u) lo hi gl cs ns :=
  ⟨h.1.far (by exact hg) u, fun j n hn => by obtain ⟨b, h1, h2⟩ := h.2 j n hn; exact ⟨b, h1, h2.put g i u⟩⟩
theorem Lent.at {w : World} {lo hi gl : Nat} {cs : Array Value} {ns : List Nat} {i n : Nat} (h : Lent w lo hi gl cs ns) (hi' : ns[i]? = some n) : ∃ b, w.cell? ⟨gl, 2 * i + 1, none⟩ = some b ∧ Spot w lo hi 5 b n := by
  obtain ⟨b, h1, h2⟩ := h.2 i n hi'
  exact ⟨b, by rw [h.1.cell]; exact h1, h2⟩
/-- A frame's row and a body's block are two. -/
theorem Lent.ne {w : World} {lo hi gl : Nat} {cs : Array Value} {ns : List Nat} (h : Lent w lo hi gl cs ns) {b : Value} {n k g c : Nat} (hs : Spot w lo hi 5 b n) (hk : k < n) (hb : b = .slice (some ⟨g, 0, none⟩) n c) : gl ≠ g := by
  rintro rfl
  obtain ⟨A, c', rfl, h1⟩ := hs
  obtain ⟨g', cs', rfl, a1, a2, a3, a4⟩ := h1 (by omega)
  injection hb with e1
  injection e1 with e1
  injection e1 with e1
  subst e1
  have := a3.symm.trans h.1
  injection this with this
  injection this with e1 e2
  exact absurd e2 (by decide)
theorem FrOwn.lent {w : World} {lo hi : Nat} {A : Option Addr} {n cap : Nat} {fs : List Fr} (h : FrOwn w lo hi (.slice A n cap) fs) (hn : 0 < n) : ∃ gl cs, A = some ⟨gl, 0, none⟩ ∧ lo ≤ gl ∧ gl < hi ∧ Lent w lo hi gl cs (fs.map fun f => f.2.length) := by
  obtain ⟨bs, h1, h2, h3, h4⟩ := h
  obtain ⟨A', c', hv⟩ := own_sl h2
  injection hv with e1 e2 e3
  subst e1 e2 e3
  rcases h2.2 with ⟨_, h0⟩ | ⟨g, cap', cur, hv, hb, hg, g1, g2, g3, g4⟩
  · omega
  · injection hv with e1 _ e3
    subst e1 e3
    have hcell := fun k hk => h2.cellAt k hk
    refine ⟨g, cur, rfl, hb, h3 g rfl, hg, fun i m hm => ?_⟩
    have hi : i < fs.length := by
      rcases Nat.lt_or_ge i fs.length with h | h
      · exact h
      · rw [List.getElem?_eq_none (by simpa using h)] at hm; cases hm
    have hf : fs[i]? = some fs[i] := List.getElem?_eq_getElem hi
    have hbi : bs[i]? = some (bs[i]'(by omega)) := List.getElem?_eq_getElem (by omega)
    obtain ⟨_, c2⟩ := frCells_at fs bs i _ _ hf hbi
    obtain ⟨o1, o2⟩ := h4 i _ _ hf hbi
    simp only [List.getElem?_map, hf, Option.map_some, Option.some.injEq] at hm
    subst hm
    refine ⟨bs[i]'(by omega), ?_, Spot.of_own o1 (Nat.le_refl _) o2⟩
    have hc := (show Blk w g 42 cur from hg).cell (2 * i + 1)
    rw [← hc]
    have := hcell (2 * i + 1) (by omega)
    rw [this]
    exact c2

/-- The bytes at A are none of v's row. -/
def Apart (A : Option Addr) (v : Value) : Prop := ∀ a, A = some a → v.ownBlock ≠ some a.block
theorem Rb.turned {w w' : World} {R lo n B : Nat} {v : Value} {A : Option Addr} {l l0 : List UInt8} {b : Bool} (h : Rb w B A n l) (hB : B ≤ w.heap.size) (hR : Rdr w R lo v l0 b) (ht : Turned w w' R v) (ha : Apart A v) : Rb w' B A n l := by
  refine ⟨h.1, fun hn => ?_⟩
  obtain ⟨g, off, rfl, hg, hc⟩ := h.2 hn
  have hgR : g ≠ R := by
    rintro rfl
    obtain ⟨b', off', c, e, _, _, hcc⟩ := h.at hn
    injection e with e
    injection e with e1 e2
    subst e1 e2
    rw [hR.1.cell] at hcc
    have : off + 0 < 3 := by
      rcases Nat.lt_or_ge (off + 0) 3 with h | h
      · exact h
      · rw [Array.getElem?_eq_none (by simpa using h)] at hcc; cases hcc
    rcases (show off = 0 ∨ off = 1 ∨ off = 2 by omega) with rfl | rfl | rfl
    · simp at hcc
    · obtain ⟨A', c', rfl⟩ := own_sl hR.2
      simp at hcc
    · simp at hcc
  refine ⟨g, off, rfl, hg, fun j u hu => ?_⟩
  have hblk := ht.2.2.2.2 g (by omega) hgR (ha _ rfl)
  rw [← hc j u hu]
  simp only [World.cell?, hblk]
theorem Rdr.out {w w' : World} {R lo lo' hi' : Nat} {v : Value} {l : List UInt8} {b : Bool} (h : Rdr w R lo v l b) (ho : Out lo' hi' w w') (hR : ¬ (lo' ≤ R ∧ R < hi')) (hv : ∀ k, v.ownBlock = some k → ¬ (lo' ≤ k ∧ k < hi')) : Rdr w' R lo v l b :=
  ⟨(ho.block R hR).trans h.1, ho.own h.2 hv⟩
theorem Rb.out {w w' : World} {B lo hi n : Nat} {A : Option Addr} {l : List UInt8} (h : Rb w B A n l) (ho : Out lo hi w w') (ha : ∀ a, A = some a → ¬ (lo ≤ a.block ∧ a.block < hi)) : Rb w' B A n l := by
  refine ⟨h.1, fun hn => ?_⟩
  obtain ⟨g, off, rfl, hg, hc⟩ := h.2 hn
  refine ⟨g, off, rfl, hg, fun j u hu => ?_⟩
  rw [← hc j u hu]
  simp only [World.cell?, ho.block g (ha _ rfl)]
theorem Rdr.drewN {w : World} {R lo : Nat} {v : Value} {l : List UInt8} {b : Bool} (h : Rdr w R lo v l b) (q : Nat) : Rdr (w.drewN q) R lo v l b := ⟨h.1, own_agree h.2 fun _ _ => rfl⟩
/-- The rows of frames at A, if there is one. -/
def LentN (w : World) (lo hi : Nat) (A : Option Addr) (n : Nat) (ns : List Nat) : Prop := ns.length = n ∧ (0 < n → ∃ gl cs, A = some ⟨gl, 0, none⟩ ∧ lo ≤ gl ∧ gl < hi ∧ Lent w lo hi gl cs ns)
theorem FrOwn.lentN {w : World} {lo hi : Nat} {A : Option Addr} {n cap : Nat} {fs : List Fr} (h : FrOwn w lo hi (.slice A n cap) fs) : LentN w lo hi A n (fs.map fun f => f.2.length) := by
  refine ⟨?_, fun hn => h.lent hn⟩
  obtain ⟨bs, h1, h2, _⟩ := h
  obtain ⟨A', c', hv⟩ := own_sl h2
  injection hv with e1 e2 e3
  simp [e2]
namespace Wire
theorem cut_broken : ∀ (n : Nat) (x : List UInt8), x.length ≤ n → (cut x).2.2 = true → (cut x).2.1 = [] := by
  intro n
  induction n with
  | zero =>
    intro x hx h
    have : x = [] := List.eq_nil_of_length_eq_zero (by omega)
    subst this
    simp [cut, cutF] at h
  | succ n ih =>
    intro x hx h
    rcases hf : firstN x with _ | m
    · rw [cut_none hf]
    · cases m with
      | zero => rw [cut_wait hf] at h; cases h
      | succ m =>
        obtain ⟨e1, e2, e3, e4, e5⟩ := firstN_some x m hf
        rw [cut_more hf] at h ⊢
        exact ih _ (by rw [List.length_drop]; omega) h
end Wire
end Go.Proofs.Ytnieenlnpnaamaa
