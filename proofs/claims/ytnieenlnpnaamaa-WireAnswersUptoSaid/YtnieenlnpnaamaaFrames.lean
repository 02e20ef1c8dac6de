/-
  Words on memory: a list of frames of the call's own: a row of kinds and bodies, each body a row of its own. Conditions: none.
-/
import Derived.Test.YtnieenlnpnaamaaWire
namespace Go.Proofs.Ytnieenlnpnaamaa
open Go.RowKit

theorem Rd.litN (w : World) (t : TypeId) (size n : Nat) (xs : List Value) (h : xs.length = n * size) : Rd (w.alloc (.cells xs.toArray t)) (w.heap.size + 1) size (some ⟨w.heap.size, 0, none⟩) n xs := by
  refine ⟨h, fun _ => ⟨w.heap.size, 0, rfl, by omega, fun j u hu => ?_⟩⟩
  have := (Blk.new w t xs.toArray).cell j
  rw [Nat.zero_add, this]
  simpa using hu

theorem Rd.litNAt (w : World) (t : TypeId) (size n : Nat) (xs : List Value) (h : xs.length = n * size) (g : Nat) (hg : g = w.heap.size) : Rd (w.alloc (.cells xs.toArray t)) (w.heap.size + 1) size (some ⟨g, 0, none⟩) n xs := by
  subst hg
  exact Rd.litN w t size n xs h
abbrev Fr := UInt8 × List UInt8
/-- The cells of frames, their bodies being these values. -/
def frCells : List Fr → List Value → List Value
  | f :: fs, b :: bs => .int .u8 (f.1.toNat : Int) :: b :: frCells fs bs
  | _, _ => []
theorem frCells_len : ∀ (fs : List Fr) (bs : List Value), bs.length = fs.length → (frCells fs bs).length = fs.length * 2 := by
  intro fs
  induction fs with
  | nil => intro bs _; cases bs <;> simp [frCells]
  | cons f fs ih =>
    intro bs h
    cases bs with
    | nil => simp at h
    | cons b bs => simp only [frCells, List.length_cons, ih bs (by simpa using h)]; omega
theorem frCells_append : ∀ (fs : List Fr) (bs : List Value) (f : Fr) (b : Value), bs.length = fs.length → frCells (fs ++ [f]) (bs ++ [b]) = frCells fs bs ++ [.int .u8 (f.1.toNat : Int), b] := by
  intro fs
  induction fs with
  | nil => intro bs f b h; have : bs = [] := List.eq_nil_of_length_eq_zero (by simpa using h); subst this; rfl
  | cons g fs ih =>
    intro bs f b h
    cases bs with
    | nil => simp at h
    | cons c bs => simp only [List.cons_append, frCells, ih bs f b (by simpa using h)]
theorem frCells_at : ∀ (fs : List Fr) (bs : List Value) (i : Nat) (f : Fr) (b : Value), fs[i]? = some f → bs[i]? = some b → (frCells fs bs)[2 * i]? = some (.int .u8 (f.1.toNat : Int)) ∧ (frCells fs bs)[2 * i + 1]? = some b := by
  intro fs
  induction fs with
  | nil => intro bs i f b h; simp at h
  | cons g fs ih =>
    intro bs i f b hf hb
    cases bs with
    | nil => simp at hb
    | cons c bs =>
      cases i with
      | zero => simp at hf hb; subst hf hb; simp [frCells]
      | succ i =>
        have := ih bs i f b (by simpa using hf) (by simpa using hb)
        rw [show 2 * (i + 1) = 2 * i + 1 + 1 by omega]
        simpa [frCells] using this

/-- v is a slice of the frames fs; its row and its bodies are of blocks from lo on, ahead of hi. -/
def FrOwn (w : World) (lo hi : Nat) (v : Value) (fs : List Fr) : Prop :=
  ∃ bs : List Value, bs.length = fs.length ∧ w.ownsRow lo 42 2 v fs.length (frCells fs bs) ∧ (∀ k, v.ownBlock = some k → k < hi) ∧
    ∀ (i : Nat) (f : Fr) (b : Value), fs[i]? = some f → bs[i]? = some b → w.ownsRow lo 5 1 b f.2.length (f.2.map B8) ∧ (∀ k, b.ownBlock = some k → k < hi)

theorem FrOwn.agree {w w' : World} {lo hi : Nat} {v : Value} {fs : List Fr} (h : FrOwn w lo hi v fs) (ha : ∀ k, lo ≤ k → k < hi → w'.heap[k]? = w.heap[k]?) : FrOwn w' lo hi v fs := by
  obtain ⟨bs, h1, h2, h3, h4⟩ := h
  refine ⟨bs, h1, own_agree h2 (fun k hk => ha k (h2.lt k hk).1 (h3 k hk)), h3, fun i f b hf hb => ?_⟩
  obtain ⟨g1, g2⟩ := h4 i f b hf hb
  exact ⟨own_agree g1 (fun k hk => ha k (g1.lt k hk).1 (g2 k hk)), g2⟩
theorem FrOwn.below {w w' : World} {lo hi : Nat} {v : Value} {fs : List Fr} (h : FrOwn w lo hi v fs) {C : Nat} (hb : Below C w w') (hC : hi ≤ C) : FrOwn w' lo hi v fs :=
  h.agree fun k _ hk => hb.block k (by omega)
theorem FrOwn.nil (w : World) (lo hi : Nat) : FrOwn w lo hi (.slice none 0 0) [] :=
  ⟨[], rfl, own_nil _ _ _ _, by simp [Value.ownBlock], by simp⟩
theorem FrOwn.form {w : World} {lo hi : Nat} {v : Value} {fs : List Fr} (h : FrOwn w lo hi v fs) : ∃ A cap, v = .slice A fs.length cap := by
  obtain ⟨bs, h1, h2, _⟩ := h
  exact own_sl h2
theorem FrOwn.more {w : World} {lo hi hi' : Nat} {v : Value} {fs : List Fr} (h : FrOwn w lo hi v fs) (hh : hi ≤ hi') : FrOwn w lo hi' v fs := by
  obtain ⟨bs, h1, h2, h3, h4⟩ := h
  exact ⟨bs, h1, h2, fun k hk => Nat.lt_of_lt_of_le (h3 k hk) hh, fun i f b hf hb => ⟨(h4 i f b hf hb).1, fun k hk => Nat.lt_of_lt_of_le ((h4 i f b hf hb).2 k hk) hh⟩⟩
theorem FrOwn.low {w : World} {lo lo' hi : Nat} {v : Value} {fs : List Fr} (h : FrOwn w lo hi v fs) (hh : lo' ≤ lo) : FrOwn w lo' hi v fs := by
  obtain ⟨bs, h1, h2, h3, h4⟩ := h
  exact ⟨bs, h1, own_base h2 hh, h3, fun i f b hf hb => ⟨own_base (h4 i f b hf hb).1 hh, (h4 i f b hf hb).2⟩⟩
/-- One element of the list: its two cells, and its body. -/
theorem FrOwn.at {w : World} {lo hi : Nat} {A : Option Addr} {cap n : Nat} {fs : List Fr} {i : Nat} (h : FrOwn w lo hi (.slice A n cap) fs) (hn : n = fs.length) (hi' : i < n) :
    ∃ g f b, A = some ⟨g, 0, none⟩ ∧ lo ≤ g ∧ g < hi ∧ fs[i]? = some f ∧ w.cell? ⟨g, 2 * i, none⟩ = some (.int .u8 (f.1.toNat : Int)) ∧ w.cell? ⟨g, 2 * i + 1, none⟩ = some b ∧ w.ownsRow lo 5 1 b f.2.length (f.2.map B8) ∧ (∀ k, b.ownBlock = some k → k < hi) := by
  subst hn
  obtain ⟨bs, h1, h2, h3, h4⟩ := h
  obtain ⟨g, cp, hv, hg1, hg2, _⟩ := own_pos h2 (by omega)
  injection hv with e1 _ e3
  subst e1 e3
  have hf : fs[i]? = some fs[i] := List.getElem?_eq_getElem hi'
  have hb : bs[i]? = some (bs[i]'(by omega)) := List.getElem?_eq_getElem (by omega)
  obtain ⟨c1, c2⟩ := frCells_at fs bs i _ _ hf hb
  obtain ⟨o1, o2⟩ := h4 i _ _ hf hb
  refine ⟨g, _, _, rfl, hg1, h3 g rfl, hf, ?_, ?_, o1, o2⟩
  · rw [h2.cellAt (2 * i) (by omega)]; exact c1
  · rw [h2.cellAt (2 * i + 1) (by omega)]; exact c2
end Go.Proofs.Ytnieenlnpnaamaa
