/-
  Feed of any reader that was made (broken or not), and what stays beside it. Conditions: sizes of at most 2^21 bytes.
-/
import Derived.Test.YtnieenlnpnaamaaWireAwake
import Derived.Test.YtnieenlnpnaamaaSameFrames
namespace Go.Proofs.Ytnieenlnpnaamaa
open Go.RowKit

namespace Wire
/-- What a feed of y answers and leaves, to a reader of the state s. -/
def feed (s : List UInt8 × Bool) (y : List UInt8) : List (UInt8 × List UInt8) × List UInt8 × Bool := if s.2 = true then ([], s) else cut (s.1 ++ y)
theorem cut_feed (x y : List UInt8) : cut (x ++ y) = ((cut x).1 ++ (feed (cut x).2 y).1, (feed (cut x).2 y).2) := by
  rw [cut_append x.length x y (Nat.le_refl _)]
  unfold feed
  split <;> simp
theorem cut_bodies : ∀ (n : Nat) (x : List UInt8), x.length ≤ n → ∀ f ∈ (cut x).1, f.2.length ≤ 8191 := by
  intro n
  induction n with
  | zero =>
    intro x hx
    have : x = [] := List.eq_nil_of_length_eq_zero (by omega)
    subst this
    simp [cut, cutF]
  | succ n ih =>
    intro x hx f hf
    rcases h : firstN x with _ | m
    · rw [cut_none h] at hf; cases hf
    · cases m with
      | zero => rw [cut_wait h] at hf; cases hf
      | succ m =>
        obtain ⟨e1, e2, e3, e4, e5⟩ := firstN_some x m h
        rw [cut_more h] at hf
        rcases List.mem_cons.1 hf with rfl | hf
        · simp only [frame, List.length_take, List.length_drop]; omega
        · exact ih _ (by rw [List.length_drop]; omega) f hf
theorem feed_broken (s : List UInt8 × Bool) (y : List UInt8) (h : (feed s y).2.2 = false) : s.2 = false := by
  unfold feed at h
  split at h
  · rename_i hs; rw [hs] at h; cases h
  · rename_i hs; simpa using hs
end Wire

/-- The frames of a list of the call's own: its row of blocks from lo on, its bodies ahead of hi. -/
def FrB (w : World) (lo hi : Nat) (v : Value) (fs : List Fr) : Prop :=
  ∃ bs : List Value, bs.length = fs.length ∧ w.ownsRow lo 42 2 v fs.length (frCells fs bs) ∧
    ∀ (i : Nat) (f : Fr) (b : Value), fs[i]? = some f → bs[i]? = some b → w.ownsRow lo 5 1 b f.2.length (f.2.map B8) ∧ (∀ k, b.ownBlock = some k → k < hi)
theorem FrB.nil (w : World) (lo hi : Nat) : FrB w lo hi (.slice none 0 0) [] := ⟨[], rfl, own_nil _ _ _ _, by simp⟩
theorem FrOwn.b {w : World} {lo hi : Nat} {v : Value} {fs : List Fr} (h : FrOwn w lo hi v fs) : FrB w lo hi v fs := by
  obtain ⟨bs, h1, h2, _, h4⟩ := h
  exact ⟨bs, h1, h2, h4⟩
theorem FrB.form {w : World} {lo hi : Nat} {v : Value} {fs : List Fr} (h : FrB w lo hi v fs) : ∃ A cap, v = .slice A fs.length cap := by
  obtain ⟨bs, h1, h2, _⟩ := h
  exact own_sl h2
theorem FrB.below {w w' : World} {lo hi : Nat} {v : Value} {fs : List Fr} (h : FrB w lo hi v fs) (hb : Below w.heap.size w w') : FrB w' lo hi v fs := by
  obtain ⟨bs, h1, h2, h4⟩ := h
  exact ⟨bs, h1, own_below h2 hb, fun i f b hf hb' => ⟨own_below (h4 i f b hf hb').1 hb, (h4 i f b hf hb').2⟩⟩
theorem FrB.rd {w : World} {lo hi : Nat} {A : Option Addr} {n cap : Nat} {fs : List Fr} (h : FrB w lo hi (.slice A n cap) fs) (hn : n = fs.length) (hm : ∀ f ∈ fs, f.2.length ≤ 140737488355328) : FrRd w w.heap.size A n fs := by
  subst hn
  obtain ⟨bs, h1, h2, h4⟩ := h
  refine ⟨rfl, bs, h1, Rd.own h2, fun i f b hf hb => ?_⟩
  obtain ⟨g1, _⟩ := h4 i f b hf hb
  obtain ⟨Ab, cb, rfl, _, c1, c2⟩ := own_form g1
  exact ⟨Ab, cb, rfl, Rb.own g1, hm f (List.mem_of_getElem? hf), c1, by unfold maxLen at c2; omega⟩
theorem own_turned {w w' : World} {R lo : Nat} {e : TypeId} {size n : Nat} {v u : Value} {xs : List Value} {cs : Array Value} (h : w.ownsRow lo e size u n xs) (ht : Turned w w' R v) (hR : Blk w R 45 cs) (he : e ≠ 45) (hv : u.ownBlock = none ∨ u.ownBlock ≠ v.ownBlock) : w'.ownsRow lo e size u n xs :=
  own_agree h fun k hk => ht.2.2.2.2 k (h.lt k hk).2 (fun e' => by subst e'; exact own_blk_ne h hR he hk) (fun e' => hv.elim (fun h0 => by rw [h0] at hk; cases hk) (fun h0 => h0 (hk.trans e'.symm)))
/-- The list stays through a feed of a reader whose bytes lie behind its bodies. -/
theorem FrB.turned {w w' : World} {lo hi R : Nat} {v u : Value} {fs : List Fr} {l0 : List UInt8} {b : Bool} (h : FrB w lo hi u fs) (hR : Rdr w R hi v l0 b) (ht : Turned w w' R v) : FrB w' lo hi u fs := by
  obtain ⟨bs, h1, h2, h4⟩ := h
  refine ⟨bs, h1, own_turned h2 ht hR.1 (by decide) (own_own_ne h2 hR.2 (by decide)), fun i f b' hf hb' => ?_⟩
  obtain ⟨g1, g2⟩ := h4 i f b' hf hb'
  refine ⟨own_turned g1 ht hR.1 (by decide) ?_, g2⟩
  cases hb : b'.ownBlock with
  | none => exact .inl rfl
  | some k =>
    refine .inr fun e => ?_
    have := (hR.2.lt k e.symm).1
    have := g2 k hb
    omega
theorem frCells_app : ∀ (fs : List Fr) (bs : List Value) (fs' : List Fr) (bs' : List Value), bs.length = fs.length → frCells (fs ++ fs') (bs ++ bs') = frCells fs bs ++ frCells fs' bs' := by
  intro fs
  induction fs with
  | nil => intro bs fs' bs' h; have : bs = [] := List.eq_nil_of_length_eq_zero (by simpa using h); subst this; rfl
  | cons g fs ih =>
    intro bs fs' bs' h
    cases bs with
    | nil => simp at h
    | cons c bs => simp only [List.cons_append, frCells, ih bs fs' bs' (by simpa using h)]
theorem frCells_one : ∀ (fs : List Fr) (bs : List Value), (∀ b ∈ bs, b.oneCell' = true) → ∀ u ∈ frCells fs bs, u.oneCell' = true := by
  intro fs
  induction fs with
  | nil => intro bs _ u hu; simp [frCells] at hu
  | cons f fs ih =>
    intro bs h u hu
    cases bs with
    | nil => simp [frCells] at hu
    | cons b bs =>
      simp only [frCells, List.mem_cons] at hu
      rcases hu with rfl | rfl | hu
      · rfl
      · exact h _ List.mem_cons_self
      · exact ih bs (fun b hb => h b (List.mem_cons_of_mem _ hb)) u hu
/-- What append wants of the two lists, and what it gives. -/
theorem FrB.append {w : World} {lo lo' hi hi' : Nat} {v : Value} {A : Option Addr} {n c : Nat} {fs fs' : List Fr} (h : FrB w lo hi v fs) (h' : FrOwn w lo' hi' (.slice A n c) fs') (hlo : lo ≤ lo') (hhi : hi ≤ hi') :
    ∃ xs news, w.ownsRow lo 42 2 v fs.length xs ∧ Rd w w.heap.size 2 A fs'.length news ∧ (∀ u ∈ news, u.oneCell' = true) ∧
      ∀ v3 w3, w3.ownsRow lo 42 2 v3 (fs.length + fs'.length) (xs ++ news) → w.grownBy w3 v.ownBlock → FrB w3 lo hi' v3 (fs ++ fs') := by
  obtain ⟨bs, h1, h2, h4⟩ := h
  obtain ⟨bs', k1, k2, _, k4⟩ := h'
  obtain ⟨A', c', hv⟩ := own_sl k2
  injection hv with e1 e2 e3
  subst e1 e2 e3
  refine ⟨_, _, h2, Rd.own k2, frCells_one fs' bs' fun b hb => ?_, fun v3 w3 hown hg => ?_⟩
  · obtain ⟨i, hi, rfl⟩ := List.getElem_of_mem hb
    obtain ⟨g1, _⟩ := k4 i _ _ (List.getElem?_eq_getElem (by omega)) (List.getElem?_eq_getElem hi)
    obtain ⟨Ab, cb, e⟩ := own_sl g1
    rw [e]
    rfl
  · have keep : ∀ (b : Value) (lo2 n : Nat) (xs : List Value), w.ownsRow lo2 5 1 b n xs → w3.ownsRow lo2 5 1 b n xs := fun b lo2 n xs h => h.kept hg (own_own_ne h h2 (by decide))
    refine ⟨bs ++ bs', by simp [h1, k1], ?_, fun i f b hf hb => ?_⟩
    · rw [frCells_app fs bs fs' bs' h1, List.length_append]
      exact hown
    · by_cases hi : i < fs.length
      · rw [List.getElem?_append_left hi] at hf
        rw [List.getElem?_append_left (by omega)] at hb
        obtain ⟨g1, g2⟩ := h4 i f b hf hb
        exact ⟨keep _ _ _ _ g1, fun k hk => Nat.lt_of_lt_of_le (g2 k hk) hhi⟩
      · rw [List.getElem?_append_right (by omega)] at hf
        rw [List.getElem?_append_right (by omega), h1] at hb
        obtain ⟨g1, g2⟩ := k4 _ f b hf hb
        exact ⟨own_base (keep _ _ _ _ g1) hlo, g2⟩
theorem FrOwn.cap {w : World} {lo hi : Nat} {v : Value} {fs : List Fr} (h : FrOwn w lo hi v fs) : FrOwn w lo (min hi w.heap.size) v fs := by
  obtain ⟨bs, h1, h2, h3, h4⟩ := h
  exact ⟨bs, h1, h2, fun k hk => by have := h3 k hk; have := (h2.lt k hk).2; omega, fun i f b hf hb => ⟨(h4 i f b hf hb).1, fun k hk => by have := (h4 i f b hf hb).2 k hk; have := ((h4 i f b hf hb).1.lt k hk).2; omega⟩⟩
theorem Rdr.low {w : World} {R lo lo' : Nat} {v : Value} {l : List UInt8} {b : Bool} (h : Rdr w R lo v l b) (hl : lo' ≤ lo) : Rdr w R lo' v l b := ⟨h.1, own_base h.2 hl⟩
theorem Rdr.below {w w' : World} {R lo : Nat} {v : Value} {l : List UInt8} {b : Bool} (h : Rdr w R lo v l b) (hb : Below w.heap.size w w') : Rdr w' R lo v l b := ⟨h.1.below hb h.1.lt, own_below h.2 hb⟩
theorem Turned.refl (w : World) (R : Nat) (v : Value) : Turned w w R v := ⟨rfl, rfl, rfl, Nat.le_refl _, fun _ _ _ _ => rfl⟩

def FedPost (w : World) (R base : Nat) (v : Value) (r : List Fr × List UInt8 × Bool) (e : Ending) (w' : World) : Prop :=
  ∃ vo v' mid, e = .returned (.tuple #[vo, .int .i64 (if r.2.2 = true then 390 else 0)]) ∧ base ≤ mid ∧ mid ≤ w'.heap.size ∧ FrOwn w' w.heap.size mid vo r.1 ∧ Rdr w' R mid v' r.2.1 r.2.2 ∧ Turned w w' R v

theorem feed_made (R base : Nat) (v : Value) (l0 : List UInt8) (br : Bool) (A : Option Addr) (n c : Nat) (b : List UInt8) (w : World) (hR : Rdr w R base v l0 br) (hb : Rb w w.heap.size A n b) (hn : l0.length + n ≤ 2097152) (hbase : base ≤ w.heap.size) :
    Calls Try.prog 9 #[.pointer (some ⟨R, 0, none⟩), .slice A n c] w (FedPost w R base v (Wire.feed (l0, br) b)) := by
  cases br with
  | true =>
    refine (feed_broken R base v l0 A n c w hR).mono ?_
    rintro e w' ⟨rfl, rfl⟩
    exact ⟨.slice none 0 0, v, base, rfl, Nat.le_refl _, hbase, FrOwn.nil _ _ _, hR, Turned.refl _ _ _⟩
  | false =>
    refine (feed_ok R base v l0 A n c b w hR hb hn hbase).mono ?_
    rintro e w' ⟨vo, v', mid, rfl, h1, h2, h3, h4⟩
    exact ⟨vo, v', min mid w'.heap.size, rfl, by have := h4.2.2.2.1; omega, by omega, h2.cap, h3.low (by omega), h4⟩

/-- All blocks below N but R are as they were. -/
structure Kp (N R : Nat) (w w' : World) : Prop where
  os : w'.os = w.os
  tape : w'.tape = w.tape
  output : w'.output = w.output
  size : w.heap.size ≤ w'.heap.size
  block : ∀ k, k < N → k ≠ R → w'.heap[k]? = w.heap[k]?
theorem Kp.refl (N R : Nat) (w : World) : Kp N R w w := ⟨rfl, rfl, rfl, Nat.le_refl _, fun _ _ _ => rfl⟩
theorem Kp.trans {N R : Nat} {w w1 w2 : World} (h : Kp N R w w1) (h2 : Kp N R w1 w2) : Kp N R w w2 := ⟨h2.os.trans h.os, h2.tape.trans h.tape, h2.output.trans h.output, Nat.le_trans h.size h2.size, fun k hk hr => (h2.block k hk hr).trans (h.block k hk hr)⟩
theorem Kp.of_below {N R C : Nat} {w w1 : World} (h : Below C w w1) (hC : N ≤ C) : Kp N R w w1 := ⟨h.os, h.tape, h.output, h.size, fun k hk _ => h.block k (by omega)⟩
theorem Kp.of_turned {N R lo n : Nat} {w w1 : World} {v : Value} {xs : List Value} (h : Turned w w1 R v) (hv : w.ownsRow lo 5 1 v n xs) (hlo : N ≤ lo) (hN : N ≤ w.heap.size) : Kp N R w w1 := ⟨h.1, h.2.1, h.2.2.1, h.2.2.2.1, fun k hk hr => h.2.2.2.2 k (by omega) hr (fun e => by have := (hv.lt k e).1; omega)⟩
theorem Kp.of_grown {N R lo n : Nat} {e : TypeId} {size : Nat} {w w1 : World} {v : Value} {xs : List Value} (h : w.grownBy w1 v.ownBlock) (hv : w.ownsRow lo e size v n xs) (hlo : N ≤ lo) (hN : N ≤ w.heap.size) : Kp N R w w1 := ⟨h.os, h.tape, h.output, h.size, fun k hk _ => h.block k (by omega) (fun e' => by have := (hv.lt k e'.symm).1; omega)⟩
theorem Kp.toBelow {N R B : Nat} {w w1 : World} (h : Kp N R w w1) (hN : B ≤ N) (hR : B ≤ R) : Below B w w1 := ⟨h.os, h.tape, h.output, h.size, fun k hk => h.block k (by omega) (by omega)⟩
theorem Rb.sub {w : World} {B : Nat} {A : Option Addr} {n : Nat} {l : List UInt8} {i j cap : Nat} (h : Rb w B A n l) (hi : i ≤ j) (hj : j ≤ n) (hc : n ≤ cap) : Rb w B (if cap = i then A else A.map (·.add i)) (j - i) ((l.take j).drop i) := (h.take hj).cut hi (by omega)
end Go.Proofs.Ytnieenlnpnaamaa
