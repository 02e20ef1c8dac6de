/-
  Words on memory: lists of a page's cells, that are read or are the call's own. Conditions: none.
-/
import Derived.Test.YtpoilndlfbmhgaaOct
import Derived.Test.YtpoilndlfbmhgaaPageMath
namespace Go.Proofs.Ytpoilndlfbmhgaa
open Go.RowKit

/-- The cells in memory of pairs of slices. -/
def prs : List (Value × Value) → List Value
  | [] => []
  | b :: r => b.1 :: b.2 :: prs r
theorem prs_len : ∀ bs : List (Value × Value), (prs bs).length = bs.length * 2 := by
  intro bs
  induction bs with
  | nil => rfl
  | cons b r ih => simp only [prs, List.length_cons, ih]; omega
theorem prs_append : ∀ bs bs' : List (Value × Value), prs (bs ++ bs') = prs bs ++ prs bs' := by
  intro bs
  induction bs with
  | nil => intro bs'; rfl
  | cons b r ih => intro bs'; simp only [List.cons_append, prs, ih]
theorem prs_at : ∀ (bs : List (Value × Value)) (i : Nat) (b : Value × Value), bs[i]? = some b → (prs bs)[i * 2]? = some b.1 ∧ (prs bs)[i * 2 + 1]? = some b.2 := by
  intro bs
  induction bs with
  | nil => intro i b h; simp at h
  | cons c r ih =>
    intro i b h
    cases i with
    | zero => simp at h; subst h; simp [prs]
    | succ i =>
      have := ih i b (by simpa using h)
      rw [show (i + 1) * 2 = i * 2 + 1 + 1 by omega]
      simpa [prs] using this
/-- b is a slice that reads as l; all of it lies below B. -/
def Bd (w : World) (B : Nat) (b : Value) (l : List UInt8) : Prop := ∃ A c, b = .slice A l.length c ∧ Rb w B A l.length l ∧ l.length ≤ 140737488355328 ∧ l.length ≤ c ∧ c ≤ 9223372036854775807
theorem Bd.keep {w w' : World} {B : Nat} {b : Value} {l : List UInt8} (h : Bd w B b l) (hk : ∀ p : Addr, p.block < B → w'.cell? p = w.cell? p) : Bd w' B b l := by
  obtain ⟨A, c, e, hr, hm⟩ := h
  exact ⟨A, c, e, hr.keep hk, hm⟩
theorem Bd.more {w : World} {B C : Nat} {b : Value} {l : List UInt8} (h : Bd w B b l) (hC : B ≤ C) : Bd w C b l := by
  obtain ⟨A, c, e, hr, hm⟩ := h
  exact ⟨A, c, e, hr.more hC, hm⟩
/-- A slice at A reads as these cells. -/
def CeRd (w : World) (B : Nat) (A : Option Addr) (n : Nat) (cs : List Pag.Ce) : Prop :=
  n = cs.length ∧ ∃ bs : List (Value × Value), bs.length = cs.length ∧ Rd w B 2 A n (prs bs) ∧
    ∀ (i : Nat) (c : Pag.Ce) (b : Value × Value), cs[i]? = some c → bs[i]? = some b → Bd w B b.1 c.1 ∧ Bd w B b.2 c.2
theorem CeRd.nil (w : World) (B : Nat) (A : Option Addr) : CeRd w B A 0 [] := ⟨rfl, [], rfl, Rd.nil, by simp⟩
theorem CeRd.keep {w w' : World} {B : Nat} {A : Option Addr} {n : Nat} {cs : List Pag.Ce} (h : CeRd w B A n cs) (hk : ∀ p : Addr, p.block < B → w'.cell? p = w.cell? p) : CeRd w' B A n cs := by
  obtain ⟨hn, bs, h1, h2, h3⟩ := h
  exact ⟨hn, bs, h1, h2.keep hk, fun i c b hc hb => ⟨(h3 i c b hc hb).1.keep hk, (h3 i c b hc hb).2.keep hk⟩⟩
theorem CeRd.below {w w' : World} {B C : Nat} {A : Option Addr} {n : Nat} {cs : List Pag.Ce} (h : CeRd w B A n cs) (hb : Below C w w') (hC : B ≤ C) : CeRd w' B A n cs := h.keep fun _ hp => hb.cell (by omega)
theorem CeRd.more {w : World} {B C : Nat} {A : Option Addr} {n : Nat} {cs : List Pag.Ce} (h : CeRd w B A n cs) (hC : B ≤ C) : CeRd w C A n cs := by
  obtain ⟨hn, bs, h1, h2, h3⟩ := h
  exact ⟨hn, bs, h1, h2.more hC, fun i c b hc hb => ⟨(h3 i c b hc hb).1.more hC, (h3 i c b hc hb).2.more hC⟩⟩
theorem CeRd.at {w : World} {B : Nat} {A : Option Addr} {n : Nat} {cs : List Pag.Ce} {i : Nat} (h : CeRd w B A n cs) (hi : i < n) :
    ∃ g off c Ak ck Av cv, A = some ⟨g, off, none⟩ ∧ g < B ∧ cs[i]? = some c ∧ w.cell? ⟨g, off + i * 2, none⟩ = some (.slice Ak c.1.length ck) ∧ w.cell? ⟨g, off + i * 2 + 1, none⟩ = some (.slice Av c.2.length cv) ∧
      Rb w B Ak c.1.length c.1 ∧ c.1.length ≤ 140737488355328 ∧ c.1.length ≤ ck ∧ ck ≤ 9223372036854775807 ∧ Rb w B Av c.2.length c.2 ∧ c.2.length ≤ 140737488355328 ∧ c.2.length ≤ cv ∧ cv ≤ 9223372036854775807 := by
  obtain ⟨hn, bs, h1, h2, h3⟩ := h
  obtain ⟨g, off, rfl, hg, hc⟩ := h2.2 (by omega)
  have hf : cs[i]? = some cs[i] := List.getElem?_eq_getElem (by omega)
  have hb : bs[i]? = some (bs[i]'(by omega)) := List.getElem?_eq_getElem (by omega)
  obtain ⟨c1, c2⟩ := prs_at bs i _ hb
  obtain ⟨⟨Ak, ck, e1, r1, k1, k2, k3⟩, ⟨Av, cv, e2, r2, k4, k5, k6⟩⟩ := h3 i _ _ hf hb
  rw [e1] at c1
  rw [e2] at c2
  exact ⟨g, off, _, Ak, ck, Av, cv, rfl, hg, hf, hc _ _ c1, by rw [Nat.add_assoc]; exact hc _ _ c2, r1, k1, k2, k3, r2, k4, k5, k6⟩
/-- A part of the list: '[i:j]'. -/
theorem prs_take : ∀ (bs : List (Value × Value)) (m : Nat), prs (bs.take m) = (prs bs).take (m * 2) := by
  intro bs
  induction bs with
  | nil => intro m; simp [prs]
  | cons b r ih =>
    intro m
    cases m with
    | zero => simp [prs]
    | succ m => rw [List.take_succ_cons, show (m + 1) * 2 = m * 2 + 1 + 1 by omega]; simp only [prs, List.take_succ_cons, ih]
theorem prs_drop : ∀ (bs : List (Value × Value)) (m : Nat), prs (bs.drop m) = (prs bs).drop (m * 2) := by
  intro bs
  induction bs with
  | nil => intro m; simp [prs]
  | cons b r ih =>
    intro m
    cases m with
    | zero => simp [prs]
    | succ m => rw [List.drop_succ_cons, show (m + 1) * 2 = m * 2 + 1 + 1 by omega]; simp only [prs, List.drop_succ_cons, ih]
theorem CeRd.take {w : World} {B : Nat} {A : Option Addr} {n m : Nat} {cs : List Pag.Ce} (h : CeRd w B A n cs) (hm : m ≤ n) : CeRd w B A m (cs.take m) := by
  obtain ⟨hn, bs, h1, h2, h3⟩ := h
  refine ⟨by simp; omega, bs.take m, by simp [h1], ⟨by rw [prs_len]; simp; omega, fun h0 => ?_⟩, fun i c b hc hb => ?_⟩
  · obtain ⟨g, off, e, hg, hc⟩ := h2.2 (by omega)
    refine ⟨g, off, e, hg, fun j u hu => hc j u ?_⟩
    rw [prs_take, List.getElem?_take] at hu
    split at hu
    · exact hu
    · cases hu
  · rw [List.getElem?_take] at hc hb
    split at hc
    · rename_i hlt
      rw [if_pos hlt] at hb
      exact h3 i c b hc hb
    · cases hc
theorem CeRd.drop {w : World} {B : Nat} {g off n m : Nat} {cs : List Pag.Ce} (h : CeRd w B (some ⟨g, off, none⟩) n cs) (hm : m ≤ n) : CeRd w B (some ⟨g, off + m * 2, none⟩) (n - m) (cs.drop m) := by
  obtain ⟨hn, bs, h1, h2, h3⟩ := h
  refine ⟨by simp; omega, bs.drop m, by simp [h1], ⟨by rw [prs_len]; simp; omega, fun h0 => ?_⟩, fun i c b hc hb => ?_⟩
  · obtain ⟨g', off', e, hg, hc⟩ := h2.2 (by omega)
    injection e with e
    injection e with e1 e2
    subst e1 e2
    refine ⟨g, off + m * 2, rfl, hg, fun j u hu => ?_⟩
    rw [prs_drop, List.getElem?_drop] at hu
    have := hc _ u hu
    rw [Nat.add_assoc]
    exact this
  · rw [List.getElem?_drop] at hc hb
    exact h3 _ c b hc hb
/-- A body of a cell: the call's own, or somebody's from below k. -/
def Bo (w : World) (lo k : Nat) (b : Value) (l : List UInt8) : Prop := w.ownsRow lo 5 1 b l.length (l.map B8) ∧ l.length ≤ 140737488355328 ∨ Bd w k b l ∧ k ≤ lo
theorem Bo.bd {w : World} {lo k : Nat} {b : Value} {l : List UInt8} (h : Bo w lo k b l) (hlo : lo ≤ w.heap.size) : Bd w w.heap.size b l := by
  rcases h with ⟨h, hm⟩ | ⟨h, hk⟩
  · obtain ⟨A, c, rfl, _, c1, c2⟩ := own_form h
    exact ⟨A, c, rfl, Rb.own h, hm, c1, by unfold maxLen at c2; omega⟩
  · exact h.more (by omega)
theorem Bo.below {w w' : World} {lo k : Nat} {b : Value} {l : List UInt8} (h : Bo w lo k b l) (hb : Below w.heap.size w w') (hlo : lo ≤ w.heap.size) : Bo w' lo k b l := by
  rcases h with ⟨h, hm⟩ | ⟨h, hk⟩
  · exact .inl ⟨own_below h hb, hm⟩
  · exact .inr ⟨h.keep fun p hp => hb.cell (by omega), hk⟩
theorem Bo.base {w : World} {lo lo' k : Nat} {b : Value} {l : List UInt8} (h : Bo w lo k b l) (hl : lo' ≤ lo) (hk : k ≤ lo') : Bo w lo' k b l := by
  rcases h with ⟨h, hm⟩ | ⟨h, _⟩
  · exact .inl ⟨own_base h hl, hm⟩
  · exact .inr ⟨h, hk⟩
theorem rows_ne {w : World} {b1 b2 : Nat} {e1 e2 : TypeId} {s1 s2 n1 n2 : Nat} {v1 v2 : Value} {x1 x2 : List Value} (h1 : w.ownsRow b1 e1 s1 v1 n1 x1) (h2 : w.ownsRow b2 e2 s2 v2 n2 x2) (hne : e1 ≠ e2) : v1.ownBlock = none ∨ v1.ownBlock ≠ v2.ownBlock := by
  rcases h1.2 with ⟨rfl, _⟩ | ⟨g, cap, cur, rfl, _, hh, _⟩
  · exact .inl rfl
  · refine .inr fun e => ?_
    exact own_blk_ne h2 (show Blk w g e1 cur from hh) (fun e' => hne e'.symm) e.symm
/-- It stays while the row of cells grows. -/
theorem Bo.grown {w w' : World} {lo k n : Nat} {b v : Value} {l : List UInt8} {xs : List Value} (h : Bo w lo k b l) (hr : w.ownsRow lo 41 2 v n xs) (hg : w.grownBy w' v.ownBlock) (hb : Below lo w w') : Bo w' lo k b l := by
  rcases h with ⟨h, hm⟩ | ⟨h, hk⟩
  · exact .inl ⟨h.kept hg (rows_ne h hr (by decide)), hm⟩
  · exact .inr ⟨h.keep fun p hp => hb.cell (by omega), hk⟩
/-- A row of cells of the call's own (the bodies from below k may be somebody's). -/
def CeOwn (w : World) (lo k : Nat) (v : Value) (cs : List Pag.Ce) : Prop :=
  ∃ bs : List (Value × Value), bs.length = cs.length ∧ w.ownsRow lo 41 2 v cs.length (prs bs) ∧
    ∀ (i : Nat) (c : Pag.Ce) (b : Value × Value), cs[i]? = some c → bs[i]? = some b → Bo w lo k b.1 c.1 ∧ Bo w lo k b.2 c.2
theorem CeOwn.nil (w : World) (lo k : Nat) : CeOwn w lo k (.slice none 0 0) [] := ⟨[], rfl, own_nil _ _ _ _, by simp⟩
theorem CeOwn.form {w : World} {lo k : Nat} {v : Value} {cs : List Pag.Ce} (h : CeOwn w lo k v cs) : ∃ A c, v = .slice A cs.length c ∧ cs.length ≤ c ∧ c ≤ 9223372036854775807 := by
  obtain ⟨bs, h1, h2, _⟩ := h
  obtain ⟨A, c, e, _, c1, c2⟩ := own_form h2
  exact ⟨A, c, e, c1, by unfold maxLen at c2; omega⟩
theorem CeOwn.rd {w : World} {lo k n c : Nat} {A : Option Addr} {cs : List Pag.Ce} (h : CeOwn w lo k (.slice A n c) cs) (hn : n = cs.length) (hlo : lo ≤ w.heap.size) : CeRd w w.heap.size A n cs := by
  subst hn
  obtain ⟨bs, h1, h2, h3⟩ := h
  exact ⟨rfl, bs, h1, Rd.own h2, fun i c b hc hb => ⟨(h3 i c b hc hb).1.bd hlo, (h3 i c b hc hb).2.bd hlo⟩⟩
theorem CeOwn.below {w w' : World} {lo k : Nat} {v : Value} {cs : List Pag.Ce} (h : CeOwn w lo k v cs) (hb : Below w.heap.size w w') (hlo : lo ≤ w.heap.size) : CeOwn w' lo k v cs := by
  obtain ⟨bs, h1, h2, h3⟩ := h
  exact ⟨bs, h1, own_below h2 hb, fun i c b hc hb' => ⟨(h3 i c b hc hb').1.below hb hlo, (h3 i c b hc hb').2.below hb hlo⟩⟩
theorem CeOwn.base {w : World} {lo lo' k : Nat} {v : Value} {cs : List Pag.Ce} (h : CeOwn w lo k v cs) (hl : lo' ≤ lo) (hk : k ≤ lo') : CeOwn w lo' k v cs := by
  obtain ⟨bs, h1, h2, h3⟩ := h
  exact ⟨bs, h1, own_base h2 hl, fun i c b hc hb => ⟨(h3 i c b hc hb).1.base hl hk, (h3 i c b hc hb).2.base hl hk⟩⟩
theorem infoC : (Try.prog.info? 41).map (fun i => (i.zero, i.size, i.bytes)) = some (some (.agg #[.slice none 0 0, .slice none 0 0]), 2, 48) := by kernel_rfl
end Go.Proofs.Ytpoilndlfbmhgaa
