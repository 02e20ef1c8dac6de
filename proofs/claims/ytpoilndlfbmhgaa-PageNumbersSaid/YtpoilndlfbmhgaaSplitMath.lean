/-
  The plain mathematics of splitting a page. Conditions: none. No program is named here.
-/
import Derived.Test.YtpoilndlfbmhgaaFindQ
namespace Go.Proofs.Ytpoilndlfbmhgaa
namespace Pag
def splitG (cs : List Ce) : Nat → Nat → Nat
  | 0, n => n
  | f + 1, n => if n < cs.length - 1 ∧ 2 * taken (cs.take n) < taken cs then splitG cs f (n + 1) else n
def splitN (cs : List Ce) : Nat := splitG cs (cs.length - 1) 1
theorem splitG_le (cs : List Ce) : ∀ (f n : Nat), 1 ≤ n → n ≤ cs.length - 1 → 1 ≤ splitG cs f n ∧ splitG cs f n ≤ cs.length - 1 := by
  intro f
  induction f with
  | zero => intro n h1 h2; exact ⟨h1, h2⟩
  | succ f ih =>
    intro n h1 h2
    unfold splitG
    split
    · rename_i h
      exact ih (n + 1) (by omega) (by omega)
    · exact ⟨h1, h2⟩
theorem splitN_le {cs : List Ce} (h : 2 ≤ cs.length) : 1 ≤ splitN cs ∧ splitN cs ≤ cs.length - 1 := splitG_le cs _ 1 (by omega) (by omega)
theorem splitG_step {cs : List Ce} {n : Nat} (h : n < cs.length - 1) (h2 : 2 * taken (cs.take n) < taken cs) : splitG cs (cs.length - n) n = splitG cs (cs.length - (n + 1)) (n + 1) := by
  rw [show cs.length - n = (cs.length - (n + 1)) + 1 by omega]
  conv => lhs; unfold splitG
  rw [if_pos ⟨h, h2⟩]
theorem splitG_stop {cs : List Ce} {n : Nat} (h : ¬ (n < cs.length - 1 ∧ 2 * taken (cs.take n) < taken cs)) : splitG cs (cs.length - n) n = n := by
  unfold splitG
  split
  · rfl
  · rw [if_neg h]
theorem taken_app (a b : List Ce) : taken (a ++ b) = taken a + taken b := by simp [taken]
theorem taken_parts (cs : List Ce) (n : Nat) : taken (cs.take n) ≤ taken cs ∧ taken (cs.drop n) ≤ taken cs := by
  have h := taken_app (cs.take n) (cs.drop n)
  rw [List.take_append_drop] at h
  omega
theorem rise_of_pairs : ∀ (cs : List Ce), (∀ c ∈ cs, mayB c.1 c.2 = true) → (∀ (i : Nat) (c d : Ce), cs[i]? = some c → cs[i + 1]? = some d → cmpB c.1 d.1 < 0) → riseB cs = true := by
  intro cs
  induction cs with
  | nil => intro _ _; rfl
  | cons c r ih =>
    intro h1 h2
    cases r with
    | nil => simpa [riseB] using h1 c List.mem_cons_self
    | cons d r =>
      simp only [riseB, Bool.and_eq_true, decide_eq_true_eq]
      refine ⟨⟨h1 c List.mem_cons_self, h2 0 c d rfl rfl⟩, ih (fun x hx => h1 x (List.mem_cons_of_mem _ hx)) fun i x y hx hy => h2 (i + 1) x y (by simpa using hx) (by simpa using hy)⟩
theorem rise_drop {cs : List Ce} (h : riseB cs = true) (n : Nat) : riseB (cs.drop n) = true := by
  refine rise_of_pairs _ (fun c hc => rise_may cs h c (List.mem_of_mem_drop hc)) fun i c d hc hd => ?_
  rw [List.getElem?_drop] at hc hd
  exact rise_pair cs h (n + i) (n + (i + 1)) c d (by omega) hc hd
theorem rise_take {cs : List Ce} (h : riseB cs = true) (n : Nat) : riseB (cs.take n) = true :=
  rise_pre (cs.take n) (cs.drop n) (by rw [List.take_append_drop]; exact h)
theorem right_kind {p : Pg} (h : rightB p = true) (hc : p.cells ≠ []) : p.kind ≠ 0 := by
  intro hk
  unfold rightB at h
  rw [if_pos hk] at h
  simp only [Bool.and_eq_true, List.isEmpty_iff] at h
  exact hc h.2
theorem right_of {k : UInt8} {nx nx' : Int} {cs ds : List Ce} (h : rightB ⟨k, nx, cs⟩ = true) (hk : k ≠ 0) (h0 : 0 ≤ nx') (h1 : nx' < 4096) (hr : riseB ds = true) : rightB ⟨k, nx', ds⟩ = true := by
  unfold rightB at h ⊢
  simp only at h ⊢
  rw [if_neg hk] at h ⊢
  simp only [Bool.and_eq_true, decide_eq_true_eq] at h ⊢
  exact ⟨⟨⟨h.1.1.1, h0⟩, h1⟩, hr⟩
/-- The two parts. -/
def partA (p : Pg) : Pg := ⟨p.kind, 0, p.cells.take (splitN p.cells)⟩
def partB (p : Pg) : Pg := ⟨p.kind, p.next, p.cells.drop (splitN p.cells)⟩
theorem parts_pack {p : Pg} (h : rightB p = true) (ht : taken p.cells ≤ 4072) (hl : 2 ≤ p.cells.length) : ∃ a b, pack (partA p) = (0, a) ∧ pack (partB p) = (0, b) ∧ a.length = 4080 ∧ b.length = 4080 := by
  have hk := right_kind h (fun e => by rw [e] at hl; simp at hl)
  have hr := right_rise h
  obtain ⟨n0, n1⟩ := right_next h
  have e : p = ⟨p.kind, p.next, p.cells⟩ := by cases p; rfl
  rw [e] at h
  obtain ⟨t1, t2⟩ := taken_parts p.cells (splitN p.cells)
  have hA := pack_ok.2 ⟨show rightB (partA p) = true from right_of h hk (by omega) (by omega) (rise_take hr _), show taken (partA p).cells ≤ 4072 from Nat.le_trans t1 ht, rfl⟩
  have hB := pack_ok.2 ⟨show rightB (partB p) = true from right_of h hk n0 n1 (rise_drop hr _), show taken (partB p).cells ≤ 4072 from Nat.le_trans t2 ht, rfl⟩
  exact ⟨_, _, hA, hB, pack_len hA, pack_len hB⟩
def splitB (b : List UInt8) : List UInt8 × List UInt8 × List UInt8 × Nat := match unpB b with
  | none => ([], [], [], 170)
  | some p => if p.cells.length < 2 then ([], [], [], 2) else ((pack (partA p)).2, (pack (partB p)).2, ((p.cells[splitN p.cells]?).map (·.1)).getD [], 0)
theorem splitB_none {b : List UInt8} (h : unpB b = none) : splitB b = ([], [], [], 170) := by unfold splitB; rw [h]
theorem splitB_few {b : List UInt8} {p : Pg} (h : unpB b = some p) (hl : p.cells.length < 2) : splitB b = ([], [], [], 2) := by unfold splitB; rw [h]; simp only; rw [if_pos hl]
theorem splitB_yes {b x y : List UInt8} {p : Pg} {c : Ce} (h : unpB b = some p) (hl : ¬ p.cells.length < 2) (hx : pack (partA p) = (0, x)) (hy : pack (partB p) = (0, y)) (hc : p.cells[splitN p.cells]? = some c) : splitB b = (x, y, c.1, 0) := by
  unfold splitB
  rw [h]
  simp only
  rw [if_neg hl, hx, hy, hc]
  rfl
end Pag
end Go.Proofs.Ytpoilndlfbmhgaa
