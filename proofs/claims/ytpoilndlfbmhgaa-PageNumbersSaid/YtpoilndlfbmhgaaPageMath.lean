/-
  The plain mathematics of chapter 7: pages as bytes, and back. Conditions: none. No program is named here.
-/
import Derived.Test.YtpoilndlfbmhgaaVerMath
namespace Go.Proofs.Ytpoilndlfbmhgaa.Pag

/-- v in k bytes, the lowest first. -/
def leL (v : Nat) : Nat → List UInt8
  | 0 => []
  | k + 1 => UInt8.ofNat (v % 256) :: leL (v / 256) k
theorem leL_len : ∀ (k v : Nat), (leL v k).length = k := by
  intro k
  induction k with
  | zero => intro v; rfl
  | succ k ih => intro v; simp [leL, ih]
theorem le_leL : ∀ (k v : Nat), v < 256 ^ k → le (leL v k) = v := by
  intro k
  induction k with
  | zero => intro v h; simp at h; simp [leL, le, h]
  | succ k ih =>
    intro v h
    simp only [leL, le]
    rw [ih (v / 256) (by rw [Nat.pow_succ] at h; omega), UInt8.toNat_ofNat']
    omega
abbrev Ce := List UInt8 × List UInt8
structure Pg where
  kind : UInt8
  next : Int
  cells : List Ce
def mayB (k v : List UInt8) : Bool := decide (1 ≤ k.length) && decide (k.length ≤ 320) && decide (v.length ≤ 576)
/-- The cells may be, and their keys rise. -/
def riseB : List Ce → Bool
  | [] => true
  | [c] => mayB c.1 c.2
  | c :: d :: r => mayB c.1 c.2 && decide (cmpB c.1 d.1 < 0) && riseB (d :: r)
def rightB (p : Pg) : Bool :=
  if p.kind = 0 then decide (p.next = 0) && p.cells.isEmpty else decide (p.kind.toNat ≤ 2) && decide (0 ≤ p.next) && decide (p.next < 4096) && riseB p.cells
def sizeC (c : Ce) : Nat := 6 + c.1.length + c.2.length
def taken (l : List Ce) : Nat := (l.map sizeC).sum
def offs : Nat → List Ce → List UInt8
  | _, [] => []
  | at', c :: r => leL at' 2 ++ offs (at' + (4 + c.1.length + c.2.length)) r
def cellB (c : Ce) : List UInt8 := leL c.1.length 2 ++ leL c.2.length 2 ++ c.1 ++ c.2
def bodies (l : List Ce) : List UInt8 := l.flatMap cellB
def front (p : Pg) : List UInt8 := [p.kind, 0] ++ leL p.cells.length 2 ++ leL p.next.toNat 4 ++ offs (8 + 2 * p.cells.length) p.cells ++ bodies p.cells
def pack (p : Pg) : Nat × List UInt8 := if rightB p = false then (2, []) else if 4072 < taken p.cells then (5, []) else (0, front p ++ List.replicate (4080 - (front p).length) 0)
theorem offs_len : ∀ (l : List Ce) (a : Nat), (offs a l).length = 2 * l.length := by
  intro l
  induction l with
  | nil => intro a; rfl
  | cons c r ih => intro a; simp only [offs, List.length_append, leL_len, ih, List.length_cons]; omega
theorem bodies_len (l : List Ce) : (bodies l).length + 2 * l.length = taken l := by
  induction l with
  | nil => rfl
  | cons c r ih =>
    have e1 : bodies (c :: r) = cellB c ++ bodies r := rfl
    have e2 : taken (c :: r) = sizeC c + taken r := by simp [taken]
    rw [e1, e2, ← ih]
    simp only [cellB, sizeC, List.length_append, leL_len, List.length_cons]
    omega
theorem front_len (p : Pg) : (front p).length = 8 + taken p.cells := by
  have := bodies_len p.cells
  unfold front
  simp only [List.length_append, leL_len, offs_len, List.length_cons, List.length_nil]
  omega
theorem pack_ok {p : Pg} {b : List UInt8} : pack p = (0, b) ↔ rightB p = true ∧ taken p.cells ≤ 4072 ∧ b = front p ++ List.replicate (4080 - (front p).length) 0 := by
  unfold pack
  by_cases h1 : rightB p = false
  · simp [h1]
  · rw [if_neg h1]
    by_cases h2 : 4072 < taken p.cells
    · simp [h2]
      intro _ h
      omega
    · rw [if_neg h2]
      simp only [Prod.mk.injEq, true_and]
      constructor
      · intro h; exact ⟨by simpa using h1, by omega, h.symm⟩
      · intro h; exact h.2.2.symm
theorem pack_len {p : Pg} {b : List UInt8} (h : pack p = (0, b)) : b.length = 4080 := by
  obtain ⟨_, h2, rfl⟩ := pack_ok.1 h
  have := front_len p
  simp only [List.length_append, List.length_replicate]
  omega
/-- k cells, one behind the other, from a place on. -/
def cellsAt (b : List UInt8) : Nat → Nat → Option (List Ce)
  | 0, _ => some []
  | k + 1, a => if b.length < a + 4 then none else
    let n := le ((b.drop a).take 2)
    let m := le ((b.drop (a + 2)).take 2)
    if b.length < a + 4 + n + m then none else
      (cellsAt b k (a + 4 + n + m)).map fun r => ((b.drop (a + 4)).take n, (b.drop (a + 4 + n)).take m) :: r
theorem le_zero : ∀ l : List UInt8, le l < 256 ^ l.length := by
  intro l
  induction l with
  | nil => simp [le]
  | cons d l ih => simp only [le, List.length_cons, Nat.pow_succ]; have := d.toNat_lt; omega
theorem cellsAt_bodies : ∀ (l : List Ce) (x y : List UInt8), (∀ c ∈ l, mayB c.1 c.2 = true) → cellsAt (x ++ bodies l ++ y) l.length x.length = some l := by
  intro l
  induction l with
  | nil => intro x y _; rfl
  | cons c r ih =>
    intro x y h
    have hm := h c List.mem_cons_self
    unfold mayB at hm
    simp only [Bool.and_eq_true, decide_eq_true_eq] at hm
    obtain ⟨⟨_, hm1⟩, hm2⟩ := hm
    have e0 : bodies (c :: r) = leL c.1.length 2 ++ leL c.2.length 2 ++ c.1 ++ c.2 ++ bodies r := rfl
    have d0 : ∀ z : List UInt8, (x ++ z).drop x.length = z := fun z => List.drop_left' rfl
    have hb : x ++ bodies (c :: r) ++ y = x ++ (leL c.1.length 2 ++ (leL c.2.length 2 ++ (c.1 ++ (c.2 ++ (bodies r ++ y))))) := by rw [e0]; simp
    have ht := ih (x ++ (leL c.1.length 2 ++ (leL c.2.length 2 ++ (c.1 ++ c.2)))) y fun c' hc' => h c' (List.mem_cons_of_mem _ hc')
    have hb2 : x ++ (leL c.1.length 2 ++ (leL c.2.length 2 ++ (c.1 ++ (c.2 ++ (bodies r ++ y))))) = x ++ (leL c.1.length 2 ++ (leL c.2.length 2 ++ (c.1 ++ c.2))) ++ bodies r ++ y := by simp
    have hl2 : (x ++ (leL c.1.length 2 ++ (leL c.2.length 2 ++ (c.1 ++ c.2)))).length = x.length + 4 + c.1.length + c.2.length := by simp only [List.length_append, leL_len]; omega
    rw [hl2] at ht
    rw [hb, List.length_cons]
    unfold cellsAt
    have len : (x ++ (leL c.1.length 2 ++ (leL c.2.length 2 ++ (c.1 ++ (c.2 ++ (bodies r ++ y)))))).length = x.length + 4 + c.1.length + c.2.length + (bodies r ++ y).length := by simp only [List.length_append, leL_len]; omega
    rw [if_neg (by rw [len]; omega)]
    have n1 : le (((x ++ (leL c.1.length 2 ++ (leL c.2.length 2 ++ (c.1 ++ (c.2 ++ (bodies r ++ y)))))).drop x.length).take 2) = c.1.length := by
      rw [d0, List.take_left' (leL_len 2 _), le_leL 2 _ (by omega)]
    have d2 : (x ++ (leL c.1.length 2 ++ (leL c.2.length 2 ++ (c.1 ++ (c.2 ++ (bodies r ++ y)))))).drop (x.length + 2) = leL c.2.length 2 ++ (c.1 ++ (c.2 ++ (bodies r ++ y))) := by
      rw [← List.drop_drop, d0, List.drop_left' (leL_len 2 _)]
    have n2 : le (((x ++ (leL c.1.length 2 ++ (leL c.2.length 2 ++ (c.1 ++ (c.2 ++ (bodies r ++ y)))))).drop (x.length + 2)).take 2) = c.2.length := by
      rw [d2, List.take_left' (leL_len 2 _), le_leL 2 _ (by omega)]
    have d4 : (x ++ (leL c.1.length 2 ++ (leL c.2.length 2 ++ (c.1 ++ (c.2 ++ (bodies r ++ y)))))).drop (x.length + 4) = c.1 ++ (c.2 ++ (bodies r ++ y)) := by
      rw [show x.length + 4 = x.length + 2 + 2 by omega, ← List.drop_drop, d2, List.drop_left' (leL_len 2 _)]
    have d5 : (x ++ (leL c.1.length 2 ++ (leL c.2.length 2 ++ (c.1 ++ (c.2 ++ (bodies r ++ y)))))).drop (x.length + 4 + c.1.length) = c.2 ++ (bodies r ++ y) := by
      rw [← List.drop_drop, d4, List.drop_left' rfl]
    simp only [n1, n2, d4, d5]
    rw [if_neg (by rw [len]; omega), List.take_left' rfl, List.take_left' rfl, hb2, ht]
    rfl
theorem rise_may : ∀ l : List Ce, riseB l = true → ∀ c ∈ l, mayB c.1 c.2 = true := by
  intro l
  induction l with
  | nil => intro _ c hc; cases hc
  | cons c r ih =>
    intro h d hd
    cases r with
    | nil =>
      simp only [riseB] at h
      have : d = c := by simpa using hd
      rw [this]
      exact h
    | cons e r =>
      simp only [riseB, Bool.and_eq_true] at h
      rcases List.mem_cons.1 hd with rfl | hd
      · exact h.1.1
      · exact ih h.2 d hd
theorem right_may {p : Pg} (h : rightB p = true) : ∀ c ∈ p.cells, mayB c.1 c.2 = true := by
  unfold rightB at h
  split at h
  · simp only [Bool.and_eq_true, List.isEmpty_iff] at h
    rw [h.2]
    intro c hc
    cases hc
  · simp only [Bool.and_eq_true] at h
    exact rise_may _ h.2
theorem right_next {p : Pg} (h : rightB p = true) : 0 ≤ p.next ∧ p.next < 4096 := by
  unfold rightB at h
  split at h
  · simp only [Bool.and_eq_true, decide_eq_true_eq] at h
    omega
  · simp only [Bool.and_eq_true, decide_eq_true_eq] at h
    omega
theorem rise_snoc : ∀ (l : List Ce) (c : Ce), riseB (l ++ [c]) = (riseB l && mayB c.1 c.2 && (match l.getLast? with | none => true | some d => decide (cmpB d.1 c.1 < 0))) := by
  intro l
  induction l with
  | nil => intro c; simp [riseB]
  | cons d r ih =>
    intro c
    cases r with
    | nil => simp only [List.nil_append, List.cons_append, riseB, List.getLast?_singleton]; cases mayB d.1 d.2 <;> cases mayB c.1 c.2 <;> simp
    | cons e r =>
      have := ih c
      simp only [List.cons_append] at this ⊢
      simp only [riseB]
      rw [this, List.getLast?_cons_cons]
      cases mayB d.1 d.2 <;> cases decide (cmpB d.1 e.1 < 0) <;> simp
theorem rise_pre : ∀ (l r : List Ce), riseB (l ++ r) = true → riseB l = true := by
  intro l r
  induction h : r.length generalizing r with
  | zero => intro h2; rw [List.eq_nil_of_length_eq_zero h, List.append_nil] at h2; exact h2
  | succ n ih =>
    intro h2
    obtain ⟨r', c, rfl⟩ : ∃ r' c, r = r' ++ [c] := ⟨r.dropLast, r.getLast (by intro e; rw [e] at h; simp at h), (List.dropLast_concat_getLast _).symm⟩
    rw [← List.append_assoc, rise_snoc] at h2
    simp only [Bool.and_eq_true] at h2
    exact ih r' (by simp at h; omega) h2.1.1
theorem rise_next {l : List Ce} {k : Nat} {c : Ce} (h : riseB (l.take k) = true) (hc : l[k]? = some c) (hm : mayB c.1 c.2 = true) (hp : ∀ d, 0 < k → l[k - 1]? = some d → cmpB d.1 c.1 < 0) : riseB (l.take (k + 1)) = true := by
  rw [List.take_add_one, hc]
  show riseB (l.take k ++ [c]) = true
  rw [rise_snoc, h, hm]
  have hk : k < l.length := by
    rcases Nat.lt_or_ge k l.length with h' | h'
    · exact h'
    · rw [List.getElem?_eq_none h'] at hc; cases hc
  cases k with
  | zero => simp
  | succ k =>
    have hg : (l.take (k + 1)).getLast? = l[k]? := by
      rw [List.getLast?_eq_getElem?, List.length_take, show min (k + 1) l.length - 1 = k by omega, List.getElem?_take]
      simp
    rw [hg, List.getElem?_eq_getElem (by omega)]
    have := hp l[k] (by omega) (by simp [List.getElem?_eq_getElem (show k < l.length by omega)])
    simp [this]
theorem rise_stop {l : List Ce} {k : Nat} {c : Ce} (hc : l[k]? = some c) (hn : mayB c.1 c.2 = false ∨ ∃ d, 0 < k ∧ l[k - 1]? = some d ∧ ¬ cmpB d.1 c.1 < 0) : riseB l = false := by
  cases hr : riseB l with
  | false => rfl
  | true =>
    exfalso
    have hp := rise_pre (l.take (k + 1)) (l.drop (k + 1)) (by rw [List.take_append_drop]; exact hr)
    rw [List.take_add_one, hc] at hp
    have hp' : riseB (l.take k ++ [c]) = true := hp
    rw [rise_snoc] at hp'
    simp only [Bool.and_eq_true] at hp'
    rcases hn with hn | ⟨d, h0, hd, hn⟩
    · rw [hp'.1.2] at hn
      cases hn
    · have hk : k - 1 < l.length := by
        rcases Nat.lt_or_ge (k - 1) l.length with h' | h'
        · exact h'
        · rw [List.getElem?_eq_none h'] at hd; cases hd
      have hg : (l.take k).getLast? = l[k - 1]? := by
        rw [List.getLast?_eq_getElem?, List.length_take, show min k l.length - 1 = k - 1 by omega, List.getElem?_take, if_pos (by omega)]
      rw [hg, hd] at hp'
      exact hn (by simpa using hp'.2)
theorem taken_take {l : List Ce} {k : Nat} {c : Ce} (hc : l[k]? = some c) : taken (l.take (k + 1)) = taken (l.take k) + sizeC c := by
  rw [List.take_add_one, hc]
  simp [taken]
theorem taken_le (l : List Ce) (h : ∀ c ∈ l, mayB c.1 c.2 = true) : taken l ≤ 902 * l.length := by
  induction l with
  | nil => simp [taken]
  | cons c r ih =>
    have e2 : taken (c :: r) = sizeC c + taken r := by simp [taken]
    have h1 := ih fun c' h' => h c' (List.mem_cons_of_mem _ h')
    have h2 := h c List.mem_cons_self
    unfold mayB at h2
    simp only [Bool.and_eq_true, decide_eq_true_eq] at h2
    rw [e2, List.length_cons]
    simp only [sizeC]
    omega
/-- What the bytes of a page seem to say. -/
def candK (b : List UInt8) : UInt8 := b.getD 0 0
def candN (b : List UInt8) : Nat := le ((b.drop 4).take 4)
def candC (b : List UInt8) : Option (List Ce) := cellsAt b (le ((b.drop 2).take 2)) (8 + 2 * le ((b.drop 2).take 2))
theorem taken_len (l : List Ce) (h : taken l ≤ 4072) : l.length ≤ 1000 := by
  have : 6 * l.length ≤ taken l := by
    clear h
    induction l with
    | nil => simp [taken]
    | cons c r ih =>
      have e2 : taken (c :: r) = sizeC c + taken r := by simp [taken]
      rw [e2]
      simp only [sizeC, List.length_cons]
      omega
  omega
theorem pack_cand {p : Pg} {b : List UInt8} (h : pack p = (0, b)) : candK b = p.kind ∧ (candN b : Int) = p.next ∧ candC b = some p.cells := by
  obtain ⟨h1, h2, rfl⟩ := pack_ok.1 h
  obtain ⟨n1, n2⟩ := right_next h1
  have hl := taken_len _ h2
  obtain ⟨z, hz⟩ : ∃ z, z = List.replicate (4080 - (front p).length) (0 : UInt8) := ⟨_, rfl⟩
  rw [← hz]
  have e0 : front p ++ z = p.kind :: 0 :: (leL p.cells.length 2 ++ (leL p.next.toNat 4 ++ (offs (8 + 2 * p.cells.length) p.cells ++ (bodies p.cells ++ z)))) := by unfold front; simp
  have c2 : le (((front p ++ z).drop 2).take 2) = p.cells.length := by
    rw [e0]
    simp only [List.drop_succ_cons, List.drop_zero]
    rw [List.take_left' (leL_len 2 _), le_leL 2 _ (by omega)]
  refine ⟨by rw [e0]; rfl, ?_, ?_⟩
  · unfold candN
    rw [e0]
    simp only [List.drop_succ_cons]
    rw [List.drop_left' (leL_len 2 _), List.take_left' (leL_len 4 _), le_leL 4 _ (by omega)]
    omega
  · unfold candC
    rw [c2]
    have e1 : front p ++ z = ([p.kind, 0] ++ leL p.cells.length 2 ++ leL p.next.toNat 4 ++ offs (8 + 2 * p.cells.length) p.cells) ++ bodies p.cells ++ z := by unfold front; simp
    have e2 : ([p.kind, 0] ++ leL p.cells.length 2 ++ leL p.next.toNat 4 ++ offs (8 + 2 * p.cells.length) p.cells).length = 8 + 2 * p.cells.length := by simp only [List.length_append, leL_len, offs_len, List.length_cons, List.length_nil]
    have := cellsAt_bodies p.cells ([p.kind, 0] ++ leL p.cells.length 2 ++ leL p.next.toNat 4 ++ offs (8 + 2 * p.cells.length) p.cells) z (right_may h1)
    rw [e2] at this
    rw [e1]
    exact this
theorem pack_inj {p q : Pg} {b : List UInt8} (h : pack p = (0, b)) (h' : pack q = (0, b)) : p = q := by
  obtain ⟨a1, a2, a3⟩ := pack_cand h
  obtain ⟨b1, b2, b3⟩ := pack_cand h'
  rw [a1] at b1
  rw [a2] at b2
  rw [a3] at b3
  injection b3 with b3
  cases p
  cases q
  simp only at b1 b2 b3
  rw [b1, b2, b3]
end Go.Proofs.Ytpoilndlfbmhgaa.Pag
