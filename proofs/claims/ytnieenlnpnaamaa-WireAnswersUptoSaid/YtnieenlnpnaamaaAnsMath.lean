/-
  The plain mathematics of answers and frames: what an answer's frames are, and that they say the answer. Conditions: none. No program is named here.
-/
import Derived.Test.YtnieenlnpnaamaaCellMath
import Derived.Test.YtnieenlnpnaamaaWireMath
namespace Go.Proofs.Ytnieenlnpnaamaa.Wire

def fourB (n : Nat) : List UInt8 := [UInt8.ofNat (n / 16777216), UInt8.ofNat (n / 65536), UInt8.ofNat (n / 256), UInt8.ofNat n]
def txts (ns : List ByteArray) : List UInt8 := ns.flatMap fun s => Cell.byteOf s.size :: s.data.toList
theorem txts_snoc (ns : List ByteArray) (s : ByteArray) : txts (ns ++ [s]) = txts ns ++ (Cell.byteOf s.size :: s.data.toList) := by simp [txts]
theorem txts_cons (ns : List ByteArray) (s : ByteArray) : txts (s :: ns) = Cell.byteOf s.size :: (s.data.toList ++ txts ns) := by simp [txts]
def body (ns : List ByteArray) : List UInt8 := Cell.byteOf ns.length :: txts ns
/-- The frames of rows, each of n values, or an error. -/
def rowsF (n : Nat) : List (List Cell.Val) → Nat × List (UInt8 × List UInt8)
  | [] => (0, [])
  | r :: rs => if r.length ≠ n then (330, []) else if (Cell.row r).1 ≠ 0 then ((Cell.row r).1, []) else
    if (rowsF n rs).1 ≠ 0 then ((rowsF n rs).1, []) else (0, (6, (Cell.row r).2) :: (rowsF n rs).2)
structure Ans where
  names : List ByteArray
  rows : List (List Cell.Val)
  count : Int
def badA (a : Ans) : Bool := (!a.rows.isEmpty && a.names.isEmpty) || decide (a.count < 0) || decide (2147483647 < a.count)
def longN (ns : List ByteArray) : Bool := decide (255 < ns.length) || ns.any (fun s => decide (24 < s.size))
def headF (ns : List ByteArray) : List (UInt8 × List UInt8) := if ns.isEmpty then [] else [(6, body ns)]
def answer (a : Ans) : Nat × List (UInt8 × List UInt8) :=
  if badA a then (2, []) else if longN a.names then (3, []) else
    if (rowsF a.names.length a.rows).1 ≠ 0 then ((rowsF a.names.length a.rows).1, []) else (0, headF a.names ++ (rowsF a.names.length a.rows).2 ++ [(7, fourB a.count.toNat)])

theorem rowsF_len : ∀ (n : Nat) (rs : List (List Cell.Val)), (rowsF n rs).2.length ≤ rs.length := by
  intro n rs
  induction rs with
  | nil => simp [rowsF]
  | cons r rs ih => unfold rowsF; split <;> (try split) <;> (try split) <;> simp <;> omega
theorem rowsF_err : ∀ (n : Nat) (rs : List (List Cell.Val)), (rowsF n rs).1 ≠ 0 → (rowsF n rs).2 = [] := by
  intro n rs
  cases rs with
  | nil => simp [rowsF]
  | cons r rs => unfold rowsF; split <;> (try split) <;> (try split) <;> simp
theorem answer_err (a : Ans) (h : (answer a).1 ≠ 0) : (answer a).2 = [] := by
  unfold answer at h ⊢
  split
  · rfl
  · split
    · rfl
    · split
      · rfl
      · rename_i h1 h2 h3
        rw [if_neg h1, if_neg h2, if_neg h3] at h
        exact absurd rfl h
/-- Which answers have frames. -/
theorem answer_ok {a : Ans} {l : List (UInt8 × List UInt8)} : answer a = (0, l) ↔ badA a = false ∧ longN a.names = false ∧ (rowsF a.names.length a.rows).1 = 0 ∧ l = headF a.names ++ (rowsF a.names.length a.rows).2 ++ [(7, fourB a.count.toNat)] := by
  unfold answer
  by_cases h1 : badA a = true
  · simp [h1]
  · rw [if_neg h1]
    by_cases h2 : longN a.names = true
    · simp [h2]
    · rw [if_neg h2]
      by_cases h3 : (rowsF a.names.length a.rows).1 ≠ 0
      · simp only [if_pos h3, Prod.mk.injEq]
        exact ⟨fun h => absurd h.1 h3, fun h => absurd h.2.2.1 h3⟩
      · rw [if_neg h3]
        simp only [Prod.mk.injEq, true_and]
        constructor
        · intro h; exact ⟨by simpa using h1, by simpa using h2, by simpa using h3, h.symm⟩
        · intro h; exact h.2.2.2.symm
/-- The bodies of the frames of rows say the rows. -/
theorem rowsF_ok : ∀ (n : Nat) (rs : List (List Cell.Val)), (rowsF n rs).1 = 0 → (rowsF n rs).2 = rs.map (fun r => (6, (Cell.row r).2)) ∧ ∀ r ∈ rs, r.length = n ∧ (Cell.row r).1 = 0 := by
  intro n rs
  induction rs with
  | nil => simp [rowsF]
  | cons r rs ih =>
    unfold rowsF
    by_cases h1 : r.length ≠ n
    · simp [if_pos h1]
    · rw [if_neg h1]
      by_cases h2 : (Cell.row r).1 ≠ 0
      · rw [if_pos h2]; intro h; exact absurd h h2
      · rw [if_neg h2]
        by_cases h3 : (rowsF n rs).1 ≠ 0
        · rw [if_pos h3]; intro h; exact absurd h h3
        · rw [if_neg h3]
          intro _
          obtain ⟨g1, g2⟩ := ih (by simpa using h3)
          refine ⟨by rw [g1]; rfl, fun r' hr' => ?_⟩
          rcases List.mem_cons.1 hr' with rfl | hr'
          · exact ⟨by simpa using h1, by simpa using h2⟩
          · exact g2 r' hr'
theorem rowsF_mk : ∀ (n : Nat) (rs : List (List Cell.Val)), (∀ r ∈ rs, r.length = n ∧ (Cell.row r).1 = 0) → (rowsF n rs).1 = 0 := by
  intro n rs
  induction rs with
  | nil => simp [rowsF]
  | cons r rs ih =>
    intro h
    obtain ⟨h1, h2⟩ := h r List.mem_cons_self
    have h3 := ih fun r' hr' => h r' (List.mem_cons_of_mem _ hr')
    unfold rowsF
    rw [if_neg (by simpa using h1), if_neg (by simpa using h2), if_neg (by simpa using h3)]
/-- The names that a body says, as chapter 29's program takes them. -/
def takeN : Nat → List UInt8 → Option (List ByteArray × List UInt8)
  | 0, l => some ([], l)
  | k + 1, l => match l with
    | [] => none
    | c :: t => if t.length < c.toNat then none else (takeN k (t.drop c.toNat)).map fun p => (⟨(t.take c.toNat).toArray⟩ :: p.1, p.2)
def namesOf : List UInt8 → Option (List ByteArray)
  | [] => none
  | c :: t => match takeN c.toNat t with
    | some (ns, []) => some ns
    | _ => none
theorem takeN_txts : ∀ (ns : List ByteArray) (r : List UInt8), (∀ s ∈ ns, s.size ≤ 24) → takeN ns.length (txts ns ++ r) = some (ns, r) := by
  intro ns
  induction ns with
  | nil => intro r _; rfl
  | cons s ns ih =>
    intro r h
    have hs := h s List.mem_cons_self
    have hl : s.data.toList.length = s.size := by rw [Array.length_toList]; rfl
    have hc : (Cell.byteOf s.size).toNat = s.size := by rw [Cell.byteOf_toNat]; omega
    rw [txts_cons, List.length_cons, List.cons_append]
    unfold takeN
    simp only
    rw [hc, if_neg (by simp only [List.length_append, hl]; omega), List.append_assoc, List.drop_left' hl, List.take_left' hl, ih r fun s' h' => h s' (List.mem_cons_of_mem _ h')]
    rfl
theorem namesOf_body (ns : List ByteArray) (h : ∀ s ∈ ns, s.size ≤ 24) (hn : ns.length ≤ 255) : namesOf (body ns) = some ns := by
  have hc : (Cell.byteOf ns.length).toNat = ns.length := by rw [Cell.byteOf_toNat]; omega
  unfold namesOf body
  simp only [hc]
  have := takeN_txts ns [] h
  rw [List.append_nil] at this
  rw [this]
theorem be4_fourB (n : Nat) (h : n < 4294967296) : be4 (fourB n) = n := by
  unfold be4 fourB
  simp only [List.getD_cons_zero, List.getD_cons_succ, UInt8.toNat_ofNat']
  omega
/-- The names that a body says, as far as they go (the reference). -/
def refN : Nat → List UInt8 → List ByteArray
  | 0, _ => []
  | k + 1, l => match l with
    | [] => []
    | c :: t => if t.length < c.toNat then [] else ⟨(t.take c.toNat).toArray⟩ :: refN k (t.drop c.toNat)
def refNames (l : List UInt8) : List ByteArray := refN l.length l.tail
theorem refN_txts : ∀ (ns : List ByteArray) (k : Nat), (∀ s ∈ ns, s.size ≤ 24) → ns.length ≤ k → refN k (txts ns) = ns := by
  intro ns
  induction ns with
  | nil => intro k _ _; cases k <;> rfl
  | cons s ns ih =>
    intro k h hk
    obtain ⟨k, rfl⟩ : ∃ j, k = j + 1 := ⟨k - 1, by simp at hk; omega⟩
    have hs := h s List.mem_cons_self
    have hl : s.data.toList.length = s.size := by rw [Array.length_toList]; rfl
    have hc : (Cell.byteOf s.size).toNat = s.size := by rw [Cell.byteOf_toNat]; omega
    rw [txts_cons]
    unfold refN
    simp only
    rw [hc, if_neg (by simp only [List.length_append, hl]; omega), List.drop_left' hl, List.take_left' hl, ih k (fun s' h' => h s' (List.mem_cons_of_mem _ h')) (by simp at hk; omega)]
theorem txts_len (ns : List ByteArray) : ns.length ≤ (txts ns).length := by
  induction ns with
  | nil => simp [txts]
  | cons s ns ih => rw [txts_cons]; simp only [List.length_cons, List.length_append]; omega
theorem refNames_body (ns : List ByteArray) (h : ∀ s ∈ ns, s.size ≤ 24) : refNames (body ns) = ns := by
  unfold refNames body
  exact refN_txts ns _ h (by have := txts_len ns; simp; omega)
theorem longN_ok {ns : List ByteArray} (h : longN ns = false) : ns.length ≤ 255 ∧ ∀ s ∈ ns, s.size ≤ 24 := by
  unfold longN at h
  simp only [Bool.or_eq_false_iff, decide_eq_false_iff_not, List.any_eq_false] at h
  exact ⟨by omega, fun s hs => by have := h.2 s hs; simp at this; omega⟩

def okA (a : Ans) : Prop := ∀ r ∈ a.rows, ∀ v ∈ r, -9223372036854775808 ≤ v.n ∧ v.n ≤ 9223372036854775807
theorem badA_ok {a : Ans} (h : badA a = false) : 0 ≤ a.count ∧ a.count ≤ 2147483647 ∧ (a.names = [] → a.rows = []) := by
  unfold badA at h
  simp only [Bool.or_eq_false_iff, decide_eq_false_iff_not] at h
  refine ⟨by omega, by omega, fun hn => ?_⟩
  have := h.1.1
  rw [hn] at this
  simpa using this
theorem row_two {r : List Cell.Val} (h : (Cell.row r).1 = 0) : Cell.row r = (0, (Cell.row r).2) := Prod.ext h rfl
/-- What the program takes an answer to be, ahead of its test. -/
def readRows : List (UInt8 × List UInt8) → Option (List (List Cell.Val))
  | [] => some []
  | f :: fs => match Cell.read f.2, readRows fs with
    | some r, some rs => some (r :: rs)
    | _, _ => none
theorem readRows_snoc : ∀ (fs : List (UInt8 × List UInt8)) (f : UInt8 × List UInt8), readRows (fs ++ [f]) = match readRows fs, Cell.read f.2 with | some rs, some r => some (rs ++ [r]) | _, _ => none := by
  intro fs
  induction fs with
  | nil => intro f; simp only [List.nil_append, readRows]; cases Cell.read f.2 <;> rfl
  | cons g fs ih =>
    intro f
    rw [List.cons_append]
    unfold readRows
    rw [ih]
    cases Cell.read g.2 <;> cases readRows fs <;> cases Cell.read f.2 <;> rfl
theorem readRows_take {fs : List (UInt8 × List UInt8)} {k : Nat} {f : UInt8 × List UInt8} (h : fs[k]? = some f) : readRows (fs.take (k + 1)) = match readRows (fs.take k), Cell.read f.2 with | some rs, some r => some (rs ++ [r]) | _, _ => none := by
  rw [List.take_add_one, h]
  exact readRows_snoc _ _
theorem readRows_none {fs : List (UInt8 × List UInt8)} {k : Nat} {f : UInt8 × List UInt8} (h : fs[k]? = some f) (hr : Cell.read f.2 = none) : readRows fs = none := by
  induction fs generalizing k with
  | nil => simp at h
  | cons g fs ih =>
    unfold readRows
    cases k with
    | zero =>
      simp only [List.getElem?_cons_zero, Option.some.injEq] at h
      subst h
      rw [hr]
    | succ k =>
      rw [ih (by simpa using h)]
      cases Cell.read g.2 <;> rfl
theorem readRows_rows : ∀ (rs : List (List Cell.Val)), (∀ r ∈ rs, (Cell.row r).1 = 0) → (∀ r ∈ rs, ∀ v ∈ r, -9223372036854775808 ≤ v.n ∧ v.n ≤ 9223372036854775807) → readRows (rs.map fun r => (6, (Cell.row r).2)) = some rs := by
  intro rs
  induction rs with
  | nil => intro _ _; rfl
  | cons r rs ih =>
    intro h1 h2
    rw [List.map_cons]
    unfold readRows
    rw [Cell.row_read (row_two (h1 r List.mem_cons_self)) (h2 r List.mem_cons_self), ih (fun r' h' => h1 r' (List.mem_cons_of_mem _ h')) (fun r' h' => h2 r' (List.mem_cons_of_mem _ h'))]
/-- An answer whose frames these are: how the frames look. -/
structure Says (a : Ans) (l : List (UInt8 × List UInt8)) : Prop where
  ok : okA a
  ans : answer a = (0, l)
theorem Says.parts {a : Ans} {l : List (UInt8 × List UInt8)} (h : Says a l) : ∃ fs, l = fs ++ [(7, fourB a.count.toNat)] ∧ (be4 (fourB a.count.toNat) : Int) = a.count ∧ (a.names = [] → fs = [] ∧ a.rows = []) ∧
    (a.names ≠ [] → fs = (6, body a.names) :: a.rows.map (fun r => (6, (Cell.row r).2)) ∧ namesOf (body a.names) = some a.names ∧ refNames (body a.names) = a.names ∧ readRows (a.rows.map fun r => (6, (Cell.row r).2)) = some a.rows) ∧ ∀ r ∈ a.rows, Cell.read (Cell.row r).2 = some r := by
  obtain ⟨h1, h2, h3, h4⟩ := answer_ok.1 h.ans
  obtain ⟨b1, b2, b3⟩ := badA_ok h1
  obtain ⟨n1, n2⟩ := longN_ok h2
  obtain ⟨r1, r2⟩ := rowsF_ok _ _ h3
  refine ⟨_, h4, ?_, fun hn => ?_, fun hn => ?_, fun r hr => Cell.row_read (row_two (r2 r hr).2) (h.ok r hr)⟩
  · rw [be4_fourB _ (by omega)]; omega
  · rw [r1, b3 hn, hn]; exact ⟨rfl, rfl⟩
  · refine ⟨?_, namesOf_body _ n2 n1, refNames_body _ n2, readRows_rows _ (fun r hr => (r2 r hr).2) h.ok⟩
    rw [r1]
    unfold headF
    cases hh : a.names with
    | nil => exact absurd hh hn
    | cons s ns => rfl
/-- The reference's reading, frame by frame. -/
def rstep (p : Nat × Ans) (f : UInt8 × List UInt8) : Nat × Ans :=
  (p.1 + 1, if f.1 = 7 ∧ f.2.length = 4 then { p.2 with count := (be4 f.2 : Int) } else if f.1 = 6 ∧ p.1 = 0 then { p.2 with names := refNames f.2 } else { p.2 with rows := p.2.rows ++ [(Cell.refRead f.2).getD []] })
def rc (l : List (UInt8 × List UInt8)) : Nat × Ans := l.foldl rstep (0, ⟨[], [], 0⟩)
theorem rc_snoc (l : List (UInt8 × List UInt8)) (f : UInt8 × List UInt8) : rc (l ++ [f]) = rstep (rc l) f := by simp [rc]
theorem rc_take {l : List (UInt8 × List UInt8)} {k : Nat} {f : UInt8 × List UInt8} (h : l[k]? = some f) : rc (l.take (k + 1)) = rstep (rc (l.take k)) f := by
  rw [List.take_add_one, h]
  exact rc_snoc _ _
theorem rc_at (l : List (UInt8 × List UInt8)) : (rc l).1 = l.length := by
  have : ∀ (l : List (UInt8 × List UInt8)) (p : Nat × Ans), (l.foldl rstep p).1 = p.1 + l.length := by
    intro l
    induction l with
    | nil => intro p; simp
    | cons f l ih => intro p; rw [List.foldl_cons, ih]; simp only [rstep, List.length_cons]; omega
  have h := this l (0, ⟨[], [], 0⟩)
  simp only [Nat.zero_add] at h
  exact h
theorem fold_rows : ∀ (rs : List (List Cell.Val)) (p : Nat × Ans), p.1 ≠ 0 → (∀ r ∈ rs, Cell.read (Cell.row r).2 = some r) → ((rs.map fun r => ((6 : UInt8), (Cell.row r).2)).foldl rstep p).2 = { p.2 with rows := p.2.rows ++ rs } := by
  intro rs
  induction rs with
  | nil => intro p _ _; simp
  | cons r rs ih =>
    intro p hp h
    have hr := h r List.mem_cons_self
    rw [Cell.read_ref] at hr
    have e : rstep p ((6 : UInt8), (Cell.row r).2) = (p.1 + 1, { p.2 with rows := p.2.rows ++ [r] }) := by
      unfold rstep
      rw [if_neg (by simp), if_neg (by simp [hp]), hr]
      rfl
    rw [List.map_cons, List.foldl_cons, e, ih _ (by simp) fun r' h' => h r' (List.mem_cons_of_mem _ h')]
    simp
theorem fourB_len (n : Nat) : (fourB n).length = 4 := rfl
theorem Says.rc {a : Ans} {l : List (UInt8 × List UInt8)} (h : Says a l) : (rc l).2 = a := by
  obtain ⟨fs, hl, hc, h0, h1, hr⟩ := h.parts
  subst hl
  rw [rc_snoc]
  have e : ∀ p : Nat × Ans, (rstep p (7, fourB a.count.toNat)).2 = { p.2 with count := a.count } := fun p => by
    unfold rstep
    rw [if_pos ⟨rfl, fourB_len _⟩, hc]
  rw [e]
  by_cases hn : a.names = []
  · obtain ⟨rfl, hrw⟩ := h0 hn
    cases a
    simp only at hn hrw
    subst hn hrw
    rfl
  · obtain ⟨rfl, g1, g2, g3⟩ := h1 hn
    have e2 : rstep (0, ⟨[], [], 0⟩) (6, body a.names) = (1, ⟨a.names, [], 0⟩) := by
      unfold rstep
      rw [if_neg (by simp), if_pos ⟨rfl, rfl⟩, g2]
    unfold Wire.rc
    rw [List.foldl_cons, e2, fold_rows _ _ (by simp) hr]
    simp
end Go.Proofs.Ytnieenlnpnaamaa.Wire
