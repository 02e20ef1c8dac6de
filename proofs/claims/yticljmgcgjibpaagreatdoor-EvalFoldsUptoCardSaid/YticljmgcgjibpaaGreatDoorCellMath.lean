/-
  The plain mathematics of chapter 18: rows and keys as bytes, and back. Conditions: none. No program is named here.
-/
namespace Go.Proofs.YticljmgcgjibpaaGreatDoor.Cell

/-- A value: kind, number, text. -/
structure Val where
  k : UInt8
  n : Int
  s : ByteArray

def txt (v : Val) : List UInt8 := v.s.data.toList
theorem txt_len (v : Val) : (txt v).length = v.s.size := by unfold txt; rw [Array.length_toList]; rfl
theorem Val.ext' {a b : Val} (h1 : a.k = b.k) (h2 : a.n = b.n) (h3 : txt a = txt b) : a = b := by
  obtain ⟨ak, an, ⟨⟨as⟩⟩⟩ := a
  obtain ⟨bk, bn, ⟨⟨bs⟩⟩⟩ := b
  simp [txt] at h1 h2 h3
  subst h1 h2 h3
  rfl

def rightB (v : Val) : Bool :=
  match v.k.toNat with
  | 0 => decide (v.n = 0) && decide (v.s.size = 0)
  | 1 => (decide (v.n = 0) || decide (v.n = 1)) && decide (v.s.size = 0)
  | 2 => decide (v.s.size = 0)
  | 3 => decide (v.s.size = 0)
  | 4 => decide (v.n = 0) && decide (v.s.size ≤ 200)
  | 5 => decide (v.n = 0) && decide (v.s.size ≤ 200)
  | _ => false

def byteOf (n : Nat) : UInt8 := UInt8.ofNat (n % 256)
theorem byteOf_toNat (n : Nat) : (byteOf n).toNat = n % 256 := by unfold byteOf; simp
/-- Eight bytes, the highest first. -/
def be8 (u : Nat) : List UInt8 := [byteOf (u / 72057594037927936), byteOf (u / 281474976710656), byteOf (u / 1099511627776), byteOf (u / 4294967296), byteOf (u / 16777216), byteOf (u / 65536), byteOf (u / 256), byteOf u]
def beN (l : List UInt8) : Nat := l.foldl (fun a c => a * 256 + c.toNat) 0
theorem beN_snoc (l : List UInt8) (c : UInt8) : beN (l ++ [c]) = beN l * 256 + c.toNat := by simp [beN]
theorem beN_lt_aux : ∀ (l : List UInt8) (a : Nat), l.foldl (fun a c => a * 256 + c.toNat) a < (a + 1) * 256 ^ l.length := by
  intro l
  induction l with
  | nil => intro a; simp
  | cons c l ih =>
    intro a
    have h1 := ih (a * 256 + c.toNat)
    have hc := c.toNat_lt
    have h2 : (a * 256 + c.toNat + 1) * 256 ^ l.length ≤ ((a + 1) * 256) * 256 ^ l.length := Nat.mul_le_mul_right _ (by omega)
    rw [List.foldl_cons, List.length_cons, Nat.pow_succ, Nat.mul_comm (256 ^ l.length) 256, ← Nat.mul_assoc]
    omega
theorem beN_lt (l : List UInt8) : beN l < 256 ^ l.length := by
  have := beN_lt_aux l 0
  simpa [beN] using this
/-- A number as 64 bits, and back. -/
def u64 (n : Int) : Nat := (n % 18446744073709551616).toNat
def i64 (u : Nat) : Int := ((u : Int) + 9223372036854775808) % 18446744073709551616 - 9223372036854775808
theorem u64_lt (n : Int) : u64 n < 18446744073709551616 := by unfold u64; omega
theorem i64_u64 (n : Int) (h1 : -9223372036854775808 ≤ n) (h2 : n ≤ 9223372036854775807) : i64 (u64 n) = n := by unfold i64 u64; omega
theorem u64_i64 (u : Nat) (h : u < 18446744073709551616) : u64 (i64 u) = u := by unfold i64 u64; omega
theorem i64_range (u : Nat) : -9223372036854775808 ≤ i64 u ∧ i64 u ≤ 9223372036854775807 := by unfold i64; omega
theorem byteOf_id (c : UInt8) (m : Nat) (h : m % 256 = c.toNat) : byteOf m = c := by
  apply UInt8.toNat_inj.1
  rw [byteOf_toNat, h]
theorem beN_be8 (u : Nat) (h : u < 18446744073709551616) : beN (be8 u) = u := by
  simp only [beN, be8, List.foldl, byteOf_toNat]
  omega
theorem be8_beN (l : List UInt8) (h : l.length = 8) : be8 (beN l) = l := by
  match l, h with
  | [a, b, c, d, e, f, g, i], _ =>
    have ha := a.toNat_lt
    have hb := b.toNat_lt
    have hc := c.toNat_lt
    have hd := d.toNat_lt
    have he := e.toNat_lt
    have hf := f.toNat_lt
    have hg := g.toNat_lt
    have hi := i.toNat_lt
    have hN : beN [a, b, c, d, e, f, g, i] = a.toNat * 72057594037927936 + b.toNat * 281474976710656 + c.toNat * 1099511627776 + d.toNat * 4294967296 + e.toNat * 16777216 + f.toNat * 65536 + g.toNat * 256 + i.toNat := by
      simp only [beN, List.foldl]
      omega
    rw [hN]
    unfold be8
    rw [byteOf_id a, byteOf_id b, byteOf_id c, byteOf_id d, byteOf_id e, byteOf_id f, byteOf_id g, byteOf_id i] <;> omega

/-- A value's bytes. -/
def tail (v : Val) : List UInt8 :=
  match v.k.toNat with
  | 1 => [byteOf (v.n % 256).toNat]
  | 2 => be8 (u64 v.n)
  | 3 => be8 (u64 v.n)
  | 4 => byteOf v.s.size :: txt v
  | 5 => byteOf v.s.size :: txt v
  | _ => []
def bytes (v : Val) : List UInt8 := v.k :: tail v
def flat (r : List Val) : List UInt8 := r.flatMap bytes
theorem flat_snoc (r : List Val) (v : Val) : flat (r ++ [v]) = flat r ++ bytes v := by simp [flat]
theorem flat_cons (r : List Val) (v : Val) : flat (v :: r) = bytes v ++ flat r := by simp [flat]
/-- A row's bytes, or the error. -/
def row (r : List Val) : Nat × List UInt8 :=
  if r.all rightB = false then (2, [])
  else if 12 < r.length then (3, [])
  else if 480 < 1 + (flat r).length then (3, [])
  else (0, byteOf r.length :: flat r)

def mk (k : UInt8) (n : Int) (s : List UInt8) : Val := ⟨k, n, ⟨s.toArray⟩⟩
theorem txt_mk (k : UInt8) (n : Int) (s : List UInt8) : txt (mk k n s) = s := by simp [txt, mk]
theorem size_mk (k : UInt8) (n : Int) (s : List UInt8) : (mk k n s).s.size = s.length := by rw [← txt_len, txt_mk]
theorem mk_txt (v : Val) : mk v.k v.n (txt v) = v := Val.ext' rfl rfl (txt_mk _ _ _)

/-- The next value of bytes, and what is left. -/
def readV (l : List UInt8) : Option (Val × List UInt8) :=
  match l with
  | [] => none
  | k :: l1 =>
    match k.toNat with
    | 1 => match l1 with
      | [] => none
      | c :: l2 => some (mk k c.toNat [], l2)
    | 2 => if l1.length < 8 then none else some (mk k (i64 (beN (l1.take 8))) [], l1.drop 8)
    | 3 => if l1.length < 8 then none else some (mk k (i64 (beN (l1.take 8))) [], l1.drop 8)
    | 4 => match l1 with
      | [] => none
      | c :: l2 => if l2.length < c.toNat then none else some (mk k 0 (l2.take c.toNat), l2.drop c.toNat)
    | 5 => match l1 with
      | [] => none
      | c :: l2 => if l2.length < c.toNat then none else some (mk k 0 (l2.take c.toNat), l2.drop c.toNat)
    | _ => some (mk k 0 [], l1)

theorem readV_bytes {l l' : List UInt8} {v : Val} (h : readV l = some (v, l')) (hr : rightB v = true) : l = bytes v ++ l' := by
  match l with
  | [] => simp [readV] at h
  | k :: l1 =>
    unfold readV at h
    simp only at h
    split at h
    · rename_i hk
      match l1 with
      | [] => simp at h
      | c :: l2 =>
        simp at h
        obtain ⟨rfl, rfl⟩ := h
        have hc := c.toNat_lt
        have : byteOf ((c.toNat : Int) % 256).toNat = c := byteOf_id _ _ (by omega)
        simp only [bytes, tail, mk, hk, this]
        rfl
    · rename_i hk
      split at h
      · simp at h
      · rename_i hl
        simp at h
        obtain ⟨rfl, rfl⟩ := h
        have h8 : (l1.take 8).length = 8 := by simp; omega
        have hb := beN_lt (l1.take 8)
        rw [h8] at hb
        simp only [bytes, tail, mk, hk]
        rw [u64_i64 _ (by omega), be8_beN _ h8, List.cons_append, List.take_append_drop]
    · rename_i hk
      split at h
      · simp at h
      · rename_i hl
        simp at h
        obtain ⟨rfl, rfl⟩ := h
        have h8 : (l1.take 8).length = 8 := by simp; omega
        have hb := beN_lt (l1.take 8)
        rw [h8] at hb
        simp only [bytes, tail, mk, hk]
        rw [u64_i64 _ (by omega), be8_beN _ h8, List.cons_append, List.take_append_drop]
    · rename_i hk
      match l1 with
      | [] => simp at h
      | c :: l2 =>
        simp only at h
        split at h
        · simp at h
        · rename_i hl
          simp at h
          obtain ⟨rfl, rfl⟩ := h
          have hsz : (mk k 0 (l2.take c.toNat)).s.size = c.toNat := by rw [size_mk]; simp; omega
          have hb : byteOf (mk k 0 (l2.take c.toNat)).s.size = c := byteOf_id _ _ (by rw [hsz]; have := c.toNat_lt; omega)
          have hk' : (mk k 0 (l2.take c.toNat)).k.toNat = 4 := hk
          simp only [bytes, tail, hk', hb, txt_mk]
          simp [mk]
    · rename_i hk
      match l1 with
      | [] => simp at h
      | c :: l2 =>
        simp only at h
        split at h
        · simp at h
        · rename_i hl
          simp at h
          obtain ⟨rfl, rfl⟩ := h
          have hsz : (mk k 0 (l2.take c.toNat)).s.size = c.toNat := by rw [size_mk]; simp; omega
          have hb : byteOf (mk k 0 (l2.take c.toNat)).s.size = c := byteOf_id _ _ (by rw [hsz]; have := c.toNat_lt; omega)
          have hk' : (mk k 0 (l2.take c.toNat)).k.toNat = 5 := hk
          simp only [bytes, tail, hk', hb, txt_mk]
          simp [mk]
    · rename_i h1 h2 h3 h4 h5
      simp at h
      obtain ⟨rfl, rfl⟩ := h
      have hk' : (mk k 0 []).k.toNat = k.toNat := rfl
      simp only [bytes, tail]
      split <;> first | (exfalso; simp_all; done) | rfl

theorem readV_of {v : Val} (l' : List UInt8) (hr : rightB v = true) (h1 : -9223372036854775808 ≤ v.n) (h2 : v.n ≤ 9223372036854775807) : readV (bytes v ++ l') = some (v, l') := by
  obtain ⟨k, n, s⟩ := v
  unfold rightB at hr
  simp only at hr h1 h2
  have hs0 : s.size = 0 → txt ⟨k, n, s⟩ = [] := fun h => List.eq_nil_of_length_eq_zero (by rw [txt_len]; exact h)
  split at hr
  · rename_i hk
    simp only [Bool.and_eq_true, decide_eq_true_eq] at hr
    have ht := hs0 hr.2
    unfold bytes tail
    simp only [hk, List.cons_append, List.nil_append, readV]
    rw [← mk_txt ⟨k, n, s⟩, ht]
    simp [mk, hr.1]
  · rename_i hk
    simp only [Bool.and_eq_true, Bool.or_eq_true, decide_eq_true_eq] at hr
    have ht := hs0 hr.2
    have hb : ((byteOf (n % 256).toNat).toNat : Int) = n := by rw [byteOf_toNat]; omega
    unfold bytes tail
    simp only [hk, List.cons_append, List.nil_append, readV]
    rw [hb]
    have := mk_txt ⟨k, n, s⟩
    rw [ht] at this
    rw [this]
  · rename_i hk
    simp only [decide_eq_true_eq] at hr
    have ht := hs0 hr
    unfold bytes tail
    simp only [hk, List.cons_append, readV]
    rw [if_neg (by simp [be8]), List.take_left' (by simp [be8]), List.drop_left' (by simp [be8]), beN_be8 _ (u64_lt n), i64_u64 n h1 h2]
    have := mk_txt ⟨k, n, s⟩
    rw [ht] at this
    rw [this]
  · rename_i hk
    simp only [decide_eq_true_eq] at hr
    have ht := hs0 hr
    unfold bytes tail
    simp only [hk, List.cons_append, readV]
    rw [if_neg (by simp [be8]), List.take_left' (by simp [be8]), List.drop_left' (by simp [be8]), beN_be8 _ (u64_lt n), i64_u64 n h1 h2]
    have := mk_txt ⟨k, n, s⟩
    rw [ht] at this
    rw [this]
  · rename_i hk
    simp only [Bool.and_eq_true, decide_eq_true_eq] at hr
    have hb : (byteOf s.size).toNat = (txt ⟨k, n, s⟩).length := by rw [byteOf_toNat, txt_len]; show s.size % 256 = s.size; omega
    unfold bytes tail
    simp only [hk, List.cons_append, readV]
    rw [hb, if_neg (by simp), List.take_left' rfl, List.drop_left' rfl]
    have := mk_txt ⟨k, n, s⟩
    simp only [hr.1] at this ⊢
    rw [this]
  · rename_i hk
    simp only [Bool.and_eq_true, decide_eq_true_eq] at hr
    have hb : (byteOf s.size).toNat = (txt ⟨k, n, s⟩).length := by rw [byteOf_toNat, txt_len]; show s.size % 256 = s.size; omega
    unfold bytes tail
    simp only [hk, List.cons_append, readV]
    rw [hb, if_neg (by simp), List.take_left' rfl, List.drop_left' rfl]
    have := mk_txt ⟨k, n, s⟩
    simp only [hr.1] at this ⊢
    rw [this]
  · cases hr

/-- So many values of bytes; with a look whether each is right (the code's), and without (the document's). -/
def readN : Nat → List UInt8 → Option (List Val × List UInt8)
  | 0, l => some ([], l)
  | k + 1, l => match readV l with
    | none => none
    | some (v, l') => if rightB v = true then (readN k l').map (fun p => (v :: p.1, p.2)) else none
def rawN : Nat → List UInt8 → Option (List Val × List UInt8)
  | 0, l => some ([], l)
  | k + 1, l => match readV l with
    | none => none
    | some (v, l') => (rawN k l').map (fun p => (v :: p.1, p.2))

theorem readN_raw : ∀ (k : Nat) (l : List UInt8) (vs : List Val) (r : List UInt8), readN k l = some (vs, r) ↔ rawN k l = some (vs, r) ∧ vs.all rightB = true := by
  intro k
  induction k with
  | zero => intro l vs r; simp only [readN, rawN, Option.some.injEq, Prod.mk.injEq]; exact ⟨fun h => ⟨h, by obtain ⟨rfl, _⟩ := h; rfl⟩, fun h => h.1⟩
  | succ k ih =>
    intro l vs r
    unfold readN rawN
    cases hv : readV l with
    | none => simp
    | some p =>
      obtain ⟨v, l'⟩ := p
      simp only
      constructor
      · intro h
        split at h
        · rename_i hr
          simp only [Option.map_eq_some_iff] at h
          obtain ⟨⟨vs', r'⟩, h1, h2⟩ := h
          simp at h2
          obtain ⟨rfl, rfl⟩ := h2
          obtain ⟨h3, h4⟩ := (ih l' vs' r').1 h1
          exact ⟨by rw [h3]; rfl, by simp [hr]; simpa using h4⟩
        · cases h
      · rintro ⟨h, ha⟩
        simp only [Option.map_eq_some_iff] at h
        obtain ⟨⟨vs', r'⟩, h1, h2⟩ := h
        simp at h2
        obtain ⟨rfl, rfl⟩ := h2
        simp only [List.all_cons, Bool.and_eq_true] at ha
        rw [if_pos ha.1, (ih l' vs' r').2 ⟨h1, ha.2⟩]
        rfl
theorem rawN_flat : ∀ (k : Nat) (l : List UInt8) (vs : List Val) (r : List UInt8), rawN k l = some (vs, r) → vs.all rightB = true → l = flat vs ++ r ∧ vs.length = k := by
  intro k
  induction k with
  | zero => intro l vs r h _; simp only [rawN, Option.some.injEq, Prod.mk.injEq] at h; obtain ⟨rfl, rfl⟩ := h; simp [flat]
  | succ k ih =>
    intro l vs r h ha
    unfold rawN at h
    cases hv : readV l with
    | none => rw [hv] at h; simp at h
    | some p =>
      obtain ⟨v, l'⟩ := p
      rw [hv] at h
      simp only [Option.map_eq_some_iff] at h
      obtain ⟨⟨vs', r'⟩, h1, h2⟩ := h
      simp at h2
      obtain ⟨rfl, rfl⟩ := h2
      simp only [List.all_cons, Bool.and_eq_true] at ha
      obtain ⟨h3, h4⟩ := ih l' vs' r' h1 ha.2
      exact ⟨by rw [readV_bytes hv ha.1, h3, flat_cons, List.append_assoc], by simp [h4]⟩
theorem readN_of : ∀ (vs : List Val) (r : List UInt8), vs.all rightB = true → (∀ v ∈ vs, -9223372036854775808 ≤ v.n ∧ v.n ≤ 9223372036854775807) → readN vs.length (flat vs ++ r) = some (vs, r) := by
  intro vs
  induction vs with
  | nil => intro r _ _; simp [readN, flat]
  | cons v vs ih =>
    intro r ha hn
    simp only [List.all_cons, Bool.and_eq_true] at ha
    have hv := hn v (by simp)
    rw [List.length_cons, readN, flat_cons, List.append_assoc, readV_of _ ha.1 hv.1 hv.2]
    simp only [ha.1, if_true, ih r ha.2 (fun u hu => hn u (by simp [hu]))]
    rfl

/-- The code's reading, and the document's. -/
def read (l : List UInt8) : Option (List Val) :=
  if 480 < l.length then none else
  match l with
  | [] => none
  | c :: t => if 12 < c.toNat then none else
    match readN c.toNat t with
    | some (vs, []) => some vs
    | _ => none
def refRead (l : List UInt8) : Option (List Val) :=
  match l with
  | [] => none
  | c :: t =>
    match rawN c.toNat t with
    | some (vs, _) => if row vs = (0, l) then some vs else none
    | none => none

theorem row_ok {vs : List Val} {l : List UInt8} : row vs = (0, l) ↔ vs.all rightB = true ∧ vs.length ≤ 12 ∧ 1 + (flat vs).length ≤ 480 ∧ l = byteOf vs.length :: flat vs := by
  unfold row
  split
  · rename_i h; simp [h]
  · rename_i h
    rw [Bool.not_eq_false] at h
    split
    · simp; omega
    · split
      · simp; omega
      · constructor
        · intro e; injection e with _ e; exact ⟨h, by omega, by omega, e.symm⟩
        · rintro ⟨_, _, _, rfl⟩; rfl
theorem read_ok {l : List UInt8} {vs : List Val} : read l = some vs ↔ ∃ c t, l = c :: t ∧ l.length ≤ 480 ∧ c.toNat ≤ 12 ∧ readN c.toNat t = some (vs, []) := by
  unfold read
  split
  · rename_i h
    constructor
    · intro e; cases e
    · rintro ⟨c, t, rfl, h1, _⟩; omega
  · rename_i h
    match l with
    | [] => simp
    | c :: t =>
      simp only
      split
      · rename_i hc
        constructor
        · intro e; cases e
        · rintro ⟨c', t', e, _, h2, _⟩; injection e with e1 e2; subst e1; omega
      · rename_i hc
        split
        · rename_i vs' hr
          constructor
          · intro e; injection e with e; subst e; exact ⟨c, t, rfl, by omega, by omega, hr⟩
          · rintro ⟨c', t', e, _, _, h3⟩; injection e with e1 e2; subst e1 e2; rw [hr] at h3; injection h3 with h3; injection h3 with h3; rw [h3]
        · rename_i hr
          constructor
          · intro e; cases e
          · rintro ⟨c', t', e, _, _, h3⟩; injection e with e1 e2; subst e1 e2; exact absurd h3 (hr _)
theorem refRead_ok {l : List UInt8} {vs : List Val} : refRead l = some vs ↔ ∃ c t r, l = c :: t ∧ rawN c.toNat t = some (vs, r) ∧ row vs = (0, l) := by
  unfold refRead
  match l with
  | [] => simp
  | c :: t =>
    simp only
    split
    · rename_i vs' r hr
      split
      · rename_i hrow
        constructor
        · intro e; injection e with e; subst e; exact ⟨c, t, r, rfl, hr, hrow⟩
        · rintro ⟨c', t', r', e, h2, h3⟩; injection e with e1 e2; subst e1 e2; rw [hr] at h2; injection h2 with h2; injection h2 with h2; rw [h2]
      · rename_i hrow
        constructor
        · intro e; cases e
        · rintro ⟨c', t', r', e, h2, h3⟩; injection e with e1 e2; subst e1 e2; rw [hr] at h2; injection h2 with h2; injection h2 with h2; subst h2; exact absurd h3 hrow
    · rename_i hr
      constructor
      · intro e; cases e
      · rintro ⟨c', t', r', e, h2, h3⟩; injection e with e1 e2; subst e1 e2; rw [hr] at h2; cases h2
theorem read_row {l : List UInt8} {vs : List Val} (h : read l = some vs) : row vs = (0, l) := by
  obtain ⟨c, t, rfl, h1, h2, h3⟩ := read_ok.1 h
  obtain ⟨h4, h5⟩ := (readN_raw _ _ _ _).1 h3
  obtain ⟨h6, h7⟩ := rawN_flat _ _ _ _ h4 h5
  rw [List.append_nil] at h6
  subst h6
  have hc : byteOf vs.length = c := by apply byteOf_id; rw [h7]; have := c.toNat_lt; omega
  exact row_ok.2 ⟨h5, by omega, by simp at h1; omega, by rw [hc]⟩
theorem row_read {l : List UInt8} {vs : List Val} (h : row vs = (0, l)) (hn : ∀ v ∈ vs, -9223372036854775808 ≤ v.n ∧ v.n ≤ 9223372036854775807) : read l = some vs := by
  obtain ⟨h1, h2, h3, rfl⟩ := row_ok.1 h
  have hc : (byteOf vs.length).toNat = vs.length := by rw [byteOf_toNat]; omega
  refine read_ok.2 ⟨_, _, rfl, by simp; omega, by omega, ?_⟩
  rw [hc]
  have := readN_of vs [] h1 hn
  rwa [List.append_nil] at this
theorem read_ref (l : List UInt8) : read l = refRead l := by
  apply Option.ext
  intro vs
  constructor
  · intro h
    have hrow := read_row h
    obtain ⟨c, t, rfl, h1, h2, h3⟩ := read_ok.1 h
    exact refRead_ok.2 ⟨c, t, [], rfl, ((readN_raw _ _ _ _).1 h3).1, hrow⟩
  · intro h
    obtain ⟨c, t, r, rfl, h1, h2⟩ := refRead_ok.1 h
    obtain ⟨h3, h4, h5, h6⟩ := row_ok.1 h2
    obtain ⟨h7, h8⟩ := rawN_flat _ _ _ _ h1 h3
    injection h6 with e1 e2
    have hr : r = [] := by
      have := congrArg List.length h7
      rw [e2, List.length_append] at this
      exact List.eq_nil_of_length_eq_zero (by omega)
    subst hr
    refine read_ok.2 ⟨c, t, rfl, by rw [List.length_cons, e2]; omega, by omega, (readN_raw _ _ _ _).2 ⟨h1, h3⟩⟩
end Go.Proofs.YticljmgcgjibpaaGreatDoor.Cell
