/-
  Plain: unlike things stand at unlike places, and a table's rows lie together. Conditions: numbers within 64 bits. No program is named here.
-/
import Derived.Test.YtccapkkaeljnfaaOrdMath
import Derived.Test.YtccapkkaeljnfaaNameMath
namespace Go.Proofs.Ytccapkkaeljnfaa
open Go.RowKit

/-- All bytes of a name are 48 or more. -/
theorem pre_big : ∀ (l : List UInt8) (i : Nat), Cell.preB i l = true → ∀ c ∈ l, 48 ≤ c.toNat := by
  intro l
  induction l with
  | nil => intro i _ c hc; cases hc
  | cons d l ih =>
    intro i h c hc
    simp only [Cell.preB, Bool.and_eq_true, decide_eq_true_eq] at h
    rcases List.mem_cons.1 hc with rfl | hc
    · have := h.1
      unfold Cell.stepP at this
      omega
    · exact ih _ h.2 c hc
theorem name_big {l : List UInt8} (h : Cell.nameB l = true) : ∀ c ∈ l, 48 ≤ c.toNat := by
  unfold Cell.nameB at h
  simp only [Bool.and_eq_true] at h
  exact pre_big l 0 h.2
/-- Two names, each with a byte below all of a name's behind it. -/
theorem name_cut : ∀ (x y : List UInt8) (e f : UInt8) (X Y : List UInt8), (∀ c ∈ x, 48 ≤ c.toNat) → (∀ c ∈ y, 48 ≤ c.toNat) → e.toNat < 48 → f.toNat < 48 → x ++ e :: X = y ++ f :: Y → x = y ∧ e :: X = f :: Y := by
  intro x
  induction x with
  | nil =>
    intro y e f X Y _ hy he _ h
    cases y with
    | nil => exact ⟨rfl, h⟩
    | cons d y =>
      simp only [List.nil_append, List.cons_append, List.cons.injEq] at h
      have := hy d (by simp)
      rw [← h.1] at this
      omega
  | cons c x ih =>
    intro y e f X Y hx hy he hf h
    cases y with
    | nil =>
      simp only [List.nil_append, List.cons_append, List.cons.injEq] at h
      have := hx c (by simp)
      rw [h.1] at this
      omega
    | cons d y =>
      simp only [List.cons_append, List.cons.injEq] at h
      obtain ⟨rfl, h⟩ := h
      obtain ⟨rfl, h2⟩ := ih y e f X Y (fun c hc => hx c (by simp [hc])) (fun c hc => hy c (by simp [hc])) he hf h
      exact ⟨rfl, h2⟩
theorem name_cmp : ∀ (x y : List UInt8) (e f : UInt8) (X Y : List UInt8), (∀ c ∈ x, 48 ≤ c.toNat) → (∀ c ∈ y, 48 ≤ c.toNat) → e.toNat < 48 → f.toNat < 48 → x ≠ y → cmpB (x ++ e :: X) (y ++ f :: Y) = cmpB x y := by
  intro x
  induction x with
  | nil =>
    intro y e f X Y _ hy he _ h
    cases y with
    | nil => exact absurd rfl h
    | cons d y =>
      have := hy d (by simp)
      simp only [List.nil_append, List.cons_append, cmpB]
      rw [if_pos (by rw [UInt8.lt_iff_toNat_lt]; omega)]
  | cons c x ih =>
    intro y e f X Y hx hy he hf h
    cases y with
    | nil =>
      have := hx c (by simp)
      simp only [List.nil_append, List.cons_append, cmpB]
      rw [if_neg (by rw [UInt8.lt_iff_toNat_lt]; omega), if_pos (by rw [UInt8.lt_iff_toNat_lt]; omega)]
    | cons d y =>
      simp only [List.cons_append, cmpB]
      by_cases h1 : c < d
      · rw [if_pos h1, if_pos h1]
      · rw [if_neg h1, if_neg h1]
        by_cases h2 : d < c
        · rw [if_pos h2, if_pos h2]
        · rw [if_neg h2, if_neg h2]
          have hcd : c = d := by
            rw [UInt8.lt_iff_toNat_lt] at h1 h2
            exact UInt8.toNat_inj.1 (by omega)
          subst hcd
          exact ih y e f X Y (fun c hc => hx c (by simp [hc])) (fun c hc => hy c (by simp [hc])) he hf (fun e => h (by rw [e]))

/-- A key that was told. -/
theorem joinKey_form {p : Nat × List UInt8} {v : Cell.Val} {a : List UInt8} (h : Cell.joinKey p v = (0, a)) : p.1 = 0 ∧ ∃ k, Cell.key v = (0, k) ∧ a = p.2 ++ k := by
  unfold Cell.joinKey at h
  split at h
  · rename_i h1
    injection h with h _
    exact absurd h h1
  · rename_i h1
    split at h
    · rename_i h2
      injection h with h _
      exact absurd h h2
    · rename_i h2
      injection h with _ h
      have e1 : p.1 = 0 := by omega
      have e2 : (Cell.key v).1 = 0 := by omega
      exact ⟨e1, (Cell.key v).2, by rw [← e2], h.symm⟩
theorem place_form {letter : UInt8} {t : Int} {kind : List UInt8} {ns : List (List UInt8)} (h : (Cell.place letter t kind ns).1 = 0) : (0 ≤ t ∧ t < 4) ∧ ns.all Cell.nameB = true ∧ (Cell.place letter t kind ns).2 = letter :: Cell.byteOf t.toNat :: (kind ++ Cell.namesOf ns) := by
  by_cases h1 : t < 0 ∨ 4 ≤ t
  · rw [Cell.place_far h1] at h
    cases h
  · cases h2 : ns.all Cell.nameB with
    | false =>
      rw [Cell.place_bad h1 h2] at h
      cases h
    | true => exact ⟨by omega, rfl, by rw [Cell.place_ok h1 h2]⟩
theorem rowKey_form {t : Int} {tbl a : List UInt8} {v : Cell.Val} (h : Cell.rowKey t tbl v = (0, a)) : (0 ≤ t ∧ t < 4) ∧ Cell.nameB tbl = true ∧ ∃ k, Cell.key v = (0, k) ∧ a = 114 :: Cell.byteOf t.toNat :: (tbl ++ 0 :: k) := by
  obtain ⟨h1, k, hk, rfl⟩ := joinKey_form h
  obtain ⟨ht, hn, he⟩ := place_form h1
  refine ⟨ht, by simpa using hn, k, hk, ?_⟩
  rw [he]
  simp [Cell.namesOf]
theorem uniqueKey_form {t : Int} {tbl col a : List UInt8} {v : Cell.Val} (h : Cell.uniqueKey t tbl col v = (0, a)) : (0 ≤ t ∧ t < 4) ∧ Cell.nameB tbl = true ∧ Cell.nameB col = true ∧ ∃ k, Cell.key v = (0, k) ∧ a = 117 :: Cell.byteOf t.toNat :: (tbl ++ 0 :: (col ++ 0 :: k)) := by
  obtain ⟨h1, k, hk, rfl⟩ := joinKey_form h
  obtain ⟨ht, hn, he⟩ := place_form h1
  simp only [List.all_cons, List.all_nil, Bool.and_true, Bool.and_eq_true] at hn
  refine ⟨ht, hn.1, hn.2, k, hk, ?_⟩
  rw [he]
  simp [Cell.namesOf]
theorem byteOf_inj {t t' : Int} (h : 0 ≤ t ∧ t < 4) (h' : 0 ≤ t' ∧ t' < 4) (he : Cell.byteOf t.toNat = Cell.byteOf t'.toNat) : t = t' := by
  have := congrArg UInt8.toNat he
  rw [Cell.byteOf_toNat, Cell.byteOf_toNat] at this
  omega

theorem apart_rows {t t' : Int} {tbl tbl' a b : List UInt8} {v v' : Cell.Val} (ha : Cell.rowKey t tbl v = (0, a)) (hb : Cell.rowKey t' tbl' v' = (0, b)) (bv : Bd v) (bv' : Bd v') : b.isPrefixOf a = true ↔ (t = t' ∧ tbl = tbl') ∧ v = v' := by
  obtain ⟨ht, hn, k, hk, rfl⟩ := rowKey_form ha
  obtain ⟨ht', hn', k', hk', rfl⟩ := rowKey_form hb
  rw [List.isPrefixOf_iff_prefix]
  constructor
  · rintro ⟨r, hr⟩
    simp only [List.cons_append, List.cons.injEq, true_and, List.append_assoc] at hr
    obtain ⟨e1, hr⟩ := hr
    obtain ⟨e2, hr⟩ := name_cut _ _ 0 0 _ _ (name_big hn') (name_big hn) (by decide) (by decide) hr
    simp only [List.cons.injEq, true_and] at hr
    have := (key_prefix (r := r) hk hk' bv bv' [] (by rw [List.append_nil]; exact hr)).1
    exact ⟨⟨(byteOf_inj ht' ht e1).symm, e2.symm⟩, this⟩
  · rintro ⟨⟨rfl, rfl⟩, rfl⟩
    rw [hk] at hk'
    injection hk' with _ e
    rw [e]
    exact List.prefix_refl _
theorem apart_uniques {t t' : Int} {tbl tbl' col col' a b : List UInt8} {v v' : Cell.Val} (ha : Cell.uniqueKey t tbl col v = (0, a)) (hb : Cell.uniqueKey t' tbl' col' v' = (0, b)) (bv : Bd v) (bv' : Bd v') : b.isPrefixOf a = true ↔ ((t = t' ∧ tbl = tbl') ∧ col = col') ∧ v = v' := by
  obtain ⟨ht, hn, hc, k, hk, rfl⟩ := uniqueKey_form ha
  obtain ⟨ht', hn', hc', k', hk', rfl⟩ := uniqueKey_form hb
  rw [List.isPrefixOf_iff_prefix]
  constructor
  · rintro ⟨r, hr⟩
    simp only [List.cons_append, List.cons.injEq, true_and, List.append_assoc] at hr
    obtain ⟨e1, hr⟩ := hr
    obtain ⟨e2, hr⟩ := name_cut _ _ 0 0 _ _ (name_big hn') (name_big hn) (by decide) (by decide) hr
    simp only [List.cons.injEq, true_and] at hr
    obtain ⟨e3, hr⟩ := name_cut _ _ 0 0 _ _ (name_big hc') (name_big hc) (by decide) (by decide) hr
    simp only [List.cons.injEq, true_and] at hr
    have := (key_prefix (r := r) hk hk' bv bv' [] (by rw [List.append_nil]; exact hr)).1
    exact ⟨⟨⟨(byteOf_inj ht' ht e1).symm, e2.symm⟩, e3.symm⟩, this⟩
  · rintro ⟨⟨⟨rfl, rfl⟩, rfl⟩, rfl⟩
    rw [hk] at hk'
    injection hk' with _ e
    rw [e]
    exact List.prefix_refl _
theorem apart_kinds {t t' : Int} {tbl tbl' col a c : List UInt8} {v v' : Cell.Val} (ha : Cell.rowKey t tbl v = (0, a)) (hc : Cell.uniqueKey t' tbl' col v' = (0, c)) : c.isPrefixOf a = false ∧ a.isPrefixOf c = false := by
  obtain ⟨_, _, k, _, rfl⟩ := rowKey_form ha
  obtain ⟨_, _, _, k', _, rfl⟩ := uniqueKey_form hc
  constructor <;> rfl
theorem row_short {t : Int} {tbl a : List UInt8} {v : Cell.Val} (ha : Cell.rowKey t tbl v = (0, a)) : a.length ≤ 128 := by
  obtain ⟨_, k, hk, rfl⟩ := joinKey_form ha
  have h1 := Cell.place_len 114 t [] [tbl]
  have h2 := Cell.key_len v
  rw [hk] at h2
  simp only [List.length_append, List.length_cons, List.length_nil] at h1 h2 ⊢
  omega
theorem unique_short {t : Int} {tbl col a : List UInt8} {v : Cell.Val} (ha : Cell.uniqueKey t tbl col v = (0, a)) : a.length ≤ 128 := by
  obtain ⟨_, k, hk, rfl⟩ := joinKey_form ha
  have h1 := Cell.place_len 117 t [] [tbl, col]
  have h2 := Cell.key_len v
  rw [hk] at h2
  simp only [List.length_append, List.length_cons, List.length_nil] at h1 h2 ⊢
  omega
theorem rows_form {t : Int} {tbl a : List UInt8} {v : Cell.Val} (ha : Cell.rowKey t tbl v = (0, a)) : Cell.rowsOf t tbl = (0, 114 :: Cell.byteOf t.toNat :: (tbl ++ [0]), 114 :: Cell.byteOf t.toNat :: (tbl ++ [1])) := by
  obtain ⟨h1, _⟩ := joinKey_form ha
  obtain ⟨_, _, he⟩ := place_form h1
  unfold Cell.rowsOf
  rw [if_neg (by simp [h1]), he]
  have e : ([] : List UInt8) ++ Cell.namesOf [tbl] = tbl ++ [0] := by simp [Cell.namesOf]
  rw [e]
  have : Cell.upper (114 :: Cell.byteOf t.toNat :: (tbl ++ [0])) = 114 :: Cell.byteOf t.toNat :: (tbl ++ [1]) := by
    unfold Cell.upper
    rw [show (114 :: Cell.byteOf t.toNat :: (tbl ++ [0]) : List UInt8) = (114 :: Cell.byteOf t.toNat :: tbl) ++ [0] by simp, List.dropLast_concat]
    simp
  rw [this]
theorem key_pos {v : Cell.Val} {k : List UInt8} (h : Cell.key v = (0, k)) : ∃ c r, k = c :: r := ⟨_, _, (key_form h).2⟩
theorem cmpB_hd {a b : UInt8} (x y : List UInt8) (h : a ≠ b) : cmpB (a :: x) (b :: y) = cmpI a.toNat b.toNat := by
  simp only [cmpB]
  by_cases h1 : a < b
  · rw [if_pos h1]
    rw [UInt8.lt_iff_toNat_lt] at h1
    exact (cmpI_lt (by omega)).symm
  · rw [if_neg h1]
    by_cases h2 : b < a
    · rw [if_pos h2]
      rw [UInt8.lt_iff_toNat_lt] at h2
      exact (cmpI_gt (by omega)).symm
    · rw [UInt8.lt_iff_toNat_lt] at h1 h2
      exact absurd (UInt8.toNat_inj.1 (by omega)) h
theorem rows_in {t t' : Int} {tbl tbl' a b : List UInt8} {v v' : Cell.Val} (ha : Cell.rowKey t tbl v = (0, a)) (hb : Cell.rowKey t' tbl' v' = (0, b)) :
    (cmpB (114 :: Cell.byteOf t.toNat :: (tbl ++ [0])) b ≤ 0 ∧ cmpB b (114 :: Cell.byteOf t.toNat :: (tbl ++ [1])) < 0) ↔ (t = t' ∧ tbl = tbl') := by
  obtain ⟨ht, hn, k, hk, rfl⟩ := rowKey_form ha
  obtain ⟨ht', hn', k', hk', rfl⟩ := rowKey_form hb
  simp only [cmpB_cons]
  by_cases e1 : t = t'
  · subst e1
    simp only [cmpB_cons]
    by_cases e2 : tbl = tbl'
    · subst e2
      obtain ⟨c, r, rfl⟩ := key_pos hk'
      rw [cmpB_append, cmpB_append]
      refine ⟨fun _ => by simp, fun _ => ⟨?_, ?_⟩⟩
      · rw [cmpB_cons]
        show (-1 : Int) ≤ 0
        omega
      · rw [cmpB_hd _ _ (by decide)]
        decide
    · rw [name_cmp tbl tbl' 0 0 [] k' (name_big hn) (name_big hn') (by decide) (by decide) e2, name_cmp tbl' tbl 0 1 k' [] (name_big hn') (name_big hn) (by decide) (by decide) (fun e => e2 e.symm)]
      have h1 := cmpB_anti tbl tbl'
      refine ⟨fun ⟨h2, h3⟩ => ?_, fun ⟨_, h⟩ => absurd h e2⟩
      omega
  · have hne : Cell.byteOf t.toNat ≠ Cell.byteOf t'.toNat := fun e => e1 (byteOf_inj ht ht' e)
    rw [cmpB_hd _ _ hne, cmpB_hd _ _ (fun e => hne e.symm)]
    refine ⟨fun ⟨h2, h3⟩ => ?_, fun ⟨h, _⟩ => absurd h e1⟩
    exfalso
    unfold cmpI at h2 h3
    by_cases g1 : ((Cell.byteOf t.toNat).toNat : Int) < ((Cell.byteOf t'.toNat).toNat : Int)
    · rw [if_neg (by omega), if_pos g1] at h3
      omega
    · rw [if_neg g1] at h2
      by_cases g2 : ((Cell.byteOf t'.toNat).toNat : Int) < ((Cell.byteOf t.toNat).toNat : Int)
      · rw [if_pos g2] at h2
        omega
      · rw [Cell.byteOf_toNat, Cell.byteOf_toNat] at g1 g2
        omega
theorem rows_out {t t' : Int} {tbl tbl' col d : List UInt8} {v' : Cell.Val} (hd : Cell.uniqueKey t' tbl' col v' = (0, d)) : ¬ cmpB d (114 :: Cell.byteOf t.toNat :: (tbl ++ [1])) < 0 := by
  obtain ⟨_, _, _, k', _, rfl⟩ := uniqueKey_form hd
  rw [cmpB_hd _ _ (by decide)]
  decide
theorem rows_out2 {t t' : Int} {tbl tbl' col d : List UInt8} {v' : Cell.Val} (hd : Cell.uniqueKey t' tbl' col v' = (0, d)) : cmpB (114 :: Cell.byteOf t.toNat :: (tbl ++ [0])) d ≤ 0 := by
  obtain ⟨_, _, _, k', _, rfl⟩ := uniqueKey_form hd
  rw [cmpB_hd _ _ (by decide)]
  decide
theorem bool_of {b : Bool} {P : Prop} (h : b = true ↔ P) : (P → b = true) ∧ (¬ P → b = false) := ⟨h.2, fun hn => by cases hb : b with | false => rfl | true => exact absurd (h.1 hb) hn⟩
theorem str_ne {s s' : ByteArray} (h : ¬ s = s') : ¬ s.data.toList = s'.data.toList := by
  intro e
  apply h
  obtain ⟨⟨a⟩⟩ := s
  obtain ⟨⟨b⟩⟩ := s'
  simp at e
  rw [e]
end Go.Proofs.Ytccapkkaeljnfaa
