/-
  The walks of the three-valued logic: value.place, And, Or, Not and chanceryref17.known, And, Not, Or. Conditions: the tables of package value are as listed.
-/
import Derived.Test.YticljmgcgjibpaaGreatDoorRight
import Derived.Test.YticljmgcgjibpaaGreatDoorRefE
namespace Go.Proofs.YticljmgcgjibpaaGreatDoor
open Go.RowKit

namespace Lg
/-- A truth's place. -/
def kn (a : Nat) : Nat := min a 2
def and_ (a b : Nat) : Nat := if kn a = 0 ∨ kn b = 0 then 0 else if kn a = 2 ∨ kn b = 2 then 2 else 1
def not_ (a : Nat) : Nat := if kn a = 1 then 0 else if kn a = 0 then 1 else 2
def or_ (a b : Nat) : Nat := not_ (and_ (not_ a) (not_ b))
theorem kn_lt (a : Nat) : kn a < 3 := by unfold kn; omega
theorem and_lt (a b : Nat) : and_ a b < 3 := by unfold and_; repeat' split
                                                all_goals omega
theorem not_lt (a : Nat) : not_ a < 3 := by unfold not_; repeat' split
                                            all_goals omega
theorem or_lt (a b : Nat) : or_ a b < 3 := not_lt _
def andT : List Nat := [0, 0, 0, 0, 1, 2, 0, 2, 2]
def orT : List Nat := [0, 1, 2, 1, 1, 1, 2, 1, 2]
def notT : List Nat := [1, 0, 2]
theorem and_at (a b : Nat) : andT[kn a * 3 + kn b]? = some (and_ a b) := by
  unfold and_
  have h1 := kn_lt a
  have h2 := kn_lt b
  generalize kn a = x at *
  generalize kn b = y at *
  match x, h1 with
  | 0, _ => match y, h2 with | 0, _ => rfl | 1, _ => rfl | 2, _ => rfl
  | 1, _ => match y, h2 with | 0, _ => rfl | 1, _ => rfl | 2, _ => rfl
  | 2, _ => match y, h2 with | 0, _ => rfl | 1, _ => rfl | 2, _ => rfl
theorem not_kn (a : Nat) : not_ a = if kn a = 1 then 0 else if kn a = 0 then 1 else 2 := rfl
theorem kn_small {a : Nat} (h : a < 3) : kn a = a := by unfold kn; omega
theorem or_at (a b : Nat) : orT[kn a * 3 + kn b]? = some (or_ a b) := by
  unfold or_
  rw [not_kn (and_ _ _), kn_small (and_lt _ _)]
  unfold and_
  rw [kn_small (not_lt a), kn_small (not_lt b)]
  unfold not_
  have h1 := kn_lt a
  have h2 := kn_lt b
  generalize kn a = x at *
  generalize kn b = y at *
  match x, h1 with
  | 0, _ => match y, h2 with | 0, _ => rfl | 1, _ => rfl | 2, _ => rfl
  | 1, _ => match y, h2 with | 0, _ => rfl | 1, _ => rfl | 2, _ => rfl
  | 2, _ => match y, h2 with | 0, _ => rfl | 1, _ => rfl | 2, _ => rfl
theorem not_at (a : Nat) : notT[kn a]? = some (not_ a) := by
  unfold not_
  have h1 := kn_lt a
  generalize kn a = x at *
  match x, h1 with
  | 0, _ => rfl
  | 1, _ => rfl
  | 2, _ => rfl
end Lg
/-- Block g is the table of these bytes (and one that lives on). -/
def Tb (w : World) (g : Nat) (l : List Nat) : Prop := (∃ t m, w.heap[g]? = some (.cells (l.map fun (n : Nat) => Value.int .u8 (n : Int)).toArray t m))
theorem Tb.lt {w : World} {g : Nat} {l : List Nat} (h : Tb w g l) : g < w.heap.size := by obtain ⟨t, m, h⟩ := h; exact lt_of_block h
theorem Tb.below {w w' : World} {g C : Nat} {l : List Nat} (h : Tb w g l) (hb : Below C w w') (hC : g < C) : Tb w' g l := by obtain ⟨t, m, h⟩ := h; exact ⟨t, m, (hb.block g hC).trans h⟩
theorem Tb.cell {w : World} {g i n : Nat} {l : List Nat} (h : Tb w g l) (hi : l[i]? = some n) : w.cell? ⟨g, i, none⟩ = some (.int .u8 (n : Int)) := by
  obtain ⟨t, m, h⟩ := h
  rw [cell_of_row w g i _ t m h]
  simp [hi]
abbrev TAnd (w : World) : Prop := Tb w (0 : Nat) Lg.andT
abbrev TOr (w : World) : Prop := Tb w (1 : Nat) Lg.orT
abbrev TNot (w : World) : Prop := Tb w (2 : Nat) Lg.notT

theorem quiet_l {P : Program} {f : FuncId} {args : Array Value} {w : World} {n : Nat} {v : Value} (h : Calls P f args (w.drewN n) fun e w' => e = .returned v ∧ w.drewN n = w') :
    Calls P f args (w.drewN n) fun e w'' => e = .returned v ∧ ∃ m, w'' = w.drewN m := h.mono fun _ _ h => ⟨h.1, _, h.2.symm⟩
theorem place_any (a : Nat) (w : World) : Calls Tryz.prog 86 #[.int .u8 (a : Int)] w fun e w' => e = .returned (.int .i64 ((Lg.kn a : Nat) : Int)) ∧ w = w' := by
  obtain ⟨k, hk⟩ : ∃ k, k = Lg.kn a := ⟨_, rfl⟩
  rw [← hk]
  unfold Lg.kn at hk
  by_cases h : a ≤ 2
  · obtain rfl : a = k := by omega
    have hw : IntKind.i64.wrap (a : Int) = (a : Int) := by rw [IntKind.wrap_i64]; omega
    have hm : min (a : Int) 2 = (a : Int) := by omega
    have t1 : decide ((2 : Int) < (a : Int)) = false := by simp; omega
    clear hk
    go_enter Tryz.func86, Tryz.ntmps86
    go_wp2
    go_ret
    exact ⟨rfl, rfl⟩
  · obtain rfl : k = 2 := by omega
    have hm : min (a : Int) 2 = 2 := by omega
    have t1 : decide ((2 : Int) < (a : Int)) = true := by simp; omega
    clear hk
    go_enter Tryz.func86, Tryz.ntmps86
    go_wp2
    go_ret
    exact ⟨rfl, rfl⟩
set_option maxRecDepth 8000 in
set_option maxHeartbeats 800000 in
theorem vAnd_any (a b : Nat) (w : World) (hT : TAnd w) : Calls Tryz.prog 54 #[.int .u8 (a : Int), .int .u8 (b : Int)] w fun e w' => e = .returned (.int .u8 ((Lg.and_ a b : Nat) : Int)) ∧ ∃ q, w' = w.drewN q := by
  have hc := Tb.cell hT (Lg.and_at a b)
  have h1 := Lg.kn_lt a
  have h2 := Lg.kn_lt b
  have HA := place_any a
  have HB := place_any b
  obtain ⟨z, hz⟩ : ∃ z, z = Lg.and_ a b := ⟨_, rfl⟩
  rw [← hz] at hc ⊢
  obtain ⟨x, hx⟩ : ∃ z, z = Lg.kn a := ⟨_, rfl⟩
  obtain ⟨y, hy⟩ : ∃ z, z = Lg.kn b := ⟨_, rfl⟩
  rw [← hx] at hc h1 HA
  rw [← hy] at hc h2 HB
  have i1 : (x : Int) < 3 := by omega
  have i2 : (y : Int) < 3 := by omega
  have GA := hide HA
  have GB := hide HB
  clear HA HB hx hy hz hT
  go_enter Tryz.func54, Tryz.ntmps54
  go_wp2_with fail
  go_quiet ((go_at_call 86; first | with_reducible exact quiet_l (GA.out _) | with_reducible exact quiet_l (GB.out _)))
  go_wp2
  go_ret
  exact ⟨rfl, _, rfl⟩
set_option maxRecDepth 8000 in
set_option maxHeartbeats 800000 in
theorem vOr_any (a b : Nat) (w : World) (hT : TOr w) : Calls Tryz.prog 56 #[.int .u8 (a : Int), .int .u8 (b : Int)] w fun e w' => e = .returned (.int .u8 ((Lg.or_ a b : Nat) : Int)) ∧ ∃ q, w' = w.drewN q := by
  have hc := Tb.cell hT (Lg.or_at a b)
  have h1 := Lg.kn_lt a
  have h2 := Lg.kn_lt b
  have HA := place_any a
  have HB := place_any b
  obtain ⟨z, hz⟩ : ∃ z, z = Lg.or_ a b := ⟨_, rfl⟩
  rw [← hz] at hc ⊢
  obtain ⟨x, hx⟩ : ∃ z, z = Lg.kn a := ⟨_, rfl⟩
  obtain ⟨y, hy⟩ : ∃ z, z = Lg.kn b := ⟨_, rfl⟩
  rw [← hx] at hc h1 HA
  rw [← hy] at hc h2 HB
  have i1 : (x : Int) < 3 := by omega
  have i2 : (y : Int) < 3 := by omega
  have GA := hide HA
  have GB := hide HB
  clear HA HB hx hy hz hT
  go_enter Tryz.func56, Tryz.ntmps56
  go_wp2_with fail
  go_quiet ((go_at_call 86; first | with_reducible exact quiet_l (GA.out _) | with_reducible exact quiet_l (GB.out _)))
  go_wp2
  go_ret
  exact ⟨rfl, _, rfl⟩
theorem vNot_any (a : Nat) (w : World) (hT : TNot w) : Calls Tryz.prog 58 #[.int .u8 (a : Int)] w fun e w' => e = .returned (.int .u8 ((Lg.not_ a : Nat) : Int)) ∧ w = w' := by
  have hc := Tb.cell hT (Lg.not_at a)
  have h1 := Lg.kn_lt a
  have HA := place_any a
  obtain ⟨z, hz⟩ : ∃ z, z = Lg.not_ a := ⟨_, rfl⟩
  rw [← hz] at hc ⊢
  obtain ⟨x, hx⟩ : ∃ z, z = Lg.kn a := ⟨_, rfl⟩
  rw [← hx] at hc h1 HA
  have i1 : (x : Int) < 3 := by omega
  have GA := hide HA
  clear HA hx hz hT
  go_enter Tryz.func58, Tryz.ntmps58
  go_wp2_with fail
  with_reducible refine (GA.out _).mono ?_
  rintro e w' ⟨rfl, rfl⟩
  go_wp2
  go_ret
  exact ⟨rfl, rfl⟩
theorem known_any (a : Nat) (w : World) : Calls Tryz.prog 71 #[.int .u8 (a : Int)] w fun e w' => e = .returned (.int .u8 ((Lg.kn a : Nat) : Int)) ∧ w = w' := by
  obtain ⟨k, hk⟩ : ∃ k, k = Lg.kn a := ⟨_, rfl⟩
  rw [← hk]
  unfold Lg.kn at hk
  by_cases h1 : a = 1
  · subst h1
    obtain rfl : k = 1 := by omega
    clear hk
    go_enter Tryz.func71, Tryz.ntmps71
    go_wp2
    go_ret
    exact ⟨rfl, rfl⟩
  · by_cases h0 : a = 0
    · subst h0
      obtain rfl : k = 0 := by omega
      clear hk h1
      go_enter Tryz.func71, Tryz.ntmps71
      go_wp2
      go_ret
      exact ⟨rfl, rfl⟩
    · obtain rfl : k = 2 := by omega
      have t1 : ((a : Int) == 1) = false := by simp; omega
      have t2 : ((a : Int) == 0) = false := by simp; omega
      clear hk h1 h0
      go_enter Tryz.func71, Tryz.ntmps71
      go_wp2
      go_ret
      exact ⟨rfl, rfl⟩
theorem rNot_any (a : Nat) (w : World) : Calls Tryz.prog 75 #[.int .u8 (a : Int)] w fun e w' => e = .returned (.int .u8 ((Lg.not_ a : Nat) : Int)) ∧ w = w' := by
  obtain ⟨z, hz⟩ : ∃ z, z = Lg.not_ a := ⟨_, rfl⟩
  have h1 := Lg.kn_lt a
  have HA := known_any a
  rw [← hz]
  unfold Lg.not_ at hz
  obtain ⟨x, hx⟩ : ∃ z, z = Lg.kn a := ⟨_, rfl⟩
  rw [← hx] at hz h1 HA
  have GA := hide HA
  clear HA hx
  obtain rfl | rfl | rfl : x = 0 ∨ x = 1 ∨ x = 2 := by omega
  all_goals
    simp only [Nat.reduceEqDiff, if_true, if_false] at hz
    subst hz
    clear h1
    go_enter Tryz.func75, Tryz.ntmps75
    go_wp2_with fail
    with_reducible refine (GA.out _).mono ?_
    rintro e w' ⟨rfl, rfl⟩
    go_wp2
    go_ret
    exact ⟨rfl, rfl⟩
set_option maxHeartbeats 1600000 in
theorem rAnd_any (a b : Nat) (w : World) : Calls Tryz.prog 73 #[.int .u8 (a : Int), .int .u8 (b : Int)] w fun e w' => e = .returned (.int .u8 ((Lg.and_ a b : Nat) : Int)) ∧ w = w' := by
  obtain ⟨z, hz⟩ : ∃ z, z = Lg.and_ a b := ⟨_, rfl⟩
  have h1 := Lg.kn_lt a
  have h2 := Lg.kn_lt b
  have HA := known_any a
  have HB := known_any b
  rw [← hz]
  unfold Lg.and_ at hz
  obtain ⟨x, hx⟩ : ∃ z, z = Lg.kn a := ⟨_, rfl⟩
  obtain ⟨y, hy⟩ : ∃ z, z = Lg.kn b := ⟨_, rfl⟩
  rw [← hx] at hz h1 HA
  rw [← hy] at hz h2 HB
  have GA := hide HA
  have GB := hide HB
  clear HA HB hx hy
  obtain rfl | rfl | rfl : x = 0 ∨ x = 1 ∨ x = 2 := by omega
  all_goals
    obtain rfl | rfl | rfl : y = 0 ∨ y = 1 ∨ y = 2 := by omega
    all_goals
      simp at hz
      subst hz
      clear h1 h2
      go_enter Tryz.func73, Tryz.ntmps73
      go_wp2_with fail
      with_reducible refine (GA.out _).mono ?_
      rintro e w' ⟨rfl, rfl⟩
      go_wp2_with fail
      with_reducible refine (GB.out _).mono ?_
      rintro e w' ⟨rfl, rfl⟩
      go_wp2
      go_ret
      exact ⟨rfl, rfl⟩
theorem rOr_any (a b : Nat) (w : World) : Calls Tryz.prog 74 #[.int .u8 (a : Int), .int .u8 (b : Int)] w fun e w' => e = .returned (.int .u8 ((Lg.or_ a b : Nat) : Int)) ∧ w = w' := by
  go_enter Tryz.func74, Tryz.ntmps74
  go_wp2_with fail
  with_reducible refine (rNot_any a _).mono ?_
  rintro e w' ⟨rfl, rfl⟩
  go_wp2_with fail
  with_reducible refine (rNot_any b _).mono ?_
  rintro e w' ⟨rfl, rfl⟩
  go_wp2_with fail
  with_reducible refine (rAnd_any (Lg.not_ a) (Lg.not_ b) _).mono ?_
  rintro e w' ⟨rfl, rfl⟩
  go_wp2_with fail
  with_reducible refine (rNot_any (Lg.and_ (Lg.not_ a) (Lg.not_ b)) _).mono ?_
  rintro e w' ⟨rfl, rfl⟩
  go_wp2_with fail
  go_ret
  exact ⟨rfl, rfl⟩
end Go.Proofs.YticljmgcgjibpaaGreatDoor

/-
  The walks of Of and Truth, of package value and of the reference. Conditions: none.
-/
namespace Go.Proofs.YticljmgcgjibpaaGreatDoor
open Go.RowKit

namespace Lg
def of_ (a : Nat) : Cell.Val := if kn a = 1 then ⟨1, 1, ⟨#[]⟩⟩ else if kn a = 0 then ⟨1, 0, ⟨#[]⟩⟩ else ⟨0, 0, ⟨#[]⟩⟩
def truth (v : Cell.Val) : Nat × Nat := if Cell.rightB v = false ∨ 1 < v.k.toNat then (0, 270) else if v.k.toNat = 0 then (2, 0) else if v.n = 1 then (1, 0) else (0, 0)
end Lg
def truV (p : Nat × Nat) : Value := .tuple #[.int .u8 ((p.1 : Nat) : Int), .int .i64 ((p.2 : Nat) : Int)]
theorem vOf_any (a : Nat) (w : World) : Calls Tryz.prog 51 #[.int .u8 (a : Int)] w fun e w' => e = .returned (valV (Lg.of_ a)) ∧ Below w.heap.size w w' := by
  obtain ⟨p, hp⟩ : ∃ p, p = Lg.of_ a := ⟨_, rfl⟩
  rw [← hp]
  unfold Lg.of_ Lg.kn at hp
  by_cases h1 : a = 1
  · subst h1
    have HP : Hid (p = ⟨1, 1, ⟨#[]⟩⟩) := hp
    clear hp
    go_enter Tryz.func51, Tryz.ntmps51
    go_wp2
    refine bodyPost_ret (v := valV p) (by rw [HP.out]; simp [results, Tryz.results51, go_sem, valV]) rfl ⟨rfl, (Below.refl _ _).alloc (Nat.le_refl _) _⟩
  · by_cases h0 : a = 0
    · subst h0
      have HP : Hid (p = ⟨1, 0, ⟨#[]⟩⟩) := hp
      clear hp h1
      go_enter Tryz.func51, Tryz.ntmps51
      go_wp2
      refine bodyPost_ret (v := valV p) (by rw [HP.out]; simp [results, Tryz.results51, go_sem, valV]) rfl ⟨rfl, (Below.refl _ _).alloc (Nat.le_refl _) _⟩
    · rw [if_neg (by omega), if_neg (by omega)] at hp
      have HP := hide hp
      have t1 : ((a : Int) == 1) = false := by simp; omega
      have t2 : ((a : Int) == 0) = false := by simp; omega
      clear hp h1 h0
      go_enter Tryz.func51, Tryz.ntmps51
      go_wp2
      refine bodyPost_ret (v := valV p) (by rw [HP.out]; simp [results, Tryz.results51, go_sem, valV]) rfl ⟨rfl, (Below.refl _ _).alloc (Nat.le_refl _) _⟩
theorem rOf_any (a : Nat) (w : World) : Calls Tryz.prog 29 #[.int .u8 (a : Int)] w fun e w' => e = .returned (valV (Lg.of_ a)) ∧ Below w.heap.size w w' := by
  obtain ⟨p, hp⟩ : ∃ p, p = Lg.of_ a := ⟨_, rfl⟩
  rw [← hp]
  unfold Lg.of_ at hp
  have h1 := Lg.kn_lt a
  have HA := known_any a
  obtain ⟨x, hx⟩ : ∃ z, z = Lg.kn a := ⟨_, rfl⟩
  rw [← hx] at hp h1 HA
  have GA := hide HA
  clear HA hx
  have HP := hide hp
  clear hp
  obtain rfl | rfl | rfl : x = 0 ∨ x = 1 ∨ x = 2 := by omega
  all_goals
    clear h1
    go_enter Tryz.func29, Tryz.ntmps29
    go_wp2_with fail
    with_reducible refine (GA.out _).mono ?_
    rintro e w' ⟨rfl, rfl⟩
    go_wp2
    refine bodyPost_ret (v := valV p) (by rw [HP.out]; simp [results, Tryz.results29, go_sem, valV]) rfl ⟨rfl, (Below.refl _ _).alloc (Nat.le_refl _) _⟩
theorem truth_n {k : UInt8} {n : Int} {s : ByteArray} (h : Cell.rightB ⟨k, n, s⟩ = true) (h1 : k.toNat = 1) : n = 0 ∨ n = 1 := by
  unfold Cell.rightB at h
  simp only [h1] at h
  simp at h
  omega
set_option maxHeartbeats 1600000 in
theorem vTruth_any (k : UInt8) (n : Int) (s : ByteArray) (w : World) : Calls Tryz.prog 31 #[.agg #[.int .u8 (k.toNat : Int), .int .i64 n, .string s]] w fun e w' => e = .returned (truV (Lg.truth ⟨k, n, s⟩)) ∧ Below w.heap.size w w' := by
  obtain ⟨p, hp⟩ : ∃ p, p = Lg.truth ⟨k, n, s⟩ := ⟨_, rfl⟩
  rw [← hp]
  unfold Lg.truth at hp
  simp only at hp
  have HN := hide (show Blk (w.alloc (.cells #[.int .u8 (k.toNat : Int), .int .i64 n, .string s] 25)) w.heap.size 25 #[.int .u8 (k.toNat : Int), .int .i64 n, .string s] from Blk.new _ _ _)
  obtain ⟨r, hr⟩ : ∃ r, r = Cell.rightB ⟨k, n, s⟩ := ⟨_, rfl⟩
  rw [← hr] at hp
  have HR := hide hr
  have HP := hide hp
  clear hp hr
  have HB : Hid (Below w.heap.size w (w.alloc (.cells #[.int .u8 (k.toNat : Int), .int .i64 n, .string s] 25))) := (Below.refl _ _).alloc (Nat.le_refl _) _
  go_enter Tryz.func31, Tryz.ntmps31
  go_wp2_with fail
  obtain ⟨w0, hw0⟩ : ∃ x, x = w.alloc (.cells #[.int .u8 (k.toNat : Int), .int .i64 n, .string s] 25) := ⟨_, rfl⟩
  rw [← hw0] at HN HB ⊢
  clear hw0
  with_reducible refine (right_any k n s w0).mono ?_
  rintro e w1 ⟨rfl, hb1⟩
  replace HB := hide (HB.out.trans (hb1.mono HB.out.size))
  replace HN := hide (HN.out.below hb1 HN.out.lt)
  clear hb1
  rw [← HR.out]
  cases r with
  | false =>
    go_wp2_with fail
    go_ret2
    exact ⟨by rw [HP.out]; rfl, HB.out⟩
  | true =>
    obtain ⟨a0, a1, a2⟩ := HN.out.c3
    by_cases h1 : 1 < k.toNat
    · have t1 : decide ((1 : Int) < (k.toNat : Int)) = true := by simp; omega
      have HF := hide (HP.out.trans (if_pos (.inr h1)))
      clear h1
      go_wp2_with fail
      go_ret2
      exact ⟨by rw [HF.out]; rfl, HB.out⟩
    · have t1 : decide ((1 : Int) < (k.toNat : Int)) = false := by simp; omega
      have HF := hide (HP.out.trans (if_neg (by simp; omega)))
      by_cases h0 : k.toNat = 0
      · have t2 : ((k.toNat : Int) == 0) = true := by simp; omega
        have HG := hide (HF.out.trans (if_pos h0))
        clear h0 h1 HP
        go_wp2_with fail
        go_ret2
        exact ⟨by rw [HG.out]; rfl, HB.out⟩
      · have t2 : ((k.toNat : Int) == 0) = false := by simp; omega
        have HG := hide (HF.out.trans (if_neg h0))
        have hn := truth_n HR.out.symm (by omega)
        clear h0 h1 HP
        rcases hn with rfl | rfl
        all_goals
          go_wp2_with fail
          go_ret2
          exact ⟨by rw [HG.out]; rfl, HB.out⟩
set_option maxHeartbeats 1600000 in
theorem rTruth_any (k : UInt8) (n : Int) (s : ByteArray) (w : World) : Calls Tryz.prog 32 #[.agg #[.int .u8 (k.toNat : Int), .int .i64 n, .string s]] w fun e w' => e = .returned (truV (Lg.truth ⟨k, n, s⟩)) ∧ Below w.heap.size w w' := by
  obtain ⟨p, hp⟩ : ∃ p, p = Lg.truth ⟨k, n, s⟩ := ⟨_, rfl⟩
  rw [← hp]
  unfold Lg.truth at hp
  simp only at hp
  have HN := hide (show Blk (w.alloc (.cells #[.int .u8 (k.toNat : Int), .int .i64 n, .string s] 25)) w.heap.size 25 #[.int .u8 (k.toNat : Int), .int .i64 n, .string s] from Blk.new _ _ _)
  obtain ⟨r, hr⟩ : ∃ r, r = Cell.rightB ⟨k, n, s⟩ := ⟨_, rfl⟩
  rw [← hr] at hp
  have HR := hide hr
  have HP := hide hp
  clear hp hr
  have HB : Hid (Below w.heap.size w (w.alloc (.cells #[.int .u8 (k.toNat : Int), .int .i64 n, .string s] 25))) := (Below.refl _ _).alloc (Nat.le_refl _) _
  go_enter Tryz.func32, Tryz.ntmps32
  go_wp2_with fail
  obtain ⟨w0, hw0⟩ : ∃ x, x = w.alloc (.cells #[.int .u8 (k.toNat : Int), .int .i64 n, .string s] 25) := ⟨_, rfl⟩
  rw [← hw0] at HN HB ⊢
  clear hw0
  with_reducible refine (refRight_any k n s w0).mono ?_
  rintro e w1 ⟨rfl, hb1⟩
  replace HB := hide (HB.out.trans (hb1.mono HB.out.size))
  replace HN := hide (HN.out.below hb1 HN.out.lt)
  clear hb1
  rw [← HR.out]
  cases r with
  | false =>
    go_wp2_with fail
    go_ret2
    exact ⟨by rw [HP.out]; rfl, HB.out⟩
  | true =>
    obtain ⟨a0, a1, a2⟩ := HN.out.c3
    by_cases h1 : 1 < k.toNat
    · have t1 : decide ((1 : Int) < (k.toNat : Int)) = true := by simp; omega
      have HF := hide (HP.out.trans (if_pos (.inr h1)))
      clear h1
      go_wp2_with fail
      go_ret2
      exact ⟨by rw [HF.out]; rfl, HB.out⟩
    · have t1 : decide ((1 : Int) < (k.toNat : Int)) = false := by simp; omega
      have HF := hide (HP.out.trans (if_neg (by simp; omega)))
      by_cases h0 : k.toNat = 0
      · have t2 : ((k.toNat : Int) == 0) = true := by simp; omega
        have HG := hide (HF.out.trans (if_pos h0))
        clear h0 h1 HP
        go_wp2_with fail
        go_ret2
        exact ⟨by rw [HG.out]; rfl, HB.out⟩
      · have t2 : ((k.toNat : Int) == 0) = false := by simp; omega
        have HG := hide (HF.out.trans (if_neg h0))
        have hn := truth_n HR.out.symm (by omega)
        clear h0 h1 HP
        rcases hn with rfl | rfl
        all_goals
          go_wp2_with fail
          go_ret2
          exact ⟨by rw [HG.out]; rfl, HB.out⟩
end Go.Proofs.YticljmgcgjibpaaGreatDoor
