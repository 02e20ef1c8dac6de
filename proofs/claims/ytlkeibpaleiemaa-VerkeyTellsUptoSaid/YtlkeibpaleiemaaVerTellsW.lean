/-
  The walk of VerkeyTells: it returns true, and writes nothing that was there. Conditions: slices read as lists of bytes, of at most 2^20 bytes.
-/
import Derived.Test.YtlkeibpaleiemaaVerLaws
namespace Go.Proofs.Ytlkeibpaleiemaa
open Go.RowKit

/-- Join, whatever it is given: one post for both ways. -/
def JoinPost (w : World) (l : List UInt8) (n : Int) (e : Ending) (w' : World) : Prop :=
  ∃ v : Value, ∃ r : List UInt8, ∃ s : Int, r = (if 0 ≤ n ∧ vmay l n.toNat = true then vjoin l n.toNat else []) ∧ s = (if 0 ≤ n ∧ vmay l n.toNat = true then 0 else 2) ∧ e = .returned (.tuple #[v, .int .i64 s]) ∧ w'.ownsRow w.heap.size 5 1 v r.length (r.map B8) ∧ Below w.heap.size w w'
theorem join_any (A : Option Addr) (k c : Nat) (l : List UInt8) (n : Int) (w : World) (hl : Rb w w.heap.size A k l) : Calls Try.prog 10 #[.slice A k c, .int .i64 n] w (JoinPost w l n) := by
  by_cases h : 0 ≤ n ∧ vmay l n.toNat = true
  · obtain ⟨h0, hm⟩ := h
    obtain ⟨n, rfl⟩ := Int.eq_ofNat_of_zero_le h0
    rw [Int.toNat_natCast] at hm
    have hm' := hm
    simp [vmay, hl.len] at hm'
    refine (join_yes A k c l n w hl (by omega) (by omega) (by omega)).mono fun e w' ⟨v, h1, h2, h3⟩ => ?_
    exact ⟨v, vjoin l n, 0, by rw [if_pos ⟨h0, by rw [Int.toNat_natCast]; exact hm⟩, Int.toNat_natCast], by rw [if_pos ⟨h0, by rw [Int.toNat_natCast]; exact hm⟩], h1, h2, h3⟩
  · refine (join_no A k c n w ?_).mono fun e w' ⟨h1, h2⟩ => ?_
    · by_cases h0 : 0 ≤ n
      · have hm : ¬ vmay l n.toNat = true := fun hm => h ⟨h0, hm⟩
        simp [vmay, hl.len] at hm
        omega
      · omega
    · subst h2
      exact ⟨_, [], 2, by rw [if_neg h], by rw [if_neg h], h1, own_nil _ _ _ _, Below.refl _ _⟩
theorem refJoin_any (A : Option Addr) (k c : Nat) (l : List UInt8) (n : Int) (w : World) (hl : Rb w w.heap.size A k l) : Calls Try.prog 17 #[.slice A k c, .int .i64 n] w (JoinPost w l n) := by
  by_cases h : 0 ≤ n ∧ vmay l n.toNat = true
  · obtain ⟨h0, hm⟩ := h
    obtain ⟨n, rfl⟩ := Int.eq_ofNat_of_zero_le h0
    rw [Int.toNat_natCast] at hm
    have hm' := hm
    simp [vmay, hl.len] at hm'
    refine (refJoin_yes A k c l n w hl (by omega) (by omega) (by omega)).mono fun e w' ⟨v, h1, h2, h3⟩ => ?_
    exact ⟨v, vjoin l n, 0, by rw [if_pos ⟨h0, by rw [Int.toNat_natCast]; exact hm⟩, Int.toNat_natCast], by rw [if_pos ⟨h0, by rw [Int.toNat_natCast]; exact hm⟩], h1, h2, h3⟩
  · refine (refJoin_no A k c n w ?_).mono fun e w' ⟨h1, h2⟩ => ?_
    · by_cases h0 : 0 ≤ n
      · have hm : ¬ vmay l n.toNat = true := fun hm => h ⟨h0, hm⟩
        simp [vmay, hl.len] at hm
        omega
      · omega
    · subst h2
      exact ⟨_, [], 2, by rw [if_neg h], by rw [if_neg h], h1, own_nil _ _ _ _, Below.refl _ _⟩

/-- The parts, told in one form. -/
theorem partPost_one {w w' : World} {l : List UInt8} {e : Ending} (h : PartPost w l e w') : ∃ (k : List UInt8) (m : Int) (ok : Bool) (v : Value), k = ((vpart l).map (·.1)).getD [] ∧ m = (((vpart l).map (·.2)).getD 0 : Nat) ∧ ok = (vpart l).isSome ∧ e = .returned (.tuple #[v, .int .i64 m, .bool ok]) ∧ w'.ownsRow w.heap.size 5 1 v k.length (k.map B8) ∧ Below w.heap.size w w' := by
  rcases h with ⟨k, n, v, h1, h2, h3, h4⟩ | ⟨h1, h2, h3⟩
  · exact ⟨k, n, true, v, by simp [h1], by simp [h1], by simp [h1], h2, h3, h4⟩
  · exact ⟨[], 0, false, _, by simp [h1], by simp [h1], by simp [h1], h2, own_nil _ _ _ _, h3⟩

set_option maxHeartbeats 1600000 in
theorem tells_any (A0 : Option Addr) (n0 c0 : Nat) (l0 : List UInt8) (x : Int) (A1 : Option Addr) (n1 c1 : Nat) (l1 : List UInt8) (w : World) (hl0 : Rb w w.heap.size A0 n0 l0) (_h0 : n0 ≤ c0) (_h0' : c0 ≤ maxLen) (_hu0 : c0 ≤ 1048576) (_hx : (Lit.int .i64 x).wf = true) (hl1 : Rb w w.heap.size A1 n1 l1) (_h1 : n1 ≤ c1) (_h1' : c1 ≤ maxLen) (_hu1 : c1 ≤ 1048576) :
    Calls Try.prog 5 #[.slice A0 n0 c0, .int .i64 x, .slice A1 n1 c1] w fun e w' => e = .returned (.bool true) ∧ Below w.heap.size w w' := by
  have HL0 := hide hl0
  have HL1 := hide hl1
  have hn0 : n0 ≤ 1048576 := by omega
  have hn1 : n1 ≤ 1048576 := by omega
  clear hl0 hl1 _hx _h0 _h0' _h1 _h1' _hu0 _hu1
  have K0 := hide fun (w' : World) (h : Below w.heap.size w w') => (HL0.out.below h (Nat.le_refl _)).more h.size
  have K1 := hide fun (w' : World) (h : Below w.heap.size w w') => (HL1.out.below h (Nat.le_refl _)).more h.size
  go_enter Try.func5, Try.ntmps5
  go_wp2_with fail
  refine (lentBytes_any A0 n0 c0 l0 _ HL0.out (by omega)).mono ?_
  rintro e w1 ⟨g1, p1, rfl, hown1, hb1⟩
  have HO1 := hide hown1
  have HB1 := hide hb1
  clear hown1 hb1
  go_wp2_with fail
  refine (lentBytes_any A1 n1 c1 l1 _ (K1.out _ HB1.out) (by omega)).mono ?_
  rintro e w2 ⟨g2, p2, rfl, hown2, hb2⟩
  have HO2 := hide hown2
  have HI2 := hide (own_below HO1.out hb2)
  have HB2 := hide (grow0 HB1.out HB1.out.size hb2)
  clear hown2 hb2 HB1 HO1
  have LI := hide fun (w' : World) (h : Below w2.heap.size w2 w') => own_below HI2.out h
  have LO := hide fun (w' : World) (h : Below w2.heap.size w2 w') => own_below HO2.out h
  have RI := hide fun (w' : World) (h : Below w2.heap.size w2 w') => (show Rb w' w'.heap.size (some ⟨g1, 0, none⟩) n0 l0 by
    have := Rb.own (own_take (LI.out w' h) (show n0 ≤ n0 + 3 by omega))
    rwa [List.take_left' HL0.out.len] at this)
  have RO := hide fun (w' : World) (h : Below w2.heap.size w2 w') => (show Rb w' w'.heap.size (some ⟨g2, 0, none⟩) n1 l1 by
    have := Rb.own (own_take (LO.out w' h) (show n1 ≤ n1 + 3 by omega))
    rwa [List.take_left' HL1.out.len] at this)
  have KK0 := hide fun (w' : World) (h : Below w2.heap.size w2 w') => K0.out w' (grow0 HB2.out HB2.out.size h)
  have KK1 := hide fun (w' : World) (h : Below w2.heap.size w2 w') => K1.out w' (grow0 HB2.out HB2.out.size h)
  go_wp2_with fail
  refine (join_any _ n0 p1 l0 x _ (RI.out _ (Below.refl _ _))).mono ?_
  rintro e w3 ⟨v3, r3, s3, hr3, hs3, rfl, hown3, hb3⟩
  have HO3 := hide hown3
  have HB3 := hide hb3
  have HR3 := hide hr3
  have HS3 := hide hs3
  clear hown3 hb3 hr3 hs3
  obtain ⟨B3, d3, rfl⟩ := own_sl HO3.out
  go_wp2_with fail
  refine (refJoin_any A0 n0 c0 l0 x _ (KK0.out _ HB3.out)).mono ?_
  rintro e w4 ⟨v4, r4, s4, hr4, hs4, rfl, hown4, hb4⟩
  rw [← HR3.out] at hr4
  rw [← HS3.out] at hs4
  subst hr4 hs4
  have HO4 := hide hown4
  have HO34 := hide (own_below HO3.out hb4)
  have HB4 := hide (grow0 HB3.out HB3.out.size hb4)
  clear hown4 hb4 HO3 HB3
  obtain ⟨B4, d4, rfl⟩ := own_sl HO4.out
  go_wp2_with fail
  refine (part_any _ n1 p2 l1 _ (RO.out _ HB4.out) (by omega)).mono ?_
  intro e w5 hpp5
  obtain ⟨k5, m5, ok5, v5, hk5, hm5, hok5, rfl, hown5, hb5⟩ := partPost_one hpp5
  have HK5 := hide hk5
  have HM5 := hide hm5
  have HOK5 := hide hok5
  have HO5 := hide hown5
  have HO35 := hide (own_below HO34.out hb5)
  have HO45 := hide (own_below HO4.out hb5)
  have HB5 := hide (grow0 HB4.out HB4.out.size hb5)
  clear hpp5 hk5 hm5 hok5 hown5 hb5 HO34 HO4 HB4
  obtain ⟨B5, d5, rfl⟩ := own_sl HO5.out
  go_wp2_with fail
  refine (refPart_any A1 n1 c1 l1 _ (KK1.out _ HB5.out) (by omega)).mono ?_
  intro e w6 hpp6
  obtain ⟨k6, m6, ok6, v6, hk6, hm6, hok6, rfl, hown6, hb6⟩ := partPost_one hpp6
  rw [← HK5.out] at hk6
  rw [← HM5.out] at hm6
  rw [← HOK5.out] at hok6
  subst hk6 hm6 hok6
  have HO6 := hide hown6
  have HO36 := hide (own_below HO35.out hb6)
  have HO46 := hide (own_below HO45.out hb6)
  have HO56 := hide (own_below HO5.out hb6)
  have HB6 := hide (grow0 HB5.out HB5.out.size hb6)
  clear hpp6 hown6 hb6 HO35 HO45 HO5 HB5
  obtain ⟨B6, d6, rfl⟩ := own_sl HO6.out
  go_wp2_with fail
  refine (sameBytes_any _ _ _ _ _ _ _ _ _ _ _ (Rb.own HO36.out) (Rb.own HO46.out)).mono ?_
  rintro e w6' ⟨rfl, rfl⟩
  simp only [BEq.rfl]
  go_wp2_with fail
  refine (sameBytes_any _ _ _ _ _ _ _ _ _ _ _ (Rb.own HO56.out) (Rb.own HO6.out)).mono ?_
  rintro e w' ⟨rfl, rfl⟩
  simp only [BEq.rfl]
  go_wp2_with fail
  refine (first_any _ n0 p1 l0 _ (RI.out _ HB6.out) (by omega)).mono ?_
  rintro e w7 ⟨v7, rfl, hown7, hb7⟩
  have HO7 := hide hown7
  have HB7 := hide (grow0 HB6.out HB6.out.size hb7)
  clear hown7 hb7
  obtain ⟨B7, d7, rfl⟩ := own_sl HO7.out
  go_wp2_with fail
  refine (refText_any A0 n0 c0 l0 0 _ (KK0.out _ HB7.out) (by omega)).mono ?_
  rintro e w8 ⟨v8, rfl, hown8, hb8⟩
  have HO8 := hide hown8
  have HO78 := hide (own_below HO7.out hb8)
  have HB8 := hide (grow0 HB7.out HB7.out.size hb8)
  clear hown8 hb8
  obtain ⟨B8, d8, rfl⟩ := own_sl HO8.out
  go_wp2_with fail
  refine (sameBytes_any _ _ _ _ _ _ _ _ _ _ _ (Rb.own HO78.out) (Rb.own HO8.out)).mono ?_
  rintro e w' ⟨rfl, rfl⟩
  simp only [BEq.rfl]
  go_wp2_with fail
  refine (behind_any _ n0 p1 l0 _ (RI.out _ HB8.out) (by omega)).mono ?_
  rintro e w9 ⟨v9, rfl, hown9, hb9⟩
  have HO9 := hide hown9
  have HB9 := hide (grow0 HB8.out HB8.out.size hb9)
  clear hown9 hb9
  obtain ⟨B9, d9, rfl⟩ := own_sl HO9.out
  go_wp2_with fail
  refine (refText_any A0 n0 c0 l0 1 _ (KK0.out _ HB9.out) (by omega)).mono ?_
  rintro e w10 ⟨v10, rfl, hown10, hb10⟩
  have HO10 := hide hown10
  have HO910 := hide (own_below HO9.out hb10)
  have HB10 := hide (grow0 HB9.out HB9.out.size hb10)
  clear hown10 hb10
  obtain ⟨B10, d10, rfl⟩ := own_sl HO10.out
  go_wp2_with fail
  refine (sameBytes_any _ _ _ _ _ _ _ _ _ _ _ (Rb.own HO910.out) (Rb.own HO10.out)).mono ?_
  rintro e w' ⟨rfl, rfl⟩
  simp only [BEq.rfl]
  go_wp2_with fail
  refine (keptBytes_any g1 p1 _ A0 n0 n0 c0 l0 _ _ (LI.out _ HB10.out) (KK0.out _ HB10.out) (by omega)).mono ?_
  rintro e w' ⟨rfl, rfl⟩
  go_wp2_with fail
  refine (keptBytes_any g2 p2 _ A1 n1 n1 c1 l1 _ _ (LO.out _ HB10.out) (KK1.out _ HB10.out) (by omega)).mono ?_
  rintro e w' ⟨rfl, rfl⟩
  go_wp2_with fail
  refine (awake_any _).mono ?_
  rintro e wz ⟨rfl, hbz⟩
  go_wp2
  go_ret
  exact ⟨rfl, grow0 HB2.out HB2.out.size (grow0 HB10.out HB10.out.size hbz)⟩
end Go.Proofs.Ytlkeibpaleiemaa
