/-
  The walk of SumsBursts: it returns true, and writes nothing that was there. Conditions: the slice reads as a list of bytes.
-/
import Derived.Test.YtpfjhigiphkddaaSumsLaws
namespace Go.Proofs.Ytpfjhigiphkddaa
open Go.RowKit

/-- Up to k bytes from a on turned. -/
def chg (l : List UInt8) (a c : Nat) : Nat → List UInt8
  | 0 => l
  | k + 1 => (chg l a c k).set (a + k) ((chg l a c k).getD (a + k) 0 ^^^ UInt8.ofNat (c / 2 ^ (8 * k) % 256))
theorem chg_len (l : List UInt8) (a c k : Nat) : (chg l a c k).length = l.length := by
  induction k with
  | zero => rfl
  | succ k ih => simp [chg, ih]
theorem chg_form (l : List UInt8) (a c k : Nat) (h : a + k ≤ l.length) : ∃ m, m.length = k ∧ chg l a c k = l.take a ++ m ++ l.drop (a + k) := by
  induction k with
  | zero => exact ⟨[], rfl, by simp [chg]⟩
  | succ k ih =>
    obtain ⟨m, hm, e⟩ := ih (by omega)
    generalize hx : (chg l a c k).getD (a + k) 0 ^^^ UInt8.ofNat (c / 2 ^ (8 * k) % 256) = x
    refine ⟨m ++ [x], by simp [hm], ?_⟩
    rw [chg, hx, e, List.set_append_right _ _ (by simp; omega)]
    have h2 : l.drop (a + k) = l[a + k]'(by omega) :: l.drop (a + (k + 1)) := by rw [List.drop_eq_getElem_cons (by omega)]; rfl
    rw [h2, show a + k - (List.take a l ++ m).length = 0 by simp [hm]; omega]
    simp
theorem chg_same (l : List UInt8) (a c k : Nat) (h : a + k ≤ l.length) (h4 : k ≤ 4) : (((Sums.more 0 l : Nat) : Int) == ((Sums.more 0 (chg l a c k) : Nat) : Int)) = (l == chg l a c k) := by
  obtain ⟨m, hm, e⟩ := chg_form l a c k h
  have hl : l = l.take a ++ (l.drop a).take k ++ l.drop (a + k) := by
    rw [List.append_assoc, ← List.drop_drop, List.take_append_drop, List.take_append_drop]
  have := Sums.more_burst (l.take a) ((l.drop a).take k) m (l.drop (a + k)) (by simp [hm]; omega) (by simp; omega)
  rw [← hl, ← e] at this
  rw [Bool.eq_iff_iff]
  simpa [Int.ofNat_inj] using this

theorem xor8 (y : UInt8) (c k : Nat) : bits .xor .u8 (y.toNat : Int) ((c : Int) / 2 ^ (8 * k) % 256) = (((y ^^^ UInt8.ofNat (c / 2 ^ (8 * k) % 256)).toNat : Nat) : Int) := by
  have e1 : (c : Int) / 2 ^ (8 * k) % 256 = ((c / 2 ^ (8 * k) % 256 : Nat) : Int) := by simp
  rw [e1]
  generalize hz : c / 2 ^ (8 * k) % 256 = z
  have hz' : z < 256 := by omega
  rw [u8_xor_nat _ _ y.toNat_lt hz', UInt8.toNat_xor, UInt8.toNat_ofNat_of_lt' (by exact hz')]
theorem chg_step (l : List UInt8) (a c k : Nat) (y : UInt8) (h : (chg l a c k)[a + k]? = some y) : ((chg l a c k).map B8).set (a + k) (.int .u8 (bits .xor .u8 (y.toNat : Int) ((c : Int) / 2 ^ (8 * k) % 256))) = (chg l a c (k + 1)).map B8 := by
  rw [xor8, chg, List.getD, h, Option.getD_some, List.map_set]
  rfl

set_option maxHeartbeats 800000 in
theorem bursts_any (A : Option Addr) (n c : Nat) (l : List UInt8) (x ch : Int) (w : World) (hl : Rb w w.heap.size A n l) (_hc : n ≤ c) (_hm : c ≤ maxLen) (_hx : (Lit.int .i64 x).wf = true) (hch : (Lit.int .u32 ch).wf = true) :
    Calls Try.prog 5 #[.slice A n c, .int .i64 x, .int .u32 ch] w fun e w' => e = .returned (.bool true) ∧ Below w.heap.size w w' := by
  obtain ⟨h0, h1⟩ := bounds_u32 hch
  obtain ⟨ch, rfl⟩ := Int.eq_ofNat_of_zero_le h0
  have hch' : ch ≤ 4294967295 := by omega
  clear hch h0 h1
  have HL := hide hl
  clear hl
  by_cases hn : n ≤ 20000 ∧ 0 < n
  · obtain ⟨hn1, hn2⟩ := hn
    have hnb : ((n : Int) == 0) = false := by simp; omega
    have hgt : decide ((20000 : Int) < n) = false := by simp; omega
    go_enter Try.func5, Try.ntmps5
    go_wp2_with fail
    refine (pick_any x n _ (by omega) (by omega)).mono ?_
    rintro e w' ⟨rfl, rfl⟩
    obtain ⟨a, ha⟩ : ∃ a : Nat, pick x n = a := Int.eq_ofNat_of_zero_le (by rw [pick, if_neg (by omega)]; exact Int.emod_nonneg _ (by omega))
    have han : a < n := by
      have := Int.emod_lt_of_pos x (show (0 : Int) < n by omega)
      rw [pick, if_neg (by omega)] at ha
      omega
    rw [ha]
    clear ha
    go_wp2_with fail
    refine (copyBytes_any A n c l _ HL.out (by omega)).mono ?_
    rintro e w1 ⟨v, rfl, hown1, hb1⟩
    obtain ⟨g, cap, rfl, hg1, hg2, hcap, _⟩ := own_pos hown1 hn2
    have HO1 := hide hown1
    have HB1 := hide hb1
    clear hown1 hb1
    go_wp2_with fail
    go_loopw [8] (fun i wr => ∃ k : Nat, k ≤ 4 ∧ a + k ≤ n ∧ i = .int .i64 k ∧ wr.ownsRow w.heap.size 5 1 (.slice (some ⟨g, 0, none⟩) n cap) n ((chg l a ch k).map B8) ∧ Below w.heap.size w wr) (fun i _ => 4 - (intOf i).toNat)
    case atStart => exact ⟨0, by omega, by omega, rfl, HO1.out, HB1.out⟩
    case round =>
      obtain ⟨k, hk4, hkn, rfl, hown, hbel⟩ := hrel
      by_cases hgo : k < 4 ∧ a + k < n
      · obtain ⟨hk, hak⟩ := hgo
        have hlen := own_len hown
        have hj : a + k < (chg l a ch k).length := by omega
        obtain ⟨y, hy⟩ : ∃ y, (chg l a ch k)[a + k]? = some y := ⟨_, List.getElem?_eq_getElem hj⟩
        have hcell : wr.cell? ⟨g, a + k, none⟩ = some (.int .u8 (y.toNat : Int)) := by
          rw [hown.cellAt (a + k) (by omega)]
          simp [hy, B8]
        have hfr := hown.frozenAt (a + k)
        have hst := hown.stored (a + k)
        have HST := hide hst
        have HY := hide hy
        have hy8 := y.toNat_lt
        clear hst hy hlen hj
        go_wp2
        go_roundw
        case rel =>
          refine ⟨k + 1, by omega, by omega, by go_num, ?_, hbel.setCell (by exact hg1) _⟩
          have := (HST.out (.int .u8 (bits .xor .u8 (y.toNat : Int) ((ch : Int) / 2 ^ (8 * k) % 256)))).1
          rw [chg_step l a ch k y HY.out] at this
          exact this
        case measure => simp [intOf]; omega
      · have hsame := chg_same l a ch k (by rw [HL.out.len]; exact hkn) hk4
        have HS := hide hsame
        have HLr := hide ((HL.out.below hbel (Nat.le_refl _)).more hbel.size)
        have HO := hide hown
        have HB := hide hbel
        clear hsame hown hbel
        by_cases hk : k < 4
        · have hak : decide ((a : Int) + k < n) = false := by simp; omega
          go_wp2_with fail
          (refine (crc_any A n c l _ HLr.out (by unfold maxLen; omega)).mono ?_)
          rintro e w2 ⟨rfl, hb2⟩
          have HB2 := hide hb2
          clear hb2
          have HL2 := hide ((HLr.out.below HB2.out (Nat.le_refl _)).more HB2.out.size)
          have HO2 := hide (own_below HO.out HB2.out)
          go_wp2_with fail
          refine (crc_any _ n cap (chg l a ch k) _ (Rb.own HO2.out) (by unfold maxLen; omega)).mono ?_
          rintro e w3 ⟨rfl, hb3⟩
          have HB3 := hide hb3
          clear hb3
          have HL3 := hide ((HL2.out.below HB3.out (Nat.le_refl _)).more HB3.out.size)
          have HO3 := hide (own_below HO2.out HB3.out)
          go_wp2_with fail
          refine (sameBytes_any _ _ _ _ _ _ l (chg l a ch k) _ _ _ HL3.out (Rb.own HO3.out)).mono ?_
          rintro e w4 ⟨rfl, rfl⟩
          rw [← HS.out]
          generalize (((Sums.more 0 l : Nat) : Int) == ((Sums.more 0 (chg l a ch k) : Nat) : Int)) = t
          go_wp2_with fail
          refine (awake_any _).mono ?_
          rintro e w5 ⟨rfl, hb5⟩
          go_wp2
          go_ret
          exact ⟨rfl, grow0 (grow0 (grow0 HB.out HB.out.size HB2.out) (by have := HB.out.size; have := HB2.out.size; omega) HB3.out) (by have := HB.out.size; have := HB2.out.size; have := HB3.out.size; omega) hb5⟩
        · have hak : decide ((k : Int) < 4) = false := by simp; omega
          go_wp2_with fail
          (refine (crc_any A n c l _ HLr.out (by unfold maxLen; omega)).mono ?_)
          rintro e w2 ⟨rfl, hb2⟩
          have HB2 := hide hb2
          clear hb2
          have HL2 := hide ((HLr.out.below HB2.out (Nat.le_refl _)).more HB2.out.size)
          have HO2 := hide (own_below HO.out HB2.out)
          go_wp2_with fail
          refine (crc_any _ n cap (chg l a ch k) _ (Rb.own HO2.out) (by unfold maxLen; omega)).mono ?_
          rintro e w3 ⟨rfl, hb3⟩
          have HB3 := hide hb3
          clear hb3
          have HL3 := hide ((HL2.out.below HB3.out (Nat.le_refl _)).more HB3.out.size)
          have HO3 := hide (own_below HO2.out HB3.out)
          go_wp2_with fail
          refine (sameBytes_any _ _ _ _ _ _ l (chg l a ch k) _ _ _ HL3.out (Rb.own HO3.out)).mono ?_
          rintro e w4 ⟨rfl, rfl⟩
          rw [← HS.out]
          generalize (((Sums.more 0 l : Nat) : Int) == ((Sums.more 0 (chg l a ch k) : Nat) : Int)) = t
          go_wp2_with fail
          refine (awake_any _).mono ?_
          rintro e w5 ⟨rfl, hb5⟩
          go_wp2
          go_ret
          exact ⟨rfl, grow0 (grow0 (grow0 HB.out HB.out.size HB2.out) (by have := HB.out.size; have := HB2.out.size; omega) HB3.out) (by have := HB.out.size; have := HB2.out.size; have := HB3.out.size; omega) hb5⟩
  · by_cases hn1 : 20000 < n
    · have hgt : decide ((20000 : Int) < n) = true := by simp; omega
      go_enter Try.func5, Try.ntmps5
      go_wp2_with fail
      refine (awake_any _).mono ?_
      rintro e w1 ⟨rfl, hb1⟩
      go_wp2
      go_ret
      exact ⟨rfl, hb1⟩
    · obtain rfl : n = 0 := by omega
      go_enter Try.func5, Try.ntmps5
      go_wp2_with fail
      refine (awake_any _).mono ?_
      rintro e w1 ⟨rfl, hb1⟩
      go_wp2
      go_ret
      exact ⟨rfl, hb1⟩
end Go.Proofs.Ytpfjhigiphkddaa
