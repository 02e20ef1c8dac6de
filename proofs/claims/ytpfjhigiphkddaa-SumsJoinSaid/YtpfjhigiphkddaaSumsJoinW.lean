/-
  The walk of SumsJoin: it returns true, and writes nothing that was there. Conditions: the slices read as lists of bytes.
-/
import Derived.Test.YtpfjhigiphkddaaSumsLaws
import Derived.Deep.RegionLaw
namespace Go.Proofs.Ytpfjhigiphkddaa
open Go.RowKit

theorem xor3_take (a b c : List UInt8) (k : Nat) : Sums.xor3 (a.take k) (b.take k) (c.take k) = (Sums.xor3 a b c).take k := by
  induction k generalizing a b c with
  | zero => simp [Sums.xor3]
  | succ k ih =>
    cases a <;> cases b <;> cases c <;> simp [Sums.xor3, ih]
theorem xor3_at (a b c : List UInt8) (k : Nat) (x y z : UInt8) (hx : a[k]? = some x) (hy : b[k]? = some y) (hz : c[k]? = some z) : (Sums.xor3 a b c)[k]? = some (x ^^^ y ^^^ z) := by
  induction k generalizing a b c with
  | zero => cases a <;> cases b <;> cases c <;> simp_all [Sums.xor3]
  | succ k ih => cases a <;> cases b <;> cases c <;> simp_all [Sums.xor3]
theorem xor3_len (a b c : List UInt8) (n : Nat) (ha : a.length = n) (hb : b.length = n) (hc : c.length = n) : (Sums.xor3 a b c).length = n := by
  induction n generalizing a b c with
  | zero => cases a <;> cases b <;> cases c <;> simp_all [Sums.xor3]
  | succ n ih => cases a <;> cases b <;> cases c <;> simp_all [Sums.xor3]
theorem xor8' (x y z : UInt8) : bits .xor .u8 (bits .xor .u8 (x.toNat : Int) (y.toNat : Int)) (z.toNat : Int) = (((x ^^^ y ^^^ z).toNat : Nat) : Int) := by
  rw [u8_xor_nat _ _ x.toNat_lt y.toNat_lt, u8_xor_nat _ _ (Nat.xor_lt_two_pow (n := 8) x.toNat_lt y.toNat_lt) z.toNat_lt, UInt8.toNat_xor, UInt8.toNat_xor]

theorem run_min4 {P : Program} (ts : Array TypeId) (t : TypeId) (x y z u : Nat) (w : World) : (Builtin.min_ ts t #[.int .i64 (x : Int), .int .i64 (y : Int), .int .i64 (z : Int), .int .i64 (u : Int)]).run P w = .ok (.int .i64 ((min (min (min x y) z) u : Nat) : Int)) w := by
  have h : (Builtin.min_ ts t #[.int .i64 (x : Int), .int .i64 (y : Int), .int .i64 (z : Int), .int .i64 (u : Int)]).run P w = .ok (.int .i64 (if (u : Int) < (if (z : Int) < (if (y : Int) < x then (y : Int) else x) then (z : Int) else (if (y : Int) < x then (y : Int) else x)) then (u : Int) else (if (z : Int) < (if (y : Int) < x then (y : Int) else x) then (z : Int) else (if (y : Int) < x then (y : Int) else x)))) w := by
    simp [Builtin.min_, Builtin.min2]
  rw [h]
  congr 2
  repeat' split
  all_goals omega
theorem more_join (a b : List UInt8) : Sums.more (Sums.more 0 a) b = Sums.more 0 (a ++ b) := by
  unfold Sums.more
  have := Sums.run_lt a (4294967295 - 0) (by omega)
  rw [Sums.run_append, show 4294967295 - (4294967295 - Sums.run (4294967295 - 0) a) = Sums.run (4294967295 - 0) a by omega]

theorem more_xor_int (a b c : List UInt8) (h : a.length = b.length) (h' : b.length = c.length) : ((Sums.more 0 (Sums.xor3 a b c) : Nat) : Int) = bits .xor .u32 (bits .xor .u32 (Sums.more 0 a : Nat) (Sums.more 0 b : Nat)) (Sums.more 0 c : Nat) := by
  rw [Sums.more_xor a b c h h', u32_xor_nat _ _ (Sums.more_lt _ _) (Sums.more_lt _ _), u32_xor_nat _ _ (Nat.xor_lt_two_pow (n := 32) (Sums.more_lt _ _) (Sums.more_lt _ _)) (Sums.more_lt _ _)]
theorem take_snoc {α : Type} (l : List α) (k : Nat) (x : α) (f : α → Value) (h : l[k]? = some x) : (l.take k).map f ++ [x].map f = (l.take (k + 1)).map f := by
  rw [List.take_add_one, h, List.map_append]
  rfl

set_option maxHeartbeats 1600000 in
theorem join_any (A0 : Option Addr) (n0 c0 : Nat) (l0 : List UInt8) (A1 : Option Addr) (n1 c1 : Nat) (l1 : List UInt8) (A2 : Option Addr) (n2 c2 : Nat) (l2 : List UInt8) (w : World)
    (hl0 : Rb w w.heap.size A0 n0 l0) (hc0 : n0 ≤ c0) (hm0 : c0 ≤ maxLen) (hl1 : Rb w w.heap.size A1 n1 l1) (hc1 : n1 ≤ c1) (hm1 : c1 ≤ maxLen) (hl2 : Rb w w.heap.size A2 n2 l2) (hc2 : n2 ≤ c2) (hm2 : c2 ≤ maxLen) :
    Calls Try.prog 6 #[.slice A0 n0 c0, .slice A1 n1 c1, .slice A2 n2 c2] w fun e w' => e = .returned (.bool true) ∧ Below w.heap.size w w' := by
  unfold maxLen at hm0 hm1 hm2
  obtain ⟨i0, hi0, hz0, hz1, hz2⟩ := info_parts info8
  obtain ⟨n, hn⟩ : ∃ n, n = min (min (min n0 n1) n2) 20000 := ⟨_, rfl⟩
  have hmin : ∀ w, (Builtin.min_ #[3, 3, 3, 3] 3 #[.int .i64 (n0 : Int), .int .i64 (n1 : Int), .int .i64 (n2 : Int), .int .i64 20000]).run Try.prog w = .ok (.int .i64 (n : Int)) w := fun w => by rw [hn]; exact run_min4 _ _ n0 n1 n2 20000 w
  have hn0 : n ≤ n0 := by omega
  have hn1 : n ≤ n1 := by omega
  have hn2 : n ≤ n2 := by omega
  have hn3 : n ≤ 20000 := by omega
  clear hn
  have HL0 := hide hl0
  have HL1 := hide hl1
  have HL2 := hide hl2
  clear hl0 hl1 hl2
  go_enter Try.func6, Try.ntmps6
  go_wp2
  go_quiet (fail)
  obtain ⟨w1, hw1⟩ : ∃ w1, w1 = w.drewN nq := ⟨_, rfl⟩
  rw [← hw1]
  have HB1 : Hid (Below w.heap.size w w1) := by rw [hw1]; exact ⟨rfl, rfl, rfl, Nat.le_refl _, fun _ _ => rfl⟩
  have HA := hide (((HL0.out.take hn0).below HB1.out (Nat.le_refl _)).more HB1.out.size)
  have HB := hide (((HL1.out.take hn1).below HB1.out (Nat.le_refl _)).more HB1.out.size)
  have HC := hide (((HL2.out.take hn2).below HB1.out (Nat.le_refl _)).more HB1.out.size)
  clear hw1 HL0 HL1 HL2
  generalize l0.take n = a at HA
  generalize l1.take n = b at HB
  generalize l2.take n = c at HC
  go_wp2_with fail
  refine (copyBytes_any A0 n c0 a _ HA.out (by omega)).mono ?_
  rintro e w2 ⟨v2, rfl, hown2, hb2⟩
  have HO2 := hide hown2
  have HB2 := hide hb2
  clear hown2 hb2
  have HBB2 := hide (HB.out.below HB2.out (Nat.le_refl _))
  go_wp2_with (at_builtin; refine wpList_append_rd _ rfl (.tmp 28) (.tmp 29) _ rfl w1.heap.size 5 i0 _ 1 1 Try.underlying25 hi0 hz0 hz1 hz2 rfl (by omega) v2 n (a.map B8) rfl HO2.out _ A1 n c1 (b.map B8) rfl HBB2.out (B8_one b) (by unfold maxLen; omega) (by omega) HB2.out.size ?_; intro v3 w3 hown3 hb3 _; rw [← List.map_append] at hown3; have HO3 := hide hown3; have HB3 := hide (HB2.out.trans hb3); clear hown3 hb3; obtain ⟨AX, cX, hv3, _⟩ := own_form HO3.out; subst hv3)
  clear HO2 HB2 HBB2
  have KA := fun (w' : World) (h : Below w1.heap.size w1 w') => (HA.out.below h (Nat.le_refl _)).more h.size
  have KB := fun (w' : World) (h : Below w1.heap.size w1 w') => (HB.out.below h (Nat.le_refl _)).more h.size
  have KC := fun (w' : World) (h : Below w1.heap.size w1 w') => (HC.out.below h (Nat.le_refl _)).more h.size
  have HKA := hide KA
  have HKB := hide KB
  have HKC := hide KC
  clear KA KB KC
  refine (crc_any A0 n c0 a _ (HKA.out _ HB3.out) (by unfold maxLen; omega)).mono ?_
  rintro e w4 ⟨rfl, hb4⟩
  have HB4 := hide (grow0 HB3.out HB3.out.size hb4)
  have HO4 := hide (own_below HO3.out hb4)
  clear hb4 HB3 HO3
  go_wp2_with fail
  refine (more_any (Sums.more 0 a) A1 n c1 b _ (Sums.more_lt _ _) (HKB.out _ HB4.out) (by unfold maxLen; omega)).mono ?_
  rintro e w5 ⟨rfl, hb5⟩
  have HB5 := hide (grow0 HB4.out HB4.out.size hb5)
  have HO5 := hide (own_below HO4.out hb5)
  clear hb5 HB4 HO4
  rw [more_join]
  go_wp2_with fail
  refine (crc_any AX (n + n) cX (a ++ b) _ (Rb.own HO5.out) (by unfold maxLen; omega)).mono ?_
  rintro e w6 ⟨rfl, hb6⟩
  have HB6 := hide (grow0 HB5.out HB5.out.size hb6)
  clear hb6 HB5 HO5
  go_wp2_with fail
  refine (more_int 0 A0 n c0 a _ (by omega) (by omega) (HKA.out _ HB6.out) (by unfold maxLen; omega)).mono ?_
  rintro e w7 ⟨rfl, hb7⟩
  have HB7 := hide (grow0 HB6.out HB6.out.size hb7)
  clear hb7 HB6
  rw [show Int.toNat 0 = 0 from rfl]
  go_wp2_with fail
  refine (crc_any A0 n c0 a _ (HKA.out _ HB7.out) (by unfold maxLen; omega)).mono ?_
  rintro e w8 ⟨rfl, hb8⟩
  have HB8 := hide (grow0 HB7.out HB7.out.size hb8)
  clear hb8 HB7
  go_wp2_with fail
  go_loopw [9, 10] (fun v i wr => ∃ k : Nat, k ≤ n ∧ i = .int .i64 k ∧ wr.ownsRow w1.heap.size 5 1 v k (((Sums.xor3 a b c).take k).map B8) ∧ Below w1.heap.size w1 wr) (fun _ i _ => n - (intOf i).toNat)
  case atStart => exact ⟨0, Nat.zero_le _, rfl, own_nil _ _ _ _, HB8.out⟩
  case round =>
    obtain ⟨k, hk, rfl, hown, hbel⟩ := hrel
    have HO := hide hown
    have HBR := hide hbel
    clear hown hbel
    by_cases hlt : k < n
    · obtain ⟨b0, o0, x, rfl, _, hx, hc0'⟩ := (HKA.out _ HBR.out).at hlt
      obtain ⟨b1, o1, y, rfl, _, hy, hc1'⟩ := (HKB.out _ HBR.out).at hlt
      obtain ⟨b2, o2, z, rfl, _, hz, hc2'⟩ := (HKC.out _ HBR.out).at hlt
      have hxor := xor8' x y z
      have HX := hide (xor3_at a b c k x y z hx hy hz)
      clear hx hy hz
      go_wp2_with fail
      have HLIT := hide (Rd.lit wr 5 ([x ^^^ y ^^^ z].map B8))
      have HONE := hide (B8_one [x ^^^ y ^^^ z])
      have hsz := HBR.out.size
      go_region_law (refine step_append_rd _ rfl (.tmp 50) (.tmp 65) 25 rfl w1.heap.size 5 i0 _ 1 1 Try.underlying25 hi0 hz0 hz1 hz2 rfl (by omega) u9 k (((Sums.xor3 a b c).take k).map B8) (by simp [Act.eval]) (by exact (HO.out.alloc _).drew) _ (some ⟨wr.heap.size, 0, none⟩) 1 1 ([x ^^^ y ^^^ z].map B8) (by simp [Act.eval]) (by exact HLIT.out) HONE.out (by unfold maxLen; omega) (by omega) (by simp; omega) ?_; intro v' w' hown' hb' _)
      all_goals
        have hown2 : w'.ownsRow w1.heap.size 5 1 v' (k + 1) (((Sums.xor3 a b c).take (k + 1)).map B8) := by
          rw [← take_snoc _ _ _ _ HX.out]
          exact hown'
        have HO2 := hide hown2
        have HB2 : Hid (Below w1.heap.size w1 w') := (((HBR.out.alloc hsz _).drew).trans hb')
        clear hown' hb' hown2 hc0' hc1' hc2' hxor
        go_wp2
        go_roundw
        case rel => exact ⟨k + 1, by omega, by go_num, HO2.out, HB2.out⟩
        case measure => simp [intOf]; omega
    · obtain rfl : k = n := by omega
      have hx3 := xor3_len a b c k HA.out.len HB.out.len HC.out.len
      have HO1 := HO.out
      rw [List.take_of_length_le (by omega)] at HO1
      have HOx := hide HO1
      clear HO1 HO
      obtain ⟨AY, cY, hv4, _⟩ := own_form HOx.out
      subst hv4
      have HM := hide (more_xor_int a b c (by rw [HA.out.len, HB.out.len]) (by rw [HB.out.len, HC.out.len]))
      clear hx3
      go_wp2_with fail
      refine (crc_any AY k cY (Sums.xor3 a b c) _ (Rb.own HOx.out) (by unfold maxLen; omega)).mono ?_
      rintro e w9 ⟨rfl, hb9⟩
      have HB9 := hide (grow0 HBR.out HBR.out.size hb9)
      clear hb9
      go_wp2_with fail
      refine (crc_any A0 k c0 a _ (HKA.out _ HB9.out) (by unfold maxLen; omega)).mono ?_
      rintro e wa ⟨rfl, hba⟩
      have HBa := hide (grow0 HB9.out HB9.out.size hba)
      clear hba
      go_wp2_with fail
      refine (crc_any A1 k c1 b _ (HKB.out _ HBa.out) (by unfold maxLen; omega)).mono ?_
      rintro e wb ⟨rfl, hbb⟩
      have HBb := hide (grow0 HBa.out HBa.out.size hbb)
      clear hbb
      go_wp2_with fail
      refine (crc_any A2 k c2 c _ (HKC.out _ HBb.out) (by unfold maxLen; omega)).mono ?_
      rintro e wc ⟨rfl, hbc⟩
      have HBc := hide (grow0 HBb.out HBb.out.size hbc)
      clear hbc
      rw [HM.out]
      go_wp2_with fail
      refine (awake_any _).mono ?_
      rintro e wd ⟨rfl, hbd⟩
      go_wp2
      go_ret
      exact ⟨rfl, grow0 HB1.out HB1.out.size (grow0 HBc.out HBc.out.size hbd)⟩
end Go.Proofs.Ytpfjhigiphkddaa
