/-
  The walks of cell.Key and chanceryref18.Key: both are Cell.key. Conditions: the number is of 64 bits.
-/
import Derived.Test.YtccapkkaeljnfaaEight
import Derived.Test.YtccapkkaeljnfaaKeyMath
import Derived.Laws.Bits64
namespace Go.Proofs.Ytccapkkaeljnfaa
open Go.RowKit

theorem xor_top (x : Nat) (h : x < 18446744073709551616) : x ^^^ 9223372036854775808 = (x + 9223372036854775808) % 18446744073709551616 := by
  apply Nat.eq_of_testBit_eq
  intro j
  rw [show (9223372036854775808 : Nat) = 2 ^ 63 from rfl, show (18446744073709551616 : Nat) = 2 ^ 64 from rfl, Nat.testBit_xor, Nat.testBit_two_pow, Nat.testBit_mod_two_pow, Nat.add_comm]
  rcases Nat.lt_trichotomy j 63 with hj | hj | hj
  · rw [Nat.testBit_two_pow_add_gt hj, decide_eq_false (by omega), decide_eq_true (by omega)]
    simp
  · subst hj
    rw [Nat.testBit_two_pow_add_eq]
    simp
  · have hx : x.testBit j = false := Nat.testBit_lt_two_pow (Nat.lt_of_lt_of_le h (by show 2 ^ 64 ≤ 2 ^ j; exact Nat.pow_le_pow_right (by omega) (by omega)))
    rw [hx, decide_eq_false (by omega), decide_eq_false (by omega)]
    simp
theorem wrap_u64 (n : Int) : IntKind.u64.wrap n = ((Cell.u64 n : Nat) : Int) := by
  unfold Cell.u64
  have : IntKind.u64.wrap n = n % 18446744073709551616 := by simp [IntKind.wrap, IntKind.signed, IntKind.bits]
  rw [this]
  omega
theorem xor_key (n : Int) : bits BinOp.xor IntKind.u64 (IntKind.u64.wrap n) 9223372036854775808 = (((Cell.u64 n + 9223372036854775808) % 18446744073709551616 : Nat) : Int) := by
  rw [wrap_u64, show (9223372036854775808 : Int) = ((9223372036854775808 : Nat) : Int) from rfl, bits_xor_u64_nat _ _ (Cell.u64_lt n) (by omega), xor_top _ (Cell.u64_lt n)]
theorem add_key (n : Int) : IntKind.u64.wrap (IntKind.u64.wrap n + 9223372036854775808) = (((Cell.u64 n + 9223372036854775808) % 18446744073709551616 : Nat) : Int) := by
  rw [wrap_u64 n, IntKind.wrap_u64]
  omega
/-- Bytes of the call's own, and an error's number. -/
def BE (w : World) (r : Nat × List UInt8) (e : Ending) (w' : World) : Prop :=
  ∃ v', e = .returned (.tuple #[v', .int .i64 (r.1 : Int)]) ∧ w'.ownsRow w.heap.size 5 1 v' r.2.length (r.2.map B8) ∧ Below w.heap.size w w'
theorem BE.err {w w' : World} {r : Nat × List UInt8} (n : Nat) (h : r = (n, [])) (hb : Below w.heap.size w w') : BE w r (.returned (.tuple #[.slice none 0 0, .int .i64 (n : Int)])) w' := by
  subst h
  exact ⟨_, rfl, own_nil _ _ _ _, hb⟩
theorem BE.ok {w w' : World} {r : Nat × List UInt8} {A : Option Addr} {m c : Nat} {l : List UInt8} (h : r = (0, l)) (hm : m = l.length) (ho : w'.ownsRow (w.heap.size + 1) 5 1 (.slice A m c) m (l.map B8)) (hb : Below w.heap.size w w') : BE w r (.returned (.tuple #[.slice A m c, .int .i64 0])) w' := by
  subst h hm
  exact ⟨_, rfl, own_base ho (by omega), hb⟩
theorem u8_byte (n : Int) : IntKind.u8.wrap n = ((Cell.byteOf (n % 256).toNat).toNat : Int) := by
  have : IntKind.u8.wrap n = n % 256 := by simp [IntKind.wrap, IntKind.signed, IntKind.bits]
  rw [this, Cell.byteOf_toNat]
  omega

set_option maxHeartbeats 1600000 in
theorem key_bad (k : UInt8) (n : Int) (s : ByteArray) (w : World) (hr : Cell.rightB ⟨k, n, s⟩ = false) :
    Calls Try.prog 19 #[.agg #[.int .u8 (k.toNat : Int), .int .i64 n, .string s]] w (BE w (Cell.key ⟨k, n, s⟩)) := by
  have HP := hide (Cell.key_bad hr)
  have HR := hide hr
  clear hr
  go_enter Try.func19, Try.ntmps19
  go_wp2_with fail
  refine (right_any k n s _).mono ?_
  rintro e w1 ⟨rfl, hb1⟩
  rw [HR.out]
  have HB1 := hide hb1
  have HBw : Hid (Below w.heap.size w w1) := ((Below.refl _ _).alloc (Nat.le_refl _) _).trans (hb1.mono (by simp))
  have hc0 := hb1.cell (p := ⟨w.heap.size, 0, none⟩) (by simp)
  have hc1 := hb1.cell (p := ⟨w.heap.size, 1, none⟩) (by simp)
  have hc2 := hb1.cell (p := ⟨w.heap.size, 2, none⟩) (by simp)
  have hz1 : w.heap.size + 1 ≤ w1.heap.size := by have := hb1.size; simp at this; omega
  have hz1' : w.heap.size < w1.heap.size := hz1
  clear hb1
  simp [go_sem] at hc0 hc1 hc2
  go_wp2_with fail
  go_ret2
  exact BE.err 2 HP.out HBw.out

set_option maxHeartbeats 1600000 in
theorem key_k0 (k : UInt8) (n : Int) (s : ByteArray) (w : World) (hr : Cell.rightB ⟨k, n, s⟩ = true) (hk : k.toNat = 0) :
    Calls Try.prog 19 #[.agg #[.int .u8 (k.toNat : Int), .int .i64 n, .string s]] w (BE w (Cell.key ⟨k, n, s⟩)) := by
  have HP := hide (Cell.key_ok (t := []) hr (fun h => by simp only at h; omega) (by unfold Cell.keyTail; simp only [hk]))
  have t1 : ((k.toNat : Int) == 1) = false := by simp; omega
  have t2 : ((k.toNat : Int) == 2) = false := by simp; omega
  have t3 : ((k.toNat : Int) == 3) = false := by simp; omega
  have t4 : ((k.toNat : Int) == 4) = false := by simp; omega
  have t5 : ((k.toNat : Int) == 5) = false := by simp; omega
  clear hk
  have HR := hide hr
  clear hr
  go_enter Try.func19, Try.ntmps19
  go_wp2_with fail
  refine (right_any k n s _).mono ?_
  rintro e w1 ⟨rfl, hb1⟩
  rw [HR.out]
  have HB1 := hide hb1
  have HBw : Hid (Below w.heap.size w w1) := ((Below.refl _ _).alloc (Nat.le_refl _) _).trans (hb1.mono (by simp))
  have hc0 := hb1.cell (p := ⟨w.heap.size, 0, none⟩) (by simp)
  have hc1 := hb1.cell (p := ⟨w.heap.size, 1, none⟩) (by simp)
  have hc2 := hb1.cell (p := ⟨w.heap.size, 2, none⟩) (by simp)
  have hz1 : w.heap.size + 1 ≤ w1.heap.size := by have := hb1.size; simp at this; omega
  have hz1' : w.heap.size < w1.heap.size := hz1
  clear hb1
  simp [go_sem] at hc0 hc1 hc2
  go_wp2_with fail
  go_ret2
  exact BE.ok HP.out rfl (own_base (own_lit w1 5 [k] 1 rfl (by unfold maxLen; omega)) hz1) (HBw.out.alloc (by omega) _)

set_option maxHeartbeats 1600000 in
theorem key_k1 (k : UInt8) (n : Int) (s : ByteArray) (w : World) (hr : Cell.rightB ⟨k, n, s⟩ = true) (hk : k.toNat = 1) :
    Calls Try.prog 19 #[.agg #[.int .u8 (k.toNat : Int), .int .i64 n, .string s]] w (BE w (Cell.key ⟨k, n, s⟩)) := by
  have HP := hide (Cell.key_ok (t := [Cell.byteOf (n % 256).toNat]) hr (fun h => by simp only at h; omega) (by unfold Cell.keyTail; simp only [hk]))
  have t1 : ((k.toNat : Int) == 1) = true := by simp; omega
  have t2 : ((k.toNat : Int) == 2) = false := by simp; omega
  have t3 : ((k.toNat : Int) == 3) = false := by simp; omega
  have t4 : ((k.toNat : Int) == 4) = false := by simp; omega
  have t5 : ((k.toNat : Int) == 5) = false := by simp; omega
  clear hk
  have HR := hide hr
  clear hr
  go_enter Try.func19, Try.ntmps19
  go_wp2_with fail
  refine (right_any k n s _).mono ?_
  rintro e w1 ⟨rfl, hb1⟩
  rw [HR.out]
  have HB1 := hide hb1
  have HBw : Hid (Below w.heap.size w w1) := ((Below.refl _ _).alloc (Nat.le_refl _) _).trans (hb1.mono (by simp))
  have hc0 := hb1.cell (p := ⟨w.heap.size, 0, none⟩) (by simp)
  have hc1 := hb1.cell (p := ⟨w.heap.size, 1, none⟩) (by simp)
  have hc2 := hb1.cell (p := ⟨w.heap.size, 2, none⟩) (by simp)
  have hz1 : w.heap.size + 1 ≤ w1.heap.size := by have := hb1.size; simp at this; omega
  have hz1' : w.heap.size < w1.heap.size := hz1
  clear hb1
  simp [go_sem] at hc0 hc1 hc2
  have HL := hide (own_base (own_lit w1 5 [k] 1 rfl (by unfold maxLen; omega)) hz1)
  have HBl := hide (HBw.out.alloc (show w.heap.size ≤ w1.heap.size by omega) (.cells #[.int .u8 (k.toNat : Int)] 5))
  have HC : Hid (#[Value.int .u8 (IntKind.u8.wrap n)] = ([Cell.byteOf (n % 256).toNat].map B8).toArray) := by show _ = _; rw [u8_byte]; rfl
  go_wp2_with (at_builtin; refine wpList_appL bt rfl (.tmp 16) (.tmp 20) rfl (w.heap.size + 1) _ 1 [k] rfl HL.out _ 1 1 [Cell.byteOf (n % 256).toNat] rfl (by simp) rfl HC.out (by omega) (by simp; omega) ?_; intro v3 w3 hown3 hb3 _; have HO3 := hide hown3; have HB3 := hide (HBl.out.trans (hb3.mono (by omega))); clear hown3 hb3; obtain ⟨A3, c3, rfl⟩ := own_sl HO3.out)
  go_ret2
  exact BE.ok HP.out rfl HO3.out HB3.out

set_option maxHeartbeats 1600000 in
theorem key_k2 (k : UInt8) (n : Int) (s : ByteArray) (w : World) (hr : Cell.rightB ⟨k, n, s⟩ = true) (hk : k.toNat = 2) :
    Calls Try.prog 19 #[.agg #[.int .u8 (k.toNat : Int), .int .i64 n, .string s]] w (BE w (Cell.key ⟨k, n, s⟩)) := by
  have HP := hide (Cell.key_ok (t := Cell.be8 ((Cell.u64 n + 9223372036854775808) % 18446744073709551616)) hr (fun h => by simp only at h; omega) (by unfold Cell.keyTail; simp only [hk]))
  have t1 : ((k.toNat : Int) == 1) = false := by simp; omega
  have t2 : ((k.toNat : Int) == 2) = true := by simp; omega
  have t3 : ((k.toNat : Int) == 3) = false := by simp; omega
  have t4 : ((k.toNat : Int) == 4) = false := by simp; omega
  have t5 : ((k.toNat : Int) == 5) = false := by simp; omega
  clear hk
  have HR := hide hr
  clear hr
  go_enter Try.func19, Try.ntmps19
  go_wp2_with fail
  refine (right_any k n s _).mono ?_
  rintro e w1 ⟨rfl, hb1⟩
  rw [HR.out]
  have HB1 := hide hb1
  have HBw : Hid (Below w.heap.size w w1) := ((Below.refl _ _).alloc (Nat.le_refl _) _).trans (hb1.mono (by simp))
  have hc0 := hb1.cell (p := ⟨w.heap.size, 0, none⟩) (by simp)
  have hc1 := hb1.cell (p := ⟨w.heap.size, 1, none⟩) (by simp)
  have hc2 := hb1.cell (p := ⟨w.heap.size, 2, none⟩) (by simp)
  have hz1 : w.heap.size + 1 ≤ w1.heap.size := by have := hb1.size; simp at this; omega
  have hz1' : w.heap.size < w1.heap.size := hz1
  clear hb1
  simp [go_sem] at hc0 hc1 hc2
  have HL := hide (own_base (own_lit w1 5 [k] 1 rfl (by unfold maxLen; omega)) hz1)
  have HBl := hide (HBw.out.alloc (show w.heap.size ≤ w1.heap.size by omega) (.cells #[.int .u8 (k.toNat : Int)] 5))
  go_wp2_with fail
  rw [xor_key]
  refine (number_any (w.heap.size + 1) _ 1 [k] _ _ HL.out (by omega) (by simp; omega)).mono ?_
  rintro e w3 ⟨v3, rfl, hown3, hb3⟩
  have HO3 := hide hown3
  have HB3 := hide (HBl.out.trans (hb3.mono (by omega)))
  clear hown3 hb3
  obtain ⟨A3, c3, rfl⟩ := own_sl HO3.out
  go_wp2_with fail
  go_ret2
  exact BE.ok HP.out rfl HO3.out HB3.out

set_option maxHeartbeats 1600000 in
theorem key_k3 (k : UInt8) (n : Int) (s : ByteArray) (w : World) (hr : Cell.rightB ⟨k, n, s⟩ = true) (hk : k.toNat = 3) :
    Calls Try.prog 19 #[.agg #[.int .u8 (k.toNat : Int), .int .i64 n, .string s]] w (BE w (Cell.key ⟨k, n, s⟩)) := by
  have HP := hide (Cell.key_ok (t := Cell.be8 ((Cell.u64 n + 9223372036854775808) % 18446744073709551616)) hr (fun h => by simp only at h; omega) (by unfold Cell.keyTail; simp only [hk]))
  have t1 : ((k.toNat : Int) == 1) = false := by simp; omega
  have t2 : ((k.toNat : Int) == 2) = false := by simp; omega
  have t3 : ((k.toNat : Int) == 3) = true := by simp; omega
  have t4 : ((k.toNat : Int) == 4) = false := by simp; omega
  have t5 : ((k.toNat : Int) == 5) = false := by simp; omega
  clear hk
  have HR := hide hr
  clear hr
  go_enter Try.func19, Try.ntmps19
  go_wp2_with fail
  refine (right_any k n s _).mono ?_
  rintro e w1 ⟨rfl, hb1⟩
  rw [HR.out]
  have HB1 := hide hb1
  have HBw : Hid (Below w.heap.size w w1) := ((Below.refl _ _).alloc (Nat.le_refl _) _).trans (hb1.mono (by simp))
  have hc0 := hb1.cell (p := ⟨w.heap.size, 0, none⟩) (by simp)
  have hc1 := hb1.cell (p := ⟨w.heap.size, 1, none⟩) (by simp)
  have hc2 := hb1.cell (p := ⟨w.heap.size, 2, none⟩) (by simp)
  have hz1 : w.heap.size + 1 ≤ w1.heap.size := by have := hb1.size; simp at this; omega
  have hz1' : w.heap.size < w1.heap.size := hz1
  clear hb1
  simp [go_sem] at hc0 hc1 hc2
  have HL := hide (own_base (own_lit w1 5 [k] 1 rfl (by unfold maxLen; omega)) hz1)
  have HBl := hide (HBw.out.alloc (show w.heap.size ≤ w1.heap.size by omega) (.cells #[.int .u8 (k.toNat : Int)] 5))
  go_wp2_with fail
  rw [xor_key]
  refine (number_any (w.heap.size + 1) _ 1 [k] _ _ HL.out (by omega) (by simp; omega)).mono ?_
  rintro e w3 ⟨v3, rfl, hown3, hb3⟩
  have HO3 := hide hown3
  have HB3 := hide (HBl.out.trans (hb3.mono (by omega)))
  clear hown3 hb3
  obtain ⟨A3, c3, rfl⟩ := own_sl HO3.out
  go_wp2_with fail
  go_ret2
  exact BE.ok HP.out rfl HO3.out HB3.out

set_option maxHeartbeats 1600000 in
theorem key_l4 (k : UInt8) (n : Int) (s : ByteArray) (w : World) (hr : Cell.rightB ⟨k, n, s⟩ = true) (hk : k.toNat = 4) (hs : 36 < s.size) :
    Calls Try.prog 19 #[.agg #[.int .u8 (k.toNat : Int), .int .i64 n, .string s]] w (BE w (Cell.key ⟨k, n, s⟩)) := by
  have HP := hide (Cell.key_long hr (show 4 ≤ k.toNat by omega) hs)
  have u1 : decide ((36 : Int) < (s.size : Int)) = true := by simp; omega
  have t1 : ((k.toNat : Int) == 1) = false := by simp; omega
  have t2 : ((k.toNat : Int) == 2) = false := by simp; omega
  have t3 : ((k.toNat : Int) == 3) = false := by simp; omega
  have t4 : ((k.toNat : Int) == 4) = true := by simp; omega
  have t5 : ((k.toNat : Int) == 5) = false := by simp; omega
  clear hk
  have HR := hide hr
  clear hr
  go_enter Try.func19, Try.ntmps19
  go_wp2_with fail
  refine (right_any k n s _).mono ?_
  rintro e w1 ⟨rfl, hb1⟩
  rw [HR.out]
  have HB1 := hide hb1
  have HBw : Hid (Below w.heap.size w w1) := ((Below.refl _ _).alloc (Nat.le_refl _) _).trans (hb1.mono (by simp))
  have hc0 := hb1.cell (p := ⟨w.heap.size, 0, none⟩) (by simp)
  have hc1 := hb1.cell (p := ⟨w.heap.size, 1, none⟩) (by simp)
  have hc2 := hb1.cell (p := ⟨w.heap.size, 2, none⟩) (by simp)
  have hz1 : w.heap.size + 1 ≤ w1.heap.size := by have := hb1.size; simp at this; omega
  have hz1' : w.heap.size < w1.heap.size := hz1
  clear hb1
  simp [go_sem] at hc0 hc1 hc2
  go_wp2_with fail
  go_ret2
  exact BE.err 3 HP.out (HBw.out.alloc (by omega) _)

set_option maxHeartbeats 1600000 in
theorem key_k4 (k : UInt8) (n : Int) (s : ByteArray) (w : World) (hr : Cell.rightB ⟨k, n, s⟩ = true) (hk : k.toNat = 4) (hs : s.size ≤ 36) :
    Calls Try.prog 19 #[.agg #[.int .u8 (k.toNat : Int), .int .i64 n, .string s]] w (BE w (Cell.key ⟨k, n, s⟩)) := by
  have HP := hide (Cell.key_ok (t := Cell.esc s.data.toList ++ [0, 0]) hr (fun _ => hs) (by unfold Cell.keyTail; simp only [hk]; rfl))
  have u1 : decide ((36 : Int) < (s.size : Int)) = false := by simp; omega
  have hlen : s.data.toList.length = s.size := by rw [Array.length_toList]; rfl
  have t1 : ((k.toNat : Int) == 1) = false := by simp; omega
  have t2 : ((k.toNat : Int) == 2) = false := by simp; omega
  have t3 : ((k.toNat : Int) == 3) = false := by simp; omega
  have t4 : ((k.toNat : Int) == 4) = true := by simp; omega
  have t5 : ((k.toNat : Int) == 5) = false := by simp; omega
  clear hk
  have HR := hide hr
  clear hr
  go_enter Try.func19, Try.ntmps19
  go_wp2_with fail
  refine (right_any k n s _).mono ?_
  rintro e w1 ⟨rfl, hb1⟩
  rw [HR.out]
  have HB1 := hide hb1
  have HBw : Hid (Below w.heap.size w w1) := ((Below.refl _ _).alloc (Nat.le_refl _) _).trans (hb1.mono (by simp))
  have hc0 := hb1.cell (p := ⟨w.heap.size, 0, none⟩) (by simp)
  have hc1 := hb1.cell (p := ⟨w.heap.size, 1, none⟩) (by simp)
  have hc2 := hb1.cell (p := ⟨w.heap.size, 2, none⟩) (by simp)
  have hz1 : w.heap.size + 1 ≤ w1.heap.size := by have := hb1.size; simp at this; omega
  have hz1' : w.heap.size < w1.heap.size := hz1
  clear hb1
  simp [go_sem] at hc0 hc1 hc2
  have HL := hide (own_base (own_lit w1 5 [k] 1 rfl (by unfold maxLen; omega)) hz1)
  have HBl := hide (HBw.out.alloc (show w.heap.size ≤ w1.heap.size by omega) (.cells #[.int .u8 (k.toNat : Int)] 5))
  have HLen := hide hlen
  clear hlen
  go_wp2_with fail
  obtain ⟨w2, hw2⟩ : ∃ w2, w2 = w1.alloc (.cells #[.int .u8 (k.toNat : Int)] 5) := ⟨_, rfl⟩
  have hz2 : w.heap.size + 1 ≤ w2.heap.size := by rw [hw2]; simp; omega
  have hz2' : w.heap.size < w2.heap.size := hz2
  have hd2 : w2.cell? ⟨w.heap.size, 2, none⟩ = some (.string s) := by rw [hw2]; exact (World.cell?_alloc_lt w1 _ _ (by show w.heap.size < _; omega)).trans hc2
  have HL2 : Hid (w2.ownsRow (w.heap.size + 1) 5 1 (.slice (some ⟨w1.heap.size, 0, none⟩) 1 1) 1 ([k].map B8)) := by rw [hw2]; exact HL.out
  have HB2 : Hid (Below w.heap.size w w2) := by rw [hw2]; exact HBl.out
  have HD2 := hide hd2
  rw [← hw2]
  clear hw2 hd2 hc0 hc1 hc2 HL HBl
  go_loopw [4, 41] (fun v i wr => ∃ j m : Nat, j ≤ s.size ∧ i = .int .i64 (j : Nat) ∧ m = 1 + (Cell.esc (s.data.toList.take j)).length ∧ wr.ownsRow (w.heap.size + 1) 5 1 v m ((k :: Cell.esc (s.data.toList.take j)).map B8) ∧ Below (w.heap.size + 1) w2 wr) (fun _ i _ => s.size - (intOf i).toNat)
  case atStart => exact ⟨0, 1, Nat.zero_le _, rfl, rfl, HL2.out, Below.refl _ _⟩
  case round =>
    obtain ⟨j, m, hj, rfl, hm, hown, hbel⟩ := hrel
    have hml : m ≤ 1 + 2 * j := by have := Cell.esc_len (s.data.toList.take j); rw [List.length_take] at this; omega
    have HM := hide hm
    have HO := hide hown
    have HB := hide hbel
    have hsz := hbel.size
    have hsz' : w.heap.size < wr.heap.size := by omega
    have hd := (hbel.cell (p := ⟨w.heap.size, 2, none⟩) (show w.heap.size < w.heap.size + 1 by omega)).trans HD2.out
    clear hm hown hbel
    by_cases hlt : j < s.size
    · have HE : Hid (s.data.toList.take (j + 1) = s.data.toList.take j ++ [s[j]]) := by
        show _ = _
        rw [List.take_succ_eq_append_getElem (by rw [HLen.out]; exact hlt)]
        rfl
      have hjI : (j : Int) < (s.size : Int) := by omega
      by_cases hz : s[j] = 0
      · have HX : Hid (Cell.esc (s.data.toList.take (j + 1)) = Cell.esc (s.data.toList.take j) ++ [s[j], 255]) := by
          show _ = _
          rw [HE.out, Cell.esc_snoc, if_pos hz, hz]
        have hzb : ((s[j].toNat : Int) == 0) = true := by rw [hz]; rfl
        clear hz HE
        go_wp2_with (first | (at_builtin; refine wpList_appL bt rfl (.tmp 44) (.tmp 49) rfl (w.heap.size + 1) _ m (k :: Cell.esc (s.data.toList.take j)) rfl HO.out _ 1 1 [s[j]] rfl rfl rfl rfl (by omega) (by omega) ?_; intro v3 w3 hown3 hb3 _; have HO3 := hide hown3; have HB3 := hide (HB.out.trans hb3); have hz3 : w.heap.size < w3.heap.size := (Nat.lt_of_lt_of_le hsz' hb3.size); have hd3 := (hb3.cell (p := ⟨w.heap.size, 2, none⟩) (show w.heap.size < w.heap.size + 1 by omega)).trans hd; clear hown3 hb3) | (at_builtin; refine wpList_appL bt rfl (.tmp 56) (.tmp 57) rfl (w.heap.size + 1) _ (m + 1) ((k :: Cell.esc (s.data.toList.take j)) ++ [s[j]]) rfl HO3.out _ 1 1 [255] rfl rfl rfl rfl (by omega) (by omega) ?_; intro v4 w4 hown4 hb4 _; have HO4 := hide hown4; have HB4 := hide (HB3.out.trans hb4); clear hown4 hb4))
        go_roundw
        case rel => exact ⟨j + 1, m + 1 + 1, by omega, by go_num, by rw [HX.out, List.length_append, HM.out]; simp; omega, by rw [HX.out]; have := HO4.out; rw [List.append_assoc] at this; exact this, HB4.out⟩
        case measure => simp [intOf]; omega
      · have HX : Hid (Cell.esc (s.data.toList.take (j + 1)) = Cell.esc (s.data.toList.take j) ++ [s[j]]) := by
          show _ = _
          rw [HE.out, Cell.esc_snoc, if_neg hz]
        have hzb : ((s[j].toNat : Int) == 0) = false := by
          simp
          intro h
          exact hz (UInt8.toNat_inj.1 h)
        clear hz HE
        go_wp2_with (at_builtin; refine wpList_appL bt rfl (.tmp 44) (.tmp 49) rfl (w.heap.size + 1) _ m (k :: Cell.esc (s.data.toList.take j)) rfl HO.out _ 1 1 [s[j]] rfl rfl rfl rfl (by omega) (by omega) ?_; intro v3 w3 hown3 hb3 _; have HO3 := hide hown3; have HB3 := hide (HB.out.trans hb3); have hz3 : w.heap.size < w3.heap.size := (Nat.lt_of_lt_of_le hsz' hb3.size); have hd3 := (hb3.cell (p := ⟨w.heap.size, 2, none⟩) (show w.heap.size < w.heap.size + 1 by omega)).trans hd; clear hown3 hb3)
        go_roundw
        case rel => exact ⟨j + 1, m + 1, by omega, by go_num, by rw [HX.out, List.length_append, HM.out]; simp; omega, by rw [HX.out]; exact HO3.out, HB3.out⟩
        case measure => simp [intOf]; omega
    · obtain rfl : j = s.size := by omega
      have htk : s.data.toList.take s.size = s.data.toList := List.take_of_length_le (by rw [HLen.out]; exact Nat.le_refl _)
      rw [htk] at HM HO
      clear htk
      go_wp2_with (at_builtin; refine wpList_appL bt rfl (.tmp 60) (.tmp 61) rfl (w.heap.size + 1) _ m (k :: Cell.esc s.data.toList) rfl HO.out _ 2 2 [0, 0] rfl rfl rfl rfl (by omega) (by omega) ?_; intro v3 w3 hown3 hb3 _; have HO3 := hide hown3; have HB3 := hide (HB.out.trans hb3); clear hown3 hb3; obtain ⟨A3, c3, rfl⟩ := own_sl HO3.out)
      go_ret2
      exact BE.ok HP.out (by rw [HM.out]; simp; omega) HO3.out (HB2.out.trans (HB3.out.mono (by omega)))

set_option maxHeartbeats 1600000 in
theorem key_l5 (k : UInt8) (n : Int) (s : ByteArray) (w : World) (hr : Cell.rightB ⟨k, n, s⟩ = true) (hk : k.toNat = 5) (hs : 36 < s.size) :
    Calls Try.prog 19 #[.agg #[.int .u8 (k.toNat : Int), .int .i64 n, .string s]] w (BE w (Cell.key ⟨k, n, s⟩)) := by
  have HP := hide (Cell.key_long hr (show 4 ≤ k.toNat by omega) hs)
  have u1 : decide ((36 : Int) < (s.size : Int)) = true := by simp; omega
  have t1 : ((k.toNat : Int) == 1) = false := by simp; omega
  have t2 : ((k.toNat : Int) == 2) = false := by simp; omega
  have t3 : ((k.toNat : Int) == 3) = false := by simp; omega
  have t4 : ((k.toNat : Int) == 4) = false := by simp; omega
  have t5 : ((k.toNat : Int) == 5) = true := by simp; omega
  clear hk
  have HR := hide hr
  clear hr
  go_enter Try.func19, Try.ntmps19
  go_wp2_with fail
  refine (right_any k n s _).mono ?_
  rintro e w1 ⟨rfl, hb1⟩
  rw [HR.out]
  have HB1 := hide hb1
  have HBw : Hid (Below w.heap.size w w1) := ((Below.refl _ _).alloc (Nat.le_refl _) _).trans (hb1.mono (by simp))
  have hc0 := hb1.cell (p := ⟨w.heap.size, 0, none⟩) (by simp)
  have hc1 := hb1.cell (p := ⟨w.heap.size, 1, none⟩) (by simp)
  have hc2 := hb1.cell (p := ⟨w.heap.size, 2, none⟩) (by simp)
  have hz1 : w.heap.size + 1 ≤ w1.heap.size := by have := hb1.size; simp at this; omega
  have hz1' : w.heap.size < w1.heap.size := hz1
  clear hb1
  simp [go_sem] at hc0 hc1 hc2
  go_wp2_with fail
  go_ret2
  exact BE.err 3 HP.out (HBw.out.alloc (by omega) _)

set_option maxHeartbeats 1600000 in
theorem key_k5 (k : UInt8) (n : Int) (s : ByteArray) (w : World) (hr : Cell.rightB ⟨k, n, s⟩ = true) (hk : k.toNat = 5) (hs : s.size ≤ 36) :
    Calls Try.prog 19 #[.agg #[.int .u8 (k.toNat : Int), .int .i64 n, .string s]] w (BE w (Cell.key ⟨k, n, s⟩)) := by
  have HP := hide (Cell.key_ok (t := Cell.esc s.data.toList ++ [0, 0]) hr (fun _ => hs) (by unfold Cell.keyTail; simp only [hk]; rfl))
  have u1 : decide ((36 : Int) < (s.size : Int)) = false := by simp; omega
  have hlen : s.data.toList.length = s.size := by rw [Array.length_toList]; rfl
  have t1 : ((k.toNat : Int) == 1) = false := by simp; omega
  have t2 : ((k.toNat : Int) == 2) = false := by simp; omega
  have t3 : ((k.toNat : Int) == 3) = false := by simp; omega
  have t4 : ((k.toNat : Int) == 4) = false := by simp; omega
  have t5 : ((k.toNat : Int) == 5) = true := by simp; omega
  clear hk
  have HR := hide hr
  clear hr
  go_enter Try.func19, Try.ntmps19
  go_wp2_with fail
  refine (right_any k n s _).mono ?_
  rintro e w1 ⟨rfl, hb1⟩
  rw [HR.out]
  have HB1 := hide hb1
  have HBw : Hid (Below w.heap.size w w1) := ((Below.refl _ _).alloc (Nat.le_refl _) _).trans (hb1.mono (by simp))
  have hc0 := hb1.cell (p := ⟨w.heap.size, 0, none⟩) (by simp)
  have hc1 := hb1.cell (p := ⟨w.heap.size, 1, none⟩) (by simp)
  have hc2 := hb1.cell (p := ⟨w.heap.size, 2, none⟩) (by simp)
  have hz1 : w.heap.size + 1 ≤ w1.heap.size := by have := hb1.size; simp at this; omega
  have hz1' : w.heap.size < w1.heap.size := hz1
  clear hb1
  simp [go_sem] at hc0 hc1 hc2
  have HL := hide (own_base (own_lit w1 5 [k] 1 rfl (by unfold maxLen; omega)) hz1)
  have HBl := hide (HBw.out.alloc (show w.heap.size ≤ w1.heap.size by omega) (.cells #[.int .u8 (k.toNat : Int)] 5))
  have HLen := hide hlen
  clear hlen
  go_wp2_with fail
  obtain ⟨w2, hw2⟩ : ∃ w2, w2 = w1.alloc (.cells #[.int .u8 (k.toNat : Int)] 5) := ⟨_, rfl⟩
  have hz2 : w.heap.size + 1 ≤ w2.heap.size := by rw [hw2]; simp; omega
  have hz2' : w.heap.size < w2.heap.size := hz2
  have hd2 : w2.cell? ⟨w.heap.size, 2, none⟩ = some (.string s) := by rw [hw2]; exact (World.cell?_alloc_lt w1 _ _ (by show w.heap.size < _; omega)).trans hc2
  have HL2 : Hid (w2.ownsRow (w.heap.size + 1) 5 1 (.slice (some ⟨w1.heap.size, 0, none⟩) 1 1) 1 ([k].map B8)) := by rw [hw2]; exact HL.out
  have HB2 : Hid (Below w.heap.size w w2) := by rw [hw2]; exact HBl.out
  have HD2 := hide hd2
  rw [← hw2]
  clear hw2 hd2 hc0 hc1 hc2 HL HBl
  go_loopw [4, 41] (fun v i wr => ∃ j m : Nat, j ≤ s.size ∧ i = .int .i64 (j : Nat) ∧ m = 1 + (Cell.esc (s.data.toList.take j)).length ∧ wr.ownsRow (w.heap.size + 1) 5 1 v m ((k :: Cell.esc (s.data.toList.take j)).map B8) ∧ Below (w.heap.size + 1) w2 wr) (fun _ i _ => s.size - (intOf i).toNat)
  case atStart => exact ⟨0, 1, Nat.zero_le _, rfl, rfl, HL2.out, Below.refl _ _⟩
  case round =>
    obtain ⟨j, m, hj, rfl, hm, hown, hbel⟩ := hrel
    have hml : m ≤ 1 + 2 * j := by have := Cell.esc_len (s.data.toList.take j); rw [List.length_take] at this; omega
    have HM := hide hm
    have HO := hide hown
    have HB := hide hbel
    have hsz := hbel.size
    have hsz' : w.heap.size < wr.heap.size := by omega
    have hd := (hbel.cell (p := ⟨w.heap.size, 2, none⟩) (show w.heap.size < w.heap.size + 1 by omega)).trans HD2.out
    clear hm hown hbel
    by_cases hlt : j < s.size
    · have HE : Hid (s.data.toList.take (j + 1) = s.data.toList.take j ++ [s[j]]) := by
        show _ = _
        rw [List.take_succ_eq_append_getElem (by rw [HLen.out]; exact hlt)]
        rfl
      have hjI : (j : Int) < (s.size : Int) := by omega
      by_cases hz : s[j] = 0
      · have HX : Hid (Cell.esc (s.data.toList.take (j + 1)) = Cell.esc (s.data.toList.take j) ++ [s[j], 255]) := by
          show _ = _
          rw [HE.out, Cell.esc_snoc, if_pos hz, hz]
        have hzb : ((s[j].toNat : Int) == 0) = true := by rw [hz]; rfl
        clear hz HE
        go_wp2_with (first | (at_builtin; refine wpList_appL bt rfl (.tmp 44) (.tmp 49) rfl (w.heap.size + 1) _ m (k :: Cell.esc (s.data.toList.take j)) rfl HO.out _ 1 1 [s[j]] rfl rfl rfl rfl (by omega) (by omega) ?_; intro v3 w3 hown3 hb3 _; have HO3 := hide hown3; have HB3 := hide (HB.out.trans hb3); have hz3 : w.heap.size < w3.heap.size := (Nat.lt_of_lt_of_le hsz' hb3.size); have hd3 := (hb3.cell (p := ⟨w.heap.size, 2, none⟩) (show w.heap.size < w.heap.size + 1 by omega)).trans hd; clear hown3 hb3) | (at_builtin; refine wpList_appL bt rfl (.tmp 56) (.tmp 57) rfl (w.heap.size + 1) _ (m + 1) ((k :: Cell.esc (s.data.toList.take j)) ++ [s[j]]) rfl HO3.out _ 1 1 [255] rfl rfl rfl rfl (by omega) (by omega) ?_; intro v4 w4 hown4 hb4 _; have HO4 := hide hown4; have HB4 := hide (HB3.out.trans hb4); clear hown4 hb4))
        go_roundw
        case rel => exact ⟨j + 1, m + 1 + 1, by omega, by go_num, by rw [HX.out, List.length_append, HM.out]; simp; omega, by rw [HX.out]; have := HO4.out; rw [List.append_assoc] at this; exact this, HB4.out⟩
        case measure => simp [intOf]; omega
      · have HX : Hid (Cell.esc (s.data.toList.take (j + 1)) = Cell.esc (s.data.toList.take j) ++ [s[j]]) := by
          show _ = _
          rw [HE.out, Cell.esc_snoc, if_neg hz]
        have hzb : ((s[j].toNat : Int) == 0) = false := by
          simp
          intro h
          exact hz (UInt8.toNat_inj.1 h)
        clear hz HE
        go_wp2_with (at_builtin; refine wpList_appL bt rfl (.tmp 44) (.tmp 49) rfl (w.heap.size + 1) _ m (k :: Cell.esc (s.data.toList.take j)) rfl HO.out _ 1 1 [s[j]] rfl rfl rfl rfl (by omega) (by omega) ?_; intro v3 w3 hown3 hb3 _; have HO3 := hide hown3; have HB3 := hide (HB.out.trans hb3); have hz3 : w.heap.size < w3.heap.size := (Nat.lt_of_lt_of_le hsz' hb3.size); have hd3 := (hb3.cell (p := ⟨w.heap.size, 2, none⟩) (show w.heap.size < w.heap.size + 1 by omega)).trans hd; clear hown3 hb3)
        go_roundw
        case rel => exact ⟨j + 1, m + 1, by omega, by go_num, by rw [HX.out, List.length_append, HM.out]; simp; omega, by rw [HX.out]; exact HO3.out, HB3.out⟩
        case measure => simp [intOf]; omega
    · obtain rfl : j = s.size := by omega
      have htk : s.data.toList.take s.size = s.data.toList := List.take_of_length_le (by rw [HLen.out]; exact Nat.le_refl _)
      rw [htk] at HM HO
      clear htk
      go_wp2_with (at_builtin; refine wpList_appL bt rfl (.tmp 60) (.tmp 61) rfl (w.heap.size + 1) _ m (k :: Cell.esc s.data.toList) rfl HO.out _ 2 2 [0, 0] rfl rfl rfl rfl (by omega) (by omega) ?_; intro v3 w3 hown3 hb3 _; have HO3 := hide hown3; have HB3 := hide (HB.out.trans hb3); clear hown3 hb3; obtain ⟨A3, c3, rfl⟩ := own_sl HO3.out)
      go_ret2
      exact BE.ok HP.out (by rw [HM.out]; simp; omega) HO3.out (HB2.out.trans (HB3.out.mono (by omega)))

theorem key_any (k : UInt8) (n : Int) (s : ByteArray) (w : World) : Calls Try.prog 19 #[.agg #[.int .u8 (k.toNat : Int), .int .i64 n, .string s]] w (BE w (Cell.key ⟨k, n, s⟩)) := by
  cases hr : Cell.rightB ⟨k, n, s⟩ with
  | false => exact key_bad k n s w hr
  | true =>
    have h5 : k.toNat ≤ 5 := Cell.right_kind hr
    by_cases h0 : k.toNat = 0
    · exact key_k0 k n s w hr h0
    by_cases h1 : k.toNat = 1
    · exact key_k1 k n s w hr h1
    by_cases h2 : k.toNat = 2
    · exact key_k2 k n s w hr h2
    by_cases h3 : k.toNat = 3
    · exact key_k3 k n s w hr h3
    by_cases hs : s.size ≤ 36
    · by_cases h4 : k.toNat = 4
      · exact key_k4 k n s w hr h4 hs
      · exact key_k5 k n s w hr (by omega) hs
    · by_cases h4 : k.toNat = 4
      · exact key_l4 k n s w hr h4 (by omega)
      · exact key_l5 k n s w hr (by omega) (by omega)

set_option maxHeartbeats 1600000 in
theorem refKey_bad (k : UInt8) (n : Int) (s : ByteArray) (w : World) (hr : Cell.rightB ⟨k, n, s⟩ = false) :
    Calls Try.prog 20 #[.agg #[.int .u8 (k.toNat : Int), .int .i64 n, .string s]] w (BE w (Cell.key ⟨k, n, s⟩)) := by
  have HP := hide (Cell.key_bad hr)
  have HR := hide hr
  clear hr
  go_enter Try.func20, Try.ntmps20
  go_wp2_with fail
  refine (refRight_any k n s _).mono ?_
  rintro e w1 ⟨rfl, hb1⟩
  rw [HR.out]
  have HB1 := hide hb1
  have HBw : Hid (Below w.heap.size w w1) := ((Below.refl _ _).alloc (Nat.le_refl _) _).trans (hb1.mono (by simp))
  have hc0 := hb1.cell (p := ⟨w.heap.size, 0, none⟩) (by simp)
  have hc1 := hb1.cell (p := ⟨w.heap.size, 1, none⟩) (by simp)
  have hc2 := hb1.cell (p := ⟨w.heap.size, 2, none⟩) (by simp)
  have hz1 : w.heap.size + 1 ≤ w1.heap.size := by have := hb1.size; simp at this; omega
  have hz1' : w.heap.size < w1.heap.size := hz1
  clear hb1
  simp [go_sem] at hc0 hc1 hc2
  go_wp2_with fail
  go_ret2
  exact BE.err 2 HP.out HBw.out

set_option maxHeartbeats 1600000 in
theorem refKey_k0 (k : UInt8) (n : Int) (s : ByteArray) (w : World) (hr : Cell.rightB ⟨k, n, s⟩ = true) (hk : k.toNat = 0) :
    Calls Try.prog 20 #[.agg #[.int .u8 (k.toNat : Int), .int .i64 n, .string s]] w (BE w (Cell.key ⟨k, n, s⟩)) := by
  have HP := hide (Cell.key_ok (t := []) hr (fun h => by simp only at h; omega) (by unfold Cell.keyTail; simp only [hk]))
  have t1 : ((k.toNat : Int) == 1) = false := by simp; omega
  have t2 : ((k.toNat : Int) == 2) = false := by simp; omega
  have t3 : ((k.toNat : Int) == 3) = false := by simp; omega
  have t4 : ((k.toNat : Int) == 4) = false := by simp; omega
  have t5 : ((k.toNat : Int) == 5) = false := by simp; omega
  clear hk
  have HR := hide hr
  clear hr
  go_enter Try.func20, Try.ntmps20
  go_wp2_with fail
  refine (refRight_any k n s _).mono ?_
  rintro e w1 ⟨rfl, hb1⟩
  rw [HR.out]
  have HB1 := hide hb1
  have HBw : Hid (Below w.heap.size w w1) := ((Below.refl _ _).alloc (Nat.le_refl _) _).trans (hb1.mono (by simp))
  have hc0 := hb1.cell (p := ⟨w.heap.size, 0, none⟩) (by simp)
  have hc1 := hb1.cell (p := ⟨w.heap.size, 1, none⟩) (by simp)
  have hc2 := hb1.cell (p := ⟨w.heap.size, 2, none⟩) (by simp)
  have hz1 : w.heap.size + 1 ≤ w1.heap.size := by have := hb1.size; simp at this; omega
  have hz1' : w.heap.size < w1.heap.size := hz1
  clear hb1
  simp [go_sem] at hc0 hc1 hc2
  go_wp2_with fail
  go_ret2
  exact BE.ok HP.out rfl (own_base (own_lit w1 5 [k] 1 rfl (by unfold maxLen; omega)) hz1) (HBw.out.alloc (by omega) _)

set_option maxHeartbeats 1600000 in
theorem refKey_k1 (k : UInt8) (n : Int) (s : ByteArray) (w : World) (hr : Cell.rightB ⟨k, n, s⟩ = true) (hk : k.toNat = 1) :
    Calls Try.prog 20 #[.agg #[.int .u8 (k.toNat : Int), .int .i64 n, .string s]] w (BE w (Cell.key ⟨k, n, s⟩)) := by
  have HP := hide (Cell.key_ok (t := [Cell.byteOf (n % 256).toNat]) hr (fun h => by simp only at h; omega) (by unfold Cell.keyTail; simp only [hk]))
  have t1 : ((k.toNat : Int) == 1) = true := by simp; omega
  have t2 : ((k.toNat : Int) == 2) = false := by simp; omega
  have t3 : ((k.toNat : Int) == 3) = false := by simp; omega
  have t4 : ((k.toNat : Int) == 4) = false := by simp; omega
  have t5 : ((k.toNat : Int) == 5) = false := by simp; omega
  clear hk
  have HR := hide hr
  clear hr
  go_enter Try.func20, Try.ntmps20
  go_wp2_with fail
  refine (refRight_any k n s _).mono ?_
  rintro e w1 ⟨rfl, hb1⟩
  rw [HR.out]
  have HB1 := hide hb1
  have HBw : Hid (Below w.heap.size w w1) := ((Below.refl _ _).alloc (Nat.le_refl _) _).trans (hb1.mono (by simp))
  have hc0 := hb1.cell (p := ⟨w.heap.size, 0, none⟩) (by simp)
  have hc1 := hb1.cell (p := ⟨w.heap.size, 1, none⟩) (by simp)
  have hc2 := hb1.cell (p := ⟨w.heap.size, 2, none⟩) (by simp)
  have hz1 : w.heap.size + 1 ≤ w1.heap.size := by have := hb1.size; simp at this; omega
  have hz1' : w.heap.size < w1.heap.size := hz1
  clear hb1
  simp [go_sem] at hc0 hc1 hc2
  have HL := hide (own_base (own_lit w1 5 [k] 1 rfl (by unfold maxLen; omega)) hz1)
  have HBl := hide (HBw.out.alloc (show w.heap.size ≤ w1.heap.size by omega) (.cells #[.int .u8 (k.toNat : Int)] 5))
  have HC : Hid (#[Value.int .u8 (IntKind.u8.wrap n)] = ([Cell.byteOf (n % 256).toNat].map B8).toArray) := by show _ = _; rw [u8_byte]; rfl
  go_wp2_with (at_builtin; refine wpList_appL bt rfl (.tmp 16) (.tmp 20) rfl (w.heap.size + 1) _ 1 [k] rfl HL.out _ 1 1 [Cell.byteOf (n % 256).toNat] rfl (by simp) rfl HC.out (by omega) (by simp; omega) ?_; intro v3 w3 hown3 hb3 _; have HO3 := hide hown3; have HB3 := hide (HBl.out.trans (hb3.mono (by omega))); clear hown3 hb3; obtain ⟨A3, c3, rfl⟩ := own_sl HO3.out)
  go_ret2
  exact BE.ok HP.out rfl HO3.out HB3.out

set_option maxHeartbeats 1600000 in
theorem refKey_k2 (k : UInt8) (n : Int) (s : ByteArray) (w : World) (hr : Cell.rightB ⟨k, n, s⟩ = true) (hk : k.toNat = 2) :
    Calls Try.prog 20 #[.agg #[.int .u8 (k.toNat : Int), .int .i64 n, .string s]] w (BE w (Cell.key ⟨k, n, s⟩)) := by
  have HP := hide (Cell.key_ok (t := Cell.be8 ((Cell.u64 n + 9223372036854775808) % 18446744073709551616)) hr (fun h => by simp only at h; omega) (by unfold Cell.keyTail; simp only [hk]))
  have t1 : ((k.toNat : Int) == 1) = false := by simp; omega
  have t2 : ((k.toNat : Int) == 2) = true := by simp; omega
  have t3 : ((k.toNat : Int) == 3) = false := by simp; omega
  have t4 : ((k.toNat : Int) == 4) = false := by simp; omega
  have t5 : ((k.toNat : Int) == 5) = false := by simp; omega
  clear hk
  have HR := hide hr
  clear hr
  go_enter Try.func20, Try.ntmps20
  go_wp2_with fail
  refine (refRight_any k n s _).mono ?_
  rintro e w1 ⟨rfl, hb1⟩
  rw [HR.out]
  have HB1 := hide hb1
  have HBw : Hid (Below w.heap.size w w1) := ((Below.refl _ _).alloc (Nat.le_refl _) _).trans (hb1.mono (by simp))
  have hc0 := hb1.cell (p := ⟨w.heap.size, 0, none⟩) (by simp)
  have hc1 := hb1.cell (p := ⟨w.heap.size, 1, none⟩) (by simp)
  have hc2 := hb1.cell (p := ⟨w.heap.size, 2, none⟩) (by simp)
  have hz1 : w.heap.size + 1 ≤ w1.heap.size := by have := hb1.size; simp at this; omega
  have hz1' : w.heap.size < w1.heap.size := hz1
  clear hb1
  simp [go_sem] at hc0 hc1 hc2
  have HL := hide (own_base (own_lit w1 5 [k] 1 rfl (by unfold maxLen; omega)) hz1)
  have HBl := hide (HBw.out.alloc (show w.heap.size ≤ w1.heap.size by omega) (.cells #[.int .u8 (k.toNat : Int)] 5))
  go_wp2_with fail
  rw [add_key]
  refine (eight_any _ _ (Nat.mod_lt _ (by omega))).mono ?_
  rintro e w3 ⟨v3, rfl, hown3, hb3⟩
  obtain ⟨A3, c3, rfl⟩ := own_sl hown3
  have HO3 := hide (Rb.own hown3)
  have HL3 := hide (own_below HL.out hb3)
  have HB3 := hide (HBl.out.trans (hb3.mono (by simp; omega)))
  have hz3 := hb3.size
  rw [World.size_alloc] at hz3
  clear hown3 hb3
  go_wp2_with (at_builtin; refine wpList_app _ bt rfl (.tmp 25) (.tmp 30) rfl (w.heap.size + 1) _ 1 [k] rfl HL3.out _ A3 8 c3 _ rfl HO3.out (by omega) (by omega) ?_; intro v4 w4 hown4 hb4 _; have HO4 := hide hown4; have HB4 := hide (HB3.out.trans (hb4.mono (by omega))); clear hown4 hb4; obtain ⟨A4, c4, rfl⟩ := own_sl HO4.out)
  go_ret2
  exact BE.ok HP.out rfl HO4.out HB4.out

set_option maxHeartbeats 1600000 in
theorem refKey_k3 (k : UInt8) (n : Int) (s : ByteArray) (w : World) (hr : Cell.rightB ⟨k, n, s⟩ = true) (hk : k.toNat = 3) :
    Calls Try.prog 20 #[.agg #[.int .u8 (k.toNat : Int), .int .i64 n, .string s]] w (BE w (Cell.key ⟨k, n, s⟩)) := by
  have HP := hide (Cell.key_ok (t := Cell.be8 ((Cell.u64 n + 9223372036854775808) % 18446744073709551616)) hr (fun h => by simp only at h; omega) (by unfold Cell.keyTail; simp only [hk]))
  have t1 : ((k.toNat : Int) == 1) = false := by simp; omega
  have t2 : ((k.toNat : Int) == 2) = false := by simp; omega
  have t3 : ((k.toNat : Int) == 3) = true := by simp; omega
  have t4 : ((k.toNat : Int) == 4) = false := by simp; omega
  have t5 : ((k.toNat : Int) == 5) = false := by simp; omega
  clear hk
  have HR := hide hr
  clear hr
  go_enter Try.func20, Try.ntmps20
  go_wp2_with fail
  refine (refRight_any k n s _).mono ?_
  rintro e w1 ⟨rfl, hb1⟩
  rw [HR.out]
  have HB1 := hide hb1
  have HBw : Hid (Below w.heap.size w w1) := ((Below.refl _ _).alloc (Nat.le_refl _) _).trans (hb1.mono (by simp))
  have hc0 := hb1.cell (p := ⟨w.heap.size, 0, none⟩) (by simp)
  have hc1 := hb1.cell (p := ⟨w.heap.size, 1, none⟩) (by simp)
  have hc2 := hb1.cell (p := ⟨w.heap.size, 2, none⟩) (by simp)
  have hz1 : w.heap.size + 1 ≤ w1.heap.size := by have := hb1.size; simp at this; omega
  have hz1' : w.heap.size < w1.heap.size := hz1
  clear hb1
  simp [go_sem] at hc0 hc1 hc2
  have HL := hide (own_base (own_lit w1 5 [k] 1 rfl (by unfold maxLen; omega)) hz1)
  have HBl := hide (HBw.out.alloc (show w.heap.size ≤ w1.heap.size by omega) (.cells #[.int .u8 (k.toNat : Int)] 5))
  go_wp2_with fail
  rw [add_key]
  refine (eight_any _ _ (Nat.mod_lt _ (by omega))).mono ?_
  rintro e w3 ⟨v3, rfl, hown3, hb3⟩
  obtain ⟨A3, c3, rfl⟩ := own_sl hown3
  have HO3 := hide (Rb.own hown3)
  have HL3 := hide (own_below HL.out hb3)
  have HB3 := hide (HBl.out.trans (hb3.mono (by simp; omega)))
  have hz3 := hb3.size
  rw [World.size_alloc] at hz3
  clear hown3 hb3
  go_wp2_with (at_builtin; refine wpList_app _ bt rfl (.tmp 25) (.tmp 30) rfl (w.heap.size + 1) _ 1 [k] rfl HL3.out _ A3 8 c3 _ rfl HO3.out (by omega) (by omega) ?_; intro v4 w4 hown4 hb4 _; have HO4 := hide hown4; have HB4 := hide (HB3.out.trans (hb4.mono (by omega))); clear hown4 hb4; obtain ⟨A4, c4, rfl⟩ := own_sl HO4.out)
  go_ret2
  exact BE.ok HP.out rfl HO4.out HB4.out

set_option maxHeartbeats 1600000 in
theorem refKey_l4 (k : UInt8) (n : Int) (s : ByteArray) (w : World) (hr : Cell.rightB ⟨k, n, s⟩ = true) (hk : k.toNat = 4) (hs : 36 < s.size) :
    Calls Try.prog 20 #[.agg #[.int .u8 (k.toNat : Int), .int .i64 n, .string s]] w (BE w (Cell.key ⟨k, n, s⟩)) := by
  have HP := hide (Cell.key_long hr (show 4 ≤ k.toNat by omega) hs)
  have u1 : decide ((36 : Int) < (s.size : Int)) = true := by simp; omega
  have t1 : ((k.toNat : Int) == 1) = false := by simp; omega
  have t2 : ((k.toNat : Int) == 2) = false := by simp; omega
  have t3 : ((k.toNat : Int) == 3) = false := by simp; omega
  have t4 : ((k.toNat : Int) == 4) = true := by simp; omega
  have t5 : ((k.toNat : Int) == 5) = false := by simp; omega
  clear hk
  have HR := hide hr
  clear hr
  go_enter Try.func20, Try.ntmps20
  go_wp2_with fail
  refine (refRight_any k n s _).mono ?_
  rintro e w1 ⟨rfl, hb1⟩
  rw [HR.out]
  have HB1 := hide hb1
  have HBw : Hid (Below w.heap.size w w1) := ((Below.refl _ _).alloc (Nat.le_refl _) _).trans (hb1.mono (by simp))
  have hc0 := hb1.cell (p := ⟨w.heap.size, 0, none⟩) (by simp)
  have hc1 := hb1.cell (p := ⟨w.heap.size, 1, none⟩) (by simp)
  have hc2 := hb1.cell (p := ⟨w.heap.size, 2, none⟩) (by simp)
  have hz1 : w.heap.size + 1 ≤ w1.heap.size := by have := hb1.size; simp at this; omega
  have hz1' : w.heap.size < w1.heap.size := hz1
  clear hb1
  simp [go_sem] at hc0 hc1 hc2
  go_wp2_with fail
  go_ret2
  exact BE.err 3 HP.out (HBw.out.alloc (by omega) _)

set_option maxHeartbeats 1600000 in
theorem refKey_k4 (k : UInt8) (n : Int) (s : ByteArray) (w : World) (hr : Cell.rightB ⟨k, n, s⟩ = true) (hk : k.toNat = 4) (hs : s.size ≤ 36) :
    Calls Try.prog 20 #[.agg #[.int .u8 (k.toNat : Int), .int .i64 n, .string s]] w (BE w (Cell.key ⟨k, n, s⟩)) := by
  have HP := hide (Cell.key_ok (t := Cell.esc s.data.toList ++ [0, 0]) hr (fun _ => hs) (by unfold Cell.keyTail; simp only [hk]; rfl))
  have u1 : decide ((36 : Int) < (s.size : Int)) = false := by simp; omega
  have hlen : s.data.toList.length = s.size := by rw [Array.length_toList]; rfl
  have t1 : ((k.toNat : Int) == 1) = false := by simp; omega
  have t2 : ((k.toNat : Int) == 2) = false := by simp; omega
  have t3 : ((k.toNat : Int) == 3) = false := by simp; omega
  have t4 : ((k.toNat : Int) == 4) = true := by simp; omega
  have t5 : ((k.toNat : Int) == 5) = false := by simp; omega
  clear hk
  have HR := hide hr
  clear hr
  go_enter Try.func20, Try.ntmps20
  go_wp2_with fail
  refine (refRight_any k n s _).mono ?_
  rintro e w1 ⟨rfl, hb1⟩
  rw [HR.out]
  have HB1 := hide hb1
  have HBw : Hid (Below w.heap.size w w1) := ((Below.refl _ _).alloc (Nat.le_refl _) _).trans (hb1.mono (by simp))
  have hc0 := hb1.cell (p := ⟨w.heap.size, 0, none⟩) (by simp)
  have hc1 := hb1.cell (p := ⟨w.heap.size, 1, none⟩) (by simp)
  have hc2 := hb1.cell (p := ⟨w.heap.size, 2, none⟩) (by simp)
  have hz1 : w.heap.size + 1 ≤ w1.heap.size := by have := hb1.size; simp at this; omega
  have hz1' : w.heap.size < w1.heap.size := hz1
  clear hb1
  simp [go_sem] at hc0 hc1 hc2
  have HL := hide (own_base (own_lit w1 5 [k] 1 rfl (by unfold maxLen; omega)) hz1)
  have HBl := hide (HBw.out.alloc (show w.heap.size ≤ w1.heap.size by omega) (.cells #[.int .u8 (k.toNat : Int)] 5))
  have HLen := hide hlen
  clear hlen
  go_wp2_with fail
  obtain ⟨w2, hw2⟩ : ∃ w2, w2 = w1.alloc (.cells #[.int .u8 (k.toNat : Int)] 5) := ⟨_, rfl⟩
  have hz2 : w.heap.size + 1 ≤ w2.heap.size := by rw [hw2]; simp; omega
  have hz2' : w.heap.size < w2.heap.size := hz2
  have hd2 : w2.cell? ⟨w.heap.size, 2, none⟩ = some (.string s) := by rw [hw2]; exact (World.cell?_alloc_lt w1 _ _ (by show w.heap.size < _; omega)).trans hc2
  have HL2 : Hid (w2.ownsRow (w.heap.size + 1) 5 1 (.slice (some ⟨w1.heap.size, 0, none⟩) 1 1) 1 ([k].map B8)) := by rw [hw2]; exact HL.out
  have HB2 : Hid (Below w.heap.size w w2) := by rw [hw2]; exact HBl.out
  have HD2 := hide hd2
  rw [← hw2]
  clear hw2 hd2 hc0 hc1 hc2 HL HBl
  go_loopw [4, 5] (fun v i wr => ∃ j m : Nat, j ≤ s.size ∧ i = .int .i64 (j : Nat) ∧ m = 1 + (Cell.esc (s.data.toList.take j)).length ∧ wr.ownsRow (w.heap.size + 1) 5 1 v m ((k :: Cell.esc (s.data.toList.take j)).map B8) ∧ Below (w.heap.size + 1) w2 wr) (fun _ i _ => s.size - (intOf i).toNat)
  case atStart => exact ⟨0, 1, Nat.zero_le _, rfl, rfl, HL2.out, Below.refl _ _⟩
  case round =>
    obtain ⟨j, m, hj, rfl, hm, hown, hbel⟩ := hrel
    have hml : m ≤ 1 + 2 * j := by have := Cell.esc_len (s.data.toList.take j); rw [List.length_take] at this; omega
    have HM := hide hm
    have HO := hide hown
    have HB := hide hbel
    have hsz := hbel.size
    have hsz' : w.heap.size < wr.heap.size := by omega
    have hd := (hbel.cell (p := ⟨w.heap.size, 2, none⟩) (show w.heap.size < w.heap.size + 1 by omega)).trans HD2.out
    clear hm hown hbel
    by_cases hlt : j < s.size
    · have HE : Hid (s.data.toList.take (j + 1) = s.data.toList.take j ++ [s[j]]) := by
        show _ = _
        rw [List.take_succ_eq_append_getElem (by rw [HLen.out]; exact hlt)]
        rfl
      have hjI : (j : Int) < (s.size : Int) := by omega
      by_cases hz : s[j] = 0
      · have HX : Hid (Cell.esc (s.data.toList.take (j + 1)) = Cell.esc (s.data.toList.take j) ++ [s[j], 255]) := by
          show _ = _
          rw [HE.out, Cell.esc_snoc, if_pos hz, hz]
        have hzb : ((s[j].toNat : Int) == 0) = true := by rw [hz]; rfl
        clear hz HE
        go_wp2_with (first | (at_builtin; refine wpList_appL bt rfl (.tmp 46) (.tmp 51) rfl (w.heap.size + 1) _ m (k :: Cell.esc (s.data.toList.take j)) rfl HO.out _ 1 1 [s[j]] rfl rfl rfl rfl (by omega) (by omega) ?_; intro v3 w3 hown3 hb3 _; have HO3 := hide hown3; have HB3 := hide (HB.out.trans hb3); have hz3 : w.heap.size < w3.heap.size := (Nat.lt_of_lt_of_le hsz' hb3.size); have hd3 := (hb3.cell (p := ⟨w.heap.size, 2, none⟩) (show w.heap.size < w.heap.size + 1 by omega)).trans hd; clear hown3 hb3) | (at_builtin; refine wpList_appL bt rfl (.tmp 58) (.tmp 59) rfl (w.heap.size + 1) _ (m + 1) ((k :: Cell.esc (s.data.toList.take j)) ++ [s[j]]) rfl HO3.out _ 1 1 [255] rfl rfl rfl rfl (by omega) (by omega) ?_; intro v4 w4 hown4 hb4 _; have HO4 := hide hown4; have HB4 := hide (HB3.out.trans hb4); clear hown4 hb4))
        go_roundw
        case rel => exact ⟨j + 1, m + 1 + 1, by omega, by go_num, by rw [HX.out, List.length_append, HM.out]; simp; omega, by rw [HX.out]; have := HO4.out; rw [List.append_assoc] at this; exact this, HB4.out⟩
        case measure => simp [intOf]; omega
      · have HX : Hid (Cell.esc (s.data.toList.take (j + 1)) = Cell.esc (s.data.toList.take j) ++ [s[j]]) := by
          show _ = _
          rw [HE.out, Cell.esc_snoc, if_neg hz]
        have hzb : ((s[j].toNat : Int) == 0) = false := by
          simp
          intro h
          exact hz (UInt8.toNat_inj.1 h)
        clear hz HE
        go_wp2_with (at_builtin; refine wpList_appL bt rfl (.tmp 46) (.tmp 51) rfl (w.heap.size + 1) _ m (k :: Cell.esc (s.data.toList.take j)) rfl HO.out _ 1 1 [s[j]] rfl rfl rfl rfl (by omega) (by omega) ?_; intro v3 w3 hown3 hb3 _; have HO3 := hide hown3; have HB3 := hide (HB.out.trans hb3); have hz3 : w.heap.size < w3.heap.size := (Nat.lt_of_lt_of_le hsz' hb3.size); have hd3 := (hb3.cell (p := ⟨w.heap.size, 2, none⟩) (show w.heap.size < w.heap.size + 1 by omega)).trans hd; clear hown3 hb3)
        go_roundw
        case rel => exact ⟨j + 1, m + 1, by omega, by go_num, by rw [HX.out, List.length_append, HM.out]; simp; omega, by rw [HX.out]; exact HO3.out, HB3.out⟩
        case measure => simp [intOf]; omega
    · obtain rfl : j = s.size := by omega
      have htk : s.data.toList.take s.size = s.data.toList := List.take_of_length_le (by rw [HLen.out]; exact Nat.le_refl _)
      rw [htk] at HM HO
      clear htk
      go_wp2_with (at_builtin; refine wpList_appL bt rfl (.tmp 61) (.tmp 62) rfl (w.heap.size + 1) _ m (k :: Cell.esc s.data.toList) rfl HO.out _ 2 2 [0, 0] rfl rfl rfl rfl (by omega) (by omega) ?_; intro v3 w3 hown3 hb3 _; have HO3 := hide hown3; have HB3 := hide (HB.out.trans hb3); clear hown3 hb3; obtain ⟨A3, c3, rfl⟩ := own_sl HO3.out)
      go_ret2
      exact BE.ok HP.out (by rw [HM.out]; simp; omega) HO3.out (HB2.out.trans (HB3.out.mono (by omega)))

set_option maxHeartbeats 1600000 in
theorem refKey_l5 (k : UInt8) (n : Int) (s : ByteArray) (w : World) (hr : Cell.rightB ⟨k, n, s⟩ = true) (hk : k.toNat = 5) (hs : 36 < s.size) :
    Calls Try.prog 20 #[.agg #[.int .u8 (k.toNat : Int), .int .i64 n, .string s]] w (BE w (Cell.key ⟨k, n, s⟩)) := by
  have HP := hide (Cell.key_long hr (show 4 ≤ k.toNat by omega) hs)
  have u1 : decide ((36 : Int) < (s.size : Int)) = true := by simp; omega
  have t1 : ((k.toNat : Int) == 1) = false := by simp; omega
  have t2 : ((k.toNat : Int) == 2) = false := by simp; omega
  have t3 : ((k.toNat : Int) == 3) = false := by simp; omega
  have t4 : ((k.toNat : Int) == 4) = false := by simp; omega
  have t5 : ((k.toNat : Int) == 5) = true := by simp; omega
  clear hk
  have HR := hide hr
  clear hr
  go_enter Try.func20, Try.ntmps20
  go_wp2_with fail
  refine (refRight_any k n s _).mono ?_
  rintro e w1 ⟨rfl, hb1⟩
  rw [HR.out]
  have HB1 := hide hb1
  have HBw : Hid (Below w.heap.size w w1) := ((Below.refl _ _).alloc (Nat.le_refl _) _).trans (hb1.mono (by simp))
  have hc0 := hb1.cell (p := ⟨w.heap.size, 0, none⟩) (by simp)
  have hc1 := hb1.cell (p := ⟨w.heap.size, 1, none⟩) (by simp)
  have hc2 := hb1.cell (p := ⟨w.heap.size, 2, none⟩) (by simp)
  have hz1 : w.heap.size + 1 ≤ w1.heap.size := by have := hb1.size; simp at this; omega
  have hz1' : w.heap.size < w1.heap.size := hz1
  clear hb1
  simp [go_sem] at hc0 hc1 hc2
  go_wp2_with fail
  go_ret2
  exact BE.err 3 HP.out (HBw.out.alloc (by omega) _)

set_option maxHeartbeats 1600000 in
theorem refKey_k5 (k : UInt8) (n : Int) (s : ByteArray) (w : World) (hr : Cell.rightB ⟨k, n, s⟩ = true) (hk : k.toNat = 5) (hs : s.size ≤ 36) :
    Calls Try.prog 20 #[.agg #[.int .u8 (k.toNat : Int), .int .i64 n, .string s]] w (BE w (Cell.key ⟨k, n, s⟩)) := by
  have HP := hide (Cell.key_ok (t := Cell.esc s.data.toList ++ [0, 0]) hr (fun _ => hs) (by unfold Cell.keyTail; simp only [hk]; rfl))
  have u1 : decide ((36 : Int) < (s.size : Int)) = false := by simp; omega
  have hlen : s.data.toList.length = s.size := by rw [Array.length_toList]; rfl
  have t1 : ((k.toNat : Int) == 1) = false := by simp; omega
  have t2 : ((k.toNat : Int) == 2) = false := by simp; omega
  have t3 : ((k.toNat : Int) == 3) = false := by simp; omega
  have t4 : ((k.toNat : Int) == 4) = false := by simp; omega
  have t5 : ((k.toNat : Int) == 5) = true := by simp; omega
  clear hk
  have HR := hide hr
  clear hr
  go_enter Try.func20, Try.ntmps20
  go_wp2_with fail
  refine (refRight_any k n s _).mono ?_
  rintro e w1 ⟨rfl, hb1⟩
  rw [HR.out]
  have HB1 := hide hb1
  have HBw : Hid (Below w.heap.size w w1) := ((Below.refl _ _).alloc (Nat.le_refl _) _).trans (hb1.mono (by simp))
  have hc0 := hb1.cell (p := ⟨w.heap.size, 0, none⟩) (by simp)
  have hc1 := hb1.cell (p := ⟨w.heap.size, 1, none⟩) (by simp)
  have hc2 := hb1.cell (p := ⟨w.heap.size, 2, none⟩) (by simp)
  have hz1 : w.heap.size + 1 ≤ w1.heap.size := by have := hb1.size; simp at this; omega
  have hz1' : w.heap.size < w1.heap.size := hz1
  clear hb1
  simp [go_sem] at hc0 hc1 hc2
  have HL := hide (own_base (own_lit w1 5 [k] 1 rfl (by unfold maxLen; omega)) hz1)
  have HBl := hide (HBw.out.alloc (show w.heap.size ≤ w1.heap.size by omega) (.cells #[.int .u8 (k.toNat : Int)] 5))
  have HLen := hide hlen
  clear hlen
  go_wp2_with fail
  obtain ⟨w2, hw2⟩ : ∃ w2, w2 = w1.alloc (.cells #[.int .u8 (k.toNat : Int)] 5) := ⟨_, rfl⟩
  have hz2 : w.heap.size + 1 ≤ w2.heap.size := by rw [hw2]; simp; omega
  have hz2' : w.heap.size < w2.heap.size := hz2
  have hd2 : w2.cell? ⟨w.heap.size, 2, none⟩ = some (.string s) := by rw [hw2]; exact (World.cell?_alloc_lt w1 _ _ (by show w.heap.size < _; omega)).trans hc2
  have HL2 : Hid (w2.ownsRow (w.heap.size + 1) 5 1 (.slice (some ⟨w1.heap.size, 0, none⟩) 1 1) 1 ([k].map B8)) := by rw [hw2]; exact HL.out
  have HB2 : Hid (Below w.heap.size w w2) := by rw [hw2]; exact HBl.out
  have HD2 := hide hd2
  rw [← hw2]
  clear hw2 hd2 hc0 hc1 hc2 HL HBl
  go_loopw [4, 5] (fun v i wr => ∃ j m : Nat, j ≤ s.size ∧ i = .int .i64 (j : Nat) ∧ m = 1 + (Cell.esc (s.data.toList.take j)).length ∧ wr.ownsRow (w.heap.size + 1) 5 1 v m ((k :: Cell.esc (s.data.toList.take j)).map B8) ∧ Below (w.heap.size + 1) w2 wr) (fun _ i _ => s.size - (intOf i).toNat)
  case atStart => exact ⟨0, 1, Nat.zero_le _, rfl, rfl, HL2.out, Below.refl _ _⟩
  case round =>
    obtain ⟨j, m, hj, rfl, hm, hown, hbel⟩ := hrel
    have hml : m ≤ 1 + 2 * j := by have := Cell.esc_len (s.data.toList.take j); rw [List.length_take] at this; omega
    have HM := hide hm
    have HO := hide hown
    have HB := hide hbel
    have hsz := hbel.size
    have hsz' : w.heap.size < wr.heap.size := by omega
    have hd := (hbel.cell (p := ⟨w.heap.size, 2, none⟩) (show w.heap.size < w.heap.size + 1 by omega)).trans HD2.out
    clear hm hown hbel
    by_cases hlt : j < s.size
    · have HE : Hid (s.data.toList.take (j + 1) = s.data.toList.take j ++ [s[j]]) := by
        show _ = _
        rw [List.take_succ_eq_append_getElem (by rw [HLen.out]; exact hlt)]
        rfl
      have hjI : (j : Int) < (s.size : Int) := by omega
      by_cases hz : s[j] = 0
      · have HX : Hid (Cell.esc (s.data.toList.take (j + 1)) = Cell.esc (s.data.toList.take j) ++ [s[j], 255]) := by
          show _ = _
          rw [HE.out, Cell.esc_snoc, if_pos hz, hz]
        have hzb : ((s[j].toNat : Int) == 0) = true := by rw [hz]; rfl
        clear hz HE
        go_wp2_with (first | (at_builtin; refine wpList_appL bt rfl (.tmp 46) (.tmp 51) rfl (w.heap.size + 1) _ m (k :: Cell.esc (s.data.toList.take j)) rfl HO.out _ 1 1 [s[j]] rfl rfl rfl rfl (by omega) (by omega) ?_; intro v3 w3 hown3 hb3 _; have HO3 := hide hown3; have HB3 := hide (HB.out.trans hb3); have hz3 : w.heap.size < w3.heap.size := (Nat.lt_of_lt_of_le hsz' hb3.size); have hd3 := (hb3.cell (p := ⟨w.heap.size, 2, none⟩) (show w.heap.size < w.heap.size + 1 by omega)).trans hd; clear hown3 hb3) | (at_builtin; refine wpList_appL bt rfl (.tmp 58) (.tmp 59) rfl (w.heap.size + 1) _ (m + 1) ((k :: Cell.esc (s.data.toList.take j)) ++ [s[j]]) rfl HO3.out _ 1 1 [255] rfl rfl rfl rfl (by omega) (by omega) ?_; intro v4 w4 hown4 hb4 _; have HO4 := hide hown4; have HB4 := hide (HB3.out.trans hb4); clear hown4 hb4))
        go_roundw
        case rel => exact ⟨j + 1, m + 1 + 1, by omega, by go_num, by rw [HX.out, List.length_append, HM.out]; simp; omega, by rw [HX.out]; have := HO4.out; rw [List.append_assoc] at this; exact this, HB4.out⟩
        case measure => simp [intOf]; omega
      · have HX : Hid (Cell.esc (s.data.toList.take (j + 1)) = Cell.esc (s.data.toList.take j) ++ [s[j]]) := by
          show _ = _
          rw [HE.out, Cell.esc_snoc, if_neg hz]
        have hzb : ((s[j].toNat : Int) == 0) = false := by
          simp
          intro h
          exact hz (UInt8.toNat_inj.1 h)
        clear hz HE
        go_wp2_with (at_builtin; refine wpList_appL bt rfl (.tmp 46) (.tmp 51) rfl (w.heap.size + 1) _ m (k :: Cell.esc (s.data.toList.take j)) rfl HO.out _ 1 1 [s[j]] rfl rfl rfl rfl (by omega) (by omega) ?_; intro v3 w3 hown3 hb3 _; have HO3 := hide hown3; have HB3 := hide (HB.out.trans hb3); have hz3 : w.heap.size < w3.heap.size := (Nat.lt_of_lt_of_le hsz' hb3.size); have hd3 := (hb3.cell (p := ⟨w.heap.size, 2, none⟩) (show w.heap.size < w.heap.size + 1 by omega)).trans hd; clear hown3 hb3)
        go_roundw
        case rel => exact ⟨j + 1, m + 1, by omega, by go_num, by rw [HX.out, List.length_append, HM.out]; simp; omega, by rw [HX.out]; exact HO3.out, HB3.out⟩
        case measure => simp [intOf]; omega
    · obtain rfl : j = s.size := by omega
      have htk : s.data.toList.take s.size = s.data.toList := List.take_of_length_le (by rw [HLen.out]; exact Nat.le_refl _)
      rw [htk] at HM HO
      clear htk
      go_wp2_with (at_builtin; refine wpList_appL bt rfl (.tmp 61) (.tmp 62) rfl (w.heap.size + 1) _ m (k :: Cell.esc s.data.toList) rfl HO.out _ 2 2 [0, 0] rfl rfl rfl rfl (by omega) (by omega) ?_; intro v3 w3 hown3 hb3 _; have HO3 := hide hown3; have HB3 := hide (HB.out.trans hb3); clear hown3 hb3; obtain ⟨A3, c3, rfl⟩ := own_sl HO3.out)
      go_ret2
      exact BE.ok HP.out (by rw [HM.out]; simp; omega) HO3.out (HB2.out.trans (HB3.out.mono (by omega)))

theorem refKey_any (k : UInt8) (n : Int) (s : ByteArray) (w : World) : Calls Try.prog 20 #[.agg #[.int .u8 (k.toNat : Int), .int .i64 n, .string s]] w (BE w (Cell.key ⟨k, n, s⟩)) := by
  cases hr : Cell.rightB ⟨k, n, s⟩ with
  | false => exact refKey_bad k n s w hr
  | true =>
    have h5 : k.toNat ≤ 5 := Cell.right_kind hr
    by_cases h0 : k.toNat = 0
    · exact refKey_k0 k n s w hr h0
    by_cases h1 : k.toNat = 1
    · exact refKey_k1 k n s w hr h1
    by_cases h2 : k.toNat = 2
    · exact refKey_k2 k n s w hr h2
    by_cases h3 : k.toNat = 3
    · exact refKey_k3 k n s w hr h3
    by_cases hs : s.size ≤ 36
    · by_cases h4 : k.toNat = 4
      · exact refKey_k4 k n s w hr h4 hs
      · exact refKey_k5 k n s w hr (by omega) hs
    · by_cases h4 : k.toNat = 4
      · exact refKey_l4 k n s w hr h4 (by omega)
      · exact refKey_l5 k n s w hr (by omega) (by omega)

end Go.Proofs.Ytccapkkaeljnfaa
