/-
  The walks of package value: Add, Sub, Neg. Conditions: numbers within 64 bits. (printed by valf.py)
-/
import Derived.Test.YthmlfbbbcmmhdaaDoorValE
namespace Go.Proofs.YthmlfbbbcmmhdaaDoor
open Go.RowKit

set_option maxRecDepth 8000 in
set_option maxHeartbeats 1600000 in
theorem vAdd_any (k : UInt8) (n : Int) (s : ByteArray) (k' : UInt8) (n' : Int) (s' : ByteArray) (w : World) (h0 : -9223372036854775808 ≤ n) (h1 : n ≤ 9223372036854775807) (h0' : -9223372036854775808 ≤ n') (h1' : n' ≤ 9223372036854775807) :
    Calls Tryd.prog 19 #[.agg #[.int .u8 (k.toNat : Int), .int .i64 n, .string s], .agg #[.int .u8 (k'.toNat : Int), .int .i64 n', .string s']] w fun e w' => e = .returned (ansV (Val.add ⟨k, n, s⟩ ⟨k', n', s'⟩)) ∧ Below w.heap.size w w' := by
  have HN := hide (V3.new w k n s k' n' s')
  obtain ⟨p, hp⟩ : ∃ p, p = Val.add ⟨k, n, s⟩ ⟨k', n', s'⟩ := ⟨_, rfl⟩
  rw [← hp]
  have HP : Hid (sumOf ⟨k, n, s⟩ ⟨k', n', s'⟩ 1 = p) := by
    show _ = _
    rw [hp]
    unfold sumOf
    simp
  clear hp
  go_enter Tryd.func19, Tryd.ntmps19
  go_wp2_with fail
  obtain ⟨w0, hw0⟩ : ∃ x, x = ((w.alloc (.cells #[.int .u8 (k.toNat : Int), .int .i64 n, .string s] 25)).alloc (.cells #[.int .u8 (k'.toNat : Int), .int .i64 n', .string s'] 25)).alloc (.cells #[.int .u8 0, .int .i64 0, .string ⟨#[]⟩] 25) := ⟨_, rfl⟩
  rw [← hw0] at HN ⊢
  clear hw0
  with_reducible refine (sum_any k n s k' n' s' 1 w0 h0 h1 h0' h1' (by simp)).mono ?_
  rintro e w1 ⟨rfl, hb1⟩
  replace HN := hide (HN.out.below hb1)
  clear hb1
  rw [HP.out]
  obtain ⟨pv, pe⟩ := p
  unfold ansV valV
  simp only
  obtain ⟨r0, r1, r2⟩ := HN.out.2.2.1.c3
  obtain ⟨f0, f1, f2⟩ := HN.out.2.2.1.f3
  have hl := HN.out.size
  go_wp2_with fail
  refine bodyPost_ret (v := .tuple #[.agg #[.int .u8 (pv.k.toNat : Int), .int .i64 pv.n, .string pv.s], .int .i64 ((pe : Nat) : Int)]) (by simp [results, Tryd.results19, go_sem, r0, r1, r2]) rfl ⟨rfl, below_three HN.out.2.2.2 (by omega) _ _ _⟩

set_option maxRecDepth 8000 in
set_option maxHeartbeats 1600000 in
theorem vSub_any (k : UInt8) (n : Int) (s : ByteArray) (k' : UInt8) (n' : Int) (s' : ByteArray) (w : World) (h0 : -9223372036854775808 ≤ n) (h1 : n ≤ 9223372036854775807) (h0' : -9223372036854775808 ≤ n') (h1' : n' ≤ 9223372036854775807) :
    Calls Tryd.prog 17 #[.agg #[.int .u8 (k.toNat : Int), .int .i64 n, .string s], .agg #[.int .u8 (k'.toNat : Int), .int .i64 n', .string s']] w fun e w' => e = .returned (ansV (Val.sub ⟨k, n, s⟩ ⟨k', n', s'⟩)) ∧ Below w.heap.size w w' := by
  have HN := hide (V3.new w k n s k' n' s')
  obtain ⟨p, hp⟩ : ∃ p, p = Val.sub ⟨k, n, s⟩ ⟨k', n', s'⟩ := ⟨_, rfl⟩
  rw [← hp]
  have HP : Hid (sumOf ⟨k, n, s⟩ ⟨k', n', s'⟩ (-1) = p) := by
    show _ = _
    rw [hp]
    unfold sumOf
    simp
  clear hp
  go_enter Tryd.func17, Tryd.ntmps17
  go_wp2_with fail
  obtain ⟨w0, hw0⟩ : ∃ x, x = ((w.alloc (.cells #[.int .u8 (k.toNat : Int), .int .i64 n, .string s] 25)).alloc (.cells #[.int .u8 (k'.toNat : Int), .int .i64 n', .string s'] 25)).alloc (.cells #[.int .u8 0, .int .i64 0, .string ⟨#[]⟩] 25) := ⟨_, rfl⟩
  rw [← hw0] at HN ⊢
  clear hw0
  with_reducible refine (sum_any k n s k' n' s' (-1) w0 h0 h1 h0' h1' (by simp)).mono ?_
  rintro e w1 ⟨rfl, hb1⟩
  replace HN := hide (HN.out.below hb1)
  clear hb1
  rw [HP.out]
  obtain ⟨pv, pe⟩ := p
  unfold ansV valV
  simp only
  obtain ⟨r0, r1, r2⟩ := HN.out.2.2.1.c3
  obtain ⟨f0, f1, f2⟩ := HN.out.2.2.1.f3
  have hl := HN.out.size
  go_wp2_with fail
  refine bodyPost_ret (v := .tuple #[.agg #[.int .u8 (pv.k.toNat : Int), .int .i64 pv.n, .string pv.s], .int .i64 ((pe : Nat) : Int)]) (by simp [results, Tryd.results17, go_sem, r0, r1, r2]) rfl ⟨rfl, below_three HN.out.2.2.2 (by omega) _ _ _⟩

end Go.Proofs.YthmlfbbbcmmhdaaDoor
