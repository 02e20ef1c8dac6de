/-
  The walks of chanceryref17: Neg, Mul. Conditions: numbers within 64 bits. (printed by refneg.py)
-/
import Derived.Test.YticljmgcgjibpaaGreatDoorRefH
namespace Go.Proofs.YticljmgcgjibpaaGreatDoor
open Go.RowKit

theorem asked_z (k : UInt8) (n : Int) (s : ByteArray) (w : World) : Calls Tryz.prog 61 #[.agg #[.int .u8 (k.toNat : Int), .int .i64 n, .string s], .agg #[.int .u8 0, .int .i64 0, .string ⟨#[]⟩]] w fun e w' => e = .returned (askV (Val.asked ⟨k, n, s⟩ Val.vz)) ∧ Below w.heap.size w w' := asked_any k n s 0 0 ⟨#[]⟩ w
theorem asked_null (v : Cell.Val) (h : (Val.asked v Val.vz).2 = 0) : (Val.asked v Val.vz).1 = true := by
  unfold Val.asked at h ⊢
  split at h
  · cases h
  · split at h
    · cases h
    · rename_i h1 h2
      rw [if_neg h1, if_neg h2]
      simp [Val.vz]
theorem answer_at (k : UInt8) (ki : Int) (hk : ki = (k.toNat : Int)) (neg : Bool) (V : Nat) (w : World) (hV : V < Big.P 5) :
    Calls Tryz.prog 63 #[.int .u8 ki, .agg #[.bool neg, .int .u64 ((Big.dig V 0 : Nat) : Int), .int .u64 ((Big.dig V 1 : Nat) : Int), .int .u64 ((Big.dig V 2 : Nat) : Int), .int .u64 ((Big.dig V 3 : Nat) : Int), .int .u64 ((Big.dig V 4 : Nat) : Int)]] w fun e w' => e = .returned (ansV (Val.answer k (Val.signed neg V))) ∧ Below w.heap.size w w' := answer_any k ki hk neg V w hV
/-- A value's block and a zero value's. -/
def NV (w wr : World) (k : UInt8) (n : Int) (s : ByteArray) : Prop := Blk wr w.heap.size 25 #[.int .u8 (k.toNat : Int), .int .i64 n, .string s] ∧ Blk wr (w.heap.size + 1) 25 #[.int .u8 0, .int .i64 0, .string ⟨#[]⟩] ∧ Below w.heap.size w wr
theorem NV.new (w : World) (k : UInt8) (n : Int) (s : ByteArray) : NV w ((w.alloc (.cells #[.int .u8 (k.toNat : Int), .int .i64 n, .string s] 25)).alloc (.cells #[.int .u8 0, .int .i64 0, .string ⟨#[]⟩] 25)) k n s := by
  refine ⟨(Blk.new _ _ _).alloc _, ?_, ((Below.refl _ _).alloc (Nat.le_refl _) _).alloc (by simp) _⟩
  have := Blk.new (w.alloc (.cells #[.int .u8 (k.toNat : Int), .int .i64 n, .string s] 25)) 25 #[.int .u8 0, .int .i64 0, .string ⟨#[]⟩]
  simpa using this
section
variable {w wr w' : World} {k : UInt8} {n : Int} {s : ByteArray}
theorem NV.size (h : NV w wr k n s) : w.heap.size + 1 < wr.heap.size := h.2.1.lt
theorem NV.below (h : NV w wr k n s) (hb : Below wr.heap.size wr w') : NV w w' k n s := by
  have := h.size
  exact ⟨h.1.below hb (by omega), h.2.1.below hb (by omega), h.2.2.trans (hb.mono (by omega))⟩
theorem NV.alloc (h : NV w wr k n s) (o : Obj) : NV w (wr.alloc o) k n s := h.below ((Below.refl _ _).alloc (Nat.le_refl _) o)
end
set_option maxRecDepth 8000 in
set_option maxHeartbeats 3200000 in
theorem rNeg_any (k : UInt8) (n : Int) (s : ByteArray) (w : World) (h0 : -9223372036854775808 ≤ n) (h1 : n ≤ 9223372036854775807) :
    Calls Tryz.prog 24 #[.agg #[.int .u8 (k.toNat : Int), .int .i64 n, .string s]] w fun e w' => e = .returned (ansV (Val.neg ⟨k, n, s⟩)) ∧ Below w.heap.size w w' := by
  have HN := hide (NV.new w k n s)
  obtain ⟨p, hp⟩ : ∃ p, p = Val.neg ⟨k, n, s⟩ := ⟨_, rfl⟩
  rw [← hp]
  unfold Val.neg at hp
  obtain ⟨nu, er, hq⟩ : ∃ nu er, Val.asked ⟨k, n, s⟩ Val.vz = (nu, er) := ⟨_, _, rfl⟩
  have hnull : er = 0 → nu = true := fun h => by
    have := asked_null ⟨k, n, s⟩ (by rw [hq]; exact h)
    rw [hq] at this
    exact this
  rw [hq] at hp
  simp only at hp
  have HQ := hide hq
  have HP := hide hp
  have HNu := hide hnull
  clear hp hq hnull
  go_enter Tryz.func24, Tryz.ntmps24
  go_wp2_with fail
  obtain ⟨w0, hw0⟩ : ∃ x, x = (w.alloc (.cells #[.int .u8 (k.toNat : Int), .int .i64 n, .string s] 25)).alloc (.cells #[.int .u8 0, .int .i64 0, .string ⟨#[]⟩] 25) := ⟨_, rfl⟩
  rw [← hw0] at HN ⊢
  clear hw0
  with_reducible refine (asked_z k n s w0).mono ?_
  rintro e w1 ⟨rfl, hb1⟩
  replace HN := hide (HN.out.below hb1)
  clear hb1
  rw [HQ.out]
  unfold askV
  simp only
  obtain ⟨a0, a1, a2⟩ := HN.out.1.c3
  obtain ⟨r0, r1, r2⟩ := HN.out.2.1.c3
  obtain ⟨f0, f1, f2⟩ := HN.out.2.1.f3
  have hl := HN.out.size
  by_cases he : er = 0
  · subst he
    obtain rfl := HNu.out rfl
    by_cases hk : k.toNat = 0
    · have HF : Hid (p = (Val.vz, 0)) := HP.out.trans (if_pos (.inr hk))
      have tk : ((k.toNat : Int) == 0) = true := by simp; omega
      clear hk
      go_wp2_with fail
      refine bodyPost_ret (v := ansV p) (by rw [HF.out]; simp [results, Tryz.results24, go_sem, r0, r1, r2, ansV, valV, Val.vz]) rfl ⟨rfl, below_three HN.out.2.2 (by omega) _ _ _⟩
    · have HF : Hid (p = Val.answer k (Val.signed (!decide (n < 0)) n.natAbs)) := by
        show _ = _
        rw [HP.out, if_neg (by simp [hk]), Val.signed_not, Val.signed_abs]
      have tk : ((k.toNat : Int) == 0) = false := by simp; omega
      clear hk
      go_wp2_with fail
      with_reducible refine (big_any n w1 h0 h1).mono ?_
      rintro e w2 ⟨rfl, hb2⟩
      replace HN := hide (HN.out.below hb2)
      clear hb2 a0 a1 a2 r0 r1 r2 f0 f1 f2 hl
      obtain ⟨a0, a1, a2⟩ := HN.out.1.c3
      have hl := HN.out.1.lt
      unfold G6
      go_wp2_with fail
      with_reducible refine (answer_at k _ rfl (!decide (n < 0)) n.natAbs _ (by rw [P5]; omega)).mono ?_
      rintro e w3 ⟨rfl, hb3⟩
      replace HN := hide ((HN.out.alloc _).below hb3)
      clear hb3 a0 a1 a2 hl
      rw [← HF.out]
      obtain ⟨pv, pe⟩ := p
      unfold ansV valV
      simp only
      obtain ⟨r0, r1, r2⟩ := HN.out.2.1.c3
      obtain ⟨f0, f1, f2⟩ := HN.out.2.1.f3
      have hl := HN.out.size
      go_wp2_with fail
      refine bodyPost_ret (v := .tuple #[.agg #[.int .u8 (pv.k.toNat : Int), .int .i64 pv.n, .string pv.s], .int .i64 ((pe : Nat) : Int)]) (by simp [results, Tryz.results24, go_sem, r0, r1, r2]) rfl ⟨rfl, below_three HN.out.2.2 (by omega) _ _ _⟩
  · have HF : Hid (p = (Val.vz, er)) := HP.out.trans (if_pos (.inl he))
    have te : ((er : Int) != 0) = true := by simp; exact he
    clear he
    go_wp2_with fail
    refine bodyPost_ret (v := ansV p) (by rw [HF.out]; simp [results, Tryz.results24, go_sem, r0, r1, r2, ansV, valV, Val.vz]) rfl ⟨rfl, below_three HN.out.2.2 (by omega) _ _ _⟩

end Go.Proofs.YticljmgcgjibpaaGreatDoor
