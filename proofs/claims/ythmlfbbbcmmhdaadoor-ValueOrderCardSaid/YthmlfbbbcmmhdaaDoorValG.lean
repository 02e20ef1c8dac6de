/-
  The walk of value.Neg. Conditions: numbers within 64 bits. (printed by valg.py)
-/
import Derived.Test.YthmlfbbbcmmhdaaDoorValF
namespace Go.Proofs.YthmlfbbbcmmhdaaDoor
open Go.RowKit

theorem common_self (a : Cell.Val) : commonOf a a = if (Val.asked a Val.vz).2 ≠ 0 ∨ a.k.toNat = 0 then (0, (Val.asked a Val.vz).2) else (a.k.toNat, 0) := by
  unfold commonOf Val.asked Val.bothRight
  have hz : Cell.rightB Val.vz = true := by decide
  have hw : Val.wrongKind Val.vz = false := by decide
  rw [hz, hw]
  cases Cell.rightB a <;> cases Val.wrongKind a <;> simp [Val.vz]
set_option maxRecDepth 8000 in
set_option maxHeartbeats 3200000 in
theorem vNeg_any (k : UInt8) (n : Int) (s : ByteArray) (w : World) (h0 : -9223372036854775808 ≤ n) (h1 : n ≤ 9223372036854775807) :
    Calls Tryd.prog 21 #[.agg #[.int .u8 (k.toNat : Int), .int .i64 n, .string s]] w fun e w' => e = .returned (ansV (Val.neg ⟨k, n, s⟩)) ∧ Below w.heap.size w w' := by
  have HN := hide (NV.new w k n s)
  obtain ⟨p, hp⟩ : ∃ p, p = Val.neg ⟨k, n, s⟩ := ⟨_, rfl⟩
  rw [← hp]
  unfold Val.neg at hp
  have hc := common_self ⟨k, n, s⟩
  simp only at hc hp
  obtain ⟨er, her⟩ : ∃ e, e = (Val.asked ⟨k, n, s⟩ Val.vz).2 := ⟨_, rfl⟩
  rw [← her] at hc hp
  have HC := hide hc
  have HP := hide hp
  clear hp hc her
  go_enter Tryd.func21, Tryd.ntmps21
  go_wp2_with fail
  obtain ⟨w0, hw0⟩ : ∃ x, x = (w.alloc (.cells #[.int .u8 (k.toNat : Int), .int .i64 n, .string s] 25)).alloc (.cells #[.int .u8 0, .int .i64 0, .string ⟨#[]⟩] 25) := ⟨_, rfl⟩
  rw [← hw0] at HN ⊢
  clear hw0
  with_reducible refine (common_any k n s k n s w0).mono ?_
  rintro e w1 ⟨rfl, hb1⟩
  replace HN := hide (HN.out.below hb1)
  clear hb1
  rw [HC.out]
  obtain ⟨a0, a1, a2⟩ := HN.out.1.c3
  obtain ⟨r0, r1, r2⟩ := HN.out.2.1.c3
  obtain ⟨f0, f1, f2⟩ := HN.out.2.1.f3
  have hl := HN.out.size
  by_cases hbad : er ≠ 0 ∨ k.toNat = 0
  · have HF : Hid (p = (Val.vz, er)) := HP.out.trans (if_pos hbad)
    rw [if_pos hbad]
    unfold comV
    simp only
    by_cases he : er = 0
    · subst he
      clear hbad
      go_wp2_with fail
      refine bodyPost_ret (v := ansV p) (by rw [HF.out]; simp [results, Tryd.results21, go_sem, r0, r1, r2, ansV, valV, Val.vz]) rfl ⟨rfl, below_three HN.out.2.2 (by omega) _ _ _⟩
    · have te : ((er : Int) != 0) = true := by simp; exact he
      clear hbad he
      go_wp2_with fail
      refine bodyPost_ret (v := ansV p) (by rw [HF.out]; simp [results, Tryd.results21, go_sem, r0, r1, r2, ansV, valV, Val.vz]) rfl ⟨rfl, below_three HN.out.2.2 (by omega) _ _ _⟩
  · have HF : Hid (p = Val.answer k (-n)) := by
      show _ = _
      rw [HP.out, if_neg hbad]
    rw [if_neg hbad]
    unfold comV
    simp only
    obtain ⟨rfl, hk0⟩ : er = 0 ∧ k.toNat ≠ 0 := ⟨Decidable.byContradiction fun h => hbad (.inl h), fun h => hbad (.inr h)⟩
    have tk : ((k.toNat : Int) == 0) = false := by simp; omega
    clear hbad hk0
    go_wp2_with fail
    with_reducible refine (times_any n (-1) w1 h0 h1 (by omega) (by omega)).mono ?_
    rintro e w2 ⟨rfl, hb2⟩
    replace HN := hide (HN.out.below hb2)
    clear hb2 a0 a1 a2 r0 r1 r2 f0 f1 f2 hl
    go_wp2_with fail
    with_reducible refine (fitting_any k _ rfl (-n) w2 (by omega) (by omega)).mono ?_
    rintro e w3 ⟨rfl, hb3⟩
    replace HN := hide (HN.out.below hb3)
    clear hb3
    rw [← HF.out]
    obtain ⟨pv, pe⟩ := p
    unfold ansV valV
    simp only
    obtain ⟨r0, r1, r2⟩ := HN.out.2.1.c3
    obtain ⟨f0, f1, f2⟩ := HN.out.2.1.f3
    have hl := HN.out.size
    go_wp2_with fail
    refine bodyPost_ret (v := .tuple #[.agg #[.int .u8 (pv.k.toNat : Int), .int .i64 pv.n, .string pv.s], .int .i64 ((pe : Nat) : Int)]) (by simp [results, Tryd.results21, go_sem, r0, r1, r2]) rfl ⟨rfl, below_three HN.out.2.2 (by omega) _ _ _⟩

end Go.Proofs.YthmlfbbbcmmhdaaDoor
