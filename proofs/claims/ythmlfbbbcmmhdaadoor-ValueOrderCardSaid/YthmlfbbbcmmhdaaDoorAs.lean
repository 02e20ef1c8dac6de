/-
  The walks of value.As and chanceryref17.As. Conditions: numbers within 64 bits. (printed by asgen.py)
-/
import Derived.Test.YthmlfbbbcmmhdaaDoorCmpD
import Derived.Test.YthmlfbbbcmmhdaaDoorValG
namespace Go.Proofs.YthmlfbbbcmmhdaaDoor
open Go.RowKit

namespace Val
def as_ (v : Cell.Val) (q : Nat) : Cell.Val × Nat :=
  if Cell.rightB v = false ∨ q < 1 ∨ 5 < q then (vz, 2)
  else if v.k.toNat = 0 ∨ v.k.toNat = q then (v, 0)
  else if v.k.toNat = 2 ∧ q = 3 then answer 3 (v.n * 10000)
  else (vz, 270)
theorem as_bad {v : Cell.Val} {q : Nat} (h : Cell.rightB v = false ∨ q < 1 ∨ 5 < q) : as_ v q = (vz, 2) := if_pos h
theorem as_same {v : Cell.Val} {q : Nat} (h : ¬ (Cell.rightB v = false ∨ q < 1 ∨ 5 < q)) (h2 : v.k.toNat = 0 ∨ v.k.toNat = q) : as_ v q = (v, 0) := (if_neg h).trans (if_pos h2)
theorem as_dec {v : Cell.Val} {q : Nat} (h : ¬ (Cell.rightB v = false ∨ q < 1 ∨ 5 < q)) (h2 : ¬ (v.k.toNat = 0 ∨ v.k.toNat = q)) (h3 : v.k.toNat = 2 ∧ q = 3) : as_ v q = answer 3 (v.n * 10000) := ((if_neg h).trans (if_neg h2)).trans (if_pos h3)
theorem as_kind {v : Cell.Val} {q : Nat} (h : ¬ (Cell.rightB v = false ∨ q < 1 ∨ 5 < q)) (h2 : ¬ (v.k.toNat = 0 ∨ v.k.toNat = q)) (h3 : ¬ (v.k.toNat = 2 ∧ q = 3)) : as_ v q = (vz, 270) := ((if_neg h).trans (if_neg h2)).trans (if_neg h3)
end Val

set_option maxRecDepth 8000 in
set_option maxHeartbeats 3200000 in
theorem vAs_any (k : UInt8) (n : Int) (s : ByteArray) (q : Nat) (w : World) (h0 : -9223372036854775808 ≤ n) (h1 : n ≤ 9223372036854775807) :
    Calls Tryd.prog 30 #[.agg #[.int .u8 (k.toNat : Int), .int .i64 n, .string s], .int .u8 (q : Int)] w fun e w' => e = .returned (ansV (Val.as_ ⟨k, n, s⟩ q)) ∧ Below w.heap.size w w' := by
  have HN := hide (NV.new w k n s)
  obtain ⟨p, hp⟩ : ∃ p, p = Val.as_ ⟨k, n, s⟩ q := ⟨_, rfl⟩
  rw [← hp]
  have HP := hide hp
  obtain ⟨r, hr⟩ : ∃ r, r = Cell.rightB ⟨k, n, s⟩ := ⟨_, rfl⟩
  have HR := hide hr
  clear hp hr
  go_enter Tryd.func30, Tryd.ntmps30
  go_wp2_with fail
  obtain ⟨w0, hw0⟩ : ∃ x, x = (w.alloc (.cells #[.int .u8 (k.toNat : Int), .int .i64 n, .string s] 25)).alloc (.cells #[.int .u8 0, .int .i64 0, .string ⟨#[]⟩] 25) := ⟨_, rfl⟩
  rw [← hw0] at HN ⊢
  clear hw0
  with_reducible refine (right_any k n s w0).mono ?_
  rintro e w1 ⟨rfl, hb1⟩
  replace HN := hide (HN.out.below hb1)
  clear hb1
  rw [← HR.out]
  obtain ⟨a0, a1, a2⟩ := HN.out.1.c3
  obtain ⟨r0, r1, r2⟩ := HN.out.2.1.c3
  obtain ⟨f0, f1, f2⟩ := HN.out.2.1.f3
  have hl := HN.out.size
  cases r with
  | false =>
    have HF := hide (HP.out.trans (Val.as_bad (.inl HR.out.symm)))
    go_wp2_with fail
    refine bodyPost_ret (v := ansV p) (by rw [HF.out]; simp [results, Tryd.results30, go_sem, r0, r1, r2, ansV, valV, Val.vz]) rfl ⟨rfl, below_three HN.out.2.2 (by omega) _ _ _⟩
  | true =>
    by_cases q1 : q < 1
    · have HF := hide (HP.out.trans (Val.as_bad (.inr (.inl q1))))
      have t1 : decide ((q : Int) < 1) = true := by simp; omega
      clear q1
      go_wp2_with fail
      refine bodyPost_ret (v := ansV p) (by rw [HF.out]; simp [results, Tryd.results30, go_sem, r0, r1, r2, ansV, valV, Val.vz]) rfl ⟨rfl, below_three HN.out.2.2 (by omega) _ _ _⟩
    have t1 : decide ((q : Int) < 1) = false := by simp; omega
    by_cases q5 : 5 < q
    · have HF := hide (HP.out.trans (Val.as_bad (.inr (.inr q5))))
      have t2 : decide ((5 : Int) < (q : Int)) = true := by simp; omega
      clear q1 q5
      go_wp2_with fail
      refine bodyPost_ret (v := ansV p) (by rw [HF.out]; simp [results, Tryd.results30, go_sem, r0, r1, r2, ansV, valV, Val.vz]) rfl ⟨rfl, below_three HN.out.2.2 (by omega) _ _ _⟩
    have t2 : decide ((5 : Int) < (q : Int)) = false := by simp; omega
    have HQ := hide (show ¬ (Cell.rightB (⟨k, n, s⟩ : Cell.Val) = false ∨ q < 1 ∨ 5 < q) by rw [← HR.out]; simp; omega)
    by_cases k0 : k.toNat = 0
    · have HF := hide (HP.out.trans (Val.as_same HQ.out (.inl k0)))
      have t3 : ((k.toNat : Int) == 0) = true := by simp; omega
      clear q1 q5 k0
      go_wp2_with fail
      refine bodyPost_ret (v := ansV p) (by rw [HF.out]; simp [results, Tryd.results30, go_sem, r0, r1, r2, ansV, valV]) rfl ⟨rfl, below_three HN.out.2.2 (by omega) _ _ _⟩
    have t3 : ((k.toNat : Int) == 0) = false := by simp; omega
    by_cases kq : k.toNat = q
    · have HF := hide (HP.out.trans (Val.as_same HQ.out (.inr kq)))
      have t4 : ((k.toNat : Int) == (q : Int)) = true := by simp; omega
      clear q1 q5 k0 kq
      go_wp2_with fail
      refine bodyPost_ret (v := ansV p) (by rw [HF.out]; simp [results, Tryd.results30, go_sem, r0, r1, r2, ansV, valV]) rfl ⟨rfl, below_three HN.out.2.2 (by omega) _ _ _⟩
    have t4 : ((k.toNat : Int) == (q : Int)) = false := by simp; omega
    have HK := hide (show ¬ ((⟨k, n, s⟩ : Cell.Val).k.toNat = 0 ∨ (⟨k, n, s⟩ : Cell.Val).k.toNat = q) from fun h => by rcases h with h | h; exact k0 h; exact kq h)
    by_cases k2 : k.toNat = 2
    · have t5 : ((k.toNat : Int) == 2) = true := by simp; omega
      by_cases q3 : q = 3
      · have t6 : ((q : Int) == 3) = true := by simp; omega
        have HF := hide (HP.out.trans (Val.as_dec HQ.out HK.out ⟨k2, q3⟩))
        have hf : fixN k n = n.natAbs * 10000 := if_pos k2
        have hla := fixN_lt (k := k) h0 h1
        have hsg : Val.signed (decide (n < 0)) (fixN k n) = n * 10000 := by
          rw [← signed_eq, fixN_signed ⟨k, n, s⟩]
          exact if_pos k2
        have HSG := hide hsg
        have HLA := hide hla
        clear q1 q5 k0 kq k2 q3 hf hsg hla HP
        go_wp2_with fail
        with_reducible refine (times_any n 10000 w1 h0 h1 (by omega) (by omega)).mono ?_
        rintro e w2 ⟨rfl, hb2⟩
        replace HN := hide (HN.out.below hb2)
        clear hb2 a0 a1 a2 r0 r1 r2 f0 f1 f2 hl
        go_wp2_with fail
        with_reducible refine (fitting_any 3 3 rfl (n * 10000) w2 (by omega) (by omega)).mono ?_
        rintro e w3 ⟨rfl, hb3⟩
        replace HN := hide (HN.out.below hb3)
        clear hb3
        rw [← HF.out]
        obtain ⟨pv, pe⟩ := p
        unfold ansV valV
        simp only
        obtain ⟨r0, r1, r2⟩ := HN.out.2.1.c3
        obtain ⟨f0, f1, f2⟩ := HN.out.2.1.f3
        have hl := HN.out.size
        go_wp2_with fail
        refine bodyPost_ret (v := .tuple #[.agg #[.int .u8 (pv.k.toNat : Int), .int .i64 pv.n, .string pv.s], .int .i64 ((pe : Nat) : Int)]) (by simp [results, Tryd.results30, go_sem, r0, r1, r2]) rfl ⟨rfl, below_three HN.out.2.2 (by omega) _ _ _⟩
      · have t6 : ((q : Int) == 3) = false := by simp; omega
        have HF := hide (HP.out.trans (Val.as_kind HQ.out HK.out (fun h => q3 h.2)))
        clear q1 q5 k0 kq k2 q3
        go_wp2_with fail
        refine bodyPost_ret (v := ansV p) (by rw [HF.out]; simp [results, Tryd.results30, go_sem, r0, r1, r2, ansV, valV, Val.vz]) rfl ⟨rfl, below_three HN.out.2.2 (by omega) _ _ _⟩
    · have t5 : ((k.toNat : Int) == 2) = false := by simp; omega
      have HF := hide (HP.out.trans (Val.as_kind HQ.out HK.out (fun h => k2 h.1)))
      clear q1 q5 k0 kq k2
      go_wp2_with fail
      refine bodyPost_ret (v := ansV p) (by rw [HF.out]; simp [results, Tryd.results30, go_sem, r0, r1, r2, ansV, valV, Val.vz]) rfl ⟨rfl, below_three HN.out.2.2 (by omega) _ _ _⟩

set_option maxRecDepth 8000 in
set_option maxHeartbeats 3200000 in
theorem rAs_any (k : UInt8) (n : Int) (s : ByteArray) (q : Nat) (w : World) (h0 : -9223372036854775808 ≤ n) (h1 : n ≤ 9223372036854775807) :
    Calls Tryd.prog 31 #[.agg #[.int .u8 (k.toNat : Int), .int .i64 n, .string s], .int .u8 (q : Int)] w fun e w' => e = .returned (ansV (Val.as_ ⟨k, n, s⟩ q)) ∧ Below w.heap.size w w' := by
  have HN := hide (NV.new w k n s)
  obtain ⟨p, hp⟩ : ∃ p, p = Val.as_ ⟨k, n, s⟩ q := ⟨_, rfl⟩
  rw [← hp]
  have HP := hide hp
  obtain ⟨r, hr⟩ : ∃ r, r = Cell.rightB ⟨k, n, s⟩ := ⟨_, rfl⟩
  have HR := hide hr
  clear hp hr
  go_enter Tryd.func31, Tryd.ntmps31
  go_wp2_with fail
  obtain ⟨w0, hw0⟩ : ∃ x, x = (w.alloc (.cells #[.int .u8 (k.toNat : Int), .int .i64 n, .string s] 25)).alloc (.cells #[.int .u8 0, .int .i64 0, .string ⟨#[]⟩] 25) := ⟨_, rfl⟩
  rw [← hw0] at HN ⊢
  clear hw0
  with_reducible refine (refRight_any k n s w0).mono ?_
  rintro e w1 ⟨rfl, hb1⟩
  replace HN := hide (HN.out.below hb1)
  clear hb1
  rw [← HR.out]
  obtain ⟨a0, a1, a2⟩ := HN.out.1.c3
  obtain ⟨r0, r1, r2⟩ := HN.out.2.1.c3
  obtain ⟨f0, f1, f2⟩ := HN.out.2.1.f3
  have hl := HN.out.size
  cases r with
  | false =>
    have HF := hide (HP.out.trans (Val.as_bad (.inl HR.out.symm)))
    go_wp2_with fail
    refine bodyPost_ret (v := ansV p) (by rw [HF.out]; simp [results, Tryd.results31, go_sem, r0, r1, r2, ansV, valV, Val.vz]) rfl ⟨rfl, below_three HN.out.2.2 (by omega) _ _ _⟩
  | true =>
    by_cases q1 : q < 1
    · have HF := hide (HP.out.trans (Val.as_bad (.inr (.inl q1))))
      have t1 : decide ((q : Int) < 1) = true := by simp; omega
      clear q1
      go_wp2_with fail
      refine bodyPost_ret (v := ansV p) (by rw [HF.out]; simp [results, Tryd.results31, go_sem, r0, r1, r2, ansV, valV, Val.vz]) rfl ⟨rfl, below_three HN.out.2.2 (by omega) _ _ _⟩
    have t1 : decide ((q : Int) < 1) = false := by simp; omega
    by_cases q5 : 5 < q
    · have HF := hide (HP.out.trans (Val.as_bad (.inr (.inr q5))))
      have t2 : decide ((5 : Int) < (q : Int)) = true := by simp; omega
      clear q1 q5
      go_wp2_with fail
      refine bodyPost_ret (v := ansV p) (by rw [HF.out]; simp [results, Tryd.results31, go_sem, r0, r1, r2, ansV, valV, Val.vz]) rfl ⟨rfl, below_three HN.out.2.2 (by omega) _ _ _⟩
    have t2 : decide ((5 : Int) < (q : Int)) = false := by simp; omega
    have HQ := hide (show ¬ (Cell.rightB (⟨k, n, s⟩ : Cell.Val) = false ∨ q < 1 ∨ 5 < q) by rw [← HR.out]; simp; omega)
    by_cases k0 : k.toNat = 0
    · have HF := hide (HP.out.trans (Val.as_same HQ.out (.inl k0)))
      have t3 : ((k.toNat : Int) == 0) = true := by simp; omega
      clear q1 q5 k0
      go_wp2_with fail
      refine bodyPost_ret (v := ansV p) (by rw [HF.out]; simp [results, Tryd.results31, go_sem, r0, r1, r2, ansV, valV]) rfl ⟨rfl, below_three HN.out.2.2 (by omega) _ _ _⟩
    have t3 : ((k.toNat : Int) == 0) = false := by simp; omega
    by_cases kq : k.toNat = q
    · have HF := hide (HP.out.trans (Val.as_same HQ.out (.inr kq)))
      have t4 : ((k.toNat : Int) == (q : Int)) = true := by simp; omega
      clear q1 q5 k0 kq
      go_wp2_with fail
      refine bodyPost_ret (v := ansV p) (by rw [HF.out]; simp [results, Tryd.results31, go_sem, r0, r1, r2, ansV, valV]) rfl ⟨rfl, below_three HN.out.2.2 (by omega) _ _ _⟩
    have t4 : ((k.toNat : Int) == (q : Int)) = false := by simp; omega
    have HK := hide (show ¬ ((⟨k, n, s⟩ : Cell.Val).k.toNat = 0 ∨ (⟨k, n, s⟩ : Cell.Val).k.toNat = q) from fun h => by rcases h with h | h; exact k0 h; exact kq h)
    by_cases k2 : k.toNat = 2
    · have t5 : ((k.toNat : Int) == 2) = true := by simp; omega
      by_cases q3 : q = 3
      · have t6 : ((q : Int) == 3) = true := by simp; omega
        have HF := hide (HP.out.trans (Val.as_dec HQ.out HK.out ⟨k2, q3⟩))
        have hf : fixN k n = n.natAbs * 10000 := if_pos k2
        have hla := fixN_lt (k := k) h0 h1
        have hsg : Val.signed (decide (n < 0)) (fixN k n) = n * 10000 := by
          rw [← signed_eq, fixN_signed ⟨k, n, s⟩]
          exact if_pos k2
        have HSG := hide hsg
        have HLA := hide hla
        clear q1 q5 k0 kq k2 q3 hf hsg hla HP
        go_wp2_with fail
        with_reducible refine (fixed_any k n s w1 h0 h1).mono ?_
        rintro e w2 ⟨rfl, hb2⟩
        replace HN := hide (HN.out.below hb2)
        clear hb2 a0 a1 a2 r0 r1 r2 f0 f1 f2 hl
        go_wp2_with fail
        with_reducible refine (answer_any 3 3 rfl (decide (n < 0)) (fixN k n) w2 (by rw [P5]; have := HLA.out; omega)).mono ?_
        rintro e w3 ⟨rfl, hb3⟩
        replace HN := hide (HN.out.below hb3)
        clear hb3
        rw [HSG.out]
        rw [← HF.out]
        obtain ⟨pv, pe⟩ := p
        unfold ansV valV
        simp only
        obtain ⟨r0, r1, r2⟩ := HN.out.2.1.c3
        obtain ⟨f0, f1, f2⟩ := HN.out.2.1.f3
        have hl := HN.out.size
        go_wp2_with fail
        refine bodyPost_ret (v := .tuple #[.agg #[.int .u8 (pv.k.toNat : Int), .int .i64 pv.n, .string pv.s], .int .i64 ((pe : Nat) : Int)]) (by simp [results, Tryd.results31, go_sem, r0, r1, r2]) rfl ⟨rfl, below_three HN.out.2.2 (by omega) _ _ _⟩
      · have t6 : ((q : Int) == 3) = false := by simp; omega
        have HF := hide (HP.out.trans (Val.as_kind HQ.out HK.out (fun h => q3 h.2)))
        clear q1 q5 k0 kq k2 q3
        go_wp2_with fail
        refine bodyPost_ret (v := ansV p) (by rw [HF.out]; simp [results, Tryd.results31, go_sem, r0, r1, r2, ansV, valV, Val.vz]) rfl ⟨rfl, below_three HN.out.2.2 (by omega) _ _ _⟩
    · have t5 : ((k.toNat : Int) == 2) = false := by simp; omega
      have HF := hide (HP.out.trans (Val.as_kind HQ.out HK.out (fun h => k2 h.1)))
      clear q1 q5 k0 kq k2
      go_wp2_with fail
      refine bodyPost_ret (v := ansV p) (by rw [HF.out]; simp [results, Tryd.results31, go_sem, r0, r1, r2, ansV, valV, Val.vz]) rfl ⟨rfl, below_three HN.out.2.2 (by omega) _ _ _⟩

end Go.Proofs.YthmlfbbbcmmhdaaDoor
