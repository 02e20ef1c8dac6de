/-
  The walk of value.decimal. Conditions: numbers within 64 bits. (printed by vali.py)
-/
import Derived.Test.YticljmgcgjibpaaGreatDoorValH
namespace Go.Proofs.YticljmgcgjibpaaGreatDoor
open Go.RowKit

theorem div_any (hi lo : Nat) (w : World) (hh : hi < 10000) (hl : lo < 18446744073709551616) : Calls Tryz.prog 98 #[.int .u64 (hi : Int), .int .u64 (lo : Int), .int .u64 10000] w fun e w' => e = .returned (divV (hi * 18446744073709551616 + lo)) ∧ ∃ q, w' = w.drewN q := by
  by_cases h0 : hi = 0
  · subst h0
    rw [Nat.zero_mul, Nat.zero_add]
    exact div_zero lo w hl
  · refine (div_some hi lo w h0 hh hl).mono ?_
    rintro e w' ⟨rfl, rfl⟩
    exact ⟨rfl, 0, by simp [World.drewN_zero]⟩
theorem decimal_wide {X : Nat} (sg : Bool) (h : 10000 ≤ X / 18446744073709551616) : Val.answer 3 (Val.signed sg (Val.halfEven X)) = (Val.vz, 271) := by
  have h1 : 18446744073709551616 ≤ Val.halfEven X := by unfold Val.halfEven; split <;> omega
  unfold Val.answer Val.fit
  rw [if_neg]
  unfold Val.signed
  cases sg <;> simp <;> omega
theorem decimal_out {X : Nat} {sg : Bool} (h : (if sg = true then 9223372036854775808 else 9223372036854775807) < Val.halfEven X) : Val.answer 3 (Val.signed sg (Val.halfEven X)) = (Val.vz, 271) := by
  unfold Val.answer Val.fit
  rw [if_neg]
  unfold Val.signed
  cases sg <;> simp at h ⊢ <;> omega
theorem decimal_in {X : Nat} {sg : Bool} (h : Val.halfEven X ≤ (if sg = true then 9223372036854775808 else 9223372036854775807)) : Val.answer 3 (Val.signed sg (Val.halfEven X)) = (⟨3, Val.signed sg (Val.halfEven X), ⟨#[]⟩⟩, 0) := by
  unfold Val.answer Val.fit
  rw [if_pos]
  unfold Val.signed
  cases sg <;> simp at h ⊢ <;> omega
def DB (w w' : World) : Prop := Blk w' w.heap.size 25 #[.int .u8 0, .int .i64 0, .string ⟨#[]⟩] ∧ Below w.heap.size w w'
set_option maxRecDepth 20000 in
set_option maxHeartbeats 12800000 in
theorem decimal_any (a b : Int) (w : World) (h0 : -9223372036854775808 ≤ a) (h1 : a ≤ 9223372036854775807) (h0' : -9223372036854775808 ≤ b) (h1' : b ≤ 9223372036854775807) :
    Calls Tryz.prog 82 #[.int .i64 a, .int .i64 b] w fun e w' => e = .returned (ansV (Val.answer 3 (Val.signed (decide (a < 0) != decide (b < 0)) (Val.halfEven (a.natAbs * b.natAbs))))) ∧ Below w.heap.size w w' := by
  have hXl := mul_lt h0 h1 h0' h1'
  obtain ⟨ua, hua⟩ : ∃ u, u = a.natAbs := ⟨_, rfl⟩
  obtain ⟨ub, hub⟩ : ∃ u, u = b.natAbs := ⟨_, rfl⟩
  have hual : ua < 18446744073709551616 := by omega
  have hubl : ub < 18446744073709551616 := by omega
  have HSA : Hid (Calls Tryz.prog 97 #[.int .i64 a] (w.alloc (.cells #[.int .u8 0, .int .i64 0, .string ⟨#[]⟩] 25)) fun e w' => e = .returned (.int .u64 (ua : Int)) ∧ w.alloc (.cells #[.int .u8 0, .int .i64 0, .string ⟨#[]⟩] 25) = w') := by rw [hua]; exact size_any a _ h0 h1
  have HSB : Hid (Calls Tryz.prog 97 #[.int .i64 b] (w.alloc (.cells #[.int .u8 0, .int .i64 0, .string ⟨#[]⟩] 25)) fun e w' => e = .returned (.int .u64 (ub : Int)) ∧ w.alloc (.cells #[.int .u8 0, .int .i64 0, .string ⟨#[]⟩] 25) = w') := by rw [hub]; exact size_any b _ h0' h1'
  rw [← hua, ← hub] at hXl ⊢
  obtain ⟨X, hX⟩ : ∃ X, X = ua * ub := ⟨_, rfl⟩
  rw [← hX] at hXl ⊢
  obtain ⟨hi, hhi⟩ : ∃ q', q' = X / 18446744073709551616 := ⟨_, rfl⟩
  obtain ⟨lo, hlo⟩ : ∃ q', q' = X % 18446744073709551616 := ⟨_, rfl⟩
  have hXe : hi * 18446744073709551616 + lo = X := by omega
  have hil : hi < 18446744073709551616 := by omega
  have hll : lo < 18446744073709551616 := by omega
  have HM : Hid (Calls Tryz.prog 96 #[.int .u64 (ua : Int), .int .u64 (ub : Int)] (w.alloc (.cells #[.int .u8 0, .int .i64 0, .string ⟨#[]⟩] 25)) fun e w' => e = .returned (.tuple #[.int .u64 (hi : Int), .int .u64 (lo : Int)]) ∧ w' = w.alloc (.cells #[.int .u8 0, .int .i64 0, .string ⟨#[]⟩] 25)) := by
    have := Tryz.bits_Mul64 ua ub hual hubl (w.alloc (.cells #[.int .u8 0, .int .i64 0, .string ⟨#[]⟩] 25))
    rw [← hX, ← hhi, ← hlo] at this
    exact this
  obtain ⟨sg, hsg⟩ : ∃ s, s = (decide (a < 0) != decide (b < 0)) := ⟨_, rfl⟩
  rw [← hsg]
  obtain ⟨p, hp⟩ : ∃ p, p = Val.answer 3 (Val.signed sg (Val.halfEven X)) := ⟨_, rfl⟩
  rw [← hp]
  have HP := hide hp
  have HD : Hid (DB w (w.alloc (.cells #[.int .u8 0, .int .i64 0, .string ⟨#[]⟩] 25))) := ⟨Blk.new _ _ _, (Below.refl _ _).alloc (Nat.le_refl _) _⟩
  have ts : (!(decide (a < 0) == decide (b < 0))) = sg := hsg.symm
  clear hsg hp hua hub hX
  by_cases hbig : 10000 ≤ hi
  · have HF : Hid (p = (Val.vz, 271)) := HP.out.trans (decimal_wide sg (by omega))
    have t0 : decide ((10000 : Int) ≤ (hi : Int)) = true := by simp; omega
    obtain ⟨r0, r1, r2⟩ := HD.out.1.c3
    obtain ⟨f0, f1, f2⟩ := HD.out.1.f3
    clear ts hhi hlo hXe hXl hbig hil hll r0 r1 r2 f0 f1 f2
    go_enter Tryz.func82, Tryz.ntmps82
    go_wp2_with fail
    refine HSA.out.mono ?_
    rintro e w1 ⟨rfl, rfl⟩
    go_wp2_with fail
    refine HSB.out.mono ?_
    rintro e w1 ⟨rfl, rfl⟩
    go_wp2_with fail
    refine HM.out.mono ?_
    rintro e w1 ⟨rfl, rfl⟩
    go_wp2_with fail
    refine bodyPost_ret (v := ansV p) (by rw [HF.out]; simp [results, Tryz.results82, go_sem, ansV, valV, Val.vz]) rfl ⟨rfl, ?_⟩
    exact (Below.refl _ _).alloc (Nat.le_refl _) _
  · have t0 : decide ((10000 : Int) ≤ (hi : Int)) = false := by simp; omega
    have HV := hide (div_any hi lo · (by omega) hll)
    rw [hXe] at HV
    unfold divV at HV
    obtain ⟨v, hv⟩ : ∃ v, v = X / 10000 := ⟨_, rfl⟩
    obtain ⟨r, hr⟩ : ∃ r, r = X % 10000 := ⟨_, rfl⟩
    rw [← hv, ← hr] at HV
    have hvl : v < 18446744073709551616 := by omega
    have hrl : r < 10000 := by omega
    have hE : Val.halfEven X = if 5000 < r ∨ (r = 5000 ∧ v % 2 = 1) then v + 1 else v := by unfold Val.halfEven; rw [← hv, ← hr]
    clear hhi hlo hXe hXl hbig hil hll hv hr
    by_cases c1 : 5000 < r
    · have t1 : decide ((5000 : Int) < (r : Int)) = true := by simp; omega
      have hE1 : Val.halfEven X = v + 1 := by rw [hE, if_pos (by omega)]
      by_cases hm : v = 18446744073709551615
      · have t4 : ((v : Int) == 18446744073709551615) = true := by simp; omega
        have HF : Hid (p = (Val.vz, 271)) := HP.out.trans (decimal_out (by rw [hE1]; split <;> omega))
        clear ts hE hE1 hm HP hvl hrl h0 h1 h0' h1'
        go_enter Tryz.func82, Tryz.ntmps82
        go_wp2_with fail
        refine HSA.out.mono ?_
        rintro e w1 ⟨rfl, rfl⟩
        go_wp2_with fail
        refine HSB.out.mono ?_
        rintro e w1 ⟨rfl, rfl⟩
        go_wp2_with fail
        refine HM.out.mono ?_
        rintro e w1 ⟨rfl, rfl⟩
        go_wp2_with fail
        with_reducible refine (HV.out _).mono ?_
        rintro e w1 ⟨rfl, q, rfl⟩
        go_wp2_with fail
        refine bodyPost_ret (v := ansV p) (by rw [HF.out]; simp [results, Tryz.results82, go_sem, ansV, valV, Val.vz]) rfl ⟨rfl, ?_⟩
        exact below_three (below_drewN ((Below.refl _ _).alloc (Nat.le_refl _) _) q) (Nat.le_refl _) _ _ _
      have t4 : ((v : Int) == 18446744073709551615) = false := by simp; omega
      have hvm : v + 1 < 18446744073709551616 := by omega
      obtain ⟨V, hV⟩ : ∃ V, V = v + 1 := ⟨_, rfl⟩
      have k0 : IntKind.u64.wrap ((v : Int) + 1) = (V : Int) := by rw [IntKind.wrap_u64]; omega
      have hVl : V < 18446744073709551616 := by omega
      rw [← hV] at hE1
      clear hvm hV hm
      clear hvl hrl h0 h1 h0' h1'
      cases sg with
      | true =>
        by_cases hf : 9223372036854775808 < V
        · have t5 : decide ((9223372036854775808 : Int) < (V : Int)) = true := by simp; omega
          have HF : Hid (p = (Val.vz, 271)) := HP.out.trans (decimal_out (by rw [hE1]; simpa using hf))
          clear hE hE1 hf HP hVl
          go_enter Tryz.func82, Tryz.ntmps82
          go_wp2_with fail
          refine HSA.out.mono ?_
          rintro e w1 ⟨rfl, rfl⟩
          go_wp2_with fail
          refine HSB.out.mono ?_
          rintro e w1 ⟨rfl, rfl⟩
          go_wp2_with fail
          refine HM.out.mono ?_
          rintro e w1 ⟨rfl, rfl⟩
          go_wp2_with fail
          with_reducible refine (HV.out _).mono ?_
          rintro e w1 ⟨rfl, q, rfl⟩
          go_wp2_with fail
          refine bodyPost_ret (v := ansV p) (by rw [HF.out]; simp [results, Tryz.results82, go_sem, ansV, valV, Val.vz]) rfl ⟨rfl, ?_⟩
          exact below_three (below_drewN ((Below.refl _ _).alloc (Nat.le_refl _) _) q) (Nat.le_refl _) _ _ _
        · have t5 : decide ((9223372036854775808 : Int) < (V : Int)) = false := by simp; omega
          have HF : Hid (p = (⟨3, -((V : Int)), ⟨#[]⟩⟩, 0)) := by
            show _ = _
            rw [HP.out, decimal_in (by rw [hE1]; simpa using hf), hE1]; rfl
          have k1 : IntKind.i64.wrap (IntKind.u64.wrap (-((V : Int)))) = -((V : Int)) := by rw [IntKind.wrap_u64, IntKind.wrap_i64]; omega
          clear hE hE1 hf HP hVl
          go_enter Tryz.func82, Tryz.ntmps82
          go_wp2_with fail
          refine HSA.out.mono ?_
          rintro e w1 ⟨rfl, rfl⟩
          go_wp2_with fail
          refine HSB.out.mono ?_
          rintro e w1 ⟨rfl, rfl⟩
          go_wp2_with fail
          refine HM.out.mono ?_
          rintro e w1 ⟨rfl, rfl⟩
          go_wp2_with fail
          with_reducible refine (HV.out _).mono ?_
          rintro e w1 ⟨rfl, q, rfl⟩
          go_wp2_with fail
          refine bodyPost_ret (v := ansV p) (by rw [HF.out]; simp [results, Tryz.results82, go_sem, ansV, valV]) rfl ⟨rfl, ?_⟩
          exact below_three (below_drewN ((Below.refl _ _).alloc (Nat.le_refl _) _) q) (Nat.le_refl _) _ _ _
      | false =>
        by_cases hf : 9223372036854775807 < V
        · have t5 : decide ((9223372036854775807 : Int) < (V : Int)) = true := by simp; omega
          have HF : Hid (p = (Val.vz, 271)) := HP.out.trans (decimal_out (by rw [hE1]; simpa using hf))
          clear hE hE1 hf HP hVl
          go_enter Tryz.func82, Tryz.ntmps82
          go_wp2_with fail
          refine HSA.out.mono ?_
          rintro e w1 ⟨rfl, rfl⟩
          go_wp2_with fail
          refine HSB.out.mono ?_
          rintro e w1 ⟨rfl, rfl⟩
          go_wp2_with fail
          refine HM.out.mono ?_
          rintro e w1 ⟨rfl, rfl⟩
          go_wp2_with fail
          with_reducible refine (HV.out _).mono ?_
          rintro e w1 ⟨rfl, q, rfl⟩
          go_wp2_with fail
          refine bodyPost_ret (v := ansV p) (by rw [HF.out]; simp [results, Tryz.results82, go_sem, ansV, valV, Val.vz]) rfl ⟨rfl, ?_⟩
          exact below_three (below_drewN ((Below.refl _ _).alloc (Nat.le_refl _) _) q) (Nat.le_refl _) _ _ _
        · have t5 : decide ((9223372036854775807 : Int) < (V : Int)) = false := by simp; omega
          have HF : Hid (p = (⟨3, (V : Int), ⟨#[]⟩⟩, 0)) := by
            show _ = _
            rw [HP.out, decimal_in (by rw [hE1]; simpa using hf), hE1]; rfl
          have k1 : IntKind.i64.wrap ((V : Int)) = (V : Int) := by rw [IntKind.wrap_i64]; omega
          clear hE hE1 hf HP hVl
          go_enter Tryz.func82, Tryz.ntmps82
          go_wp2_with fail
          refine HSA.out.mono ?_
          rintro e w1 ⟨rfl, rfl⟩
          go_wp2_with fail
          refine HSB.out.mono ?_
          rintro e w1 ⟨rfl, rfl⟩
          go_wp2_with fail
          refine HM.out.mono ?_
          rintro e w1 ⟨rfl, rfl⟩
          go_wp2_with fail
          with_reducible refine (HV.out _).mono ?_
          rintro e w1 ⟨rfl, q, rfl⟩
          go_wp2_with fail
          refine bodyPost_ret (v := ansV p) (by rw [HF.out]; simp [results, Tryz.results82, go_sem, ansV, valV]) rfl ⟨rfl, ?_⟩
          exact below_three (below_drewN ((Below.refl _ _).alloc (Nat.le_refl _) _) q) (Nat.le_refl _) _ _ _
    · have t1 : decide ((5000 : Int) < (r : Int)) = false := by simp; omega
      by_cases c2 : r = 5000
      · have t2 : ((r : Int) == 5000) = true := by simp; omega
        by_cases c3 : v % 2 = 1
        · have t3 : ((v : Int) % 2 == 1) = true := by simp; omega
          clear c1
          have hE1 : Val.halfEven X = v + 1 := by rw [hE, if_pos (by omega)]
          by_cases hm : v = 18446744073709551615
          · have t4 : ((v : Int) == 18446744073709551615) = true := by simp; omega
            have HF : Hid (p = (Val.vz, 271)) := HP.out.trans (decimal_out (by rw [hE1]; split <;> omega))
            clear ts hE hE1 hm HP hvl hrl h0 h1 h0' h1'
            go_enter Tryz.func82, Tryz.ntmps82
            go_wp2_with fail
            refine HSA.out.mono ?_
            rintro e w1 ⟨rfl, rfl⟩
            go_wp2_with fail
            refine HSB.out.mono ?_
            rintro e w1 ⟨rfl, rfl⟩
            go_wp2_with fail
            refine HM.out.mono ?_
            rintro e w1 ⟨rfl, rfl⟩
            go_wp2_with fail
            with_reducible refine (HV.out _).mono ?_
            rintro e w1 ⟨rfl, q, rfl⟩
            go_wp2_with fail
            refine bodyPost_ret (v := ansV p) (by rw [HF.out]; simp [results, Tryz.results82, go_sem, ansV, valV, Val.vz]) rfl ⟨rfl, ?_⟩
            exact below_three (below_drewN ((Below.refl _ _).alloc (Nat.le_refl _) _) q) (Nat.le_refl _) _ _ _
          have t4 : ((v : Int) == 18446744073709551615) = false := by simp; omega
          have hvm : v + 1 < 18446744073709551616 := by omega
          obtain ⟨V, hV⟩ : ∃ V, V = v + 1 := ⟨_, rfl⟩
          have k0 : IntKind.u64.wrap ((v : Int) + 1) = (V : Int) := by rw [IntKind.wrap_u64]; omega
          have hVl : V < 18446744073709551616 := by omega
          rw [← hV] at hE1
          clear hvm hV hm
          clear hvl hrl h0 h1 h0' h1'
          cases sg with
          | true =>
            by_cases hf : 9223372036854775808 < V
            · have t5 : decide ((9223372036854775808 : Int) < (V : Int)) = true := by simp; omega
              have HF : Hid (p = (Val.vz, 271)) := HP.out.trans (decimal_out (by rw [hE1]; simpa using hf))
              clear hE hE1 hf HP hVl
              go_enter Tryz.func82, Tryz.ntmps82
              go_wp2_with fail
              refine HSA.out.mono ?_
              rintro e w1 ⟨rfl, rfl⟩
              go_wp2_with fail
              refine HSB.out.mono ?_
              rintro e w1 ⟨rfl, rfl⟩
              go_wp2_with fail
              refine HM.out.mono ?_
              rintro e w1 ⟨rfl, rfl⟩
              go_wp2_with fail
              with_reducible refine (HV.out _).mono ?_
              rintro e w1 ⟨rfl, q, rfl⟩
              go_wp2_with fail
              refine bodyPost_ret (v := ansV p) (by rw [HF.out]; simp [results, Tryz.results82, go_sem, ansV, valV, Val.vz]) rfl ⟨rfl, ?_⟩
              exact below_three (below_drewN ((Below.refl _ _).alloc (Nat.le_refl _) _) q) (Nat.le_refl _) _ _ _
            · have t5 : decide ((9223372036854775808 : Int) < (V : Int)) = false := by simp; omega
              have HF : Hid (p = (⟨3, -((V : Int)), ⟨#[]⟩⟩, 0)) := by
                show _ = _
                rw [HP.out, decimal_in (by rw [hE1]; simpa using hf), hE1]; rfl
              have k1 : IntKind.i64.wrap (IntKind.u64.wrap (-((V : Int)))) = -((V : Int)) := by rw [IntKind.wrap_u64, IntKind.wrap_i64]; omega
              clear hE hE1 hf HP hVl
              go_enter Tryz.func82, Tryz.ntmps82
              go_wp2_with fail
              refine HSA.out.mono ?_
              rintro e w1 ⟨rfl, rfl⟩
              go_wp2_with fail
              refine HSB.out.mono ?_
              rintro e w1 ⟨rfl, rfl⟩
              go_wp2_with fail
              refine HM.out.mono ?_
              rintro e w1 ⟨rfl, rfl⟩
              go_wp2_with fail
              with_reducible refine (HV.out _).mono ?_
              rintro e w1 ⟨rfl, q, rfl⟩
              go_wp2_with fail
              refine bodyPost_ret (v := ansV p) (by rw [HF.out]; simp [results, Tryz.results82, go_sem, ansV, valV]) rfl ⟨rfl, ?_⟩
              exact below_three (below_drewN ((Below.refl _ _).alloc (Nat.le_refl _) _) q) (Nat.le_refl _) _ _ _
          | false =>
            by_cases hf : 9223372036854775807 < V
            · have t5 : decide ((9223372036854775807 : Int) < (V : Int)) = true := by simp; omega
              have HF : Hid (p = (Val.vz, 271)) := HP.out.trans (decimal_out (by rw [hE1]; simpa using hf))
              clear hE hE1 hf HP hVl
              go_enter Tryz.func82, Tryz.ntmps82
              go_wp2_with fail
              refine HSA.out.mono ?_
              rintro e w1 ⟨rfl, rfl⟩
              go_wp2_with fail
              refine HSB.out.mono ?_
              rintro e w1 ⟨rfl, rfl⟩
              go_wp2_with fail
              refine HM.out.mono ?_
              rintro e w1 ⟨rfl, rfl⟩
              go_wp2_with fail
              with_reducible refine (HV.out _).mono ?_
              rintro e w1 ⟨rfl, q, rfl⟩
              go_wp2_with fail
              refine bodyPost_ret (v := ansV p) (by rw [HF.out]; simp [results, Tryz.results82, go_sem, ansV, valV, Val.vz]) rfl ⟨rfl, ?_⟩
              exact below_three (below_drewN ((Below.refl _ _).alloc (Nat.le_refl _) _) q) (Nat.le_refl _) _ _ _
            · have t5 : decide ((9223372036854775807 : Int) < (V : Int)) = false := by simp; omega
              have HF : Hid (p = (⟨3, (V : Int), ⟨#[]⟩⟩, 0)) := by
                show _ = _
                rw [HP.out, decimal_in (by rw [hE1]; simpa using hf), hE1]; rfl
              have k1 : IntKind.i64.wrap ((V : Int)) = (V : Int) := by rw [IntKind.wrap_i64]; omega
              clear hE hE1 hf HP hVl
              go_enter Tryz.func82, Tryz.ntmps82
              go_wp2_with fail
              refine HSA.out.mono ?_
              rintro e w1 ⟨rfl, rfl⟩
              go_wp2_with fail
              refine HSB.out.mono ?_
              rintro e w1 ⟨rfl, rfl⟩
              go_wp2_with fail
              refine HM.out.mono ?_
              rintro e w1 ⟨rfl, rfl⟩
              go_wp2_with fail
              with_reducible refine (HV.out _).mono ?_
              rintro e w1 ⟨rfl, q, rfl⟩
              go_wp2_with fail
              refine bodyPost_ret (v := ansV p) (by rw [HF.out]; simp [results, Tryz.results82, go_sem, ansV, valV]) rfl ⟨rfl, ?_⟩
              exact below_three (below_drewN ((Below.refl _ _).alloc (Nat.le_refl _) _) q) (Nat.le_refl _) _ _ _
        · have t3 : ((v : Int) % 2 == 1) = false := by simp; omega
          clear c1
          have hE1 : Val.halfEven X = v := by rw [hE, if_neg (by omega)]
          obtain ⟨V, hV⟩ : ∃ V, V = v := ⟨_, rfl⟩
          have hVl : V < 18446744073709551616 := by omega
          rw [← hV] at hE1
          subst hV
          clear hvl hrl h0 h1 h0' h1'
          cases sg with
          | true =>
            by_cases hf : 9223372036854775808 < V
            · have t5 : decide ((9223372036854775808 : Int) < (V : Int)) = true := by simp; omega
              have HF : Hid (p = (Val.vz, 271)) := HP.out.trans (decimal_out (by rw [hE1]; simpa using hf))
              clear hE hE1 hf HP hVl
              go_enter Tryz.func82, Tryz.ntmps82
              go_wp2_with fail
              refine HSA.out.mono ?_
              rintro e w1 ⟨rfl, rfl⟩
              go_wp2_with fail
              refine HSB.out.mono ?_
              rintro e w1 ⟨rfl, rfl⟩
              go_wp2_with fail
              refine HM.out.mono ?_
              rintro e w1 ⟨rfl, rfl⟩
              go_wp2_with fail
              with_reducible refine (HV.out _).mono ?_
              rintro e w1 ⟨rfl, q, rfl⟩
              go_wp2_with fail
              refine bodyPost_ret (v := ansV p) (by rw [HF.out]; simp [results, Tryz.results82, go_sem, ansV, valV, Val.vz]) rfl ⟨rfl, ?_⟩
              exact below_three (below_drewN ((Below.refl _ _).alloc (Nat.le_refl _) _) q) (Nat.le_refl _) _ _ _
            · have t5 : decide ((9223372036854775808 : Int) < (V : Int)) = false := by simp; omega
              have HF : Hid (p = (⟨3, -((V : Int)), ⟨#[]⟩⟩, 0)) := by
                show _ = _
                rw [HP.out, decimal_in (by rw [hE1]; simpa using hf), hE1]; rfl
              have k1 : IntKind.i64.wrap (IntKind.u64.wrap (-((V : Int)))) = -((V : Int)) := by rw [IntKind.wrap_u64, IntKind.wrap_i64]; omega
              clear hE hE1 hf HP hVl
              go_enter Tryz.func82, Tryz.ntmps82
              go_wp2_with fail
              refine HSA.out.mono ?_
              rintro e w1 ⟨rfl, rfl⟩
              go_wp2_with fail
              refine HSB.out.mono ?_
              rintro e w1 ⟨rfl, rfl⟩
              go_wp2_with fail
              refine HM.out.mono ?_
              rintro e w1 ⟨rfl, rfl⟩
              go_wp2_with fail
              with_reducible refine (HV.out _).mono ?_
              rintro e w1 ⟨rfl, q, rfl⟩
              go_wp2_with fail
              refine bodyPost_ret (v := ansV p) (by rw [HF.out]; simp [results, Tryz.results82, go_sem, ansV, valV]) rfl ⟨rfl, ?_⟩
              exact below_three (below_drewN ((Below.refl _ _).alloc (Nat.le_refl _) _) q) (Nat.le_refl _) _ _ _
          | false =>
            by_cases hf : 9223372036854775807 < V
            · have t5 : decide ((9223372036854775807 : Int) < (V : Int)) = true := by simp; omega
              have HF : Hid (p = (Val.vz, 271)) := HP.out.trans (decimal_out (by rw [hE1]; simpa using hf))
              clear hE hE1 hf HP hVl
              go_enter Tryz.func82, Tryz.ntmps82
              go_wp2_with fail
              refine HSA.out.mono ?_
              rintro e w1 ⟨rfl, rfl⟩
              go_wp2_with fail
              refine HSB.out.mono ?_
              rintro e w1 ⟨rfl, rfl⟩
              go_wp2_with fail
              refine HM.out.mono ?_
              rintro e w1 ⟨rfl, rfl⟩
              go_wp2_with fail
              with_reducible refine (HV.out _).mono ?_
              rintro e w1 ⟨rfl, q, rfl⟩
              go_wp2_with fail
              refine bodyPost_ret (v := ansV p) (by rw [HF.out]; simp [results, Tryz.results82, go_sem, ansV, valV, Val.vz]) rfl ⟨rfl, ?_⟩
              exact below_three (below_drewN ((Below.refl _ _).alloc (Nat.le_refl _) _) q) (Nat.le_refl _) _ _ _
            · have t5 : decide ((9223372036854775807 : Int) < (V : Int)) = false := by simp; omega
              have HF : Hid (p = (⟨3, (V : Int), ⟨#[]⟩⟩, 0)) := by
                show _ = _
                rw [HP.out, decimal_in (by rw [hE1]; simpa using hf), hE1]; rfl
              have k1 : IntKind.i64.wrap ((V : Int)) = (V : Int) := by rw [IntKind.wrap_i64]; omega
              clear hE hE1 hf HP hVl
              go_enter Tryz.func82, Tryz.ntmps82
              go_wp2_with fail
              refine HSA.out.mono ?_
              rintro e w1 ⟨rfl, rfl⟩
              go_wp2_with fail
              refine HSB.out.mono ?_
              rintro e w1 ⟨rfl, rfl⟩
              go_wp2_with fail
              refine HM.out.mono ?_
              rintro e w1 ⟨rfl, rfl⟩
              go_wp2_with fail
              with_reducible refine (HV.out _).mono ?_
              rintro e w1 ⟨rfl, q, rfl⟩
              go_wp2_with fail
              refine bodyPost_ret (v := ansV p) (by rw [HF.out]; simp [results, Tryz.results82, go_sem, ansV, valV]) rfl ⟨rfl, ?_⟩
              exact below_three (below_drewN ((Below.refl _ _).alloc (Nat.le_refl _) _) q) (Nat.le_refl _) _ _ _
      · have t2 : ((r : Int) == 5000) = false := by simp; omega
        have hE1 : Val.halfEven X = v := by rw [hE, if_neg (by omega)]
        obtain ⟨V, hV⟩ : ∃ V, V = v := ⟨_, rfl⟩
        have hVl : V < 18446744073709551616 := by omega
        rw [← hV] at hE1
        subst hV
        clear hvl hrl h0 h1 h0' h1'
        cases sg with
        | true =>
          by_cases hf : 9223372036854775808 < V
          · have t5 : decide ((9223372036854775808 : Int) < (V : Int)) = true := by simp; omega
            have HF : Hid (p = (Val.vz, 271)) := HP.out.trans (decimal_out (by rw [hE1]; simpa using hf))
            clear hE hE1 hf HP hVl
            go_enter Tryz.func82, Tryz.ntmps82
            go_wp2_with fail
            refine HSA.out.mono ?_
            rintro e w1 ⟨rfl, rfl⟩
            go_wp2_with fail
            refine HSB.out.mono ?_
            rintro e w1 ⟨rfl, rfl⟩
            go_wp2_with fail
            refine HM.out.mono ?_
            rintro e w1 ⟨rfl, rfl⟩
            go_wp2_with fail
            with_reducible refine (HV.out _).mono ?_
            rintro e w1 ⟨rfl, q, rfl⟩
            go_wp2_with fail
            refine bodyPost_ret (v := ansV p) (by rw [HF.out]; simp [results, Tryz.results82, go_sem, ansV, valV, Val.vz]) rfl ⟨rfl, ?_⟩
            exact below_three (below_drewN ((Below.refl _ _).alloc (Nat.le_refl _) _) q) (Nat.le_refl _) _ _ _
          · have t5 : decide ((9223372036854775808 : Int) < (V : Int)) = false := by simp; omega
            have HF : Hid (p = (⟨3, -((V : Int)), ⟨#[]⟩⟩, 0)) := by
              show _ = _
              rw [HP.out, decimal_in (by rw [hE1]; simpa using hf), hE1]; rfl
            have k1 : IntKind.i64.wrap (IntKind.u64.wrap (-((V : Int)))) = -((V : Int)) := by rw [IntKind.wrap_u64, IntKind.wrap_i64]; omega
            clear hE hE1 hf HP hVl
            go_enter Tryz.func82, Tryz.ntmps82
            go_wp2_with fail
            refine HSA.out.mono ?_
            rintro e w1 ⟨rfl, rfl⟩
            go_wp2_with fail
            refine HSB.out.mono ?_
            rintro e w1 ⟨rfl, rfl⟩
            go_wp2_with fail
            refine HM.out.mono ?_
            rintro e w1 ⟨rfl, rfl⟩
            go_wp2_with fail
            with_reducible refine (HV.out _).mono ?_
            rintro e w1 ⟨rfl, q, rfl⟩
            go_wp2_with fail
            refine bodyPost_ret (v := ansV p) (by rw [HF.out]; simp [results, Tryz.results82, go_sem, ansV, valV]) rfl ⟨rfl, ?_⟩
            exact below_three (below_drewN ((Below.refl _ _).alloc (Nat.le_refl _) _) q) (Nat.le_refl _) _ _ _
        | false =>
          by_cases hf : 9223372036854775807 < V
          · have t5 : decide ((9223372036854775807 : Int) < (V : Int)) = true := by simp; omega
            have HF : Hid (p = (Val.vz, 271)) := HP.out.trans (decimal_out (by rw [hE1]; simpa using hf))
            clear hE hE1 hf HP hVl
            go_enter Tryz.func82, Tryz.ntmps82
            go_wp2_with fail
            refine HSA.out.mono ?_
            rintro e w1 ⟨rfl, rfl⟩
            go_wp2_with fail
            refine HSB.out.mono ?_
            rintro e w1 ⟨rfl, rfl⟩
            go_wp2_with fail
            refine HM.out.mono ?_
            rintro e w1 ⟨rfl, rfl⟩
            go_wp2_with fail
            with_reducible refine (HV.out _).mono ?_
            rintro e w1 ⟨rfl, q, rfl⟩
            go_wp2_with fail
            refine bodyPost_ret (v := ansV p) (by rw [HF.out]; simp [results, Tryz.results82, go_sem, ansV, valV, Val.vz]) rfl ⟨rfl, ?_⟩
            exact below_three (below_drewN ((Below.refl _ _).alloc (Nat.le_refl _) _) q) (Nat.le_refl _) _ _ _
          · have t5 : decide ((9223372036854775807 : Int) < (V : Int)) = false := by simp; omega
            have HF : Hid (p = (⟨3, (V : Int), ⟨#[]⟩⟩, 0)) := by
              show _ = _
              rw [HP.out, decimal_in (by rw [hE1]; simpa using hf), hE1]; rfl
            have k1 : IntKind.i64.wrap ((V : Int)) = (V : Int) := by rw [IntKind.wrap_i64]; omega
            clear hE hE1 hf HP hVl
            go_enter Tryz.func82, Tryz.ntmps82
            go_wp2_with fail
            refine HSA.out.mono ?_
            rintro e w1 ⟨rfl, rfl⟩
            go_wp2_with fail
            refine HSB.out.mono ?_
            rintro e w1 ⟨rfl, rfl⟩
            go_wp2_with fail
            refine HM.out.mono ?_
            rintro e w1 ⟨rfl, rfl⟩
            go_wp2_with fail
            with_reducible refine (HV.out _).mono ?_
            rintro e w1 ⟨rfl, q, rfl⟩
            go_wp2_with fail
            refine bodyPost_ret (v := ansV p) (by rw [HF.out]; simp [results, Tryz.results82, go_sem, ansV, valV]) rfl ⟨rfl, ?_⟩
            exact below_three (below_drewN ((Below.refl _ _).alloc (Nat.le_refl _) _) q) (Nat.le_refl _) _ _ _
end Go.Proofs.YticljmgcgjibpaaGreatDoor

/-
  The walk of value.Mul. Conditions: numbers within 64 bits.
-/
namespace Go.Proofs.YticljmgcgjibpaaGreatDoor
open Go.RowKit

theorem mul_bad {a b : Cell.Val} (h : (commonOf a b).2 ≠ 0 ∨ (commonOf a b).1 = 0) : Val.mul a b = (Val.vz, (commonOf a b).2) := by
  have hs := common_bad h 1
  unfold sumOf at hs
  rw [if_pos rfl] at hs
  unfold commonOf at h hs ⊢
  unfold Val.mul
  by_cases hc : (Val.asked a b).2 ≠ 0 ∨ (Val.asked a b).1 = true
  · rw [if_pos hc, if_pos hc]
  · exfalso
    rw [if_neg hc] at h
    have hz : (Val.asked a b).2 = 0 := Decidable.byContradiction fun h => hc (.inl h)
    have hn : (Val.asked a b).1 = false := by cases hq : (Val.asked a b).1 with | false => rfl | true => exact absurd (.inr hq) hc
    obtain ⟨ha, hb⟩ := asked_ok hz hn
    rcases h with h | h
    · exact h rfl
    · have hm : max a.k.toNat b.k.toNat = 0 := h
      omega
theorem mul_good {a b : Cell.Val} {kd : Nat} (h : commonOf a b = (kd, 0)) (hk : kd ≠ 0) :
    ((a.k.toNat = 3 ∧ b.k.toNat = 3) ∧ Val.mul a b = Val.answer 3 (Val.signed (decide (a.n < 0) != decide (b.n < 0)) (Val.halfEven (a.n.natAbs * b.n.natAbs)))) ∨
    (¬ (a.k.toNat = 3 ∧ b.k.toNat = 3) ∧ ∃ K : UInt8, K.toNat = kd ∧ Val.mul a b = Val.answer K (a.n * b.n)) := by
  unfold commonOf at h
  by_cases hc : (Val.asked a b).2 ≠ 0 ∨ (Val.asked a b).1 = true
  · rw [if_pos hc] at h
    injection h with h _
    exact absurd h.symm hk
  · rw [if_neg hc] at h
    injection h with h _
    have hz : (Val.asked a b).2 = 0 := Decidable.byContradiction fun h => hc (.inl h)
    have hn : (Val.asked a b).1 = false := by cases hq : (Val.asked a b).1 with | false => rfl | true => exact absurd (.inr hq) hc
    obtain ⟨ha, hb⟩ := asked_ok hz hn
    unfold Val.mul
    rw [if_neg hc]
    have ex : ∀ {x y : UInt8}, x.toNat ≠ y.toNat → x ≠ y := fun h e => h (by rw [e])
    have eq : ∀ {x y : UInt8}, x.toNat = y.toNat → x = y := fun h => UInt8.toNat_inj.1 h
    rcases ha with ha | ha <;> rcases hb with hb | hb
    · refine .inr ⟨by omega, 2, by rw [← h, ha, hb]; rfl, ?_⟩
      rw [if_neg (fun h => h (eq (by omega))), if_pos ha]
    · refine .inr ⟨by omega, 3, by rw [← h, ha, hb]; rfl, ?_⟩
      rw [if_pos (ex (by omega))]
    · refine .inr ⟨by omega, 3, by rw [← h, ha, hb]; rfl, ?_⟩
      rw [if_pos (ex (by omega))]
    · refine .inl ⟨⟨ha, hb⟩, ?_⟩
      rw [if_neg (fun h => h (eq (by omega))), if_neg (by omega)]
set_option maxRecDepth 20000 in
set_option maxHeartbeats 3200000 in
theorem vMul_any (k : UInt8) (n : Int) (s : ByteArray) (k' : UInt8) (n' : Int) (s' : ByteArray) (w : World) (h0 : -9223372036854775808 ≤ n) (h1 : n ≤ 9223372036854775807) (h0' : -9223372036854775808 ≤ n') (h1' : n' ≤ 9223372036854775807) :
    Calls Tryz.prog 48 #[.agg #[.int .u8 (k.toNat : Int), .int .i64 n, .string s], .agg #[.int .u8 (k'.toNat : Int), .int .i64 n', .string s']] w fun e w' => e = .returned (ansV (Val.mul ⟨k, n, s⟩ ⟨k', n', s'⟩)) ∧ Below w.heap.size w w' := by
  have HN := hide (V3.new w k n s k' n' s')
  obtain ⟨p, hp⟩ : ∃ p, p = Val.mul ⟨k, n, s⟩ ⟨k', n', s'⟩ := ⟨_, rfl⟩
  rw [← hp]
  obtain ⟨kd, er, hc⟩ : ∃ kd er, commonOf ⟨k, n, s⟩ ⟨k', n', s'⟩ = (kd, er) := ⟨_, _, rfl⟩
  have HC := hide hc
  have HP := hide hp
  clear hp hc
  go_enter Tryz.func48, Tryz.ntmps48
  go_wp2_with fail
  obtain ⟨w0, hw0⟩ : ∃ x, x = ((w.alloc (.cells #[.int .u8 (k.toNat : Int), .int .i64 n, .string s] 25)).alloc (.cells #[.int .u8 (k'.toNat : Int), .int .i64 n', .string s'] 25)).alloc (.cells #[.int .u8 0, .int .i64 0, .string ⟨#[]⟩] 25) := ⟨_, rfl⟩
  rw [← hw0] at HN ⊢
  clear hw0
  with_reducible refine (common_any k n s k' n' s' w0).mono ?_
  rintro e w1 ⟨rfl, hb1⟩
  replace HN := hide (HN.out.below hb1)
  clear hb1
  rw [HC.out]
  unfold comV
  simp only
  obtain ⟨r0, r1, r2⟩ := HN.out.2.2.1.c3
  obtain ⟨f0, f1, f2⟩ := HN.out.2.2.1.f3
  have hl := HN.out.size
  by_cases hbad : er ≠ 0 ∨ kd = 0
  · have HF : Hid (p = (Val.vz, er)) := by
      show _ = _
      have := mul_bad (a := ⟨k, n, s⟩) (b := ⟨k', n', s'⟩) (by rw [HC.out]; exact hbad)
      rw [HC.out] at this
      exact HP.out.trans this
    by_cases he : er = 0
    · subst he
      obtain rfl : kd = 0 := by simpa using hbad
      clear hbad
      go_wp2_with fail
      refine bodyPost_ret (v := ansV p) (by rw [HF.out]; simp [results, Tryz.results48, go_sem, r0, r1, r2, ansV, valV, Val.vz]) rfl ⟨rfl, (below_three (g := w.heap.size + 1 + 1) HN.out.2.2.2 (by omega) _ _ _)⟩
    · have te : ((er : Int) != 0) = true := by simp; exact he
      clear hbad he
      go_wp2_with fail
      refine bodyPost_ret (v := ansV p) (by rw [HF.out]; simp [results, Tryz.results48, go_sem, r0, r1, r2, ansV, valV, Val.vz]) rfl ⟨rfl, (below_three (g := w.heap.size + 1 + 1) HN.out.2.2.2 (by omega) _ _ _)⟩
  · obtain ⟨rfl, hk0⟩ : er = 0 ∧ kd ≠ 0 := ⟨Decidable.byContradiction fun h => hbad (.inl h), fun h => hbad (.inr h)⟩
    have tk : ((kd : Int) == 0) = false := by simp; omega
    clear r0 r1 r2 f0 f1 f2 hl hbad
    obtain ⟨a0, a1, a2⟩ := HN.out.1.c3
    obtain ⟨b0, b1, b2⟩ := HN.out.2.1.c3
    rcases mul_good HC.out hk0 with ⟨⟨g1, g2⟩, hm⟩ | ⟨hne, K, hK, hm⟩
    · have HF : Hid (p = _) := HP.out.trans hm
      have t1 : ((k.toNat : Int) == 3) = true := by simp at g1 ⊢; omega
      have t2 : ((k'.toNat : Int) == 3) = true := by simp at g2 ⊢; omega
      clear g1 g2 hm hk0 HP HC
      go_wp2_with fail
      with_reducible refine (decimal_any n n' w1 h0 h1 h0' h1').mono ?_
      rintro e w2 ⟨rfl, hb2⟩
      replace HN := hide (HN.out.below hb2)
      clear hb2 a0 a1 a2 b0 b1 b2
      rw [← HF.out]
      obtain ⟨pv, pe⟩ := p
      unfold ansV valV
      simp only
      obtain ⟨r0, r1, r2⟩ := HN.out.2.2.1.c3
      obtain ⟨f0, f1, f2⟩ := HN.out.2.2.1.f3
      have hl := HN.out.size
      go_wp2_with fail
      refine bodyPost_ret (v := .tuple #[.agg #[.int .u8 (pv.k.toNat : Int), .int .i64 pv.n, .string pv.s], .int .i64 ((pe : Nat) : Int)]) (by simp [results, Tryz.results48, go_sem, r0, r1, r2]) rfl ⟨rfl, (below_three (g := w.heap.size + 1 + 1) HN.out.2.2.2 (by omega) _ _ _)⟩
    · have HF : Hid (p = _) := HP.out.trans hm
      have HK := hide hK
      have hX := mul_lt h0 h1 h0' h1'
      have hX1 : -85070591730234615865843651857942052864 ≤ n * n' ∧ n * n' ≤ 85070591730234615865843651857942052864 := by
        rw [← Int.natAbs_mul] at hX
        omega
      obtain ⟨hX2, hX3⟩ := hX1
      have HX2 := hide hX2
      have HX3 := hide hX3
      by_cases g1 : k.toNat = 3
      · have t1 : ((k.toNat : Int) == 3) = true := by simp; omega
        have t2 : ((k'.toNat : Int) == 3) = false := by simp at hne ⊢; omega
        clear g1 hne hm hk0 HP HC hK hX hX2 hX3
        go_wp2_with fail
        with_reducible refine (times_any n n' w1 h0 h1 h0' h1').mono ?_
        rintro e w2 ⟨rfl, hb2⟩
        replace HN := hide (HN.out.below hb2)
        clear hb2 a0 a1 a2 b0 b1 b2
        go_wp2_with fail
        with_reducible refine (fitting_any K (kd : Int) (by rw [HK.out]) (n * n') w2 HX2.out HX3.out).mono ?_
        rintro e w3 ⟨rfl, hb3⟩
        replace HN := hide (HN.out.below hb3)
        clear hb3
        rw [← HF.out]
        obtain ⟨pv, pe⟩ := p
        unfold ansV valV
        simp only
        obtain ⟨r0, r1, r2⟩ := HN.out.2.2.1.c3
        obtain ⟨f0, f1, f2⟩ := HN.out.2.2.1.f3
        have hl := HN.out.size
        go_wp2_with fail
        refine bodyPost_ret (v := .tuple #[.agg #[.int .u8 (pv.k.toNat : Int), .int .i64 pv.n, .string pv.s], .int .i64 ((pe : Nat) : Int)]) (by simp [results, Tryz.results48, go_sem, r0, r1, r2]) rfl ⟨rfl, (below_three (g := w.heap.size + 1 + 1) HN.out.2.2.2 (by omega) _ _ _)⟩
      · have t1 : ((k.toNat : Int) == 3) = false := by simp; omega
        clear g1 hne hm hk0 HP HC hK hX hX2 hX3
        go_wp2_with fail
        with_reducible refine (times_any n n' w1 h0 h1 h0' h1').mono ?_
        rintro e w2 ⟨rfl, hb2⟩
        replace HN := hide (HN.out.below hb2)
        clear hb2 a0 a1 a2 b0 b1 b2
        go_wp2_with fail
        with_reducible refine (fitting_any K (kd : Int) (by rw [HK.out]) (n * n') w2 HX2.out HX3.out).mono ?_
        rintro e w3 ⟨rfl, hb3⟩
        replace HN := hide (HN.out.below hb3)
        clear hb3
        rw [← HF.out]
        obtain ⟨pv, pe⟩ := p
        unfold ansV valV
        simp only
        obtain ⟨r0, r1, r2⟩ := HN.out.2.2.1.c3
        obtain ⟨f0, f1, f2⟩ := HN.out.2.2.1.f3
        have hl := HN.out.size
        go_wp2_with fail
        refine bodyPost_ret (v := .tuple #[.agg #[.int .u8 (pv.k.toNat : Int), .int .i64 pv.n, .string pv.s], .int .i64 ((pe : Nat) : Int)]) (by simp [results, Tryz.results48, go_sem, r0, r1, r2]) rfl ⟨rfl, (below_three (g := w.heap.size + 1 + 1) HN.out.2.2.2 (by omega) _ _ _)⟩
end Go.Proofs.YticljmgcgjibpaaGreatDoor
