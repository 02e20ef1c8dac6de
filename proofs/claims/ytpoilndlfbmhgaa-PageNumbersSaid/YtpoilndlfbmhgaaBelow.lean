/-
  The walks of Below, the program's and the reference's, and of Find. Conditions: the cells, the bytes and the key read as lists.
-/
import Derived.Test.YtpoilndlfbmhgaaFindP
namespace Go.Proofs.Ytpoilndlfbmhgaa
open Go.RowKit

set_option linter.unusedVariables false in
set_option maxRecDepth 100000 in
set_option maxHeartbeats 1600000 in
theorem below_any (kd : UInt8) (nx : Int) (A A' : Option Addr) (n c n' c' : Nat) (cs : List Pag.Ce) (key : List UInt8) (w : World) (hl : CeRd w w.heap.size A n cs) (hk : Rb w w.heap.size A' n' key) (hn : n ≤ 4000000000000) :
    Calls Try.prog 12 #[.agg #[.int .u8 (kd.toNat : Int), .int .i64 nx, .slice A n c], .slice A' n' c'] w fun e w' => e = .returned (.int .i64 (Pag.belowN cs key : Nat)) ∧ Below w.heap.size w w' := by
  have HL := hide hl
  have HK := hide hk
  have HN := hide hl.1
  clear hl hk
  obtain ⟨w1, hw1⟩ : ∃ w1, w1 = w.alloc (.cells #[.int .u8 (kd.toNat : Int), .int .i64 nx, .slice A n c] 25) := ⟨_, rfl⟩
  have HK1 : Hid (Blk w1 w.heap.size 25 #[.int .u8 (kd.toNat : Int), .int .i64 nx, .slice A n c]) := by rw [hw1]; exact Blk.new _ _ _
  have HB1 : Hid (Below w.heap.size w w1) := by rw [hw1]; exact (Below.refl _ _).alloc (Nat.le_refl _) _
  have hs1 : w1.heap.size = w.heap.size + 1 := by rw [hw1]; simp
  have k2 := HK1.out.cell 2
  simp at k2
  go_enter Try.func12, Try.ntmps12
  go_upto_region 1 with fail
  rw [← hw1]
  clear hw1
  go_wp2_with fail
  go_loopw [10] (fun a wr => ∃ i : Nat, i ≤ n ∧ a = .int .i64 (i : Nat) ∧ Hid (∀ j f, j < i → cs[j]? = some f → Pag.gtB key f = false) ∧ Below w1.heap.size w1 wr) (fun a _ => n - (intOf a).toNat)
  case atStart => exact ⟨0, Nat.zero_le _, rfl, fun j f hj => absurd hj (by omega), Below.refl _ _⟩
  case round =>
    obtain ⟨i, hi, rfl, H1, hbel⟩ := hrel
    obtain ⟨w10, hw10⟩ : ∃ w10, w10 = wr := ⟨_, rfl⟩
    subst hw10
    have HB := hide hbel
    have hs10 := hbel.size
    clear hbel k2
    by_cases hlt : i < n
    · have HB10 := hide (HB1.out.trans (HB.out.mono (by omega)))
      obtain ⟨g, off, f, Ak, ck, Av, cv, rfl, hg, hf, d0, d1, hrk, hk1, hk2, hk3, hrv, hv1, hv2, hv3⟩ := (HL.out.below HB10.out (Nat.le_refl _)).at hlt
      obtain ⟨w11, hw11⟩ : ∃ w11, w11 = w10.alloc (.cells #[.slice Ak f.1.length ck, .slice Av f.2.length cv] 41) := ⟨_, rfl⟩
      have HX : Hid (Blk w11 w10.heap.size 41 #[.slice Ak f.1.length ck, .slice Av f.2.length cv]) := by rw [hw11]; exact Blk.new _ _ _
      have hb11 : Below w10.heap.size w10 w11 := by rw [hw11]; exact (Below.refl _ _).alloc (Nat.le_refl _) _
      have HB11 := hide (HB.out.trans (hb11.mono hs10))
      have HRk := hide (hrk.below hb11 (by omega))
      have HKy := hide ((HK.out.below HB10.out (Nat.le_refl _)).below hb11 (by omega))
      have HF := hide hf
      go_upto_region 4 with fail
      rw [← hw11]
      clear hw11 hb11 hrk hrv hf d0 d1
      have x0 := HX.out.cell 0
      simp at x0
      go_wp2_with fail
      with_reducible refine (cmp_any _ _ _ _ _ _ f.1 key _ _ _ HRk.out HKy.out).mono ?_
      rintro e w' ⟨rfl, rfl⟩
      obtain ⟨m, hm⟩ : ∃ m, m = cmpB f.1 key := ⟨_, rfl⟩
      rw [← hm]
      have HM := hide hm
      clear hm
      by_cases hm0 : 0 < m
      · have HR : Hid (Pag.belowN cs key = i) := Pag.findIdx_of cs i (by rw [← HN.out]; exact hi) (fun j c hj hc => H1.out j c hj hc) (fun c hc => by
          rw [HF.out] at hc
          obtain rfl := Option.some.inj hc
          unfold Pag.gtB
          rw [← HM.out]
          simp [hm0])
        go_wp2_with fail
        go_ret
        exact ⟨by rw [HR.out]; rfl, HB1.out.trans (HB11.out.mono (by omega))⟩
      · have H1' : Hid (∀ j f, j < i + 1 → cs[j]? = some f → Pag.gtB key f = false) := fun j f' hj hc => by
          rcases Nat.lt_or_ge j i with h | h
          · exact H1.out j f' h hc
          · obtain rfl : j = i := by omega
            rw [HF.out] at hc
            obtain rfl := Option.some.inj hc
            unfold Pag.gtB
            rw [← HM.out]
            simp [hm0]
        go_wp2_with fail
        go_roundw
        case rel => exact ⟨i + 1, by omega, by go_num, H1', HB11.out⟩
        case measure => simp [intOf]; omega
    · obtain rfl : i = n := by omega
      have HR : Hid (Pag.belowN cs key = i) := Pag.findIdx_of cs i (by rw [← HN.out]; exact hi) (fun j c hj hc => H1.out j c hj hc) (fun c hc => by
        rw [List.getElem?_eq_none (by rw [← HN.out]; exact Nat.le_refl _)] at hc
        cases hc)
      have k2 := (HK1.out.below HB.out (by omega)).cell 2
      simp at k2
      go_wp2_with fail
      go_ret
      exact ⟨by rw [HR.out]; rfl, HB1.out.trans (HB.out.mono (by omega))⟩
set_option linter.unusedVariables false in
set_option maxRecDepth 100000 in
set_option maxHeartbeats 1600000 in
theorem rBelow_any (kd : UInt8) (nx : Int) (A A' : Option Addr) (n c n' c' : Nat) (cs : List Pag.Ce) (key : List UInt8) (w : World) (hl : CeRd w w.heap.size A n cs) (hk : Rb w w.heap.size A' n' key) (hn : n ≤ 4000000000000) :
    Calls Try.prog 13 #[.agg #[.int .u8 (kd.toNat : Int), .int .i64 nx, .slice A n c], .slice A' n' c'] w fun e w' => e = .returned (.int .i64 (Pag.belowN cs key : Nat)) ∧ Below w.heap.size w w' := by
  have HL := hide hl
  have HK := hide hk
  have HN := hide hl.1
  clear hl hk
  obtain ⟨w1, hw1⟩ : ∃ w1, w1 = w.alloc (.cells #[.int .u8 (kd.toNat : Int), .int .i64 nx, .slice A n c] 25) := ⟨_, rfl⟩
  have HK1 : Hid (Blk w1 w.heap.size 25 #[.int .u8 (kd.toNat : Int), .int .i64 nx, .slice A n c]) := by rw [hw1]; exact Blk.new _ _ _
  have HB1 : Hid (Below w.heap.size w w1) := by rw [hw1]; exact (Below.refl _ _).alloc (Nat.le_refl _) _
  have k2 := HK1.out.cell 2
  simp at k2
  go_enter Try.func13, Try.ntmps13
  go_upto_region 1 with fail
  rw [← hw1]
  clear hw1
  go_wp2_with fail
  have hs1 : w.heap.size < w1.heap.size := HK1.out.lt
  go_loopw [5] (fun a wr => ∃ i : Nat, i ≤ n ∧ a = .int .i64 (i : Nat) ∧ Hid (∀ j f, j < i → cs[j]? = some f → Pag.gtB key f = false) ∧ Below w1.heap.size w1 wr) (fun a _ => n - (intOf a).toNat)
  case atStart => exact ⟨0, Nat.zero_le _, rfl, fun j f hj => absurd hj (by omega), Below.refl _ _⟩
  case round =>
    obtain ⟨i, hi, rfl, H1, hbel⟩ := hrel
    obtain ⟨w10, hw10⟩ : ∃ w10, w10 = wr := ⟨_, rfl⟩
    subst hw10
    have HB := hide hbel
    have HB10 := hide (HB1.out.trans (HB.out.mono (Nat.le_of_lt hs1)))
    clear k2
    have k2 := (HK1.out.below HB.out hs1).cell 2
    simp at k2
    clear hbel
    by_cases hlt : i < n
    · obtain ⟨g, off, f, Ak, ck, Av, cv, rfl, hg, hf, d0, d1, hrk, hk1, hk2, hk3, hrv, hv1, hv2, hv3⟩ := (HL.out.below HB10.out (Nat.le_refl _)).at hlt
      have HRk := hide hrk
      have HKy := hide (HK.out.below HB10.out (Nat.le_refl _))
      have HF := hide hf
      clear hrk hrv hf d1
      go_wp2_with fail
      with_reducible refine (rCmp_any _ _ _ _ _ _ f.1 key _ _ _ HRk.out HKy.out (by unfold maxLen; omega)).mono ?_
      rintro e w' ⟨rfl, q, hq⟩
      have HB11 : Hid (Below w1.heap.size w1 w') := by rw [hq]; exact below_drewN' HB.out q
      have k2' := (HK1.out.below HB11.out hs1).cell 2
      simp at k2'
      clear hq
      obtain ⟨m, hm⟩ : ∃ m, m = cmpB f.1 key := ⟨_, rfl⟩
      rw [← hm]
      have HM := hide hm
      clear hm
      by_cases hm0 : 0 < m
      · have HR : Hid (Pag.belowN cs key = i) := Pag.findIdx_of cs i (by rw [← HN.out]; exact hi) (fun j c hj hc => H1.out j c hj hc) (fun c hc => by
          rw [HF.out] at hc
          obtain rfl := Option.some.inj hc
          unfold Pag.gtB
          rw [← HM.out]
          simp [hm0])
        go_wp2_with fail
        go_ret
        exact ⟨by rw [HR.out]; rfl, HB1.out.trans (HB11.out.mono (Nat.le_of_lt hs1))⟩
      · have H1' : Hid (∀ j f, j < i + 1 → cs[j]? = some f → Pag.gtB key f = false) := fun j f' hj hc => by
          rcases Nat.lt_or_ge j i with h | h
          · exact H1.out j f' h hc
          · obtain rfl : j = i := by omega
            rw [HF.out] at hc
            obtain rfl := Option.some.inj hc
            unfold Pag.gtB
            rw [← HM.out]
            simp [hm0]
        go_wp2_with fail
        go_roundw
        case rel => exact ⟨i + 1, by omega, by go_num, H1', HB11.out⟩
        case measure => simp [intOf]; omega
    · obtain rfl : i = n := by omega
      have HR : Hid (Pag.belowN cs key = i) := Pag.findIdx_of cs i (by rw [← HN.out]; exact hi) (fun j c hj hc => H1.out j c hj hc) (fun c hc => by
        rw [List.getElem?_eq_none (by rw [← HN.out]; exact Nat.le_refl _)] at hc
        cases hc)
      go_wp2_with fail
      go_ret
      exact ⟨by rw [HR.out]; rfl, HB10.out⟩
end Go.Proofs.Ytpoilndlfbmhgaa
