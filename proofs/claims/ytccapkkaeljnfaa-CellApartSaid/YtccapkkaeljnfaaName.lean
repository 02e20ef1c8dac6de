/-
  The walks of cell.name and chanceryref18.Name. Conditions: the text's length is an int.
-/
import Derived.Test.YtccapkkaeljnfaaKey
import Derived.Test.YtccapkkaeljnfaaNameMath
namespace Go.Proofs.Ytccapkkaeljnfaa
open Go.RowKit

theorem str_len (s : ByteArray) : s.data.toList.length = s.size := by rw [Array.length_toList]; rfl
theorem str_at (s : ByteArray) (k : Nat) (h : k < s.size) : s.data.toList[k]'(by rw [str_len]; exact h) = s[k] := rfl

set_option maxHeartbeats 1600000 in
theorem name_any (s : ByteArray) (w : World) (hm : s.size ≤ maxLen) :
    Calls Try.prog 53 #[.string s] w fun e w' => e = .returned (.bool (Cell.nameB s.data.toList)) ∧ w = w' := by
  unfold maxLen at hm
  obtain ⟨b, hb⟩ : ∃ b, b = Cell.nameB s.data.toList := ⟨_, rfl⟩
  rw [← hb]
  have HB := hide hb
  have HL := hide (str_len s)
  clear hb
  by_cases h1 : s.size < 1
  · have HF : Hid (b = false) := HB.out.trans (Cell.nameB_short (by rw [HL.out]; exact h1))
    have t1 : decide ((s.size : Int) < 1) = true := by simp; omega
    clear HB
    go_enter Try.func53, Try.ntmps53
    go_wp2
    go_ret
    exact ret_bool HF.out rfl rfl
  by_cases h2 : 24 < s.size
  · have HF : Hid (b = false) := HB.out.trans (Cell.nameB_long (by rw [HL.out]; exact h2))
    have t1 : decide ((s.size : Int) < 1) = false := by simp; omega
    have t2 : decide ((24 : Int) < (s.size : Int)) = true := by simp; omega
    clear HB
    go_enter Try.func53, Try.ntmps53
    go_wp2
    go_ret
    exact ret_bool HF.out rfl rfl
  have t1 : decide ((s.size : Int) < 1) = false := by simp; omega
  have t2 : decide ((24 : Int) < (s.size : Int)) = false := by simp; omega
  go_enter Try.func53, Try.ntmps53
  go_wp2
  go_loop [16] (fun i => ∃ k : Nat, k ≤ s.size ∧ i = .int .i64 (k : Nat) ∧ Hid (Cell.preB 0 (s.data.toList.take k) = true)) (fun i => s.size - (intOf i).toNat)
  case atStart => exact ⟨0, Nat.zero_le _, rfl, rfl⟩
  case round =>
    obtain ⟨k, hk, rfl, HP⟩ := hrel
    by_cases hlt : k < s.size
    · have HN := hide (fun hs => Cell.preB_next (by rw [HL.out]; exact hlt) HP.out (show Cell.stepP k (s.data.toList[k]'(by rw [HL.out]; exact hlt)) from hs))
      have HS := hide (fun hs => Cell.nameB_pre (Cell.preB_stop (by rw [HL.out]; exact hlt) (show ¬ Cell.stepP k (s.data.toList[k]'(by rw [HL.out]; exact hlt)) from hs)))
      have hkI : (k : Int) < (s.size : Int) := by omega
      go_wp2
      all_goals first
        | (go_ret
           have hs : ¬ Cell.stepP k s[k] := by unfold Cell.stepP; first | omega | (simp at *; omega)
           exact ret_bool (HB.out.trans (HS.out hs)) rfl rfl)
        | (have hs : Cell.stepP k s[k] := by unfold Cell.stepP; first | omega | (simp at *; omega)
           go_round
           case rel => exact ⟨k + 1, by omega, by go_num, HN.out hs⟩
           case measure => simp [intOf]; omega)
    · obtain rfl : k = s.size := by omega
      have HF : Hid (b = true) := HB.out.trans (Cell.nameB_ok (by rw [HL.out]; omega) (by rw [HL.out]; omega) (by have := HP.out; rwa [List.take_of_length_le (by rw [HL.out]; exact Nat.le_refl _)] at this))
      go_wp2
      go_ret
      exact ret_bool HF.out rfl rfl

set_option maxHeartbeats 1600000 in
theorem refName_any (s : ByteArray) (w : World) (hm : s.size ≤ maxLen) :
    Calls Try.prog 46 #[.string s] w fun e w' => e = .returned (.bool (Cell.nameB s.data.toList)) ∧ w = w' := by
  unfold maxLen at hm
  obtain ⟨b, hb⟩ : ∃ b, b = Cell.nameB s.data.toList := ⟨_, rfl⟩
  rw [← hb]
  have HB := hide hb
  have HL := hide (str_len s)
  clear hb
  go_enter Try.func46, Try.ntmps46
  go_wp2
  go_loop [3] (fun i => ∃ k : Nat, k ≤ s.size ∧ i = .int .i64 (k : Nat) ∧ Hid (Cell.preB 0 (s.data.toList.take k) = true)) (fun i => s.size - (intOf i).toNat)
  case atStart => exact ⟨0, Nat.zero_le _, rfl, rfl⟩
  case round =>
    obtain ⟨k, hk, rfl, HP⟩ := hrel
    by_cases hlt : k < s.size
    · have HN := hide (fun hs => Cell.preB_next (by rw [HL.out]; exact hlt) HP.out (show Cell.stepP k (s.data.toList[k]'(by rw [HL.out]; exact hlt)) from hs))
      have HS := hide (fun hs => Cell.nameB_pre (Cell.preB_stop (by rw [HL.out]; exact hlt) (show ¬ Cell.stepP k (s.data.toList[k]'(by rw [HL.out]; exact hlt)) from hs)))
      have hkI : (k : Int) < (s.size : Int) := by omega
      by_cases hz : k = 0
      · have hkz : ((k : Int) == 0) = true := by simp; exact hz
        have hk0 : k ≤ 0 := by omega
        clear hz
        go_wp2
        all_goals first
          | (go_ret
             have hs : ¬ Cell.stepP k s[k] := by unfold Cell.stepP; first | omega | (simp at *; omega)
             exact ret_bool (HB.out.trans (HS.out hs)) rfl rfl)
          | (have hs : Cell.stepP k s[k] := by unfold Cell.stepP; first | omega | (simp at *; omega)
             go_round
             case rel => exact ⟨k + 1, by omega, by go_num, HN.out hs⟩
             case measure => simp [intOf]; omega)
      · have hkz : ((k : Int) == 0) = false := by simp; exact hz
        have hk0 : 0 < k := by omega
        clear hz
        go_wp2
        all_goals first
          | (go_ret
             have hs : ¬ Cell.stepP k s[k] := by unfold Cell.stepP; first | omega | (simp at *; omega)
             exact ret_bool (HB.out.trans (HS.out hs)) rfl rfl)
          | (have hs : Cell.stepP k s[k] := by unfold Cell.stepP; first | omega | (simp at *; omega)
             go_round
             case rel => exact ⟨k + 1, by omega, by go_num, HN.out hs⟩
             case measure => simp [intOf]; omega)
    · obtain rfl : k = s.size := by omega
      have hp : Cell.preB 0 s.data.toList = true := by have := HP.out; rwa [List.take_of_length_le (by rw [HL.out]; exact Nat.le_refl _)] at this
      have HF : Hid (b = (decide (1 ≤ s.size) && decide (s.size ≤ 24))) := by
        show b = _
        rw [HB.out, Cell.nameB, hp, HL.out]
        simp
      clear hp
      by_cases h1 : 1 ≤ s.size
      · have t1 : decide ((1 : Int) ≤ (s.size : Int)) = true := by simp; omega
        by_cases h2 : s.size ≤ 24
        · have t2 : decide ((s.size : Int) ≤ 24) = true := by simp; omega
          go_wp2
          go_ret
          exact ret_bool (HF.out.trans (by simp [h1, h2])) rfl rfl
        · have t2 : decide ((s.size : Int) ≤ 24) = false := by simp; omega
          go_wp2
          go_ret
          exact ret_bool (HF.out.trans (by simp [h1, h2])) rfl rfl
      · have t1 : decide ((1 : Int) ≤ (s.size : Int)) = false := by simp; omega
        go_wp2
        go_ret
        exact ret_bool (HF.out.trans (by simp [h1])) rfl rfl
end Go.Proofs.Ytccapkkaeljnfaa
