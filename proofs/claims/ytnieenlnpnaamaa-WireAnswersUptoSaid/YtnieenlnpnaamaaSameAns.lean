/-
  The walks of chancerykit.SameTexts, SameRows, and of the law's sameAnswer. Conditions: the arguments read as lists.
-/
import Derived.Test.YtnieenlnpnaamaaAns
import Derived.BigQuiet
namespace Go.Proofs.Ytnieenlnpnaamaa
open Go.RowKit

theorem tx_take_succ {α : Type} {l l' : List α} {k : Nat} {a : α} (h : l.take k = l'.take k) (h1 : l[k]? = some a) (h2 : l'[k]? = some a) : l.take (k + 1) = l'.take (k + 1) := by
  rw [List.take_add_one, List.take_add_one, h, h1, h2]
theorem str_ext {s s' : ByteArray} (h : s.toList = s'.toList) : s = s' := by
  rw [ByteArray.toList_eq, ByteArray.toList_eq] at h
  obtain ⟨⟨a⟩⟩ := s
  obtain ⟨⟨b⟩⟩ := s'
  simp only at h
  rw [h]

set_option maxHeartbeats 800000 in
theorem sameTexts_any (A A' : Option Addr) (n c n' c' : Nat) (r r' : List ByteArray) (w : World) (B B' : Nat) (hv : Rt w B A n r) (hv' : Rt w B' A' n' r') (hn : n ≤ 9223372036854775807) :
    Calls Try.prog 45 #[.slice A n c, .slice A' n' c'] w fun e w' => ∃ b, e = .returned (.bool b) ∧ (b = true ↔ r = r') ∧ ∃ q, w' = w.drewN q := by
  have HL := hide hv
  have HL' := hide hv'
  clear hv hv'
  by_cases hne : n = n'
  · subst hne
    have hb : ((n : Int) != (n : Int)) = false := by simp
    go_enter Try.func45, Try.ntmps45
    go_wp2_with fail
    go_loopw [5] (fun i wr => ∃ k q : Nat, k ≤ n ∧ i = .int .i64 (k : Nat) ∧ wr = w.drewN q ∧ Hid (r.take k = r'.take k)) (fun i _ => n - (intOf i).toNat)
    case atStart => exact ⟨0, 0, Nat.zero_le _, rfl, rfl, rfl⟩
    case round =>
      obtain ⟨k, q, hk, rfl, rfl, HT⟩ := hrel
      by_cases hlt : k < n
      · obtain ⟨b, off, s, rfl, _, hx, _, h0⟩ := HL.out.el hlt
        obtain ⟨b', off', s', rfl, _, hy, _, h0'⟩ := HL'.out.el hlt
        have hkI : (k : Int) < (n : Int) := by omega
        have HX := hide hx
        have HY := hide hy
        clear hx hy
        by_cases hq : s.toList = s'.toList
        · have t1 : (s.toList != s'.toList) = false := by rw [hq]; simp
          have t2 : (s.toList == s'.toList) = true := by rw [hq]; simp
          have heq := str_ext hq
          have HY2 : Hid (r'[k]? = some s) := by show _ = _; rw [heq]; exact HY.out
          have HS := hide (tx_take_succ HT.out HX.out HY2.out)
          clear heq hq
          go_wp2_with fail
          go_quiet (fail)
          go_wp2
          go_roundw
          case rel => exact ⟨k + 1, _, by omega, by go_num, rfl, HS.out⟩
          case measure => simp [intOf]; omega
        · have t1 : (s.toList != s'.toList) = true := by simpa using hq
          have t2 : (s.toList == s'.toList) = false := by simpa using hq
          have HQ := hide hq
          clear hq
          go_wp2_with fail
          go_quiet (fail)
          go_wp2
          go_ret
          refine ⟨false, rfl, ⟨fun h => (by cases h), ?_⟩, _, World.drewN_drewN _ _ _⟩
          rintro rfl
          have := HX.out.symm.trans HY.out
          injection this with this
          exact absurd (by rw [this]) HQ.out
      · obtain rfl : k = n := by omega
        have HF : Hid (r = r') := by
          have h := HT.out
          rw [List.take_of_length_le (by rw [HL.out.len]; exact Nat.le_refl _), List.take_of_length_le (by rw [HL'.out.len]; exact Nat.le_refl _)] at h
          exact h
        go_wp2
        go_ret
        exact ⟨true, rfl, ⟨fun _ => HF.out, fun _ => rfl⟩, q, rfl⟩
  · have hb : ((n : Int) != (n' : Int)) = true := by simp; omega
    have HF : Hid (¬ r = r') := by
      rintro rfl
      exact hne (by rw [← HL.out.len, HL'.out.len])
    go_enter Try.func45, Try.ntmps45
    go_wp2_with fail
    go_ret
    exact ⟨false, rfl, ⟨fun h => (by cases h), fun h => absurd h HF.out⟩, 0, rfl⟩

set_option maxHeartbeats 800000 in
theorem sameRows_any (A A' : Option Addr) (n c n' c' : Nat) (r r' : List (List Cell.Val)) (w : World) (B B' : Nat) (hv : Rrs w B A n r) (hv' : Rrs w B' A' n' r') (hn : n ≤ 9223372036854775807) :
    Calls Try.prog 46 #[.slice A n c, .slice A' n' c'] w fun e w' => ∃ b, e = .returned (.bool b) ∧ (b = true ↔ r = r') ∧ ∃ q, w' = w.drewN q := by
  have HL := hide hv
  have HL' := hide hv'
  clear hv hv'
  by_cases hne : n = n'
  · subst hne
    have hb : ((n : Int) != (n : Int)) = false := by simp
    go_enter Try.func46, Try.ntmps46
    go_wp2_with fail
    go_loopw [5] (fun i wr => ∃ k q : Nat, k ≤ n ∧ i = .int .i64 (k : Nat) ∧ wr = w.drewN q ∧ Hid (r.take k = r'.take k)) (fun i _ => n - (intOf i).toNat)
    case atStart => exact ⟨0, 0, Nat.zero_le _, rfl, rfl, rfl⟩
    case round =>
      obtain ⟨k, q, hk, rfl, rfl, HT⟩ := hrel
      by_cases hlt : k < n
      · obtain ⟨b, off, s, As, cs, rfl, _, hx, h0, hsv, hsm⟩ := HL.out.at hlt
        obtain ⟨b', off', s', As', cs', rfl, _, hy, h0', hsv', hsm'⟩ := HL'.out.at hlt
        have hkI : (k : Int) < (n : Int) := by omega
        have HX := hide hx
        have HY := hide hy
        have HSV := hide hsv
        have HSV' := hide hsv'
        clear hx hy hsv hsv'
        by_cases hq : s = s'
        · have HS := hide (tx_take_succ HT.out HX.out (hq ▸ HY.out))
          have HC : Hid (∀ m, Calls Try.prog 55 #[.slice As s.length cs, .slice As' s'.length cs'] (w.drewN (q + m)) fun e w' => e = .returned (.bool true) ∧ ∃ m', w' = w.drewN (q + m')) := fun m => (sameRow_any As As' s.length cs s'.length cs' s s' (w.drewN (q + m)) B B' (HSV.out.keep fun _ _ => rfl) (HSV'.out.keep fun _ _ => rfl) hsm).mono fun e w' h => by
            obtain ⟨b2, h1, h2, q2, h3⟩ := h
            rw [h2.2 hq] at h1
            exact ⟨h1, m + q2, by rw [h3, World.drewN_drewN, Nat.add_assoc]⟩
          clear hq
          go_wp2_with fail
          go_quiet (first | (go_at_call 55; exact HC.out _))
          go_wp2
          go_roundw
          case rel => exact ⟨k + 1, _, by omega, by go_num, rfl, HS.out⟩
          case measure => simp [intOf]; omega
        · have HC : Hid (∀ m, Calls Try.prog 55 #[.slice As s.length cs, .slice As' s'.length cs'] (w.drewN (q + m)) fun e w' => e = .returned (.bool false) ∧ ∃ m', w' = w.drewN (q + m')) := fun m => (sameRow_any As As' s.length cs s'.length cs' s s' (w.drewN (q + m)) B B' (HSV.out.keep fun _ _ => rfl) (HSV'.out.keep fun _ _ => rfl) hsm).mono fun e w' h => by
            obtain ⟨b2, h1, h2, q2, h3⟩ := h
            have hb2 : b2 = false := by
              cases b2
              · rfl
              · exact absurd (h2.1 rfl) hq
            rw [hb2] at h1
            exact ⟨h1, m + q2, by rw [h3, World.drewN_drewN, Nat.add_assoc]⟩
          have HQ := hide hq
          clear hq
          go_wp2_with fail
          go_quiet (first | (go_at_call 55; exact HC.out _))
          go_wp2
          go_ret
          refine ⟨false, rfl, ⟨fun h => (by cases h), ?_⟩, _, World.drewN_drewN _ _ _⟩
          rintro rfl
          have := HX.out.symm.trans HY.out
          injection this with this
          exact absurd this HQ.out
      · obtain rfl : k = n := by omega
        have HF : Hid (r = r') := by
          have h := HT.out
          rw [List.take_of_length_le (by rw [HL.out.1]; exact Nat.le_refl _), List.take_of_length_le (by rw [HL'.out.1]; exact Nat.le_refl _)] at h
          exact h
        go_wp2
        go_ret
        exact ⟨true, rfl, ⟨fun _ => HF.out, fun _ => rfl⟩, q, rfl⟩
  · have hb : ((n : Int) != (n' : Int)) = true := by simp; omega
    have HF : Hid (¬ r = r') := by
      rintro rfl
      exact hne (by rw [← HL.out.1, HL'.out.1])
    go_enter Try.func46, Try.ntmps46
    go_wp2_with fail
    go_ret
    exact ⟨false, rfl, ⟨fun h => (by cases h), fun h => absurd h HF.out⟩, 0, rfl⟩

theorem Rrs.drewE {w w' : World} {q B n : Nat} {A : Option Addr} {rs : List (List Cell.Val)} (h : Rrs w B A n rs) (e : w' = w.drewN q) : Rrs w' B A n rs := by rw [e]; exact h.keep fun _ _ => rfl
/-- Two answers that are one. -/
theorem sameAnswer_yes (An : Option Addr) (nn cn : Nat) (ns : List ByteArray) (Ar : Option Addr) (nr cr : Nat) (rs : List (List Cell.Val)) (An' : Option Addr) (cn' : Nat) (Ar' : Option Addr) (cr' : Nat) (cnt : Int) (w : World)
    (hn : Rt w w.heap.size An nn ns) (hr : Rrs w w.heap.size Ar nr rs) (hn' : Rt w w.heap.size An' nn ns) (hr' : Rrs w w.heap.size Ar' nr rs) (hnn : nn ≤ 9223372036854775807) (hnr : nr ≤ 9223372036854775807) :
    Calls Try.prog 23 #[.agg #[.slice An nn cn, .slice Ar nr cr, .int .i64 cnt], .agg #[.slice An' nn cn', .slice Ar' nr cr', .int .i64 cnt]] w fun e w' => e = .returned (.bool true) ∧ Below w.heap.size w w' := by
  obtain ⟨w1, hw1⟩ : ∃ w1, w1 = (w.alloc (.cells #[.slice An nn cn, .slice Ar nr cr, .int .i64 cnt] 50)).alloc (.cells #[.slice An' nn cn', .slice Ar' nr cr', .int .i64 cnt] 50) := ⟨_, rfl⟩
  have HB : Hid (Below w.heap.size w w1) := by rw [hw1]; exact ((Below.refl _ _).alloc (Nat.le_refl _) _).alloc (by simp) _
  have HK : Hid (Blk w1 w.heap.size 50 #[.slice An nn cn, .slice Ar nr cr, .int .i64 cnt]) := by rw [hw1]; exact (Blk.new _ _ _).alloc _
  have HK' : Hid (Blk w1 (w.heap.size + 1) 50 #[.slice An' nn cn', .slice Ar' nr cr', .int .i64 cnt]) := by
    show Blk _ _ _ _
    rw [hw1]
    have := Blk.new (w.alloc (.cells #[.slice An nn cn, .slice Ar nr cr, .int .i64 cnt] 50)) 50 #[.slice An' nn cn', .slice Ar' nr cr', .int .i64 cnt]
    simpa using this
  have HN := hide (hn.below HB.out (Nat.le_refl _))
  have HR := hide (hr.below HB.out (Nat.le_refl _))
  have HN' := hide (hn'.below HB.out (Nat.le_refl _))
  have HR' := hide (hr'.below HB.out (Nat.le_refl _))
  clear hn hr hn' hr'
  go_enter Try.func23, Try.ntmps23
  go_upto_region 1 with fail
  rw [← hw1]
  clear hw1
  have a0 := HK.out.cell 0
  have a1 := HK.out.cell 1
  have a2 := HK.out.cell 2
  have b0 := HK'.out.cell 0
  have b1 := HK'.out.cell 1
  have b2 := HK'.out.cell 2
  simp at a0 a1 a2 b0 b1 b2
  go_wp2_with fail
  with_reducible refine (sameTexts_any An An' nn cn nn cn' ns ns _ _ _ HN.out HN'.out hnn).mono ?_
  rintro e w2 ⟨b, rfl, hb, q, hq⟩
  have hbt : b = true := hb.2 rfl
  subst hbt
  have HR2 := hide (HR.out.drewE hq)
  have HR2' := hide (HR'.out.drewE hq)
  have HB2 := hide (Below.drewE HB.out hq)
  have HK2 := hide (HK.out.drewE hq)
  have HK2' := hide (HK'.out.drewE hq)
  clear hq hb a0 a1 a2 b0 b1 b2
  have a0 := HK2.out.cell 0
  have a1 := HK2.out.cell 1
  have a2 := HK2.out.cell 2
  have b0 := HK2'.out.cell 0
  have b1 := HK2'.out.cell 1
  have b2 := HK2'.out.cell 2
  simp at a0 a1 a2 b0 b1 b2
  go_wp2_with fail
  with_reducible refine (sameRows_any Ar Ar' nr cr nr cr' rs rs _ _ _ HR2.out HR2'.out hnr).mono ?_
  rintro e w3 ⟨b, rfl, hb, q, hq⟩
  have hbt : b = true := hb.2 rfl
  subst hbt
  have HB3 := hide (Below.drewE HB2.out hq)
  have HK3 := hide (HK2.out.drewE hq)
  have HK3' := hide (HK2'.out.drewE hq)
  clear hq hb a0 a1 a2 b0 b1 b2
  have a2 := HK3.out.cell 2
  have b2 := HK3'.out.cell 2
  simp at a2 b2
  go_wp2_with fail
  go_ret
  exact ⟨rfl, HB3.out⟩
end Go.Proofs.Ytnieenlnpnaamaa
