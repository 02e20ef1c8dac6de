/-
  The walk of chanceryref18.Row. Conditions: the row reads as a list of values.
-/
import Derived.Test.YtnieenlnpnaamaaRow
namespace Go.Proofs.Ytnieenlnpnaamaa
open Go.RowKit

set_option maxRecDepth 8000 in
set_option maxHeartbeats 4000000 in
theorem refRow_any (A : Option Addr) (n c : Nat) (r : List Cell.Val) (w : World) (hv : Rv w w.heap.size A n r) (hn : n ≤ 9223372036854775807) :
    Calls Try.prog 35 #[.slice A n c] w (BE w (Cell.row r)) := by
  have HV := hide hv
  have HL := hide hv.len
  clear hv
  go_enter Try.func35, Try.ntmps35
  go_wp2_with fail
  go_loopw [4] (fun i wr => ∃ k : Nat, k ≤ n ∧ i = .int .i64 (k : Nat) ∧ Hid ((r.take k).all Cell.rightB = true) ∧ Below w.heap.size w wr) (fun i _ => n - (intOf i).toNat)
  case atStart => exact ⟨0, Nat.zero_le _, rfl, rfl, Below.refl _ _⟩
  case round =>
    obtain ⟨k, hk, rfl, HA, hbel⟩ := hrel
    have HB := hide hbel
    have hsz := hbel.size
    clear hbel
    by_cases hlt : k < n
    · obtain ⟨b, off, kd, nn, ss, rfl, hb, hat, c0, c1, c2, hss, hn1, hn2⟩ := (HV.out.below HB.out (Nat.le_refl _)).at hlt
      have HAt := hide hat
      clear hat
      have hkI : (k : Int) < (n : Int) := by omega
      have hbr : b < wr.heap.size := by omega
      go_wp2_with fail
      refine (refRight_any kd nn ss _).mono ?_
      rintro e w1 ⟨rfl, hb1⟩
      have HB1 := hide (HB.out.trans (hb1.mono hsz))
      clear hb1
      cases hr : Cell.rightB ⟨kd, nn, ss⟩ with
      | false =>
        have HP := hide (Cell.row_bad (Cell.all_rstop HAt.out hr))
        clear hr
        go_wp2_with fail
        go_ret2
        exact BE.err 2 HP.out HB1.out
      | true =>
        have HA2 := hide (Cell.all_rnext HAt.out HA.out hr)
        clear hr
        go_wp2_with fail
        go_roundw
        case rel => exact ⟨k + 1, by omega, by go_num, HA2.out, HB1.out⟩
        case measure => simp [intOf]; omega
    · obtain rfl : k = n := by omega
      have hall := HA.out
      rw [List.take_of_length_le (by rw [HL.out]; exact Nat.le_refl _)] at hall
      have HAll := hide hall
      clear hall HA
      by_cases hmany : 12 < k
      · have HP := hide (Cell.row_many HAll.out (by rw [HL.out]; exact hmany))
        have t1 : decide ((12 : Int) < (k : Int)) = true := by simp; omega
        go_wp2_with fail
        go_ret2
        exact BE.err 3 HP.out HB.out
      · have t1 : decide ((12 : Int) < (k : Int)) = false := by simp; omega
        obtain ⟨n, hnn⟩ : ∃ n, n = k := ⟨_, rfl⟩
        subst hnn
        obtain ⟨w0, hw0⟩ : ∃ w0, w0 = wr := ⟨_, rfl⟩
        subst hw0
        have HC : Hid (#[Value.int .u8 (n : Int)] = ([Cell.byteOf n].map B8).toArray) := by
          show _ = _
          rw [byte_of n (n : Int) (by omega)]
          rfl
        have HLit := hide (own_lit w0 5 [Cell.byteOf n] 1 rfl (by unfold maxLen; omega))
        rw [← HC.out] at HLit
        go_wp2_with fail
        go_loopw [5, 6] (fun v i wr => ∃ k m : Nat, k ≤ n ∧ i = .int .i64 (k : Nat) ∧ m = 1 + (Cell.flat (r.take k)).length ∧ m ≤ 1 + 202 * k ∧ wr.ownsRow w.heap.size 5 1 v m ((Cell.byteOf n :: Cell.flat (r.take k)).map B8) ∧ Below w.heap.size w wr) (fun _ i _ => n - (intOf i).toNat)
        case atStart => exact ⟨0, 1, Nat.zero_le _, rfl, rfl, by omega, own_base HLit.out hsz, HB.out.alloc hsz _⟩
        case round =>
          obtain ⟨k, m, hk2, rfl, hm, hml, hown, hbel⟩ := hrel
          have HM := hide hm
          have HO2 := hide hown
          have HB2 := hide hbel
          have hsz2 := hbel.size
          clear hm hown hbel
          by_cases hlt : k < n
          · obtain ⟨b, off, kd, nn, ss, rfl, hb, hat, c0, c1, c2, hss, hn1, hn2⟩ := (HV.out.below HB2.out (Nat.le_refl _)).at hlt
            have hr := Cell.all_rat hat HAll.out
            have hk5 : kd.toNat ≤ 5 := Cell.right_kind hr
            have hlen := Cell.bytes_len hr
            have HE := hide (Cell.flat_take hat)
            clear hat
            have hkI : (k : Int) < (n : Int) := by omega
            have hbr : b < wr.heap.size := by omega
            have HX2 : Hid (Blk (wr.alloc (.cells #[.int .u8 (kd.toNat : Int), .int .i64 nn, .string ss] 83)) wr.heap.size 83 #[.int .u8 (kd.toNat : Int), .int .i64 nn, .string ss]) := Blk.new _ _ _
            have HO2' := hide (HO2.out.alloc (.cells #[.int .u8 (kd.toNat : Int), .int .i64 nn, .string ss] 83))
            have HB2' := hide (HB2.out.alloc hsz2 (.cells #[.int .u8 (kd.toNat : Int), .int .i64 nn, .string ss] 83))
            by_cases h0 : kd.toNat = 0
            · have HT : Hid (Cell.bytes ⟨kd, nn, ss⟩ = kd :: []) := by show _ = _; unfold Cell.bytes Cell.tail; simp only [h0]; try rfl
              have t11 : ((kd.toNat : Int) == 1) = false := by simp; omega
              have t12 : ((kd.toNat : Int) == 2) = false := by simp; omega
              have t13 : ((kd.toNat : Int) == 3) = false := by simp; omega
              have t14 : ((kd.toNat : Int) == 4) = false := by simp; omega
              have t15 : ((kd.toNat : Int) == 5) = false := by simp; omega
              clear hr hlen hk5 h0
              go_wp2_with (at_builtin; refine wpList_appL bt rfl (.tmp 37) (.tmp 40) rfl w.heap.size _ (m) (Cell.byteOf n :: Cell.flat (r.take k)) rfl HO2'.out _ 1 1 [kd] rfl (by simp) rfl rfl (by omega) (by simp; omega) ?_; intro v3 w3 hown3 hb3 hg3; have HO3 := hide hown3; have HB3 := hide (HB2'.out.trans hb3); have HX3 := hide (box_next HX2.out HO2'.out (show (5 : TypeId) ≠ 83 by decide) hg3); have hz3 := HB3.out.size; have hx3 := HX3.out.lt; have d30 : w3.cell? ⟨wr.heap.size, 0, none⟩ = some (.int .u8 (kd.toNat : Int)) := HX3.out.cell 0; have d31 : w3.cell? ⟨wr.heap.size, 1, none⟩ = some (.int .i64 nn) := HX3.out.cell 1; have d32 : w3.cell? ⟨wr.heap.size, 2, none⟩ = some (.string ss) := HX3.out.cell 2; clear hown3 hb3 hg3)
              go_roundw
              case rel => exact ⟨k + 1, m + 1, by omega, by go_num, by rw [HE.out, HT.out, HM.out]; simp; omega, by omega, by rw [HE.out, HT.out]; exact HO3.out, HB3.out⟩
              case measure => simp [intOf]; omega
            by_cases h1 : kd.toNat = 1
            · have HT : Hid (Cell.bytes ⟨kd, nn, ss⟩ = kd :: [Cell.byteOf (nn % 256).toNat]) := by show _ = _; unfold Cell.bytes Cell.tail; simp only [h1]; try rfl
              have t11 : ((kd.toNat : Int) == 1) = true := by simp; omega
              have t12 : ((kd.toNat : Int) == 2) = false := by simp; omega
              have t13 : ((kd.toNat : Int) == 3) = false := by simp; omega
              have t14 : ((kd.toNat : Int) == 4) = false := by simp; omega
              have t15 : ((kd.toNat : Int) == 5) = false := by simp; omega
              clear hr hlen hk5 h0 h1
              have HC1 : Hid (#[Value.int .u8 (IntKind.u8.wrap nn)] = ([Cell.byteOf (nn % 256).toNat].map B8).toArray) := by show _ = _; rw [u8_byte]; rfl
              go_wp2_with (first | (at_builtin; refine wpList_appL bt rfl (.tmp 37) (.tmp 40) rfl w.heap.size _ (m) (Cell.byteOf n :: Cell.flat (r.take k)) rfl HO2'.out _ 1 1 [kd] rfl (by simp) rfl rfl (by omega) (by simp; omega) ?_; intro v3 w3 hown3 hb3 hg3; have HO3 := hide hown3; have HB3 := hide (HB2'.out.trans hb3); have HX3 := hide (box_next HX2.out HO2'.out (show (5 : TypeId) ≠ 83 by decide) hg3); have hz3 := HB3.out.size; have hx3 := HX3.out.lt; have d30 : w3.cell? ⟨wr.heap.size, 0, none⟩ = some (.int .u8 (kd.toNat : Int)) := HX3.out.cell 0; have d31 : w3.cell? ⟨wr.heap.size, 1, none⟩ = some (.int .i64 nn) := HX3.out.cell 1; have d32 : w3.cell? ⟨wr.heap.size, 2, none⟩ = some (.string ss) := HX3.out.cell 2; clear hown3 hb3 hg3) | (at_builtin; refine wpList_appL bt rfl (.tmp 46) (.tmp 50) rfl w.heap.size _ (m + 1) ((Cell.byteOf n :: Cell.flat (r.take k)) ++ [kd]) rfl HO3.out _ 1 1 [Cell.byteOf (nn % 256).toNat] rfl (by simp) rfl HC1.out (by omega) (by omega) ?_; intro v4 w4 hown4 hb4 hg4; have HO4 := hide hown4; have HB4 := hide (HB3.out.trans hb4); have HX4 := hide (box_next HX3.out HO3.out (show (5 : TypeId) ≠ 83 by decide) hg4); have hz4 := HB4.out.size; have hx4 := HX4.out.lt; have d40 : w4.cell? ⟨wr.heap.size, 0, none⟩ = some (.int .u8 (kd.toNat : Int)) := HX4.out.cell 0; have d41 : w4.cell? ⟨wr.heap.size, 1, none⟩ = some (.int .i64 nn) := HX4.out.cell 1; have d42 : w4.cell? ⟨wr.heap.size, 2, none⟩ = some (.string ss) := HX4.out.cell 2; clear hown4 hb4 hg4))
              go_roundw
              case rel => exact ⟨k + 1, m + 1 + 1, by omega, by go_num, by rw [HE.out, HT.out, HM.out]; simp; omega, by omega, by rw [HE.out, HT.out]; have := HO4.out; rw [List.append_assoc] at this; exact this, HB4.out⟩
              case measure => simp [intOf]; omega
            by_cases h2 : kd.toNat = 2
            · have HT : Hid (Cell.bytes ⟨kd, nn, ss⟩ = kd :: Cell.be8 (Cell.u64 nn)) := by show _ = _; unfold Cell.bytes Cell.tail; simp only [h2]; try rfl
              have t11 : ((kd.toNat : Int) == 1) = false := by simp; omega
              have t12 : ((kd.toNat : Int) == 2) = true := by simp; omega
              have t13 : ((kd.toNat : Int) == 3) = false := by simp; omega
              have t14 : ((kd.toNat : Int) == 4) = false := by simp; omega
              have t15 : ((kd.toNat : Int) == 5) = false := by simp; omega
              clear hr hlen hk5 h0 h1 h2
              go_wp2_with (at_builtin; refine wpList_appL bt rfl (.tmp 37) (.tmp 40) rfl w.heap.size _ (m) (Cell.byteOf n :: Cell.flat (r.take k)) rfl HO2'.out _ 1 1 [kd] rfl (by simp) rfl rfl (by omega) (by simp; omega) ?_; intro v3 w3 hown3 hb3 hg3; have HO3 := hide hown3; have HB3 := hide (HB2'.out.trans hb3); have HX3 := hide (box_next HX2.out HO2'.out (show (5 : TypeId) ≠ 83 by decide) hg3); have hz3 := HB3.out.size; have hx3 := HX3.out.lt; have d30 : w3.cell? ⟨wr.heap.size, 0, none⟩ = some (.int .u8 (kd.toNat : Int)) := HX3.out.cell 0; have d31 : w3.cell? ⟨wr.heap.size, 1, none⟩ = some (.int .i64 nn) := HX3.out.cell 1; have d32 : w3.cell? ⟨wr.heap.size, 2, none⟩ = some (.string ss) := HX3.out.cell 2; clear hown3 hb3 hg3)
              rw [wrap_u64]
              refine (eight_any _ _ (Cell.u64_lt nn)).mono ?_
              rintro e w5 ⟨v5, rfl, hown5, hb5⟩
              obtain ⟨A5, c5, rfl⟩ := own_sl hown5
              have HR5 := hide (Rb.own hown5)
              have HO5 := hide (own_below HO3.out hb5)
              have HB5 := hide (HB3.out.trans (hb5.mono (by omega)))
              have hz5 := HB5.out.size
              clear hown5 hb5
              go_wp2_with (at_builtin; refine wpList_app _ bt rfl (.tmp 55) (.tmp 59) rfl w.heap.size _ (m + 1) ((Cell.byteOf n :: Cell.flat (r.take k)) ++ [kd]) rfl HO5.out _ A5 8 c5 _ rfl HR5.out (by omega) (by omega) ?_; intro v4 w4 hown4 hb4 _; have HO4 := hide hown4; have HB4 := hide (HB5.out.trans hb4); clear hown4 hb4)
              go_roundw
              case rel => exact ⟨k + 1, m + 1 + 8, by omega, by go_num, by rw [HE.out, HT.out, HM.out]; simp [Cell.be8]; omega, by omega, by rw [HE.out, HT.out]; have := HO4.out; rw [List.append_assoc] at this; exact this, HB4.out⟩
              case measure => simp [intOf]; omega
            by_cases h3 : kd.toNat = 3
            · have HT : Hid (Cell.bytes ⟨kd, nn, ss⟩ = kd :: Cell.be8 (Cell.u64 nn)) := by show _ = _; unfold Cell.bytes Cell.tail; simp only [h3]; try rfl
              have t11 : ((kd.toNat : Int) == 1) = false := by simp; omega
              have t12 : ((kd.toNat : Int) == 2) = false := by simp; omega
              have t13 : ((kd.toNat : Int) == 3) = true := by simp; omega
              have t14 : ((kd.toNat : Int) == 4) = false := by simp; omega
              have t15 : ((kd.toNat : Int) == 5) = false := by simp; omega
              clear hr hlen hk5 h0 h1 h2 h3
              go_wp2_with (at_builtin; refine wpList_appL bt rfl (.tmp 37) (.tmp 40) rfl w.heap.size _ (m) (Cell.byteOf n :: Cell.flat (r.take k)) rfl HO2'.out _ 1 1 [kd] rfl (by simp) rfl rfl (by omega) (by simp; omega) ?_; intro v3 w3 hown3 hb3 hg3; have HO3 := hide hown3; have HB3 := hide (HB2'.out.trans hb3); have HX3 := hide (box_next HX2.out HO2'.out (show (5 : TypeId) ≠ 83 by decide) hg3); have hz3 := HB3.out.size; have hx3 := HX3.out.lt; have d30 : w3.cell? ⟨wr.heap.size, 0, none⟩ = some (.int .u8 (kd.toNat : Int)) := HX3.out.cell 0; have d31 : w3.cell? ⟨wr.heap.size, 1, none⟩ = some (.int .i64 nn) := HX3.out.cell 1; have d32 : w3.cell? ⟨wr.heap.size, 2, none⟩ = some (.string ss) := HX3.out.cell 2; clear hown3 hb3 hg3)
              rw [wrap_u64]
              refine (eight_any _ _ (Cell.u64_lt nn)).mono ?_
              rintro e w5 ⟨v5, rfl, hown5, hb5⟩
              obtain ⟨A5, c5, rfl⟩ := own_sl hown5
              have HR5 := hide (Rb.own hown5)
              have HO5 := hide (own_below HO3.out hb5)
              have HB5 := hide (HB3.out.trans (hb5.mono (by omega)))
              have hz5 := HB5.out.size
              clear hown5 hb5
              go_wp2_with (at_builtin; refine wpList_app _ bt rfl (.tmp 55) (.tmp 59) rfl w.heap.size _ (m + 1) ((Cell.byteOf n :: Cell.flat (r.take k)) ++ [kd]) rfl HO5.out _ A5 8 c5 _ rfl HR5.out (by omega) (by omega) ?_; intro v4 w4 hown4 hb4 _; have HO4 := hide hown4; have HB4 := hide (HB5.out.trans hb4); clear hown4 hb4)
              go_roundw
              case rel => exact ⟨k + 1, m + 1 + 8, by omega, by go_num, by rw [HE.out, HT.out, HM.out]; simp [Cell.be8]; omega, by omega, by rw [HE.out, HT.out]; have := HO4.out; rw [List.append_assoc] at this; exact this, HB4.out⟩
              case measure => simp [intOf]; omega
            by_cases h4 : kd.toNat = 4
            · have HT : Hid (Cell.bytes ⟨kd, nn, ss⟩ = kd :: Cell.byteOf ss.size :: ss.data.toList) := by show _ = _; unfold Cell.bytes Cell.tail; simp only [h4]; try rfl
              have t11 : ((kd.toNat : Int) == 1) = false := by simp; omega
              have t12 : ((kd.toNat : Int) == 2) = false := by simp; omega
              have t13 : ((kd.toNat : Int) == 3) = false := by simp; omega
              have t14 : ((kd.toNat : Int) == 4) = true := by simp; omega
              have t15 : ((kd.toNat : Int) == 5) = false := by simp; omega
              have hs200 : ss.size ≤ 200 := by rw [HT.out] at hlen; simp only [List.length_cons, str_len] at hlen; omega
              clear hr hlen hk5 h0 h1 h2 h3 h4
              have HC1 : Hid (#[Value.int .u8 (ss.size : Int)] = ([Cell.byteOf ss.size].map B8).toArray) := by show _ = _; rw [byte_of ss.size (ss.size : Int) (by omega)]; rfl
              go_wp2_with (first | (at_builtin; refine wpList_appL bt rfl (.tmp 37) (.tmp 40) rfl w.heap.size _ (m) (Cell.byteOf n :: Cell.flat (r.take k)) rfl HO2'.out _ 1 1 [kd] rfl (by simp) rfl rfl (by omega) (by simp; omega) ?_; intro v3 w3 hown3 hb3 hg3; have HO3 := hide hown3; have HB3 := hide (HB2'.out.trans hb3); have HX3 := hide (box_next HX2.out HO2'.out (show (5 : TypeId) ≠ 83 by decide) hg3); have hz3 := HB3.out.size; have hx3 := HX3.out.lt; have d30 : w3.cell? ⟨wr.heap.size, 0, none⟩ = some (.int .u8 (kd.toNat : Int)) := HX3.out.cell 0; have d31 : w3.cell? ⟨wr.heap.size, 1, none⟩ = some (.int .i64 nn) := HX3.out.cell 1; have d32 : w3.cell? ⟨wr.heap.size, 2, none⟩ = some (.string ss) := HX3.out.cell 2; clear hown3 hb3 hg3) | (at_builtin; refine wpList_appL bt rfl (.tmp 64) (.tmp 69) rfl w.heap.size _ (m + 1) ((Cell.byteOf n :: Cell.flat (r.take k)) ++ [kd]) rfl HO3.out _ 1 1 [Cell.byteOf ss.size] rfl (by simp) rfl HC1.out (by omega) (by omega) ?_; intro v4 w4 hown4 hb4 hg4; have HO4 := hide hown4; have HB4 := hide (HB3.out.trans hb4); have HX4 := hide (box_next HX3.out HO3.out (show (5 : TypeId) ≠ 83 by decide) hg4); have hz4 := HB4.out.size; have hx4 := HX4.out.lt; have d40 : w4.cell? ⟨wr.heap.size, 0, none⟩ = some (.int .u8 (kd.toNat : Int)) := HX4.out.cell 0; have d41 : w4.cell? ⟨wr.heap.size, 1, none⟩ = some (.int .i64 nn) := HX4.out.cell 1; have d42 : w4.cell? ⟨wr.heap.size, 2, none⟩ = some (.string ss) := HX4.out.cell 2; clear hown4 hb4 hg4) | (at_builtin; refine wpList_appS _ bt Try.underlying9 rfl (.tmp 71) (.tmp 73) rfl w.heap.size _ (m + 1 + 1) ((Cell.byteOf n :: Cell.flat (r.take k)) ++ [kd] ++ [Cell.byteOf ss.size]) rfl HO4.out ss rfl (by omega) (by omega) ?_; intro v5 w5 hown5 hb5 _; have HO5 := hide hown5; have HB5 := hide (HB4.out.trans hb5); clear hown5 hb5))
              go_roundw
              case rel => exact ⟨k + 1, m + 1 + 1 + ss.size, by omega, by go_num, by rw [HE.out, HT.out, HM.out]; simp; omega, by omega, by rw [HE.out, HT.out]; have := HO5.out; simp only [List.append_assoc] at this; exact this, HB5.out⟩
              case measure => simp [intOf]; omega
            by_cases h5 : kd.toNat = 5
            · have HT : Hid (Cell.bytes ⟨kd, nn, ss⟩ = kd :: Cell.byteOf ss.size :: ss.data.toList) := by show _ = _; unfold Cell.bytes Cell.tail; simp only [h5]; try rfl
              have t11 : ((kd.toNat : Int) == 1) = false := by simp; omega
              have t12 : ((kd.toNat : Int) == 2) = false := by simp; omega
              have t13 : ((kd.toNat : Int) == 3) = false := by simp; omega
              have t14 : ((kd.toNat : Int) == 4) = false := by simp; omega
              have t15 : ((kd.toNat : Int) == 5) = true := by simp; omega
              have hs200 : ss.size ≤ 200 := by rw [HT.out] at hlen; simp only [List.length_cons, str_len] at hlen; omega
              clear hr hlen hk5 h0 h1 h2 h3 h4 h5
              have HC1 : Hid (#[Value.int .u8 (ss.size : Int)] = ([Cell.byteOf ss.size].map B8).toArray) := by show _ = _; rw [byte_of ss.size (ss.size : Int) (by omega)]; rfl
              go_wp2_with (first | (at_builtin; refine wpList_appL bt rfl (.tmp 37) (.tmp 40) rfl w.heap.size _ (m) (Cell.byteOf n :: Cell.flat (r.take k)) rfl HO2'.out _ 1 1 [kd] rfl (by simp) rfl rfl (by omega) (by simp; omega) ?_; intro v3 w3 hown3 hb3 hg3; have HO3 := hide hown3; have HB3 := hide (HB2'.out.trans hb3); have HX3 := hide (box_next HX2.out HO2'.out (show (5 : TypeId) ≠ 83 by decide) hg3); have hz3 := HB3.out.size; have hx3 := HX3.out.lt; have d30 : w3.cell? ⟨wr.heap.size, 0, none⟩ = some (.int .u8 (kd.toNat : Int)) := HX3.out.cell 0; have d31 : w3.cell? ⟨wr.heap.size, 1, none⟩ = some (.int .i64 nn) := HX3.out.cell 1; have d32 : w3.cell? ⟨wr.heap.size, 2, none⟩ = some (.string ss) := HX3.out.cell 2; clear hown3 hb3 hg3) | (at_builtin; refine wpList_appL bt rfl (.tmp 64) (.tmp 69) rfl w.heap.size _ (m + 1) ((Cell.byteOf n :: Cell.flat (r.take k)) ++ [kd]) rfl HO3.out _ 1 1 [Cell.byteOf ss.size] rfl (by simp) rfl HC1.out (by omega) (by omega) ?_; intro v4 w4 hown4 hb4 hg4; have HO4 := hide hown4; have HB4 := hide (HB3.out.trans hb4); have HX4 := hide (box_next HX3.out HO3.out (show (5 : TypeId) ≠ 83 by decide) hg4); have hz4 := HB4.out.size; have hx4 := HX4.out.lt; have d40 : w4.cell? ⟨wr.heap.size, 0, none⟩ = some (.int .u8 (kd.toNat : Int)) := HX4.out.cell 0; have d41 : w4.cell? ⟨wr.heap.size, 1, none⟩ = some (.int .i64 nn) := HX4.out.cell 1; have d42 : w4.cell? ⟨wr.heap.size, 2, none⟩ = some (.string ss) := HX4.out.cell 2; clear hown4 hb4 hg4) | (at_builtin; refine wpList_appS _ bt Try.underlying9 rfl (.tmp 71) (.tmp 73) rfl w.heap.size _ (m + 1 + 1) ((Cell.byteOf n :: Cell.flat (r.take k)) ++ [kd] ++ [Cell.byteOf ss.size]) rfl HO4.out ss rfl (by omega) (by omega) ?_; intro v5 w5 hown5 hb5 _; have HO5 := hide hown5; have HB5 := hide (HB4.out.trans hb5); clear hown5 hb5))
              go_roundw
              case rel => exact ⟨k + 1, m + 1 + 1 + ss.size, by omega, by go_num, by rw [HE.out, HT.out, HM.out]; simp; omega, by omega, by rw [HE.out, HT.out]; have := HO5.out; simp only [List.append_assoc] at this; exact this, HB5.out⟩
              case measure => simp [intOf]; omega
            exact absurd hk5 (by omega)
          · obtain rfl : k = n := by omega
            rw [List.take_of_length_le (by rw [HL.out]; exact Nat.le_refl _)] at HM HO2
            obtain ⟨A6, c6, rfl⟩ := own_sl HO2.out
            by_cases hlong : 480 < m
            · have HP := hide (Cell.row_long HAll.out (by rw [HL.out]; exact hmany) (by rw [← HM.out]; exact hlong))
              have t2 : decide ((480 : Int) < (m : Int)) = true := by simp; omega
              go_wp2_with fail
              go_ret2
              exact BE.err 3 HP.out HB2.out
            · have HP := hide (Cell.row_fine HAll.out (by rw [HL.out]; exact hmany) (by rw [← HM.out]; exact hlong))
              have t2 : decide ((480 : Int) < (m : Int)) = false := by simp; omega
              rw [HL.out] at HP
              go_wp2_with fail
              go_ret2
              exact BE.mk' HP.out (by rw [HM.out]; simp; omega) HO2.out HB2.out

end Go.Proofs.Ytnieenlnpnaamaa
