/-
  The walks of the reference of layer 13: text, version key, its parts. Conditions: slices read as lists of bytes, of at most 2^45 bytes.
-/
import Derived.Test.YtlkeibpaleiemaaVerPart
namespace Go.Proofs.Ytlkeibpaleiemaa
open Go.RowKit

theorem zero_byte (ch : UInt8) (h : ¬ ch = 0) : ((ch.toNat : Int) == 0) = false := by
  simp only [beq_eq_false_iff_ne, ne_eq]
  intro h'
  exact h (UInt8.toNat_inj.1 (by simpa using h'))

set_option maxHeartbeats 400000 in
theorem refText_any (A : Option Addr) (n c : Nat) (l : List UInt8) (last : UInt8) (w : World) (hl : Rb w w.heap.size A n l) (hn : n ≤ 35184372088832) :
    Calls Try.prog 19 #[.slice A n c, .int .u8 (last.toNat : Int)] w fun e w' => ∃ v, e = .returned v ∧ w'.ownsRow w.heap.size 5 1 v (vtext l last).length ((vtext l last).map B8) ∧ Below w.heap.size w w' := by
  have HL := hide hl
  have HN := hide hl.len
  clear hl
  go_enter Try.func19, Try.ntmps19
  go_wp2_with fail
  go_loopw [5, 6] (fun v i wr => ∃ k : Nat, k ≤ n ∧ i = .int .i64 (k : Nat) ∧ wr.ownsRow w.heap.size 5 1 v (esc (l.take k)).length ((esc (l.take k)).map B8) ∧ Below w.heap.size w wr) (fun _ i _ => n - (intOf i).toNat)
  case atStart => exact ⟨0, Nat.zero_le _, rfl, own_nil _ _ _ _, Below.refl _ _⟩
  case round =>
    obtain ⟨k, hk, rfl, hown, hbel⟩ := hrel
    have HO := hide hown
    have HB := hide hbel
    have hsz := hbel.size
    have hel := esc_take_len l k (by rw [HN.out]; exact hk)
    clear hown hbel
    by_cases hlt : k < n
    · obtain ⟨b, off, ch, rfl, hb, hch, hcell⟩ := (HL.out.below HB.out (Nat.le_refl _)).at hlt
      have HE := hide (esc_take l k ch hch)
      clear hch
      by_cases hz : ch = 0
      · subst hz
        go_wp2_with (first
          | (at_builtin; refine wpList_appL bt rfl (.tmp 13) (.tmp 18) rfl w.heap.size _ _ (esc (l.take k)) rfl HO.out _ 1 1 [0] rfl rfl rfl rfl (by omega) hsz ?_; intro v3 w3 hown3 hb3 _; have HO3 := hide hown3; have HB3 := hide (HB.out.trans hb3); have hc3 : w3.cell? ⟨b, off + k, none⟩ = some (.int .u8 0) := (HB3.out.cell (by exact hb)).trans ((HB.out.cell (by exact hb)).symm.trans hcell); clear hown3 hb3)
          | (at_builtin; refine wpList_appL bt rfl (.tmp 25) (.tmp 26) rfl w.heap.size _ _ (esc (l.take k) ++ [0]) rfl HO3.out _ 1 1 [255] rfl rfl rfl rfl (by omega) HB3.out.size ?_; intro v4 w4 hown4 hb4 _; have HO4 := hide hown4; have HB4 := hide (HB3.out.trans hb4); clear hown4 hb4))
        go_roundw
        case rel =>
          refine ⟨k + 1, by omega, by go_num, ?_, HB4.out⟩
          rw [HE.out, if_pos rfl]
          have := HO4.out
          rw [List.append_assoc] at this
          simpa using this
        case measure => simp [intOf]; omega
      · have hne := zero_byte ch hz
        go_wp2_with (at_builtin; refine wpList_appL bt rfl (.tmp 13) (.tmp 18) rfl w.heap.size _ _ (esc (l.take k)) rfl HO.out _ 1 1 [ch] rfl rfl rfl rfl (by omega) hsz ?_; intro v3 w3 hown3 hb3 _; have HO3 := hide hown3; have HB3 := hide (HB.out.trans hb3); have hc3 : w3.cell? ⟨b, off + k, none⟩ = some (.int .u8 (ch.toNat : Int)) := (HB3.out.cell (by exact hb)).trans ((HB.out.cell (by exact hb)).symm.trans hcell); clear hown3 hb3)
        go_roundw
        case rel =>
          refine ⟨k + 1, by omega, by go_num, ?_, HB3.out⟩
          rw [HE.out, if_neg hz]
          simpa using HO3.out
        case measure => simp [intOf]; omega
    · obtain rfl : k = n := by omega
      have HT : Hid (l.take k = l) := List.take_of_length_le (by rw [HN.out]; exact Nat.le_refl _)
      go_wp2_with (at_builtin; refine wpList_appL bt rfl (.tmp 28) (.tmp 30) rfl w.heap.size _ _ (esc (l.take k)) rfl HO.out _ 2 2 [0, last] rfl rfl rfl rfl (by omega) hsz ?_; intro v3 w3 hown3 hb3 _; have HO3 := hide hown3; have HB3 := hide (HB.out.trans hb3); clear hown3 hb3)
      go_ret
      refine ⟨_, rfl, ?_, HB3.out⟩
      have := HO3.out
      rw [HT.out] at this
      simpa [vtext] using this

/-- The bytes that are still to come. -/
theorem be_step (j r : Nat) : be (j + 1) r = UInt8.ofNat (r / 256 ^ j) :: be j (r % 256 ^ j) := rfl
theorem quo_byte (r q : Nat) (_h : r < 18446744073709551616) : Value.int .u8 (IntKind.u64.wrap ((r : Int) / (q : Int)) % 256) = B8 (UInt8.ofNat (r / q)) := by
  have hle : r / q ≤ r := Nat.div_le_self _ _
  have e1 : (r : Int) / (q : Int) = ((r / q : Nat) : Int) := by simp
  rw [e1, IntKind.wrap_u64, B8]
  generalize r / q = d at *
  rw [show ((d : Int) % 18446744073709551616 % 256) = ((d % 256 : Nat) : Int) by omega]
  simp

set_option maxHeartbeats 400000 in
theorem refJoin_yes (A : Option Addr) (k c : Nat) (l : List UInt8) (n : Nat) (w : World) (hl : Rb w w.heap.size A k l) (h1 : 1 ≤ k) (h2 : k ≤ 128) (h3 : n ≤ 4611686018427387904) :
    Calls Try.prog 17 #[.slice A k c, .int .i64 (n : Int)] w fun e w' => ∃ v, e = .returned (.tuple #[v, .int .i64 0]) ∧ w'.ownsRow w.heap.size 5 1 v (vjoin l n).length ((vjoin l n).map B8) ∧ Below w.heap.size w w' := by
  have HL := hide hl
  clear hl
  have he2 := (esc_len l).2
  rw [HL.out.len] at he2
  have hvt : (vtext l 0).length = (esc l).length + 2 := by simp [vtext]
  have hvt2 : (vtext l 0).length ≤ 258 := by omega
  clear hvt
  go_enter Try.func17, Try.ntmps17
  go_wp2_with fail
  refine (refText_any A k c l 0 _ HL.out (by omega)).mono ?_
  rintro e w1 ⟨v, rfl, hown, hb⟩
  have HO := hide hown
  have HB := hide hb
  clear hown hb
  obtain ⟨X, hX⟩ : ∃ X, X = 18446744073709551615 - n := ⟨_, rfl⟩
  have hXl : X < 18446744073709551616 := by omega
  have hXi : (18446744073709551615 : Int) - (n : Int) = (X : Int) := by omega
  have HX := hide hX
  clear hX
  go_wp2_with fail
  go_loopw [6, 7, 8, 9] (fun v x p i wr => ∃ (j r q : Nat) (P : List UInt8), j ≤ 8 ∧ i = .int .i64 (j : Nat) ∧ x = .int .u64 (r : Nat) ∧ p = .int .u64 (q : Nat) ∧ r < 18446744073709551616 ∧ (j < 8 → 0 < q ∧ q ≤ 72057594037927936) ∧ Hid (j < 8 → q = 256 ^ (7 - j)) ∧ P.length = j ∧ Hid (P ++ be (8 - j) r = be 8 X) ∧ wr.ownsRow w.heap.size 5 1 v ((vtext l 0).length + j) ((vtext l 0 ++ P).map B8) ∧ Below w.heap.size w wr) (fun _ _ _ i _ => 8 - (intOf i).toNat)
  case atStart => exact ⟨0, X, 72057594037927936, [], by omega, rfl, rfl, rfl, hXl, fun _ => by omega, fun _ => rfl, rfl, rfl, by simpa using HO.out, HB.out⟩
  case round =>
    obtain ⟨j, r, q, P, hj, rfl, rfl, rfl, hr, hq, HQ, hPl, HP, hown, hbel⟩ := hrel
    have HOr := hide hown
    have HBr := hide hbel
    have hsz := hbel.size
    have HPl := hide hPl
    clear hown hbel hPl
    by_cases hlt : j < 8
    · obtain ⟨hq0, hq1⟩ := hq hlt
      clear hq
      have hne : ¬ (q : Int) = 0 := by omega
      go_wp2_with (at_builtin; refine wpList_appL bt rfl (.tmp 35) (.tmp 40) rfl w.heap.size _ _ (vtext l 0 ++ P) rfl HOr.out _ 1 1 [UInt8.ofNat (r / q)] rfl rfl rfl (congrArg (fun x => #[x]) (quo_byte r q hr)) (by omega) hsz ?_; intro v3 w3 hown3 hb3 _; have HO3 := hide hown3; have HB3 := hide (HBr.out.trans hb3); clear hown3 hb3)
      have hrq : r % q < q := Nat.mod_lt _ hq0
      go_roundw
      case rel =>
        refine ⟨j + 1, r % q, q / 256, P ++ [UInt8.ofNat (r / q)], by omega, by go_num, int_eq (by simp), int_eq (by simp), by omega, fun h => ?_, fun h => ?_, by simp [HPl.out], ?_, ?_, HB3.out⟩
        · have := HQ.out hlt
          have h7 : 7 - j = (7 - (j + 1)) + 1 := by omega
          rw [h7, Nat.pow_succ] at this
          have hp : 0 < 256 ^ (7 - (j + 1)) := Nat.pow_pos (by omega)
          rw [this, Nat.mul_div_cancel _ (by omega)]
          omega
        · have := HQ.out hlt
          have h7 : 7 - j = (7 - (j + 1)) + 1 := by omega
          rw [h7, Nat.pow_succ] at this
          rw [this, Nat.mul_div_cancel _ (by omega)]
        · have := HP.out
          rw [show 8 - j = (8 - (j + 1)) + 1 by omega, be_step, show 8 - (j + 1) = 7 - j by omega, ← HQ.out hlt] at this
          rw [List.append_assoc, show 8 - (j + 1) = 7 - j by omega]
          exact this
        · have := HO3.out
          rw [List.append_assoc] at this
          exact this
      case measure => simp [intOf]; omega
    · obtain rfl : j = 8 := by omega
      obtain ⟨A4, c4, hv4, _⟩ := own_form HOr.out
      subst hv4
      clear hq
      go_wp2_with fail
      go_ret2
      refine ⟨_, rfl, ?_, HBr.out⟩
      have h1 := HP.out
      simp only [Nat.sub_self, be, List.append_nil] at h1
      have h2 := HOr.out
      rw [h1, HX.out] at h2
      have hj : vjoin l n = vtext l 0 ++ be 8 (18446744073709551615 - n) := rfl
      rw [hj, List.length_append, be_len]
      exact h2

theorem refJoin_no (A : Option Addr) (k c : Nat) (n : Int) (w : World) (h : k < 1 ∨ 128 < k ∨ n < 0 ∨ 4611686018427387904 < n) :
    Calls Try.prog 17 #[.slice A k c, .int .i64 n] w fun e w' => e = .returned (.tuple #[.slice none 0 0, .int .i64 2]) ∧ w = w' := by
  by_cases h1 : k < 1
  · obtain rfl : k = 0 := by omega
    clear h
    go_enter Try.func17, Try.ntmps17
    go_wp2_with fail
    go_ret2
    exact ⟨rfl, rfl⟩
  · have d1 : decide ((k : Int) < 1) = false := by simp; omega
    by_cases h2 : 128 < k
    · clear h
      have d2 : decide ((128 : Int) < k) = true := by simp; omega
      go_enter Try.func17, Try.ntmps17
      go_wp2_with fail
      go_ret2
      exact ⟨rfl, rfl⟩
    · have d2 : decide ((128 : Int) < k) = false := by simp; omega
      by_cases h3 : n < 0
      · clear h
        go_enter Try.func17, Try.ntmps17
        go_wp2_with fail
        go_ret2
        exact ⟨rfl, rfl⟩
      · have h4 : 4611686018427387904 < n := by omega
        clear h
        have d3 : decide (n < 0) = false := by simp; omega
        go_enter Try.func17, Try.ntmps17
        go_wp2_with fail
        go_ret2
        exact ⟨rfl, rfl⟩

theorem beVal_snoc (l : List UInt8) (c : UInt8) : beVal (l ++ [c]) = 256 * beVal l + c.toNat := by simp [beVal]
theorem beVal_lt (l : List UInt8) : beVal l < 256 ^ l.length := by
  have h : ∀ (l : List UInt8) (a : Nat), l.foldl (fun a c => 256 * a + c.toNat) a < (a + 1) * 256 ^ l.length := by
    intro l
    induction l with
    | nil => intro a; simp
    | cons c l ih =>
      intro a
      have hc := c.toNat_lt
      have := ih (256 * a + c.toNat)
      rw [List.foldl_cons, List.length_cons, Nat.pow_succ]
      refine Nat.lt_of_lt_of_le this ?_
      rw [Nat.mul_comm (256 ^ l.length) 256, ← Nat.mul_assoc]
      exact Nat.mul_le_mul_right _ (by omega)
  have := h l 0
  rw [Nat.zero_add, Nat.one_mul] at this
  exact this
def beTo (l : List UInt8) (a i : Nat) : Nat := beVal ((l.drop a).take i)
theorem beTo_succ (l : List UInt8) (a i : Nat) (c : UInt8) (h : l[a + i]? = some c) : beTo l a (i + 1) = 256 * beTo l a i + c.toNat := by
  unfold beTo
  rw [List.take_add_one, List.getElem?_drop, h]
  exact beVal_snoc _ _
theorem beTo_lt (l : List UInt8) (a i : Nat) : beTo l a i < 256 ^ i := by
  refine Nat.lt_of_lt_of_le (beVal_lt _) (Nat.pow_le_pow_right (by omega) ?_)
  simp
  omega
theorem vpart_ref_some (l : List UInt8) (h0 : 10 ≤ l.length) (h1 : vmay (dec (l.take (l.length - 10))) (18446744073709551615 - beVal (l.drop (l.length - 8))) = true) (h2 : vjoin (dec (l.take (l.length - 10))) (18446744073709551615 - beVal (l.drop (l.length - 8))) = l) :
    vpart l = some (dec (l.take (l.length - 10)), 18446744073709551615 - beVal (l.drop (l.length - 8))) := by
  unfold vpart
  rw [if_neg (by omega), if_pos (by simp [h1, h2])]
theorem vpart_ref_none (l : List UInt8) (h : vmay (dec (l.take (l.length - 10))) (18446744073709551615 - beVal (l.drop (l.length - 8))) = false ∨ vjoin (dec (l.take (l.length - 10))) (18446744073709551615 - beVal (l.drop (l.length - 8))) ≠ l) : vpart l = none := by
  unfold vpart
  split
  · rfl
  · rw [if_neg]
    rcases h with h | h <;> simp [h]
theorem vpart_short10 (l : List UInt8) (h : l.length < 10) : vpart l = none := by
  unfold vpart
  rw [if_pos h]

set_option maxHeartbeats 1000000 in
theorem refPart_any (A : Option Addr) (n c : Nat) (l : List UInt8) (w : World) (hl : Rb w w.heap.size A n l) (hn : n ≤ 35184372088832) :
    Calls Try.prog 18 #[.slice A n c] w (PartPost w l) := by
  have HL := hide hl
  have HN := hide hl.len
  clear hl
  by_cases h10 : n < 10
  · have HV := hide (vpart_short10 l (by rw [HN.out]; exact h10))
    go_enter Try.func18, Try.ntmps18
    go_wp2_with fail
    go_ret3
    exact .inr ⟨HV.out, rfl, Below.refl _ _⟩
  · obtain ⟨E, rfl⟩ : ∃ E, n = E + 10 := ⟨n - 10, by omega⟩
    obtain ⟨D, hD⟩ : ∃ D, D = dec (l.take E) := ⟨_, rfl⟩
    have hDl : D.length ≤ E := by
      have := dec_len _ (l.take E) (Nat.le_refl _)
      rw [hD]
      simp at this
      omega
    have HD := hide hD
    clear hD
    go_enter Try.func18, Try.ntmps18
    go_wp2_with fail
    go_loopw [5, 6] (fun v i wr => ∃ (j : Nat) (key : List UInt8), j ≤ E + 1 ∧ i = .int .i64 (j : Nat) ∧ key.length ≤ j ∧ Hid (key ++ dec ((l.take E).drop j) = D) ∧ wr.ownsRow w.heap.size 5 1 v key.length (key.map B8) ∧ Below w.heap.size w wr) (fun _ i _ => E + 1 - (intOf i).toNat)
    case atStart => exact ⟨0, [], by omega, rfl, by simp, HD.out.symm, own_nil _ _ _ _, Below.refl _ _⟩
    case round =>
      obtain ⟨j, key, hj, rfl, hkj, HK, hown, hbel⟩ := hrel
      have HO := hide hown
      have HB := hide hbel
      have hsz := hbel.size
      clear hown hbel
      by_cases hlt : j < E
      · have HLr := hide (HL.out.below HB.out (Nat.le_refl _))
        obtain ⟨b, off, ch, rfl, hb, hch, hcell⟩ := HLr.out.at (show j < E + 10 by omega)
        have HE := hide (dec_step l E j ch key D hlt (by rw [HN.out]; omega) hch HK.out)
        clear hch
        by_cases h0 : ch = 0
        · subst h0
          go_wp2_with (at_builtin; refine wpList_appL bt rfl (.tmp 20) (.tmp 25) rfl w.heap.size _ key.length key rfl HO.out _ 1 1 [0] rfl rfl rfl rfl (by omega) hsz ?_; intro v3 w3 hown3 hb3 _; have HO3 := hide hown3; have HB3 := hide (HB.out.trans hb3); have hc3 : w3.cell? ⟨b, off + j, none⟩ = some (.int .u8 0) := (HB3.out.cell (by exact hb)).trans ((HB.out.cell (by exact hb)).symm.trans hcell); clear hown3 hb3)
          go_roundw
          case rel =>
            refine ⟨j + 2, key ++ [0], by omega, by go_num, by simp; omega, ?_, by simpa using HO3.out, HB3.out⟩
            have := HE.out
            rw [if_pos rfl] at this
            exact this
          case measure => simp [intOf]; omega
        · have hz := zero_byte ch h0
          go_wp2_with (at_builtin; refine wpList_appL bt rfl (.tmp 20) (.tmp 25) rfl w.heap.size _ key.length key rfl HO.out _ 1 1 [ch] rfl rfl rfl rfl (by omega) hsz ?_; intro v3 w3 hown3 hb3 _; have HO3 := hide hown3; have HB3 := hide (HB.out.trans hb3); have hc3 : w3.cell? ⟨b, off + j, none⟩ = some (.int .u8 (ch.toNat : Int)) := (HB3.out.cell (by exact hb)).trans ((HB.out.cell (by exact hb)).symm.trans hcell); clear hown3 hb3)
          go_roundw
          case rel =>
            refine ⟨j + 1, key ++ [ch], by omega, by go_num, by simp; omega, ?_, by simpa using HO3.out, HB3.out⟩
            have := HE.out
            rw [if_neg h0] at this
            exact this
          case measure => simp [intOf]; omega
      · have hK : key = D := by
          have := HK.out
          rw [drop_past l E j (by omega), List.append_nil] at this
          exact this
        have HOD : Hid (wr.ownsRow w.heap.size 5 1 u5 D.length (D.map B8)) := by rw [← hK]; exact HO.out
        clear hK HK HO hkj
        have HLr := hide ((HL.out.below HB.out (Nat.le_refl _)).more hsz)
        obtain ⟨wo, rfl⟩ : ∃ wo : World, wo = wr := ⟨_, rfl⟩
        obtain ⟨A1, c1, rfl, _⟩ := own_form HOD.out
        go_wp2_with fail
        go_loop [7, 8] (fun v i => ∃ j : Nat, j ≤ 8 ∧ i = .int .i64 ((E + 2 + j : Nat) : Int) ∧ v = .int .u64 (beTo l (E + 2) j : Nat)) (fun _ i => E + 10 - (intOf i).toNat)
        case atStart => exact ⟨0, by omega, by go_num, rfl⟩
        case round =>
          obtain ⟨t, ht, rfl, rfl⟩ := hrel
          by_cases hlt2 : t < 8
          · obtain ⟨b, off, ch, rfl, hb, hch, hcell⟩ := HLr.out.at (show E + 2 + t < E + 10 by omega)
            have HS := hide (beTo_succ l (E + 2) t ch hch)
            have hvl : beTo l (E + 2) t < 72057594037927936 := Nat.lt_of_lt_of_le (beTo_lt _ _ _) (Nat.pow_le_pow_right (by omega) (show t ≤ 7 by omega))
            have hb8 := ch.toNat_lt
            clear hch
            generalize beTo l (E + 2) t = V at *
            go_wp2
            go_round
            case rel => exact ⟨t + 1, by omega, by go_num, int_eq (by rw [HS.out]; omega)⟩
            case measure => simp [intOf]; omega
          · obtain rfl : t = 8 := by omega
            have hE : l.length - 10 = E := by rw [HN.out]; omega
            have hE8 : l.length - 8 = E + 2 := by rw [HN.out]; omega
            have hV : beTo l (E + 2) 8 = beVal (l.drop (l.length - 8)) := by
              rw [beTo, List.take_of_length_le (by rw [List.length_drop, HN.out]; omega), hE8]
            have HSome := vpart_ref_some l (by rw [HN.out]; omega)
            have HNone := vpart_ref_none l
            rw [hE, ← HD.out, ← hV] at HSome HNone
            have HS := hide HSome
            have HNo := hide HNone
            have hvl : beTo l (E + 2) 8 < 18446744073709551616 := beTo_lt l (E + 2) 8
            clear HSome HNone hE hE8 hV hlt2 ht
            generalize beTo l (E + 2) 8 = V at *
            by_cases hM : 18446744073709551615 - V ≤ 4611686018427387904
            · go_wp2_with fail
              rw [show (18446744073709551615 : Int) - (V : Int) = ((18446744073709551615 - V : Nat) : Int) by omega]
              generalize hMM : 18446744073709551615 - V = M at *
              clear hMM
              by_cases hk : 1 ≤ D.length ∧ D.length ≤ 128
              · obtain ⟨hk1, hk2⟩ := hk
                have hmay : vmay D M = true := by unfold vmay; simp; omega
                refine (refJoin_yes _ _ _ D M _ (Rb.own HOD.out) hk1 hk2 (by omega)).mono ?_
                rintro e w3 ⟨v3, rfl, hown3, hb3⟩
                have HO3 := hide hown3
                have HB3 := hide hb3
                clear hown3 hb3
                obtain ⟨A3, c3, rfl, _⟩ := own_form HO3.out
                go_wp2_with fail
                refine (sameBytes_any A3 A _ c3 _ c (vjoin D M) l _ _ _ (Rb.own HO3.out) (HLr.out.below HB3.out (Nat.le_refl _))).mono ?_
                rintro e w4 ⟨rfl, rfl⟩
                by_cases heq : vjoin D M = l
                · have HS' := hide (HS.out hmay heq)
                  have hbq : (vjoin D M == l) = true := by simp [heq]
                  rw [hbq]
                  clear hbq heq hmay
                  go_wp2_with fail
                  go_ret3
                  exact .inl ⟨D, M, _, HS'.out, rfl, own_below HOD.out HB3.out, HB.out.trans (HB3.out.mono hsz)⟩
                · have HN' := hide (HNo.out (.inr heq))
                  have hbq : (vjoin D M == l) = false := by simp [heq]
                  rw [hbq]
                  clear hbq heq hmay
                  go_wp2_with fail
                  go_ret3
                  exact .inr ⟨HN'.out, rfl, HB.out.trans (HB3.out.mono hsz)⟩
              · have HN' := hide (HNo.out (.inl (by unfold vmay; simp; omega)))
                refine (refJoin_no _ _ _ _ _ (by omega)).mono ?_
                rintro e w3 ⟨rfl, rfl⟩
                go_wp2_with fail
                go_ret3
                exact .inr ⟨HN'.out, rfl, HB.out⟩
            · have HN' := hide (HNo.out (.inl (by unfold vmay; simp; omega)))
              go_wp2_with fail
              refine (refJoin_no _ _ _ _ _ ?_).mono ?_
              · go_arith
              rintro e w3 ⟨rfl, rfl⟩
              go_wp2_with fail
              go_ret3
              exact .inr ⟨HN'.out, rfl, HB.out⟩
end Go.Proofs.Ytlkeibpaleiemaa
