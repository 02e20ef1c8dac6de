/-
  The walks of package verkey: a key's text, a version key, its parts. Conditions: slices read as lists of bytes, of at most 2^45 bytes.
-/
import Derived.Test.YtlkeibpaleiemaaOct
namespace Go.Proofs.Ytlkeibpaleiemaa
open Go.RowKit

theorem bt : Bt Try.prog 22 5 := ⟨Try.underlying22, info8⟩

/-- The closure 'put'. -/
theorem put_any (g base : Nat) (v : Value) (n : Nat) (l : List UInt8) (A : Option Addr) (m c : Nat) (ms : List UInt8) (w : World) (hb : Blk w g 22 #[v]) (hown : w.ownsRow base 5 1 v n (l.map B8)) (hr : Rb w w.heap.size A m ms) (hg : base ≤ g) (hn : n + m ≤ 140737488355328) :
    Calls Try.prog 30 #[.slice A m c, .pointer (some ⟨g, 0, none⟩)] w fun e w' => e = .returned (.tuple #[]) ∧ ∃ v', Blk w' g 22 #[v'] ∧ w'.ownsRow base 5 1 v' (n + m) ((l ++ ms).map B8) ∧ Below base w w' := by
  have hc : w.cell? ⟨g, 0, none⟩ = some v := hb.cell 0
  have HB := hide hb
  have HO := hide hown
  have HR := hide hr
  have hsz := hb.lt
  clear hb hown hr
  obtain ⟨A0, c0, rfl, _⟩ := own_form HO.out
  go_enter Try.func30, Try.ntmps30
  go_wp2_with (at_builtin; refine wpList_app _ bt rfl (.tmp 3) (.tmp 4) rfl base _ n l rfl HO.out _ A m c ms rfl HR.out hn (by omega) ?_; intro v' w' hown' hb' hg'; have HO' := hide hown'; have HB' := hide hb'; have hblk' := HB.out.grown hg' (fun e => own_blk_ne HO.out HB.out (by decide) e.symm); have hc' : w'.cell? ⟨g, 0, none⟩ = _ := hblk'.cell 0; have hf' := hblk'.frozen 0; have HK := hide hblk'; obtain ⟨A1, c1, hv, _⟩ := own_form HO'.out; subst hv; clear hown' hb' hg' hblk')
  go_end0
  refine ⟨rfl, _, HK.out.put 0 _, ownsRow_setCell_other HO'.out (own_blk_ne HO'.out HK.out (by decide)) _, HB'.out.setCell (by exact hg) _⟩

theorem esc_take (l : List UInt8) (k : Nat) (c : UInt8) (h : l[k]? = some c) : esc (l.take (k + 1)) = esc (l.take k) ++ (if c = 0 then [0, 255] else [c]) := by
  rw [List.take_add_one, h, esc_append]
  rfl
theorem esc_take_len (l : List UInt8) (k : Nat) (h : k ≤ l.length) : (esc (l.take k)).length ≤ 2 * k := by
  have := (esc_len (l.take k)).2
  simp at this
  omega

set_option maxHeartbeats 400000 in
theorem text_any (A : Option Addr) (n c : Nat) (l : List UInt8) (last : UInt8) (w : World) (hl : Rb w w.heap.size A n l) (hn : n ≤ 35184372088832) :
    Calls Try.prog 25 #[.slice A n c, .int .u8 (last.toNat : Int)] w fun e w' => ∃ v, e = .returned v ∧ w'.ownsRow w.heap.size 5 1 v (vtext l last).length ((vtext l last).map B8) ∧ Below w.heap.size w w' := by
  have HL := hide hl
  have hlen := hl.len
  have HN := hide hlen
  clear hl hlen
  go_enter Try.func25, Try.ntmps25
  go_wp2_with fail
  go_loopw [12] (fun i wr => ∃ k v, k ≤ n ∧ i = .int .i64 (k : Nat) ∧ Blk wr w.heap.size 22 #[v] ∧ wr.ownsRow w.heap.size 5 1 v (esc (l.take k)).length ((esc (l.take k)).map B8) ∧ Below w.heap.size w wr) (fun i _ => n - (intOf i).toNat)
  case atStart => exact ⟨0, _, Nat.zero_le _, rfl, Blk.new w _ _, own_nil _ _ _ _, by go_grown⟩
  case round =>
    obtain ⟨k, v, hk, rfl, hblk, hown, hbel⟩ := hrel
    have HK := hide hblk
    have HO := hide hown
    have HB := hide hbel
    have hsz := hblk.lt
    have hel := esc_take_len l k (by rw [HN.out]; exact hk)
    clear hblk hown hbel
    by_cases hlt : k < n
    · obtain ⟨b, off, ch, rfl, hb, hch, hcell⟩ := (HL.out.below HB.out (Nat.le_refl _)).at hlt
      have HE := hide (esc_take l k ch hch)
      clear hch
      by_cases hz : ch = 0
      · subst hz
        go_wp2_with fail
        refine (put_any w.heap.size w.heap.size v _ _ _ 2 2 [0, 255] _ (HK.out.alloc _) (HO.out.alloc _) (Rb.lit wr _ [0, 255]) (Nat.le_refl _) (by omega)).mono ?_
        rintro e w2 ⟨rfl, v2, hblk2, hown2, hbel2⟩
        go_wp2
        go_roundw
        case rel =>
          refine ⟨k + 1, v2, by omega, by go_num, hblk2, ?_, (HB.out.alloc (by omega) _).trans hbel2⟩
          rw [HE.out, if_pos trivial, List.length_append]
          exact hown2
        case measure => simp [intOf]; omega
      · have hne : ((ch.toNat : Int) == 0) = false := by
          simp only [beq_eq_false_iff_ne, ne_eq]
          intro h
          exact hz (UInt8.toNat_inj.1 (by simpa using h))
        go_wp2_with fail
        refine (put_any w.heap.size w.heap.size v _ _ _ 1 1 [ch] _ (HK.out.alloc _) (HO.out.alloc _) (Rb.lit wr _ [ch]) (Nat.le_refl _) (by omega)).mono ?_
        rintro e w2 ⟨rfl, v2, hblk2, hown2, hbel2⟩
        go_wp2
        go_roundw
        case rel =>
          refine ⟨k + 1, v2, by omega, by go_num, hblk2, ?_, (HB.out.alloc (by omega) _).trans hbel2⟩
          rw [HE.out, if_neg hz, List.length_append]
          exact hown2
        case measure => simp [intOf]; omega
    · obtain rfl : k = n := by omega
      have ht : l.take k = l := List.take_of_length_le (by rw [HN.out]; exact Nat.le_refl _)
      have HT := hide ht
      clear ht
      go_wp2_with fail
      refine (put_any w.heap.size w.heap.size v _ _ _ 2 2 [0, last] _ (HK.out.alloc _) (HO.out.alloc _) (Rb.lit wr _ [0, last]) (Nat.le_refl _) (by omega)).mono ?_
      rintro e w2 ⟨rfl, v2, hblk2, hown2, hbel2⟩
      have hc2 : w2.cell? ⟨w.heap.size, 0, none⟩ = some v2 := hblk2.cell 0
      rw [HT.out] at hown2
      have HO2 := hide hown2
      have HB2 := hide hbel2
      have HK2 := hide hblk2
      obtain ⟨A2, c2, hv2, _⟩ := own_form HO2.out
      subst hv2
      clear hown2 hbel2 hblk2
      go_wp2
      go_ret
      refine ⟨_, rfl, ?_, (HB.out.alloc (by omega) _).trans HB2.out⟩
      rw [vtext, List.length_append]
      exact HO2.out

theorem first_any (A : Option Addr) (n c : Nat) (l : List UInt8) (w : World) (hl : Rb w w.heap.size A n l) (hn : n ≤ 35184372088832) :
    Calls Try.prog 13 #[.slice A n c] w fun e w' => ∃ v, e = .returned v ∧ w'.ownsRow w.heap.size 5 1 v (vtext l 0).length ((vtext l 0).map B8) ∧ Below w.heap.size w w' := by
  have HL := hide hl
  clear hl
  go_enter Try.func13, Try.ntmps13
  go_wp2_with fail
  refine (text_any A n c l 0 _ HL.out hn).mono ?_
  rintro e w1 ⟨v, rfl, hown, hb⟩
  go_wp2
  go_ret
  exact ⟨v, rfl, hown, hb⟩
theorem behind_any (A : Option Addr) (n c : Nat) (l : List UInt8) (w : World) (hl : Rb w w.heap.size A n l) (hn : n ≤ 35184372088832) :
    Calls Try.prog 14 #[.slice A n c] w fun e w' => ∃ v, e = .returned v ∧ w'.ownsRow w.heap.size 5 1 v (vtext l 1).length ((vtext l 1).map B8) ∧ Below w.heap.size w w' := by
  have HL := hide hl
  clear hl
  go_enter Try.func14, Try.ntmps14
  go_wp2_with fail
  refine (text_any A n c l 1 _ HL.out hn).mono ?_
  rintro e w1 ⟨v, rfl, hown, hb⟩
  go_wp2
  go_ret
  exact ⟨v, rfl, hown, hb⟩

/-- Eight bytes as a number, the lowest first. -/
def num8 (b0 b1 b2 b3 b4 b5 b6 b7 : Nat) : Nat := b0 + 256 * (b1 + 256 * (b2 + 256 * (b3 + 256 * (b4 + 256 * (b5 + 256 * (b6 + 256 * b7))))))
section
variable (b0 b1 b2 b3 b4 b5 b6 b7 : Nat) (h0 : b0 < 256) (h1 : b1 < 256) (h2 : b2 < 256) (h3 : b3 < 256) (h4 : b4 < 256) (h5 : b5 < 256) (h6 : b6 < 256) (h7 : b7 < 256)
include h0 h1 h2 h3 h4 h5 h6 h7
theorem num8_at : num8 b0 b1 b2 b3 b4 b5 b6 b7 % 256 = b0 ∧ num8 b0 b1 b2 b3 b4 b5 b6 b7 / 256 % 256 = b1 ∧ num8 b0 b1 b2 b3 b4 b5 b6 b7 / 65536 % 256 = b2 ∧ num8 b0 b1 b2 b3 b4 b5 b6 b7 / 16777216 % 256 = b3 ∧
    num8 b0 b1 b2 b3 b4 b5 b6 b7 / 4294967296 % 256 = b4 ∧ num8 b0 b1 b2 b3 b4 b5 b6 b7 / 1099511627776 % 256 = b5 ∧ num8 b0 b1 b2 b3 b4 b5 b6 b7 / 281474976710656 % 256 = b6 ∧ num8 b0 b1 b2 b3 b4 b5 b6 b7 / 72057594037927936 % 256 = b7 := by
  generalize hx : num8 b0 b1 b2 b3 b4 b5 b6 b7 = x
  unfold num8 at hx
  refine ⟨by omega, by omega, by omega, by omega, by omega, by omega, by omega, by omega⟩
theorem rev8_num8 : rev8 (num8 b0 b1 b2 b3 b4 b5 b6 b7) = num8 b7 b6 b5 b4 b3 b2 b1 b0 := by
  obtain ⟨e0, e1, e2, e3, e4, e5, e6, e7⟩ := num8_at b0 b1 b2 b3 b4 b5 b6 b7 h0 h1 h2 h3 h4 h5 h6 h7
  unfold rev8
  rw [show (256 : Nat) ^ 2 = 65536 from rfl, show (256 : Nat) ^ 3 = 16777216 from rfl, show (256 : Nat) ^ 4 = 4294967296 from rfl, show (256 : Nat) ^ 5 = 1099511627776 from rfl, show (256 : Nat) ^ 6 = 281474976710656 from rfl, show (256 : Nat) ^ 7 = 72057594037927936 from rfl, e0, e1, e2, e3, e4, e5, e6, e7]
  unfold num8
  omega
theorem leB_num8 : leB (num8 b0 b1 b2 b3 b4 b5 b6 b7) 8 = [UInt8.ofNat b0, UInt8.ofNat b1, UInt8.ofNat b2, UInt8.ofNat b3, UInt8.ofNat b4, UInt8.ofNat b5, UInt8.ofNat b6, UInt8.ofNat b7] := by
  obtain ⟨e0, e1, e2, e3, e4, e5, e6, e7⟩ := num8_at b0 b1 b2 b3 b4 b5 b6 b7 h0 h1 h2 h3 h4 h5 h6 h7
  simp only [leB, List.nil_append, List.cons_append, Nat.mul_zero, Nat.pow_zero, Nat.div_one]
  rw [show (2 : Nat) ^ (8 * 1) = 256 from rfl, show (2 : Nat) ^ (8 * 2) = 65536 from rfl, show (2 : Nat) ^ (8 * 3) = 16777216 from rfl, show (2 : Nat) ^ (8 * 4) = 4294967296 from rfl, show (2 : Nat) ^ (8 * 5) = 1099511627776 from rfl, show (2 : Nat) ^ (8 * 6) = 281474976710656 from rfl, show (2 : Nat) ^ (8 * 7) = 72057594037927936 from rfl, e0, e1, e2, e3, e4, e5, e6, e7]
theorem be_num8 : be 8 (num8 b0 b1 b2 b3 b4 b5 b6 b7) = [UInt8.ofNat b7, UInt8.ofNat b6, UInt8.ofNat b5, UInt8.ofNat b4, UInt8.ofNat b3, UInt8.ofNat b2, UInt8.ofNat b1, UInt8.ofNat b0] := by
  have _h := h7
  simp only [be]
  generalize hx : num8 b0 b1 b2 b3 b4 b5 b6 b7 = x
  unfold num8 at hx
  rw [show (256 : Nat) ^ 2 = 65536 from rfl, show (256 : Nat) ^ 3 = 16777216 from rfl, show (256 : Nat) ^ 4 = 4294967296 from rfl, show (256 : Nat) ^ 5 = 1099511627776 from rfl, show (256 : Nat) ^ 6 = 281474976710656 from rfl, show (256 : Nat) ^ 7 = 72057594037927936 from rfl, show (256 : Nat) ^ 1 = 256 from rfl, show (256 : Nat) ^ 0 = 1 from rfl]
  rw [show x / 72057594037927936 = b7 by omega, show x % 72057594037927936 / 281474976710656 = b6 by omega, show x % 72057594037927936 % 281474976710656 / 1099511627776 = b5 by omega, show x % 72057594037927936 % 281474976710656 % 1099511627776 / 4294967296 = b4 by omega,
    show x % 72057594037927936 % 281474976710656 % 1099511627776 % 4294967296 / 16777216 = b3 by omega, show x % 72057594037927936 % 281474976710656 % 1099511627776 % 4294967296 % 16777216 / 65536 = b2 by omega, show x % 72057594037927936 % 281474976710656 % 1099511627776 % 4294967296 % 16777216 % 65536 / 256 = b1 by omega,
    show x % 72057594037927936 % 281474976710656 % 1099511627776 % 4294967296 % 16777216 % 65536 % 256 / 1 = b0 by omega]
end
theorem num8_of (x : Nat) (h : x < 18446744073709551616) : ∃ b0 b1 b2 b3 b4 b5 b6 b7, b0 < 256 ∧ b1 < 256 ∧ b2 < 256 ∧ b3 < 256 ∧ b4 < 256 ∧ b5 < 256 ∧ b6 < 256 ∧ b7 < 256 ∧ x = num8 b0 b1 b2 b3 b4 b5 b6 b7 := by
  refine ⟨x % 256, x / 256 % 256, x / 256 / 256 % 256, x / 256 / 256 / 256 % 256, x / 256 / 256 / 256 / 256 % 256, x / 256 / 256 / 256 / 256 / 256 % 256, x / 256 / 256 / 256 / 256 / 256 / 256 % 256, x / 256 / 256 / 256 / 256 / 256 / 256 / 256 % 256, by omega, by omega, by omega, by omega, by omega, by omega, by omega, by omega, ?_⟩
  unfold num8
  omega
theorem leB_rev (x : Nat) (hx : x < 18446744073709551616) : leB (rev8 x) 8 = be 8 x := by
  obtain ⟨b0, b1, b2, b3, b4, b5, b6, b7, h0, h1, h2, h3, h4, h5, h6, h7, rfl⟩ := num8_of x hx
  rw [rev8_num8 _ _ _ _ _ _ _ _ h0 h1 h2 h3 h4 h5 h6 h7, leB_num8 _ _ _ _ _ _ _ _ h7 h6 h5 h4 h3 h2 h1 h0, be_num8 _ _ _ _ _ _ _ _ h0 h1 h2 h3 h4 h5 h6 h7]
theorem rev_le (bs : List UInt8) (h : bs.length = 8) : rev8 (le bs) = beVal bs := by
  match bs, h with
  | [a, b, c, d, e, f, g, i], _ =>
    have e1 : le [a, b, c, d, e, f, g, i] = num8 a.toNat b.toNat c.toNat d.toNat e.toNat f.toNat g.toNat i.toNat := by simp [le, num8]
    rw [e1, rev8_num8 _ _ _ _ _ _ _ _ a.toNat_lt b.toNat_lt c.toNat_lt d.toNat_lt e.toNat_lt f.toNat_lt g.toNat_lt i.toNat_lt]
    simp only [beVal, List.foldl_cons, List.foldl_nil, num8]
    omega

/-- Join of what may be. -/
theorem join_yes (A : Option Addr) (k c : Nat) (l : List UInt8) (n : Nat) (w : World) (hl : Rb w w.heap.size A k l) (h1 : 1 ≤ k) (h2 : k ≤ 128) (h3 : n ≤ 4611686018427387904) :
    Calls Try.prog 10 #[.slice A k c, .int .i64 (n : Int)] w fun e w' => ∃ v, e = .returned (.tuple #[v, .int .i64 0]) ∧ w'.ownsRow w.heap.size 5 1 v (vjoin l n).length ((vjoin l n).map B8) ∧ Below w.heap.size w w' := by
  have HL := hide hl
  clear hl
  have HV : Hid (leB (rev8 (18446744073709551615 - n)) 8 = be 8 (18446744073709551615 - n)) := leB_rev _ (by omega)
  have he2 := (esc_len l).2
  rw [HL.out.len] at he2
  go_enter Try.func10, Try.ntmps10
  go_wp2_with fail
  refine (first_any A k c l _ HL.out (by omega)).mono ?_
  rintro e w1 ⟨v, rfl, hown, hb⟩
  have HO := hide hown
  have HB := hide hb
  clear hown hb
  obtain ⟨A1, c1, rfl, _⟩ := own_form HO.out
  go_wp2_with fail
  rw [show (18446744073709551615 : Int) - (n : Int) = ((18446744073709551615 - n : Nat) : Int) by omega]
  refine (reverse_any (18446744073709551615 - n) _ (by omega)).mono ?_
  rintro e w1' ⟨rfl, rfl⟩
  have hrl := rev8_lt (18446744073709551615 - n)
  generalize hR : rev8 (18446744073709551615 - n) = R at *
  go_wp2_with fail
  refine (add64_any A1 _ c1 (vtext l 0) R _ (Rb.own HO.out) hrl (by simp [vtext]; omega)).mono ?_
  rintro e w2 ⟨r, rfl, hown2, hb2⟩
  go_wp2
  go_ret2
  refine ⟨r, rfl, ?_, HB.out.trans (hb2.mono HB.out.size)⟩
  rw [HV.out] at hown2
  have hj : vjoin l n = vtext l 0 ++ be 8 (18446744073709551615 - n) := rfl
  rw [hj, List.length_append, be_len]
  exact own_base hown2 HB.out.size

theorem join_no (A : Option Addr) (k c : Nat) (n : Int) (w : World) (h : k < 1 ∨ 128 < k ∨ n < 0 ∨ 4611686018427387904 < n) :
    Calls Try.prog 10 #[.slice A k c, .int .i64 n] w fun e w' => e = .returned (.tuple #[.slice none 0 0, .int .i64 2]) ∧ w = w' := by
  by_cases h1 : k < 1
  · obtain rfl : k = 0 := by omega
    clear h
    go_enter Try.func10, Try.ntmps10
    go_wp2_with fail
    go_ret2
    exact ⟨rfl, rfl⟩
  · have d1 : decide ((k : Int) < 1) = false := by simp; omega
    by_cases h2 : 128 < k
    · clear h
      have d2 : decide ((128 : Int) < k) = true := by simp; omega
      go_enter Try.func10, Try.ntmps10
      go_wp2_with fail
      go_ret2
      exact ⟨rfl, rfl⟩
    · have d2 : decide ((128 : Int) < k) = false := by simp; omega
      by_cases h3 : n < 0
      · clear h
        go_enter Try.func10, Try.ntmps10
        go_wp2_with fail
        go_ret2
        exact ⟨rfl, rfl⟩
      · have h4 : 4611686018427387904 < n := by omega
        clear h
        have d3 : decide (n < 0) = false := by simp; omega
        go_enter Try.func10, Try.ntmps10
        go_wp2_with fail
        go_ret2
        exact ⟨rfl, rfl⟩
end Go.Proofs.Ytlkeibpaleiemaa
