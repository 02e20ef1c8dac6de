/-
  The walks of package wire's small functions: numbers, kinds, a new reader, the first frame. Conditions: slices read as lists of bytes.
-/
import Derived.Test.YtnieenlnpnaamaaKit
import Derived.Test.YtnieenlnpnaamaaWireMath
import Derived.LaidEqlPtr
namespace Go.Proofs.Ytnieenlnpnaamaa
open Go.RowKit

theorem wireRight_any (k : UInt8) (w : World) : Calls Try.prog 47 #[.int .u8 (k.toNat : Int)] w fun e w' => e = .returned (.bool (Wire.kindOk k)) ∧ w = w' := by
  have hk := k.toNat_lt
  by_cases h : 1 ≤ k.toNat
  · go_enter Try.func47, Try.ntmps47
    go_wp2
    all_goals
      go_ret
      refine ⟨?_, rfl⟩
      unfold Wire.kindOk
      exact congrArg (fun b => Ending.returned (.bool b)) (by rw [Bool.eq_iff_iff]; simp; omega)
  · go_enter Try.func47, Try.ntmps47
    go_wp2
    all_goals
      go_ret
      refine ⟨?_, rfl⟩
      unfold Wire.kindOk
      exact congrArg (fun b => Ending.returned (.bool b)) (by rw [Bool.eq_iff_iff]; simp; omega)

theorem ofInt_i64 (a : Nat) (ha : a < 9223372036854775808) : (BitVec.ofInt 64 (a : Int)).toNat = a := by
  rw [BitVec.ofInt_natCast, BitVec.toNat_ofNat]; exact Nat.mod_eq_of_lt (by omega)
theorem i64_or_nat (a b : Nat) (ha : a < 9223372036854775808) (hb : b < 9223372036854775808) : bits .or .i64 (a : Int) (b : Int) = ((a ||| b : Nat) : Int) := by
  have hx : a ||| b < 2 ^ 63 := Nat.or_lt_two_pow (by omega) (by omega)
  show IntKind.i64.wrap ((BitVec.ofInt 64 (a : Int) ||| BitVec.ofInt 64 (b : Int)).toNat : Int) = _
  rw [BitVec.toNat_or, ofInt_i64 a ha, ofInt_i64 b hb, IntKind.wrap_i64]
  omega
theorem or3 (a b c d : Nat) (ha : a < 256) (hb : b < 256) (hc : c < 256) (hd : d < 256) :
    bits .or .i64 (bits .or .i64 (bits .or .i64 ((a : Int) * 16777216) ((b : Int) * 65536)) ((c : Int) * 256)) (d : Int) = (a : Int) * 16777216 + b * 65536 + c * 256 + d := by
  have e1 := i64_or_nat (a * 16777216) (b * 65536) (by omega) (by omega)
  rw [nat_join 24 (a * 16777216) (b * 65536) (by omega) (by omega)] at e1
  have e2 := i64_or_nat (a * 16777216 + b * 65536) (c * 256) (by omega) (by omega)
  rw [nat_join 16 (a * 16777216 + b * 65536) (c * 256) (by omega) (by omega)] at e2
  have e3 := i64_or_nat (a * 16777216 + b * 65536 + c * 256) d (by omega) (by omega)
  rw [nat_join 8 (a * 16777216 + b * 65536 + c * 256) d (by omega) (by omega)] at e3
  rw [show (a : Int) * 16777216 = ((a * 16777216 : Nat) : Int) by omega, show (b : Int) * 65536 = ((b * 65536 : Nat) : Int) by omega, show (c : Int) * 256 = ((c * 256 : Nat) : Int) by omega, e1, e2, e3]
  omega

theorem numberOf_any (A : Option Addr) (n c : Nat) (l : List UInt8) (w : World) (B : Nat) (hl : Rb w B A n l) (hn : 4 ≤ n) (hm : n ≤ maxLen) :
    Calls Try.prog 37 #[.slice A n c] w fun e w' => e = .returned (.int .i64 (Wire.be4 l : Nat)) ∧ ∃ q, w' = w.drewN q := by
  unfold maxLen at hm
  obtain ⟨b, off, rfl, _, hc⟩ := hl.all (by omega)
  have hlen := hl.len
  have h0 := hc 0 (l.getD 0 0) (by simp [List.getD, List.getElem?_eq_getElem (show 0 < l.length by omega)])
  have h1 := hc 1 (l.getD 1 0) (by simp [List.getD, List.getElem?_eq_getElem (show 1 < l.length by omega)])
  have h2 := hc 2 (l.getD 2 0) (by simp [List.getD, List.getElem?_eq_getElem (show 2 < l.length by omega)])
  have h3 := hc 3 (l.getD 3 0) (by simp [List.getD, List.getElem?_eq_getElem (show 3 < l.length by omega)])
  have HE : Hid ((Wire.be4 l : Int) = ((l.getD 0 0).toNat : Int) * 16777216 + (l.getD 1 0).toNat * 65536 + (l.getD 2 0).toNat * 256 + (l.getD 3 0).toNat) := by
    show (Wire.be4 l : Int) = _
    unfold Wire.be4
    omega
  clear hc hl hlen
  generalize l.getD 0 0 = x0 at *
  generalize l.getD 1 0 = x1 at *
  generalize l.getD 2 0 = x2 at *
  generalize l.getD 3 0 = x3 at *
  have hor := or3 x0.toNat x1.toNat x2.toNat x3.toNat x0.toNat_lt x1.toNat_lt x2.toNat_lt x3.toNat_lt
  have b0 := x0.toNat_lt
  have b1 := x1.toNat_lt
  have b2 := x2.toNat_lt
  have b3 := x3.toNat_lt
  have hn0 : (0 : Int) < (n : Int) := by omega
  have hn1 : (1 : Int) < (n : Int) := by omega
  have hn2 : (2 : Int) < (n : Int) := by omega
  have hn3 : (3 : Int) < (n : Int) := by omega
  rw [Nat.add_zero] at h0
  go_enter Try.func37, Try.ntmps37
  go_wp2
  go_quiet (fail)
  go_wp2
  go_ret
  refine ⟨ret_int ?_, _, rfl⟩
  rw [HE.out]

/-- slices.Clone of bytes. -/
theorem clone_any (A : Option Addr) (n c : Nat) (l : List UInt8) (w : World) (hl : Rb w w.heap.size A n l) (hn : n ≤ 140737488355328) :
    Calls Try.prog 31 #[.slice A n c] w fun e w' => ∃ v, e = .returned v ∧ w'.ownsRow w.heap.size 5 1 v n (l.map B8) ∧ Below w.heap.size w w' := by
  have HL := hide hl
  clear hl
  cases A with
  | none =>
    have hnil := fun w => Lib.run_eql_slice_nil (P := Try.prog) w 22 5 none n c 0 0 Try.underlying22
    have h0 : n = 0 := by
      rcases Nat.eq_zero_or_pos n with h | h
      · exact h
      · obtain ⟨b, off, e, _⟩ := HL.out.all h
        cases e
    subst h0
    have hl0 : l = [] := List.eq_nil_of_length_eq_zero HL.out.len
    subst hl0
    go_enter Try.func31, Try.ntmps31
    go_wp2_with fail
    go_ret
    exact ⟨_, rfl, own_nil _ _ _ _, Below.refl _ _⟩
  | some ad =>
    have hnil := fun w => Lib.run_eql_slice_nil (P := Try.prog) w 22 5 (some ad) n c 0 0 Try.underlying22
    have HO : Hid ((w.alloc (.cells #[] 5)).ownsRow w.heap.size 5 1 (.slice (some ⟨w.heap.size, 0, none⟩) 0 0) 0 (([] : List UInt8).map B8)) := World.ownsRow_made w #[] 0 (Nat.le_refl _) (by unfold maxLen; omega) rfl
    have HLa := hide (HL.out.keep (w' := w.alloc (.cells #[] 5)) fun p hp => World.cell?_alloc_lt w _ p hp)
    go_enter Try.func31, Try.ntmps31
    go_wp2_with (at_builtin; refine wpList_app _ bt rfl (.tmp 5) (.tmp 6) rfl w.heap.size _ 0 [] rfl HO.out _ _ n c l rfl HLa.out (by omega) (by simp) ?_; intro v' w' hown' hb' _; have HO' := hide hown'; have HB' := hide hb'; clear hown' hb')
    go_ret
    exact ⟨_, rfl, by simpa using HO'.out, ((Below.refl _ _).alloc (Nat.le_refl _) _).trans HB'.out⟩

/-! ### readers -/
theorem new_any (w : World) : Calls Try.prog 8 #[] w fun e w' => e = .returned (.pointer (some ⟨w.heap.size, 0, none⟩)) ∧ w' = w.alloc (.cells #[.pointer (some ⟨w.heap.size, 0, none⟩), .slice none 0 0, .bool false] 45) := by
  go_enter Try.func8, Try.ntmps8
  go_wp2
  go_ret
  exact ⟨rfl, rfl⟩
theorem infoR : (Try.prog.info? 45).isSome = true := by kernel_rfl
theorem eql_ptr_same (a : Addr) (w : World) : (binOp .eql 24 (.pointer (some a)) (.pointer (some a))).run Try.prog w = .ok (.bool true) w := by
  obtain ⟨j, hj⟩ := Option.isSome_iff_exists.1 infoR
  exact run_eql_ptr_same w a Try.underlying24 hj
theorem eql_nil_ptr (a : Addr) (w : World) : (binOp .eql 24 (.pointer none) (.pointer (some a))).run Try.prog w = .ok (.bool false) w := by
  obtain ⟨j, hj⟩ := Option.isSome_iff_exists.1 infoR
  have h : ∀ d : Nat, (Op.equalIn (d + 1) 24 (.pointer none) (.pointer (some a))).run Try.prog w = .ok false w := fun d => by
    simp [Op.equalIn, run_underlying Try.underlying24]
  simp only [binOp]
  simp [Op.equal, Op.maxDepth, h 9999]
/-- A reader that New or Copy made. -/
theorem made_yes (g : Nat) (v : Value) (b : Bool) (w : World) (hb : Blk w g 45 #[.pointer (some ⟨g, 0, none⟩), v, .bool b]) :
    Calls Try.prog 29 #[.pointer (some ⟨g, 0, none⟩)] w fun e w' => e = .returned (.bool true) ∧ w = w' := by
  have h0 : w.cell? ⟨g, 0, none⟩ = some (.pointer (some ⟨g, 0, none⟩)) := hb.cell 0
  clear hb
  have he := eql_ptr_same ⟨g, 0, none⟩
  go_enter Try.func29, Try.ntmps29
  go_wp2
  go_ret
  exact ⟨rfl, rfl⟩
theorem made_nil (w : World) : Calls Try.prog 29 #[.pointer none] w fun e w' => e = .returned (.bool false) ∧ w = w' := by
  go_enter Try.func29, Try.ntmps29
  go_wp2
  go_ret
  exact ⟨rfl, rfl⟩
theorem made_zero (g : Nat) (w : World) (h0 : w.cell? ⟨g, 0, none⟩ = some (.pointer none)) : Calls Try.prog 29 #[.pointer (some ⟨g, 0, none⟩)] w fun e w' => e = .returned (.bool false) ∧ w = w' := by
  have he := eql_nil_ptr ⟨g, 0, none⟩
  go_enter Try.func29, Try.ntmps29
  go_wp2
  go_ret
  exact ⟨rfl, rfl⟩

theorem splice_full {α : Type} (L cs : List α) (h : cs.length = L.length) : splice L 0 cs = cs := by simp [splice, h]
/-! ### the first frame -/
def FirstPost (w : World) (l : List UInt8) (e : Ending) (w' : World) : Prop :=
  (Wire.firstN l = none ∧ e = .returned (.tuple #[.agg #[.int .u8 0, .slice none 0 0], .int .i64 0, .bool false]) ∧ Below w.heap.size w w') ∨
  (Wire.firstN l = some 0 ∧ e = .returned (.tuple #[.agg #[.int .u8 0, .slice none 0 0], .int .i64 0, .bool true]) ∧ Below w.heap.size w w') ∨
  (∃ m v, Wire.firstN l = some (m + 1) ∧ e = .returned (.tuple #[.agg #[.int .u8 ((Wire.frame l).1.toNat : Int), v], .int .i64 ((m + 1 : Nat) : Int), .bool true]) ∧ w'.ownsRow w.heap.size 5 1 v (Wire.frame l).2.length ((Wire.frame l).2.map B8) ∧ Below w.heap.size w w')

set_option maxHeartbeats 1000000 in
theorem first_any (A : Option Addr) (n c : Nat) (l : List UInt8) (w : World) (hl : Rb w w.heap.size A n l) (hnc : n ≤ c) (hc : c ≤ maxLen) :
    Calls Try.prog 30 #[.slice A n c] w (FirstPost w l) := by
  unfold maxLen at hc
  have HL := hide hl
  have HN := hide hl.len
  clear hl
  by_cases h4 : n < 4
  · have HF : Hid (Wire.firstN l = some 0) := by show Wire.firstN l = some 0; unfold Wire.firstN; rw [HN.out, if_pos h4]
    go_enter Try.func30, Try.ntmps30
    go_wp2_with fail
    exact bodyPost_ret (v := .tuple #[.agg #[.int .u8 0, .slice none 0 0], .int .i64 0, .bool true]) (by simp [results, Try.results30, go_sem]) rfl (.inr (.inl ⟨HF.out, rfl, by go_grown⟩))
  · have HLa := hide fun o => HL.out.keep (w' := w.alloc o) fun p hp => World.cell?_alloc_lt w o p hp
    go_enter Try.func30, Try.ntmps30
    go_wp2_with fail
    refine (numberOf_any A n c l _ _ (HLa.out _) (by omega) (by unfold maxLen; omega)).mono ?_
    rintro e w1 ⟨rfl, q, rfl⟩
    have hFN : Wire.firstN l = (if Wire.be4 l < 1 ∨ 8192 < Wire.be4 l then none else if n < 5 then some 0 else if Wire.kindOk (l.getD 4 0) = false then none else if n < 4 + Wire.be4 l then some 0 else some (4 + Wire.be4 l)) := by
      unfold Wire.firstN
      rw [HN.out, if_neg h4]
    have HFN := hide hFN
    have HFr : Hid (Wire.frame l = (l.getD 4 0, (l.drop 5).take (Wire.be4 l - 1))) := rfl
    clear hFN
    generalize Wire.be4 l = N at *
    have HBel : Hid (∀ o q, Below w.heap.size w ((w.alloc o).drewN q)) := fun o q => below_drewN ((Below.refl _ _).alloc (Nat.le_refl _) o) q
    by_cases hN : N < 1 ∨ 8192 < N
    · have HF : Hid (Wire.firstN l = none) := by have := HFN.out; rw [if_pos hN] at this; exact this
      rcases hN with hN | hN
      · have hd : decide ((N : Int) < 1) = true := by simp; omega
        go_wp2_with fail
        exact bodyPost_ret (v := .tuple #[.agg #[.int .u8 0, .slice none 0 0], .int .i64 0, .bool false]) (by simp [results, Try.results30, go_sem]) rfl (.inl ⟨HF.out, rfl, by go_grown; exact HBel.out _ _⟩)
      · have hd : decide ((N : Int) < 1) = false := by simp; omega
        have hd2 : decide ((8192 : Int) < N) = true := by simp; omega
        go_wp2_with fail
        exact bodyPost_ret (v := .tuple #[.agg #[.int .u8 0, .slice none 0 0], .int .i64 0, .bool false]) (by simp [results, Try.results30, go_sem]) rfl (.inl ⟨HF.out, rfl, by go_grown; exact HBel.out _ _⟩)
    · have hd : decide ((N : Int) < 1) = false := by simp; omega
      have hd2 : decide ((8192 : Int) < N) = false := by simp; omega
      have hN1 : 1 ≤ N := by omega
      have hN2 : N ≤ 8192 := by omega
      have h' := HFN.out
      rw [if_neg hN] at h'
      have HFN2 := hide h'
      clear h' hN HFN
      by_cases h5 : n < 5
      · have HF : Hid (Wire.firstN l = some 0) := by have := HFN2.out; rw [if_pos h5] at this; exact this
        go_wp2_with fail
        exact bodyPost_ret (v := .tuple #[.agg #[.int .u8 0, .slice none 0 0], .int .i64 0, .bool true]) (by simp [results, Try.results30, go_sem]) rfl (.inr (.inl ⟨HF.out, rfl, by go_grown; exact HBel.out _ _⟩))
      · have h' := HFN2.out
        rw [if_neg h5] at h'
        have HFN3 := hide h'
        clear h' HFN2
        obtain ⟨b, off, kd, rfl, hb, hkd, hcell⟩ := HL.out.at (show 4 < n by omega)
        have hg : l.getD 4 0 = kd := by simp [List.getD, hkd]
        rw [hg] at HFN3 HFr
        have hcw : ∀ o q, ((w.alloc o).drewN q).cell? ⟨b, off + 4, none⟩ = some (.int .u8 (kd.toNat : Int)) := fun o q => by
          have := World.cell?_alloc_lt w o ⟨b, off + 4, none⟩ hb
          rw [hcell] at this
          simpa using this
        clear hkd hg
        go_wp2_with fail
        refine (wireRight_any kd _).mono ?_
        rintro e w2 ⟨rfl, rfl⟩
        by_cases hk : Wire.kindOk kd = false
        · have HF : Hid (Wire.firstN l = none) := by have := HFN3.out; rw [if_pos hk] at this; exact this
          rw [hk]
          go_wp2_with fail
          exact bodyPost_ret (v := .tuple #[.agg #[.int .u8 0, .slice none 0 0], .int .i64 0, .bool false]) (by simp [results, Try.results30, go_sem]) rfl (.inl ⟨HF.out, rfl, by go_grown; exact HBel.out _ _⟩)
        · have h' := HFN3.out
          rw [if_neg hk] at h'
          have HFN4 := hide h'
          rw [Bool.not_eq_false] at hk
          rw [hk]
          clear h' HFN3 hk
          by_cases h6 : n < 4 + N
          · have HF : Hid (Wire.firstN l = some 0) := by have := HFN4.out; rw [if_pos h6] at this; exact this
            go_wp2_with fail
            exact bodyPost_ret (v := .tuple #[.agg #[.int .u8 0, .slice none 0 0], .int .i64 0, .bool true]) (by simp [results, Try.results30, go_sem]) rfl (.inr (.inl ⟨HF.out, rfl, by go_grown; exact HBel.out _ _⟩))
          · have HF : Hid (Wire.firstN l = some (3 + N + 1)) := by have := HFN4.out; rw [if_neg h6] at this; rw [this]; congr 1; omega
            clear HFN4
            obtain ⟨i0, hi0, hz0, hz1, hz2⟩ := info_parts info8
            obtain ⟨w1, hw1⟩ : ∃ w1, w1 = (w.alloc (.cells #[.int .u8 0, .slice none 0 0] 42)).drewN q := ⟨_, rfl⟩
            have HB1 : Hid (Below w.heap.size w w1) := by rw [hw1]; exact HBel.out _ _
            have HK1 : Hid (Blk w1 w.heap.size 42 #[.int .u8 0, .slice none 0 0]) := by rw [hw1]; exact Blk.new w _ _
            rw [← hw1]
            clear hw1 hcw HBel HLa
            have hsz1 := HK1.out.lt
            have hcut := (HL.out.cut (k := 5) (cap := c) (by omega) hnc)
            have HCut := hide hcut
            clear hcut
            by_cases hc5 : c = 5
            · subst hc5
              obtain rfl : n = 5 := by omega
              have hcut := HCut.out
              rw [if_pos rfl] at hcut
              have HCut2 : Hid (Rb w w.heap.size (some ⟨b, off, none⟩) 0 (l.drop 5)) := hcut
              clear hcut
              go_wp2_with (first
                | (at_make; refine wpList_make_full _ rfl _ _ 22 rfl w1.heap.size 5 i0 _ 1 Try.underlying22 hi0 hz0 hz1 .i64 .i64 _ _ (N - 1) rfl rfl (by omega) (by omega) (by rw [hz2]; omega) (by unfold maxLen; omega) (Nat.le_refl _) ?_; intro w2 hown2 hg2; have HB2 : Hid (Below w.heap.size w w2) := HB1.out.grown hg2 (by omega) (by simp); have HK2 := hide (HK1.out.grown hg2 (by simp)); have HO2 : Hid (w2.ownsRow w1.heap.size 5 1 (.slice (some ⟨w1.heap.size, 0, none⟩) (N - 1) (N - 1)) (N - 1) ((List.replicate (N - 1) 0).map B8)) := (by have := hown2; rw [Nat.mul_one] at this; rw [List.map_replicate]; exact (toList_madeCells_one (.int .u8 0) (N - 1)) ▸ this); have hsz2 := HK2.out.lt; obtain ⟨w3, hrun3, hown3, hb3⟩ := run_copyB w2 bt 3 w1.heap.size w1.heap.size (N - 1) (N - 1) 0 (List.replicate (N - 1) 0) HO2.out (Nat.zero_le _) (some ⟨w1.heap.size, 0, none⟩) (N - 1) (N - 1) rfl (fun _ => rfl) w.heap.size _ 0 0 (l.drop 5) (HCut2.out.below HB2.out (Nat.le_refl _)); have HO3 := hide hown3; have HB3 := hide (HB2.out.trans (hb3.mono (Nat.le_of_lt hsz1))); have HK3 := hide (HK2.out.below hb3 hsz1); have hc30 : w3.cell? ⟨w.heap.size, 0, none⟩ = some (.int .u8 0) := HK3.out.cell 0; have hc31 : w3.cell? ⟨w.heap.size, 1, none⟩ = some (.slice none 0 0) := HK3.out.cell 1; have hf30 := HK3.out.frozen 0; have hf31 := HK3.out.frozen 1; clear hown2 hg2 hown3 hb3))
              have q0 : (w3.setCell ⟨w.heap.size, 0, none⟩ (.int .u8 (kd.toNat : Int))).cell? ⟨w.heap.size, 0, none⟩ = some (.int .u8 (kd.toNat : Int)) := (HK3.out.put 0 _).cell 0
              have q1 : ((w3.setCell ⟨w.heap.size, 0, none⟩ (.int .u8 (kd.toNat : Int))).setCell ⟨w.heap.size, 1, none⟩ (.slice (some ⟨w1.heap.size, 0, none⟩) (N - 1) (N - 1))).cell? ⟨w.heap.size, 1, none⟩ = some (.slice (some ⟨w1.heap.size, 0, none⟩) (N - 1) (N - 1)) := ((HK3.out.put 0 _).put 1 _).cell 1
              refine bodyPost_ret (v := .tuple #[.agg #[.int .u8 (kd.toNat : Int), .slice (some ⟨w1.heap.size, 0, none⟩) (N - 1) (N - 1)], .int .i64 (4 + (N : Int)), .bool true]) (by simp [results, Try.results30, go_sem, q0, q1]) rfl ?_
              refine .inr (.inr ⟨3 + N, .slice (some ⟨w1.heap.size, 0, none⟩) (N - 1) (N - 1), HF.out, ?_, ?_, ?_⟩)
              · rw [HFr.out, show (4 + (N : Int)) = ((3 + N + 1 : Nat) : Int) by omega]
              · have hb5 : ((l.drop 5).take (N - 1)).length = N - 1 := by rw [List.length_take, List.length_drop, HN.out]; omega
                have h3 := HO3.out
                rw [show N - 1 - 0 = N - 1 by omega, splice_full _ _ (by rw [hb5, List.length_replicate])] at h3
                rw [HFr.out]
                show World.ownsRow _ _ _ _ _ ((l.drop 5).take (N - 1)).length _
                rw [hb5]
                exact own_base (ownsRow_setCell_below (ownsRow_setCell_below h3 (by exact hsz1) _) (by exact hsz1) _) (Nat.le_of_lt hsz1)
              · exact (HB3.out.setCell (by exact Nat.le_refl _) _).setCell (by exact Nat.le_refl _) _
            · have hcut := HCut.out
              rw [if_neg hc5, Option.map_some, addr_add] at hcut
              have HCut2 := hide hcut
              clear hcut
              go_wp2_with (first
                | (at_make; refine wpList_make_full _ rfl _ _ 22 rfl w1.heap.size 5 i0 _ 1 Try.underlying22 hi0 hz0 hz1 .i64 .i64 _ _ (N - 1) rfl rfl (by omega) (by omega) (by rw [hz2]; omega) (by unfold maxLen; omega) (Nat.le_refl _) ?_; intro w2 hown2 hg2; have HB2 : Hid (Below w.heap.size w w2) := HB1.out.grown hg2 (by omega) (by simp); have HK2 := hide (HK1.out.grown hg2 (by simp)); have HO2 : Hid (w2.ownsRow w1.heap.size 5 1 (.slice (some ⟨w1.heap.size, 0, none⟩) (N - 1) (N - 1)) (N - 1) ((List.replicate (N - 1) 0).map B8)) := (by have := hown2; rw [Nat.mul_one] at this; rw [List.map_replicate]; exact (toList_madeCells_one (.int .u8 0) (N - 1)) ▸ this); have hsz2 := HK2.out.lt; obtain ⟨w3, hrun3, hown3, hb3⟩ := run_copyB w2 bt 3 w1.heap.size w1.heap.size (N - 1) (N - 1) 0 (List.replicate (N - 1) 0) HO2.out (Nat.zero_le _) (some ⟨w1.heap.size, 0, none⟩) (N - 1) (N - 1) rfl (fun _ => rfl) w.heap.size _ (n - 5) (c - 5) (l.drop 5) (HCut2.out.below HB2.out (Nat.le_refl _)); have HO3 := hide hown3; have HB3 := hide (HB2.out.trans (hb3.mono (Nat.le_of_lt hsz1))); have HK3 := hide (HK2.out.below hb3 hsz1); have hc30 : w3.cell? ⟨w.heap.size, 0, none⟩ = some (.int .u8 0) := HK3.out.cell 0; have hc31 : w3.cell? ⟨w.heap.size, 1, none⟩ = some (.slice none 0 0) := HK3.out.cell 1; have hf30 := HK3.out.frozen 0; have hf31 := HK3.out.frozen 1; clear hown2 hg2 hown3 hb3))
              have q0 : (w3.setCell ⟨w.heap.size, 0, none⟩ (.int .u8 (kd.toNat : Int))).cell? ⟨w.heap.size, 0, none⟩ = some (.int .u8 (kd.toNat : Int)) := (HK3.out.put 0 _).cell 0
              have q1 : ((w3.setCell ⟨w.heap.size, 0, none⟩ (.int .u8 (kd.toNat : Int))).setCell ⟨w.heap.size, 1, none⟩ (.slice (some ⟨w1.heap.size, 0, none⟩) (N - 1) (N - 1))).cell? ⟨w.heap.size, 1, none⟩ = some (.slice (some ⟨w1.heap.size, 0, none⟩) (N - 1) (N - 1)) := ((HK3.out.put 0 _).put 1 _).cell 1
              refine bodyPost_ret (v := .tuple #[.agg #[.int .u8 (kd.toNat : Int), .slice (some ⟨w1.heap.size, 0, none⟩) (N - 1) (N - 1)], .int .i64 (4 + (N : Int)), .bool true]) (by simp [results, Try.results30, go_sem, q0, q1]) rfl ?_
              refine .inr (.inr ⟨3 + N, .slice (some ⟨w1.heap.size, 0, none⟩) (N - 1) (N - 1), HF.out, ?_, ?_, ?_⟩)
              · rw [HFr.out, show (4 + (N : Int)) = ((3 + N + 1 : Nat) : Int) by omega]
              · have hb5 : ((l.drop 5).take (N - 1)).length = N - 1 := by rw [List.length_take, List.length_drop, HN.out]; omega
                have h3 := HO3.out
                rw [show N - 1 - 0 = N - 1 by omega, splice_full _ _ (by rw [hb5, List.length_replicate])] at h3
                rw [HFr.out]
                show World.ownsRow _ _ _ _ _ ((l.drop 5).take (N - 1)).length _
                rw [hb5]
                exact own_base (ownsRow_setCell_below (ownsRow_setCell_below h3 (by exact hsz1) _) (by exact hsz1) _) (Nat.le_of_lt hsz1)
              · exact (HB3.out.setCell (by exact Nat.le_refl _) _).setCell (by exact Nat.le_refl _) _
end Go.Proofs.Ytnieenlnpnaamaa
