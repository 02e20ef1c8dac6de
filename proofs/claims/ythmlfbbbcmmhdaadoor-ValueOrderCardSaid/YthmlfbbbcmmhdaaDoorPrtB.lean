/-
  The walk of chanceryref17.digits. Conditions: the number is a uint64.
-/
import Derived.Test.YthmlfbbbcmmhdaaDoorPrtRep
import Derived.Test.YthmlfbbbcmmhdaaDoorLogB
import Derived.Test.YthmlfbbbcmmhdaaDoorApp
import Derived.Lib.ItoaLen
import Derived.Test.YthmlfbbbcmmhdaaDoorGrow
import Derived.Test.YthmlfbbbcmmhdaaDoorRefH
namespace Go.Proofs.YthmlfbbbcmmhdaaDoor
open Go.RowKit

theorem ba_eq {a : ByteArray} {l : List UInt8} (h : a.data.toList = l) : a = ⟨l.toArray⟩ := by
  subst h
  simp
theorem one_str (w : World) (c : UInt8) : (convert 89 9 (.slice (some ⟨w.heap.size, 0, none⟩) 1 1)).run Tryd.prog (w.alloc (.cells #[.int .u8 (c.toNat : Int)] 5)) = .ok (.string ⟨#[c]⟩) (w.alloc (.cells #[.int .u8 (c.toNat : Int)] 5)) := by
  have := (Rb.lit w 5 [c]).run_string (P := Tryd.prog) 89 5 9 1 Tryd.underlying89 Tryd.underlying5 Tryd.underlying9
  exact this
set_option maxRecDepth 8000 in
set_option maxHeartbeats 1600000 in
theorem digits_any (u n : Nat) (w : World) (hu : u < 18446744073709551616) (hn : 1 ≤ n) (hn4 : n ≤ 4) :
    Calls Tryd.prog 67 #[.int .u64 (u : Int), .int .i64 (n : Int)] w fun e w' => e = .returned (.string ⟨(Prt.dgs u n).toArray⟩) ∧ Below w.heap.size w w' := by
  have HU := hide hu
  have HN := hide hn
  have H4 := hide hn4
  clear hu hn hn4
  go_enter Tryd.func67, Tryd.ntmps67
  go_wp2_with fail
  go_loopw [0, 5] (fun u' s wr => ∃ (j : Nat) (acc : ByteArray), u' = .int .u64 ((u / 10 ^ j : Nat) : Int) ∧ s = .string acc ∧ acc.data.toList = Prt.low u j ∧ j ≤ max n (Lib.nDigits u) ∧ Below w.heap.size w wr) (fun _ s _ => match s with | .string acc => max n (Lib.nDigits u) - acc.size | _ => 0)
  case atStart => exact ⟨0, ⟨#[]⟩, by simp, rfl, rfl, Nat.zero_le _, Below.refl _ _⟩
  case round =>
    obtain ⟨j, acc, rfl, rfl, hacc, hj, hb⟩ := hrel
    have hsz : acc.size = j := by
      have : acc.data.toList.length = acc.size := by rw [Array.length_toList]; rfl
      rw [← this, hacc, Prt.low_len]
    obtain ⟨q, hq⟩ : ∃ q, q = u / 10 ^ j := ⟨_, rfl⟩
    have HQ := hide hq
    have HA := hide hacc
    have HB := hide hb
    have HJ := hide hj
    have HZ := hide hsz
    rw [← hq]
    have hql : q ≤ u := by rw [hq]; exact Nat.div_le_self _ _
    have hqb := Nat.lt_of_le_of_lt hql HU.out
    have hsb : acc.size < 21 := by
      have := Lib.nDigits_le20 u HU.out
      have := H4.out
      omega
    clear hq hacc hb hj hql
    by_cases hgo : 0 < q ∨ j < n
    · have HS := hide (Prt.dgs_more (u := u) (n := n) (j := j) (by rw [← HQ.out]; exact hgo))
      obtain ⟨d, hd⟩ : ∃ d, d = Lib.dg u j := ⟨_, rfl⟩
      have tw : IntKind.u8.wrap (48 + (q : Int) % 10) = ((d.toNat : Nat) : Int) := by
        rw [hd, Prt.dg_toNat, ← HQ.out, IntKind.wrap_u8]
        omega
      have HD := hide hd
      have h1s := one_str wr d
      have HE : Hid (((⟨#[d]⟩ : ByteArray) ++ acc).data.toList = Prt.low u (j + 1)) := by
        show _ = _
        rw [ByteArray.data_append, Array.toList_append, HA.out, Prt.low_succ, hd]
        rfl
      have HG : Hid (((⟨#[d]⟩ : ByteArray) ++ acc).size = j + 1) := by
        show _ = _
        rw [ByteArray.size_append, hsz]
        show 1 + j = _
        omega
      clear hd hsz
      by_cases hq0 : 0 < q
      · have t1 : decide (0 < q) = true := by simp; omega
        clear hgo hq0
        go_wp2_with fail
        refine ⟨⟨j + 1, _, ?_, rfl, HE.out, HS.out, HB.out.alloc HB.out.size _⟩, ?_⟩
        · rw [← Prt.div_step, ← HQ.out]; rfl
        · show max n (Lib.nDigits u) - ((⟨#[d]⟩ : ByteArray) ++ acc).size < max n (Lib.nDigits u) - acc.size
          rw [HG.out, HZ.out]
          have := HS.out
          omega
      · have t1 : decide (0 < q) = false := by simp; omega
        have t2 : decide (acc.size < n) = true := by have := HZ.out; simp; omega
        clear hgo hq0
        go_wp2_with fail
        refine ⟨⟨j + 1, _, ?_, rfl, HE.out, HS.out, HB.out.alloc HB.out.size _⟩, ?_⟩
        · rw [← Prt.div_step, ← HQ.out]; rfl
        · show max n (Lib.nDigits u) - ((⟨#[d]⟩ : ByteArray) ++ acc).size < max n (Lib.nDigits u) - acc.size
          rw [HG.out, HZ.out]
          have := HS.out
          omega
    · have HS := hide (Prt.dgs_end (u := u) (n := n) (j := j) HN.out HJ.out (by rw [← HQ.out]; exact fun h => hgo (.inl h)) (fun h => hgo (.inr h)))
      have t1 : decide (0 < q) = false := by simp; omega
      have t2 : decide (acc.size < n) = false := by have := HZ.out; simp; omega
      clear hgo hsz
      go_wp2_with fail
      go_ret
      refine ⟨?_, HB.out⟩
      rw [← HS.out, ← ba_eq HA.out]
      rfl
end Go.Proofs.YthmlfbbbcmmhdaaDoor

/-
  The walk of value.pairs. Conditions: the text is of at most 200 bytes.
-/
namespace Go.Proofs.YthmlfbbbcmmhdaaDoor
open Go.RowKit

abbrev hexS : ByteArray := ⟨#[48, 49, 50, 51, 52, 53, 54, 55, 56, 57, 97, 98, 99, 100, 101, 102]⟩
theorem hexb : ∀ x : Fin 16, (hexS[x.val]'(by have := x.isLt; exact this)).toNat = (Prt.hexc x.val).toNat := by decide
theorem hex_byte (x : Nat) (h : x < 16) (h' : x < hexS.size) : (hexS[x]'h').toNat = (Prt.hexc x).toNat := hexb ⟨x, h⟩
def noT : Told := fun _ _ _ => False
theorem noT_one : noT.One := fun _ _ _ _ h => h.elim
def PB (w wr : World) (v : Value) (n : Nat) (l : List UInt8) : Prop := wr.ownsRow w.heap.size 5 1 v n (l.map B8) ∧ Below w.heap.size w wr
theorem PB.lives (w : World) (v : Value) (n : Nat) (l : List UInt8) : Lives (fun w' => PB w w' v n l) := fun _ _ h hb => ⟨own_below h.1 hb, h.2.trans (hb.mono h.2.size)⟩
theorem PB.drew {w wr : World} {v : Value} {n : Nat} {l : List UInt8} (h : PB w wr v n l) : PB w { wr with drawn := wr.drawn + 1 } v n l := ⟨h.1, h.2.drew⟩
theorem and15 (c : UInt8) : bits .and .u8 (c.toNat : Int) 15 = ((c.toNat % 16 : Nat) : Int) := by
  have : ∀ x : Fin 256, bits .and .u8 ((x.val : Nat) : Int) 15 = ((x.val % 16 : Nat) : Int) := by decide +kernel
  exact this ⟨c.toNat, c.toNat_lt⟩
theorem rb_block {w : World} {g : Nat} {t : TypeId} {m : Nat × Nat} {l : List UInt8} (h : w.heap[g]? = some (.cells (l.map B8).toArray t m)) : Rb w w.heap.size (some ⟨g, 0, none⟩) l.length l := by
  refine ⟨by simp, fun _ => ⟨g, 0, rfl, lt_of_block h, fun j u hu => ?_⟩⟩
  rw [Nat.zero_add, cell_of_row w g j _ t m h]
  simpa using hu
theorem bt17 : Bt Tryd.prog 89 5 := ⟨Tryd.underlying89, by kernel_rfl⟩
set_option maxRecDepth 8000 in
set_option maxHeartbeats 1600000 in
theorem pairs_any (s : ByteArray) (w : World) (hs : s.size ≤ 200) :
    Calls Tryd.prog 54 #[.string s] w fun e w' => e = .returned (.string ⟨(Prt.hexs s.data.toList).toArray⟩) ∧ Below w.heap.size w w' := by
  go_enter Tryd.func54, Tryd.ntmps54
  go_wp2_with fail
  go_loopw [3, 7] (fun v i wr => ∃ k : Nat, i = .int .i64 (k : Nat) ∧ k ≤ s.size ∧ PB w wr v (2 * k) (Prt.hexs (s.data.toList.take k))) (fun _ i _ => s.size - (intOf i).toNat)
  case atStart => exact ⟨0, rfl, Nat.zero_le _, own_nil _ _ _ _, Below.refl _ _⟩
  case round =>
    obtain ⟨k, rfl, hk, hb⟩ := hrel
    have HB := hide hb
    clear hb
    by_cases hlt : k < s.size
    · obtain ⟨c, hc⟩ : ∃ c, c = s[k] := ⟨_, rfl⟩
      have hl : k < s.data.toList.length := by rw [Array.length_toList]; exact hlt
      have HT : Hid (Prt.hexs (s.data.toList.take (k + 1)) = Prt.hexs (s.data.toList.take k) ++ [Prt.hexc (c.toNat / 16), Prt.hexc (c.toNat % 16)]) := by
        show _ = _
        rw [List.take_succ_eq_append_getElem hl, Prt.hexs_snoc, hc]
        rfl
      have hcb := c.toNat_lt
      have HC := hide hc
      clear hc
      obtain ⟨x, hx⟩ : ∃ x, x = c.toNat / 16 := ⟨_, rfl⟩
      obtain ⟨y, hy⟩ : ∃ x, x = c.toNat % 16 := ⟨_, rfl⟩
      have ex : (c.toNat : Int) / 16 = (x : Int) := by omega
      have ey : bits .and .u8 (c.toNat : Int) 15 = (y : Int) := by
        rw [hy]
        exact and15 c
      have hx16 : x < 16 := by omega
      have hy16 : y < 16 := by omega
      have ix : (x : Int) < 16 := by omega
      have iy : (y : Int) < 16 := by omega
      have HX := hide hx
      have HY := hide hy
      rw [← hx, ← hy] at HT
      clear hx hy
      go_wp2_with fail
      refine wp_region_grow noT (fun w' => PB w w' u3 (2 * k) (Prt.hexs (s.data.toList.take k))) wr.heap.size 12 noT_one (PB.lives _ _ _ _) (by kernel_rfl) (by kernel_rfl) HB.out.drew (Nat.le_refl _) ?_
      simp only [List.take_succ_cons, List.take_zero, List.drop_succ_cons, List.drop_zero]
      iterate 3
        refine wpGrow_read ?_ rfl (fun w' hS => ?_) ?_
        rotate_left
        · go_simp
          rfl
      refine wpGrow_read (.int .u8 ((c.toNat : Nat) : Int)) rfl (fun w' hS => ?_) ?_
      · go_simp
        rw [HC.out]
      refine wpGrow_read (.int .u8 (x : Int)) rfl (fun w' hS => ?_) ?_
      · go_simp
      refine wpGrow_read (.int .u8 ((Prt.hexc x).toNat : Int)) rfl (fun w' hS => ?_) ?_
      · go_simp
        exact congrArg _ (hex_byte x hx16 _)
      iterate 2
        refine wpGrow_read ?_ rfl (fun w' hS => ?_) ?_
        rotate_left
        · go_simp
          rfl
      refine wpGrow_read (.int .u8 ((c.toNat : Nat) : Int)) rfl (fun w' hS => ?_) ?_
      · go_simp
        rw [HC.out]
      refine wpGrow_read (.int .u8 (y : Int)) rfl (fun w' hS => ?_) ?_
      · go_simp
      refine wpGrow_read (.int .u8 ((Prt.hexc y).toNat : Int)) rfl (fun w' hS => ?_) ?_
      · go_simp
        exact congrArg _ (hex_byte y hy16 _)
      refine wpGrow_make (some (2, 2)) (.cells #[.int .u8 ((Prt.hexc x).toNat : Int), .int .u8 ((Prt.hexc y).toNat : Int)] 5) rfl (fun w' hS => ?_) fun g => ?_
      · go_simp
        rfl
      refine wpGrow_nil fun w4 hG => ?_
      obtain ⟨l11, h11⟩ := hG.lies 11 g _ rfl
      have HS := hide hG.s
      have HL := hide (rb_block (l := [Prt.hexc x, Prt.hexc y]) l11)
      clear hG l11
      unfold shapeV
      have hz4 := HS.out.2.size
      have hk2 : 2 * k + 2 ≤ 402 := by omega
      go_frame
      go_wp2_with (at_builtin; refine wpList_app _ bt17 rfl (.tmp 10) (.tmp 21) rfl w.heap.size _ (2 * k) (Prt.hexs (s.data.toList.take k)) rfl HS.out.1 _ _ 2 2 [Prt.hexc x, Prt.hexc y] rfl HL.out (by omega) hz4 ?_; intro v1 w1 hown1 hb1 _; rw [← HT.out] at hown1; have HO1 := hide hown1; have HB1 := hide (HS.out.2.trans hb1); clear hown1 hb1)
      exact ⟨⟨k + 1, by go_num, hlt, HO1.out, HB1.out⟩, by simp [intOf]; omega⟩
    · obtain rfl : k = s.size := by omega
      have HF : Hid (s.data.toList.take s.size = s.data.toList) := List.take_of_length_le (by rw [Array.length_toList]; exact Nat.le_refl _)
      rw [HF.out] at HB
      obtain ⟨A, cap, rfl⟩ := own_sl HB.out.1
      have hrun := (Rb.own HB.out.1).run_string (P := Tryd.prog) 89 5 9 cap Tryd.underlying89 Tryd.underlying5 Tryd.underlying9
      clear hlt hk
      go_wp2_with fail
      go_ret
      exact ⟨rfl, HB.out.2⟩
end Go.Proofs.YthmlfbbbcmmhdaaDoor
