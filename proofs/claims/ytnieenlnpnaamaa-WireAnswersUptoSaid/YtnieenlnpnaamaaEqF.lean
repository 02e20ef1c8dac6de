/-
  The walks of bytes.Equal, of wire.Read's comparison of two frames, and of slices.EqualFunc over frames. Conditions: the frames read as lists.
-/
import Derived.Test.YtnieenlnpnaamaaNames
namespace Go.Proofs.Ytnieenlnpnaamaa
open Go.RowKit

theorem bequal_any (A A' : Option Addr) (n c n' c' : Nat) (l l' : List UInt8) (w : World) (B B' : Nat) (hl : Rb w B A n l) (hl' : Rb w B' A' n' l') :
    Calls Try.prog 41 #[.slice A n c, .slice A' n' c'] w fun e w' => e = .returned (.bool (l == l')) ∧ w = w' := by
  have e1 := hl.run_string (P := Try.prog) 22 5 9 c Try.underlying22 Try.underlying5 Try.underlying9
  have e2 := hl'.run_string (P := Try.prog) 22 5 9 c' Try.underlying22 Try.underlying5 Try.underlying9
  obtain ⟨s1, hs1⟩ : ∃ s : ByteArray, s = ⟨l.toArray⟩ := ⟨_, rfl⟩
  obtain ⟨s2, hs2⟩ : ∃ s : ByteArray, s = ⟨l'.toArray⟩ := ⟨_, rfl⟩
  rw [← hs1] at e1
  rw [← hs2] at e2
  have HF : Hid ((s1.toList == s2.toList) = (l == l')) := by show _ = _; rw [hs1, hs2, ByteArray.toList_eq, ByteArray.toList_eq]
  clear hs1 hs2 hl hl'
  go_enter Try.func41, Try.ntmps41
  go_wp2_with fail
  go_ret
  exact ⟨by rw [← HF.out]; rfl, rfl⟩
theorem fr_eq {f f' : Fr} : decide (f = f') = (decide (f.1 = f'.1) && (f.2 == f'.2)) := by
  rw [Bool.eq_iff_iff]
  simp [Prod.ext_iff]
set_option maxHeartbeats 800000 in
theorem sameFr_any (f f' : Fr) (A A' : Option Addr) (c c' : Nat) (w : World) (B B' : Nat) (hl : Rb w B A f.2.length f.2) (hl' : Rb w B' A' f'.2.length f'.2) (hB : B ≤ w.heap.size) (hB' : B' ≤ w.heap.size) :
    Calls Try.prog 40 #[.agg #[.int .u8 (f.1.toNat : Int), .slice A f.2.length c], .agg #[.int .u8 (f'.1.toNat : Int), .slice A' f'.2.length c']] w fun e w' => e = .returned (.bool (decide (f = f'))) ∧ Below w.heap.size w w' := by
  have HL := hide hl
  have HL' := hide hl'
  have HE := hide (fr_eq (f := f) (f' := f'))
  clear hl hl'
  have hbel : Below w.heap.size w ((w.alloc (.cells #[.int .u8 (f.1.toNat : Int), .slice A f.2.length c] 42)).alloc (.cells #[.int .u8 (f'.1.toNat : Int), .slice A' f'.2.length c'] 42)) := ((Below.refl _ _).alloc (Nat.le_refl _) _).alloc (by simp) _
  have HB := hide hbel
  clear hbel
  by_cases hk : f.1 = f'.1
  · have t1 : ((f.1.toNat : Int) == (f'.1.toNat : Int)) = true := by rw [hk]; simp
    have HK : Hid (decide (f.1 = f'.1) = true) := decide_eq_true hk
    clear hk
    go_enter Try.func40, Try.ntmps40
    go_wp2_with fail
    with_reducible refine (bequal_any A A' f.2.length c f'.2.length c' f.2 f'.2 _ B B' (by exact HL.out.below HB.out hB) (by exact HL'.out.below HB.out hB')).mono ?_
    rintro e w2 ⟨rfl, rfl⟩
    go_wp2_with fail
    go_ret
    exact ⟨by rw [HE.out, HK.out]; rfl, HB.out⟩
  · have t1 : ((f.1.toNat : Int) == (f'.1.toNat : Int)) = false := by
      simp
      intro h
      exact hk (UInt8.toNat_inj.1 (by omega))
    have HK : Hid (decide (f.1 = f'.1) = false) := decide_eq_false hk
    clear hk
    go_enter Try.func40, Try.ntmps40
    go_wp2_with fail
    go_ret
    exact ⟨by rw [HE.out, HK.out]; rfl, HB.out⟩

set_option maxHeartbeats 800000 in
theorem equalFunc_any (A A' : Option Addr) (n c n' c' : Nat) (fs fs' : List Fr) (w : World) (hl : FrRd w w.heap.size A n fs) (hl' : FrRd w w.heap.size A' n' fs') (hn : n ≤ 140737488355328) (hn' : n' ≤ 140737488355328) :
    Calls Try.prog 42 #[.slice A n c, .slice A' n' c', .func (.func 40) #[] #[]] w fun e w' => e = .returned (.bool (decide (fs = fs'))) ∧ Below w.heap.size w w' := by
  have HL := hide hl
  have HL' := hide hl'
  have hl1 := hl.1
  have hl2 := hl'.1
  clear hl hl'
  by_cases hne : n = n'
  · subst hne
    have hb : ((n : Int) != (n : Int)) = false := by simp
    have Hl1 := hide hl1
    have Hl2 := hide hl2
    clear hl1 hl2
    go_enter Try.func42, Try.ntmps42
    go_wp2_with fail
    go_loopw [17] (fun i wr => ∃ k : Nat, k ≤ n ∧ i = .int .i64 (k : Nat) ∧ Hid (fs.take k = fs'.take k) ∧ Below w.heap.size w wr) (fun i _ => n - (intOf i).toNat)
    case atStart => exact ⟨0, Nat.zero_le _, rfl, rfl, Below.refl _ _⟩
    case round =>
      obtain ⟨k, hk, rfl, HT, hbel⟩ := hrel
      have HB := hide hbel
      have hsz := hbel.size
      clear hbel
      by_cases hlt : k < n
      · obtain ⟨g, off, f, Ab, cb, rfl, hg, hx, hcx, hcx', hrx, hmx⟩ := (HL.out.below HB.out (Nat.le_refl _)).at hlt
        obtain ⟨g', off', f', Ab', cb', rfl, hg', hy, hcy, hcy', hry, hmy⟩ := (HL'.out.below HB.out (Nat.le_refl _)).at hlt
        have hkI : (k : Int) < (n : Int) := by omega
        have HX := hide hx
        have HY := hide hy
        have HRX := hide hrx
        have HRY := hide hry
        clear hx hy hrx hry
        have hbel2 : Below w.heap.size wr ((wr.alloc (.cells #[.int .u8 (f.1.toNat : Int), .slice Ab f.2.length cb] 42)).alloc (.cells #[.int .u8 (f'.1.toNat : Int), .slice Ab' f'.2.length cb'] 42)) := ((Below.refl _ _).alloc hsz _).alloc (by simp; omega) _
        have HB2 := hide hbel2
        clear hbel2
        have hgr : g < wr.heap.size := by omega
        have hgr' : g' < wr.heap.size := by omega
        go_wp2_with fail
        with_reducible refine (sameFr_any f f' Ab Ab' cb cb' _ w.heap.size w.heap.size (by exact HRX.out.below HB2.out (Nat.le_refl _)) (by exact HRY.out.below HB2.out (Nat.le_refl _)) (by simp; omega) (by simp; omega)).mono ?_
        rintro e w3 ⟨rfl, hb3⟩
        have HB3 := hide (HB.out.trans (HB2.out.trans (hb3.mono (by simp; omega))))
        clear hb3
        by_cases hff : f = f'
        · have HS := hide (fr_take_succ HT.out HX.out (hff ▸ HY.out))
          rw [show decide (f = f') = true from decide_eq_true hff]
          clear hff
          go_wp2_with fail
          go_roundw
          case rel => exact ⟨k + 1, by omega, by go_num, HS.out, HB3.out⟩
          case measure => simp [intOf]; omega
        · have HF : Hid (decide (fs = fs') = false) := by
            refine decide_eq_false ?_
            rintro rfl
            have := HX.out.symm.trans HY.out
            injection this with this
            exact hff this
          rw [show decide (f = f') = false from decide_eq_false hff]
          clear hff
          go_wp2_with fail
          go_ret
          exact ⟨by rw [HF.out]; rfl, HB3.out⟩
      · obtain rfl : k = n := by omega
        have HF : Hid (decide (fs = fs') = true) := by
          have h := HT.out
          rw [List.take_of_length_le (by rw [← Hl1.out]; exact Nat.le_refl _), List.take_of_length_le (by rw [← Hl2.out]; exact Nat.le_refl _)] at h
          exact decide_eq_true h
        go_wp2_with fail
        go_ret
        exact ⟨by rw [HF.out]; rfl, HB.out⟩
  · have hb : ((n : Int) != (n' : Int)) = true := by simp; omega
    have HF : Hid (decide (fs = fs') = false) := by
      refine decide_eq_false ?_
      rintro rfl
      exact hne (by rw [hl1, hl2])
    clear hl1 hl2
    go_enter Try.func42, Try.ntmps42
    go_wp2_with fail
    go_ret
    exact ⟨by rw [HF.out]; rfl, Below.refl _ _⟩
end Go.Proofs.Ytnieenlnpnaamaa
