/-
  The walks of chanceryref17: less, big, times, told, sign: what they do to whole numbers. Conditions: numbers below 2^160.
-/
import Derived.Test.YthmlfbbbcmmhdaaDoorBigA
import Derived.ChangeKeysEq
import Derived.Laws.StructEq
namespace Go.Proofs.YthmlfbbbcmmhdaaDoor
open Go.RowKit

theorem Blk.putN {w : World} {g : Nat} {t : TypeId} {f : Nat → Nat} (h : Blk w g t (arr5 f)) (k x : Nat) (hk : k < 5) : Blk (w.setCell ⟨g, k, none⟩ (.int .u64 ((x : Nat) : Int))) g t (arr5 fun j => if j = k then x else f j) := by
  rw [← arr5_set f k x hk]
  exact h.put k _
theorem Blk.fits {w : World} {g : Nat} {t : TypeId} {f f' : Nat → Nat} (h : Blk w g t (arr5 f)) (he : ∀ k, k < 5 → f k = f' k) : Blk w g t (arr5 f') := by rw [← arr5_congr he]; exact h
/-- The three blocks of less. -/
def B3 (w wr : World) (A : Nat) (f : Nat → Nat) : Prop := Blk wr w.heap.size 49 (D5 A) ∧ Blk wr (w.heap.size + 1) 49 (arr5 fun _ => 0) ∧ Blk wr (w.heap.size + 1 + 1) 49 (arr5 f) ∧ Below w.heap.size w wr
theorem B3.new (w : World) (A : Nat) : B3 w (((w.alloc (.cells (D5 A) 49)).alloc (.cells (arr5 fun _ => 0) 49)).alloc (.cells (arr5 fun _ => 0) 49)) A (fun _ => 0) := by
  refine ⟨((Blk.new _ _ _).alloc _).alloc _, ?_, ?_, ?_⟩
  · have := (Blk.new (w.alloc (.cells (D5 A) 49)) 49 (arr5 fun _ => 0)).alloc (.cells (arr5 fun _ => 0) 49)
    simpa using this
  · have := Blk.new ((w.alloc (.cells (D5 A) 49)).alloc (.cells (arr5 fun _ => 0) 49)) 49 (arr5 fun _ => 0)
    simpa using this
  · exact (((Below.refl _ _).alloc (Nat.le_refl _) _).alloc (by simp) _).alloc (by simp; omega) _
theorem B3.put {w wr : World} {A : Nat} {f : Nat → Nat} (h : B3 w wr A f) (k x : Nat) (hk : k < 5) : B3 w (wr.setCell ⟨w.heap.size + 1 + 1, k, none⟩ (.int .u64 ((x : Nat) : Int))) A (fun j => if j = k then x else f j) := by
  obtain ⟨h1, h2, h3, h4⟩ := h
  exact ⟨h1.far (show w.heap.size ≠ w.heap.size + 1 + 1 by omega) _, h2.far (show w.heap.size + 1 ≠ w.heap.size + 1 + 1 by omega) _, h3.putN k x hk, h4.setCell (show w.heap.size ≤ w.heap.size + 1 + 1 by omega) _⟩
theorem B3.fits {w wr : World} {A : Nat} {f g : Nat → Nat} (h : B3 w wr A f) (he : ∀ k, k < 5 → f k = g k) : B3 w wr A g := ⟨h.1, h.2.1, h.2.2.1.fits he, h.2.2.2⟩
theorem down_step (d : Nat → Nat) (k j : Nat) : (if j = k then d k else if k + 1 ≤ j then d j else 0) = if k ≤ j then d j else 0 := by
  by_cases h : j = k
  · subst h; rw [if_pos rfl, if_pos (by omega)]
  · rw [if_neg h]
    by_cases h2 : k ≤ j
    · rw [if_pos h2, if_pos (by omega)]
    · rw [if_neg h2, if_neg (by omega)]
set_option maxRecDepth 8000 in
set_option maxHeartbeats 1600000 in
theorem less_any (A : Nat) (w : World) (hA : A < Big.P 5) : Calls Tryd.prog 65 #[.agg (D5 A)] w fun e w' => e = .returned (.tuple #[.agg (D5 (A / 10000)), .int .u64 ((A % 10000 : Nat) : Int)]) ∧ Below w.heap.size w w' := by
  have h5 : Hid (A / Big.P 5 % 10000 = 0) := by show _ = _; rw [Nat.div_eq_of_lt hA]
  clear hA
  go_enter Tryd.func65, Tryd.ntmps65
  go_wp2_with fail
  go_loopw [5, 6] (fun r i wr => ∃ k : Nat, k ≤ 5 ∧ i = .int .i64 ((k : Int) - 1) ∧ r = .int .u64 ((A / Big.P k % 10000 : Nat) : Int) ∧ B3 w wr A (fun j => if k ≤ j then Big.dig (A / 10000) j else 0)) (fun _ i _ => (intOf i + 1).toNat)
  case atStart => exact ⟨5, by omega, rfl, by rw [h5.out]; rfl, (B3.new w A).fits fun j hj => (if_neg (by omega)).symm⟩
  case round =>
    obtain ⟨k, hk, rfl, rfl, hb⟩ := hrel
    have HB := hide hb
    clear hb h5
    cases k with
    | succ k =>
      have hlt : k < 5 := by omega
      have hx := Big.dig_lt A k
      have hr := Nat.mod_lt (A / Big.P (k + 1)) (show 0 < 10000 by omega)
      have hq := Big.quot_step A 10000 k (by omega)
      have hs := Big.rest_step A 10000 k
      rw [show Big.M = 4294967296 from rfl] at hx hq hs
      have a0 : wr.cell? ⟨w.heap.size, k, none⟩ = some (.int .u64 ((Big.dig A k : Nat) : Int)) := (HB.out.1.cell k).trans (arr5_at _ k hlt)
      have o0 : wr.cell? ⟨w.heap.size + 1 + 1, k, none⟩ = some _ := (HB.out.2.2.1.cell k).trans (arr5_at _ k hlt)
      have f0 := HB.out.2.2.1.frozen k
      obtain ⟨x, ex⟩ : ∃ x, x = Big.dig A k := ⟨_, rfl⟩
      obtain ⟨r, er⟩ : ∃ x, x = A / Big.P (k + 1) % 10000 := ⟨_, rfl⟩
      rw [← ex] at a0 hx hq hs
      rw [← er] at hr hq hs ⊢
      have HQ := hide hq
      have HS := hide hs
      clear ex er hq hs
      have hi : (((k + 1 : Nat) : Int) - 1) = (k : Int) := by omega
      rw [hi]
      clear hi
      have hkI : (k : Int) < 5 := by omega
      go_wp2_with fail
      have e1 : ((r : Int) * 4294967296 + (x : Int)) / 10000 = ((Big.dig (A / 10000) k : Nat) : Int) := by have := HQ.out; omega
      have e2 : ((r : Int) * 4294967296 + (x : Int)) % 10000 = ((A / Big.P k % 10000 : Nat) : Int) := by have := HS.out; omega
      rw [e1, e2]
      go_roundw
      case rel =>
        refine ⟨k, by omega, by go_num, rfl, ?_⟩
        exact (HB.out.put k (Big.dig (A / 10000) k) hlt).fits fun j _ => down_step _ k j
      case measure => simp [intOf]
    | zero =>
      obtain ⟨-, h3, h4, h5⟩ := HB.out
      have h4' := h4.fits (f' := Big.dig (A / 10000)) (fun j hj => if_pos (by omega))
      obtain ⟨o0, o1, o2, o3, o4⟩ := h4'.c5
      obtain ⟨r0, r1, r2, r3, r4⟩ := h3.c5
      obtain ⟨f0, f1, f2, f3, f4⟩ := h3.f5
      have hl := h3.lt
      have HB5 := hide h5
      have HZ : Hid (A / Big.P 0 % 10000 = A % 10000) := by show _ = _; rw [Big.P_zero, Nat.div_one]
      rw [HZ.out, show (((0 : Nat) : Int) - 1) = -1 by omega]
      clear HB h3 h4 h4' h5
      go_wp2_with fail
      refine bodyPost_ret (v := .tuple #[.agg (D5 (A / 10000)), .int .u64 ((A % 10000 : Nat) : Int)]) (by simp [results, Tryd.results65, go_sem, r0, r1, r2, r3, r4, D5, arr5]) rfl ⟨rfl, below_five HB5.out (by omega) _ _ _ _ _⟩
end Go.Proofs.YthmlfbbbcmmhdaaDoor
