/-
  The walk of chanceryref17.times: the product. Conditions: numbers below 2^160.
-/
import Derived.Test.YthmlfbbbcmmhdaaDoorBigC
namespace Go.Proofs.YthmlfbbbcmmhdaaDoor
open Go.RowKit

/-- The four blocks of times. -/
def BT (w wr : World) (na : Bool) (A : Nat) (nb : Bool) (B : Nat) (f : Nat → Nat) : Prop := Blk wr w.heap.size 51 (G6 na A) ∧ Blk wr (w.heap.size + 1) 51 (G6 nb B) ∧ Blk wr (w.heap.size + 1 + 1) 51 (G6 false 0) ∧ Blk wr (w.heap.size + 1 + 1 + 1) 49 (arr5 f) ∧ Below w.heap.size w wr
theorem BT.new (w : World) (na : Bool) (A : Nat) (nb : Bool) (B : Nat) : BT w ((((w.alloc (.cells (G6 na A) 51)).alloc (.cells (G6 nb B) 51)).alloc (.cells (G6 false 0) 51)).alloc (.cells (arr5 fun _ => 0) 49)) na A nb B (fun _ => 0) := by
  refine ⟨(((Blk.new _ _ _).alloc _).alloc _).alloc _, ?_, ?_, ?_, ?_⟩
  · have := ((Blk.new (w.alloc (.cells (G6 na A) 51)) 51 (G6 nb B)).alloc (.cells (G6 false 0) 51)).alloc (.cells (arr5 fun _ => 0) 49)
    simpa using this
  · have := (Blk.new ((w.alloc (.cells (G6 na A) 51)).alloc (.cells (G6 nb B) 51)) 51 (G6 false 0)).alloc (.cells (arr5 fun _ => 0) 49)
    simpa using this
  · have := Blk.new (((w.alloc (.cells (G6 na A) 51)).alloc (.cells (G6 nb B) 51)).alloc (.cells (G6 false 0) 51)) 49 (arr5 fun _ => 0)
    simpa using this
  · exact ((((Below.refl _ _).alloc (Nat.le_refl _) _).alloc (by simp) _).alloc (by simp; omega) _).alloc (by simp; omega) _
theorem BT.put {w wr : World} {na nb : Bool} {A B : Nat} {f : Nat → Nat} (h : BT w wr na A nb B f) (q k x : Nat) (hk : k < 5) : BT w ((wr.drewN q).setCell ⟨w.heap.size + 1 + 1 + 1, k, none⟩ (.int .u64 ((x : Nat) : Int))) na A nb B (fun j => if j = k then x else f j) := by
  obtain ⟨h1, h2, h3, h4, h5⟩ := h
  refine ⟨Blk.far (w := wr.drewN q) h1 (show w.heap.size ≠ w.heap.size + 1 + 1 + 1 by omega) _, Blk.far (w := wr.drewN q) h2 (show w.heap.size + 1 ≠ w.heap.size + 1 + 1 + 1 by omega) _, Blk.far (w := wr.drewN q) h3 (show w.heap.size + 1 + 1 ≠ w.heap.size + 1 + 1 + 1 by omega) _, Blk.putN (w := wr.drewN q) h4 k x hk, (Below.drewN h5 q).setCell (show w.heap.size ≤ w.heap.size + 1 + 1 + 1 by omega) _⟩
theorem BT.fits {w wr : World} {na nb : Bool} {A B : Nat} {f g : Nat → Nat} (h : BT w wr na A nb B f) (he : ∀ k, k < 5 → f k = g k) : BT w wr na A nb B g := ⟨h.1, h.2.1, h.2.2.1, h.2.2.2.1.fits he, h.2.2.2.2⟩
theorem G6_at (neg : Bool) (V k : Nat) (h : k < 5) : (G6 neg V)[1 + k]? = some (.int .u64 ((Big.dig V k : Nat) : Int)) := by
  match k, h with
  | 0, _ => rfl
  | 1, _ => rfl
  | 2, _ => rfl
  | 3, _ => rfl
  | 4, _ => rfl
/-- Within a round: what the places hold. -/
def mid (A B i j q : Nat) : Nat := if q < i + j then Big.dig (Big.T A B i j) q else Big.dig (Big.O A B i) q
theorem mid_step (A B i j q : Nat) : (if q = i + j then Big.dig (Big.T A B i (j + 1)) (i + j) else mid A B i j q) = mid A B i (j + 1) q := by
  unfold mid
  by_cases h : q = i + j
  · subst h
    rw [if_pos rfl, if_pos (by omega)]
  · rw [if_neg h]
    by_cases h2 : q < i + j
    · rw [if_pos h2, if_pos (by omega), Big.mul_low A B i j q h2]
    · rw [if_neg h2, if_neg (by omega)]
theorem mid_start (A B i q : Nat) : Big.dig (Big.O A B i) q = mid A B i 0 q := by
  unfold mid
  rw [Big.T_zero]
  split <;> rfl
theorem mid_end (A B i j q : Nat) (h : i + j = 5) (hq : q < 5) : mid A B i j q = Big.dig (Big.O A B (i + 1)) q := by
  unfold mid
  rw [if_pos (by omega)]
  obtain rfl : j = 5 - i := by omega
  exact Big.T_end A B i q (by omega) hq
theorem G6_zero : G6 false 0 = #[.bool false, .int .u64 0, .int .u64 0, .int .u64 0, .int .u64 0, .int .u64 0] := by rw [G6_small _ _ (by omega)]; rfl

set_option maxRecDepth 20000 in
set_option maxHeartbeats 6400000 in
theorem rtimes_any (na nb : Bool) (A B : Nat) (w : World) (hA : A < Big.P 5) : Calls Tryd.prog 64 #[.agg (G6 na A), .agg (G6 nb B)] w fun e w' => e = .returned (.agg (G6 (na != nb) (A * B))) ∧ Below w.heap.size w w' := by
  have HZ := hide G6_zero
  have HE := hide (Big.O_end A B hA)
  clear hA
  go_enter Tryd.func64, Tryd.ntmps64
  go_wp2_with fail
  go_loopw [6] (fun i wr => ∃ k : Nat, k ≤ 5 ∧ i = .int .i64 (k : Nat) ∧ BT w wr na A nb B (Big.dig (Big.O A B k))) (fun i _ => 5 - (intOf i).toNat)
  case atStart => exact ⟨0, by omega, rfl, by rw [Big.O_zero]; have := BT.new w na A nb B; rw [HZ.out] at this; unfold BT; rw [HZ.out]; exact this.fits fun k _ => (Big.dig_zero k).symm⟩
  case round =>
    obtain ⟨k, hk, rfl, hb⟩ := hrel
    have HB := hide hb
    clear hb
    by_cases hlt : k < 5
    · have hkI : (k : Int) < 5 := by omega
      go_wp2_with fail
      obtain ⟨wo, rfl⟩ : ∃ wo : World, wo = wr := ⟨_, rfl⟩
      go_loopw [7, 8] (fun c j wx => ∃ m : Nat, k + m ≤ 5 ∧ j = .int .i64 (m : Nat) ∧ c = .int .u64 ((Big.car A B k m : Nat) : Int) ∧ BT w wx na A nb B (mid A B k m)) (fun _ j _ => 5 - (intOf j).toNat)
      case atStart => exact ⟨0, by omega, rfl, by rw [Big.car_zero]; rfl, HB.out.fits fun q _ => mid_start A B k q⟩
      case round =>
        obtain ⟨m, hm, rfl, rfl, hb⟩ := hrel
        clear HB
        have HB := hide hb
        clear hb
        by_cases hlm : k + m < 5
        · have hlmI : (k : Int) + (m : Int) < 5 := by omega
          have hx := Big.dig_lt A k
          have hy := Big.dig_lt B m
          have ho := Big.dig_lt (Big.O A B k) (k + m)
          have hc := Big.car_le A B k m
          have hd := Big.mul_dig A B k m
          have hcs := Big.mul_car A B k m
          have hc1 := Big.car_le A B k (m + 1)
          rw [show Big.M = 4294967296 from rfl] at hx hy ho hc hd hcs hc1
          have a0 : wr.cell? ⟨w.heap.size, 1 + k, none⟩ = some (.int .u64 ((Big.dig A k : Nat) : Int)) := (HB.out.1.cell _).trans (G6_at _ _ k hlt)
          have b0 : wr.cell? ⟨w.heap.size + 1, 1 + m, none⟩ = some (.int .u64 ((Big.dig B m : Nat) : Int)) := (HB.out.2.1.cell _).trans (G6_at _ _ m (by omega))
          have o0 : wr.cell? ⟨w.heap.size + 1 + 1 + 1, k + m, none⟩ = some (.int .u64 ((Big.dig (Big.O A B k) (k + m) : Nat) : Int)) := by
            have := (HB.out.2.2.2.1.cell (k + m)).trans (arr5_at _ (k + m) hlm)
            unfold mid at this
            rw [if_neg (by omega)] at this
            exact this
          have f0 := HB.out.2.2.2.1.frozen (k + m)
          obtain ⟨x, ex⟩ : ∃ x, x = Big.dig A k := ⟨_, rfl⟩
          obtain ⟨y, ey⟩ : ∃ x, x = Big.dig B m := ⟨_, rfl⟩
          obtain ⟨o, eo⟩ : ∃ x, x = Big.dig (Big.O A B k) (k + m) := ⟨_, rfl⟩
          obtain ⟨c, ec⟩ : ∃ x, x = Big.car A B k m := ⟨_, rfl⟩
          obtain ⟨c', ec'⟩ : ∃ x, x = Big.car A B k (m + 1) := ⟨_, rfl⟩
          rw [← ex] at a0 hx hd hcs
          rw [← ey] at b0 hy hd hcs
          rw [← eo] at o0 ho hd hcs
          rw [← ec] at hc hd hcs ⊢
          rw [← ec'] at hcs hc1
          have HC' := hide ec'
          obtain ⟨p, hp⟩ : ∃ p, p = x * y := ⟨_, rfl⟩
          have hpl : p ≤ 4294967295 * 4294967295 := by rw [hp]; exact Nat.mul_le_mul (by omega) (by omega)
          have hpI : (x : Int) * (y : Int) = (p : Int) := by rw [hp]; push_cast; rfl
          rw [← hp] at hd hcs
          obtain ⟨s, hs⟩ : ∃ s, s = o + p % 4294967296 + c := ⟨_, rfl⟩
          rw [← hs] at hd hcs
          have s0 : IntKind.u64.wrap ((x : Int) * (y : Int)) = (p : Int) := by rw [IntKind.wrap_u64, hpI]; omega
          have s1 : IntKind.u64.wrap ((o : Int) + (p : Int) % 4294967296) = (o : Int) + (p : Int) % 4294967296 := by rw [IntKind.wrap_u64]; omega
          have s2 : IntKind.u64.wrap ((o : Int) + (p : Int) % 4294967296 + (c : Int)) = (s : Int) := by rw [IntKind.wrap_u64]; omega
          have s3 : IntKind.u64.wrap ((p : Int) / 4294967296 + (s : Int) / 4294967296) = (c' : Int) := by rw [IntKind.wrap_u64]; omega
          have s4 : IntKind.u64.wrap ((p : Int) / 4294967296) = (p : Int) / 4294967296 := by rw [IntKind.wrap_u64]; omega
          have HD : Hid ((s : Int) % 4294967296 = ((Big.dig (Big.T A B k (m + 1)) (k + m) : Nat) : Int)) := by show _ = _; rw [← hd]; omega
          have hsl : s ≤ 18446744073709551615 := by omega
          have hk5 : (k : Int) < 5 := by omega
          have hm5 : (m : Int) < 5 := by omega
          have hkm : ((k : Int) + (m : Int)).toNat = k + m := by omega
          have hkw : IntKind.i64.wrap ((k : Int) + (m : Int)) = (k : Int) + (m : Int) := IntWalk.i64_in _ (by omega)
          have hk0 : 0 ≤ (k : Int) + (m : Int) := by omega
          clear ex ey eo ec ec' hp hs hd hcs hpI hpl
          go_wp2_with fail
          go_quiet (fail)
          go_wp2_with fail
          go_quiet (fail)
          clear s0 s1 s2 s3 s4
          go_wp2_with fail
          rw [HD.out]
          go_roundw
          case rel =>
            refine ⟨m + 1, by omega, by go_num, by rw [HC'.out], ?_⟩
            first
              | exact (HB.out.put _ (k + m) (Big.dig (Big.T A B k (m + 1)) (k + m)) hlm).fits fun q _ => mid_step A B k m q
              | (rw [World.drewN_drewN]; exact (HB.out.put _ (k + m) (Big.dig (Big.T A B k (m + 1)) (k + m)) hlm).fits fun q _ => mid_step A B k m q)
          case measure => simp [intOf]; omega
        · have hlmI : ¬ (k : Int) + (m : Int) < 5 := by omega
          have hlmD : decide ((k : Int) + (m : Int) < 5) = false := by simp; omega
          have HN := hide (HB.out.fits fun q hq => mid_end A B k m q (by omega) hq)
          go_wp2_with fail
          go_roundw
          case rel => exact ⟨k + 1, by omega, by go_num, HN.out⟩
          case measure => simp [intOf]; omega
    · obtain rfl : k = 5 := by omega
      obtain ⟨h1, h2, h3, h4, h5⟩ := HB.out
      rw [HE.out] at h4
      rw [HZ.out] at h3
      obtain ⟨o0, o1, o2, o3, o4⟩ := h4.c5
      have a0 : wr.cell? ⟨w.heap.size, 0, none⟩ = some (.bool na) := h1.cell 0
      have b0 : wr.cell? ⟨w.heap.size + 1, 0, none⟩ = some (.bool nb) := h2.cell 0
      have r0 : wr.cell? ⟨w.heap.size + 1 + 1, 0, none⟩ = some (.bool false) := h3.cell 0
      have r1 : wr.cell? ⟨w.heap.size + 1 + 1, 1, none⟩ = some (.int .u64 0) := h3.cell 1
      have r2 : wr.cell? ⟨w.heap.size + 1 + 1, 2, none⟩ = some (.int .u64 0) := h3.cell 2
      have r3 : wr.cell? ⟨w.heap.size + 1 + 1, 3, none⟩ = some (.int .u64 0) := h3.cell 3
      have r4 : wr.cell? ⟨w.heap.size + 1 + 1, 4, none⟩ = some (.int .u64 0) := h3.cell 4
      have r5 : wr.cell? ⟨w.heap.size + 1 + 1, 5, none⟩ = some (.int .u64 0) := h3.cell 5
      obtain ⟨f0, f1, f2, f3, f4⟩ := h3.f5
      have f5 := h3.frozen 5
      have hl := h3.lt
      have HB5 := hide h5
      clear HB h1 h2 h3 h4 h5
      go_wp2_with fail
      refine bodyPost_ret (v := .agg (G6 (na != nb) (A * B))) (by cases na <;> cases nb <;> simp [results, Tryd.results64, go_sem, r0, r1, r2, r3, r4, r5, G6]) rfl ⟨rfl, below_six HB5.out (by omega) _ _ _ _ _ _⟩
end Go.Proofs.YthmlfbbbcmmhdaaDoor
