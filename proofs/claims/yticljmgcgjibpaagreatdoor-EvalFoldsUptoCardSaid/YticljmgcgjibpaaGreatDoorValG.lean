/-
  The walks of package value: the function literal of sum. Conditions: numbers within 64 bits.
-/
import Derived.Test.YticljmgcgjibpaaGreatDoorValC
namespace Go.Proofs.YticljmgcgjibpaaGreatDoor
open Go.RowKit

/-- What a value comes to, in units of a kind. -/
def unitOf (k : UInt8) (n : Int) (kd : Nat) (sg : Int) : Int := if k.toNat = kd then n * sg else n * (sg * 10000)
theorem mul_bd {n m : Int} (h0 : -9223372036854775808 ≤ n) (h1 : n ≤ 9223372036854775807) (hm : m.natAbs ≤ 10000) : -92233720368547758080000 ≤ n * m ∧ n * m ≤ 92233720368547758080000 := by
  have h2 := Nat.mul_le_mul (show n.natAbs ≤ 9223372036854775808 by omega) hm
  rw [← Int.natAbs_mul] at h2
  omega
set_option maxRecDepth 8000 in
set_option maxHeartbeats 1600000 in
theorem unit_any (k : UInt8) (n : Int) (s : ByteArray) (kd g : Nat) (sg : Int) (w : World) (h0 : -9223372036854775808 ≤ n) (h1 : n ≤ 9223372036854775807) (hsg : sg = 1 ∨ sg = -1) (hg : w.cell? ⟨g, 0, none⟩ = some (.int .u8 (kd : Int))) :
    Calls Tryz.prog 90 #[.agg #[.int .u8 (k.toNat : Int), .int .i64 n, .string s], .int .i64 sg, .pointer (some ⟨g, 0, none⟩)] w fun e w' => e = .returned (.agg (wideA (unitOf k n kd sg))) ∧ Below w.heap.size w w' := by
  have hgl : g < w.heap.size := World.block_lt_of_cell? w ⟨g, 0, none⟩ hg
  obtain ⟨X, hX⟩ : ∃ X, X = unitOf k n kd sg := ⟨_, rfl⟩
  rw [← hX]
  unfold unitOf at hX
  have HX := hide hX
  clear hX
  have hs1 : -10000 ≤ sg ∧ sg ≤ 10000 := by omega
  obtain ⟨hs1, hs2⟩ := hs1
  have w1 : IntKind.i64.wrap (sg * 10000) = sg * 10000 := IntWalk.i64_in _ (by omega)
  obtain ⟨wz, hwz⟩ : ∃ x, x = (w.alloc (.cells #[.int .u8 (k.toNat : Int), .int .i64 n, .string s] 25)).alloc (.cells #[.int .i64 0, .int .u64 0] 98) := ⟨_, rfl⟩
  have HK : Hid (Blk wz (w.heap.size + 1) 98 #[.int .i64 0, .int .u64 0]) := by
    rw [hwz]
    have := Blk.new (w.alloc (.cells #[.int .u8 (k.toNat : Int), .int .i64 n, .string s] 25)) 98 #[.int .i64 0, .int .u64 0]
    show Blk _ _ _ _
    simpa using this
  have HB : Hid (Below w.heap.size w wz) := by rw [hwz]; exact ((Below.refl _ _).alloc (Nat.le_refl _) _).alloc (by simp) _
  have HW := hide hwz
  clear hwz
  by_cases hk : k.toNat = kd
  · have HF : Hid (X = n * sg) := HX.out.trans (if_pos hk)
    have t1 : ((k.toNat : Int) == (kd : Int)) = true := by simp; omega
    clear hk
    go_enter Tryz.func90, Tryz.ntmps90
    go_wp2_with fail
    rw [← HW.out]
    with_reducible refine (times_any n sg wz h0 h1 (by omega) (by omega)).mono ?_
    rintro e w2 ⟨rfl, hb2⟩
    rw [← HF.out]
    have hl := HK.out.lt
    have HK2 := hide (HK.out.below hb2 hl)
    have HB2 := hide (HB.out.trans (hb2.mono (by omega)))
    clear hb2
    have r0 : w2.cell? ⟨w.heap.size + 1, 0, none⟩ = some (.int .i64 0) := HK2.out.cell 0
    have r1 : w2.cell? ⟨w.heap.size + 1, 1, none⟩ = some (.int .u64 0) := HK2.out.cell 1
    have f0 := HK2.out.frozen 0
    have f1 := HK2.out.frozen 1
    have hl2 := HK2.out.lt
    unfold wideA
    go_wp2_with fail
    refine bodyPost_ret (v := .agg #[.int .i64 (X / 18446744073709551616), .int .u64 (X % 18446744073709551616)]) (by simp [results, Tryz.results90, go_sem, r0, r1]) rfl ⟨rfl, ?_⟩
    exact (HB2.out.setCell (show w.heap.size ≤ w.heap.size + 1 by omega) _).setCell (show w.heap.size ≤ w.heap.size + 1 by omega) _
  · have HF : Hid (X = n * (sg * 10000)) := HX.out.trans (if_neg hk)
    have t1 : ((k.toNat : Int) == (kd : Int)) = false := by simp; omega
    clear hk
    go_enter Tryz.func90, Tryz.ntmps90
    go_wp2_with fail
    rw [← HW.out]
    with_reducible refine (times_any n (sg * 10000) wz h0 h1 (by omega) (by omega)).mono ?_
    rintro e w2 ⟨rfl, hb2⟩
    rw [← HF.out]
    have hl := HK.out.lt
    have HK2 := hide (HK.out.below hb2 hl)
    have HB2 := hide (HB.out.trans (hb2.mono (by omega)))
    clear hb2
    have r0 : w2.cell? ⟨w.heap.size + 1, 0, none⟩ = some (.int .i64 0) := HK2.out.cell 0
    have r1 : w2.cell? ⟨w.heap.size + 1, 1, none⟩ = some (.int .u64 0) := HK2.out.cell 1
    have f0 := HK2.out.frozen 0
    have f1 := HK2.out.frozen 1
    have hl2 := HK2.out.lt
    unfold wideA
    go_wp2_with fail
    refine bodyPost_ret (v := .agg #[.int .i64 (X / 18446744073709551616), .int .u64 (X % 18446744073709551616)]) (by simp [results, Tryz.results90, go_sem, r0, r1]) rfl ⟨rfl, ?_⟩
    exact (HB2.out.setCell (show w.heap.size ≤ w.heap.size + 1 by omega) _).setCell (show w.heap.size ≤ w.heap.size + 1 by omega) _
end Go.Proofs.YticljmgcgjibpaaGreatDoor

/-
  The walks of package value: sum, Add, Sub. Conditions: numbers within 64 bits. (printed by vale.py)
-/
namespace Go.Proofs.YticljmgcgjibpaaGreatDoor
open Go.RowKit

/-- Beside the values' blocks that of the kind. -/
def SK (w wr : World) (k : UInt8) (n : Int) (s : ByteArray) (k' : UInt8) (n' : Int) (s' : ByteArray) (g kd : Nat) : Prop := V3 w wr k n s k' n' s' ∧ Blk wr g 23 #[.int .u8 (kd : Int)] ∧ w.heap.size + 1 + 1 < g
section
variable {w wr w' : World} {k : UInt8} {n : Int} {s : ByteArray} {k' : UInt8} {n' : Int} {s' : ByteArray} {g kd : Nat}
theorem SK.below (h : SK w wr k n s k' n' s' g kd) (hb : Below wr.heap.size wr w') : SK w w' k n s k' n' s' g kd := ⟨h.1.below hb, h.2.1.below hb h.2.1.lt, h.2.2⟩
theorem SK.drew (h : SK w wr k n s k' n' s' g kd) : SK w { wr with drawn := wr.drawn + 1 } k n s k' n' s' g kd := ⟨h.1.drew, h.2.1, h.2.2⟩
theorem SK.cell (h : SK w wr k n s k' n' s' g kd) : wr.cell? ⟨g, 0, none⟩ = some (.int .u8 (kd : Int)) := h.2.1.cell 0
end
def sumOf (a b : Cell.Val) (sg : Int) : Cell.Val × Nat := if sg = 1 then Val.add a b else Val.sub a b
theorem common_bad {a b : Cell.Val} (h : (commonOf a b).2 ≠ 0 ∨ (commonOf a b).1 = 0) (sg : Int) : sumOf a b sg = (Val.vz, (commonOf a b).2) := by
  unfold commonOf at h ⊢
  unfold sumOf Val.add Val.sub
  by_cases hc : (Val.asked a b).2 ≠ 0 ∨ (Val.asked a b).1 = true
  · rw [if_pos hc, if_pos hc, if_pos hc]
    split <;> rfl
  · exfalso
    rw [if_neg hc] at h
    have hz : (Val.asked a b).2 = 0 := Decidable.byContradiction fun h => hc (.inl h)
    have hn : (Val.asked a b).1 = false := by cases hq : (Val.asked a b).1 with | false => rfl | true => exact absurd (.inr hq) hc
    rcases h with h | h
    · exact h rfl
    · have hm : max a.k.toNat b.k.toNat = 0 := h
      unfold Val.asked at hz hn
      split at hz
      · cases hz
      · rename_i h1
        split at hz
        · cases hz
        · rename_i h2
          rw [if_neg h1, if_neg h2] at hn
          simp at hn
          omega

theorem asked_ok {a b : Cell.Val} (hz : (Val.asked a b).2 = 0) (hn : (Val.asked a b).1 = false) : (a.k.toNat = 2 ∨ a.k.toNat = 3) ∧ (b.k.toNat = 2 ∨ b.k.toNat = 3) := by
  unfold Val.asked at hz hn
  split at hz
  · cases hz
  · rename_i h1
    split at hz
    · cases hz
    · rename_i h2
      rw [if_neg h1, if_neg h2] at hn
      simp [Val.wrongKind, Val.numB] at h2 hn
      omega
theorem common_good {a b : Cell.Val} {kd : Nat} (h : commonOf a b = (kd, 0)) (hk : kd ≠ 0) (sg : Int) (hsg : sg = 1 ∨ sg = -1) : ∃ K : UInt8, K.toNat = kd ∧ sumOf a b sg = Val.answer K (unitOf a.k a.n kd 1 + unitOf b.k b.n kd sg) := by
  unfold commonOf at h
  by_cases hc : (Val.asked a b).2 ≠ 0 ∨ (Val.asked a b).1 = true
  · rw [if_pos hc] at h
    injection h with h _
    exact absurd h.symm hk
  · rw [if_neg hc] at h
    injection h with h _
    have hz : (Val.asked a b).2 = 0 := Decidable.byContradiction fun h => hc (.inl h)
    have hn : (Val.asked a b).1 = false := by cases hq : (Val.asked a b).1 with | false => rfl | true => exact absurd (.inr hq) hc
    obtain ⟨ha, hb⟩ := asked_ok hz hn
    unfold sumOf Val.add Val.sub
    rw [if_neg hc, if_neg hc]
    unfold unitOf Val.fixed
    rcases ha with ha | ha <;> rcases hb with hb | hb
    · refine ⟨2, by rw [← h, ha, hb]; rfl, ?_⟩
      rw [← h, ha, hb]
      rcases hsg with rfl | rfl <;> simp [Int.sub_eq_add_neg]
    · refine ⟨3, by rw [← h, ha, hb]; rfl, ?_⟩
      rw [← h, ha, hb]
      rcases hsg with rfl | rfl <;> simp [Int.sub_eq_add_neg]
    · refine ⟨3, by rw [← h, ha, hb]; rfl, ?_⟩
      rw [← h, ha, hb]
      rcases hsg with rfl | rfl
      · simp
      · simp [Int.sub_eq_add_neg]
        rw [show -(b.n * 10000) = b.n * -10000 by omega]
    · refine ⟨3, by rw [← h, ha, hb]; rfl, ?_⟩
      rw [← h, ha, hb]
      rcases hsg with rfl | rfl <;> simp [Int.sub_eq_add_neg]
theorem unit_bd (k : UInt8) {n : Int} (kd : Nat) {sg : Int} (h0 : -9223372036854775808 ≤ n) (h1 : n ≤ 9223372036854775807) (hsg : sg = 1 ∨ sg = -1) : -92233720368547758080000 ≤ unitOf k n kd sg ∧ unitOf k n kd sg ≤ 92233720368547758080000 := by
  unfold unitOf
  split
  · exact mul_bd h0 h1 (by omega)
  · exact mul_bd h0 h1 (by omega)

theorem comV_of {p : Nat × Nat} : comV p = .tuple #[.int .u8 ((p.1 : Nat) : Int), .int .i64 ((p.2 : Nat) : Int)] := rfl
set_option maxRecDepth 20000 in
set_option maxHeartbeats 3200000 in
theorem sum_any (k : UInt8) (n : Int) (s : ByteArray) (k' : UInt8) (n' : Int) (s' : ByteArray) (sg : Int) (w : World) (h0 : -9223372036854775808 ≤ n) (h1 : n ≤ 9223372036854775807) (h0' : -9223372036854775808 ≤ n') (h1' : n' ≤ 9223372036854775807) (hsg : sg = 1 ∨ sg = -1) :
    Calls Tryz.prog 76 #[.agg #[.int .u8 (k.toNat : Int), .int .i64 n, .string s], .agg #[.int .u8 (k'.toNat : Int), .int .i64 n', .string s'], .int .i64 sg] w fun e w' => e = .returned (ansV (sumOf ⟨k, n, s⟩ ⟨k', n', s'⟩ sg)) ∧ Below w.heap.size w w' := by
  have HN := hide (V3.new w k n s k' n' s')
  obtain ⟨p, hp⟩ : ∃ p, p = sumOf ⟨k, n, s⟩ ⟨k', n', s'⟩ sg := ⟨_, rfl⟩
  rw [← hp]
  obtain ⟨kd, er, hc⟩ : ∃ kd er, commonOf ⟨k, n, s⟩ ⟨k', n', s'⟩ = (kd, er) := ⟨_, _, rfl⟩
  have HC := hide hc
  have HP := hide hp
  clear hp hc
  go_enter Tryz.func76, Tryz.ntmps76
  go_wp2_with fail
  obtain ⟨w0, hw0⟩ : ∃ x, x = ((w.alloc (.cells #[.int .u8 (k.toNat : Int), .int .i64 n, .string s] 25)).alloc (.cells #[.int .u8 (k'.toNat : Int), .int .i64 n', .string s'] 25)).alloc (.cells #[.int .u8 0, .int .i64 0, .string ⟨#[]⟩] 25) := ⟨_, rfl⟩
  rw [← hw0] at HN ⊢
  clear hw0
  with_reducible refine (common_any k n s k' n' s' w0).mono ?_
  rintro e w1 ⟨rfl, hb1⟩
  replace HN := hide (HN.out.below hb1)
  clear hb1
  rw [HC.out]
  unfold comV
  simp only
  by_cases hbad : er ≠ 0 ∨ kd = 0
  · have HF : Hid (p = (Val.vz, er)) := by
      show _ = _
      have := common_bad (a := ⟨k, n, s⟩) (b := ⟨k', n', s'⟩) (by rw [HC.out]; exact hbad) sg
      rw [HC.out] at this
      exact HP.out.trans this
    obtain ⟨r0, r1, r2⟩ := HN.out.2.2.1.c3
    obtain ⟨f0, f1, f2⟩ := HN.out.2.2.1.f3
    have hl := HN.out.size
    by_cases he : er = 0
    · subst he
      obtain rfl : kd = 0 := by simpa using hbad
      clear hbad
      go_wp2_with fail
      refine bodyPost_ret (v := ansV p) (by rw [HF.out]; simp [results, Tryz.results76, go_sem, r0, r1, r2, ansV, valV, Val.vz, hl]) rfl ⟨rfl, (below_three (g := w.heap.size + 1 + 1) HN.out.2.2.2 (by omega) _ _ _).alloc (by simp; omega) _⟩
    · have te : ((er : Int) != 0) = true := by simp; exact he
      clear hbad he
      go_wp2_with fail
      refine bodyPost_ret (v := ansV p) (by rw [HF.out]; simp [results, Tryz.results76, go_sem, r0, r1, r2, ansV, valV, Val.vz, hl]) rfl ⟨rfl, (below_three (g := w.heap.size + 1 + 1) HN.out.2.2.2 (by omega) _ _ _).alloc (by simp; omega) _⟩
  · obtain ⟨rfl, hk0⟩ : er = 0 ∧ kd ≠ 0 := ⟨Decidable.byContradiction fun h => hbad (.inl h), fun h => hbad (.inr h)⟩
    obtain ⟨K, hK, hsum⟩ := common_good HC.out hk0 sg hsg
    have HK := hide hK
    have HF : Hid (p = Val.answer K (unitOf k n kd 1 + unitOf k' n' kd sg)) := HP.out.trans hsum
    obtain ⟨u1, u2⟩ := unit_bd k kd h0 h1 (.inl rfl)
    obtain ⟨u3, u4⟩ := unit_bd k' kd h0' h1' hsg
    have tk : ((kd : Int) == 0) = false := by simp; omega
    clear hbad hk0 hK hsum HC HP
    go_upto_region 5 with fail
    obtain ⟨w2, hw2⟩ : ∃ x, x = w1.alloc (.cells #[.int .u8 (kd : Int)] 23) := ⟨_, rfl⟩
    obtain ⟨g, hg⟩ : ∃ g, g = w1.heap.size := ⟨_, rfl⟩
    rw [← hw2, ← hg]
    have HS : Hid (SK w w2 k n s k' n' s' g kd) := by
      have hz := HN.out.size
      rw [hw2, hg]
      exact ⟨HN.out.below ((Below.refl _ _).alloc (Nat.le_refl _) _), Blk.new _ _ _, hz⟩
    clear hw2 hg HN
    refine wp_region_flow (fun w' => SK w w' k n s k' n' s' g kd) 12 (by kernel_rfl) (by kernel_rfl) HS.out.drew ?_
    simp only [List.take_succ_cons, List.take_zero, List.drop_succ_cons, List.drop_zero]
    refine wpFlow_read ?_ rfl (fun w' hS => ?_) ?_
    rotate_left
    · obtain ⟨a0, a1, a2⟩ := hS.1.1.c3
      obtain ⟨b0, b1, b2⟩ := hS.1.2.1.c3
      have c0 := hS.cell
      go_simp
      rfl
    refine wpFlow_read ?_ rfl (fun w' hS => ?_) ?_
    rotate_left
    · go_simp
      rfl
    refine wpFlow_read ?_ rfl (fun w' hS => ?_) ?_
    rotate_left
    · obtain ⟨a0, a1, a2⟩ := hS.1.1.c3
      obtain ⟨b0, b1, b2⟩ := hS.1.2.1.c3
      have c0 := hS.cell
      go_simp
      rfl
    refine wpFlow_call _ _ _ rfl (fun w' hS => ?_) (fun w' (hS : (fun w' => SK w w' k n s k' n' s' g kd) w') => ((unit_any k n s kd g 1 w' h0 h1 (.inl rfl) hS.cell).mono fun e w2 hp => ⟨hp.1, hS.below hp.2⟩)) ?_
    · go_simp
    refine wpFlow_read ?_ rfl (fun w' hS => ?_) ?_
    rotate_left
    · go_simp
      rfl
    refine wpFlow_read ?_ rfl (fun w' hS => ?_) ?_
    rotate_left
    · obtain ⟨a0, a1, a2⟩ := hS.1.1.c3
      obtain ⟨b0, b1, b2⟩ := hS.1.2.1.c3
      have c0 := hS.cell
      go_simp
      rfl
    refine wpFlow_read ?_ rfl (fun w' hS => ?_) ?_
    rotate_left
    · go_simp
      rfl
    refine wpFlow_call _ _ _ rfl (fun w' hS => ?_) (fun w' (hS : (fun w' => SK w w' k n s k' n' s' g kd) w') => ((unit_any k' n' s' kd g sg w' h0' h1' hsg hS.cell).mono fun e w2 hp => ⟨hp.1, hS.below hp.2⟩)) ?_
    · go_simp
    refine wpFlow_call _ _ _ rfl (fun w' hS => ?_) (fun w' (hS : (fun w' => SK w w' k n s k' n' s' g kd) w') => ((wplus_any (unitOf k n kd 1) (unitOf k' n' kd sg) w' (by omega) (by omega) (by omega) (by omega)).mono fun e w2 hp => ⟨hp.1, hS.below hp.2⟩)) ?_
    · go_simp
    refine wpFlow_call _ _ _ rfl (fun w' hS => ?_) (fun w' (hS : (fun w' => SK w w' k n s k' n' s' g kd) w') => ((fitting_any K (kd : Int) (by rw [HK.out]) (unitOf k n kd 1 + unitOf k' n' kd sg) w' (by omega) (by omega)).mono fun e w2 hp => ⟨hp.1, hS.below hp.2⟩)) ?_
    · go_simp
    unfold ansV valV
    refine wpFlow_read ?_ rfl (fun w' hS => ?_) ?_
    rotate_left
    · go_simp
      rfl
    refine wpFlow_read ?_ rfl (fun w' hS => ?_) ?_
    rotate_left
    · go_simp
      rfl
    refine wpFlow_nil fun w2 hS => ?_
    have HV := hide hS.1
    clear hS
    obtain ⟨r0, r1, r2⟩ := HV.out.2.2.1.c3
    obtain ⟨f0, f1, f2⟩ := HV.out.2.2.1.f3
    have hl := HV.out.size
    go_frame
    go_wp2_with fail
    refine bodyPost_ret (v := ansV p) (by rw [HF.out]; simp [results, Tryz.results76, go_sem, r0, r1, r2, ansV, valV]) rfl ⟨rfl, below_three HV.out.2.2.2 (by omega) _ _ _⟩
end Go.Proofs.YticljmgcgjibpaaGreatDoor

/-
  The walks of package value: Add, Sub, Neg. Conditions: numbers within 64 bits. (printed by valf.py)
-/
namespace Go.Proofs.YticljmgcgjibpaaGreatDoor
open Go.RowKit

set_option maxRecDepth 8000 in
set_option maxHeartbeats 1600000 in
theorem vAdd_any (k : UInt8) (n : Int) (s : ByteArray) (k' : UInt8) (n' : Int) (s' : ByteArray) (w : World) (h0 : -9223372036854775808 ≤ n) (h1 : n ≤ 9223372036854775807) (h0' : -9223372036854775808 ≤ n') (h1' : n' ≤ 9223372036854775807) :
    Calls Tryz.prog 39 #[.agg #[.int .u8 (k.toNat : Int), .int .i64 n, .string s], .agg #[.int .u8 (k'.toNat : Int), .int .i64 n', .string s']] w fun e w' => e = .returned (ansV (Val.add ⟨k, n, s⟩ ⟨k', n', s'⟩)) ∧ Below w.heap.size w w' := by
  have HN := hide (V3.new w k n s k' n' s')
  obtain ⟨p, hp⟩ : ∃ p, p = Val.add ⟨k, n, s⟩ ⟨k', n', s'⟩ := ⟨_, rfl⟩
  rw [← hp]
  have HP : Hid (sumOf ⟨k, n, s⟩ ⟨k', n', s'⟩ 1 = p) := by
    show _ = _
    rw [hp]
    unfold sumOf
    simp
  clear hp
  go_enter Tryz.func39, Tryz.ntmps39
  go_wp2_with fail
  obtain ⟨w0, hw0⟩ : ∃ x, x = ((w.alloc (.cells #[.int .u8 (k.toNat : Int), .int .i64 n, .string s] 25)).alloc (.cells #[.int .u8 (k'.toNat : Int), .int .i64 n', .string s'] 25)).alloc (.cells #[.int .u8 0, .int .i64 0, .string ⟨#[]⟩] 25) := ⟨_, rfl⟩
  rw [← hw0] at HN ⊢
  clear hw0
  with_reducible refine (sum_any k n s k' n' s' 1 w0 h0 h1 h0' h1' (by simp)).mono ?_
  rintro e w1 ⟨rfl, hb1⟩
  replace HN := hide (HN.out.below hb1)
  clear hb1
  rw [HP.out]
  obtain ⟨pv, pe⟩ := p
  unfold ansV valV
  simp only
  obtain ⟨r0, r1, r2⟩ := HN.out.2.2.1.c3
  obtain ⟨f0, f1, f2⟩ := HN.out.2.2.1.f3
  have hl := HN.out.size
  go_wp2_with fail
  refine bodyPost_ret (v := .tuple #[.agg #[.int .u8 (pv.k.toNat : Int), .int .i64 pv.n, .string pv.s], .int .i64 ((pe : Nat) : Int)]) (by simp [results, Tryz.results39, go_sem, r0, r1, r2]) rfl ⟨rfl, below_three HN.out.2.2.2 (by omega) _ _ _⟩

set_option maxRecDepth 8000 in
set_option maxHeartbeats 1600000 in
theorem vSub_any (k : UInt8) (n : Int) (s : ByteArray) (k' : UInt8) (n' : Int) (s' : ByteArray) (w : World) (h0 : -9223372036854775808 ≤ n) (h1 : n ≤ 9223372036854775807) (h0' : -9223372036854775808 ≤ n') (h1' : n' ≤ 9223372036854775807) :
    Calls Tryz.prog 47 #[.agg #[.int .u8 (k.toNat : Int), .int .i64 n, .string s], .agg #[.int .u8 (k'.toNat : Int), .int .i64 n', .string s']] w fun e w' => e = .returned (ansV (Val.sub ⟨k, n, s⟩ ⟨k', n', s'⟩)) ∧ Below w.heap.size w w' := by
  have HN := hide (V3.new w k n s k' n' s')
  obtain ⟨p, hp⟩ : ∃ p, p = Val.sub ⟨k, n, s⟩ ⟨k', n', s'⟩ := ⟨_, rfl⟩
  rw [← hp]
  have HP : Hid (sumOf ⟨k, n, s⟩ ⟨k', n', s'⟩ (-1) = p) := by
    show _ = _
    rw [hp]
    unfold sumOf
    simp
  clear hp
  go_enter Tryz.func47, Tryz.ntmps47
  go_wp2_with fail
  obtain ⟨w0, hw0⟩ : ∃ x, x = ((w.alloc (.cells #[.int .u8 (k.toNat : Int), .int .i64 n, .string s] 25)).alloc (.cells #[.int .u8 (k'.toNat : Int), .int .i64 n', .string s'] 25)).alloc (.cells #[.int .u8 0, .int .i64 0, .string ⟨#[]⟩] 25) := ⟨_, rfl⟩
  rw [← hw0] at HN ⊢
  clear hw0
  with_reducible refine (sum_any k n s k' n' s' (-1) w0 h0 h1 h0' h1' (by simp)).mono ?_
  rintro e w1 ⟨rfl, hb1⟩
  replace HN := hide (HN.out.below hb1)
  clear hb1
  rw [HP.out]
  obtain ⟨pv, pe⟩ := p
  unfold ansV valV
  simp only
  obtain ⟨r0, r1, r2⟩ := HN.out.2.2.1.c3
  obtain ⟨f0, f1, f2⟩ := HN.out.2.2.1.f3
  have hl := HN.out.size
  go_wp2_with fail
  refine bodyPost_ret (v := .tuple #[.agg #[.int .u8 (pv.k.toNat : Int), .int .i64 pv.n, .string pv.s], .int .i64 ((pe : Nat) : Int)]) (by simp [results, Tryz.results47, go_sem, r0, r1, r2]) rfl ⟨rfl, below_three HN.out.2.2.2 (by omega) _ _ _⟩

end Go.Proofs.YticljmgcgjibpaaGreatDoor

/-
  The walk of value.Neg. Conditions: numbers within 64 bits. (printed by valg.py)
-/
namespace Go.Proofs.YticljmgcgjibpaaGreatDoor
open Go.RowKit

theorem common_self (a : Cell.Val) : commonOf a a = if (Val.asked a Val.vz).2 ≠ 0 ∨ a.k.toNat = 0 then (0, (Val.asked a Val.vz).2) else (a.k.toNat, 0) := by
  unfold commonOf Val.asked Val.bothRight
  have hz : Cell.rightB Val.vz = true := by decide
  have hw : Val.wrongKind Val.vz = false := by decide
  rw [hz, hw]
  cases Cell.rightB a <;> cases Val.wrongKind a <;> simp [Val.vz]
set_option maxRecDepth 8000 in
set_option maxHeartbeats 3200000 in
theorem vNeg_any (k : UInt8) (n : Int) (s : ByteArray) (w : World) (h0 : -9223372036854775808 ≤ n) (h1 : n ≤ 9223372036854775807) :
    Calls Tryz.prog 46 #[.agg #[.int .u8 (k.toNat : Int), .int .i64 n, .string s]] w fun e w' => e = .returned (ansV (Val.neg ⟨k, n, s⟩)) ∧ Below w.heap.size w w' := by
  have HN := hide (NV.new w k n s)
  obtain ⟨p, hp⟩ : ∃ p, p = Val.neg ⟨k, n, s⟩ := ⟨_, rfl⟩
  rw [← hp]
  unfold Val.neg at hp
  have hc := common_self ⟨k, n, s⟩
  simp only at hc hp
  obtain ⟨er, her⟩ : ∃ e, e = (Val.asked ⟨k, n, s⟩ Val.vz).2 := ⟨_, rfl⟩
  rw [← her] at hc hp
  have HC := hide hc
  have HP := hide hp
  clear hp hc her
  go_enter Tryz.func46, Tryz.ntmps46
  go_wp2_with fail
  obtain ⟨w0, hw0⟩ : ∃ x, x = (w.alloc (.cells #[.int .u8 (k.toNat : Int), .int .i64 n, .string s] 25)).alloc (.cells #[.int .u8 0, .int .i64 0, .string ⟨#[]⟩] 25) := ⟨_, rfl⟩
  rw [← hw0] at HN ⊢
  clear hw0
  with_reducible refine (common_any k n s k n s w0).mono ?_
  rintro e w1 ⟨rfl, hb1⟩
  replace HN := hide (HN.out.below hb1)
  clear hb1
  rw [HC.out]
  obtain ⟨a0, a1, a2⟩ := HN.out.1.c3
  obtain ⟨r0, r1, r2⟩ := HN.out.2.1.c3
  obtain ⟨f0, f1, f2⟩ := HN.out.2.1.f3
  have hl := HN.out.size
  by_cases hbad : er ≠ 0 ∨ k.toNat = 0
  · have HF : Hid (p = (Val.vz, er)) := HP.out.trans (if_pos hbad)
    rw [if_pos hbad]
    unfold comV
    simp only
    by_cases he : er = 0
    · subst he
      clear hbad
      go_wp2_with fail
      refine bodyPost_ret (v := ansV p) (by rw [HF.out]; simp [results, Tryz.results46, go_sem, r0, r1, r2, ansV, valV, Val.vz]) rfl ⟨rfl, below_three HN.out.2.2 (by omega) _ _ _⟩
    · have te : ((er : Int) != 0) = true := by simp; exact he
      clear hbad he
      go_wp2_with fail
      refine bodyPost_ret (v := ansV p) (by rw [HF.out]; simp [results, Tryz.results46, go_sem, r0, r1, r2, ansV, valV, Val.vz]) rfl ⟨rfl, below_three HN.out.2.2 (by omega) _ _ _⟩
  · have HF : Hid (p = Val.answer k (-n)) := by
      show _ = _
      rw [HP.out, if_neg hbad]
    rw [if_neg hbad]
    unfold comV
    simp only
    obtain ⟨rfl, hk0⟩ : er = 0 ∧ k.toNat ≠ 0 := ⟨Decidable.byContradiction fun h => hbad (.inl h), fun h => hbad (.inr h)⟩
    have tk : ((k.toNat : Int) == 0) = false := by simp; omega
    clear hbad hk0
    go_wp2_with fail
    with_reducible refine (times_any n (-1) w1 h0 h1 (by omega) (by omega)).mono ?_
    rintro e w2 ⟨rfl, hb2⟩
    replace HN := hide (HN.out.below hb2)
    clear hb2 a0 a1 a2 r0 r1 r2 f0 f1 f2 hl
    go_wp2_with fail
    with_reducible refine (fitting_any k _ rfl (-n) w2 (by omega) (by omega)).mono ?_
    rintro e w3 ⟨rfl, hb3⟩
    replace HN := hide (HN.out.below hb3)
    clear hb3
    rw [← HF.out]
    obtain ⟨pv, pe⟩ := p
    unfold ansV valV
    simp only
    obtain ⟨r0, r1, r2⟩ := HN.out.2.1.c3
    obtain ⟨f0, f1, f2⟩ := HN.out.2.1.f3
    have hl := HN.out.size
    go_wp2_with fail
    refine bodyPost_ret (v := .tuple #[.agg #[.int .u8 (pv.k.toNat : Int), .int .i64 pv.n, .string pv.s], .int .i64 ((pe : Nat) : Int)]) (by simp [results, Tryz.results46, go_sem, r0, r1, r2]) rfl ⟨rfl, below_three HN.out.2.2 (by omega) _ _ _⟩

end Go.Proofs.YticljmgcgjibpaaGreatDoor
