/-
  The walks of value.decimalText and value.Print. Conditions: the library's tables are as listed.
-/
import Derived.Test.YthmlfbbbcmmhdaaDoorPrtB
import Derived.Test.YthmlfbbbcmmhdaaDoorPrtRep
import Derived.Test.YthmlfbbbcmmhdaaDoorFmtU
import Derived.Test.YthmlfbbbcmmhdaaDoorValA
namespace Go.Proofs.YthmlfbbbcmmhdaaDoor
open Go.RowKit

/-- The variables that stand under the program. -/
structure Env (w : World) (m : Int) : Prop where
  num : w.cell? ⟨(3 : Nat), 0, none⟩ = some (.int .i64 m)
  pow : Pow w
  and_ : TAnd w
theorem Env.below {w w' : World} {m : Int} {C : Nat} (h : Env w m) (hb : Below C w w') (hC : w.heap.size ≤ C) : Env w' m := by
  have h3 := World.block_lt_of_cell? w ⟨(3 : Nat), 0, none⟩ h.num
  have h1 := h.and_.lt
  exact ⟨(hb.cell (p := ⟨(3 : Nat), 0, none⟩) (Nat.lt_of_lt_of_le h3 hC)).trans h.num, h.pow.below hb hC, h.and_.below hb (by omega)⟩
theorem Env.alloc {w : World} {m : Int} (h : Env w m) (o : Obj) : Env (w.alloc o) m := h.below ((Below.refl _ _).alloc (Nat.le_refl _) o) (Nat.le_refl _)
theorem Env.drew {w : World} {m : Int} (h : Env w m) : Env { w with drawn := w.drawn + 1 } m := h.below (Below.refl w.heap.size w).drew (Nat.le_refl _)
theorem Env.drewN {w : World} {m : Int} (h : Env w m) (q : Nat) : Env (w.drewN q) m := h.below (below_drewN (Below.refl w.heap.size w) q) (Nat.le_refl _)
theorem str_len' {a : ByteArray} {l : List UInt8} (h : a.data.toList = l) : a.size = l.length := by rw [← h, Array.length_toList]; rfl
theorem ext_one (T : ByteArray) : (T.extract 1 T.size).data.toList = T.data.toList.drop 1 := by
  rw [ByteArray.data_extract, Array.toList_extract]
  simp only [List.extract_eq_take_drop]
  rw [List.take_of_length_le]
  rw [List.length_drop, Array.length_toList]
  exact Nat.le_refl _
set_option maxRecDepth 8000 in
set_option maxHeartbeats 1600000 in
theorem decimalText_any (n : Int) (w : World) (hE : Pow w) (h0 : -9223372036854775808 ≤ n) (h1 : n ≤ 9223372036854775807) :
    Calls Tryd.prog 52 #[.int .i64 n] w fun e w' => e = .returned (.string ⟨(Prt.decTxt n).toArray⟩) ∧ Below w.heap.size w w' := by
  have HE := hide hE
  have HS := hide (size_any n · h0 h1)
  obtain ⟨u, hu⟩ : ∃ u, u = n.natAbs := ⟨_, rfl⟩
  rw [← hu] at HS
  have hul : u ≤ 9223372036854775808 := by omega
  obtain ⟨f, hf⟩ : ∃ f, f = u % 10000 + 10000 := ⟨_, rfl⟩
  obtain ⟨q, hq⟩ : ∃ f, f = u / 10000 := ⟨_, rfl⟩
  have HFm := hide (fmtu_any f (by omega))
  have HQm := hide (fmtu_any q (by omega))
  obtain ⟨T, hT⟩ : ∃ T : ByteArray, T = ⟨(Lib.decDigits f).toArray⟩ := ⟨_, rfl⟩
  obtain ⟨Q, hQ⟩ : ∃ T : ByteArray, T = ⟨(Lib.decDigits q).toArray⟩ := ⟨_, rfl⟩
  rw [← hT] at HFm
  rw [← hQ] at HQm
  have hTl : T.data.toList = Lib.decDigits f := by rw [hT]
  have hQl : Q.data.toList = Lib.decDigits q := by rw [hQ]
  have hT5 : T.size = 5 := by rw [str_len' hTl, Lib.decDigits_length, Lib.nDigits_unique 4 _ (by omega) (by omega)]
  have hQ20 : Q.size ≤ 20 := by rw [str_len' hQl, Lib.decDigits_length]; exact Lib.nDigits_le20 _ (by omega)
  have hT1 : 1 ≤ T.size := by omega
  have hT6 : T.size ≤ 5 := by omega
  have e1 : (u : Int) % 10000 + 10000 = (f : Int) := by omega
  have e2 : (u : Int) / 10000 = (q : Int) := by omega
  have wq : IntKind.u64.wrap (q : Int) = (q : Int) := by rw [IntKind.wrap_u64]; omega
  have HF := hide hf
  have HQ := hide hq
  have HT5 := hide hT5
  have HTl := hide hTl
  have HQl := hide hQl
  have HU := hide hu
  clear hE hT hQ hTl hQl hT5 hu hf hq
  by_cases hn : n < 0
  · have t1 : decide (n < 0) = true := by simp; omega
    have HM : Hid (Prt.minus n = [45]) := if_pos hn
    clear hn h0 h1 hul
    go_enter Tryd.func52, Tryd.ntmps52
    go_wp2_with fail
    with_reducible refine (HS.out _).mono ?_
    rintro e w' ⟨rfl, rfl⟩
    go_wp2_with fail
    with_reducible refine (HFm.out _ HE.out).mono ?_
    rintro e w1 ⟨rfl, hb1⟩
    have HP : Hid (Pow w1 ∧ Below w.heap.size w w1) := ⟨HE.out.below hb1 (Nat.le_refl _), hb1⟩
    clear hb1
    go_wp2_with fail
    refine wp_region_flow (fun w' => Pow w' ∧ Below w.heap.size w w') 10 (by kernel_rfl) (by kernel_rfl) ⟨HP.out.1.below (Below.refl w1.heap.size w1).drew (Nat.le_refl _), HP.out.2.drew⟩ ?_
    simp only [List.take_succ_cons, List.take_zero, List.drop_succ_cons, List.drop_zero]
    refine wpFlow_read ?_ rfl (fun w' hS => ?_) ?_
    rotate_left
    · go_simp
      rfl
    refine wpFlow_read ?_ rfl (fun w' hS => ?_) ?_
    rotate_left
    · go_simp
      rfl
    refine wpFlow_call _ _ _ rfl (fun w' hS => ?_) (fun w' (hS : (fun w' => Pow w' ∧ Below w.heap.size w w') w') => ((HS.out w').mono fun e w2 hp => ⟨hp.1, hp.2 ▸ hS⟩)) ?_
    · go_simp
    refine wpFlow_read ?_ rfl (fun w' hS => ?_) ?_
    rotate_left
    · go_simp
      rfl
    refine wpFlow_call _ _ _ rfl (fun w' hS => ?_) (fun w' (hS : (fun w' => Pow w' ∧ Below w.heap.size w w') w') => ((HQm.out w' hS.1).mono fun e w2 hp => ⟨hp.1, ⟨hS.1.below hp.2 (Nat.le_refl _), hS.2.trans (hp.2.mono hS.2.size)⟩⟩)) ?_
    · go_simp
    refine wpFlow_read ?_ rfl (fun w' hS => ?_) ?_
    rotate_left
    · go_simp
      rw [if_neg (by omega)]
    refine wpFlow_read ?_ rfl (fun w' hS => ?_) ?_
    rotate_left
    · go_simp
      rw [if_neg (by omega)]
    refine wpFlow_read ?_ rfl (fun w' hS => ?_) ?_
    rotate_left
    · go_simp
      rfl
    refine wpFlow_read ?_ rfl (fun w' hS => ?_) ?_
    rotate_left
    · go_simp
      rw [if_pos (by omega)]
    refine wpFlow_read ?_ rfl (fun w' hS => ?_) ?_
    rotate_left
    · go_simp
      rw [if_neg (by omega)]
    refine wpFlow_nil fun w3 hS => ?_
    have HB := hide hS.2
    clear hS HP
    go_frame
    go_wp2_with fail
    go_ret
    refine ⟨?_, HB.out⟩
    show Ending.returned (.string (⟨#[45]⟩ ++ Q ++ ⟨#[46]⟩ ++ T.extract 1 T.size)) = _
    rw [ba_eq (a := ⟨#[45]⟩ ++ Q ++ ⟨#[46]⟩ ++ T.extract 1 T.size) (l := Prt.decTxt n)]
    unfold Prt.decTxt
    rw [HM.out, ← HU.out, ← Prt.four _ (Nat.mod_lt _ (by omega)), ← HF.out, ← HTl.out, ← HQ.out, ← HQl.out]
    simp [ByteArray.data_append]
    exact List.take_of_length_le (by rw [List.length_tail, Array.length_toList]; exact Nat.le_refl _)
  · have t1 : decide (n < 0) = false := by simp; omega
    have HM : Hid (Prt.minus n = []) := if_neg hn
    clear hn h0 h1 hul
    go_enter Tryd.func52, Tryd.ntmps52
    go_wp2_with fail
    with_reducible refine (HS.out _).mono ?_
    rintro e w' ⟨rfl, rfl⟩
    go_wp2_with fail
    with_reducible refine (HFm.out _ HE.out).mono ?_
    rintro e w1 ⟨rfl, hb1⟩
    have HP : Hid (Pow w1 ∧ Below w.heap.size w w1) := ⟨HE.out.below hb1 (Nat.le_refl _), hb1⟩
    clear hb1
    go_wp2_with fail
    refine wp_region_flow (fun w' => Pow w' ∧ Below w.heap.size w w') 10 (by kernel_rfl) (by kernel_rfl) ⟨HP.out.1.below (Below.refl w1.heap.size w1).drew (Nat.le_refl _), HP.out.2.drew⟩ ?_
    simp only [List.take_succ_cons, List.take_zero, List.drop_succ_cons, List.drop_zero]
    refine wpFlow_read ?_ rfl (fun w' hS => ?_) ?_
    rotate_left
    · go_simp
      rfl
    refine wpFlow_read ?_ rfl (fun w' hS => ?_) ?_
    rotate_left
    · go_simp
      rfl
    refine wpFlow_call _ _ _ rfl (fun w' hS => ?_) (fun w' (hS : (fun w' => Pow w' ∧ Below w.heap.size w w') w') => ((HS.out w').mono fun e w2 hp => ⟨hp.1, hp.2 ▸ hS⟩)) ?_
    · go_simp
    refine wpFlow_read ?_ rfl (fun w' hS => ?_) ?_
    rotate_left
    · go_simp
      rfl
    refine wpFlow_call _ _ _ rfl (fun w' hS => ?_) (fun w' (hS : (fun w' => Pow w' ∧ Below w.heap.size w w') w') => ((HQm.out w' hS.1).mono fun e w2 hp => ⟨hp.1, ⟨hS.1.below hp.2 (Nat.le_refl _), hS.2.trans (hp.2.mono hS.2.size)⟩⟩)) ?_
    · go_simp
    refine wpFlow_read ?_ rfl (fun w' hS => ?_) ?_
    rotate_left
    · go_simp
      rw [if_neg (by omega)]
    refine wpFlow_read ?_ rfl (fun w' hS => ?_) ?_
    rotate_left
    · go_simp
      rw [if_neg (by omega)]
    refine wpFlow_read ?_ rfl (fun w' hS => ?_) ?_
    rotate_left
    · go_simp
      rfl
    refine wpFlow_read ?_ rfl (fun w' hS => ?_) ?_
    rotate_left
    · go_simp
      rw [if_pos (by omega)]
    refine wpFlow_read ?_ rfl (fun w' hS => ?_) ?_
    rotate_left
    · go_simp
      rw [if_neg (by omega)]
    refine wpFlow_nil fun w3 hS => ?_
    have HB := hide hS.2
    clear hS HP
    go_frame
    go_wp2_with fail
    go_ret
    refine ⟨?_, HB.out⟩
    show Ending.returned (.string (⟨#[]⟩ ++ Q ++ ⟨#[46]⟩ ++ T.extract 1 T.size)) = _
    rw [ba_eq (a := ⟨#[]⟩ ++ Q ++ ⟨#[46]⟩ ++ T.extract 1 T.size) (l := Prt.decTxt n)]
    unfold Prt.decTxt
    rw [HM.out, ← HU.out, ← Prt.four _ (Nat.mod_lt _ (by omega)), ← HF.out, ← HTl.out, ← HQ.out, ← HQl.out]
    simp [ByteArray.data_append]
    exact List.take_of_length_le (by rw [List.length_tail, Array.length_toList]; exact Nat.le_refl _)
theorem repl_any (s : ByteArray) (m : Int) (Q : ByteArray) (w : World) (hs : s.size ≤ 200) (hQ : Q = ⟨(Prt.quo s.data.toList).toArray⟩) (hM : w.cell? ⟨(3 : Nat), 0, none⟩ = some (.int .i64 m)) :
    Calls Tryd.prog 53 #[.string s, .string ⟨#[39]⟩, .string ⟨#[39, 39]⟩] w fun e w' => e = .returned (.string Q) ∧ Below w.heap.size w w' := by
  subst hQ
  have hc : Lib.countB s ⟨#[39]⟩ ≤ s.size := by
    have := Prt.count_39 s.data.toList
    rw [Array.length_toList] at this
    exact this
  have h2 : (⟨#[39, 39]⟩ : ByteArray).size = 2 := rfl
  have := Tryd.strings_ReplaceAll s ⟨#[39]⟩ ⟨#[39, 39]⟩ m w (by omega) hM (by decide) (by rw [h2]; omega)
  rw [← Prt.quo_replace]
  exact this
theorem right_kind {k : UInt8} {n : Int} {s : ByteArray} (h : Cell.rightB ⟨k, n, s⟩ = true) : k.toNat ≤ 5 ∧ s.size ≤ 200 := by
  unfold Cell.rightB at h
  simp only at h
  split at h
  · rename_i e; rw [e]; simp only [Bool.and_eq_true, decide_eq_true_eq] at h; exact ⟨by omega, by omega⟩
  · rename_i e; rw [e]; simp only [Bool.and_eq_true, decide_eq_true_eq] at h; exact ⟨by omega, by omega⟩
  · rename_i e; rw [e]; simp only [decide_eq_true_eq] at h; exact ⟨by omega, by omega⟩
  · rename_i e; rw [e]; simp only [decide_eq_true_eq] at h; exact ⟨by omega, by omega⟩
  · rename_i e; rw [e]; simp only [Bool.and_eq_true, decide_eq_true_eq] at h; exact ⟨by omega, by omega⟩
  · rename_i e; rw [e]; simp only [Bool.and_eq_true, decide_eq_true_eq] at h; exact ⟨by omega, by omega⟩
  · cases h
theorem prt_of {v : Cell.Val} (h : Cell.rightB v = true) : Prt.prt v = if v.k.toNat = 0 then [110, 117, 108, 108] else if v.k.toNat = 1 then (if v.n = 1 then [116, 114, 117, 101] else [102, 97, 108, 115, 101]) else if v.k.toNat = 2 then Lib.itoa v.n else if v.k.toNat = 3 then Prt.decTxt v.n else if v.k.toNat = 4 then [39] ++ Prt.quo v.s.data.toList ++ [39] else [120, 39] ++ Prt.hexs v.s.data.toList ++ [39] := by
  unfold Prt.prt
  rw [if_neg (by rw [h]; simp)]
set_option maxRecDepth 8000 in
set_option maxHeartbeats 3200000 in
theorem vPrint_any (k : UInt8) (n : Int) (s : ByteArray) (m : Int) (w : World) (hE : Env w m) (h0 : -9223372036854775808 ≤ n) (h1 : n ≤ 9223372036854775807) :
    Calls Tryd.prog 16 #[.agg #[.int .u8 (k.toNat : Int), .int .i64 n, .string s]] w fun e w' => e = .returned (.string ⟨(Prt.prt ⟨k, n, s⟩).toArray⟩) ∧ Below w.heap.size w w' := by
  have HE := hide hE
  obtain ⟨p, hp⟩ : ∃ p, p = Prt.prt ⟨k, n, s⟩ := ⟨_, rfl⟩
  rw [← hp]
  have HP := hide hp
  have HN := hide (show Blk (w.alloc (.cells #[.int .u8 (k.toNat : Int), .int .i64 n, .string s] 25)) w.heap.size 25 #[.int .u8 (k.toNat : Int), .int .i64 n, .string s] from Blk.new _ _ _)
  have HB : Hid (Below w.heap.size w (w.alloc (.cells #[.int .u8 (k.toNat : Int), .int .i64 n, .string s] 25))) := (Below.refl _ _).alloc (Nat.le_refl _) _
  obtain ⟨r, hr⟩ : ∃ r, r = Cell.rightB ⟨k, n, s⟩ := ⟨_, rfl⟩
  have HR := hide hr
  clear hp hr hE
  go_enter Tryd.func16, Tryd.ntmps16
  go_wp2_with fail
  obtain ⟨w0, hw0⟩ : ∃ x, x = w.alloc (.cells #[.int .u8 (k.toNat : Int), .int .i64 n, .string s] 25) := ⟨_, rfl⟩
  rw [← hw0] at HN HB ⊢
  clear hw0
  with_reducible refine (right_any k n s w0).mono ?_
  rintro e w1 ⟨rfl, hb1⟩
  replace HB := hide (HB.out.trans (hb1.mono HB.out.size))
  replace HN := hide (HN.out.below hb1 HN.out.lt)
  replace HE := hide (HE.out.below HB.out (Nat.le_refl _))
  clear hb1
  rw [← HR.out]
  cases r with
  | false =>
    have HF : Hid (p = []) := HP.out.trans (if_pos HR.out.symm)
    go_wp2_with fail
    go_ret
    exact ⟨by rw [HF.out]; rfl, HB.out⟩
  | true =>
    have hP1 := HP.out.trans (prt_of HR.out.symm)
    simp only at hP1
    obtain ⟨hk, hs⟩ := right_kind HR.out.symm
    obtain ⟨a0, a1, a2⟩ := HN.out.c3
    obtain hk | hk | hk | hk | hk | hk : k.toNat = 0 ∨ k.toNat = 1 ∨ k.toNat = 2 ∨ k.toNat = 3 ∨ k.toNat = 4 ∨ k.toNat = 5 := by omega
    all_goals rw [hk] at hP1
    · have HF : Hid (p = [110, 117, 108, 108]) := hP1
      clear hP1
      have t1 : ((k.toNat : Int) == 1) = false := by simp; omega
      have t2 : ((k.toNat : Int) == 2) = false := by simp; omega
      have t3 : ((k.toNat : Int) == 3) = false := by simp; omega
      have t4 : ((k.toNat : Int) == 4) = false := by simp; omega
      have t5 : ((k.toNat : Int) == 5) = false := by simp; omega
      clear hk
      go_wp2_with fail
      go_ret
      exact ⟨by rw [HF.out]; rfl, HB.out⟩
    · have HF : Hid (p = if n = 1 then [116, 114, 117, 101] else [102, 97, 108, 115, 101]) := hP1
      clear hP1
      have t1 : ((k.toNat : Int) == 1) = true := by simp; omega
      clear hk
      go_wp2_with fail
      with_reducible refine (Tryd.strconv_FormatBool (n == 1) w1).mono ?_
      rintro e w2 ⟨rfl, rfl⟩
      go_wp2_with fail
      go_ret
      refine ⟨?_, HB.out⟩
      rw [HF.out]
      by_cases hn : n = 1
      · subst hn
        rfl
      · rw [if_neg hn, show (n == 1) = false by simpa using hn]
        rfl
    · have HF : Hid (p = Lib.itoa n) := hP1
      clear hP1
      have t1 : ((k.toNat : Int) == 1) = false := by simp; omega
      have t2 : ((k.toNat : Int) == 2) = true := by simp; omega
      clear hk
      go_wp2_with fail
      with_reducible refine (fmti_any n h0 h1 w1 HE.out.pow).mono ?_
      rintro e w2 ⟨rfl, hb2⟩
      replace HB := hide (HB.out.trans (hb2.mono HB.out.size))
      clear hb2
      go_wp2_with fail
      go_ret
      exact ⟨by rw [HF.out]; rfl, HB.out⟩
    · have HF : Hid (p = Prt.decTxt n) := hP1
      clear hP1
      have t1 : ((k.toNat : Int) == 1) = false := by simp; omega
      have t2 : ((k.toNat : Int) == 2) = false := by simp; omega
      have t3 : ((k.toNat : Int) == 3) = true := by simp; omega
      clear hk
      go_wp2_with fail
      with_reducible refine (decimalText_any n w1 HE.out.pow h0 h1).mono ?_
      rintro e w2 ⟨rfl, hb2⟩
      replace HB := hide (HB.out.trans (hb2.mono HB.out.size))
      clear hb2
      go_wp2_with fail
      go_ret
      exact ⟨by rw [HF.out]; rfl, HB.out⟩
    · have HF : Hid (p = [39] ++ Prt.quo s.data.toList ++ [39]) := hP1
      obtain ⟨Q, hQ⟩ : ∃ Q : ByteArray, Q = ⟨(Prt.quo s.data.toList).toArray⟩ := ⟨_, rfl⟩
      have hQl : Q.data.toList = Prt.quo s.data.toList := by rw [hQ]
      have hQs : Q.size ≤ 400 := by
        have := Prt.quo_len s.data.toList
        rw [← str_len' hQl, Array.length_toList] at this
        have e : s.data.size = s.size := rfl
        omega
      have HC := hide (repl_any s m Q w1 hs hQ HE.out.num)
      have HQl := hide hQl
      clear hP1 hQ hQl
      have t1 : ((k.toNat : Int) == 1) = false := by simp; omega
      have t2 : ((k.toNat : Int) == 2) = false := by simp; omega
      have t3 : ((k.toNat : Int) == 3) = false := by simp; omega
      have t4 : ((k.toNat : Int) == 4) = true := by simp; omega
      clear hk
      go_wp2_with fail
      with_reducible refine HC.out.mono ?_
      rintro e w2 ⟨rfl, hb2⟩
      replace HB := hide (HB.out.trans (hb2.mono HB.out.size))
      clear hb2
      go_wp2_with fail
      go_ret
      refine ⟨?_, HB.out⟩
      show Ending.returned (.string (⟨#[39]⟩ ++ Q ++ ⟨#[39]⟩)) = _
      rw [ba_eq (a := ⟨#[39]⟩ ++ Q ++ ⟨#[39]⟩) (l := p)]
      rw [HF.out, ← HQl.out]
      simp [ByteArray.data_append]
    · have HF : Hid (p = [120, 39] ++ Prt.hexs s.data.toList ++ [39]) := hP1
      obtain ⟨Q, hQ⟩ : ∃ Q : ByteArray, Q = ⟨(Prt.hexs s.data.toList).toArray⟩ := ⟨_, rfl⟩
      have hQl : Q.data.toList = Prt.hexs s.data.toList := by rw [hQ]
      have hQs : Q.size ≤ 400 := by
        have := Prt.hexs_len s.data.toList
        rw [← str_len' hQl, Array.length_toList] at this
        have e : s.data.size = s.size := rfl
        omega
      have HC := pairs_any s w1 hs
      rw [← hQ] at HC
      replace HC := hide HC
      have HQl := hide hQl
      clear hP1 hQ hQl
      have t1 : ((k.toNat : Int) == 1) = false := by simp; omega
      have t2 : ((k.toNat : Int) == 2) = false := by simp; omega
      have t3 : ((k.toNat : Int) == 3) = false := by simp; omega
      have t4 : ((k.toNat : Int) == 4) = false := by simp; omega
      have t5 : ((k.toNat : Int) == 5) = true := by simp; omega
      clear hk
      go_wp2_with fail
      with_reducible refine HC.out.mono ?_
      rintro e w2 ⟨rfl, hb2⟩
      replace HB := hide (HB.out.trans (hb2.mono HB.out.size))
      clear hb2
      go_wp2_with fail
      go_ret
      refine ⟨?_, HB.out⟩
      show Ending.returned (.string (⟨#[120, 39]⟩ ++ Q ++ ⟨#[39]⟩)) = _
      rw [ba_eq (a := ⟨#[120, 39]⟩ ++ Q ++ ⟨#[39]⟩) (l := p)]
      rw [HF.out, ← HQl.out]
      simp [ByteArray.data_append]
end Go.Proofs.YthmlfbbbcmmhdaaDoor
