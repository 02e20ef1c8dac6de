/-
  The walk of chancerylaw17.ValueApart: it returns true. Conditions: the tables are as listed. (printed by laws17.py)
-/
import Derived.Test.YthmlfbbbcmmhdaaDoorLaw17
import Derived.Test.YthmlfbbbcmmhdaaDoorPrtInj
namespace Go.Proofs.YthmlfbbbcmmhdaaDoor
open Go.RowKit

set_option maxRecDepth 20000 in
set_option maxHeartbeats 6400000 in
theorem apart_any (k : UInt8) (n : Int) (s : ByteArray) (k' : UInt8) (n' : Int) (s' : ByteArray) (m : Int) (w : World) (hE : Env w m) (_ : s.size ≤ maxLen) (h0 : -9223372036854775808 ≤ n) (h1 : n ≤ 9223372036854775807) (_ : s'.size ≤ maxLen) (h0' : -9223372036854775808 ≤ n') (h1' : n' ≤ 9223372036854775807) :
    Calls Tryd.prog 4 #[.agg #[.int .u8 (k.toNat : Int), .int .i64 n, .string s], .agg #[.int .u8 (k'.toNat : Int), .int .i64 n', .string s']] w fun e w' => e = .returned (.bool true) ∧ Below w.heap.size w w' := by
  have HN := hide (L2.new w m k n s k' n' s' hE)
  obtain ⟨pa, hpa⟩ : ∃ p, p = Prt.prt ⟨k, n, s⟩ := ⟨_, rfl⟩
  obtain ⟨pb, hpb⟩ : ∃ p, p = Prt.prt ⟨k', n', s'⟩ := ⟨_, rfl⟩
  obtain ⟨A, hA⟩ : ∃ A : ByteArray, A = ⟨pa.toArray⟩ := ⟨_, rfl⟩
  obtain ⟨B, hB⟩ : ∃ A : ByteArray, A = ⟨pb.toArray⟩ := ⟨_, rfl⟩
  obtain ⟨ra, hra⟩ : ∃ r, r = Cell.rightB ⟨k, n, s⟩ := ⟨_, rfl⟩
  obtain ⟨rb, hrb⟩ : ∃ r, r = Cell.rightB ⟨k', n', s'⟩ := ⟨_, rfl⟩
  have HPA := fun w' h => vPrint_any k n s m w' h h0 h1
  have HPB := fun w' h => vPrint_any k' n' s' m w' h h0' h1'
  rw [← hpa, ← hA] at HPA
  rw [← hpb, ← hB] at HPB
  have GPA := hide HPA
  have GPB := hide HPB
  have GA := hide hA
  have GB := hide hB
  have KA := hide hpa
  have KB := hide hpb
  have HRA := hide hra
  have HRB := hide hrb
  clear HPA HPB hA hB hpa hpb hra hrb hE
  go_enter Tryd.func4, Tryd.ntmps4
  go_wp2_with fail
  obtain ⟨w0, hw0⟩ : ∃ x, x = (w.alloc (.cells #[.int .u8 (k.toNat : Int), .int .i64 n, .string s] 25)).alloc (.cells #[.int .u8 (k'.toNat : Int), .int .i64 n', .string s'] 25) := ⟨_, rfl⟩
  rw [← hw0] at HN ⊢
  clear hw0
  refine wp_region_flow (fun w' => L2 w w' m k n s k' n' s') 4 (by kernel_rfl) (by kernel_rfl) HN.out.drew ?_
  simp only [List.take_succ_cons, List.take_zero, List.drop_succ_cons, List.drop_zero]
  refine wpFlow_read ?_ rfl (fun w' hS => ?_) ?_
  rotate_left
  · obtain ⟨a0, a1, a2⟩ := hS.2.1.c3
    obtain ⟨b0, b1, b2⟩ := hS.2.2.1.c3
    go_simp
    rfl
  go_frame
  refine wpFlow_call _ _ _ rfl (fun w' hS => ?_) (fun w' (hS : (fun w' => L2 w w' m k n s k' n' s') w') => ((GPA.out w' hS.1).mono fun e w2 hp => ⟨hp.1, hS.below hp.2⟩)) ?_
  · go_simp
  go_frame
  refine wpFlow_read ?_ rfl (fun w' hS => ?_) ?_
  rotate_left
  · obtain ⟨a0, a1, a2⟩ := hS.2.1.c3
    obtain ⟨b0, b1, b2⟩ := hS.2.2.1.c3
    go_simp
    rfl
  go_frame
  refine wpFlow_call _ _ _ rfl (fun w' hS => ?_) (fun w' (hS : (fun w' => L2 w w' m k n s k' n' s') w') => ((GPB.out w' hS.1).mono fun e w2 hp => ⟨hp.1, hS.below hp.2⟩)) ?_
  · go_simp
  go_frame
  refine wpFlow_nil fun w1 hS => ?_
  clear HN
  have HN := hide hS
  clear hS
  obtain ⟨a0, a1, a2⟩ := HN.out.2.1.c3
  obtain ⟨b0, b1, b2⟩ := HN.out.2.2.1.c3
  go_wp2_with fail
  with_reducible refine (right_any k n s w1).mono ?_
  rintro e w2 ⟨rfl, hbb⟩
  replace HN := hide (HN.out.below hbb)
  clear hbb a0 a1 a2 b0 b1 b2
  obtain ⟨a0, a1, a2⟩ := HN.out.2.1.c3
  obtain ⟨b0, b1, b2⟩ := HN.out.2.2.1.c3
  rw [← HRA.out]
  cases ra with
  | false =>
    have hAe : A = ⟨#[]⟩ := by rw [GA.out, KA.out, show Prt.prt ⟨k, n, s⟩ = [] from if_pos HRA.out.symm]
    subst hAe
    go_wp2_with fail
    with_reducible refine (right_any k n s w2).mono ?_
    rintro e w3 ⟨rfl, hbb⟩
    replace HN := hide (HN.out.below hbb)
    clear hbb a0 a1 a2 b0 b1 b2
    obtain ⟨a0, a1, a2⟩ := HN.out.2.1.c3
    obtain ⟨b0, b1, b2⟩ := HN.out.2.2.1.c3
    rw [← HRA.out]
    go_wp2_with fail
    with_reducible refine (right_any k' n' s' w3).mono ?_
    rintro e w4 ⟨rfl, hbb⟩
    replace HN := hide (HN.out.below hbb)
    clear hbb a0 a1 a2 b0 b1 b2
    obtain ⟨a0, a1, a2⟩ := HN.out.2.1.c3
    obtain ⟨b0, b1, b2⟩ := HN.out.2.2.1.c3
    rw [← HRB.out]
    cases rb with
    | false =>
      have hBe : B = ⟨#[]⟩ := by rw [GB.out, KB.out, show Prt.prt ⟨k', n', s'⟩ = [] from if_pos HRB.out.symm]
      subst hBe
      have HEv := hide HN.out.1
      go_wp2_with fail
      with_reducible refine (awake_any m w4 HEv.out).mono ?_
      rintro e wz ⟨rfl, hbz⟩
      have HZ := hide (HN.out.2.2.2.trans (hbz.mono HN.out.2.2.2.size))
      clear hbz
      go_wp2_with fail
      go_ret
      exact ⟨rfl, HZ.out⟩
    | true =>
      have HEv := hide HN.out.1
      go_wp2_with fail
      with_reducible refine (awake_any m w4 HEv.out).mono ?_
      rintro e wz ⟨rfl, hbz⟩
      have HZ := hide (HN.out.2.2.2.trans (hbz.mono HN.out.2.2.2.size))
      clear hbz
      go_wp2_with fail
      go_ret
      exact ⟨rfl, HZ.out⟩
  | true =>
    go_wp2_with fail
    with_reducible refine (right_any k' n' s' w2).mono ?_
    rintro e w3 ⟨rfl, hbb⟩
    replace HN := hide (HN.out.below hbb)
    clear hbb a0 a1 a2 b0 b1 b2
    obtain ⟨a0, a1, a2⟩ := HN.out.2.1.c3
    obtain ⟨b0, b1, b2⟩ := HN.out.2.2.1.c3
    rw [← HRB.out]
    cases rb with
    | false =>
      have hBe : B = ⟨#[]⟩ := by rw [GB.out, KB.out, show Prt.prt ⟨k', n', s'⟩ = [] from if_pos HRB.out.symm]
      subst hBe
      go_wp2_with fail
      with_reducible refine (right_any k n s w3).mono ?_
      rintro e w4 ⟨rfl, hbb⟩
      replace HN := hide (HN.out.below hbb)
      clear hbb a0 a1 a2 b0 b1 b2
      obtain ⟨a0, a1, a2⟩ := HN.out.2.1.c3
      obtain ⟨b0, b1, b2⟩ := HN.out.2.2.1.c3
      rw [← HRA.out]
      go_wp2_with fail
      with_reducible refine (right_any k' n' s' w4).mono ?_
      rintro e w5 ⟨rfl, hbb⟩
      replace HN := hide (HN.out.below hbb)
      clear hbb a0 a1 a2 b0 b1 b2
      obtain ⟨a0, a1, a2⟩ := HN.out.2.1.c3
      obtain ⟨b0, b1, b2⟩ := HN.out.2.2.1.c3
      rw [← HRB.out]
      have HEv := hide HN.out.1
      go_wp2_with fail
      with_reducible refine (awake_any m w5 HEv.out).mono ?_
      rintro e wz ⟨rfl, hbz⟩
      have HZ := hide (HN.out.2.2.2.trans (hbz.mono HN.out.2.2.2.size))
      clear hbz
      go_wp2_with fail
      go_ret
      exact ⟨rfl, HZ.out⟩
    | true =>
      have hne := Prt.prt_ne HRA.out.symm
      rw [← KA.out] at hne
      have hAl : A.toList = pa := by rw [str_list, GA.out]
      have hBl : B.toList = pb := by rw [str_list, GB.out]
      have t1 : (A.toList == B.toList) = vbeq ⟨k, n, s⟩ ⟨k', n', s'⟩ := by
        rw [Bool.eq_iff_iff, vbeq_iff, beq_iff_eq, hAl, hBl]
        constructor
        · intro h
          rw [KA.out, KB.out] at h
          exact Prt.prt_inj HRA.out.symm HRB.out.symm h
        · intro h
          rw [KA.out, KB.out, h]
      have t2 : A.toList.isEmpty = false := by
        rw [hAl]
        cases hp : pa with
        | nil => exact absurd hp hne
        | cons _ _ => rfl
      have t3 : ¬ A.toList = [] := by rw [hAl]; exact hne
      by_cases hk : k = k'
      · subst hk
        by_cases hn : n = n'
        · subst hn
          by_cases hs : s.toList = s'.toList
          · have e : s = s' := by
              rw [str_list, str_list] at hs
              have := congrArg List.toArray hs
              simp at this
              exact ByteArray.ext this
            subst e
            rw [(vbeq_iff _ _).2 rfl] at t1
            have q1 := eqS ⟨k, n, s⟩ w3
            simp only at q1
            clear hne hAl hBl hs
            have HEv := hide HN.out.1
            go_wp2_with fail
            with_reducible refine (awake_any m w3 HEv.out).mono ?_
            rintro e wz ⟨rfl, hbz⟩
            have HZ := hide (HN.out.2.2.2.trans (hbz.mono HN.out.2.2.2.size))
            clear hbz
            go_wp2_with fail
            go_ret
            exact ⟨rfl, HZ.out⟩
          · have f1 : (s.toList == s'.toList) = false := by simpa using hs
            have f2 : vbeq ⟨k, n, s⟩ ⟨k, n, s'⟩ = false := by unfold vbeq; simp only [f1, Bool.and_false]
            rw [f2] at t1
            clear hne hAl hBl f2 hs
            have HEv := hide HN.out.1
            go_wp2_with fail
            with_reducible refine (awake_any m w3 HEv.out).mono ?_
            rintro e wz ⟨rfl, hbz⟩
            have HZ := hide (HN.out.2.2.2.trans (hbz.mono HN.out.2.2.2.size))
            clear hbz
            go_wp2_with fail
            go_ret
            exact ⟨rfl, HZ.out⟩
        · have f1 : (n == n') = false := by simpa using hn
          have f2 : vbeq ⟨k, n, s⟩ ⟨k, n', s'⟩ = false := by unfold vbeq; simp only [f1, Bool.false_and, Bool.and_false]
          rw [f2] at t1
          clear hne hAl hBl f2 hn
          have HEv := hide HN.out.1
          go_wp2_with fail
          with_reducible refine (awake_any m w3 HEv.out).mono ?_
          rintro e wz ⟨rfl, hbz⟩
          have HZ := hide (HN.out.2.2.2.trans (hbz.mono HN.out.2.2.2.size))
          clear hbz
          go_wp2_with fail
          go_ret
          exact ⟨rfl, HZ.out⟩
      · have hne2 : k.toNat ≠ k'.toNat := fun h => hk (UInt8.toNat_inj.1 h)
        have f1 : ((k.toNat : Int) == (k'.toNat : Int)) = false := by simp; omega
        have f2 : vbeq ⟨k, n, s⟩ ⟨k', n', s'⟩ = false := by unfold vbeq; simp only [f1, Bool.false_and]
        rw [f2] at t1
        clear hne hAl hBl f2 hk hne2
        have HEv := hide HN.out.1
        go_wp2_with fail
        with_reducible refine (awake_any m w3 HEv.out).mono ?_
        rintro e wz ⟨rfl, hbz⟩
        have HZ := hide (HN.out.2.2.2.trans (hbz.mono HN.out.2.2.2.size))
        clear hbz
        go_wp2_with fail
        go_ret
        exact ⟨rfl, HZ.out⟩
end Go.Proofs.YthmlfbbbcmmhdaaDoor
