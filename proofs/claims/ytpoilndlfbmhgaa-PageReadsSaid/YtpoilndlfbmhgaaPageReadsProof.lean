/-
  The statement Rows.PageReadsSaid: for every input the law returns true, and each argument reads afterwards as it read before. Conditions: none of ours.
-/
import Derived.Test.YtpoilndlfbmhgaaRows
import Derived.Test.YtpoilndlfbmhgaaPageReadsW
import Derived.Test.YtpoilndlfbmhgaaOpen
namespace Go.Proofs.Ytpoilndlfbmhgaa.pageReads
open Go.ChangeShapes Go.WideShapes Go.ChangeAt Go.RowKit
open Go.ChangeMaps (open_string shut_string)
set_option linter.unusedVariables false

theorem own : ownKnob Try.prog.godebug = none := by kernel_rfl
theorem laidOut : laidOutB Try.prog = true := by kernel_rfl

set_option maxRecDepth 100000 in
theorem lifted (os : Os) (started : os.Started) (H : Type) (enc : TypeId × Value → H) :
    ReturnsInHanded {} Try.checked os 6 .any (Rows.pageReadsSpec.pre6 enc Try.prog Try.f6 Rows.pageReadsRow.domain false) (Rows.pageReadsSpec.post enc Try.prog Try.f6 false true false false) := by
  refine returnsInHanded_of_change_sized (C := Try.checked) own started (by kernel_rfl) Try.func6
    (ChangeSpec.witness6 (enc := enc) (C := Try.checked) false ⟨#[], #[.slice none 0 0, .slice none 0 0, .slice none 0 0], []⟩ 8 (by kernel_rfl) (by kernel_rfl) (by kernel_rfl) (by kernel_rfl)) ?_
  intro W base args ds gs before hval0 hW hcnd hsz0 _
  have hval : ∀ (j : Nat) t v, Try.f6.params[j]? = some t → args[j]? = some v → Value.okWide Try.prog W .any base t v := hval0
  have hW' := hW
  obtain ⟨p, q, hA0, hV, rfl, hfz, hnd⟩ := hW
  have hA : DataW.TrodAll enc Try.prog W 0 (fun _ => true) true Try.f6.params.toList args.toList ds p := hA0
  rw [Try.params6] at hA hval
  obtain ⟨v0, vs0, d0, ds0, p0, q0, hargs, rfl, rfl, h0, r0⟩ := trodAll_cons hA
  obtain ⟨v1, vs1, d1, ds1, p1, q1, rfl, rfl, rfl, h1, r1⟩ := trodAll_cons r0
  obtain ⟨v2, vs2, d2, ds2, p2, q2, rfl, rfl, rfl, h2, r2⟩ := trodAll_cons r1
  obtain ⟨rfl, rfl, rfl⟩ := trodAll_nil r2
  obtain rfl : args = #[v0, v1, v2] := by cases args; simp_all
  obtain ⟨rfl, rfl⟩ := trodVars_none hV
  have hsz : (DataW.weightsEach Try.prog [26, 26, 26] [d0, d1, d2]).all (fun x => decide (x ≤ reachBytes)) = true := hsz0
  obtain ⟨A0, len0, cap0, rfl⟩ := okWide_slice Try.underlying26 (hval 0 26 v0 rfl rfl)
  have k0 := h0
  have lt0 : ∀ x ∈ p0, x.block < W.heap.size := by obtain ⟨m, hm⟩ := k0; exact DataW.trod_lt m _ _ _ hm
  obtain ⟨l0, hl0, hlc0, hcm0, hd0⟩ := open_bytes Try.underlying26 Try.underlying5 (by kernel_rfl) h0
  have hz0 : cap0 ≤ 140737488351232 := by
    rcases hd0 with ⟨_, _, hc⟩ | ⟨zs, hz, hdd⟩
    · omega
    · have h := sized_slice (j := 0) hsz rfl (by rw [hdd]; rfl) Try.underlying26
      rw [show Try.prog.bytesOf 5 = 1 from by kernel_rfl] at h
      have e1 : (lits (H := H) .u8 (zs.take len0)).length = min len0 zs.length := by simp [lits]
      have e2 : (lits (H := H) .u8 (zs.drop len0)).length = zs.length - len0 := by simp [lits]
      have h' : ((lits (H := H) .u8 (zs.take len0)).length + (lits (H := H) .u8 (zs.drop len0)).length) * 1 ≤ 140737488351232 := h
      omega
  obtain ⟨A1, len1, cap1, rfl⟩ := okWide_slice Try.underlying26 (hval 1 26 v1 rfl rfl)
  have k1 := h1
  have lt1 : ∀ x ∈ p1, x.block < W.heap.size := by obtain ⟨m, hm⟩ := k1; exact DataW.trod_lt m _ _ _ hm
  obtain ⟨l1, hl1, hlc1, hcm1, hd1⟩ := open_bytes Try.underlying26 Try.underlying5 (by kernel_rfl) h1
  have hz1 : cap1 ≤ 140737488351232 := by
    rcases hd1 with ⟨_, _, hc⟩ | ⟨zs, hz, hdd⟩
    · omega
    · have h := sized_slice (j := 1) hsz rfl (by rw [hdd]; rfl) Try.underlying26
      rw [show Try.prog.bytesOf 5 = 1 from by kernel_rfl] at h
      have e1 : (lits (H := H) .u8 (zs.take len1)).length = min len1 zs.length := by simp [lits]
      have e2 : (lits (H := H) .u8 (zs.drop len1)).length = zs.length - len1 := by simp [lits]
      have h' : ((lits (H := H) .u8 (zs.take len1)).length + (lits (H := H) .u8 (zs.drop len1)).length) * 1 ≤ 140737488351232 := h
      omega
  obtain ⟨A2, len2, cap2, rfl⟩ := okWide_slice Try.underlying26 (hval 2 26 v2 rfl rfl)
  have k2 := h2
  have lt2 : ∀ x ∈ p2, x.block < W.heap.size := by obtain ⟨m, hm⟩ := k2; exact DataW.trod_lt m _ _ _ hm
  obtain ⟨l2, hl2, hlc2, hcm2, hd2⟩ := open_bytes Try.underlying26 Try.underlying5 (by kernel_rfl) h2
  have hz2 : cap2 ≤ 140737488351232 := by
    rcases hd2 with ⟨_, _, hc⟩ | ⟨zs, hz, hdd⟩
    · omega
    · have h := sized_slice (j := 2) hsz rfl (by rw [hdd]; rfl) Try.underlying26
      rw [show Try.prog.bytesOf 5 = 1 from by kernel_rfl] at h
      have e1 : (lits (H := H) .u8 (zs.take len2)).length = min len2 zs.length := by simp [lits]
      have e2 : (lits (H := H) .u8 (zs.drop len2)).length = zs.length - len2 := by simp [lits]
      have h' : ((lits (H := H) .u8 (zs.take len2)).length + (lits (H := H) .u8 (zs.drop len2)).length) * 1 ≤ 140737488351232 := h
      omega
  clear hA0 hval0
  refine (pageReads_any A0 len0 cap0 l0 A1 len1 cap1 l1 A2 len2 cap2 l2 W hl0 hlc0 hcm0 hz0 hl1 hlc1 hcm1 hz1 hl2 hlc2 hcm2 hz2).mono fun e W' ⟨he, bel⟩ => ?_
  subst he
  exact ⟨_, rfl, _, _, _, [], _, [], hW', trodAll_mk1 (shut_bool Try.underlying4 _), (trodAll_cons_mk (Below.trod laidOut (by kernel_rfl) (of_decide_eq_true (by kernel_rfl)) k0 bel lt0) (trodAll_cons_mk (Below.trod laidOut (by kernel_rfl) (of_decide_eq_true (by kernel_rfl)) k1 bel lt1) (trodAll_cons_mk (Below.trod laidOut (by kernel_rfl) (of_decide_eq_true (by kernel_rfl)) k2 bel lt2) trodAll_mk0))), rfl, bel.frame _, fun h => by cases h⟩

theorem over : Rows.pageReadsRow.holds Try.pinned (OpenSpec.ofChange Rows.pageReadsSpec) :=
  OpenClaim.holds_of_wide 6 Try.f6 rfl rfl rfl rfl rfl rfl rfl ⟨rfl, rfl, rfl, rfl, rfl⟩ rfl rfl rfl rfl rfl (by kernel_rfl) Try.func6 (by kernel_rfl)
    (of_decide_eq_true (by kernel_rfl)) (by unfold Func.isWrapper; first | (rw [if_pos (by decide +kernel)]; kernel_rfl) | (rw [if_neg (by decide +kernel)]; exact ⟨rfl, rfl⟩))
    (fun os started H enc _ => lifted os started H enc)

/-- The statement. -/
theorem proved : Rows.PageReadsSaid := over
#print axioms proved
end Go.Proofs.Ytpoilndlfbmhgaa.pageReads
