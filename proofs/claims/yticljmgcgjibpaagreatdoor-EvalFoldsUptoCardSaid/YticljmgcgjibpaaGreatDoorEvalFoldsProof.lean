/-
  The statement Rows.EvalFoldsUptoCardSaid: for every input the law returns true, and each argument reads afterwards as it read before. Conditions: what is read is of bulk at most 1048576 (the statement says so).
-/
import Derived.Test.YticljmgcgjibpaaGreatDoorRows
import Derived.Test.YticljmgcgjibpaaGreatDoorEvalFoldsW
import Derived.Test.YticljmgcgjibpaaGreatDoorOpenR
import Derived.Test.YticljmgcgjibpaaGreatDoorLaw24
import Derived.Test.YticljmgcgjibpaaGreatDoorOpen
import Derived.Test.YticljmgcgjibpaaGreatDoorBulk
import Derived.Test.YticljmgcgjibpaaGreatDoorLaidWrap
import Derived.Test.YticljmgcgjibpaaGreatDoorCards
import Derived.Test.YticljmgcgjibpaaGreatDoorTie
import Derived.SevenTiedAt
namespace Go.Proofs.YticljmgcgjibpaaGreatDoor.evalFolds
open Go.ChangeShapes Go.WideShapes Go.ChangeAt Go.RowKit
open Go.ChangeMaps (open_string shut_string)
set_option linter.unusedVariables false

theorem own : ownKnob Tryz.prog.godebug = none := by kernel_rfl
theorem laidOut : laidOutB Tryz.prog = true := by kernel_rfl

set_option maxRecDepth 100000 in
theorem laid_met (os : Os) (args : Array Value) : laidMetH Tryz.prog Rows.evalFoldsUptoRow.laid ((World.laidAll Tryz.prog os Rows.evalFoldsUptoRow.laid).forCall (fun _ _ => 0) ⟨#[], args, []⟩).memory := by
  rw [MakeChecks.laidMetH_plain _ _ _ (by kernel_rfl)]
  exact laidMet_laidAll args (by kernel_rfl) (by kernel_rfl)
set_option maxRecDepth 100000 in
theorem lifted (os : Os) (started : os.Started) (H : Type) (enc : TypeId × Value → H) (F : Stop.Interp) :
    ReturnsInHanded {} Tryz.checked os 4 .any (fun w args => ((Rows.OpenSpec.upto Rows.evalFoldsSpec).pre enc Tryz.prog Tryz.f4 [] false w args ∧ laidMetH Tryz.prog Rows.evalFoldsUptoRow.laid w) ∧ sizedMet enc Tryz.prog Tryz.f4 (Rows.OpenSpec.upto Rows.evalFoldsSpec) false w args) (((Rows.OpenSpec.upto Rows.evalFoldsSpec).at F).post enc Tryz.prog Tryz.f4 false true false false) := by
  refine handed_laid_cond (C := Tryz.checked) (s := (Rows.OpenSpec.upto Rows.evalFoldsSpec)) (k := Rows.uptoSmall) (L := Rows.evalFoldsUptoRow.laid) rfl own started (by kernel_rfl) Tryz.func4
    (witness_laid_cond (enc := enc) (C := Tryz.checked) (os := os) (s := (Rows.OpenSpec.upto Rows.evalFoldsSpec)) (k := Rows.uptoSmall) rfl false (World.laidAll Tryz.prog os Rows.evalFoldsUptoRow.laid) #[.agg #[.int .u8 0, .int .u8 0, .int .i64 0, .string ByteArray.empty, .string ByteArray.empty, .string ByteArray.empty, .int .i64 0, .slice none 0 0], .slice none 0 0, .string ByteArray.empty] 8 (World.laidAll_os _ _ _) (World.shaped_of_ZipB (by kernel_rfl) (by kernel_rfl)) (by kernel_rfl)
      (x := ([.agg [.lit (.int .u8 0), .agg [.lit (.int .u8 0), .lit (.int .i64 0), .lit (.string [])], .lit (.string []), .lit (.string []), .lit (.int .i64 0), .nil], .nil, .lit (.string [])], [], [])) (by kernel_rfl) rfl (by kernel_rfl) (by kernel_rfl) (laid_met os _)) ?_
  intro W base args ds gs before hval0 hW hcnd hk hsz0 hsh hlaid
  have hval : ∀ (j : Nat) t v, Tryz.f4.params[j]? = some t → args[j]? = some v → Value.okWide Tryz.prog W .any base t v := hval0
  have hW' := hW
  obtain ⟨p, q, hA0, hV, rfl, hfz, hnd⟩ := hW
  have hA : DataW.TrodAll enc Tryz.prog W 0 (fun _ => true) true Tryz.f4.params.toList args.toList ds p := hA0
  rw [Tryz.params4] at hA hval
  obtain ⟨v0, vs0, d0, ds0, p0, q0, hargs, rfl, rfl, h0, r0⟩ := trodAll_cons hA
  obtain ⟨v1, vs1, d1, ds1, p1, q1, rfl, rfl, rfl, h1, r1⟩ := trodAll_cons r0
  obtain ⟨v2, vs2, d2, ds2, p2, q2, rfl, rfl, rfl, h2, r2⟩ := trodAll_cons r1
  obtain ⟨rfl, rfl, rfl⟩ := trodAll_nil r2
  obtain rfl : args = #[v0, v1, v2] := by cases args; simp_all
  obtain ⟨rfl, rfl⟩ := trodVars_none hV
  simp only [List.append_nil] at hk
  have hbulk := bulks.bound hk
  have hsz : (DataW.weightsEach Tryz.prog [28, 43, 9] [d0, d1, d2]).all (fun x => decide (x ≤ reachBytes)) = true := hsz0
  have k0 := h0
  have lt0 : ∀ x ∈ p0, x.block < W.heap.size := by obtain ⟨m, hm⟩ := k0; exact DataW.trod_lt m _ _ _ hm
  obtain ⟨eh0, A0, m0, c0, dp0, ks0, rfl, hex0, hok0, hmc0, hc20⟩ := open_expr (hval 0 28 v0 rfl rfl) h0 (fun n hn => of_decide_eq_true (List.all_eq_true.1 hsz n (DataW.weights_mem_each (j := 0) rfl rfl n hn)))
  obtain ⟨A1, len1, cap1, rfl⟩ := okWide_slice Tryz.underlying43 (hval 1 43 v1 rfl rfl)
  have k1 := h1
  have lt1 : ∀ x ∈ p1, x.block < W.heap.size := by obtain ⟨m, hm⟩ := k1; exact DataW.trod_lt m _ _ _ hm
  obtain ⟨l1, hl1, hlc1, hcm1, hlu1, hru1⟩ := open_rws h1 (Nat.le_trans (bulks.part_le (by simp)) hbulk) (Nat.le_refl _)
  obtain ⟨s2, rfl, rfl, rfl, hs2⟩ := open_string Tryz.underlying9 (hval 2 9 v2 rfl rfl) h2
  have hz2 : s2.size ≤ 140737488355328 := by
    have h := sized_string (j := 2) hsz rfl rfl
    have e : s2.data.toList.length = s2.size := by rw [Array.length_toList]; rfl
    rw [e] at h
    exact Nat.le_trans h (by decide)
  have hu2 : s2.size ≤ 1048576 := Nat.le_trans (bulks.string_le (H := H) s2) (Nat.le_trans (bulks.part_le (by simp)) hbulk)
  have henv := env24_of (L := Rows.evalFoldsUptoRow.laid) hlaid (by kernel_rfl) (List.Mem.head _) (List.Mem.tail _ (List.Mem.head _)) (List.Mem.tail _ (List.Mem.tail _ (List.Mem.head _)))
  clear hA0 hval0
  refine (evalFolds_any eh0 A0 m0 c0 dp0 ks0 A1 len1 cap1 l1 s2 W henv hex0 hok0 hmc0 hc20 hl1 hlu1 hru1 hz2 hu2).mono fun e W' ⟨he, bel⟩ => ?_
  subst he
  exact ⟨_, rfl, _, _, _, [], _, [], hW', trodAll_mk1 (shut_bool Tryz.underlying4 _), (trodAll_cons_mk (Below.trod laidOut (by kernel_rfl) (of_decide_eq_true (by kernel_rfl)) k0 bel lt0) (trodAll_cons_mk (Below.trod laidOut (by kernel_rfl) (of_decide_eq_true (by kernel_rfl)) k1 bel lt1) (trodAll_cons_mk (shut_string Tryz.underlying9 hs2) trodAll_mk0))), rfl, bel.frame _, fun h => by cases h⟩

theorem row_holds : Rows.evalFoldsUptoRow.holds Tryz.pinned (Rows.OpenSpec.upto Rows.evalFoldsSpec) :=
  OpenClaim.holds_of_cond 4 Tryz.f4 rfl rfl rfl rfl rfl rfl rfl ⟨rfl, rfl, rfl, rfl, rfl⟩ rfl rfl rfl rfl rfl (by kernel_rfl) Tryz.func4 (by kernel_rfl)
    (of_decide_eq_true (by kernel_rfl)) (by unfold Func.isWrapper; first | (rw [if_pos (by decide +kernel)]; kernel_rfl) | (rw [if_neg (by decide +kernel)]; exact ⟨rfl, rfl⟩))
    (fun os started H enc _ F => lifted os started H enc F)

theorem over : Claim7.holds Tryz.pinned (.plain (Rows.OpenSpec.upto Rows.evalFoldsSpec)) Rows.evalFoldsUptoCard :=
  Claim7.holds_tied_plain_at .later [] [.data, .data, .data] true (true, "2d1a7a8454e59968943625c57e9e3bbe117cfb7b4f81008e8826988328fd0dab") false
    row_holds (fun _ h => by cases h) (by kernel_rfl) (fun _ h => by cases h) evalFoldsUpto_row_tie rfl ⟨rfl, rfl⟩ (by kernel_rfl) rfl
    (fun f fn hf hfn => by
      obtain rfl : f = 4 := Option.some.inj ((show Tryz.prog.funcNamed "chancery/chancerylaw24.EvalFolds" = some 4 by kernel_rfl).symm.trans hf) |>.symm
      obtain rfl : fn = Tryz.f4 := (Option.some.inj (Tryz.func4.symm.trans hfn)).symm
      exact ⟨by kernel_rfl, fun j t ht => by
        rw [Tryz.params4] at ht
        have hm : t ∈ [28, 43, 9] := by simpa using Array.mem_of_getElem? ht
        have hall : ([28, 43, 9].all fun u => !Tryz.prog.wantsStandIn u) = true := by kernel_rfl
        exact (show Tryz.prog.wantsStandIn t = false by simpa using List.all_eq_true.1 hall t hm)⟩)
    (by kernel_rfl)

/-- The statement. -/
theorem proved : Rows.EvalFoldsUptoCardSaid := over
#print axioms proved
end Go.Proofs.YticljmgcgjibpaaGreatDoor.evalFolds
