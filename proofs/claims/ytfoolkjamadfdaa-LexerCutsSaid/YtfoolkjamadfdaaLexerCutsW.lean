/-
  The walk of chancerylaw19.LexerCuts: it returns true. Conditions: the library's number is an int; the text is within the reach.
-/
import Derived.Test.YtfoolkjamadfdaaRefLexT
import Derived.Test.YtfoolkjamadfdaaSameToks
import Derived.Test.YtfoolkjamadfdaaLexerPartsW
namespace Go.Proofs.Ytfoolkjamadfdaa
open Go.RowKit

set_option maxRecDepth 20000 in
set_option maxHeartbeats 8000000 in
theorem lexerCuts_any (a : ByteArray) (m : Int) (w : World) (hM : Num w m) (ha : a.size ≤ 140737488355328) :
    Calls Try.prog 3 #[.string a] w fun e w' => e = .returned (.bool true) ∧ Below w.heap.size w w' := by
  have hpos := hM.pos
  have HM := hide hM
  have HXa : Hid (a.size ≤ maxLen) := by unfold maxLen; show _ ≤ _; omega
  obtain ⟨ta, ea, pa, hta⟩ : ∃ ts e p, Lex.told a.data.toList = (ts, e, p) := ⟨_, _, _, rfl⟩
  have HTa := hide hta
  have htl : ta.length ≤ 4096 := by have := (told_len a.data.toList).1; rw [hta] at this; exact this
  clear hta hM
  go_enter Try.func3, Try.ntmps3
  go_wp2_with fail
  obtain ⟨w0, hw0⟩ : ∃ x, x = w := ⟨_, rfl⟩
  have HB0 : Hid (Below w.heap.size w w0) := by rw [hw0]; exact Below.refl _ _
  have hz0 : w.heap.size ≤ w0.heap.size := by rw [hw0]; exact Nat.le_refl _
  rw [← hw0] at HM ⊢
  clear hw0
  with_reducible refine (tokens_any a w0 HXa.out).mono ?_
  rintro e w1 hpost
  obtain ⟨Aa, ca, rfl, hoa, hb1, hlca, hcma⟩ := hpost.is HTa.out
  clear hpost
  have HLta := hide (fun g (hg : (Value.slice Aa ta.length ca).ownBlock = some g) => hoa.lt g hg)
  have HOa := hide (show Own _ _ _ _ _ _ _ from hoa)
  clear hoa
  replace HM := hide (HM.out.below hb1 (by omega))
  have HB1 := hide (HB0.out.trans (hb1.mono (by omega)))
  have hz1 := hb1.size
  clear hb1 HB0
  go_wp2_with fail
  obtain ⟨w2, hw2⟩ : ∃ x, x = w1.alloc (.cells #[.int .i64 ((ea : Nat) : Int), .int .i64 ((pa : Nat) : Int)] 25) := ⟨_, rfl⟩
  rw [← hw2]
  have hba2 : Below w1.heap.size w1 w2 := by rw [hw2]; exact (Below.refl _ _).alloc (Nat.le_refl _) _
  have hst2 : w1.heap.size < w2.heap.size := by rw [hw2]; simp
  have HFa : Hid (Blk w2 w1.heap.size 25 #[.int .i64 ((ea : Nat) : Int), .int .i64 ((pa : Nat) : Int)]) := by rw [hw2]; exact Blk.new _ _ _
  clear hw2
  replace HM := hide (HM.out.below hba2 (by omega))
  replace HOa := hide (HOa.out.below hba2 (by omega))
  have HB2 := hide (HB1.out.trans (hba2.mono (by omega)))
  have hz2 := hba2.size
  clear hba2 HB1
  with_reducible refine (tokens_any a w2 HXa.out).mono ?_
  rintro e w3 hpost
  obtain ⟨Ab, cb, rfl, hob, hb3, hlcb, hcmb⟩ := hpost.is HTa.out
  clear hpost
  have HLtb := hide (fun g (hg : (Value.slice Ab ta.length cb).ownBlock = some g) => hob.lt g hg)
  have HOb := hide (show Own _ _ _ _ _ _ _ from hob)
  clear hob
  replace HM := hide (HM.out.below hb3 (by omega))
  replace HOa := hide (HOa.out.below hb3 (by omega))
  replace HFa := hide (HFa.out.below hb3 (by omega))
  have HB3 := hide (HB2.out.trans (hb3.mono (by omega)))
  have hz3 := hb3.size
  clear hb3 HB2
  go_wp2_with fail
  obtain ⟨w4, hw4⟩ : ∃ x, x = w3.alloc (.cells #[.int .i64 ((ea : Nat) : Int), .int .i64 ((pa : Nat) : Int)] 25) := ⟨_, rfl⟩
  rw [← hw4]
  have hba4 : Below w3.heap.size w3 w4 := by rw [hw4]; exact (Below.refl _ _).alloc (Nat.le_refl _) _
  have hst4 : w3.heap.size < w4.heap.size := by rw [hw4]; simp
  have HFb : Hid (Blk w4 w3.heap.size 25 #[.int .i64 ((ea : Nat) : Int), .int .i64 ((pa : Nat) : Int)]) := by rw [hw4]; exact Blk.new _ _ _
  clear hw4
  replace HM := hide (HM.out.below hba4 (by omega))
  replace HOa := hide (HOa.out.below hba4 (by omega))
  replace HFa := hide (HFa.out.below hba4 (by omega))
  replace HOb := hide (HOb.out.below hba4 (by omega))
  have HB4 := hide (HB3.out.trans (hba4.mono (by omega)))
  have hz4 := hba4.size
  clear hba4 HB3
  with_reducible refine (rtokens_any a w4 HXa.out).mono ?_
  rintro e w5 hpost
  obtain ⟨Ac, cc, rfl, hoc, hb5, hlcc, hcmc⟩ := hpost.is HTa.out
  clear hpost
  have HLtc := hide (fun g (hg : (Value.slice Ac ta.length cc).ownBlock = some g) => hoc.lt g hg)
  have HOc := hide (show Own _ _ _ _ _ _ _ from hoc)
  clear hoc
  replace HM := hide (HM.out.below hb5 (by omega))
  replace HOa := hide (HOa.out.below hb5 (by omega))
  replace HFa := hide (HFa.out.below hb5 (by omega))
  replace HOb := hide (HOb.out.below hb5 (by omega))
  replace HFb := hide (HFb.out.below hb5 (by omega))
  have HB5 := hide (HB4.out.trans (hb5.mono (by omega)))
  have hz5 := hb5.size
  clear hb5 HB4
  have fa0 : w5.cell? ⟨w1.heap.size, 0, none⟩ = some (.int .i64 ((ea : Nat) : Int)) := HFa.out.cell 0
  have fa1 : w5.cell? ⟨w1.heap.size, 1, none⟩ = some (.int .i64 ((pa : Nat) : Int)) := HFa.out.cell 1
  have fal := HFa.out.lt
  have u1 : ∀ w : World, (binOp .neq 25 (.agg #[.int .i64 ((ea : Nat) : Int), .int .i64 ((pa : Nat) : Int)]) (.agg #[.int .i64 ((ea : Nat) : Int), .int .i64 ((pa : Nat) : Int)])).run Try.prog w = .ok (.bool false) w := by intro w; rw [neqF]; simp
  have u2 := guardF
  go_wp2_with fail
  clear u1 u2 fa0 fa1 fal
  obtain ⟨w6, hw6⟩ : ∃ x, x = w5.alloc (.cells #[.int .i64 ((ea : Nat) : Int), .int .i64 ((pa : Nat) : Int)] 25) := ⟨_, rfl⟩
  rw [← hw6]
  have hba6 : Below w5.heap.size w5 w6 := by rw [hw6]; exact (Below.refl _ _).alloc (Nat.le_refl _) _
  have hst6 : w5.heap.size < w6.heap.size := by rw [hw6]; simp
  have HFc : Hid (Blk w6 w5.heap.size 25 #[.int .i64 ((ea : Nat) : Int), .int .i64 ((pa : Nat) : Int)]) := by rw [hw6]; exact Blk.new _ _ _
  clear hw6
  replace HM := hide (HM.out.below hba6 (by omega))
  replace HOa := hide (HOa.out.below hba6 (by omega))
  replace HFa := hide (HFa.out.below hba6 (by omega))
  replace HOb := hide (HOb.out.below hba6 (by omega))
  replace HFb := hide (HFb.out.below hba6 (by omega))
  replace HOc := hide (HOc.out.below hba6 (by omega))
  have HB6 := hide (HB5.out.trans (hba6.mono (by omega)))
  have hz6 := hba6.size
  clear hba6 HB5
  with_reducible refine (sameToks_any Aa Ac ta.length ca ta.length cc ta ta w6 _ _ (Rk.own HOa.out.row) (Rk.own HOc.out.row) (by omega)).mono ?_
  rintro e w' ⟨b1, rfl, hb1, q7, rfl⟩
  obtain rfl : b1 = true := hb1.2 rfl
  clear hb1
  obtain ⟨w7, hw7⟩ : ∃ x, x = w6.drewN q7 := ⟨_, rfl⟩
  rw [← hw7]
  replace HM := hide (HM.out.drewE hw7)
  replace HOa := hide (HOa.out.drewE hw7)
  replace HFa := hide (HFa.out.drewE hw7)
  replace HOb := hide (HOb.out.drewE hw7)
  replace HFb := hide (HFb.out.drewE hw7)
  replace HOc := hide (HOc.out.drewE hw7)
  replace HFc := hide (HFc.out.drewE hw7)
  have HB7 := hide (Below.drewE HB6.out hw7)
  have hz7 : w6.heap.size ≤ w7.heap.size := by rw [hw7]; exact Nat.le_refl _
  clear hw7 HB6
  go_wp2_with fail
  go_loopw [9] (fun i wr => ∃ k : Nat, k ≤ ta.length ∧ i = .int .i64 (k : Nat) ∧ (∃ xs, xs.length = ta.length * 3 ∧ Own wr w0.heap.size 31 3 (.slice Aa ta.length ca) ta.length xs) ∧ Own wr w2.heap.size 31 3 (.slice Ab ta.length cb) ta.length (tcells ta) ∧ Own wr w4.heap.size 31 3 (.slice Ac ta.length cc) ta.length (tcells ta) ∧ Num wr m ∧ Below w.heap.size w wr ∧ w7.heap.size ≤ wr.heap.size) (fun i _ => ta.length - (intOf i).toNat)
  case atStart => exact ⟨0, Nat.zero_le _, rfl, ⟨_, tcells_len _, HOa.out⟩, HOb.out, HOc.out, HM.out, HB7.out, Nat.le_refl _⟩
  case round =>
    obtain ⟨k, hk, rfl, ⟨xs, hxl, hra⟩, hrb, hrc, hnum, hbel, hzr⟩ := hrel
    clear HOb HOa HOc HFa HFb HFc HM HB7
    have HXL := hide hxl
    have HOa := hide hra
    have HOb := hide hrb
    have HOc := hide hrc
    have HM := hide hnum
    have HB := hide hbel
    clear hxl hra hrb hrc hnum hbel
    by_cases hlt : k < ta.length
    · obtain ⟨gx, cx, hvx, hgb, hgl, -, -⟩ := own_pos HOa.out.row (by omega)
      injection hvx with ex1 _ ex3
      subst ex1 ex3
      obtain ⟨hg2, hg3⟩ := HLta.out gx rfl
      obtain ⟨u, hce⟩ : ∃ u, xs[k * 3 + 1]? = some u := ⟨_, List.getElem?_eq_getElem (by rw [HXL.out]; omega)⟩
      have hc0 : wr.cell? ⟨gx, k * 3 + 1, none⟩ = some u := by
        rw [World.ownsRow.cellAt HOa.out.row _ (by omega)]
        exact hce
      have hf0 := World.ownsRow.frozenAt HOa.out.row (k * 3 + 1)
      have HS := hide (World.ownsRow.stored HOa.out.row (k * 3 + 1) (.string ⟨#[115, 112, 111, 105, 108, 116]⟩)).1
      have hkI : (k : Int) < (ta.length : Int) := by omega
      have hka : k * 3 + 1 < k * 3 + 3 := by omega
      clear hce
      go_wp2_with fail
      go_roundw
      case rel =>
        refine ⟨k + 1, hlt, by go_num, ⟨_, ?_, HS.out⟩, ?_, ?_, HM.out.put (by omega) _, HB.out.setCell (show w.heap.size ≤ gx by omega) _, by simpa using hzr⟩
        · rw [List.length_set]; exact HXL.out
        · exact ownsRow_setCell_below HOb.out.row (show gx < _ by omega) _
        · exact ownsRow_setCell_below HOc.out.row (show gx < _ by omega) _
      case measure => simp [intOf]; omega
    · obtain rfl : k = ta.length := by omega
      go_wp2_with fail
      with_reducible refine (sameToks_any Ab Ac ta.length cb ta.length cc ta ta wr _ _ (Rk.own HOb.out.row) (Rk.own HOc.out.row) (by omega)).mono ?_
      rintro e w' ⟨b1, rfl, hb1, q1, rfl⟩
      obtain rfl : b1 = true := hb1.2 rfl
      clear hb1
      go_wp2_with fail
      with_reducible refine (awake_any m _ (HM.out.drewE rfl)).mono ?_
      rintro e w' ⟨rfl, hbe⟩
      have HBE := hide ((below_drewN HB.out q1).trans (hbe.mono (by simp; omega)))
      clear hbe
      go_wp2_with fail
      go_ret
      exact ⟨rfl, HBE.out⟩
end Go.Proofs.Ytfoolkjamadfdaa
