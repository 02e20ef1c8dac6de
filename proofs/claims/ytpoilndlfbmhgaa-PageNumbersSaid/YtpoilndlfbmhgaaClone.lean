/-
  slices.Clone of bytes; the append of a cell as a step of a region that draws its order. Conditions: slices read as lists of bytes.
-/
import Derived.Test.YtpoilndlfbmhgaaRefPack
namespace Go.Proofs.Ytpoilndlfbmhgaa
open Go.RowKit

/-- slices.Clone of bytes. -/
theorem clone_any (A : Option Addr) (n c : Nat) (l : List UInt8) (w : World) (hl : Rb w w.heap.size A n l) (hn : n ≤ 140737488355328) :
    Calls Try.prog 46 #[.slice A n c] w fun e w' => ∃ v, e = .returned v ∧ w'.ownsRow w.heap.size 5 1 v n (l.map B8) ∧ Below w.heap.size w w' := by
  have HL := hide hl
  clear hl
  cases A with
  | none =>
    have hnil := fun w => Lib.run_eql_slice_nil (P := Try.prog) w 26 5 none n c 0 0 Try.underlying26
    have h0 : n = 0 := by
      rcases Nat.eq_zero_or_pos n with h | h
      · exact h
      · obtain ⟨b, off, e, _⟩ := HL.out.all h
        cases e
    subst h0
    have hl0 : l = [] := List.eq_nil_of_length_eq_zero HL.out.len
    subst hl0
    go_enter Try.func46, Try.ntmps46
    go_wp2_with fail
    go_ret
    exact ⟨_, rfl, own_nil _ _ _ _, Below.refl _ _⟩
  | some ad =>
    have hnil := fun w => Lib.run_eql_slice_nil (P := Try.prog) w 26 5 (some ad) n c 0 0 Try.underlying26
    have HO : Hid ((w.alloc (.cells #[] 5)).ownsRow w.heap.size 5 1 (.slice (some ⟨w.heap.size, 0, none⟩) 0 0) 0 (([] : List UInt8).map B8)) := World.ownsRow_made w #[] 0 (Nat.le_refl _) (by unfold maxLen; omega) rfl
    have HLa := hide (HL.out.keep (w' := w.alloc (.cells #[] 5)) fun p hp => World.cell?_alloc_lt w _ p hp)
    go_enter Try.func46, Try.ntmps46
    go_wp2_with (at_builtin; refine wpList_app _ bt rfl (.tmp 5) (.tmp 6) rfl w.heap.size _ 0 [] rfl HO.out _ _ n c l rfl HLa.out (by omega) (by simp) ?_; intro v' w' hown' hb' _; have HO' := hide hown'; have HB' := hide hb'; clear hown' hb')
    go_ret
    exact ⟨_, rfl, by simpa using HO'.out, ((Below.refl _ _).alloc (Nat.le_refl _) _).trans HB'.out⟩

end Go.Proofs.Ytpoilndlfbmhgaa
