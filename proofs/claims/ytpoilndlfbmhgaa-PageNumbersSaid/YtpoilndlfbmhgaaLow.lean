/-
  The walks of package chancerylow (copies, what is the same, what is lent): what each computes. Conditions: slices read as lists of bytes, of at most 2^46 bytes.
-/
import Derived.Test.YtpoilndlfbmhgaaRows
import Derived.Test.YtpoilndlfbmhgaaMem
import Derived.Test.YtpoilndlfbmhgaaApp
namespace Go.Proofs.Ytpoilndlfbmhgaa
open Go.RowKit

theorem info8 : (Try.prog.info? 5).map (fun i => (i.zero, i.size, i.bytes)) = some (some (.int .u8 0), 1, 1) := by kernel_rfl

theorem copyBytes_any (A : Option Addr) (n c : Nat) (l : List UInt8) (w : World) (hl : Rb w w.heap.size A n l) (hn : n ≤ 140737488355328) :
    Calls Try.prog 44 #[.slice A n c] w fun e w' => ∃ v, e = .returned v ∧ w'.ownsRow w.heap.size 5 1 v n (l.map B8) ∧ Below w.heap.size w w' := by
  obtain ⟨i0, hi0, hz0, hz1, hz2⟩ := info_parts info8
  have HL := hide hl
  clear hl
  go_enter Try.func44, Try.ntmps44
  go_wp2_with (at_builtin; refine wpList_append_rd _ rfl (.tmp 4) (.tmp 5) _ rfl w.heap.size 5 i0 _ 1 1 Try.underlying26 hi0 hz0 hz1 hz2 rfl (by omega) (.slice none 0 0) 0 [] rfl (own_nil _ _ _ _) w.heap.size A n c (l.map B8) rfl HL.out (B8_one l) (by unfold maxLen; omega) (by omega) (Nat.le_refl _) ?_; intro v1 w1 hown1 hb1 _)
  go_ret
  exact ⟨v1, rfl, by simpa using hown1, hb1⟩

theorem sameBytes_any (A A' : Option Addr) (n c n' c' : Nat) (l l' : List UInt8) (w : World) (B B' : Nat) (hl : Rb w B A n l) (hl' : Rb w B' A' n' l') :
    Calls Try.prog 11 #[.slice A n c, .slice A' n' c'] w fun e w' => e = .returned (.bool (l == l')) ∧ w = w' := by
  have h1 := hl.run_string (P := Try.prog) 26 5 9 c Try.underlying26 Try.underlying5 Try.underlying9
  have h2 := hl'.run_string (P := Try.prog) 26 5 9 c' Try.underlying26 Try.underlying5 Try.underlying9
  clear hl hl'
  go_enter Try.func11, Try.ntmps11
  go_wp2
  go_ret
  exact ⟨rfl, rfl⟩

theorem lentBytes_any (A : Option Addr) (n c : Nat) (l : List UInt8) (w : World) (hl : Rb w w.heap.size A n l) (hn : n + 3 ≤ 140737488355328) :
    Calls Try.prog 24 #[.slice A n c] w fun e w' => ∃ g cap, e = .returned (.slice (some ⟨g, 0, none⟩) n cap) ∧ w'.ownsRow w.heap.size 5 1 (.slice (some ⟨g, 0, none⟩) (n + 3) cap) (n + 3) ((l ++ [77, 78, 79]).map B8) ∧ Below w.heap.size w w' := by
  obtain ⟨i0, hi0, hz0, hz1, hz2⟩ := info_parts info8
  have HL := hide hl
  clear hl
  go_enter Try.func24, Try.ntmps24
  go_wp2_with fail
  (with_reducible refine (copyBytes_any A n c l _ HL.out (by omega)).mono ?_)
  rintro e w1 ⟨v, rfl, hown, hb1⟩
  go_wp2_with (at_builtin; refine wpList_append_rd _ rfl (.tmp 5) (.tmp 6) _ rfl w.heap.size 5 i0 _ 1 1 Try.underlying26 hi0 hz0 hz1 hz2 rfl (by omega) v n (l.map B8) rfl (hown.alloc _) _ _ 3 3 ([77, 78, 79].map B8) rfl (Rd.lit w1 _ ([77, 78, 79].map B8)) (B8_one [77, 78, 79]) (by unfold maxLen; omega) (by omega) ?_ ?_; (simp; have := hb1.size; omega); intro v2 w2 hown2 hb2 _; obtain ⟨g, cap, hv, hg1, hg2, hc1, hc2⟩ := own_pos hown2 (by omega); subst hv)
  go_ret
  refine ⟨g, cap, rfl, by simpa using hown2, ?_⟩
  refine hb1.trans ?_
  exact ((Below.refl _ _).alloc hb1.size _).trans hb2

theorem keptBytes_any (g cap base : Nat) (A : Option Addr) (n n' c : Nat) (l : List UInt8) (w : World) (B : Nat) (hown : w.ownsRow base 5 1 (.slice (some ⟨g, 0, none⟩) (n + 3) cap) (n + 3) ((l ++ [77, 78, 79]).map B8)) (hl : Rb w B A n' l) (hn : n + 3 ≤ 140737488355328) :
    Calls Try.prog 31 #[.slice (some ⟨g, 0, none⟩) n cap, .slice A n' c] w fun e w' => e = .returned (.bool true) ∧ w = w' := by
  have hlen : l.length = n := by have := own_len hown; simp at this; omega
  obtain rfl : n' = n := by rw [← hl.len]; exact hlen
  obtain ⟨g', cap', hv, hg1, hg2, hc1, hc2⟩ := own_pos hown (by omega)
  injection hv with e1 _ e3
  subst e3
  have hr : Rb w w.heap.size (some ⟨g, 0, none⟩) n' l := by
    have := Rb.own (own_take hown (show n' ≤ n' + 3 by omega))
    rwa [List.take_left' hlen] at this
  have hat : ∀ j c, (l ++ [77, 78, 79])[j]? = some c → w.cell? ⟨g, j, none⟩ = some (.int .u8 (c.toNat : Int)) := by
    intro j c hj
    obtain ⟨b, off, e, _, h⟩ := (Rb.own hown).all (by omega)
    injection e with e
    injection e with e1 e2
    subst e1 e2
    have := h j c hj
    rwa [Nat.zero_add] at this
  have h0 : w.cell? ⟨g, n', none⟩ = some (.int .u8 77) := hat n' 77 (by simp [hlen])
  have h1 : w.cell? ⟨g, n' + 1, none⟩ = some (.int .u8 78) := hat (n' + 1) 78 (by simp [hlen])
  have h2 : w.cell? ⟨g, n' + 2, none⟩ = some (.int .u8 79) := hat (n' + 2) 79 (by simp [hlen])
  have HR := hide hr
  have HL := hide hl
  clear hr hl hat hown e1 hlen
  go_enter Try.func31, Try.ntmps31
  go_wp2_with fail
  (with_reducible refine (sameBytes_any _ _ _ _ _ _ l l _ _ _ HR.out HL.out).mono ?_)
  rintro e w1 ⟨rfl, rfl⟩
  simp only [BEq.rfl]
  go_wp2
  go_ret
  exact ⟨rfl, rfl⟩
end Go.Proofs.Ytpoilndlfbmhgaa
