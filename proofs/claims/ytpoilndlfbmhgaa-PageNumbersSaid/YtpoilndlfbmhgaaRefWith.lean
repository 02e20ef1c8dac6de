/-
  The walk of the reference's without. Conditions: the cells and the key read as lists.
-/
import Derived.Test.YtpoilndlfbmhgaaPutMath
import Derived.Test.YtpoilndlfbmhgaaRefUnp
import Derived.Test.YtpoilndlfbmhgaaSplit
import Derived.Test.YtpoilndlfbmhgaaPut
namespace Go.Proofs.Ytpoilndlfbmhgaa
open Go.RowKit

namespace Pag
theorem with_same {cs : List Ce} {key : List UInt8} {j : Nat} {c : Ce} (h : cs[j]? = some c) (hk : (c.1 == key) = true) : withN (cs.take (j + 1)) key = withN (cs.take j) key := by
  unfold withN
  rw [List.take_add_one, h, List.filter_append]
  simp [hk]
theorem with_more {cs : List Ce} {key : List UInt8} {j : Nat} {c : Ce} (h : cs[j]? = some c) (hk : (c.1 == key) = false) : withN (cs.take (j + 1)) key = withN (cs.take j) key ++ [c] := by
  unfold withN
  rw [List.take_add_one, h, List.filter_append]
  simp [hk]
theorem with_len (cs : List Ce) (key : List UInt8) : (withN cs key).length ≤ cs.length := List.length_filter_le _ _
end Pag
def WiR (w : World) (n : Nat) (cs : List Pag.Ce) (e : Ending) (w' : World) : Prop := ∃ v, e = .returned (.tuple #[v, .bool (decide (cs.length < n))]) ∧ CeOwn w' w.heap.size w.heap.size v cs ∧ Below w.heap.size w w'
set_option linter.unusedVariables false in
set_option maxRecDepth 100000 in
set_option maxHeartbeats 1600000 in
theorem rWith_any (A A' : Option Addr) (n c n' c' : Nat) (cs : List Pag.Ce) (key : List UInt8) (w : World) (hl : CeRd w w.heap.size A n cs) (hk : Rb w w.heap.size A' n' key) (hn : n ≤ 100000) :
    Calls Try.prog 52 #[.slice A n c, .slice A' n' c'] w (WiR w n (Pag.withN cs key)) := by
  have HL := hide hl
  have HK := hide hk
  have HN := hide hl.1
  clear hl hk
  go_enter Try.func52, Try.ntmps52
  go_wp2_with fail
  go_loopg [6, 7] n (fun gg o a wr => ∃ j : Nat, j ≤ n ∧ gg = n - j ∧ a = .int .i64 (j : Nat) ∧ Hid (CeOwn wr w.heap.size w.heap.size o (Pag.withN (cs.take j) key)) ∧ Below w.heap.size w wr)
  case atStart => exact ⟨0, Nat.zero_le _, rfl, rfl, CeOwn.nil _ _ _, Below.refl _ _⟩
  case round =>
    obtain ⟨j, hj, rfl, rfl, HO, hbel⟩ := hrel
    obtain ⟨w5, hw5⟩ : ∃ w5, w5 = wr := ⟨_, rfl⟩
    subst hw5
    have hs5 := hbel.size
    have HB5 := hide hbel
    have HL5 := hide (HL.out.below hbel (Nat.le_refl _))
    have HK5 := hide ((HK.out.below hbel (Nat.le_refl _)).more hs5)
    clear hbel
    by_cases hlt : j < n
    · obtain ⟨g, off, f, Ak, ck, Av, cv, rfl, hg, hf, d1, d2, r1, x1, x2, x3, r2, x4, x5, x6⟩ := HL5.out.at hlt
      have R1 := hide (r1.more hs5)
      have B1 : Hid (Bo w5 w.heap.size w.heap.size (.slice Ak f.1.length ck) f.1) := .inr ⟨⟨Ak, ck, rfl, r1, x1, x2, x3⟩, Nat.le_refl _⟩
      have B2 : Hid (Bo w5 w.heap.size w.heap.size (.slice Av f.2.length cv) f.2) := .inr ⟨⟨Av, cv, rfl, r2, x4, x5, x6⟩, Nat.le_refl _⟩
      have HF := hide hf
      clear r1 r2 x1 x2 x3 x4 x5 x6 hf
      cases hq : f.1 == key with
      | true =>
        have HW := hide (Pag.with_same HF.out hq)
        have HQ := hide hq
        clear hq
        go_wp2_with fail
        with_reducible refine (sameBytes_any _ _ _ _ _ _ f.1 key _ _ _ R1.out HK5.out).mono ?_
        rintro e w' ⟨rfl, rfl⟩
        rw [HQ.out]
        go_wp2_with fail
        go_roundg (n - (j + 1))
        case measure => omega
        case rel => exact ⟨j + 1, by omega, rfl, by go_num, by show CeOwn _ _ _ _ _; rw [HW.out]; exact HO.out, HB5.out⟩
      | false =>
        have HW := hide (Pag.with_more HF.out hq)
        have HQ := hide hq
        have hwl : (Pag.withN (cs.take j) key).length ≤ n := Nat.le_trans (Pag.with_len _ _) (by rw [List.length_take]; omega)
        have HWl := hide hwl
        clear hq hwl
        obtain ⟨w6, hw6⟩ : ∃ w6, w6 = w5.alloc (.cells #[.slice Ak f.1.length ck, .slice Av f.2.length cv] 41) := ⟨_, rfl⟩
        have hb6 : Below w5.heap.size w5 w6 := by rw [hw6]; exact (Below.refl _ _).alloc (Nat.le_refl _) _
        have HV6 : Hid (Blk w6 w5.heap.size 41 #[.slice Ak f.1.length ck, .slice Av f.2.length cv]) := by rw [hw6]; exact Blk.new _ _ _
        have hs6 := hb6.size
        have HO6 := hide (HO.out.below hb6 hs5)
        have B16 := hide (B1.out.below hb6 hs5)
        have B26 := hide (B2.out.below hb6 hs5)
        have HB6 := hide (HB5.out.trans (hb6.mono hs5))
        have HM : Hid (((Pag.withN (cs.take j) key).length + 1) * 48 ≤ 140737488355328) := by show _ ≤ _; have := HWl.out; omega
        clear hb6
        go_wp2_with fail
        with_reducible refine (sameBytes_any _ _ _ _ _ _ f.1 key _ _ _ R1.out HK5.out).mono ?_
        rintro e w' ⟨rfl, rfl⟩
        rw [HQ.out]
        go_wp2_with (at_builtin; rw [← hw6]; clear hw6; refine wpList_appCg rfl (.tmp 22) (.tmp 27) rfl w.heap.size w.heap.size _ (Pag.withN (cs.take j) key) rfl HO6.out w5.heap.size 1 f _ _ B16.out B26.out rfl HV6.out HM.out (by omega) ?_; intro v7 w7 ho7 hb7 _; have HO7 := hide ho7; have HB7 := hide hb7; clear ho7 hb7)
        go_roundg (n - (j + 1))
        case measure => omega
        case rel => exact ⟨j + 1, by omega, rfl, by go_num, by show CeOwn _ _ _ _ _; rw [HW.out]; exact HO7.out, HB6.out.trans HB7.out⟩
    · have hjn : j = n := by omega
      subst hjn
      have hw : Pag.withN (cs.take j) key = Pag.withN cs key := by rw [List.take_of_length_le (by rw [HN.out]; exact Nat.le_refl _)]
      rw [hw] at HO
      obtain ⟨A', c', e', y1, y2⟩ := HO.out.form
      obtain ⟨q, hq⟩ : ∃ q, q = (Pag.withN cs key).length := ⟨_, rfl⟩
      have HQ := hide hq
      subst e'
      rw [← hq] at HO y1 ⊢
      clear hw hq
      go_wp2_with fail
      go_ret2
      exact ⟨_, by rw [← HQ.out]; first | rfl | (congr 3; simp), HO.out, HB5.out⟩
end Go.Proofs.Ytpoilndlfbmhgaa
