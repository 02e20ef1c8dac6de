/-
  The walks of package chancerykit over bytes (copies, what is the same, what is lent, places): what each computes. Conditions: slices read as lists of bytes.
-/
import Derived.Test.YtnieenlnpnaamaaRows
import Derived.Test.YtnieenlnpnaamaaMem
import Derived.Test.YtnieenlnpnaamaaApp
namespace Go.Proofs.Ytnieenlnpnaamaa
open Go.RowKit

theorem info8 : (Try.prog.info? 5).map (fun i => (i.zero, i.size, i.bytes)) = some (some (.int .u8 0), 1, 1) := by kernel_rfl
theorem bt : Bt Try.prog 22 5 := ⟨Try.underlying22, info8⟩
theorem below_drewN {B : Nat} {a w : World} (h : Below B a w) (n : Nat) : Below B a (w.drewN n) := ⟨h.os, h.tape, h.output, h.size, h.block⟩
theorem Rb.drewN {w : World} {B : Nat} {A : Option Addr} {n : Nat} {l : List UInt8} (h : Rb w B A n l) (q : Nat) : Rb (w.drewN q) B A n l := h.keep fun _ _ => rfl
theorem grow1 {B : Nat} {w a b : World} {o : Obj} (h : Below B w a) (hB : B ≤ a.heap.size) (hb : Below (a.alloc o).heap.size (a.alloc o) b) : Below B w b := (h.alloc hB o).trans (hb.mono (by simp; omega))
theorem grow0 {B : Nat} {w a b : World} (h : Below B w a) (hB : B ≤ a.heap.size) (hb : Below a.heap.size a b) : Below B w b := h.trans (hb.mono hB)
theorem take_snoc (l : List UInt8) (k : Nat) (x : UInt8) (h : l[k]? = some x) : l.take k ++ [x] = l.take (k + 1) := by
  rw [List.take_add_one, h]
  rfl

set_option maxHeartbeats 400000 in
theorem copyBytes_any (A : Option Addr) (n c : Nat) (l : List UInt8) (w : World) (hl : Rb w w.heap.size A n l) (hn : n ≤ 140737488355328) :
    Calls Try.prog 10 #[.slice A n c] w fun e w' => ∃ v, e = .returned v ∧ w'.ownsRow w.heap.size 5 1 v n (l.map B8) ∧ Below w.heap.size w w' := by
  have HL := hide hl
  clear hl
  go_enter Try.func10, Try.ntmps10
  go_wp2_with fail
  go_loopw [3, 4] (fun v i wr => ∃ k : Nat, k ≤ n ∧ i = .int .i64 (k : Nat) ∧ wr.ownsRow w.heap.size 5 1 v k ((l.take k).map B8) ∧ Below w.heap.size w wr) (fun _ i _ => n - (intOf i).toNat)
  case atStart => exact ⟨0, Nat.zero_le _, rfl, own_nil _ _ _ _, Below.refl _ _⟩
  case round =>
    obtain ⟨k, hk, rfl, hown, hbel⟩ := hrel
    have HO := hide hown
    have HB := hide hbel
    have hsz := hbel.size
    clear hown hbel
    by_cases hlt : k < n
    · obtain ⟨b, off, ch, rfl, hb, hch, hcell⟩ := (HL.out.below HB.out (Nat.le_refl _)).at hlt
      have HE := hide (take_snoc l k ch hch)
      clear hch
      go_wp2_with (at_builtin; refine wpList_appL bt rfl (.tmp 11) (.tmp 16) rfl w.heap.size _ k (l.take k) rfl HO.out _ 1 1 [ch] rfl rfl rfl rfl (by omega) hsz ?_; intro v3 w3 hown3 hb3 _; have HO3 := hide hown3; have HB3 := hide (HB.out.trans hb3); clear hown3 hb3)
      go_roundw
      case rel => exact ⟨k + 1, by omega, by go_num, by rw [← HE.out]; exact HO3.out, HB3.out⟩
      case measure => simp [intOf]; omega
    · obtain rfl : k = n := by omega
      obtain ⟨A1, c1, rfl⟩ := own_sl HO.out
      go_wp2_with fail
      go_ret
      have := HO.out
      rw [List.take_of_length_le (by rw [HL.out.len]; exact Nat.le_refl _)] at this
      exact ⟨_, rfl, this, HB.out⟩

theorem take_succ_eq {l l' : List UInt8} {k : Nat} {a : UInt8} (h : l.take k = l'.take k) (h1 : l[k]? = some a) (h2 : l'[k]? = some a) : l.take (k + 1) = l'.take (k + 1) := by
  rw [List.take_add_one, List.take_add_one, h, h1, h2]
theorem byte_ne {a b : UInt8} (h : ((a.toNat : Int) != (b.toNat : Int)) = true) : a ≠ b := by
  rintro rfl
  simp at h
theorem byte_eq {a b : UInt8} (h : ((a.toNat : Int) != (b.toNat : Int)) = false) : a = b := by
  apply UInt8.toNat_inj.1
  simp at h
  omega

set_option maxHeartbeats 400000 in
theorem sameBytes_any (A A' : Option Addr) (n c n' c' : Nat) (l l' : List UInt8) (w : World) (B B' : Nat) (hl : Rb w B A n l) (hl' : Rb w B' A' n' l') (hn : n ≤ maxLen) :
    Calls Try.prog 27 #[.slice A n c, .slice A' n' c'] w fun e w' => e = .returned (.bool (l == l')) ∧ ∃ q, w' = w.drewN q := by
  unfold maxLen at hn
  have HL := hide hl
  have HL' := hide hl'
  clear hl hl'
  by_cases hne : n = n'
  · subst hne
    have hb : ((n : Int) != (n : Int)) = false := by simp
    go_enter Try.func27, Try.ntmps27
    go_wp2_with fail
    go_loopw [5] (fun i wr => ∃ k q : Nat, k ≤ n ∧ i = .int .i64 (k : Nat) ∧ wr = w.drewN q ∧ Hid (l.take k = l'.take k)) (fun i _ => n - (intOf i).toNat)
    case atStart => exact ⟨0, 0, Nat.zero_le _, rfl, rfl, rfl⟩
    case round =>
      obtain ⟨k, q, hk, rfl, rfl, HT⟩ := hrel
      by_cases hlt : k < n
      · obtain ⟨b, off, x, rfl, _, hx, hcx⟩ := HL.out.at hlt
        obtain ⟨b', off', y, rfl, _, hy, hcy⟩ := HL'.out.at hlt
        have hkI : (k : Int) < (n : Int) := by omega
        have HX := hide hx
        have HY := hide hy
        clear hx hy
        by_cases hxy : ((x.toNat : Int) != (y.toNat : Int)) = true
        · have hne := byte_ne hxy
          have HF : Hid ((l == l') = false) := by
            have : ¬ l = l' := by
              rintro rfl
              have := HX.out.symm.trans HY.out
              injection this with this
              exact hne this
            exact beq_eq_false_iff_ne.2 this
          have HN := hide hne
          clear hne
          go_wp2_with fail
          go_quiet (fail)
          go_wp2
          go_ret
          exact ⟨by rw [HF.out]; rfl, _, World.drewN_drewN _ _ _⟩
        · rw [Bool.not_eq_true] at hxy
          have heq := byte_eq hxy
          subst heq
          have HS := hide (take_succ_eq HT.out HX.out HY.out)
          go_wp2_with fail
          go_quiet (fail)
          go_wp2
          go_roundw
          case rel => exact ⟨k + 1, _, by omega, by go_num, rfl, HS.out⟩
          case measure => simp [intOf]; omega
      · obtain rfl : k = n := by omega
        have HF : Hid ((l == l') = true) := by
          have h := HT.out
          rw [List.take_of_length_le (by rw [HL.out.len]; exact Nat.le_refl _), List.take_of_length_le (by rw [HL'.out.len]; exact Nat.le_refl _)] at h
          exact beq_iff_eq.2 h
        go_wp2
        go_ret
        exact ⟨by rw [HF.out]; rfl, q, rfl⟩
  · have hb : ((n : Int) != (n' : Int)) = true := by simp; omega
    have HF : Hid ((l == l') = false) := by
      have : ¬ l = l' := by
        rintro rfl
        exact hne (by rw [← HL.out.len, HL'.out.len])
      exact beq_eq_false_iff_ne.2 this
    go_enter Try.func27, Try.ntmps27
    go_wp2_with fail
    go_ret
    exact ⟨by rw [HF.out]; rfl, 0, rfl⟩

theorem lentBytes_any (A : Option Addr) (n c : Nat) (l : List UInt8) (w : World) (hl : Rb w w.heap.size A n l) (hn : n + 2 ≤ 140737488355328) :
    Calls Try.prog 15 #[.slice A n c] w fun e w' => ∃ g cap, e = .returned (.slice (some ⟨g, 0, none⟩) n cap) ∧ w'.ownsRow w.heap.size 5 1 (.slice (some ⟨g, 0, none⟩) (n + 2) cap) (n + 2) ((l ++ [77, 78]).map B8) ∧ Below w.heap.size w w' := by
  have HL := hide hl
  clear hl
  go_enter Try.func15, Try.ntmps15
  go_wp2_with fail
  (with_reducible refine (copyBytes_any A n c l _ HL.out (by omega)).mono ?_)
  rintro e w1 ⟨v, rfl, hown, hb1⟩
  have HO := hide hown
  have HB := hide hb1
  clear hown hb1
  go_wp2_with (at_builtin; refine wpList_appL bt rfl (.tmp 5) (.tmp 6) rfl w.heap.size _ n l rfl HO.out _ 2 2 [77, 78] rfl rfl rfl rfl (by omega) HB.out.size ?_; intro v2 w2 hown2 hb2 _; obtain ⟨g, cap, hv, hg1, hg2, hc1, hc2⟩ := own_pos hown2 (by omega); subst hv; have HO2 := hide hown2; have HB2 := hide (HB.out.trans hb2); clear hown2 hb2)
  go_ret
  exact ⟨g, cap, rfl, HO2.out, HB2.out⟩

theorem keptBytes_any (g cap base : Nat) (A : Option Addr) (n n' c : Nat) (l : List UInt8) (w : World) (B : Nat) (hown : w.ownsRow base 5 1 (.slice (some ⟨g, 0, none⟩) (n + 2) cap) (n + 2) ((l ++ [77, 78]).map B8)) (hl : Rb w B A n' l) (hn : n + 2 ≤ 140737488355328) :
    Calls Try.prog 17 #[.slice (some ⟨g, 0, none⟩) n cap, .slice A n' c] w fun e w' => e = .returned (.bool true) ∧ ∃ q, w' = w.drewN q := by
  have hlen : l.length = n := by have := own_len hown; simp at this; omega
  obtain rfl : n' = n := by rw [← hl.len]; exact hlen
  obtain ⟨g', cap', hv, hg1, hg2, hc1, hc2⟩ := own_pos hown (by omega)
  injection hv with e1 _ e3
  subst e3
  have hr : Rb w w.heap.size (some ⟨g, 0, none⟩) n' l := by
    have := Rb.own (own_take hown (show n' ≤ n' + 2 by omega))
    rwa [List.take_left' hlen] at this
  have hat : ∀ j c, (l ++ [77, 78])[j]? = some c → w.cell? ⟨g, j, none⟩ = some (.int .u8 (c.toNat : Int)) := by
    intro j c hj
    obtain ⟨b, off, e, _, h⟩ := (Rb.own hown).all (by omega)
    injection e with e
    injection e with e1 e2
    subst e1 e2
    have := h j c hj
    rwa [Nat.zero_add] at this
  have h0 : w.cell? ⟨g, n', none⟩ = some (.int .u8 77) := hat n' 77 (by simp [hlen])
  have h1 : w.cell? ⟨g, n' + 1, none⟩ = some (.int .u8 78) := hat (n' + 1) 78 (by simp [hlen])
  have HR := hide hr
  have HL := hide hl
  clear hr hl hat hown e1 hlen
  go_enter Try.func17, Try.ntmps17
  go_wp2_with fail
  (with_reducible refine (sameBytes_any _ _ _ _ _ _ l l _ _ _ HR.out HL.out (by unfold maxLen; omega)).mono ?_)
  rintro e w1 ⟨rfl, q, rfl⟩
  simp only [BEq.rfl]
  go_wp2
  go_ret
  exact ⟨rfl, q, rfl⟩

end Go.Proofs.Ytnieenlnpnaamaa
