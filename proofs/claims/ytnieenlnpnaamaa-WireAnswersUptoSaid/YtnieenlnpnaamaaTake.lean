/-
  The walks of cell.Read's two inner functions. Conditions: the state's two variables lie in blocks of their own, the bytes below them.
-/
import Derived.Test.YtnieenlnpnaamaaRow
import Derived.Laws.EntriesVeiled
namespace Go.Proofs.Ytnieenlnpnaamaa
open Go.RowKit

/-- Only the blocks g and h may have turned. -/
structure Ch (w w' : World) (g h : Nat) : Prop where
  os : w'.os = w.os
  tape : w'.tape = w.tape
  output : w'.output = w.output
  size : w'.heap.size = w.heap.size
  block : ∀ k, k ≠ g → k ≠ h → w'.heap[k]? = w.heap[k]?
theorem Ch.refl (w : World) (g h : Nat) : Ch w w g h := ⟨rfl, rfl, rfl, rfl, fun _ _ _ => rfl⟩
theorem Ch.trans {w w1 w2 : World} {g h : Nat} (a : Ch w w1 g h) (b : Ch w1 w2 g h) : Ch w w2 g h := ⟨b.os.trans a.os, b.tape.trans a.tape, b.output.trans a.output, b.size.trans a.size, fun k h1 h2 => (b.block k h1 h2).trans (a.block k h1 h2)⟩
theorem Ch.put1 {w w1 : World} {g h : Nat} (a : Ch w w1 g h) (i : Nat) (u : Value) : Ch w (w1.setCell ⟨g, i, none⟩ u) g h :=
  ⟨a.os, a.tape, a.output, by simpa [World.setCell] using a.size, fun k h1 h2 => (Below.heap_setCell w1 ⟨g, i, none⟩ u k h1).trans (a.block k h1 h2)⟩
theorem Ch.put2 {w w1 : World} {g h : Nat} (a : Ch w w1 g h) (i : Nat) (u : Value) : Ch w (w1.setCell ⟨h, i, none⟩ u) g h :=
  ⟨a.os, a.tape, a.output, by simpa [World.setCell] using a.size, fun k h1 h2 => (Below.heap_setCell w1 ⟨h, i, none⟩ u k h2).trans (a.block k h1 h2)⟩
theorem Ch.drew {w w1 : World} {g h : Nat} (a : Ch w w1 g h) : Ch w w1.drew g h := ⟨a.os, a.tape, a.output, a.size, a.block⟩
theorem Ch.below {w w' : World} {g h B : Nat} (a : Ch w w' g h) (hg : B ≤ g) (hh : B ≤ h) : Below B w w' := ⟨a.os, a.tape, a.output, Nat.le_of_eq a.size.symm, fun k hk => a.block k (by omega) (by omega)⟩
theorem Blk.ch {w w' : World} {g h b : Nat} {t : TypeId} {cs : Array Value} (hb : Blk w b t cs) (a : Ch w w' g h) (h1 : b ≠ g) (h2 : b ≠ h) : Blk w' b t cs := (a.block b h1 h2).trans hb

/-- The state of the reading: what is left, and whether all was there. -/
def St (w : World) (Bb Bw B : Nat) (rest : List UInt8) (wh : Bool) : Prop :=
  ∃ A c, Blk w Bb 22 #[.slice A rest.length c] ∧ Blk w Bw 4 #[.bool wh] ∧ Rb w B A rest.length rest ∧ rest.length ≤ c ∧ c ≤ 9223372036854775807 ∧ B ≤ Bb ∧ B ≤ Bw ∧ Bb ≠ Bw
def TakePost (w : World) (Bb Bw B : Nat) (rest : List UInt8) (wh : Bool) (k : Nat) (e : Ending) (w' : World) : Prop :=
  ∃ A c, e = .returned (.slice A (rest.take k).length c) ∧ Rb w' B A (rest.take k).length (rest.take k) ∧ St w' Bb Bw B (rest.drop k) (wh && decide (k ≤ rest.length)) ∧ Ch w w' Bb Bw

set_option maxHeartbeats 800000 in
theorem take_ok (k : Nat) (Bb Bw B : Nat) (rest : List UInt8) (wh : Bool) (w : World) (hst : St w Bb Bw B rest wh) (hk : k ≤ rest.length) :
    Calls Try.prog 53 #[.int .i64 (k : Int), .pointer (some ⟨Bb, 0, none⟩), .pointer (some ⟨Bw, 0, none⟩)] w (TakePost w Bb Bw B rest wh k) := by
  obtain ⟨A, c, h1, h2, h3, h4, h5, h6, h7, h8⟩ := hst
  have H1 := hide h1
  have H2 := hide h2
  have H3 := hide h3
  have hc1 : w.cell? ⟨Bb, 0, none⟩ = some (.slice A rest.length c) := h1.cell 0
  have hf1 := h1.frozen 0
  have hl1 := h1.lt
  have kI : ¬ ((rest.length : Int) < (k : Int)) := by omega
  have tI : decide ((rest.length : Int) < (k : Int)) = false := decide_eq_false kI
  have kJ : (k : Int) ≤ (rest.length : Int) := by omega
  have kK : (rest.length : Int) ≤ (c : Int) := by omega
  have HE : Hid ((rest.take k).length = k) := by show _ = _; rw [List.length_take]; omega
  have HD : Hid ((wh && decide (k ≤ rest.length)) = wh) := by show _ = _; rw [decide_eq_true hk, Bool.and_true]
  have HR := hide (h3.take hk)
  have HC := hide (h3.cut hk h4)
  have HL : Hid ((rest.drop k).length = rest.length - k) := List.length_drop
  have h8' := hide h8
  clear h1 h2 h3 h8
  by_cases hck : c = k
  · subst hck
    have hC := HC.out
    rw [if_pos rfl] at hC
    have HC2 := hide hC
    clear hC HC
    go_enter Try.func53, Try.ntmps53
    go_wp2_with fail
    go_ret
    refine ⟨A, c, by rw [HE.out]; rfl, by rw [HE.out]; exact HR.out.below ((Below.refl B w).setCell h6 _) (Nat.le_refl _), ⟨A, 0, ?_, ?_, ?_, by rw [HL.out]; omega, by omega, h6, h7, h8'.out⟩, (Ch.refl _ _ _).put1 _ _⟩
    · rw [HL.out, show rest.length - c = 0 by omega]
      have := H1.out.put 0 (.slice A 0 0)
      simpa using this
    · rw [HD.out]
      exact H2.out.far (fun e => h8'.out e.symm) _
    · rw [HL.out]
      exact HC2.out.below ((Below.refl B w).setCell h6 _) (Nat.le_refl _)
  · have hC := HC.out
    rw [if_neg hck] at hC
    have HC2 := hide hC
    clear hC HC
    go_enter Try.func53, Try.ntmps53
    go_wp2_with fail
    go_ret
    refine ⟨A, c, by rw [HE.out]; rfl, by rw [HE.out]; exact HR.out.below ((Below.refl B w).setCell h6 _) (Nat.le_refl _), ⟨Option.map (fun x => x.add k) A, c - k, ?_, ?_, ?_, by rw [HL.out]; omega, by omega, h6, h7, h8'.out⟩, (Ch.refl _ _ _).put1 _ _⟩
    · rw [HL.out]
      have := H1.out.put 0 (.slice (Option.map (fun x => x.add k) A) (rest.length - k) (c - k))
      simpa using this
    · rw [HD.out]
      exact H2.out.far (fun e => h8'.out e.symm) _
    · rw [HL.out]
      exact HC2.out.below ((Below.refl B w).setCell h6 _) (Nat.le_refl _)

set_option maxHeartbeats 800000 in
theorem take_short (k : Nat) (Bb Bw B : Nat) (rest : List UInt8) (wh : Bool) (w : World) (hst : St w Bb Bw B rest wh) (hk : rest.length < k) :
    Calls Try.prog 53 #[.int .i64 (k : Int), .pointer (some ⟨Bb, 0, none⟩), .pointer (some ⟨Bw, 0, none⟩)] w (TakePost w Bb Bw B rest wh k) := by
  obtain ⟨A, c, h1, h2, h3, h4, h5, h6, h7, h8⟩ := hst
  have H1 := hide h1
  have H2 := hide h2
  have H3 := hide h3
  have hc1 : w.cell? ⟨Bb, 0, none⟩ = some (.slice A rest.length c) := h1.cell 0
  have hc2 : w.cell? ⟨Bw, 0, none⟩ = some (.bool wh) := h2.cell 0
  have hf1 := h1.frozen 0
  have hf2 := h2.frozen 0
  have hl1 := h1.lt
  have hl2 := h2.lt
  have kI : (rest.length : Int) < (k : Int) := by omega
  have tI : decide ((rest.length : Int) < (k : Int)) = true := decide_eq_true kI
  have kK : (rest.length : Int) ≤ (c : Int) := by omega
  have HE : Hid (rest.take k = rest) := List.take_of_length_le (by omega)
  have HD : Hid ((wh && decide (k ≤ rest.length)) = false) := by show _ = _; rw [decide_eq_false (by omega), Bool.and_false]
  have HL : Hid (rest.drop k = []) := List.drop_of_length_le (by omega)
  have h8' : ¬ Bb = Bw := h8
  have h8'' : ¬ Bw = Bb := fun e => h8 e.symm
  clear h1 h2 h3 h8
  have fin : ∀ (A' : Option Addr) (c' : Nat), c' ≤ 9223372036854775807 → TakePost w Bb Bw B rest wh k (.returned (.slice A rest.length c)) (((w.setCell ⟨Bw, 0, none⟩ (.bool false)).setCell ⟨Bb, 0, none⟩ (.slice A' 0 c')).drew) := by
    intro A' c' hcc
    refine ⟨A, c, by rw [HE.out], by rw [HE.out]; exact (H3.out.below (((Below.refl B w).setCell h7 _).setCell h6 _) (Nat.le_refl _)).keep fun _ _ => rfl, ⟨A', c', ?_, ?_, ?_, by rw [HL.out]; exact Nat.zero_le _, hcc, h6, h7, h8'⟩, ⟨rfl, rfl, rfl, by simp [World.setCell, World.drew], fun b hb1 hb2 => ?_⟩⟩
    · rw [HL.out]
      have := (H1.out.far (p := ⟨Bw, 0, none⟩) h8' (.bool false)).put 0 (.slice A' 0 c')
      exact this
    · rw [HD.out]
      have := (H2.out.put 0 (.bool false)).far (p := ⟨Bb, 0, none⟩) h8'' (.slice A' 0 c')
      exact this
    · rw [HL.out]
      exact Rb.nil
    · exact (Below.heap_setCell _ ⟨Bb, 0, none⟩ _ b hb1).trans (Below.heap_setCell _ ⟨Bw, 0, none⟩ _ b hb2)
  have Fin := hide fin
  clear fin
  by_cases hck : c = rest.length
  · subst hck
    go_enter Try.func53, Try.ntmps53
    go_wp2_with fail
    go_region
    all_goals
      go_wp2_with fail
      go_ret
      exact Fin.out _ _ (by omega)
  · go_enter Try.func53, Try.ntmps53
    go_wp2_with fail
    go_region
    all_goals
      go_wp2_with fail
      go_ret
      exact Fin.out _ _ (by omega)
theorem take_any (k : Nat) (Bb Bw B : Nat) (rest : List UInt8) (wh : Bool) (w : World) (hst : St w Bb Bw B rest wh) :
    Calls Try.prog 53 #[.int .i64 (k : Int), .pointer (some ⟨Bb, 0, none⟩), .pointer (some ⟨Bw, 0, none⟩)] w (TakePost w Bb Bw B rest wh k) := by
  by_cases h : k ≤ rest.length
  · exact take_ok k Bb Bw B rest wh w hst h
  · exact take_short k Bb Bw B rest wh w hst (by omega)

theorem or8 (x : Nat) (c : UInt8) (hx : x < 72057594037927936) : bits .or .u64 (IntKind.u64.wrap ((x : Int) * 256)) (IntKind.u64.wrap (c.toNat : Int)) = ((x * 256 + c.toNat : Nat) : Int) := by
  have hc := c.toNat_lt
  have e1 : IntKind.u64.wrap ((x : Int) * 256) = ((x * 256 : Nat) : Int) := by
    simp only [IntKind.wrap, IntKind.signed, IntKind.bits]
    simp
    omega
  have e2 : IntKind.u64.wrap (c.toNat : Int) = (c.toNat : Int) := by
    simp only [IntKind.wrap, IntKind.signed, IntKind.bits]
    simp
    omega
  rw [e1, e2, u64_or_nat _ _ (by omega) (by omega)]
  have := Nat.shiftLeft_add_eq_or_of_lt (i := 8) (b := c.toNat) (by omega) x
  rw [Nat.shiftLeft_eq] at this
  rw [← this]
/-- The value of the first inner function. -/
def takeF (Bb Bw : Nat) : Value := .func (.func 53) #[] #[.pointer (some ⟨Bb, 0, none⟩), .pointer (some ⟨Bw, 0, none⟩)]
def LongPost (w : World) (Bb Bw B : Nat) (rest : List UInt8) (wh : Bool) (k : Nat) (e : Ending) (w' : World) : Prop :=
  e = .returned (.int .u64 ((Cell.beN (rest.take k) : Nat) : Int)) ∧ St w' Bb Bw B (rest.drop k) (wh && decide (k ≤ rest.length)) ∧ Ch w w' Bb Bw
set_option maxHeartbeats 800000 in
theorem long_any (k : Nat) (Bt Bb Bw B : Nat) (rest : List UInt8) (wh : Bool) (w : World) (hk8 : k ≤ 8) (hst : St w Bb Bw B rest wh) (ht : Blk w Bt 69 #[takeF Bb Bw]) :
    Calls Try.prog 54 #[.int .i64 (k : Int), .pointer (some ⟨Bt, 0, none⟩)] w (LongPost w Bb Bw B rest wh k) := by
  have HS := hide hst
  have hc0 : w.cell? ⟨Bt, 0, none⟩ = some (.func (.func 53) #[] #[.pointer (some ⟨Bb, 0, none⟩), .pointer (some ⟨Bw, 0, none⟩)]) := ht.cell 0
  clear hst ht
  go_enter Try.func54, Try.ntmps54
  go_wp2_with fail
  refine (take_any k Bb Bw B rest wh _ HS.out).mono ?_
  rintro e w1 ⟨A, c, rfl, hr, hst1, hch⟩
  obtain ⟨t, ht⟩ : ∃ t, t = rest.take k := ⟨_, rfl⟩
  have htl : t.length ≤ 8 := by rw [ht, List.length_take]; omega
  have HT := hide ht
  rw [← ht] at hr ⊢
  have HR := hide hr
  have HS1 := hide hst1
  have HC := hide hch
  clear ht hr hst1 hch
  go_wp2_with fail
  go_loop [4, 11] (fun v i => ∃ j : Nat, j ≤ t.length ∧ i = .int .i64 (j : Nat) ∧ v = .int .u64 ((Cell.beN (t.take j) : Nat) : Int)) (fun _ i => t.length - (intOf i).toNat)
  case atStart => exact ⟨0, Nat.zero_le _, rfl, rfl⟩
  case round =>
    obtain ⟨j, hj, rfl, rfl⟩ := hrel
    by_cases hlt : j < t.length
    · obtain ⟨b, off, ch, rfl, hb, hch, hcell⟩ := HR.out.at hlt
      have hlb := Cell.beN_lt (t.take j)
      have hlt7 : Cell.beN (t.take j) < 72057594037927936 := Nat.lt_of_lt_of_le hlb (Nat.le_trans (Nat.pow_le_pow_right (by omega) (show (t.take j).length ≤ 7 by rw [List.length_take]; omega)) (by decide))
      have hjI : (j : Int) < (t.length : Int) := by omega
      have HV := hide (or8 _ ch hlt7)
      have HS := hide (take_snoc t j ch hch)
      clear hlb hlt7 hch
      go_wp2_with fail
      exact ⟨⟨j + 1, by omega, by go_num, by rw [HV.out, ← HS.out, Cell.beN_snoc]⟩, by simp [intOf]; omega⟩
    · obtain rfl : j = t.length := by omega
      rw [List.take_of_length_le (Nat.le_refl _)]
      go_wp2_with fail
      go_ret
      exact ⟨by rw [← HT.out]; rfl, HS1.out, HC.out⟩
end Go.Proofs.Ytnieenlnpnaamaa
