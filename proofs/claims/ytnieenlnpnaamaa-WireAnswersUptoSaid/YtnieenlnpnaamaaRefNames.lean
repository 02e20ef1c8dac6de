/-
  The walk of chanceryref29.names: it is Wire.refNames. Conditions: at most 2^21 bytes.
-/
import Derived.Test.YtnieenlnpnaamaaWireRead
namespace Go.Proofs.Ytnieenlnpnaamaa
open Go.RowKit

namespace Wire
/-- The names so far, beside what is left. -/
def RMid (l : List UInt8) (at' : Nat) (out : List ByteArray) : Prop := ∃ k, refNames l = out ++ refN k (l.drop at') ∧ (l.drop at').length ≤ k
theorem RMid.start (l : List UInt8) : RMid l 1 [] := ⟨l.length, by unfold refNames; rw [List.nil_append, List.drop_one], by simp⟩
theorem RMid.done {l : List UInt8} {p : Nat} {out : List ByteArray} (h : RMid l p out) (hp : l.length ≤ p) : refNames l = out := by
  obtain ⟨k, h1, _⟩ := h
  rw [h1, List.drop_eq_nil_of_le hp]
  cases k <;> simp [refN]
theorem drop_at {l : List UInt8} {p : Nat} {x : UInt8} (h : l[p]? = some x) : l.drop p = x :: l.drop (p + 1) := by
  have hp : p < l.length := by
    rcases Nat.lt_or_ge p l.length with h' | h'
    · exact h'
    · rw [List.getElem?_eq_none h'] at h; cases h
  rw [List.drop_eq_getElem_cons hp]
  rw [List.getElem?_eq_getElem hp] at h
  injection h with h
  rw [h]
theorem RMid.short {l : List UInt8} {p : Nat} {out : List ByteArray} {x : UInt8} (h : RMid l p out) (hx : l[p]? = some x) (hs : l.length < p + 1 + x.toNat) : refNames l = out := by
  obtain ⟨k, h1, h2⟩ := h
  rw [drop_at hx] at h1 h2
  cases k with
  | zero => simp at h2
  | succ k =>
    rw [h1]
    simp only [refN]
    have hp : p < l.length := by
      rcases Nat.lt_or_ge p l.length with h' | h'
      · exact h'
      · rw [List.getElem?_eq_none h'] at hx; cases hx
    rw [if_pos (by rw [List.length_drop]; omega), List.append_nil]
theorem RMid.next {l : List UInt8} {p : Nat} {out : List ByteArray} {x : UInt8} (h : RMid l p out) (hx : l[p]? = some x) (hs : p + 1 + x.toNat ≤ l.length) : RMid l (p + 1 + x.toNat) (out ++ [⟨((l.take (p + 1 + x.toNat)).drop (p + 1)).toArray⟩]) := by
  obtain ⟨k, h1, h2⟩ := h
  rw [drop_at hx] at h1 h2
  cases k with
  | zero => simp at h2
  | succ k =>
    refine ⟨k, ?_, by rw [List.length_drop]; simp only [List.length_cons, List.length_drop] at h2; omega⟩
    rw [h1]
    simp only [refN]
    rw [if_neg (by rw [List.length_drop]; omega), List.drop_drop, List.append_assoc]
    congr 2
    · congr 2
      rw [List.drop_take]
      congr 1
      omega
end Wire
set_option linter.unusedVariables false in
set_option maxRecDepth 8000 in
set_option maxHeartbeats 1600000 in
theorem refNames_any (A : Option Addr) (n c : Nat) (l : List UInt8) (w : World) (hl : Rb w w.heap.size A n l) (hc : n ≤ c) (hcm : c ≤ 9223372036854775807) (hn : n ≤ 2097152) :
    Calls Try.prog 43 #[.slice A n c] w fun e w' => ∃ v, e = .returned v ∧ w'.ownsRow w.heap.size 9 1 v (Wire.refNames l).length ((Wire.refNames l).map Value.string) ∧ (∀ s ∈ Wire.refNames l, s.size ≤ 255) ∧ (Wire.refNames l).length ≤ 2097160 ∧ Below w.heap.size w w' := by
  have hlen := hl.len
  subst hlen
  have HL := hide hl
  clear hl
  go_enter Try.func43, Try.ntmps43
  go_wp2_with fail
  go_loopg [3, 4] l.length (fun gg v i wr => ∃ (p : Nat) (out : List ByteArray), gg = l.length + 1 - p ∧ i = .int .i64 (p : Nat) ∧ 1 ≤ p ∧ p ≤ l.length + 1 ∧ Wire.RMid l p out ∧ out.length ≤ p ∧ wr.ownsRow w.heap.size 9 1 v out.length (out.map Value.string) ∧ (∀ s ∈ out, s.size ≤ 255) ∧ Below w.heap.size w wr)
  case atStart => exact ⟨1, [], by omega, rfl, by omega, by omega, Wire.RMid.start _, by simp, own_nil _ _ _ _, by simp, Below.refl _ _⟩
  case round =>
    obtain ⟨p, out, rfl, rfl, hp1, hp2, hmid, hol, hown, hz, hbel⟩ := hrel
    obtain ⟨w3, hw3⟩ : ∃ w3, w3 = wr := ⟨_, rfl⟩
    subst hw3
    have HM := hide hmid
    have HO := hide hown
    have HZ := hide hz
    have HB := hide hbel
    have hsz := hbel.size
    clear hmid hown hz hbel
    obtain ⟨Av, cv, rfl⟩ := own_sl HO.out
    by_cases hlt : p < l.length
    · obtain ⟨b, off, x, rfl, hb, hx, hcx⟩ := (HL.out.below HB.out (Nat.le_refl _)).at hlt
      have HX := hide hx
      have hxl := x.toNat_lt
      clear hx
      by_cases hs : l.length < p + 1 + x.toNat
      · have hd := HM.out.short HX.out hs
        have HD := hide hd
        clear hd
        go_wp2_with fail
        go_ret
        refine ⟨_, rfl, ?_, ?_, ?_, HB.out⟩
        · rw [HD.out]; exact HO.out
        · rw [HD.out]; exact HZ.out
        · rw [HD.out]; omega
      · have HN := hide (HM.out.next HX.out (by omega))
        have hrb := (HL.out.below HB.out (Nat.le_refl _)).sub (i := p + 1) (j := p + 1 + x.toNat) (cap := c) (by omega) (by omega) hc
        rw [show p + 1 + x.toNat - (p + 1) = x.toNat by omega] at hrb
        obtain ⟨S, hS⟩ : ∃ S : ByteArray, S = ⟨((l.take (p + 1 + x.toNat)).drop (p + 1)).toArray⟩ := ⟨_, rfl⟩
        have hSs : S.size ≤ 255 := by rw [hS, str_size]; simp; omega
        rw [← hS] at HN
        by_cases hcc : c = p + 1
        · rw [if_pos hcc] at hrb
          subst hcc
          have hx0 : x.toNat = 0 := by omega
          have hrs := hrb.run_string (P := Try.prog) 22 5 9 0 Try.underlying22 Try.underlying5 Try.underlying9
          rw [← hS, hx0] at hrs
          have hx0i : (x.toNat : Int) = 0 := by omega
          have HS := hide hSs
          clear hS hrb hSs
          go_wp2_with (at_builtin; refine wpList_appT rfl (.tmp 23) (.tmp 33) rfl w.heap.size _ out.length out rfl HO.out 1 S rfl rfl (by omega) hsz ?_; intro v6 w6 hown6 hb6; have HO6 := hide hown6; have HB6 := hide (HB.out.trans hb6); clear hown6 hb6)
          go_roundg (l.length + 1 - (p + 1 + x.toNat))
          case measure => omega
          case rel => exact ⟨p + 1 + x.toNat, out ++ [S], rfl, by go_num, by omega, by omega, HN.out, by simp; omega, by rw [List.length_append]; exact HO6.out, fun s hs => by
            rcases List.mem_append.1 hs with hs | hs
            · exact HZ.out s hs
            · have : s = S := by simpa using hs
              rw [this]
              exact HS.out, HB6.out⟩
        · rw [if_neg hcc, Option.map_some, addr_add] at hrb
          have hrs := hrb.run_string (P := Try.prog) 22 5 9 (c - (p + 1)) Try.underlying22 Try.underlying5 Try.underlying9
          rw [← hS] at hrs
          have HS := hide hSs
          clear hS hrb hSs
          go_wp2_with (at_builtin; refine wpList_appT rfl (.tmp 23) (.tmp 33) rfl w.heap.size _ out.length out rfl HO.out 1 S rfl rfl (by omega) hsz ?_; intro v6 w6 hown6 hb6; have HO6 := hide hown6; have HB6 := hide (HB.out.trans hb6); clear hown6 hb6)
          go_roundg (l.length + 1 - (p + 1 + x.toNat))
          case measure => omega
          case rel => exact ⟨p + 1 + x.toNat, out ++ [S], rfl, by go_num, by omega, by omega, HN.out, by simp; omega, by rw [List.length_append]; exact HO6.out, fun s hs => by
            rcases List.mem_append.1 hs with hs | hs
            · exact HZ.out s hs
            · have : s = S := by simpa using hs
              rw [this]
              exact HS.out, HB6.out⟩
    · have hd := HM.out.done (by omega)
      have HD := hide hd
      clear hd
      go_wp2_with fail
      go_ret
      refine ⟨_, rfl, ?_, ?_, ?_, HB.out⟩
      · rw [HD.out]; exact HO.out
      · rw [HD.out]; exact HZ.out
      · rw [HD.out]; omega
end Go.Proofs.Ytnieenlnpnaamaa
