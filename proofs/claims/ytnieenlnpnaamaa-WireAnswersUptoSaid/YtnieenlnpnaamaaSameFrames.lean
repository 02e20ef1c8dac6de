/-
  Frames that are read only, and the walk of chancerykit.SameFrames. Conditions: the frames read as lists.
-/
import Derived.Test.YtnieenlnpnaamaaFrames
namespace Go.Proofs.Ytnieenlnpnaamaa
open Go.RowKit

/-- A slice at A reads as the frames fs; all of it lies below B. -/
def FrRd (w : World) (B : Nat) (A : Option Addr) (n : Nat) (fs : List Fr) : Prop :=
  n = fs.length ∧ ∃ bs : List Value, bs.length = fs.length ∧ Rd w B 2 A n (frCells fs bs) ∧
    ∀ (i : Nat) (f : Fr) (b : Value), fs[i]? = some f → bs[i]? = some b → ∃ Ab cb, b = .slice Ab f.2.length cb ∧ Rb w B Ab f.2.length f.2 ∧ f.2.length ≤ 140737488355328 ∧ f.2.length ≤ cb ∧ cb ≤ 9223372036854775807
theorem FrRd.at {w : World} {B : Nat} {A : Option Addr} {n : Nat} {fs : List Fr} {i : Nat} (h : FrRd w B A n fs) (hi : i < n) :
    ∃ g off f Ab cb, A = some ⟨g, off, none⟩ ∧ g < B ∧ fs[i]? = some f ∧ w.cell? ⟨g, off + i * 2, none⟩ = some (.int .u8 (f.1.toNat : Int)) ∧ w.cell? ⟨g, off + i * 2 + 1, none⟩ = some (.slice Ab f.2.length cb) ∧ Rb w B Ab f.2.length f.2 ∧ f.2.length ≤ 140737488355328 := by
  obtain ⟨hn, bs, h1, h2, h3⟩ := h
  obtain ⟨g, off, rfl, hg, hc⟩ := h2.2 (by omega)
  have hf : fs[i]? = some fs[i] := List.getElem?_eq_getElem (by omega)
  have hb : bs[i]? = some (bs[i]'(by omega)) := List.getElem?_eq_getElem (by omega)
  obtain ⟨c1, c2⟩ := frCells_at fs bs i _ _ hf hb
  obtain ⟨Ab, cb, e, hr, hm, _⟩ := h3 i _ _ hf hb
  rw [e] at c2
  refine ⟨g, off, _, Ab, cb, rfl, hg, hf, ?_, ?_, hr, hm⟩
  · rw [Nat.mul_comm i 2]; exact hc _ _ c1
  · rw [Nat.mul_comm i 2, Nat.add_assoc]; exact hc _ _ c2
theorem FrRd.atC {w : World} {B : Nat} {A : Option Addr} {n : Nat} {fs : List Fr} {i : Nat} (h : FrRd w B A n fs) (hi : i < n) :
    ∃ g off f Ab cb, A = some ⟨g, off, none⟩ ∧ g < B ∧ fs[i]? = some f ∧ w.cell? ⟨g, off + i * 2, none⟩ = some (.int .u8 (f.1.toNat : Int)) ∧ w.cell? ⟨g, off + i * 2 + 1, none⟩ = some (.slice Ab f.2.length cb) ∧ Rb w B Ab f.2.length f.2 ∧ f.2.length ≤ 140737488355328 ∧ f.2.length ≤ cb ∧ cb ≤ 9223372036854775807 := by
  obtain ⟨hn, bs, h1, h2, h3⟩ := h
  obtain ⟨g, off, rfl, hg, hc⟩ := h2.2 (by omega)
  have hf : fs[i]? = some fs[i] := List.getElem?_eq_getElem (by omega)
  have hb : bs[i]? = some (bs[i]'(by omega)) := List.getElem?_eq_getElem (by omega)
  obtain ⟨c1, c2⟩ := frCells_at fs bs i _ _ hf hb
  obtain ⟨Ab, cb, e, hr, hm, hc1, hc2⟩ := h3 i _ _ hf hb
  rw [e] at c2
  refine ⟨g, off, _, Ab, cb, rfl, hg, hf, ?_, ?_, hr, hm, hc1, hc2⟩
  · rw [Nat.mul_comm i 2]; exact hc _ _ c1
  · rw [Nat.mul_comm i 2, Nat.add_assoc]; exact hc _ _ c2
theorem FrRd.keep {w w' : World} {B : Nat} {A : Option Addr} {n : Nat} {fs : List Fr} (h : FrRd w B A n fs) (hk : ∀ p : Addr, p.block < B → w'.cell? p = w.cell? p) : FrRd w' B A n fs := by
  obtain ⟨hn, bs, h1, h2, h3⟩ := h
  exact ⟨hn, bs, h1, h2.keep hk, fun i f b hf hb => by obtain ⟨Ab, cb, e, hr, hm⟩ := h3 i f b hf hb; exact ⟨Ab, cb, e, hr.keep hk, hm⟩⟩
theorem FrRd.below {w w' : World} {B C : Nat} {A : Option Addr} {n : Nat} {fs : List Fr} (h : FrRd w B A n fs) (hb : Below C w w') (hC : B ≤ C) : FrRd w' B A n fs := h.keep fun _ hp => hb.cell (by omega)
theorem FrRd.drewN {w : World} {B : Nat} {A : Option Addr} {n : Nat} {fs : List Fr} (h : FrRd w B A n fs) (q : Nat) : FrRd (w.drewN q) B A n fs := h.keep fun _ _ => rfl
theorem FrOwn.rd {w : World} {lo hi : Nat} {A : Option Addr} {n cap : Nat} {fs : List Fr} (h : FrOwn w lo hi (.slice A n cap) fs) (hn : n = fs.length) (hm : ∀ f ∈ fs, f.2.length ≤ 140737488355328) : FrRd w w.heap.size A n fs := by
  subst hn
  obtain ⟨bs, h1, h2, _, h4⟩ := h
  refine ⟨rfl, bs, h1, Rd.own h2, fun i f b hf hb => ?_⟩
  obtain ⟨g1, _⟩ := h4 i f b hf hb
  obtain ⟨Ab, cb, rfl, _, c1, c2⟩ := own_form g1
  exact ⟨Ab, cb, rfl, Rb.own g1, hm f (List.mem_of_getElem? hf), c1, by unfold maxLen at c2; omega⟩

theorem fr_take_succ {l l' : List Fr} {k : Nat} {a : Fr} (h : l.take k = l'.take k) (h1 : l[k]? = some a) (h2 : l'[k]? = some a) : l.take (k + 1) = l'.take (k + 1) := by
  rw [List.take_add_one, List.take_add_one, h, h1, h2]

set_option maxHeartbeats 800000 in
theorem sameFrames_any (A A' : Option Addr) (n c n' c' : Nat) (fs fs' : List Fr) (w : World) (B B' : Nat) (hl : FrRd w B A n fs) (hl' : FrRd w B' A' n' fs') (hn : n ≤ 140737488355328) :
    Calls Try.prog 13 #[.slice A n c, .slice A' n' c'] w fun e w' => e = .returned (.bool (decide (fs = fs'))) ∧ ∃ q, w' = w.drewN q := by
  have HL := hide hl
  have HL' := hide hl'
  have hl1 := hl.1
  have hl2 := hl'.1
  clear hl hl'
  by_cases hne : n = n'
  · subst hne
    have hb : ((n : Int) != (n : Int)) = false := by simp
    have Hl1 := hide hl1
    have Hl2 := hide hl2
    clear hl1 hl2
    go_enter Try.func13, Try.ntmps13
    go_wp2_with fail
    go_loopw [5] (fun i wr => ∃ k q : Nat, k ≤ n ∧ i = .int .i64 (k : Nat) ∧ wr = w.drewN q ∧ Hid (fs.take k = fs'.take k)) (fun i _ => n - (intOf i).toNat)
    case atStart => exact ⟨0, 0, Nat.zero_le _, rfl, rfl, rfl⟩
    case round =>
      obtain ⟨k, q, hk, rfl, rfl, HT⟩ := hrel
      by_cases hlt : k < n
      · obtain ⟨g, off, f, Ab, cb, rfl, _, hx, hcx, hcx', hrx, hmx⟩ := HL.out.at hlt
        obtain ⟨g', off', f', Ab', cb', rfl, _, hy, hcy, hcy', hry, hmy⟩ := HL'.out.at hlt
        have hkI : (k : Int) < (n : Int) := by omega
        have HX := hide hx
        have HY := hide hy
        have HRX := hide hrx
        have HRY := hide hry
        clear hx hy hrx hry
        by_cases hxy : ((f.1.toNat : Int) != (f'.1.toNat : Int)) = true
        · have hne := byte_ne hxy
          have HF : Hid (decide (fs = fs') = false) := by
            refine decide_eq_false ?_
            rintro rfl
            have := HX.out.symm.trans HY.out
            injection this with this
            exact hne (by rw [this])
          have HN := hide hne
          clear hne
          go_wp2_with fail
          go_quiet (fail)
          go_wp2
          go_ret
          exact ⟨by rw [HF.out]; rfl, _, World.drewN_drewN _ _ _⟩
        · rw [Bool.not_eq_true] at hxy
          have heq := byte_eq hxy
          have HEQ := hide heq
          clear heq
          by_cases hbb : (f.2 == f'.2) = true
          · have hff : f = f' := Prod.ext HEQ.out (beq_iff_eq.1 hbb)
            have HS := hide (fr_take_succ HT.out HX.out (hff ▸ HY.out))
            have HBB := hide hbb
            clear hff hbb
            have HC : Hid (∀ n, Calls Try.prog 27 #[.slice Ab f.2.length cb, .slice Ab' f'.2.length cb'] (w.drewN (q + n)) fun e w' => e = .returned (.bool true) ∧ ∃ m, w' = w.drewN (q + m)) := fun n => (sameBytes_any _ _ _ _ _ _ f.2 f'.2 _ B B' (HRX.out.drewN _) (HRY.out.drewN _) (by unfold maxLen; omega)).mono fun e w' h => ⟨by rw [h.1, HBB.out], by obtain ⟨m, hm⟩ := h.2; exact ⟨n + m, by rw [hm, World.drewN_drewN, Nat.add_assoc]⟩⟩
            go_wp2_with fail
            go_quiet (first | (go_at_call 27; exact HC.out _))
            go_wp2
            go_roundw
            case rel => exact ⟨k + 1, _, by omega, by go_num, rfl, HS.out⟩
            case measure => simp [intOf]; omega
          · rw [Bool.not_eq_true] at hbb
            have HF : Hid (decide (fs = fs') = false) := by
              refine decide_eq_false ?_
              rintro rfl
              have := HX.out.symm.trans HY.out
              injection this with this
              subst this
              simp at hbb
            have HBB := hide hbb
            clear hbb
            have HC : Hid (∀ n, Calls Try.prog 27 #[.slice Ab f.2.length cb, .slice Ab' f'.2.length cb'] (w.drewN (q + n)) fun e w' => e = .returned (.bool false) ∧ ∃ m, w' = w.drewN (q + m)) := fun n => (sameBytes_any _ _ _ _ _ _ f.2 f'.2 _ B B' (HRX.out.drewN _) (HRY.out.drewN _) (by unfold maxLen; omega)).mono fun e w' h => ⟨by rw [h.1, HBB.out], by obtain ⟨m, hm⟩ := h.2; exact ⟨n + m, by rw [hm, World.drewN_drewN, Nat.add_assoc]⟩⟩
            go_wp2_with fail
            go_quiet (first | (go_at_call 27; exact HC.out _))
            go_wp2
            go_ret
            exact ⟨by rw [HF.out]; rfl, _, World.drewN_drewN _ _ _⟩
      · obtain rfl : k = n := by omega
        have HF : Hid (decide (fs = fs') = true) := by
          have h := HT.out
          rw [List.take_of_length_le (by rw [← Hl1.out]; exact Nat.le_refl _), List.take_of_length_le (by rw [← Hl2.out]; exact Nat.le_refl _)] at h
          exact decide_eq_true h
        go_wp2
        go_ret
        exact ⟨by rw [HF.out]; rfl, q, rfl⟩
  · have hb : ((n : Int) != (n' : Int)) = true := by simp; omega
    have HF : Hid (decide (fs = fs') = false) := by
      refine decide_eq_false ?_
      rintro rfl
      exact hne (by rw [hl1, hl2])
    clear hl1 hl2
    go_enter Try.func13, Try.ntmps13
    go_wp2_with fail
    go_ret
    exact ⟨by rw [HF.out]; rfl, 0, rfl⟩
end Go.Proofs.Ytnieenlnpnaamaa
