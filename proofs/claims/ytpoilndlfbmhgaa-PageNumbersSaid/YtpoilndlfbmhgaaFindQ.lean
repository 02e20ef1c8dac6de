/-
  The walks of Find, the program's and the reference's. Conditions: the bytes and the key read as lists.
-/
import Derived.Test.YtpoilndlfbmhgaaBelow
namespace Go.Proofs.Ytpoilndlfbmhgaa
open Go.RowKit

namespace Pag
theorem right_rise {p : Pg} (h : rightB p = true) : riseB p.cells = true := by
  unfold rightB at h
  split at h
  · simp only [Bool.and_eq_true, List.isEmpty_iff] at h
    rw [h.2]
    rfl
  · simp only [Bool.and_eq_true] at h
    exact h.2
theorem unpB_right {b : List UInt8} {p : Pg} (h : unpB b = some p) : rightB p = true ∧ taken p.cells ≤ 4072 ∧ p.cells.length ≤ 1000 := by
  obtain ⟨h1, h2, _⟩ := pack_ok.1 (unpB_pack h)
  exact ⟨h1, h2, taken_len _ h2⟩
def findB (b key : List UInt8) : List UInt8 × Bool × Nat := match unpB b with
  | none => ([], false, 170)
  | some p => match p.cells[findN p.cells key]? with
    | none => ([], false, 0)
    | some c => if c.1 = key then (c.2, true, 0) else ([], false, 0)
theorem findB_none {b key : List UInt8} (h : unpB b = none) : findB b key = ([], false, 170) := by unfold findB; rw [h]
theorem findB_no {b key : List UInt8} {p : Pg} (h : unpB b = some p) (hh : hasB p.cells key = false) : findB b key = ([], false, 0) := by
  unfold findB
  rw [h]
  unfold hasB at hh
  simp only
  split
  · rfl
  · rename_i c hc
    rw [hc] at hh
    simp only [beq_eq_false_iff_ne] at hh
    rw [if_neg hh]
theorem findB_yes {b key : List UInt8} {p : Pg} (h : unpB b = some p) (hh : hasB p.cells key = true) : ∃ c, p.cells[findN p.cells key]? = some c ∧ c.1 = key ∧ findB b key = (c.2, true, 0) := by
  unfold hasB at hh
  split at hh
  · rename_i c hc
    have e : c.1 = key := by simpa using hh
    refine ⟨c, hc, e, ?_⟩
    unfold findB
    rw [h]
    simp only [hc]
    rw [if_pos e]
  · cases hh
/-- Where a key stands is where it is found. -/
theorem find_at {cs : List Ce} (h : riseB cs = true) {i : Nat} {c : Ce} (hc : cs[i]? = some c) : findN cs c.1 = i := by
  refine findIdx_of cs i (by have := (List.getElem?_eq_some_iff.1 hc).1; omega) (fun j d hj hd => ?_) (fun d hd => ?_)
  · have := rise_pair cs h j i d c hj hd hc
    unfold geB
    simp
    omega
  · rw [hc] at hd
    obtain rfl := Option.some.inj hd
    unfold geB
    rw [cmpB_self]
    rfl
theorem has_at {cs : List Ce} (h : riseB cs = true) {i : Nat} {c : Ce} (hc : cs[i]? = some c) : hasB cs c.1 = true := by
  unfold hasB
  rw [find_at h hc, hc]
  simp
theorem has_no {cs : List Ce} {key : List UInt8} (h : ∀ (i : Nat) (c : Ce), cs[i]? = some c → c.1 ≠ key) : hasB cs key = false := by
  unfold hasB
  split
  · rename_i c hc
    have := h _ c hc
    simp [this]
  · rfl
end Pag
/-- The answer of Find. -/
def FiR (w : World) (r : List UInt8 × Bool × Nat) (e : Ending) (w' : World) : Prop :=
  Below w.heap.size w w' ∧ ∃ v, e = .returned (.tuple #[v, .bool r.2.1, .int .i64 (r.2.2 : Int)]) ∧ Bo w' w.heap.size 0 v r.1
theorem FiR.no {w w' : World} {r : List UInt8 × Bool × Nat} {n : Nat} (h : r = ([], false, n)) (hb : Below w.heap.size w w') : FiR w r (.returned (.tuple #[.slice none 0 0, .bool false, .int .i64 (n : Int)])) w' := by
  subst h
  exact ⟨hb, _, rfl, .inl ⟨own_nil _ _ _ _, by simp⟩⟩
theorem FiR.yes {w w' : World} {r : List UInt8 × Bool × Nat} {v : Value} {l : List UInt8} (h : r = (l, true, 0)) (hb : Below w.heap.size w w') (hv : Bo w' w.heap.size 0 v l) : FiR w r (.returned (.tuple #[v, .bool true, .int .i64 0])) w' := by
  subst h
  exact ⟨hb, v, rfl, hv⟩
theorem CeOwn.at {w : World} {lo k n c : Nat} {A : Option Addr} {cs : List Pag.Ce} {i : Nat} {f : Pag.Ce} (h : CeOwn w lo k (.slice A n c) cs) (hf : cs[i]? = some f) :
    ∃ g b1 b2, A = some ⟨g, 0, none⟩ ∧ g < w.heap.size ∧ w.cell? ⟨g, i * 2, none⟩ = some b1 ∧ w.cell? ⟨g, i * 2 + 1, none⟩ = some b2 ∧ Bo w lo k b1 f.1 ∧ Bo w lo k b2 f.2 := by
  obtain ⟨bs, h1, h2, h3⟩ := h
  have hi : i < cs.length := (List.getElem?_eq_some_iff.1 hf).1
  obtain ⟨g, cap, hv, hg1, hg2, _⟩ := own_pos h2 (by omega)
  injection hv with e1 e2 e3
  subst e1 e2
  obtain ⟨g', off, e, hg, hc⟩ := (Rd.own h2).2 (by omega)
  injection e with e
  injection e with e1 e2
  subst e1 e2
  have hb : bs[i]? = some (bs[i]'(by omega)) := List.getElem?_eq_getElem (by omega)
  obtain ⟨c1, c2⟩ := prs_at bs i _ hb
  have d1 := hc _ _ c1
  have d2 := hc _ _ c2
  rw [Nat.zero_add] at d1 d2
  exact ⟨g, _, _, rfl, hg2, d1, d2, h3 i f _ hf hb⟩
set_option linter.unusedVariables false in
set_option maxRecDepth 100000 in
set_option maxHeartbeats 1600000 in
theorem Find_any (A A' : Option Addr) (n c n' c' : Nat) (l key : List UInt8) (w : World) (hl : Rb w w.heap.size A n l) (hn : n ≤ 140737488355328) (hc : n ≤ c) (hc2 : c ≤ 9223372036854775807) (hk : Rb w w.heap.size A' n' key) :
    Calls Try.prog 23 #[.slice A n c, .slice A' n' c'] w (FiR w (Pag.findB l key)) := by
  have HL := hide hl
  have HK := hide hk
  clear hl hk
  go_enter Try.func23, Try.ntmps23
  go_wp2_with fail
  with_reducible refine (unpack_any A n c l _ HL.out hn hc hc2).mono ?_
  rintro e w1 ⟨hb1, hr⟩
  have HB1 := hide hb1
  have hs1 := hb1.size
  cases hu : Pag.unpB l with
  | none =>
    rw [hu] at hr
    obtain rfl := hr
    have HP := hide (Pag.findB_none (key := key) hu)
    clear hu hb1
    go_wp2_with fail
    go_ret3
    exact FiR.no HP.out (HB1.out.alloc hs1 _)
  | some p =>
    rw [hu] at hr
    obtain ⟨v, rfl, Av, cv, rfl, hown⟩ := hr
    obtain ⟨hr1, hr2, hr3⟩ := Pag.unpB_right hu
    have HU := hide hu
    have HRi := hide (Pag.right_rise hr1)
    obtain ⟨m, hm⟩ : ∃ m, m = p.cells.length := ⟨_, rfl⟩
    rw [← hm] at hown hr3 ⊢
    have HM := hide hm
    obtain ⟨w2, hw2⟩ : ∃ w2, w2 = w1.alloc (.cells #[.int .u8 (p.kind.toNat : Int), .int .i64 p.next, .slice Av m cv] 25) := ⟨_, rfl⟩
    have hb2 : Below w1.heap.size w1 w2 := by rw [hw2]; exact (Below.refl _ _).alloc (Nat.le_refl _) _
    have HK2 : Hid (Blk w2 w1.heap.size 25 #[.int .u8 (p.kind.toNat : Int), .int .i64 p.next, .slice Av m cv]) := by rw [hw2]; exact Blk.new _ _ _
    have hs2 : w1.heap.size < w2.heap.size := by rw [hw2]; simp
    have HB2 := hide (HB1.out.trans (hb2.mono hs1))
    have HO2 := hide (hown.below hb2 hs1)
    clear hu hr1 hr2 hm hb1 hown
    go_upto_region 2 with fail
    rw [← hw2]
    clear hw2 hb2
    have k2 := HK2.out.cell 2
    simp at k2
    go_wp2_with fail
    with_reducible refine (find_any Av A' m cv n' c' p.cells key _ (by exact HO2.out.rd HM.out (by omega)) (by exact (HK.out.below HB2.out (Nat.le_refl _)).more (by omega)) (by omega) HRi.out).mono ?_
    rintro e w3 ⟨rfl, hb3⟩
    have HB3 := hide (HB2.out.trans (hb3.mono (by omega)))
    have HK3 := hide (HK2.out.below hb3 hs2)
    have HO3 := hide (HO2.out.below hb3 (by omega))
    have hs3 := hb3.size
    clear hb3 k2
    have k2 := HK3.out.cell 2
    simp at k2
    cases hh : Pag.hasB p.cells key with
    | false =>
      have HP := hide (Pag.findB_no HU.out hh)
      clear hh
      go_wp2_with fail
      go_ret3
      exact FiR.no HP.out HB3.out
    | true =>
      obtain ⟨f, hf, hfk, hP⟩ := Pag.findB_yes HU.out hh
      have HP := hide hP
      obtain ⟨i, hi⟩ : ∃ i, i = Pag.findN p.cells key := ⟨_, rfl⟩
      rw [← hi] at hf ⊢
      have hilt : i < m := by rw [HM.out]; exact (List.getElem?_eq_some_iff.1 hf).1
      obtain ⟨g, b1, b2, rfl, hg, d1, d2, ho1, ho2⟩ := HO3.out.at hf
      have HOb := hide ho2
      clear hh hf hfk hP hi d1 ho1 ho2
      have d2' : w3.cell? ⟨g, 0 + i * 2 + 1, none⟩ = some b2 := by rw [Nat.zero_add]; exact d2
      go_wp2_with fail
      go_ret3
      exact FiR.yes HP.out HB3.out HOb.out
set_option linter.unusedVariables false in
set_option maxRecDepth 100000 in
set_option maxHeartbeats 1600000 in
theorem rFind_any (A A' : Option Addr) (n c n' c' : Nat) (l key : List UInt8) (w : World) (hl : Rb w w.heap.size A n l) (hn : n ≤ 140737488355328) (hc : n ≤ c) (hc2 : c ≤ 9223372036854775807) (hk : Rb w w.heap.size A' n' key) :
    Calls Try.prog 26 #[.slice A n c, .slice A' n' c'] w (FiR w (Pag.findB l key)) := by
  have HL := hide hl
  have HK := hide hk
  clear hl hk
  go_enter Try.func26, Try.ntmps26
  go_wp2_with fail
  with_reducible refine (rUnpack_any A n c l _ HL.out hn hc hc2).mono ?_
  rintro e w1 ⟨hb1, hr⟩
  have HB1 := hide hb1
  have hs1 := hb1.size
  cases hu : Pag.unpB l with
  | none =>
    rw [hu] at hr
    obtain rfl := hr
    have HP := hide (Pag.findB_none (key := key) hu)
    clear hu hb1
    go_wp2_with fail
    go_loop [9] (fun a => a = .int .i64 0) (fun _ => 0)
    case atStart => rfl
    case round =>
      subst hrel
      go_wp2_with fail
      go_ret3
      exact FiR.no HP.out (HB1.out.alloc hs1 _)
  | some p =>
    rw [hu] at hr
    obtain ⟨v, rfl, Av, cv, rfl, hown⟩ := hr
    obtain ⟨hr1, hr2, hr3⟩ := Pag.unpB_right hu
    have HU := hide hu
    have HRi := hide (Pag.right_rise hr1)
    obtain ⟨m, hm⟩ : ∃ m, m = p.cells.length := ⟨_, rfl⟩
    rw [← hm] at hown hr3 ⊢
    have HM := hide hm
    obtain ⟨w2, hw2⟩ : ∃ w2, w2 = w1.alloc (.cells #[.int .u8 (p.kind.toNat : Int), .int .i64 p.next, .slice Av m cv] 25) := ⟨_, rfl⟩
    have hb2 : Below w1.heap.size w1 w2 := by rw [hw2]; exact (Below.refl _ _).alloc (Nat.le_refl _) _
    have HK2 : Hid (Blk w2 w1.heap.size 25 #[.int .u8 (p.kind.toNat : Int), .int .i64 p.next, .slice Av m cv]) := by rw [hw2]; exact Blk.new _ _ _
    have hs2 : w1.heap.size < w2.heap.size := by rw [hw2]; simp
    have HB2 := hide (HB1.out.trans (hb2.mono hs1))
    have HO2 := hide (hown.below hb2 hs1)
    clear hu hr1 hr2 hm hb1 hown
    go_upto_region 2 with fail
    rw [← hw2]
    clear hw2 hb2
    have k2 := HK2.out.cell 2
    simp at k2
    have HKy := hide ((HK.out.below HB2.out (Nat.le_refl _)).more (B' := w2.heap.size) (by omega))
    go_wp2_with fail
    go_loop [9] (fun a => ∃ i : Nat, i ≤ m ∧ a = .int .i64 (i : Nat) ∧ Hid (∀ j f, j < i → p.cells[j]? = some f → f.1 ≠ key)) (fun a => m - (intOf a).toNat)
    case atStart => exact ⟨0, Nat.zero_le _, rfl, fun j f hj => absurd hj (by omega)⟩
    case round =>
      obtain ⟨i, hi, rfl, H1⟩ := hrel
      by_cases hlt : i < m
      · obtain ⟨f, hf⟩ : ∃ f, p.cells[i]? = some f := ⟨p.cells[i]'(by rw [← HM.out]; exact hlt), List.getElem?_eq_getElem (by rw [← HM.out]; exact hlt)⟩
        obtain ⟨g, b1, b2, rfl, hg, d1, d2, ho1, ho2⟩ := HO2.out.at hf
        obtain ⟨A1, c1, rfl, hr1, hx1, hx2, hx3⟩ := ho1.bd (by omega)
        have d1' : w2.cell? ⟨g, 0 + i * 2, none⟩ = some (.slice A1 f.1.length c1) := by rw [Nat.zero_add]; exact d1
        have d2' : w2.cell? ⟨g, 0 + i * 2 + 1, none⟩ = some b2 := by rw [Nat.zero_add]; exact d2
        have HR1 := hide hr1
        have HOb := hide ho2
        have HF := hide hf
        clear hf hr1 ho1 ho2
        go_wp2_with fail
        with_reducible refine (sameBytes_any _ _ _ _ _ _ f.1 key _ _ _ HR1.out HKy.out).mono ?_
        rintro e w' ⟨rfl, rfl⟩
        cases hb : (f.1 == key) with
        | true =>
          have hfk : f.1 = key := by simpa using hb
          have HP : Hid (Pag.findB l key = (f.2, true, 0)) := by
            obtain ⟨f', hf', _, hP⟩ := Pag.findB_yes HU.out (show Pag.hasB p.cells key = true by rw [← hfk]; exact Pag.has_at HRi.out HF.out)
            rw [← hfk, Pag.find_at HRi.out HF.out, HF.out] at hf'
            obtain rfl := Option.some.inj hf'
            exact hP
          clear hb hfk
          go_wp2_with fail
          go_ret3
          exact FiR.yes HP.out HB2.out HOb.out
        | false =>
          have H1' : Hid (∀ j f, j < i + 1 → p.cells[j]? = some f → f.1 ≠ key) := fun j f' hj hf' => by
            rcases Nat.lt_or_ge j i with h | h
            · exact H1.out j f' h hf'
            · obtain rfl : j = i := by omega
              rw [HF.out] at hf'
              obtain rfl := Option.some.inj hf'
              simpa using hb
          clear hb
          go_wp2_with fail
          go_round
          case rel => exact ⟨i + 1, by omega, by go_num, H1'⟩
          case measure => simp [intOf]; omega
      · obtain rfl : i = m := by omega
        have HP := hide (Pag.findB_no HU.out (Pag.has_no (key := key) fun j f hf => H1.out j f (by rw [HM.out]; exact (List.getElem?_eq_some_iff.1 hf).1) hf))
        go_wp2_with fail
        go_ret3
        exact FiR.no HP.out HB2.out
end Go.Proofs.Ytpoilndlfbmhgaa
