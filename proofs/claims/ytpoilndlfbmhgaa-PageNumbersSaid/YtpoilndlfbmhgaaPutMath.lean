/-
  The plain mathematics of putting and dropping a cell. Conditions: none. No program is named here.
-/
import Derived.Test.YtpoilndlfbmhgaaSplitMath
namespace Go.Proofs.Ytpoilndlfbmhgaa
namespace Pag
def putN (cs : List Ce) (key val : List UInt8) : List Ce := if hasB cs key = true then cs.set (findN cs key) (key, val) else cs.take (findN cs key) ++ [(key, val)] ++ cs.drop (findN cs key)
def putB (b key val : List UInt8) : Nat × List UInt8 := match unpB b with
  | none => (170, [])
  | some p => if p.kind = 0 ∨ mayB key val = false then (2, []) else pack ⟨p.kind, p.next, putN p.cells key val⟩
def withN (cs : List Ce) (key : List UInt8) : List Ce := cs.filter fun c => !(c.1 == key)
def dropP (p : Pg) (key : List UInt8) : Pg := ⟨p.kind, p.next, p.cells.eraseIdx (findN p.cells key)⟩
def dropB (b key : List UInt8) : List UInt8 × Bool × Nat := match unpB b with
  | none => ([], false, 170)
  | some p => if hasB p.cells key = true then ((pack (dropP p key)).2, true, 0) else (b, false, 0)
theorem putB_none {b key val : List UInt8} (h : unpB b = none) : putB b key val = (170, []) := by unfold putB; rw [h]
theorem putB_arg {b key val : List UInt8} {p : Pg} (h : unpB b = some p) (hk : p.kind = 0 ∨ mayB key val = false) : putB b key val = (2, []) := by unfold putB; rw [h]; simp only; rw [if_pos hk]
theorem putB_yes {b key val : List UInt8} {p : Pg} (h : unpB b = some p) (hk : ¬ p.kind = 0) (hm : mayB key val = true) : putB b key val = pack ⟨p.kind, p.next, putN p.cells key val⟩ := by
  unfold putB; rw [h]; simp only; rw [if_neg (by rw [hm]; simp [hk])]
theorem dropB_none {b key : List UInt8} (h : unpB b = none) : dropB b key = ([], false, 170) := by unfold dropB; rw [h]
theorem dropB_no {b key : List UInt8} {p : Pg} (h : unpB b = some p) (hh : hasB p.cells key = false) : dropB b key = (b, false, 0) := by unfold dropB; rw [h]; simp only; rw [hh]; rfl
theorem dropB_yes {b key x : List UInt8} {p : Pg} (h : unpB b = some p) (hh : hasB p.cells key = true) (hx : pack (dropP p key) = (0, x)) : dropB b key = (x, true, 0) := by unfold dropB; rw [h]; simp only; rw [if_pos hh, hx]
theorem rise_erase {cs : List Ce} (h : riseB cs = true) (n : Nat) : riseB (cs.eraseIdx n) = true := by
  refine rise_of_pairs _ (fun c hc => rise_may cs h c (List.mem_of_mem_eraseIdx hc)) fun i c d hc hd => ?_
  rw [List.getElem?_eraseIdx] at hc hd
  split at hc
  · rename_i h1
    split at hd
    · exact rise_pair cs h i (i + 1) c d (by omega) hc hd
    · exact rise_pair cs h i (i + 1 + 1) c d (by omega) hc hd
  · rename_i h1
    rw [if_neg (by omega)] at hd
    exact rise_pair cs h (i + 1) (i + 1 + 1) c d (by omega) hc hd
theorem taken_erase (cs : List Ce) (n : Nat) : taken (cs.eraseIdx n) ≤ taken cs := by
  rw [List.eraseIdx_eq_take_drop_succ, taken_app]
  have h1 := taken_app (cs.take n) (cs.drop n)
  rw [List.take_append_drop] at h1
  have h2 : taken (cs.drop (n + 1)) ≤ taken (cs.drop n) := by
    have h3 := (taken_parts (cs.drop n) 1).2
    rwa [List.drop_drop] at h3
  omega
theorem drop_pack {p : Pg} {key : List UInt8} (h : rightB p = true) (ht : taken p.cells ≤ 4072) (hh : hasB p.cells key = true) : ∃ x, pack (dropP p key) = (0, x) ∧ x.length = 4080 := by
  have hne : p.cells ≠ [] := by intro e; unfold hasB at hh; rw [e] at hh; simp at hh
  have hk := right_kind h hne
  obtain ⟨n0, n1⟩ := right_next h
  have hr := right_rise h
  have e : p = ⟨p.kind, p.next, p.cells⟩ := by cases p; rfl
  rw [e] at h
  have hA := pack_ok.2 ⟨show rightB (dropP p key) = true from right_of h hk n0 n1 (rise_erase hr _), show taken (dropP p key).cells ≤ 4072 from Nat.le_trans (taken_erase _ _) ht, rfl⟩
  exact ⟨_, hA, pack_len hA⟩
theorem has_find {cs : List Ce} {key : List UInt8} (h : hasB cs key = true) : ∃ c, cs[findN cs key]? = some c ∧ c.1 = key := by
  unfold hasB at h
  cases hc : cs[findN cs key]? with
  | none => rw [hc] at h; simp at h
  | some c => rw [hc] at h; exact ⟨c, rfl, by simpa using h⟩
theorem has_none {cs : List Ce} {key : List UInt8} (hr : riseB cs = true) (h : hasB cs key = false) : ∀ c ∈ cs, c.1 ≠ key := by
  intro c hc e
  obtain ⟨i, hi, rfl⟩ := List.mem_iff_getElem.1 hc
  have := has_at hr (List.getElem?_eq_getElem hi)
  rw [e, h] at this
  cases this
theorem with_no {cs : List Ce} {key : List UInt8} (hr : riseB cs = true) (h : hasB cs key = false) : withN cs key = cs := by
  unfold withN
  rw [List.filter_eq_self]
  intro c hc
  simpa using has_none hr h c hc
theorem cut_at {cs : List Ce} {i : Nat} {c : Ce} (h : cs[i]? = some c) : cs = cs.take i ++ c :: cs.drop (i + 1) := by
  have hi := (List.getElem?_eq_some_iff.1 h).1
  have e : cs[i] = c := (List.getElem?_eq_some_iff.1 h).2
  rw [← e, ← List.drop_eq_getElem_cons hi, List.take_append_drop]
theorem with_yes {cs : List Ce} {key : List UInt8} (hr : riseB cs = true) (h : hasB cs key = true) : withN cs key = cs.eraseIdx (findN cs key) := by
  obtain ⟨c, hc, hk⟩ := has_find h
  obtain ⟨i, hi⟩ : ∃ i, i = findN cs key := ⟨_, rfl⟩
  rw [← hi] at hc ⊢
  have ne : ∀ (j : Nat) (d : Ce), cs[j]? = some d → j ≠ i → d.1 ≠ key := fun j d hd hj e => hj (by rw [hi, ← e]; exact (find_at hr hd).symm)
  have e1 : (cs.take i).filter (fun c => !(c.1 == key)) = cs.take i := by
    rw [List.filter_eq_self]
    intro d hd
    obtain ⟨j, hj, rfl⟩ := List.mem_iff_getElem.1 hd
    have hj' : j < i := by rw [List.length_take] at hj; omega
    have := ne j (cs.take i)[j] (by rw [← List.getElem?_eq_getElem hj, List.getElem?_take, if_pos hj']) (by omega)
    simpa using this
  have e2 : (cs.drop (i + 1)).filter (fun c => !(c.1 == key)) = cs.drop (i + 1) := by
    rw [List.filter_eq_self]
    intro d hd
    obtain ⟨j, hj, rfl⟩ := List.mem_iff_getElem.1 hd
    have := ne (i + 1 + j) (cs.drop (i + 1))[j] (by rw [← List.getElem?_eq_getElem hj, List.getElem?_drop]) (by omega)
    simpa using this
  rw [List.eraseIdx_eq_take_drop_succ]
  unfold withN
  conv => lhs; rw [cut_at hc]
  rw [List.filter_append, e1, List.filter_cons_of_neg (by simp [hk]), e2]
theorem find_with {cs : List Ce} {key : List UInt8} (hr : riseB cs = true) (h : hasB cs key = true) : findN (cs.eraseIdx (findN cs key)) key = findN cs key := by
  obtain ⟨c, hc, hk⟩ := has_find h
  obtain ⟨i, hi⟩ : ∃ i, i = findN cs key := ⟨_, rfl⟩
  rw [← hi] at hc ⊢
  have hlt := (List.getElem?_eq_some_iff.1 hc).1
  refine findIdx_of _ i (by rw [List.length_eraseIdx, if_pos hlt]; omega) (fun j d hj hd => ?_) (fun d hd => ?_)
  · rw [List.getElem?_eraseIdx, if_pos hj] at hd
    have := rise_pair cs hr j i d c hj hd hc
    unfold geB
    rw [hk] at this
    simp
    omega
  · rw [List.getElem?_eraseIdx, if_neg (by omega)] at hd
    have := rise_pair cs hr i (i + 1) c d (by omega) hc hd
    unfold geB
    rw [hk] at this
    simp only [decide_eq_true_eq]
    rcases cmpB_range d.1 key with h3 | h3 | h3
    · have h4 := cmpB_lt_trans key d.1 key this (by omega)
      rw [cmpB_self] at h4
      omega
    · omega
    · omega
theorem put_eq {cs : List Ce} {key val : List UInt8} (hr : riseB cs = true) : (withN cs key).take (findN (withN cs key) key) ++ [(key, val)] ++ (withN cs key).drop (findN (withN cs key) key) = putN cs key val := by
  unfold putN
  cases h : hasB cs key with
  | false => rw [with_no hr h]; rfl
  | true =>
    rw [with_yes hr h, find_with hr h, if_pos rfl]
    obtain ⟨c, hc, hk⟩ := has_find h
    obtain ⟨i, hi⟩ : ∃ i, i = findN cs key := ⟨_, rfl⟩
    rw [← hi] at hc ⊢
    have hlt := (List.getElem?_eq_some_iff.1 hc).1
    have l0 : (cs.take i).length = i := by rw [List.length_take]; omega
    rw [List.eraseIdx_eq_take_drop_succ, List.take_left' l0, List.drop_left' l0, List.set_eq_take_append_cons_drop, if_pos hlt]
    simp
theorem put_len (cs : List Ce) (key val : List UInt8) : (putN cs key val).length ≤ cs.length + 1 := by
  unfold putN
  split
  · rw [List.length_set]; omega
  · simp only [List.length_append, List.length_take, List.length_drop, List.length_singleton]; omega
end Pag
end Go.Proofs.Ytpoilndlfbmhgaa
