/-
  The plain mathematics of a page as a map: the cells are the pairs of what was put. Conditions: none. No program is named here.
-/
import Derived.Test.YtpoilndlfbmhgaaPutMath
import Derived.Test.YtpoilndlfbmhgaaRefPut
import Derived.Test.YtpoilndlfbmhgaaTold2
namespace Go.Proofs.Ytpoilndlfbmhgaa
namespace Pag
abbrev Txs := List (List UInt8)
/-- The cells are the pairs of keys and values, in another order. -/
def Mp (cs : List Ce) (ks vs : Txs) : Prop := ks.length = vs.length ∧ (ks.zip vs).Perm cs
theorem Mp.nil : Mp [] [] [] := ⟨rfl, .nil⟩
theorem Mp.len {cs : List Ce} {ks vs : Txs} (h : Mp cs ks vs) : cs.length = ks.length := by
  rw [← h.2.length_eq, List.length_zip, h.1, Nat.min_self]
theorem rise_nodup {cs : List Ce} (h : riseB cs = true) : (cs.map (·.1)).Nodup := by
  rw [List.nodup_iff_pairwise_ne, List.pairwise_iff_getElem]
  intro i j hi hj hij e
  rw [List.length_map] at hi hj
  rw [List.getElem_map, List.getElem_map] at e
  have := rise_pair cs h i j _ _ hij (List.getElem?_eq_getElem hi) (List.getElem?_eq_getElem hj)
  rw [e, cmpB_self] at this
  omega
theorem Mp.nodup {cs : List Ce} {ks vs : Txs} (h : Mp cs ks vs) (hr : riseB cs = true) : ks.Nodup := by
  have h1 : ((ks.zip vs).map (·.1)).Nodup := (h.2.map _).nodup_iff.2 (rise_nodup hr)
  have h2 : (ks.zip vs).map (·.1) = ks := List.map_fst_zip (by rw [h.1]; exact Nat.le_refl _)
  rwa [h2] at h1
theorem Mp.mem {cs : List Ce} {ks vs : Txs} (h : Mp cs ks vs) {i : Nat} {k v : List UInt8} (hk : ks[i]? = some k) (hv : vs[i]? = some v) : (k, v) ∈ cs :=
  h.2.mem_iff.1 (List.mem_of_getElem? (i := i) (List.getElem?_zip_eq_some.2 ⟨hk, hv⟩))
theorem Mp.at {cs : List Ce} {ks vs : Txs} (h : Mp cs ks vs) (hr : riseB cs = true) {i : Nat} {k v : List UInt8} (hk : ks[i]? = some k) (hv : vs[i]? = some v) : cs[findN cs k]? = some (k, v) ∧ hasB cs k = true := by
  obtain ⟨j, hj, e⟩ := List.mem_iff_getElem.1 (h.mem hk hv)
  have hc : cs[j]? = some (k, v) := by rw [← e]; exact List.getElem?_eq_getElem hj
  have := find_at hr hc
  simp only at this
  rw [this]
  exact ⟨hc, has_at hr hc⟩
theorem Mp.no {cs : List Ce} {ks vs : Txs} (h : Mp cs ks vs) {k : List UInt8} (hk : ∀ i : Nat, ks[i]? ≠ some k) : hasB cs k = false := by
  refine has_no fun i c hc e => ?_
  have hm : c ∈ ks.zip vs := h.2.mem_iff.2 (List.mem_of_getElem? hc)
  obtain ⟨j, hj, ej⟩ := List.mem_iff_getElem.1 hm
  rw [List.getElem_zip] at ej
  rw [List.length_zip] at hj
  have h1 : ks[j]? = some ks[j] := List.getElem?_eq_getElem (by omega)
  apply hk j
  rw [h1]
  rw [← e, ← ej]
theorem Mp.erase {cs : List Ce} {ks vs : Txs} (h : Mp cs ks vs) (hr : riseB cs = true) {i : Nat} {k v : List UInt8} (hk : ks[i]? = some k) (hv : vs[i]? = some v) : Mp (cs.eraseIdx (findN cs k)) (ks.take i ++ ks.drop (i + 1)) (vs.take i ++ vs.drop (i + 1)) := by
  have hik := (List.getElem?_eq_some_iff.1 hk).1
  have hiv := (List.getElem?_eq_some_iff.1 hv).1
  have hl := h.1
  refine ⟨by simp only [List.length_append, List.length_take, List.length_drop]; omega, ?_⟩
  have h1 := (h.at hr hk hv).1
  rw [List.zip_append (by rw [List.length_take, List.length_take]; omega), List.eraseIdx_eq_take_drop_succ]
  have hz : ks.zip vs = (ks.take i).zip (vs.take i) ++ (k, v) :: (ks.drop (i + 1)).zip (vs.drop (i + 1)) := by
    have ek : ks = ks.take i ++ k :: ks.drop (i + 1) := by
      have e : ks[i] = k := (List.getElem?_eq_some_iff.1 hk).2
      rw [← e, ← List.drop_eq_getElem_cons hik, List.take_append_drop]
    have ev : vs = vs.take i ++ v :: vs.drop (i + 1) := by
      have e : vs[i] = v := (List.getElem?_eq_some_iff.1 hv).2
      rw [← e, ← List.drop_eq_getElem_cons hiv, List.take_append_drop]
    conv => lhs; rw [ek, ev]
    rw [List.zip_append (by rw [List.length_take, List.length_take]; omega), List.zip_cons_cons]
  have hp := h.2
  rw [hz] at hp
  have hc := cut_at h1
  rw [hc] at hp
  have hp2 := List.perm_middle.symm.trans (hp.trans List.perm_middle)
  have hp3 := (List.perm_cons _).1 hp2
  generalize hi : findN cs k = j at *
  have hjl := (List.getElem?_eq_some_iff.1 h1).1
  have e1 : (cs.take j ++ (k, v) :: cs.drop (j + 1)).take j = cs.take j := List.take_left' (by rw [List.length_take]; omega)
  exact hp3
theorem Mp.add {cs : List Ce} {ks vs : Txs} (h : Mp cs ks vs) {key val : List UInt8} (i : Nat) : Mp (cs.take i ++ [(key, val)] ++ cs.drop i) (ks ++ [key]) (vs ++ [val]) := by
  refine ⟨by simp [h.1], ?_⟩
  rw [List.zip_append h.1]
  have h1 : (cs.take i ++ [(key, val)] ++ cs.drop i).Perm ((key, val) :: cs) := by
    rw [List.append_assoc, List.singleton_append]
    have := List.perm_middle (a := (key, val)) (l₁ := cs.take i) (l₂ := cs.drop i)
    rwa [List.take_append_drop] at this
  refine List.Perm.trans ?_ h1.symm
  refine List.Perm.trans (List.perm_append_comm (l₁ := ks.zip vs) (l₂ := [key].zip [val])) ?_
  exact (List.Perm.cons _ h.2)
theorem Mp.putNo {cs : List Ce} {ks vs : Txs} (h : Mp cs ks vs) {key : List UInt8} (val : List UInt8) (hk : hasB cs key = false) : Mp (putN cs key val) (ks ++ [key]) (vs ++ [val]) := by
  unfold putN
  rw [hk]
  exact h.add _
theorem put_set {cs : List Ce} {key val : List UInt8} (hr : riseB cs = true) (h : hasB cs key = true) : putN cs key val = (cs.eraseIdx (findN cs key)).take (findN cs key) ++ [(key, val)] ++ (cs.eraseIdx (findN cs key)).drop (findN cs key) := by
  have := put_eq (val := val) hr (cs := cs) (key := key)
  rw [with_yes hr h, find_with hr h] at this
  exact this.symm
theorem Mp.putYes {cs : List Ce} {ks vs : Txs} (h : Mp cs ks vs) (hr : riseB cs = true) {i : Nat} {key v : List UInt8} (val : List UInt8) (hk : ks[i]? = some key) (hv : vs[i]? = some v) : Mp (putN cs key val) (ks.take i ++ ks.drop (i + 1) ++ [key]) (vs.take i ++ vs.drop (i + 1) ++ [val]) := by
  rw [put_set hr (h.at hr hk hv).2]
  exact (h.erase hr hk hv).add _
theorem find_lo {cs : List Ce} {key : List UInt8} {i : Nat} {c : Ce} (hi : i < findN cs key) (hc : cs[i]? = some c) : cmpB c.1 key < 0 := by
  have hlt := (List.getElem?_eq_some_iff.1 hc).1
  have e : cs[i] = c := (List.getElem?_eq_some_iff.1 hc).2
  have := List.not_of_lt_findIdx (p := geB key) (xs := cs) hi
  rw [e] at this
  unfold geB at this
  simp at this
  omega
theorem find_hi {cs : List Ce} {key : List UInt8} (hr : riseB cs = true) (hn : hasB cs key = false) {i : Nat} {c : Ce} (hi : findN cs key ≤ i) (hc : cs[i]? = some c) : cmpB key c.1 < 0 := by
  have hlt := (List.getElem?_eq_some_iff.1 hc).1
  obtain ⟨d, hd⟩ : ∃ d, cs[findN cs key]? = some d := ⟨cs[findN cs key]'(by omega), List.getElem?_eq_getElem (by omega)⟩
  have hg : geB key d = true := by
    have hl : cs.findIdx (geB key) < cs.length := by have : findN cs key < cs.length := by omega
                                                     exact this
    have := List.findIdx_getElem (p := geB key) (xs := cs) (w := hl)
    have e : cs[cs.findIdx (geB key)] = d := (List.getElem?_eq_some_iff.1 hd).2
    rwa [e] at this
  have hne : d.1 ≠ key := fun e => by
    have := has_none hr hn d (List.mem_of_getElem? hd)
    exact this e
  have h1 : cmpB d.1 key > 0 := by
    unfold geB at hg
    simp only [decide_eq_true_eq] at hg
    have h0 : cmpB d.1 key ≠ 0 := fun e => hne ((cmpB_zero _ _).1 e)
    omega
  have h2 : cmpB key d.1 < 0 := by rw [cmpB_anti]; omega
  rcases Nat.lt_or_ge (findN cs key) i with h | h
  · exact cmpB_lt_trans _ _ _ h2 (rise_pair cs hr _ _ _ _ h hd hc)
  · have e : i = findN cs key := by omega
    rw [e, hd] at hc
    obtain rfl := Option.some.inj hc
    exact h2
theorem rise_ins {cs : List Ce} {key val : List UInt8} (hr : riseB cs = true) (hm : mayB key val = true) (hn : hasB cs key = false) : riseB (cs.take (findN cs key) ++ [(key, val)] ++ cs.drop (findN cs key)) = true := by
  generalize hj : findN cs key = j
  have hjl : j ≤ cs.length := by rw [← hj]; exact findN_le _ _
  have l0 : (cs.take j).length = j := by rw [List.length_take]; omega
  have at1 : ∀ i, i < j → (cs.take j ++ [(key, val)] ++ cs.drop j)[i]? = cs[i]? := fun i hi => by
    rw [List.append_assoc, List.getElem?_append_left (by omega), List.getElem?_take, if_pos hi]
  have at2 : (cs.take j ++ [(key, val)] ++ cs.drop j)[j]? = some (key, val) := by
    rw [List.append_assoc, List.getElem?_append_right (by omega), l0, Nat.sub_self]
    rfl
  have at3 : ∀ i, j ≤ i → (cs.take j ++ [(key, val)] ++ cs.drop j)[i + 1]? = cs[i]? := fun i hi => by
    rw [List.getElem?_append_right (by rw [List.length_append, l0]; exact Nat.succ_le_succ hi), List.length_append, l0, List.length_singleton, List.getElem?_drop]
    congr 1
    omega
  refine rise_of_pairs _ (fun c hc => ?_) fun i c d hc hd => ?_
  · rw [List.append_assoc, List.mem_append, List.singleton_append, List.mem_cons] at hc
    rcases hc with h | rfl | h
    · exact rise_may cs hr c (List.mem_of_mem_take h)
    · exact hm
    · exact rise_may cs hr c (List.mem_of_mem_drop h)
  · rcases Nat.lt_trichotomy (i + 1) j with h | h | h
    · rw [at1 i (by omega)] at hc
      rw [at1 (i + 1) h] at hd
      exact rise_pair cs hr i (i + 1) c d (by omega) hc hd
    · rw [at1 i (by omega)] at hc
      rw [h, at2] at hd
      obtain rfl := Option.some.inj hd
      exact find_lo (key := key) (by omega) hc
    · rcases Nat.lt_or_ge j i with h2 | h2
      · obtain ⟨i', rfl⟩ : ∃ i', i = i' + 1 := ⟨i - 1, by omega⟩
        rw [at3 i' (by omega)] at hc
        rw [at3 (i' + 1) (by omega)] at hd
        exact rise_pair cs hr i' (i' + 1) c d (by omega) hc hd
      · obtain rfl : i = j := by omega
        rw [at2] at hc
        obtain rfl := Option.some.inj hc
        rw [at3 i (Nat.le_refl _)] at hd
        exact find_hi hr hn (by omega) hd
theorem has_erase {cs : List Ce} {key : List UInt8} (hr : riseB cs = true) (h : hasB cs key = true) : hasB (cs.eraseIdx (findN cs key)) key = false := by
  refine has_no fun i c hc e => ?_
  rw [← with_yes hr h] at hc
  have := List.mem_of_getElem? hc
  unfold withN at this
  rw [List.mem_filter] at this
  rw [e] at this
  simp at this
theorem rise_put {cs : List Ce} {key val : List UInt8} (hr : riseB cs = true) (hm : mayB key val = true) : riseB (putN cs key val) = true := by
  cases h : hasB cs key with
  | false =>
    unfold putN
    rw [h]
    exact rise_ins hr hm h
  | true =>
    rw [put_set hr h]
    have := rise_ins (rise_erase hr (findN cs key)) hm (has_erase hr h)
    rwa [find_with hr h] at this
theorem taken_ins (cs : List Ce) (c : Ce) (j : Nat) : taken (cs.take j ++ [c] ++ cs.drop j) = taken cs + sizeC c := by
  rw [taken_app, taken_app]
  have h := taken_app (cs.take j) (cs.drop j)
  rw [List.take_append_drop] at h
  have h2 : taken [c] = sizeC c := by simp [taken]
  omega
theorem taken_putNo {cs : List Ce} {key val : List UInt8} (h : hasB cs key = false) : taken (putN cs key val) = taken cs + (6 + key.length + val.length) := by
  unfold putN
  rw [h]
  exact taken_ins _ _ _
theorem taken_out {cs : List Ce} {j : Nat} {c : Ce} (h : cs[j]? = some c) : taken (cs.eraseIdx j) + sizeC c = taken cs := by
  rw [List.eraseIdx_eq_take_drop_succ, taken_app]
  have h1 := taken_app (cs.take j) (c :: cs.drop (j + 1))
  rw [← cut_at h] at h1
  have h2 : taken (c :: cs.drop (j + 1)) = sizeC c + taken (cs.drop (j + 1)) := by simp [taken]
  omega
theorem taken_putYes {cs : List Ce} {key val old : List UInt8} (hr : riseB cs = true) (h : cs[findN cs key]? = some (key, old)) (hh : hasB cs key = true) : taken (putN cs key val) + old.length = taken cs + val.length := by
  rw [put_set hr hh, taken_ins]
  have := taken_out h
  have e1 : sizeC (key, old) = 6 + key.length + old.length := rfl
  have e2 : sizeC (key, val) = 6 + key.length + val.length := rfl
  omega
/-- What Put answers on a page that is none of the free. -/
theorem put_can {b key val : List UInt8} {p : Pg} (h : unpB b = some p) (hk : ¬ p.kind = 0) (hm : mayB key val = true) :
    (taken (putN p.cells key val) ≤ 4072 ∧ ∃ x, putB b key val = (0, x) ∧ unpB x = some ⟨p.kind, p.next, putN p.cells key val⟩) ∨ (¬ taken (putN p.cells key val) ≤ 4072 ∧ putB b key val = (5, [])) := by
  obtain ⟨h1, _, _⟩ := unpB_right h
  obtain ⟨n0, n1⟩ := right_next h1
  have e : p = ⟨p.kind, p.next, p.cells⟩ := by cases p; rfl
  have hR : rightB ⟨p.kind, p.next, putN p.cells key val⟩ = true := by
    rw [e] at h1
    exact right_of h1 hk n0 n1 (rise_put (right_rise (p := p) (by rw [e]; exact h1)) hm)
  rw [putB_yes h hk hm]
  by_cases ht : taken (putN p.cells key val) ≤ 4072
  · left
    refine ⟨ht, _, pack_ok.2 ⟨hR, ht, rfl⟩, unpB_of_pack (pack_ok.2 ⟨hR, ht, rfl⟩)⟩
  · right
    refine ⟨ht, ?_⟩
    unfold pack
    rw [hR]
    simp only [Bool.true_eq_false, if_false]
    rw [if_pos (by simpa using ht)]
theorem drop_can {b key : List UInt8} {p : Pg} (h : unpB b = some p) : ∃ x, dropB b key = (x, hasB p.cells key, 0) ∧ unpB x = some (if hasB p.cells key = true then ⟨p.kind, p.next, p.cells.eraseIdx (findN p.cells key)⟩ else p) := by
  obtain ⟨h1, h2, h3⟩ := unpB_right h
  cases hh : hasB p.cells key with
  | false => exact ⟨b, dropB_no h hh, by simpa using h⟩
  | true =>
    obtain ⟨x, hx, _⟩ := drop_pack h1 h2 hh
    exact ⟨x, dropB_yes h hh hx, by simpa [dropP] using unpB_of_pack hx⟩
theorem find_can {b : List UInt8} {p : Pg} {ks vs : Txs} (h : unpB b = some p) (hm : Mp p.cells ks vs) {i : Nat} {k v : List UInt8} (hk : ks[i]? = some k) (hv : vs[i]? = some v) : findB b k = (v, true, 0) := by
  have hr := right_rise (unpB_right h).1
  obtain ⟨h1, h2⟩ := hm.at hr hk hv
  obtain ⟨c, hc, _, e⟩ := findB_yes h h2
  rw [h1] at hc
  obtain rfl := Option.some.inj hc
  exact e
theorem empty_pack (k : UInt8) (hk : k = 1 ∨ k = 2) : ∃ b, pack ⟨k, 7, []⟩ = (0, b) ∧ unpB b = some ⟨k, 7, []⟩ := by
  have hR : rightB ⟨k, 7, []⟩ = true := by rcases hk with rfl | rfl <;> decide
  have h := pack_ok.2 ⟨hR, show taken (⟨k, 7, []⟩ : Pg).cells ≤ 4072 from Nat.zero_le _, rfl⟩
  exact ⟨_, h, unpB_of_pack h⟩
end Pag
end Go.Proofs.Ytpoilndlfbmhgaa

/-
  Rows of texts of the call's own: read, cut, put behind one another, whether there is room or not. Conditions: none.
-/
namespace Go.Proofs.Ytpoilndlfbmhgaa
open Go.RowKit

theorem infoT : (Try.prog.info? 26).map (fun i => (i.zero, i.size, i.bytes)) = some (some (.slice none 0 0), 1, 24) := by kernel_rfl
def blk (A : Option Addr) : Option Nat := A.map (·.block)
theorem blk_own (A : Option Addr) (n c : Nat) : (Value.slice A n c).ownBlock = blk A := by cases A <;> rfl
/-- A row of texts (cells of slices) from block lo on; the texts lie below block K. -/
def TR (w : World) (K lo : Nat) (A : Option Addr) (n c : Nat) (ls : Pag.Txs) : Prop :=
  n = ls.length ∧ n ≤ c ∧ c ≤ 9223372036854775807 ∧ ∃ bs : List Value, bs.length = n ∧ (∀ (i : Nat) l b, ls[i]? = some l → bs[i]? = some b → Bd w K b l) ∧
   ((A = none ∧ c = 0) ∨ ∃ g cur, A = some ⟨g, 0, none⟩ ∧ lo ≤ g ∧ w.heap[g]? = some (.cells cur 26 (0, 0)) ∧ c ≤ cur.size ∧ cur.toList.take n = bs)
/-- A row of texts that is read. -/
def TX (w : World) (B K : Nat) (A : Option Addr) (m : Nat) (ls : Pag.Txs) : Prop :=
  m = ls.length ∧ ∃ bs : List Value, bs.length = m ∧ Rd w B 1 A m bs ∧ ∀ (i : Nat) l b, ls[i]? = some l → bs[i]? = some b → Bd w K b l
section
variable {w w' : World} {K lo n c : Nat} {A : Option Addr} {ls : Pag.Txs}
theorem TR.nil (w : World) (K lo : Nat) : TR w K lo none 0 0 [] := ⟨rfl, Nat.le_refl _, Nat.zero_le _, [], rfl, by simp, .inl ⟨rfl, rfl⟩⟩
theorem TR.keep (h : TR w K lo A n c ls) (h1 : ∀ g, blk A = some g → w'.heap[g]? = w.heap[g]?) (h2 : ∀ p : Addr, p.block < K → w'.cell? p = w.cell? p) : TR w' K lo A n c ls := by
  obtain ⟨h3, h4, h5, bs, h6, h7, h8⟩ := h
  refine ⟨h3, h4, h5, bs, h6, fun i l b hl hb => (h7 i l b hl hb).keep h2, ?_⟩
  rcases h8 with h8 | ⟨g, cur, rfl, hg, hh, hc, ht⟩
  · exact .inl h8
  · exact .inr ⟨g, cur, rfl, hg, by rw [h1 g rfl]; exact hh, hc, ht⟩
theorem TR.lt (h : TR w K lo A n c ls) {g : Nat} (hg : blk A = some g) : lo ≤ g ∧ g < w.heap.size := by
  obtain ⟨_, _, _, bs, _, _, h8⟩ := h
  rcases h8 with ⟨rfl, _⟩ | ⟨g', cur, rfl, h1, hh, _⟩
  · cases hg
  · injection hg with hg
    subst hg
    exact ⟨h1, lt_of_block hh⟩
theorem TR.grown {r : Option Nat} (h : TR w K lo A n c ls) (hg : w.grownBy w' r) (hr : ∀ g, r = some g → K ≤ g ∧ blk A ≠ some g) (hK : K ≤ w.heap.size) : TR w' K lo A n c ls := by
  refine h.keep (fun g hA => hg.block g (h.lt hA).2 fun e => (hr g e.symm).2 hA) fun p hp => World.cell?_of_block (hg.block _ (by omega) fun e => ?_)
  have := (hr _ e.symm).1
  omega
theorem TR.below {C : Nat} (h : TR w K lo A n c ls) (hb : Below C w w') (hC : w.heap.size ≤ C) (hK : K ≤ w.heap.size) : TR w' K lo A n c ls :=
  h.keep (fun g hA => hb.block g (by have := (h.lt hA).2; omega)) fun _ hp => hb.cell (by omega)
theorem TR.tx (h : TR w K lo A n c ls) : TX w w.heap.size K A n ls := by
  obtain ⟨h3, h4, h5, bs, h6, h7, h8⟩ := h
  refine ⟨h3, bs, h6, ⟨by omega, fun hn => ?_⟩, h7⟩
  rcases h8 with ⟨rfl, h8⟩ | ⟨g, cur, rfl, hg, hh, hc, ht⟩
  · omega
  · refine ⟨g, 0, rfl, lt_of_block hh, fun j u hu => ?_⟩
    rw [Nat.zero_add]
    rw [← ht, List.getElem?_take] at hu
    split at hu
    · have hu' : cur[j]? = some u := by simpa using hu
      simp [World.cell?, hh, hu']
    · cases hu
theorem TX.keep {B m : Nat} (h : TX w B K A m ls) (h1 : ∀ p : Addr, p.block < B → w'.cell? p = w.cell? p) (hK : K ≤ B) : TX w' B K A m ls := by
  obtain ⟨h3, bs, h6, h7, h8⟩ := h
  exact ⟨h3, bs, h6, h7.keep h1, fun i l b hl hb => (h8 i l b hl hb).keep fun p hp => h1 p (by omega)⟩
theorem TX.at {B m i : Nat} (h : TX w B K A m ls) (hi : i < m) : ∃ g off f Ak ck, A = some ⟨g, off, none⟩ ∧ g < B ∧ ls[i]? = some f ∧ w.cell? ⟨g, off + i, none⟩ = some (.slice Ak f.length ck) ∧ Rb w K Ak f.length f ∧ f.length ≤ 140737488355328 ∧ f.length ≤ ck ∧ ck ≤ 9223372036854775807 := by
  obtain ⟨h3, bs, h6, h7, h8⟩ := h
  obtain ⟨g, off, e, hg, hc⟩ := h7.2 (by omega)
  have hl : ls[i]? = some ls[i] := List.getElem?_eq_getElem (by omega)
  have hb : bs[i]? = some bs[i] := List.getElem?_eq_getElem (by omega)
  obtain ⟨Ak, ck, e2, r1, r2, r3, r4⟩ := h8 i _ _ hl hb
  exact ⟨g, off, ls[i], Ak, ck, e, hg, hl, by rw [← e2]; exact hc i _ hb, r1, r2, r3, r4⟩
theorem TR.at {i : Nat} (h : TR w K lo A n c ls) (hi : i < n) : ∃ g f Ak ck, A = some ⟨g, 0, none⟩ ∧ g < w.heap.size ∧ ls[i]? = some f ∧ w.cell? ⟨g, i, none⟩ = some (.slice Ak f.length ck) ∧ Rb w K Ak f.length f ∧ f.length ≤ 140737488355328 ∧ f.length ≤ ck ∧ ck ≤ 9223372036854775807 := by
  obtain ⟨g, off, f, Ak, ck, e, h1, h2, h3, h4⟩ := h.tx.at hi
  have h0 := h
  obtain ⟨_, _, _, bs, _, _, h8⟩ := h0
  rcases h8 with ⟨rfl, _⟩ | ⟨g', cur, rfl, _⟩
  · cases e
  · injection e with e
    injection e with e1 e2
    subst e1 e2
    exact ⟨g', f, Ak, ck, rfl, h1, h2, by rw [Nat.zero_add] at h3; exact h3, h4⟩
theorem TR.cut {i : Nat} (h : TR w K lo A n c ls) (hi : i ≤ n) : TR w K lo A i i (ls.take i) := by
  obtain ⟨h3, h4, h5, bs, h6, h7, h8⟩ := h
  refine ⟨by rw [List.length_take]; omega, Nat.le_refl _, by omega, bs.take i, by rw [List.length_take]; omega, fun j l b hl hb => ?_, ?_⟩
  · rw [List.getElem?_take] at hl hb
    split at hl
    · rename_i hj
      rw [if_pos hj] at hb
      exact h7 j l b hl hb
    · cases hl
  · rcases h8 with ⟨rfl, h8⟩ | ⟨g, cur, rfl, hg, hh, hc, ht⟩
    · exact .inl ⟨rfl, by omega⟩
    · exact .inr ⟨g, cur, rfl, hg, hh, by omega, by rw [← ht, List.take_take, Nat.min_eq_left hi]⟩
theorem TX.drop {B i : Nat} {g off : Nat} (h : TX w B K (some ⟨g, off, none⟩) n ls) (hi : i ≤ n) : TX w B K (some ⟨g, off + i, none⟩) (n - i) (ls.drop i) := by
  obtain ⟨h3, bs, h6, h7, h8⟩ := h
  refine ⟨by rw [List.length_drop]; omega, bs.drop i, by rw [List.length_drop]; omega, ⟨by rw [List.length_drop]; omega, fun hn => ?_⟩, fun j l b hl hb => ?_⟩
  · obtain ⟨g', off', e, hg, hc⟩ := h7.2 (by omega)
    injection e with e
    injection e with e1 e2
    subst e1 e2
    refine ⟨g, off + i, rfl, hg, fun j u hu => ?_⟩
    rw [List.getElem?_drop] at hu
    rw [Nat.add_assoc]
    exact hc _ _ hu
  · rw [List.getElem?_drop] at hl hb
    exact h8 _ _ _ hl hb
theorem TX.one {B m : Nat} (h : TX w B K A m ls) : ∃ bs : List Value, bs.length = m ∧ Rd w B 1 A m bs ∧ (∀ u ∈ bs, u.oneCell' = true) ∧ ∀ (i : Nat) l b, ls[i]? = some l → bs[i]? = some b → Bd w K b l := by
  obtain ⟨h3, bs, h6, h7, h8⟩ := h
  refine ⟨bs, h6, h7, fun u hu => ?_, h8⟩
  obtain ⟨i, hi, rfl⟩ := List.mem_iff_getElem.1 hu
  obtain ⟨_, _, e, _⟩ := h8 i _ _ (List.getElem?_eq_getElem (by omega)) (List.getElem?_eq_getElem hi)
  rw [e]
  rfl
/-- 'l[:i:i]' and 'l[i:]'. -/
theorem run_textsTo (w : World) (A : Option Addr) (n c i : Nat) (hi : i ≤ c) : (Instr.sliceAt 46 (.slice A n c) none (some (.int .i64 (i : Int))) (some (.int .i64 (i : Int)))).run Try.prog w = .ok (.slice A i i) w := by
  have ht : Try.prog.underlying 46 = some (.slice (Try.prog.elem 46)) := by kernel_rfl
  have hs : (sizeOf (Try.prog.elem 46)).run Try.prog w = .ok 1 w := by kernel_rfl
  rw [run_sliceAt_slice (P := Try.prog) w _ _ _ _ _ ht, run_slice_hm (P := Try.prog) w _ _ _ _ ht _ _ _ _ (by omega) (Int.le_refl _) (by omega), hs]
  cases A <;> simp [Result.andThen, sliced, Addr.add]
theorem run_textsFrom (w : World) (g n c i : Nat) (hi : i ≤ n) : (Instr.sliceAt 46 (.slice (some ⟨g, 0, none⟩) n c) (some (.int .i64 (i : Int))) none none).run Try.prog w = .ok (.slice (some ⟨g, if c = i then 0 else i, none⟩) (n - i) (c - i)) w := by
  have ht : Try.prog.underlying 46 = some (.slice (Try.prog.elem 46)) := by kernel_rfl
  have hs : (sizeOf (Try.prog.elem 46)).run Try.prog w = .ok 1 w := by kernel_rfl
  rw [run_sliceAt_slice (P := Try.prog) w _ _ _ _ _ ht, run_slice_l (P := Try.prog) w _ _ _ _ ht _ _ (by omega) (by omega), hs]
  simp only [Result.andThen, sliced, Option.map_some, addr_add, Int.toNat_natCast, Nat.zero_add, Nat.mul_one]
  split <;> rfl
theorem TR.from {i g : Nat} (h : TR w K lo (some ⟨g, 0, none⟩) n c ls) (hi : i ≤ n) : TX w w.heap.size K (some ⟨g, if c = i then 0 else i, none⟩) (n - i) (ls.drop i) := by
  have h1 := h.tx.drop hi
  rw [Nat.zero_add] at h1
  split
  · have hn : n - i = 0 := by have := h.2.1; omega
    rw [hn] at h1 ⊢
    obtain ⟨h3, bs, h6, h7, h8⟩ := h1
    exact ⟨h3, bs, h6, ⟨h7.1, fun h => absurd h (by omega)⟩, h8⟩
  · exact h1
theorem run_textsFromO {o m d : Nat} (w : World) (g n c i : Nat) (hi : i ≤ n) (ho : o = if c = i then 0 else i) (hm : m = n - i) (hd : d = c - i) : (Instr.sliceAt 46 (.slice (some ⟨g, 0, none⟩) n c) (some (.int .i64 (i : Int))) none none).run Try.prog w = .ok (.slice (some ⟨g, o, none⟩) m d) w := by
  rw [ho, hm, hd]
  exact run_textsFrom w g n c i hi
theorem TR.fromO {o m i g : Nat} (h : TR w K lo (some ⟨g, 0, none⟩) n c ls) (hi : i ≤ n) (ho : o = if c = i then 0 else i) (hm : m = n - i) : TX w w.heap.size K (some ⟨g, o, none⟩) m (ls.drop i) := by
  rw [ho, hm]
  exact h.from hi
theorem setRow_same {g : Nat} {cur cur' : Array Value} {t : TypeId} {m : Nat × Nat} (hg : w.heap[g]? = some (.cells cur t m)) (h : cur' = cur) : w.setRow g cur' = w := by
  subst h
  have h1 : (w.setRow g cur').heap = w.heap := by
    refine Array.ext (by simp) fun i h1 h2 => ?_
    by_cases e : i = g
    · subst e
      have h3 := setRow_heap w i cur' cur' t m hg
      rw [Array.getElem?_eq_getElem h1] at h3
      rw [Array.getElem?_eq_getElem h2] at hg
      exact (Option.some.inj h3).trans (Option.some.inj hg).symm
    · have h3 := setRow_other w g i cur' e
      rw [Array.getElem?_eq_getElem h1, Array.getElem?_eq_getElem h2] at h3
      exact Option.some.inj h3
  have h2 : w.setRow g cur' = { w with heap := (w.setRow g cur').heap } := rfl
  rw [h2, h1]
/-- Nothing is put behind. -/
theorem run_app0 {ty : TypeId} (h : TR w K lo A n c ls) (hA : A ≠ none) (ad : Addr) (c' : Nat) : (Builtin.append_ #[46, 46] ty #[.slice A n c, .slice (some ad) 0 c']).run Try.prog w = .ok (.slice A n c) w := by
  obtain ⟨iT, hiT, hz0, hz1, hz2⟩ := info_parts infoT
  obtain ⟨h3, h4, h5, bs, h6, h7, h8⟩ := h
  rcases h8 with ⟨rfl, _⟩ | ⟨g, cur, rfl, hg, hh, hc, ht⟩
  · exact absurd rfl hA
  · have := run_append_in (P := Try.prog) w 46 ty 26 iT 1 Try.underlying46 hiT hz1 g n c cur hh ad 0 c' [] rfl (fun j u hu => by simp at hu) (by simp) (by omega) (by simp; omega)
    rw [this, setRow_same hh]
    · rfl
    · unfold lay3
      apply Array.toList_inj.1
      simp
/-- 'append(a, b...)' of texts. -/
theorem run_appT {ty : TypeId} (h : TR w K lo A n c ls) (ad : Addr) (B m c' : Nat) (ms : Pag.Txs) (hx : TX w B K (some ad) m ms) (hm : 0 < m) (hK : K ≤ lo) (hlo : lo ≤ w.heap.size) (hb : (n + m) * 24 ≤ 140737488355328) :
    ∃ A2 c2 w', (Builtin.append_ #[46, 46] ty #[.slice A n c, .slice (some ad) m c']).run Try.prog w = .ok (.slice A2 (n + m) c2) w' ∧ TR w' K lo A2 (n + m) c2 (ls ++ ms) ∧ w.grownBy w' (blk A) ∧
      (∀ g, blk A2 = some g → w.heap.size ≤ g ∨ blk A = some g) ∧ (∀ A' c', TR w K lo A' n c' ls → TR w' K lo A' n c' ls) ∧ (c < n + m → w.grownBy w' none ∧ ∀ g, blk A2 = some g → w.heap.size ≤ g) := by
  obtain ⟨iT, hiT, hz0, hz1, hz2⟩ := info_parts infoT
  obtain ⟨ds, d1, d2, d3, d4⟩ := hx.one
  have hml := hx.1
  have h0 := h
  obtain ⟨h3, h4, h5, bs, h6, h7, h8⟩ := h
  have weak : ∀ {w' : World} {row : Option Nat}, w.grownBy w' none → w.grownBy w' row := fun h => ⟨h.os, h.tape, h.output, h.size, fun k hk _ => h.block k hk (by simp)⟩
  have bod : ∀ {w' : World}, w.grownBy w' (blk A) → ∀ (i : Nat) (l : List UInt8) (b : Value), (ls ++ ms)[i]? = some l → (bs ++ ds)[i]? = some b → Bd w' K b l := fun {w'} hg i l b hl hb => by
    have kp : ∀ p : Addr, p.block < K → w'.cell? p = w.cell? p := fun p hp => World.cell?_of_block (hg.block _ (by omega) fun e => by have := (h0.lt e.symm).1; omega)
    by_cases hi : i < n
    · rw [List.getElem?_append_left (by omega)] at hl hb
      exact (h7 i l b hl hb).keep kp
    · rw [List.getElem?_append_right (by omega)] at hl hb
      rw [h6, h3] at hb
      exact (d4 _ l b hl hb).keep kp
  have stay : ∀ {w' : World}, w.grownBy w' none → ∀ A' c', TR w K lo A' n c' ls → TR w' K lo A' n c' ls := fun hg A' c' h => h.grown hg (fun g e => by cases e) (by omega)
  have new : ∀ (v' : Value) (w' : World), w'.ownsRow w.heap.size 26 1 v' (n + m) (bs ++ ds) → w.grownBy w' none → ∃ A2 c2, v' = .slice A2 (n + m) c2 ∧ TR w' K lo A2 (n + m) c2 (ls ++ ms) ∧ ∀ g, blk A2 = some g → w.heap.size ≤ g := fun v' w' ho hg => by
    rcases ho.2 with ⟨_, h0⟩ | ⟨g, cap, cur, e, hbg, hh, hnc, hcm, hcs, ht⟩
    · omega
    · refine ⟨some ⟨g, 0, none⟩, cap, e, ⟨by rw [List.length_append, ← h3, ← hml], hnc, by unfold maxLen at hcm; omega, bs ++ ds, by rw [List.length_append]; omega, bod (weak hg), .inr ⟨g, cur, rfl, by omega, hh, by omega, by rw [Nat.mul_one] at ht; exact ht⟩⟩, fun g' e' => ?_⟩
      injection e' with e'
      subst e'
      exact hbg
  have hsrc : ∀ j u, ds[j]? = some u → w.cell? (ad.add j) = some u := fun j u hu => by
    obtain ⟨b, off, e, _, hc⟩ := d2.2 hm
    injection e with e
    subst e
    rw [addr_add]
    exact hc j u hu
  rcases h8 with ⟨rfl, rfl⟩ | ⟨g, cur, rfl, hg, hh, hc, ht⟩
  · obtain rfl : n = 0 := by omega
    have hbs : bs = [] := List.eq_nil_of_length_eq_zero h6
    subst hbs
    obtain ⟨v', w', hrun, h2, h3', _, h5'⟩ := run_append_own_at (P := Try.prog) w w.heap.size 46 ty 26 iT _ 1 24 Try.underlying46 hiT hz0 hz1 hz2 rfl (by omega) _ 0 [] (own_nil w w.heap.size 26 1) ad m c' ds (by omega) hsrc d3 (by unfold maxLen; omega) hb (Nat.le_refl _)
    have hgn : w.grownBy w' none := h3'
    obtain ⟨A2, c2, rfl, t1, t2⟩ := new v' w' h2 hgn
    exact ⟨A2, c2, w', hrun, t1, weak hgn, fun g hg => .inl (t2 g hg), stay hgn, fun _ => ⟨hgn, t2⟩⟩
  · by_cases hroom : n + m ≤ c
    · have hrun := run_append_in (P := Try.prog) w 46 ty 26 iT 1 Try.underlying46 hiT hz1 g n c cur hh ad m c' ds (by omega) hsrc d3 hroom (by omega)
      have hgr : w.grownBy (w.setRow g (lay3 cur (n * 1) ds)) (blk (some (⟨g, 0, none⟩ : Addr))) := ⟨rfl, rfl, rfl, by simp, fun j _ hj => setRow_other w g j _ (fun e => hj (by rw [e]; rfl))⟩
      have hnew := setRow_heap w g cur (lay3 cur (n * 1) ds) 26 (0, 0) hh
      have hsz : (lay3 cur (n * 1) ds).size = cur.size := lay3_size _ _ _ (by omega)
      have hcl : (cur.toList.take n).length = n := by rw [ht, h6]
      refine ⟨_, c, _, hrun, ⟨by rw [List.length_append, ← h3, ← hml], hroom, h5, bs ++ ds, by rw [List.length_append]; omega, bod hgr, .inr ⟨g, _, rfl, hg, hnew, by omega, ?_⟩⟩, hgr, fun g' e => .inr e, fun A' c2 hA' => ?_, fun h => absurd hroom (by omega)⟩
      · rw [lay3_list, Nat.mul_one, List.append_assoc, ← ht, ← List.append_assoc]
        exact List.take_left' (by rw [List.length_append, hcl]; omega)
      · by_cases hAg : blk A' = some g
        · obtain ⟨k3, k4, k5, bs', k6, k7, k8⟩ := hA'
          refine ⟨k3, k4, k5, bs', k6, fun i l b hl hb => (k7 i l b hl hb).keep fun p hp => World.cell?_of_block (hgr.block _ (by omega) fun e => ?_), ?_⟩
          · have e2 : p.block = g := by simpa [blk] using e
            omega
          · rcases k8 with k8 | ⟨g', cur', rfl, hg', hh', hc', ht'⟩
            · exact .inl k8
            · injection hAg with hAg
              subst hAg
              rw [hh] at hh'
              injection hh' with hh'
              injection hh' with hh' _ _
              subst hh'
              refine .inr ⟨g', _, rfl, hg', hnew, by omega, ?_⟩
              rw [lay3_list, Nat.mul_one, List.append_assoc, ← ht']
              exact List.take_left' hcl
        · refine hA'.grown hgr (fun g' e => ?_) (by omega)
          have e2 : g = g' := by simpa [blk] using e
          subst e2
          exact ⟨by omega, hAg⟩
    · have holds : ∀ j u, bs[j]? = some u → w.cell? ((⟨g, 0, none⟩ : Addr).add j) = some u := fun j u hu => by
        rw [addr_add, Nat.zero_add]
        rw [← ht, List.getElem?_take] at hu
        split at hu
        · have hu' : cur[j]? = some u := by simpa using hu
          simp [World.cell?, hh, hu']
        · cases hu
      obtain ⟨v', w', hrun, h2, h3'⟩ := run_append_arg_grows (P := Try.prog) w 46 ty 26 iT _ 1 24 Try.underlying46 hiT hz0 hz1 hz2 rfl (by omega) ⟨g, 0, none⟩ n c bs (by omega) holds ad m c' ds (by omega) hsrc (by omega) (by unfold maxLen; omega) hb
      obtain ⟨A2, c2, rfl, t1, t2⟩ := new v' w' h2 h3'
      exact ⟨A2, c2, w', hrun, t1, weak h3', fun g hg => .inl (t2 g hg), stay h3', fun _ => ⟨h3', t2⟩⟩
end
end Go.Proofs.Ytpoilndlfbmhgaa

/-
  What is told in the regions of PageMap that put rows of texts behind one another. Conditions: none.
-/
namespace Go.Proofs.Ytpoilndlfbmhgaa
open Go.RowKit

/-- Rows that are made anew. -/
def RFn (K lo n : Nat) (ls : Pag.Txs) : Fact := fun u w => (∃ A c, u = .slice A n c ∧ TR w K lo A n c ls) ∧ K ≤ w.heap.size
theorem RFn.stable (K lo n : Nat) (ls : Pag.Txs) : StableF (RFn K lo n ls) := by
  rintro v w w' ⟨⟨A, c, e, h⟩, hK⟩ hb
  exact ⟨⟨A, c, e, h.below hb (Nat.le_refl _) hK⟩, Nat.le_trans hK hb.size⟩
theorem RFn.lt {K lo n g : Nat} {ls : Pag.Txs} {v : Value} {w : World} (h : RFn K lo n ls v w) (hg : v.ownBlock = some g) : lo ≤ g ∧ g < w.heap.size := by
  obtain ⟨⟨A, c, rfl, h⟩, _⟩ := h
  rw [blk_own] at hg
  exact h.lt hg
def T2 (i j K lo n : Nat) (ks vs : Pag.Txs) : Nat → Option Fact := tab [(i, RFn K lo n ks), (j, RFn K lo n vs)]
def sh2 (i j n : Nat) : Tw.ShF := ⟨shp [(i, IsSl n), (j, IsSl n)], fun _ => none, fun k => k == i || k == j⟩
theorem sh2_some (i j n k : Nat) : ∃ v, (sh2 i j n).s k v := shp_some (fun p hp => by
  simp only [List.mem_cons, List.not_mem_nil, or_false] at hp
  rcases hp with rfl | rfl
  · exact IsSl.some _
  · exact IsSl.some _) k
theorem T2.stable (i j K lo n : Nat) (ks vs : Pag.Txs) : Stable (T2 i j K lo n ks vs) := tab_stable fun p hp => by
  simp only [List.mem_cons, List.not_mem_nil, or_false] at hp
  rcases hp with rfl | rfl
  · exact RFn.stable _ _ _ _
  · exact RFn.stable _ _ _ _
theorem T2.fact {i j K lo n k : Nat} {ks vs : Pag.Txs} {Φ : Fact} (h : T2 i j K lo n ks vs k = some Φ) : ∃ ls, Φ = RFn K lo n ls := by
  unfold T2 tab at h
  obtain ⟨p, hp, rfl⟩ := Option.map_eq_some_iff.1 h
  have := List.mem_of_find?_eq_some hp
  simp only [List.mem_cons, List.not_mem_nil, or_false] at this
  rcases this with rfl | rfl
  · exact ⟨ks, rfl⟩
  · exact ⟨vs, rfl⟩
theorem turns2 (i j K lo n : Nat) (ks vs : Pag.Txs) (w0 : World) : Tw.Turns true Gro (Up w0) w0.heap.size (T2 i j K lo n ks vs) (sh2 i j n).old (sh2 i j n).pr := by
  refine ⟨fun i' k Φ _ _ _ hk u v w hh hu hv g hg hg2 => ?_, fun _ w w' hs hb => Up.lives w0 _ _ hs hb, fun _ _ _ hb => hb.size, fun _ _ _ _ hb _ _ _ ho => (hb.block _ (lt_of_block ho)).trans ho, fun _ k Φ _ hk v w w' hv hb => T2.stable i j K lo n ks vs k Φ hk v w w' hv hb⟩
  obtain ⟨ls, rfl⟩ := T2.fact hk
  have h1 := (RFn.lt hv hg2).2
  rcases hu g hg with h | h
  · omega
  · cases h
/-- Rows that may be written. -/
def RF (K lo h0 : Nat) (o : Option Nat) (n : Nat) (ls : Pag.Txs) : Fact := fun u w => (∃ A c, u = .slice A n c ∧ TR w K lo A n c ls ∧ ∀ g, blk A = some g → h0 ≤ g ∨ o = some g) ∧ K ≤ w.heap.size
theorem RF.grown {K lo h0 n : Nat} {o r : Option Nat} {ls : Pag.Txs} {u : Value} {w w' : World} (h : RF K lo h0 o n ls u w) (hg : w.grownBy w' r) (hr : ∀ g, r = some g → lo ≤ g ∧ g < h0 ∧ o ≠ some g) (hK : K ≤ lo) : RF K lo h0 o n ls u w' := by
  obtain ⟨⟨A, c, e, h, ho⟩, hKw⟩ := h
  refine ⟨⟨A, c, e, h.grown hg (fun g e => ?_) hKw, ho⟩, Nat.le_trans hKw hg.size⟩
  obtain ⟨h1, h2, h3⟩ := hr g e
  refine ⟨by omega, fun hb => ?_⟩
  rcases ho g hb with h | h
  · omega
  · exact h3 h
theorem RF.stable (K lo h0 : Nat) (o : Option Nat) (n : Nat) (ls : Pag.Txs) : StableF (RF K lo h0 o n ls) := by
  rintro v w w' ⟨⟨A, c, e, h, ho⟩, hK⟩ hb
  exact ⟨⟨A, c, e, h.below hb (Nat.le_refl _) hK, ho⟩, Nat.le_trans hK hb.size⟩
/-- All but two blocks are as they were. -/
structure Sv (w0 : World) (a b : Option Nat) (w : World) : Prop where
  os : w.os = w0.os
  tape : w.tape = w0.tape
  output : w.output = w0.output
  size : w0.heap.size ≤ w.heap.size
  block : ∀ k, k < w0.heap.size → a ≠ some k → b ≠ some k → w.heap[k]? = w0.heap[k]?
theorem Sv.start (w0 : World) (a b : Option Nat) : Sv w0 a b { w0 with drawn := w0.drawn + 1 } := ⟨rfl, rfl, rfl, Nat.le_refl _, fun _ _ _ _ => rfl⟩
theorem Sv.lives (w0 : World) (a b : Option Nat) : Lives (Sv w0 a b) := fun _ _ h hb =>
  ⟨hb.os.trans h.os, hb.tape.trans h.tape, hb.output.trans h.output, Nat.le_trans h.size hb.size, fun k hk h1 h2 => (hb.block k (Nat.lt_of_lt_of_le hk h.size)).trans (h.block k hk h1 h2)⟩
theorem Sv.grown {w0 w w' : World} {a b r : Option Nat} (h : Sv w0 a b w) (hg : w.grownBy w' r) (hr : r = none ∨ r = a ∨ r = b) : Sv w0 a b w' := by
  refine ⟨hg.os.trans h.os, hg.tape.trans h.tape, hg.output.trans h.output, Nat.le_trans h.size hg.size, fun k hk h1 h2 => (hg.block k (Nat.lt_of_lt_of_le hk h.size) fun e => ?_).trans (h.block k hk h1 h2)⟩
  rcases hr with rfl | rfl | rfl
  · cases e
  · exact h1 e.symm
  · exact h2 e.symm
theorem Sv.below {w0 w : World} {a b : Option Nat} {B : Nat} (h : Sv w0 a b w) (ha : ∀ g, a = some g → B ≤ g) (hb : ∀ g, b = some g → B ≤ g) (hB : B ≤ w0.heap.size) : Below B w0 w :=
  ⟨h.os, h.tape, h.output, h.size, fun k hk => h.block k (by omega) (fun e => by have := ha k e; omega) (fun e => by have := hb k e; omega)⟩
theorem Sv.blk {w0 w : World} {a b : Option Nat} {g : Nat} {t : TypeId} {cs : Array Value} (h : Sv w0 a b w) (hb : Blk w0 g t cs) (ha : a ≠ some g) (hb' : b ≠ some g) : Blk w g t cs := by
  have h1 := h.block g hb.lt ha hb'
  exact h1.trans hb
def T37 (K lo h0 : Nat) (a b : Option Nat) (n : Nat) (ks vs : Pag.Txs) (key val : List UInt8) : Nat → Option Fact := tab [(0, RF K lo h0 a n ks), (3, RF K lo h0 none 1 [key]), (4, RF K lo h0 a (n + 1) (ks ++ [key])), (5, RF K lo h0 b n vs), (8, RF K lo h0 none 1 [val]), (9, RF K lo h0 b (n + 1) (vs ++ [val]))]
def IsOne (v : Value) : Prop := ∃ g c, v = .slice (some ⟨g, 0, none⟩) 1 c
def sh37 (a b : Option Nat) (A B : Option Addr) (n cA cB : Nat) : Tw.ShF := ⟨shp [(0, IsV (.slice A n cA)), (3, IsOne), (4, IsSl (n + 1)), (5, IsV (.slice B n cB)), (8, IsOne), (9, IsSl (n + 1))], fun i => if i = 0 ∨ i = 4 then a else if i = 5 ∨ i = 9 then b else none, fun i => i == 4 || i == 9⟩
theorem sh37_some (a b : Option Nat) (A B : Option Addr) (n cA cB k : Nat) : ∃ v, (sh37 a b A B n cA cB).s k v := shp_some (fun p hp => by
  simp only [List.mem_cons, List.not_mem_nil, or_false] at hp
  rcases hp with rfl | rfl | rfl | rfl | rfl | rfl
  · exact IsV.some _
  · exact ⟨.slice (some ⟨0, 0, none⟩) 1 0, _, _, rfl⟩
  · exact IsSl.some _
  · exact IsV.some _
  · exact ⟨.slice (some ⟨0, 0, none⟩) 1 0, _, _, rfl⟩
  · exact IsSl.some _) k
def R37 (K lo h0 : Nat) (a b : Option Nat) (n : Nat) (ks vs : Pag.Txs) : Nat → World → World → Prop := fun i w w' =>
  if i = 4 then w.grownBy w' a ∧ ∀ u, RF K lo h0 a n ks u w → RF K lo h0 a n ks u w'
  else if i = 9 then w.grownBy w' b ∧ ∀ u, RF K lo h0 b n vs u w → RF K lo h0 b n vs u w'
  else w.grownBy w' none
theorem T37.stable (K lo h0 : Nat) (a b : Option Nat) (n : Nat) (ks vs : Pag.Txs) (key val : List UInt8) : Stable (T37 K lo h0 a b n ks vs key val) := tab_stable fun p hp => by
  simp only [List.mem_cons, List.not_mem_nil, or_false] at hp
  rcases hp with rfl | rfl | rfl | rfl | rfl | rfl <;> exact RF.stable _ _ _ _ _ _
/-- Which facts there are. -/
theorem T37.fact {K lo h0 : Nat} {a b : Option Nat} {n k : Nat} {ks vs : Pag.Txs} {key val : List UInt8} {Φ : Fact} (h : T37 K lo h0 a b n ks vs key val k = some Φ) :
    (k = 0 ∧ Φ = RF K lo h0 a n ks) ∨ (k = 4 ∧ Φ = RF K lo h0 a (n + 1) (ks ++ [key])) ∨ (k = 5 ∧ Φ = RF K lo h0 b n vs) ∨ (k = 9 ∧ Φ = RF K lo h0 b (n + 1) (vs ++ [val])) ∨ (∃ ls, Φ = RF K lo h0 none 1 ls) := by
  unfold T37 tab at h
  obtain ⟨p, hp, rfl⟩ := Option.map_eq_some_iff.1 h
  have hk := List.find?_some hp
  have := List.mem_of_find?_eq_some hp
  simp only [List.mem_cons, List.not_mem_nil, or_false] at this
  rcases this with rfl | rfl | rfl | rfl | rfl | rfl
  · exact .inl ⟨(by simpa using hk : _ = k).symm, rfl⟩
  · exact .inr (.inr (.inr (.inr ⟨_, rfl⟩)))
  · exact .inr (.inl ⟨(by simpa using hk : _ = k).symm, rfl⟩)
  · exact .inr (.inr (.inl ⟨(by simpa using hk : _ = k).symm, rfl⟩))
  · exact .inr (.inr (.inr (.inr ⟨_, rfl⟩)))
  · exact .inr (.inr (.inr (.inl ⟨(by simpa using hk : _ = k).symm, rfl⟩)))
theorem turns37 {K lo : Nat} {a b : Option Nat} {n : Nat} {ks vs : Pag.Txs} {key val : List UInt8} {A B : Option Addr} {cA cB : Nat} {w0 : World} (hK : K ≤ lo) (ha : ∀ g, a = some g → lo ≤ g ∧ g < w0.heap.size) (hb : ∀ g, b = some g → lo ≤ g ∧ g < w0.heap.size) (hab : ∀ g, a = some g → b ≠ some g) :
    Tw.Turns false (R37 K lo w0.heap.size a b n ks vs) (Sv w0 a b) w0.heap.size (T37 K lo w0.heap.size a b n ks vs key val) (sh37 a b A B n cA cB).old (sh37 a b A B n cA cB).pr := by
  have old : ∀ i, (sh37 a b A B n cA cB).old i = if i = 0 ∨ i = 4 then a else if i = 5 ∨ i = 9 then b else none := fun i => rfl
  have lt : ∀ {o n ls v w g}, RF K lo w0.heap.size o n ls v w → v.ownBlock = some g → g < w.heap.size ∧ (w0.heap.size ≤ g ∨ o = some g) := fun {o n ls v w g} h hg => by
    obtain ⟨⟨A, c, rfl, h, ho⟩, _⟩ := h
    rw [blk_own] at hg
    exact ⟨(h.lt hg).2, ho g hg⟩
  refine ⟨fun i k Φ pi pk hik hk u v w hh hu hv g hg hg2 => ?_, fun i w w' hs hr => ?_, fun i w w' hr => ?_, fun h => (by cases h), fun i k Φ hik hk v w w' hv hr => ?_⟩
  · have hi : i = 4 ∨ i = 9 := by simpa [sh37] using pi
    have hk' : k = 4 ∨ k = 9 := by simpa [sh37] using pk
    have hu' := hu g hg
    rw [old] at hu'
    rcases T37.fact hk with ⟨rfl, rfl⟩ | ⟨rfl, rfl⟩ | ⟨rfl, rfl⟩ | ⟨rfl, rfl⟩ | ⟨ls, rfl⟩
    · omega
    · obtain ⟨h1, h2⟩ := lt hv hg2
      obtain rfl : i = 9 := by omega
      rcases hu' with h | h
      · omega
      · have h' : b = some g := by simpa using h
        rcases h2 with h2 | h2
        · have := (hb g h').2; omega
        · exact hab g h2 h'
    · omega
    · obtain ⟨h1, h2⟩ := lt hv hg2
      obtain rfl : i = 4 := by omega
      rcases hu' with h | h
      · omega
      · have h' : a = some g := by simpa using h
        rcases h2 with h2 | h2
        · have := (ha g h').2; omega
        · exact hab g h' h2
    · obtain ⟨h1, h2⟩ := lt hv hg2
      rcases hu' with h | h
      · omega
      · rcases h2 with h2 | h2
        · have h' : a = some g ∨ b = some g := by
            rcases hi with rfl | rfl
            · exact .inl (by simpa using h)
            · exact .inr (by simpa using h)
          rcases h' with h' | h'
          · have := (ha g h').2; omega
          · have := (hb g h').2; omega
        · cases h2
  · unfold R37 at hr
    split at hr
    · exact hs.grown hr.1 (.inr (.inl rfl))
    · split at hr
      · exact hs.grown hr.1 (.inr (.inr rfl))
      · exact hs.grown hr (.inl rfl)
  · unfold R37 at hr
    split at hr
    · exact hr.1.size
    · split at hr
      · exact hr.1.size
      · exact hr.size
  · have ra : ∀ g, a = some g → lo ≤ g ∧ g < w0.heap.size ∧ (none : Option Nat) ≠ some g := fun g e => ⟨(ha g e).1, (ha g e).2, by simp⟩
    have rb : ∀ g, b = some g → lo ≤ g ∧ g < w0.heap.size ∧ (none : Option Nat) ≠ some g := fun g e => ⟨(hb g e).1, (hb g e).2, by simp⟩
    have rab : ∀ g, a = some g → lo ≤ g ∧ g < w0.heap.size ∧ b ≠ some g := fun g e => ⟨(ha g e).1, (ha g e).2, hab g e⟩
    have rba : ∀ g, b = some g → lo ≤ g ∧ g < w0.heap.size ∧ a ≠ some g := fun g e => ⟨(hb g e).1, (hb g e).2, fun e2 => hab g e2 e⟩
    unfold R37 at hr
    split at hr
    · rename_i hi
      rcases T37.fact hk with ⟨rfl, rfl⟩ | ⟨rfl, rfl⟩ | ⟨rfl, rfl⟩ | ⟨rfl, rfl⟩ | ⟨ls, rfl⟩
      · exact hr.2 v hv
      · exact absurd hi hik
      · exact RF.grown hv hr.1 rab hK
      · exact RF.grown hv hr.1 rab hK
      · exact RF.grown hv hr.1 ra hK
    · split at hr
      · rename_i hi
        rcases T37.fact hk with ⟨rfl, rfl⟩ | ⟨rfl, rfl⟩ | ⟨rfl, rfl⟩ | ⟨rfl, rfl⟩ | ⟨ls, rfl⟩
        · exact RF.grown hv hr.1 rba hK
        · exact RF.grown hv hr.1 rba hK
        · exact hr.2 v hv
        · exact absurd hi hik
        · exact RF.grown hv hr.1 rb hK
      · rcases T37.fact hk with ⟨rfl, rfl⟩ | ⟨rfl, rfl⟩ | ⟨rfl, rfl⟩ | ⟨rfl, rfl⟩ | ⟨ls, rfl⟩ <;> exact RF.grown hv hr (fun g e => by cases e) hK
/-- A literal of one text. -/
theorem RF.lit {K lo h0 : Nat} {w : World} {b : Value} {l : List UInt8} (hb : Bd w K b l) (hh : h0 ≤ w.heap.size) (hlo : lo ≤ h0) (hK : K ≤ lo) : RF K lo h0 none 1 [l] (.slice (some ⟨w.heap.size, 0, none⟩) 1 1) (w.alloc (.cells #[b] 26)) := by
  refine ⟨⟨_, 1, rfl, ⟨rfl, Nat.le_refl _, by omega, [b], rfl, fun i l' b' hl hb' => ?_, .inr ⟨_, #[b], rfl, by omega, heap_alloc_new w _, Nat.le_refl _, rfl⟩⟩, fun g e => .inl ?_⟩, by simp; omega⟩
  rotate_left
  · have e2 : w.heap.size = g := by simpa [blk] using e
    omega
  obtain rfl : i = 0 := by
    rcases Nat.lt_or_ge i 1 with h | h
    · omega
    · rw [List.getElem?_eq_none (by simpa using h)] at hl; cases hl
  obtain rfl : l = l' := by simpa using hl
  obtain rfl : b = b' := by simpa using hb'
  exact hb.keep fun p hp => World.cell?_of_block (heap_alloc_old w _ (by omega : p.block < w.heap.size))
theorem grown_alloc (w : World) (o : Obj) : w.grownBy (w.alloc o) none := ⟨rfl, rfl, rfl, by simp, fun k hk _ => heap_alloc_old w o hk⟩
end Go.Proofs.Ytpoilndlfbmhgaa
