/-
  The walks of RowKey, UniqueKey, CatKey, Rows, Cats, of cell and of chanceryref18. Conditions: the texts' lengths are ints.
-/
import Derived.Test.YtccapkkaeljnfaaRowKey
import Derived.Laws.OwnMore
namespace Go.Proofs.Ytccapkkaeljnfaa
open Go.RowKit

theorem place_at (x : Int) (letter : UInt8) (hx : x = (letter.toNat : Int)) (t : Int) (Ak : Option Addr) (nk ck : Nat) (kd : List UInt8) (An : Option Addr) (m cn : Nat) (ns : List ByteArray) (w : World) (hkd : Rb w w.heap.size Ak nk kd) (hkn : nk ≤ 1) (hn : Rt w w.heap.size An m ns) (hm : m ≤ 2) :
    Calls Try.prog 42 #[.int .u8 x, .int .i64 t, .slice Ak nk ck, .slice An m cn] w (BE w (Cell.place letter t kd (ns.map (·.data.toList)))) := by
  subst hx
  exact place_any letter t Ak nk ck kd An m cn ns w hkd hkn hn hm
theorem refPlace_at (x : Int) (letter : UInt8) (hx : x = (letter.toNat : Int)) (t : Int) (An : Option Addr) (m cn : Nat) (ns : List ByteArray) (w : World) (hn : Rt w w.heap.size An m ns) (hm : m ≤ 2) :
    Calls Try.prog 44 #[.int .u8 x, .int .i64 t, .slice An m cn] w (BE w (Cell.place letter t [] (ns.map (·.data.toList)))) := by
  subst hx
  exact refPlace_any letter t An m cn ns w hn hm
theorem Rt.lit (w : World) (t : TypeId) (ns : List ByteArray) (h : ∀ s ∈ ns, s.size ≤ maxLen) : Rt (w.alloc (.cells (ns.map Value.string).toArray t)) (w.alloc (.cells (ns.map Value.string).toArray t)).heap.size (some ⟨w.heap.size, 0, none⟩) ns.length ns := by
  refine ⟨?_, h⟩
  have := Rd.lit w t (ns.map Value.string)
  rw [List.length_map] at this
  rw [World.size_alloc]
  exact this
theorem Rt.litAt (w : World) (t : TypeId) (ns : List ByteArray) (h : ∀ s ∈ ns, s.size ≤ maxLen) (g : Nat) (hg : g = w.heap.size) : Rt (w.alloc (.cells (ns.map Value.string).toArray t)) (w.alloc (.cells (ns.map Value.string).toArray t)).heap.size (some ⟨g, 0, none⟩) ns.length ns := by
  subst hg
  exact Rt.lit w t ns h
theorem Rt.nil (w : World) (B : Nat) (A : Option Addr) : Rt w B A 0 [] := ⟨Rd.nil, by simp⟩

/-- Two lists of bytes of the call's own, and an error's number. -/
def BBE (w : World) (r : Nat × List UInt8 × List UInt8) (e : Ending) (w' : World) : Prop :=
  ∃ A c A' c', e = .returned (.tuple #[.slice A r.2.1.length c, .slice A' r.2.2.length c', .int .i64 (r.1 : Int)]) ∧ w'.ownsRow w.heap.size 5 1 (.slice A r.2.1.length c) r.2.1.length (r.2.1.map B8) ∧ w'.ownsRow w.heap.size 5 1 (.slice A' r.2.2.length c') r.2.2.length (r.2.2.map B8) ∧ Below w.heap.size w w'
theorem BBE.err {w w' : World} {r : Nat × List UInt8 × List UInt8} (n : Nat) (h : r = (n, [], [])) (hb : Below w.heap.size w w') : BBE w r (.returned (.tuple #[.slice none 0 0, .slice none 0 0, .int .i64 (n : Int)])) w' := by
  subst h
  exact ⟨none, 0, none, 0, rfl, own_nil _ _ _ _, own_nil _ _ _ _, hb⟩
theorem BBE.ok {w w' : World} {r : Nat × List UInt8 × List UInt8} {A A' : Option Addr} {m c m' c' : Nat} {l l' : List UInt8} (h : r = (0, l, l')) (hm : m = l.length) (hm' : m' = l'.length) (ho : w'.ownsRow w.heap.size 5 1 (.slice A m c) m (l.map B8)) (ho' : w'.ownsRow w.heap.size 5 1 (.slice A' m' c') m' (l'.map B8)) (hb : Below w.heap.size w w') : BBE w r (.returned (.tuple #[.slice A m c, .slice A' m' c', .int .i64 0])) w' := by
  subst h hm hm'
  exact ⟨A, c, A', c', rfl, ho, ho', hb⟩

set_option maxHeartbeats 800000 in
theorem rowKey_any (t : Int) (tbl : ByteArray) (k : UInt8) (n : Int) (s : ByteArray) (w : World) (htbl : tbl.size ≤ maxLen) :
    Calls Try.prog 21 #[.int .i64 t, .string tbl, .agg #[.int .u8 (k.toNat : Int), .int .i64 n, .string s]] w (BE w (Cell.rowKey t tbl.data.toList ⟨k, n, s⟩)) := by
  have HNS : Hid (∀ x ∈ ([tbl] : List ByteArray), x.size ≤ maxLen) := by intro x hx; simp at hx; subst hx; assumption
  have HRt := hide (fun (w : World) (g : Nat) (hg : g = w.heap.size) => Rt.litAt w 9 [tbl] HNS.out g hg)
  have HPl := hide (Cell.place_len 114 t [] [tbl.data.toList])
  obtain ⟨p, hp⟩ : ∃ p, p = Cell.place 114 t [] [tbl.data.toList] := ⟨_, rfl⟩
  have HP : Hid (Cell.rowKey t tbl.data.toList ⟨k, n, s⟩ = Cell.joinKey p ⟨k, n, s⟩) := by show _ = _; rw [hp]; rfl
  have HPd := hide hp
  rw [← hp] at HPl
  clear hp
  go_enter Try.func21, Try.ntmps21
  go_wp2_with fail
  refine (place_at _ 114 rfl t _ 0 0 [] _ 1 1 [tbl] _ Rb.nil (by omega) (HRt.out _ _ (by simp)) (by omega)).mono ?_
  intro e w1 hpost
  obtain ⟨A1, c1, rfl, hown1, hb1⟩ := hpost.form
  clear hpost
  simp only [List.map_cons, List.map_nil, ← HPd.out] at hown1 ⊢
  have HO1 := hide (own_base hown1 (show w.heap.size + 1 ≤ _ by simp))
  have HB1 := hide ((((Below.refl w.heap.size w).alloc (Nat.le_refl _) (.cells #[.int .u8 (k.toNat : Int), .int .i64 n, .string s] 36)).alloc (by simp) (.cells ([tbl].map Value.string).toArray 9)).trans (hb1.mono (by simp; omega)))
  have hz1 : w.heap.size + 2 ≤ w1.heap.size := by have := hb1.size; simp at this; omega
  have hz1' : w.heap.size < w1.heap.size := by omega
  have hc0 := hb1.cell (p := ⟨w.heap.size, 0, none⟩) (by simp; omega)
  have hc1 := hb1.cell (p := ⟨w.heap.size, 1, none⟩) (by simp; omega)
  have hc2 := hb1.cell (p := ⟨w.heap.size, 2, none⟩) (by simp; omega)
  clear hown1 hb1
  simp [go_sem] at hc0 hc1 hc2
  obtain ⟨p1, p2⟩ := p
  have hpl : p2.length ≤ 52 := by have := HPl.out; simp at this; omega
  go_wp2_with fail
  refine (with_any (w.heap.size + 1) A1 p2.length c1 (p1, p2) k n s _ rfl HO1.out (by omega) (by omega)).mono ?_
  intro e w2 hpost
  obtain ⟨A2, c2, rfl, hown2, hb2⟩ := hpost.form
  have HO2 := hide hown2
  have HB2 := hide hb2
  clear hown2 hb2 hpost
  rw [← HP.out] at HO2 ⊢
  go_wp2_with fail
  go_ret2
  exact ⟨_, rfl, own_base HO2.out (by omega), HB1.out.trans (HB2.out.mono (by omega))⟩

set_option maxHeartbeats 800000 in
theorem uniqueKey_any (t : Int) (tbl col : ByteArray) (k : UInt8) (n : Int) (s : ByteArray) (w : World) (htbl : tbl.size ≤ maxLen) (hcol : col.size ≤ maxLen) :
    Calls Try.prog 23 #[.int .i64 t, .string tbl, .string col, .agg #[.int .u8 (k.toNat : Int), .int .i64 n, .string s]] w (BE w (Cell.uniqueKey t tbl.data.toList col.data.toList ⟨k, n, s⟩)) := by
  have HNS : Hid (∀ x ∈ ([tbl, col] : List ByteArray), x.size ≤ maxLen) := by intro x hx; simp at hx; rcases hx with rfl | rfl <;> assumption
  have HRt := hide (fun (w : World) (g : Nat) (hg : g = w.heap.size) => Rt.litAt w 9 [tbl, col] HNS.out g hg)
  have HPl := hide (Cell.place_len 117 t [] [tbl.data.toList, col.data.toList])
  obtain ⟨p, hp⟩ : ∃ p, p = Cell.place 117 t [] [tbl.data.toList, col.data.toList] := ⟨_, rfl⟩
  have HP : Hid (Cell.uniqueKey t tbl.data.toList col.data.toList ⟨k, n, s⟩ = Cell.joinKey p ⟨k, n, s⟩) := by show _ = _; rw [hp]; rfl
  have HPd := hide hp
  rw [← hp] at HPl
  clear hp
  go_enter Try.func23, Try.ntmps23
  go_wp2_with fail
  refine (place_at _ 117 rfl t _ 0 0 [] _ 2 2 [tbl, col] _ Rb.nil (by omega) (HRt.out _ _ (by simp)) (by omega)).mono ?_
  intro e w1 hpost
  obtain ⟨A1, c1, rfl, hown1, hb1⟩ := hpost.form
  clear hpost
  simp only [List.map_cons, List.map_nil, ← HPd.out] at hown1 ⊢
  have HO1 := hide (own_base hown1 (show w.heap.size + 1 ≤ _ by simp))
  have HB1 := hide ((((Below.refl w.heap.size w).alloc (Nat.le_refl _) (.cells #[.int .u8 (k.toNat : Int), .int .i64 n, .string s] 36)).alloc (by simp) (.cells ([tbl, col].map Value.string).toArray 9)).trans (hb1.mono (by simp; omega)))
  have hz1 : w.heap.size + 2 ≤ w1.heap.size := by have := hb1.size; simp at this; omega
  have hz1' : w.heap.size < w1.heap.size := by omega
  have hc0 := hb1.cell (p := ⟨w.heap.size, 0, none⟩) (by simp; omega)
  have hc1 := hb1.cell (p := ⟨w.heap.size, 1, none⟩) (by simp; omega)
  have hc2 := hb1.cell (p := ⟨w.heap.size, 2, none⟩) (by simp; omega)
  clear hown1 hb1
  simp [go_sem] at hc0 hc1 hc2
  obtain ⟨p1, p2⟩ := p
  have hpl : p2.length ≤ 52 := by have := HPl.out; simp at this; omega
  go_wp2_with fail
  refine (with_any (w.heap.size + 1) A1 p2.length c1 (p1, p2) k n s _ rfl HO1.out (by omega) (by omega)).mono ?_
  intro e w2 hpost
  obtain ⟨A2, c2, rfl, hown2, hb2⟩ := hpost.form
  have HO2 := hide hown2
  have HB2 := hide hb2
  clear hown2 hb2 hpost
  rw [← HP.out] at HO2 ⊢
  go_wp2_with fail
  go_ret2
  exact ⟨_, rfl, own_base HO2.out (by omega), HB1.out.trans (HB2.out.mono (by omega))⟩

set_option maxHeartbeats 800000 in
theorem refRowKey_any (t : Int) (tbl : ByteArray) (k : UInt8) (n : Int) (s : ByteArray) (w : World) (htbl : tbl.size ≤ maxLen) :
    Calls Try.prog 22 #[.int .i64 t, .string tbl, .agg #[.int .u8 (k.toNat : Int), .int .i64 n, .string s]] w (BE w (Cell.rowKey t tbl.data.toList ⟨k, n, s⟩)) := by
  have HNS : Hid (∀ x ∈ ([tbl] : List ByteArray), x.size ≤ maxLen) := by intro x hx; simp at hx; subst hx; assumption
  have HRt := hide (fun (w : World) (g : Nat) (hg : g = w.heap.size) => Rt.litAt w 9 [tbl] HNS.out g hg)
  have HPl := hide (Cell.place_len 114 t [] [tbl.data.toList])
  obtain ⟨p, hp⟩ : ∃ p, p = Cell.place 114 t [] [tbl.data.toList] := ⟨_, rfl⟩
  have HP : Hid (Cell.rowKey t tbl.data.toList ⟨k, n, s⟩ = Cell.joinKey p ⟨k, n, s⟩) := by show _ = _; rw [hp]; rfl
  have HPd := hide hp
  rw [← hp] at HPl
  clear hp
  go_enter Try.func22, Try.ntmps22
  go_wp2_with fail
  refine (refPlace_at _ 114 rfl t _ 1 1 [tbl] _ (HRt.out _ _ (by simp)) (by omega)).mono ?_
  intro e w1 hpost
  obtain ⟨A1, c1, rfl, hown1, hb1⟩ := hpost.form
  clear hpost
  simp only [List.map_cons, List.map_nil, ← HPd.out] at hown1 ⊢
  have HO1 := hide (own_base hown1 (show w.heap.size + 1 ≤ _ by simp))
  have HB1 := hide ((((Below.refl w.heap.size w).alloc (Nat.le_refl _) (.cells #[.int .u8 (k.toNat : Int), .int .i64 n, .string s] 36)).alloc (by simp) (.cells ([tbl].map Value.string).toArray 9)).trans (hb1.mono (by simp; omega)))
  have hz1 : w.heap.size + 2 ≤ w1.heap.size := by have := hb1.size; simp at this; omega
  have hz1' : w.heap.size < w1.heap.size := by omega
  have hc0 := hb1.cell (p := ⟨w.heap.size, 0, none⟩) (by simp; omega)
  have hc1 := hb1.cell (p := ⟨w.heap.size, 1, none⟩) (by simp; omega)
  have hc2 := hb1.cell (p := ⟨w.heap.size, 2, none⟩) (by simp; omega)
  clear hown1 hb1
  simp [go_sem] at hc0 hc1 hc2
  obtain ⟨p1, p2⟩ := p
  have hpl : p2.length ≤ 52 := by have := HPl.out; simp at this; omega
  by_cases h0 : p1 = 0
  · subst h0
    go_wp2_with fail
    refine (behind_any (w.heap.size + 1) A1 p2.length c1 p2 k n s _ rfl HO1.out (by omega) (by omega)).mono ?_
    intro e w2 hpost
    obtain ⟨A2, c2, rfl, hown2, hb2⟩ := hpost.form
    have HO2 := hide hown2
    have HB2 := hide hb2
    clear hown2 hb2 hpost
    rw [← HP.out] at HO2 ⊢
    go_wp2_with fail
    go_ret2
    exact ⟨_, rfl, own_base HO2.out (by omega), HB1.out.trans (HB2.out.mono (by omega))⟩
  · have HQ := hide (HP.out.trans (Cell.joinKey_no h0))
    have t1 : ((p1 : Int) != 0) = true := by simp; exact h0
    clear h0
    go_wp2_with fail
    go_ret2
    exact BE.err p1 HQ.out HB1.out

set_option maxHeartbeats 800000 in
theorem refUniqueKey_any (t : Int) (tbl col : ByteArray) (k : UInt8) (n : Int) (s : ByteArray) (w : World) (htbl : tbl.size ≤ maxLen) (hcol : col.size ≤ maxLen) :
    Calls Try.prog 24 #[.int .i64 t, .string tbl, .string col, .agg #[.int .u8 (k.toNat : Int), .int .i64 n, .string s]] w (BE w (Cell.uniqueKey t tbl.data.toList col.data.toList ⟨k, n, s⟩)) := by
  have HNS : Hid (∀ x ∈ ([tbl, col] : List ByteArray), x.size ≤ maxLen) := by intro x hx; simp at hx; rcases hx with rfl | rfl <;> assumption
  have HRt := hide (fun (w : World) (g : Nat) (hg : g = w.heap.size) => Rt.litAt w 9 [tbl, col] HNS.out g hg)
  have HPl := hide (Cell.place_len 117 t [] [tbl.data.toList, col.data.toList])
  obtain ⟨p, hp⟩ : ∃ p, p = Cell.place 117 t [] [tbl.data.toList, col.data.toList] := ⟨_, rfl⟩
  have HP : Hid (Cell.uniqueKey t tbl.data.toList col.data.toList ⟨k, n, s⟩ = Cell.joinKey p ⟨k, n, s⟩) := by show _ = _; rw [hp]; rfl
  have HPd := hide hp
  rw [← hp] at HPl
  clear hp
  go_enter Try.func24, Try.ntmps24
  go_wp2_with fail
  refine (refPlace_at _ 117 rfl t _ 2 2 [tbl, col] _ (HRt.out _ _ (by simp)) (by omega)).mono ?_
  intro e w1 hpost
  obtain ⟨A1, c1, rfl, hown1, hb1⟩ := hpost.form
  clear hpost
  simp only [List.map_cons, List.map_nil, ← HPd.out] at hown1 ⊢
  have HO1 := hide (own_base hown1 (show w.heap.size + 1 ≤ _ by simp))
  have HB1 := hide ((((Below.refl w.heap.size w).alloc (Nat.le_refl _) (.cells #[.int .u8 (k.toNat : Int), .int .i64 n, .string s] 36)).alloc (by simp) (.cells ([tbl, col].map Value.string).toArray 9)).trans (hb1.mono (by simp; omega)))
  have hz1 : w.heap.size + 2 ≤ w1.heap.size := by have := hb1.size; simp at this; omega
  have hz1' : w.heap.size < w1.heap.size := by omega
  have hc0 := hb1.cell (p := ⟨w.heap.size, 0, none⟩) (by simp; omega)
  have hc1 := hb1.cell (p := ⟨w.heap.size, 1, none⟩) (by simp; omega)
  have hc2 := hb1.cell (p := ⟨w.heap.size, 2, none⟩) (by simp; omega)
  clear hown1 hb1
  simp [go_sem] at hc0 hc1 hc2
  obtain ⟨p1, p2⟩ := p
  have hpl : p2.length ≤ 52 := by have := HPl.out; simp at this; omega
  by_cases h0 : p1 = 0
  · subst h0
    go_wp2_with fail
    refine (behind_any (w.heap.size + 1) A1 p2.length c1 p2 k n s _ rfl HO1.out (by omega) (by omega)).mono ?_
    intro e w2 hpost
    obtain ⟨A2, c2, rfl, hown2, hb2⟩ := hpost.form
    have HO2 := hide hown2
    have HB2 := hide hb2
    clear hown2 hb2 hpost
    rw [← HP.out] at HO2 ⊢
    go_wp2_with fail
    go_ret2
    exact ⟨_, rfl, own_base HO2.out (by omega), HB1.out.trans (HB2.out.mono (by omega))⟩
  · have HQ := hide (HP.out.trans (Cell.joinKey_no h0))
    have t1 : ((p1 : Int) != 0) = true := by simp; exact h0
    clear h0
    go_wp2_with fail
    go_ret2
    exact BE.err p1 HQ.out HB1.out

set_option maxHeartbeats 800000 in
theorem catKey_any (t : Int) (kd : UInt8) (name : ByteArray) (w : World) (hname : name.size ≤ maxLen) :
    Calls Try.prog 25 #[.int .i64 t, .int .u8 (kd.toNat : Int), .string name] w (BE w (Cell.catKey t kd name.data.toList)) := by
  have HNS : Hid (∀ x ∈ ([name] : List ByteArray), x.size ≤ maxLen) := by intro x hx; simp at hx; subst hx; assumption
  have HRt := hide (fun (w : World) (g : Nat) (hg : g = w.heap.size) => Rt.litAt w 9 [name] HNS.out g hg)
  have HKd := hide (fun (o : Obj) => (Rb.lit w 5 [kd]).below ((Below.refl _ _).alloc (Nat.le_refl _) o) (Nat.le_refl _))
  have HP : Hid (Cell.place 99 t [kd] [name.data.toList] = Cell.catKey t kd name.data.toList) := rfl
  go_enter Try.func25, Try.ntmps25
  go_wp2_with fail
  refine (place_at _ 99 rfl t _ 1 1 [kd] _ 1 1 [name] _ ((HKd.out _).more (by simp)) (by omega) (HRt.out _ _ (by simp)) (by omega)).mono ?_
  intro e w1 hpost
  obtain ⟨A1, c1, rfl, hown1, hb1⟩ := hpost.form
  clear hpost
  simp only [List.map_cons, List.map_nil, HP.out] at hown1 ⊢
  have HO1 := hide (own_base hown1 (show w.heap.size ≤ _ by simp; omega))
  have HB1 := hide ((((Below.refl w.heap.size w).alloc (Nat.le_refl _) (.cells #[.int .u8 (kd.toNat : Int)] 5)).alloc (by simp) (.cells ([name].map Value.string).toArray 9)).trans (hb1.mono (by simp; omega)))
  clear hown1 hb1
  go_wp2_with fail
  go_ret2
  exact ⟨_, rfl, HO1.out, HB1.out⟩

set_option maxHeartbeats 800000 in
theorem refCatKey_any (t : Int) (kd : UInt8) (name : ByteArray) (w : World) (hname : name.size ≤ maxLen) :
    Calls Try.prog 26 #[.int .i64 t, .int .u8 (kd.toNat : Int), .string name] w (BE w (Cell.catKey t kd name.data.toList)) := by
  by_cases ht : t < 0 ∨ 4 ≤ t
  · have HP := hide (Cell.catKey_far (kind := kd) (name := name.data.toList) ht)
    by_cases h0 : t < 0
    · have t1 : decide (t < 0) = true := decide_eq_true h0
      clear ht
      go_enter Try.func26, Try.ntmps26
      go_wp2_with fail
      go_ret2
      exact BE.err 2 HP.out (Below.refl _ _)
    · have t1 : decide (t < 0) = false := decide_eq_false h0
      have u2 : (3 : Int) < t := by omega
      have t2 : decide ((3 : Int) < t) = true := decide_eq_true u2
      clear ht
      go_enter Try.func26, Try.ntmps26
      go_wp2_with fail
      go_ret2
      exact BE.err 2 HP.out (Below.refl _ _)
  · have HT := hide ht
    obtain ⟨T, hT⟩ : ∃ T : Nat, t = (T : Int) := ⟨t.toNat, by omega⟩
    subst hT
    have hT4 : T < 4 := by omega
    have u1 : ¬ ((T : Int) < 0) := by omega
    have t1 : decide ((T : Int) < 0) = false := decide_eq_false u1
    have u2 : ¬ ((3 : Int) < (T : Int)) := by omega
    have t2 : decide ((3 : Int) < (T : Int)) = false := decide_eq_false u2
    clear ht
    have HC : Hid (#[Value.int .u8 99, Value.int .u8 (T : Int), Value.int .u8 (kd.toNat : Int)] = ([99, Cell.byteOf (T : Int).toNat, kd].map B8).toArray) := by
      show _ = _
      rw [show (T : Int).toNat = T from rfl, byte_of T (T : Int) (by omega)]
      rfl
    have HLit := hide (own_lit w 5 [99, Cell.byteOf (T : Int).toNat, kd] 3 rfl (by unfold maxLen; omega))
    rw [← HC.out] at HLit
    go_enter Try.func26, Try.ntmps26
    go_wp2_with fail
    refine (refName_any name _ hname).mono ?_
    rintro e w' ⟨rfl, rfl⟩
    cases hnm : Cell.nameB name.data.toList with
    | false =>
      have HP := hide (Cell.catKey_bad (kind := kd) HT.out hnm)
      clear hnm
      go_wp2_with fail
      go_ret2
      exact BE.err 2 HP.out (Below.refl _ _)
    | true =>
      have hs24 : name.size ≤ 24 := by have := Cell.nameB_le hnm; rwa [str_len] at this
      have HP := hide (Cell.catKey_ok (kind := kd) HT.out hnm)
      clear hnm
      go_wp2_with (first | (at_builtin; refine wpList_appS _ bt Try.underlying9 rfl (.tmp 24) (.tmp 25) rfl w.heap.size _ 3 _ rfl HLit.out name rfl (by omega) (by simp) ?_; intro v3 w3 hown3 hb3 _; have HO3 := hide hown3; have HB3 := hide (((Below.refl w.heap.size w).alloc (Nat.le_refl _) _).trans hb3); have hz3 := HB3.out.size; clear hown3 hb3) | (at_builtin; refine wpList_appL bt rfl (.tmp 27) (.tmp 28) rfl w.heap.size _ (3 + name.size) _ rfl HO3.out _ 1 1 [0] rfl rfl rfl rfl (by omega) hz3 ?_; intro v4 w4 hown4 hb4 _; have HO4 := hide hown4; have HB4 := hide (HB3.out.trans hb4); clear hown4 hb4; obtain ⟨A4, c4, rfl⟩ := own_sl HO4.out))
      go_ret2
      exact BE.mk' HP.out (by simp; omega) HO4.out HB4.out

set_option maxHeartbeats 800000 in
theorem rows_any (t : Int) (tbl : ByteArray) (w : World) (htbl : tbl.size ≤ maxLen) :
    Calls Try.prog 27 #[.int .i64 t, .string tbl] w (BBE w (Cell.rowsOf t tbl.data.toList)) := by
  have HNS : Hid (∀ x ∈ ([tbl] : List ByteArray), x.size ≤ maxLen) := by intro x hx; simp at hx; subst hx; assumption
  have HRt := hide (fun (w : World) (g : Nat) (hg : g = w.heap.size) => Rt.litAt w 9 [tbl] HNS.out g hg)
  have HPl := hide (Cell.place_len 114 t [] [tbl.data.toList])
  have HPp := hide (fun h => Cell.place_pos (letter := 114) (t := t) (kind := []) (ns := [tbl.data.toList]) h)
  obtain ⟨p, hp⟩ : ∃ p, p = Cell.place 114 t [] [tbl.data.toList] := ⟨_, rfl⟩
  have HP : Hid (Cell.rowsOf t tbl.data.toList = if p.1 ≠ 0 then (p.1, [], []) else (0, p.2, Cell.upper p.2)) := by show _ = _; rw [hp]; rfl
  have HPd := hide hp
  rw [← hp] at HPl HPp
  clear hp
  go_enter Try.func27, Try.ntmps27
  go_wp2_with fail
  refine (place_at _ 114 rfl t _ 0 0 [] _ 1 1 [tbl] _ Rb.nil (by omega) (HRt.out _ _ (by simp)) (by omega)).mono ?_
  intro e w1 hpost
  obtain ⟨A1, c1, rfl, hown1, hb1⟩ := hpost.form
  clear hpost
  simp only [List.map_cons, List.map_nil, ← HPd.out] at hown1 ⊢
  have HO1 := hide (own_base hown1 (show w.heap.size ≤ _ by simp))
  have HB1 := hide (((Below.refl w.heap.size w).alloc (Nat.le_refl _) (.cells ([tbl].map Value.string).toArray 9)).trans (hb1.mono (by simp)))
  have hz1 := HB1.out.size
  clear hown1 hb1
  obtain ⟨p1, p2⟩ := p
  have hpl : p2.length ≤ 52 := by have := HPl.out; simp at this; omega
  by_cases h0 : p1 = 0
  · subst h0
    have hp2 : 2 ≤ p2.length := HPp.out rfl
    have HQ : Hid (Cell.rowsOf t tbl.data.toList = (0, p2, Cell.upper p2)) := HP.out.trans (if_neg (by simp))
    have HR1 := hide (Rb.own HO1.out)
    have hlI : (1 : Int) ≤ (p2.length : Int) := by omega
    go_wp2_with (at_builtin; refine wpList_app _ bt rfl (.const (.slice none 0 0)) (.tmp 20) rfl w1.heap.size _ 0 [] rfl (own_nil _ _ _ _) _ A1 p2.length c1 p2 rfl HR1.out (by omega) (Nat.le_refl _) ?_; intro v4 w4 hown4 hb4 _; rw [Nat.zero_add, List.nil_append] at hown4; obtain ⟨g, cap, rfl, hg1, hg2, hg3, hg4⟩ := own_pos hown4 (by omega); have HO4 := hide hown4; have HB4 := hide hb4; have hcl := hown4.cellAt (p2.length - 1) (by omega); have hfr := hown4.frozenAt (p2.length - 1); obtain ⟨c0, hc0⟩ : ∃ c0, (p2.map B8)[p2.length - 1]? = some (.int .u8 c0) := ⟨_, by rw [List.getElem?_map, List.getElem?_eq_getElem (show p2.length - 1 < p2.length by omega)]; rfl⟩; rw [hc0] at hcl; clear hown4 hb4 hc0)
    go_ret3
    obtain ⟨ho5, hg5⟩ := HO4.out.stored (p2.length - 1) (.int .u8 1)
    refine BBE.ok HQ.out rfl (m' := p2.length) (by rw [← Cell.upper_set p2 (by omega), List.length_set]) ?_ ?_ ?_
    · exact own_agree HO1.out fun k hk => by have := (HO1.out.lt k hk).2; exact (Below.heap_setCell _ _ _ _ (by show k ≠ g; omega)).trans (HB4.out.block k this)
    · rw [← Cell.upper_set p2 (by omega), List.map_set]
      exact own_base ho5 hz1
    · exact HB1.out.trans ((HB4.out.mono hz1).trans ((Below.refl _ _).setCell (by show w.heap.size ≤ g; omega) _))
  · have HQ : Hid (Cell.rowsOf t tbl.data.toList = (p1, [], [])) := HP.out.trans (if_pos h0)
    have t1 : ((p1 : Int) != 0) = true := by simp; exact h0
    clear h0
    go_wp2_with fail
    go_ret3
    exact BBE.err p1 HQ.out HB1.out

set_option maxHeartbeats 800000 in
theorem refRows_any (t : Int) (tbl : ByteArray) (w : World) (htbl : tbl.size ≤ maxLen) :
    Calls Try.prog 28 #[.int .i64 t, .string tbl] w (BBE w (Cell.rowsOf t tbl.data.toList)) := by
  have HNS : Hid (∀ x ∈ ([tbl] : List ByteArray), x.size ≤ maxLen) := by intro x hx; simp at hx; subst hx; assumption
  have HRt := hide (fun (w : World) (g : Nat) (hg : g = w.heap.size) => Rt.litAt w 9 [tbl] HNS.out g hg)
  have HPl := hide (Cell.place_len 114 t [] [tbl.data.toList])
  have HPp := hide (fun h => Cell.place_pos (letter := 114) (t := t) (kind := []) (ns := [tbl.data.toList]) h)
  obtain ⟨p, hp⟩ : ∃ p, p = Cell.place 114 t [] [tbl.data.toList] := ⟨_, rfl⟩
  have HP : Hid (Cell.rowsOf t tbl.data.toList = if p.1 ≠ 0 then (p.1, [], []) else (0, p.2, Cell.upper p.2)) := by show _ = _; rw [hp]; rfl
  have HPd := hide hp
  rw [← hp] at HPl HPp
  clear hp
  go_enter Try.func28, Try.ntmps28
  go_wp2_with fail
  refine (refPlace_at _ 114 rfl t _ 1 1 [tbl] _ (HRt.out _ _ (by simp)) (by omega)).mono ?_
  intro e w1 hpost
  obtain ⟨A1, c1, rfl, hown1, hb1⟩ := hpost.form
  clear hpost
  simp only [List.map_cons, List.map_nil, ← HPd.out] at hown1 ⊢
  have HO1 := hide (own_base hown1 (show w.heap.size ≤ _ by simp))
  have HB1 := hide (((Below.refl w.heap.size w).alloc (Nat.le_refl _) (.cells ([tbl].map Value.string).toArray 9)).trans (hb1.mono (by simp)))
  have hz1 := HB1.out.size
  clear hown1 hb1
  obtain ⟨p1, p2⟩ := p
  have hpl : p2.length ≤ 52 := by have := HPl.out; simp at this; omega
  by_cases h0 : p1 = 0
  · subst h0
    have hp2 : 2 ≤ p2.length := HPp.out rfl
    have HQ : Hid (Cell.rowsOf t tbl.data.toList = (0, p2, Cell.upper p2)) := HP.out.trans (if_neg (by simp))
    have HR1 := hide (Rb.own HO1.out)
    obtain ⟨A0, c0, hf0, _, hcap, hcm⟩ := own_form HO1.out
    injection hf0 with e1 _ e3
    subst e1 e3
    unfold maxLen at hcm
    have hcap' : p2.length ≤ c1 := hcap
    clear hcap
    have hlI : (1 : Int) ≤ (p2.length : Int) := by omega
    have hlJ : (p2.length : Int) ≤ (c1 : Int) := by omega
    have HR2 := hide (HR1.out.take (show p2.length - 1 ≤ p2.length by omega))
    have HU : Hid (p2.take (p2.length - 1) ++ [1] = Cell.upper p2) := by show _ = _; rw [Cell.upper, List.dropLast_eq_take]
    go_wp2_with (first | (at_builtin; refine wpList_app _ bt rfl (.tmp 20) (.tmp 25) rfl w1.heap.size _ 0 [] rfl (own_nil _ _ _ _) _ A1 (p2.length - 1) c1 (p2.take (p2.length - 1)) rfl HR2.out (by omega) (Nat.le_refl _) ?_; intro v4 w4 hown4 hb4 _; rw [Nat.zero_add, List.nil_append] at hown4; have HO4 := hide hown4; have HB4 := hide hb4; have hz4 := hb4.size; clear hown4 hb4) | (at_builtin; refine wpList_appL bt rfl (.tmp 28) (.tmp 29) rfl w1.heap.size _ (p2.length - 1) _ rfl HO4.out _ 1 1 [1] rfl rfl rfl rfl (by omega) hz4 ?_; intro v5 w5 hown5 hb5 _; have HO5 := hide hown5; have HB5 := hide (HB4.out.trans hb5); clear hown5 hb5; obtain ⟨A5, c5, rfl⟩ := own_sl HO5.out))
    go_ret3
    refine BBE.ok HQ.out rfl (m' := p2.length - 1 + 1) (by rw [← HU.out]; simp) ?_ ?_ ?_
    · exact own_below HO1.out HB5.out
    · rw [← HU.out]
      exact own_base HO5.out hz1
    · exact HB1.out.trans (HB5.out.mono hz1)
  · have HQ : Hid (Cell.rowsOf t tbl.data.toList = (p1, [], [])) := HP.out.trans (if_pos h0)
    have t1 : ((p1 : Int) != 0) = true := by simp; exact h0
    clear h0
    go_wp2_with fail
    go_ret3
    exact BBE.err p1 HQ.out HB1.out

set_option maxHeartbeats 800000 in
theorem cats_any (t : Int) (w : World) : Calls Try.prog 29 #[.int .i64 t] w (BBE w (Cell.catsOf t)) := by
  have HPn := hide (Cell.place_none t)
  go_enter Try.func29, Try.ntmps29
  go_wp2_with fail
  refine (place_at _ 99 rfl t _ 0 0 [] _ 0 0 [] _ Rb.nil (by omega) (Rt.nil _ _ _) (by omega)).mono ?_
  intro e w1 hpost
  rw [show List.map (·.data.toList) ([] : List ByteArray) = [] from rfl, HPn.out] at hpost
  by_cases ht : t < 0 ∨ 4 ≤ t
  · rw [if_pos ht] at hpost
    have HQ : Hid (Cell.catsOf t = (2, [], [])) := if_pos ht
    obtain ⟨A1, c1, rfl, hown1, hb1⟩ := hpost.form
    have HB1 := hide hb1
    clear hpost hown1 hb1 ht
    go_wp2_with fail
    go_ret3
    exact BBE.err 2 HQ.out HB1.out
  · rw [if_neg ht] at hpost
    obtain ⟨A1, c1, rfl, hown1, hb1⟩ := hpost.form
    have HQ : Hid (Cell.catsOf t = (0, [99, Cell.byteOf t.toNat], [99, Cell.byteOf (t + 1).toNat])) := if_neg ht
    obtain ⟨T, hT⟩ : ∃ T : Nat, t = (T : Int) := ⟨t.toNat, by omega⟩
    subst hT
    have hT4 : T < 4 := by omega
    have HB1 := hide hb1
    have HO1 := hide hown1
    have hz1 := hb1.size
    clear hpost hown1 hb1 ht
    have HC : Hid (#[Value.int .u8 99, Value.int .u8 ((T : Int) + 1)] = ([99, Cell.byteOf ((T : Int) + 1).toNat].map B8).toArray) := by
      show _ = _
      rw [show ((T : Int) + 1).toNat = T + 1 from rfl, byte_of (T + 1) ((T : Int) + 1) (by omega)]
      rfl
    have HLit := hide (own_lit w1 5 [99, Cell.byteOf ((T : Int) + 1).toNat] 2 rfl (by unfold maxLen; omega))
    rw [← HC.out] at HLit
    go_wp2_with fail
    go_ret3
    exact BBE.ok HQ.out rfl rfl (HO1.out.alloc _) (own_base HLit.out hz1) (HB1.out.alloc hz1 _)

set_option maxHeartbeats 800000 in
theorem refCats_any (t : Int) (w : World) : Calls Try.prog 30 #[.int .i64 t] w (BBE w (Cell.catsOf t)) := by
  by_cases ht : t < 0 ∨ 4 ≤ t
  · have HQ : Hid (Cell.catsOf t = (2, [], [])) := if_pos ht
    by_cases h0 : t < 0
    · have t1 : decide (t < 0) = true := decide_eq_true h0
      clear ht
      go_enter Try.func30, Try.ntmps30
      go_wp2_with fail
      go_ret3
      exact BBE.err 2 HQ.out (Below.refl _ _)
    · have t1 : decide (t < 0) = false := decide_eq_false h0
      have u2 : (3 : Int) < t := by omega
      have t2 : decide ((3 : Int) < t) = true := decide_eq_true u2
      clear ht
      go_enter Try.func30, Try.ntmps30
      go_wp2_with fail
      go_ret3
      exact BBE.err 2 HQ.out (Below.refl _ _)
  · have HQ : Hid (Cell.catsOf t = (0, [99, Cell.byteOf t.toNat], [99, Cell.byteOf (t + 1).toNat])) := if_neg ht
    obtain ⟨T, hT⟩ : ∃ T : Nat, t = (T : Int) := ⟨t.toNat, by omega⟩
    subst hT
    have hT4 : T < 4 := by omega
    have u1 : ¬ ((T : Int) < 0) := by omega
    have t1 : decide ((T : Int) < 0) = false := decide_eq_false u1
    have u2 : ¬ ((3 : Int) < (T : Int)) := by omega
    have t2 : decide ((3 : Int) < (T : Int)) = false := decide_eq_false u2
    clear ht
    have HC : Hid (#[Value.int .u8 99, Value.int .u8 (T : Int)] = ([99, Cell.byteOf (T : Int).toNat].map B8).toArray) := by
      show _ = _
      rw [show (T : Int).toNat = T from rfl, byte_of T (T : Int) (by omega)]
      rfl
    have HLit := hide (own_lit w 5 [99, Cell.byteOf (T : Int).toNat] 2 rfl (by unfold maxLen; omega))
    rw [← HC.out] at HLit
    have HC2 : Hid (#[Value.int .u8 99, Value.int .u8 ((T : Int) + 1)] = ([99, Cell.byteOf ((T : Int) + 1).toNat].map B8).toArray) := by
      show _ = _
      rw [show ((T : Int) + 1).toNat = T + 1 from rfl, byte_of (T + 1) ((T : Int) + 1) (by omega)]
      rfl
    have HLit2 := hide (fun o => own_lit (w.alloc o) 5 [99, Cell.byteOf ((T : Int) + 1).toNat] 2 rfl (by unfold maxLen; omega))
    rw [← HC2.out] at HLit2
    go_enter Try.func30, Try.ntmps30
    go_wp2_with fail
    go_ret3
    have h2 := HLit2.out (.cells #[Value.int .u8 99, Value.int .u8 (T : Int)] 5)
    rw [World.size_alloc] at h2
    exact BBE.ok HQ.out rfl rfl (HLit.out.alloc _) (own_base h2 (by omega)) (((Below.refl _ _).alloc (Nat.le_refl _) _).alloc (by simp) _)

end Go.Proofs.Ytccapkkaeljnfaa
