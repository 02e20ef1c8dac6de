/-
  The walk of wire.Read: it tells the answer whose frames these are. Conditions: at most 4000000 frames.
-/
import Derived.Test.YtnieenlnpnaamaaRows2
import Derived.Test.YtnieenlnpnaamaaWireAns
namespace Go.Proofs.Ytnieenlnpnaamaa
open Go.RowKit

theorem no_says_len {l : List Fr} (h : l = []) (a : Wire.Ans) : ¬ Wire.Says a l := fun hs => by
  obtain ⟨m, f, h1, _⟩ := hs.cand
  rw [h] at h1
  simp at h1
theorem no_says_four {l : List Fr} {m : Nat} {f : Fr} (hm : l.length = m + 1) (hf : l[m]? = some f) (h : f.2.length ≠ 4) (a : Wire.Ans) : ¬ Wire.Says a l := fun hs => by
  obtain ⟨m', f', h1, h2, h3, _⟩ := hs.cand
  obtain rfl : m' = m := by omega
  rw [hf] at h2
  injection h2 with h2
  subst h2
  exact h h3
theorem no_says_names {l : List Fr} {m : Nat} {g : Fr} (hm : l.length = m + 1) (h0 : 0 < m) (hg : l[0]? = some g) (h : Wire.namesOf g.2 = none) (a : Wire.Ans) : ¬ Wire.Says a l := fun hs => by
  obtain ⟨m', f', h1, h2, h3, h4, h5, h6, _⟩ := hs.cand
  obtain rfl : m' = m := by omega
  obtain ⟨g', hg', hn⟩ := h6 h0
  rw [hg] at hg'
  injection hg' with hg'
  subst hg'
  rw [h] at hn
  cases hn
theorem no_says_row {l : List Fr} {m j : Nat} {g : Fr} (hm : l.length = m + 1) (hg : ((l.take m).drop 1)[j]? = some g) (h : Cell.read g.2 = none) (a : Wire.Ans) : ¬ Wire.Says a l := fun hs => by
  obtain ⟨m', f', h1, h2, h3, h4, h5, h6, h7⟩ := hs.cand
  obtain rfl : m' = m := by omega
  rw [Wire.readRows_none hg h] at h7
  cases h7
/-- What Read has made of the frames, ahead of its test. -/
structure Cand (l : List Fr) (ns : List ByteArray) (rs : List (List Cell.Val)) (cnt : Int) : Prop where
  ok : ∀ r ∈ rs, VOk r
  same : ∀ a, Wire.Says a l → a = ⟨ns, rs, cnt⟩
theorem Cand.no {l : List Fr} {ns : List ByteArray} {rs : List (List Cell.Val)} {cnt : Int} (h : Cand l ns rs cnt) (hn : Wire.answer ⟨ns, rs, cnt⟩ ≠ (0, l)) (a : Wire.Ans) : ¬ Wire.Says a l := fun hs => by
  have := h.same a hs
  subst this
  exact hn hs.ans
theorem Cand.yes {l : List Fr} {ns : List ByteArray} {rs : List (List Cell.Val)} {cnt : Int} (h : Cand l ns rs cnt) (hn : Wire.answer ⟨ns, rs, cnt⟩ = (0, l)) : Wire.Says ⟨ns, rs, cnt⟩ l := ⟨fun r hr v hv => (h.ok r hr v hv).2, hn⟩
theorem Cand.of {l : List Fr} {m : Nat} {f : Fr} {ns : List ByteArray} {rs : List (List Cell.Val)} {cnt : Int} (hm : l.length = m + 1) (hf : l[m]? = some f) (hc : (Wire.be4 f.2 : Int) = cnt) (h0 : m = 0 → ns = []) (h1 : 0 < m → ∃ g, l[0]? = some g ∧ Wire.namesOf g.2 = some ns) (hr : Wire.readRows ((l.take m).drop 1) = some rs) (ok : ∀ r ∈ rs, VOk r) : Cand l ns rs cnt := by
  refine ⟨ok, fun a hs => ?_⟩
  obtain ⟨m', f', g1, g2, g3, g4, g5, g6, g7⟩ := hs.cand
  obtain rfl : m' = m := by omega
  rw [hf] at g2
  injection g2 with g2
  subst g2
  rw [hr] at g7
  injection g7 with g7
  rw [hc] at g4
  have hn : a.names = ns := by
    rcases Nat.eq_zero_or_pos m' with h | h
    · rw [g5 h, h0 h]
    · obtain ⟨g, k1, k2⟩ := h1 h
      obtain ⟨g', k3, k4⟩ := g6 h
      rw [k1] at k3
      injection k3 with k3
      subst k3
      rw [k2] at k4
      injection k4 with k4
      exact k4.symm
  cases a
  simp only at hn g4 g7
  rw [hn, ← g4, ← g7]

theorem takeN_len : ∀ (k : Nat) (l : List UInt8) (ns : List ByteArray) (r : List UInt8), Wire.takeN k l = some (ns, r) → ns.length = k := by
  intro k
  induction k with
  | zero => intro l ns r h; simp [Wire.takeN] at h; rw [h.1]; rfl
  | succ k ih =>
    intro l ns r h
    cases l with
    | nil => simp [Wire.takeN] at h
    | cons c t =>
      simp only [Wire.takeN] at h
      split at h
      · cases h
      · cases hk : Wire.takeN k (t.drop c.toNat) with
        | none => rw [hk] at h; cases h
        | some p =>
          rw [hk] at h
          simp only [Option.map_some, Option.some.injEq, Prod.mk.injEq] at h
          rw [← h.1, List.length_cons, ih _ p.1 p.2 hk]
theorem namesOf_len {l : List UInt8} {ns : List ByteArray} (h : Wire.namesOf l = some ns) : ns.length ≤ 255 := by
  cases l with
  | nil => cases h
  | cons c t =>
    simp only [Wire.namesOf] at h
    split at h
    · rename_i ns' hk
      injection h with h
      subst h
      rw [takeN_len _ _ _ _ hk]
      have := c.toNat_lt
      omega
    · cases h
theorem Rt.own {w : World} {base n c : Nat} {A : Option Addr} {ns : List ByteArray} (h : w.ownsRow base 9 1 (.slice A n c) n (ns.map Value.string)) (hz : ∀ s ∈ ns, s.size ≤ 255) : Rt w w.heap.size A n ns := ⟨Rd.own h, fun s hs => by have := hz s hs; unfold maxLen; omega⟩
theorem txts_le : ∀ (ns : List ByteArray), (∀ s ∈ ns, s.size ≤ 24) → (Wire.txts ns).length ≤ 25 * ns.length := by
  intro ns
  induction ns with
  | nil => intro _; simp [Wire.txts]
  | cons s ns ih =>
    intro h
    have h1 := ih fun s' hs' => h s' (List.mem_cons_of_mem _ hs')
    have h2 := h s List.mem_cons_self
    have h3 := str_len s
    rw [Wire.txts_cons]
    simp only [List.length_cons, List.length_append, h3]
    omega
theorem answer_sizes {ns : List ByteArray} {rs : List (List Cell.Val)} {c : Int} {fl : List Fr} (h : Wire.answer ⟨ns, rs, c⟩ = (0, fl)) : fl.length ≤ 2 + rs.length ∧ ∀ f ∈ fl, f.2.length ≤ 8000 := by
  obtain ⟨h1, h2, h3, h4⟩ := Wire.answer_ok.1 h
  simp only at h2 h3 h4
  obtain ⟨n1, n2⟩ := Wire.longN_ok h2
  obtain ⟨r1, r2⟩ := Wire.rowsF_ok _ _ h3
  have r3 := Wire.rowsF_len ns.length rs
  subst h4
  have hh : (Wire.headF ns).length ≤ 1 := by unfold Wire.headF; split <;> simp
  refine ⟨by simp only [List.length_append, List.length_cons, List.length_nil]; omega, fun f hf => ?_⟩
  rcases List.mem_append.1 hf with hf | hf
  · rcases List.mem_append.1 hf with hf | hf
    · unfold Wire.headF at hf
      split at hf
      · cases hf
      · have : f = (6, Wire.body ns) := by simpa using hf
        rw [this]
        have := txts_le ns n2
        simp only [Wire.body, List.length_cons]
        omega
    · rw [r1] at hf
      obtain ⟨r, _, rfl⟩ := List.mem_map.1 hf
      have := Cell.row_len r
      simp only
      omega
  · have : f = (7, Wire.fourB c.toNat) := by simpa using hf
    rw [this]
    simp [Wire.fourB]
/-- The names are read; the frames of rows are to come. -/
def RC (l : List Fr) (m : Nat) (w : World) (g lo N : Nat) (r : Value) (wx : World) : Prop :=
  ∃ A5 c5 An cn ns, r = .slice A5 (m - 1) c5 ∧ m - 1 ≤ c5 ∧ c5 ≤ 9223372036854775807 ∧ Blk wx w.heap.size 50 #[.slice none 0 0, .slice none 0 0, .int .i64 0] ∧ Blk wx g 50 #[.slice An ns.length cn, .slice none 0 0, .int .i64 (N : Int)] ∧
    (m = 0 → ns = []) ∧ (0 < m → ∃ f, l[0]? = some f ∧ Wire.namesOf f.2 = some ns) ∧ wx.ownsRow lo 9 1 (.slice An ns.length cn) ns.length (ns.map Value.string) ∧ (∀ s ∈ ns, s.size ≤ 255) ∧ FrRd wx w.heap.size A5 (m - 1) ((l.take m).drop 1) ∧ Below w.heap.size w wx ∧ lo ≤ wx.heap.size
set_option linter.unusedVariables false in
set_option maxRecDepth 8000 in
set_option maxHeartbeats 1600000 in
theorem wireRead_any (A : Option Addr) (n c : Nat) (l : List Fr) (w : World) (hl : FrRd w w.heap.size A n l) (hnc : n ≤ c) (hcm : c ≤ 9223372036854775807) (hn : n ≤ 4000000) :
    Calls Try.prog 21 #[.slice A n c] w (RdE w l) := by
  have HL := hide hl
  have HN := hide hl.1
  clear hl
  obtain ⟨w1, hw1⟩ : ∃ w1, w1 = w.alloc (.cells #[.slice none 0 0, .slice none 0 0, .int .i64 0] 50) := ⟨_, rfl⟩
  have HK1 : Hid (Blk w1 w.heap.size 50 #[.slice none 0 0, .slice none 0 0, .int .i64 0]) := by rw [hw1]; exact Blk.new _ _ _
  have HB1 : Hid (Below w.heap.size w w1) := by rw [hw1]; exact (Below.refl _ _).alloc (Nat.le_refl _) _
  have hs1 : w.heap.size < w1.heap.size := by rw [hw1]; simp
  go_enter Try.func21, Try.ntmps21
  go_upto_region 1 with fail
  rw [← hw1]
  clear hw1
  have k0 := HK1.out.cell 0
  have k1 := HK1.out.cell 1
  have k2 := HK1.out.cell 2
  have f0 := HK1.out.frozen 0
  have f1 := HK1.out.frozen 1
  have f2 := HK1.out.frozen 2
  simp at k0 k1 k2
  by_cases h0 : n = 0
  · subst h0
    have hle : l = [] := List.eq_nil_of_length_eq_zero HN.out.symm
    have HP := hide (no_says_len hle)
    go_wp2_with fail
    obtain ⟨w9, hw9⟩ : ∃ w9, w9 = ((w1.setCell ⟨w.heap.size, 0, none⟩ (.slice none 0 0)).setCell ⟨w.heap.size, 1, none⟩ (.slice none 0 0)).setCell ⟨w.heap.size, 2, none⟩ (.int .i64 0) := ⟨_, rfl⟩
    have HK9 : Blk w9 w.heap.size 50 #[.slice none 0 0, .slice none 0 0, .int .i64 0] := by rw [hw9]; exact (((HK1.out.put 0 _).put 1 _).put 2 _)
    have HB9 : Below w.heap.size w w9 := by rw [hw9]; exact (((HB1.out).setCell (p := ⟨w.heap.size, 0, none⟩) (Nat.le_refl _) _).setCell (p := ⟨w.heap.size, 1, none⟩) (Nat.le_refl _) _).setCell (p := ⟨w.heap.size, 2, none⟩) (Nat.le_refl _) _
    rw [← hw9]
    clear hw9
    have r0 := HK9.cell 0
    have r1 := HK9.cell 1
    have r2 := HK9.cell 2
    simp at r0 r1 r2
    refine bodyPost_ret (v := .tuple #[.agg #[.slice none 0 0, .slice none 0 0, .int .i64 0], .int .i64 390]) (by simp [results, Try.results21, go_sem, r0, r1, r2]) rfl ?_
    exact RdE.no HP.out HB9
  · obtain ⟨m, rfl⟩ : ∃ m, n = m + 1 := ⟨n - 1, by omega⟩
    obtain ⟨g, off, f, Af, cf, rfl, hg, hf, hc0, hc1, hfr, hfm, hfc, hfx⟩ := (HL.out.below HB1.out (Nat.le_refl _)).atC (show m < m + 1 by omega)
    have HF := hide hf
    have HFr := hide hfr
    clear hf hfr
    by_cases h4 : f.2.length = 4
    · have t1 : ((f.2.length : Int) != 4) = false := by simp; omega
      go_wp2_with fail
      have hfr4 : Rb w1 w.heap.size Af 4 f.2 := by have := HFr.out; rw [h4] at this; exact this
      with_reducible refine (numberOf_any Af 4 cf f.2 _ w.heap.size hfr4 (by omega) (by unfold maxLen; omega)).mono ?_
      rintro e w' ⟨rfl, nq, rfl⟩
      obtain ⟨w2, hw2⟩ : ∃ w2, w2 = w1.drewN nq := ⟨_, rfl⟩
      have HK2 : Hid (Blk w2 w.heap.size 50 #[.slice none 0 0, .slice none 0 0, .int .i64 0]) := by rw [hw2]; exact HK1.out
      have HB2 : Hid (Below w.heap.size w w2) := by rw [hw2]; exact below_drewN HB1.out nq
      have hs2 : w.heap.size < w2.heap.size := by rw [hw2]; exact hs1
      rw [← hw2]
      clear hfr4 hw2 k0 k1 k2 f0 f1 f2 hc0 hc1 HK1 HB1 HFr
      go_upto_region 5 with fail
      obtain ⟨N, hN⟩ : ∃ N : Nat, N = Wire.be4 f.2 := ⟨_, rfl⟩
      rw [← hN]
      have HNE := hide hN
      clear hN
      obtain ⟨w3, hw3⟩ : ∃ w3, w3 = w2.alloc (.cells #[.slice none 0 0, .slice none 0 0, .int .i64 (N : Int)] 50) := ⟨_, rfl⟩
      have HK3 : Hid (Blk w3 w.heap.size 50 #[.slice none 0 0, .slice none 0 0, .int .i64 0]) := by rw [hw3]; exact HK2.out.alloc _
      have HA3 : Hid (Blk w3 w2.heap.size 50 #[.slice none 0 0, .slice none 0 0, .int .i64 (N : Int)]) := by rw [hw3]; exact Blk.new _ _ _
      have HB3 : Hid (Below w.heap.size w w3) := by rw [hw3]; exact HB2.out.alloc (Nat.le_of_lt hs2) _
      have hs3 : w2.heap.size < w3.heap.size := by rw [hw3]; simp
      rw [← hw3]
      clear hw3 HK2 HB2
      go_upto_if 46 with fail
      go_cut [5] (fun r wx => RC l m w w2.heap.size w3.heap.size N r wx)
      case first =>
        by_cases hm0 : m = 0
        · subst hm0
          go_wp2_with fail
          go_meet
          exact ⟨_, c, none, 0, [], rfl, by omega, by omega, HK3.out, HA3.out, fun _ => rfl, fun h => absurd h (by omega), own_nil _ _ _ _, by simp, by simp only [List.take_zero, List.drop_nil]; exact FrRd.nil _ _ _, HB3.out, Nat.le_refl _⟩
        · have hmp : 0 < m := by omega
          have hmi : (0 : Int) < (m : Int) := by omega
          obtain ⟨g0, off0, f0, A0, c0, e0, hg0, hf0, hd0, hd1, hfr0, hfm0, hfc0, hfx0⟩ := (HL.out.below HB3.out (Nat.le_refl _)).atC (show 0 < m + 1 by omega)
          injection e0 with e0
          injection e0 with e1 e2
          subst e1 e2
          rw [Nat.zero_mul, Nat.add_zero] at hd0 hd1
          have HF0 := hide hf0
          have HFr0 := hide hfr0
          clear hf0 hfr0
          go_wp2_with fail
          with_reducible refine (namesOf_any A0 f0.2.length c0 f0.2 _ (by exact HFr0.out.more (by omega)) hfc0 hfx0).mono ?_
          rintro e w4 ⟨v4, rfl, hns, hb4⟩
          have HB4 := hide (HB3.out.trans (hb4.mono (by omega)))
          have HK4 := hide (HK3.out.below hb4 (by omega))
          have HA4 := hide (HA3.out.below hb4 hs3)
          have hs4 := hb4.size
          have k0 := HK4.out.cell 0
          have k1 := HK4.out.cell 1
          have k2 := HK4.out.cell 2
          have f0' := HK4.out.frozen 0
          have f1' := HK4.out.frozen 1
          have f2' := HK4.out.frozen 2
          have a0 := HA4.out.cell 0
          have a1 := HA4.out.cell 1
          have a2 := HA4.out.cell 2
          have b0 := HA4.out.frozen 0
          simp at k0 k1 k2 a0 a1 a2
          clear hb4
          cases ho : Wire.namesOf f0.2 with
          | none =>
            have HP := hide (no_says_names HN.out.symm hmp HF0.out ho)
            clear ho hns
            rw [show (none : Option (List ByteArray)).isSome = false from rfl]
            go_wp2_with fail
            obtain ⟨w9, hw9⟩ : ∃ w9, w9 = ((w4.setCell ⟨w.heap.size, 0, none⟩ (.slice none 0 0)).setCell ⟨w.heap.size, 1, none⟩ (.slice none 0 0)).setCell ⟨w.heap.size, 2, none⟩ (.int .i64 0) := ⟨_, rfl⟩
            have HK9 : Blk w9 w.heap.size 50 #[.slice none 0 0, .slice none 0 0, .int .i64 0] := by rw [hw9]; exact (((HK4.out.put 0 _).put 1 _).put 2 _)
            have HB9 : Below w.heap.size w w9 := by rw [hw9]; exact (((HB4.out).setCell (p := ⟨w.heap.size, 0, none⟩) (Nat.le_refl _) _).setCell (p := ⟨w.heap.size, 1, none⟩) (Nat.le_refl _) _).setCell (p := ⟨w.heap.size, 2, none⟩) (Nat.le_refl _) _
            rw [← hw9]
            clear hw9
            have r0 := HK9.cell 0
            have r1 := HK9.cell 1
            have r2 := HK9.cell 2
            simp at r0 r1 r2
            refine bodyPost_ret (v := .tuple #[.agg #[.slice none 0 0, .slice none 0 0, .int .i64 0], .int .i64 390]) (by simp [results, Try.results21, go_sem, r0, r1, r2]) rfl ?_
            exact RdE.no HP.out HB9
          | some ns =>
            obtain ⟨hown, hz⟩ := hns ns ho
            have HO := hide hown
            have HZ := hide hz
            have HHo := hide ho
            obtain ⟨An, cn, rfl⟩ := own_sl hown
            clear hown hz ho hns
            rw [show (some ns : Option (List ByteArray)).isSome = true from rfl]
            have hcc : ¬ c = 1 := by omega
            go_wp2_with fail
            go_meet
            refine ⟨_, _, An, cn, ns, rfl, ?_, ?_, HK4.out.far (by show w.heap.size ≠ w2.heap.size; omega) _, HA4.out.put 0 _, fun h => absurd h hm0, fun _ => ⟨_, HF0.out, HHo.out⟩, ?_, HZ.out, ?_, ?_, ?_⟩
            · omega
            · omega
            · exact ownsRow_setCell_below HO.out (show w2.heap.size < w3.heap.size from hs3) _
            · exact ((HL.out.below HB4.out (Nat.le_refl _)).mid (by omega) hmp).below ((Below.refl w.heap.size w4).setCell (p := ⟨w2.heap.size, 0, none⟩) (Nat.le_of_lt hs2) _) (Nat.le_refl _)
            · exact HB4.out.setCell (p := ⟨w2.heap.size, 0, none⟩) (Nat.le_of_lt hs2) _
            · simp [World.setCell]; omega
      case rest =>
        obtain ⟨A5, c5, An, cn, ns, rfl, h51, h52, hk5, ha5, hn0, hn1, hown5, hz, hfr5, hbel5, hlo⟩ := hcut
        obtain ⟨w5, hw5⟩ : ∃ w5, w5 = wc := ⟨_, rfl⟩
        subst hw5
        have hnl : ns.length ≤ 255 := by
          rcases Nat.eq_zero_or_pos m with h | h
          · rw [hn0 h]; simp
          · obtain ⟨f0, _, h2⟩ := hn1 h
            exact namesOf_len h2
        obtain ⟨T, hT⟩ : ∃ T, T = (l.take m).drop 1 := ⟨_, rfl⟩
        rw [← hT] at hfr5
        have hTl := hfr5.1
        obtain ⟨q, hq⟩ : ∃ q, q = m - 1 := ⟨_, rfl⟩
        rw [← hq] at hfr5 hTl h51 ⊢
        have hqm : q ≤ 4000000 := by omega
        have HT := hide hT
        have HTl := hide hTl
        have HFr5 := hide hfr5
        have HN0 := hide hn0
        have HN1 := hide hn1
        have HZ := hide hz
        have ha0 := hide hown5
        have HK5 := hide hk5
        have HA5 := hide ha5
        have HB5 := hide hbel5
        clear hT hTl hfr5 hn0 hn1 hz hown5 hk5 ha5 hbel5 hq HK3 HA3 HB3
        go_wp2_with fail
        go_loopg [64] q (fun gg i wr => ∃ (j : Nat) (rs : List (List Cell.Val)) (Ar : Option Addr) (cr : Nat), j ≤ q ∧ gg = q - j ∧ i = .int .i64 (j : Nat) ∧ Blk wr w.heap.size 50 #[.slice none 0 0, .slice none 0 0, .int .i64 0] ∧ Blk wr w2.heap.size 50 #[.slice An ns.length cn, .slice Ar rs.length cr, .int .i64 (N : Int)] ∧ RrOwn wr w3.heap.size (.slice Ar rs.length cr) rs ∧ wr.ownsRow w3.heap.size 9 1 (.slice An ns.length cn) ns.length (ns.map Value.string) ∧ Hid (Wire.readRows (T.take j) = some rs) ∧ rs.length ≤ j ∧ Below w.heap.size w5 wr ∧ w3.heap.size ≤ wr.heap.size)
        case atStart => exact ⟨0, [], none, 0, Nat.zero_le _, rfl, rfl, HK5.out, HA5.out, RrOwn.nil _ _, ha0.out, rfl, Nat.le_refl _, Below.refl _ _, hlo⟩
        case round =>
          obtain ⟨j, rs, Ar, cr, hj, rfl, rfl, hk6, ha6, hrr, hown6, HRd, hrl, hbel6, hlo6⟩ := hrel
          obtain ⟨w6, hw6⟩ : ∃ w6, w6 = wr := ⟨_, rfl⟩
          subst hw6
          have HK6 := hide hk6
          have HA6 := hide ha6
          have HR6 := hide hrr
          have HO6 := hide hown6
          have HB56 := hide hbel6
          have HB6 := hide (HB5.out.trans hbel6)
          have hsz6 := HB6.out.size
          clear hk6 ha6 hrr hown6 hbel6 HK5 HA5 ha0
          by_cases hlt : j < q
          · obtain ⟨g6, o6, f6, A6, c6, rfl, hg6, hf6, hd0, hd1, hfr6, hfm6, hfc6, hfx6⟩ := (HFr5.out.below HB56.out (Nat.le_refl _)).atC hlt
            have HF6 := hide hf6
            have HFr6 := hide hfr6
            clear hf6 hfr6
            have hgl6 : g6 < w6.heap.size := by omega
            obtain ⟨w7, hw7⟩ : ∃ w7, w7 = w6.alloc (.cells #[.int .u8 (f6.1.toNat : Int), .slice A6 f6.2.length c6] 42) := ⟨_, rfl⟩
            have hb7 : Below w6.heap.size w6 w7 := by rw [hw7]; exact (Below.refl _ _).alloc (Nat.le_refl _) _
            go_wp2_with fail
            rw [← hw7]
            clear hw7
            with_reducible refine (read_any A6 f6.2.length c6 f6.2 _ (by exact (HFr6.out.below hb7 (by omega)).more (by have := hb7.size; omega)) hfc6 hfx6).mono ?_
            intro e w8 hpost
            cases hr : Cell.read f6.2 with
            | none =>
              obtain ⟨A8, c8, rfl, hb8⟩ := hpost.none hr
              have hb68 : Below w6.heap.size w6 w8 := hb7.trans (hb8.mono hb7.size)
              have HB8 := hide (HB6.out.trans (hb68.mono (by omega)))
              have HK8 := hide (HK6.out.below hb68 (by omega))
              have HP := hide (no_says_row HN.out.symm (by rw [← HT.out]; exact HF6.out) hr)
              have k0 := HK8.out.cell 0
              have k1 := HK8.out.cell 1
              have k2 := HK8.out.cell 2
              have f0' := HK8.out.frozen 0
              have f1' := HK8.out.frozen 1
              have f2' := HK8.out.frozen 2
              simp at k0 k1 k2
              clear hpost hr hb8 hb68 hb7
              go_wp2_with fail
              obtain ⟨w9, hw9⟩ : ∃ w9, w9 = ((w8.setCell ⟨w.heap.size, 0, none⟩ (.slice none 0 0)).setCell ⟨w.heap.size, 1, none⟩ (.slice none 0 0)).setCell ⟨w.heap.size, 2, none⟩ (.int .i64 0) := ⟨_, rfl⟩
              have HK9 : Blk w9 w.heap.size 50 #[.slice none 0 0, .slice none 0 0, .int .i64 0] := by rw [hw9]; exact (((HK8.out.put 0 _).put 1 _).put 2 _)
              have HB9 : Below w.heap.size w w9 := by rw [hw9]; exact (((HB8.out).setCell (p := ⟨w.heap.size, 0, none⟩) (Nat.le_refl _) _).setCell (p := ⟨w.heap.size, 1, none⟩) (Nat.le_refl _) _).setCell (p := ⟨w.heap.size, 2, none⟩) (Nat.le_refl _) _
              rw [← hw9]
              clear hw9
              have r0 := HK9.cell 0
              have r1 := HK9.cell 1
              have r2 := HK9.cell 2
              simp at r0 r1 r2
              refine bodyPost_ret (v := .tuple #[.agg #[.slice none 0 0, .slice none 0 0, .int .i64 0], .int .i64 390]) (by simp [results, Try.results21, go_sem, r0, r1, r2]) rfl ?_
              exact RdE.no HP.out HB9
            | some r =>
              obtain ⟨A8, c8, rfl, hown8, hb8, hv8⟩ := hpost.some hr
              have hb68 : Below w6.heap.size w6 w8 := hb7.trans (hb8.mono hb7.size)
              have HB8 := hide (HB6.out.trans (hb68.mono (by omega)))
              have HK8 := hide (HK6.out.below hb68 (by omega))
              have HA8 := hide (HA6.out.below hb68 (by omega))
              have HR8 := hide (HR6.out.below hb68)
              have HO8 := hide (own_below HO6.out hb68)
              have HV8 := hide (own_base hown8 (show w3.heap.size ≤ w7.heap.size by have := hb7.size; omega))
              have HVo : Hid (VOk r) := hv8
              have HRn : Hid (Wire.readRows (T.take (j + 1)) = some (rs ++ [r])) := by
                show _ = _
                rw [Wire.readRows_take HF6.out, HRd.out, hr]
              have hrlen : r.length ≤ 4611686018427387904 := by
                have := (Cell.row_ok.1 (Cell.read_row hr)).2.1
                omega
              have hs8 : w6.heap.size ≤ w8.heap.size := hb68.size
              have hb68' := hide (hb68.mono (show w.heap.size ≤ w6.heap.size by omega))
              have k0 := HA8.out.cell 0
              have k1 := HA8.out.cell 1
              have k2 := HA8.out.cell 2
              simp at k0 k1 k2
              clear hpost hr hb8 hb68 hb7 hown8 hv8
              go_wp2_with (at_builtin; refine wpList_appR rfl (.tmp 78) (.tmp 80) rfl w3.heap.size _ rs rfl HR8.out 1 r (.slice A8 r.length c8) HV8.out HVo.out hrlen rfl rfl (by omega) (by omega) ?_; intro v10 w10 hrr10 hb10 hkeep10; have HR10 := hide hrr10; have HA10 := hide (HA8.out.below hb10 hs3); have HK10 := hide (HK8.out.below hb10 (by omega)); have HO10 := hide (hkeep10 _ _ _ _ _ _ HO8.out (by decide)); clear hkeep10; have HB5x := hide (HB56.out.trans (hb68'.out.trans (hb10.mono (by omega)))); have HB10 := hide (HB8.out.trans (hb10.mono (by omega))); have hs10 := hb10.size; have l1 := HA10.out.cell 1; have e1 := HA10.out.frozen 1; simp at l1; obtain ⟨A10, c10, rfl⟩ := hrr10.form; clear hrr10 hb10)
              go_wp2_with fail
              go_roundg (q - (j + 1))
              case measure => omega
              case rel => exact ⟨j + 1, rs ++ [r], A10, c10, by omega, rfl, by go_num, HK10.out.far (by show w.heap.size ≠ w2.heap.size; omega) _, by rw [List.length_append]; exact HA10.out.put 1 _, HR10.out.agree (fun k h1 h2 => Below.heap_setCell _ _ _ _ (by show k ≠ w2.heap.size; omega)), ownsRow_setCell_below HO10.out (show w2.heap.size < w3.heap.size from hs3) _, HRn.out, by simp; omega, HB5x.out.setCell (p := ⟨w2.heap.size, 1, none⟩) (Nat.le_of_lt hs2) _, by simp [World.setCell]; omega⟩
          · obtain rfl : j = q := by omega
            have hrd := HRd.out
            rw [List.take_of_length_le (by rw [← HTl.out]; exact Nat.le_refl _)] at hrd
            have hcand : Cand l ns rs (N : Int) := Cand.of HN.out.symm HF.out (by rw [HNE.out]) HN0.out HN1.out (by rw [← HT.out]; exact hrd) HR6.out.okA
            have HCand := hide hcand
            clear hrd hcand HRd
            have a0 := HA6.out.cell 0
            have a1 := HA6.out.cell 1
            have a2 := HA6.out.cell 2
            simp at a0 a1 a2
            go_wp2_with fail
            with_reducible refine (wireAnswer_any An ns.length cn ns Ar rs.length cr rs (N : Int) _ (by exact Rt.own HO6.out HZ.out) (by exact HR6.out.rd rfl) (by omega) (by omega)).mono ?_
            rintro e w7 ⟨v7, rfl, hf7, hb7⟩
            have HB7 := hide (HB6.out.trans (hb7.mono hsz6))
            have HK7 := hide (HK6.out.below hb7 (by omega))
            have HA7 := hide (HA6.out.below hb7 (by omega))
            have HR7 := hide (HR6.out.below hb7)
            have HO7 := hide (own_below HO6.out hb7)
            have hs7 := hb7.size
            obtain ⟨en, fl, hX⟩ : ∃ en fl, (en, fl) = Wire.answer ⟨ns, rs, (N : Int)⟩ := ⟨_, _, rfl⟩
            rw [← hX] at hf7 ⊢
            simp only at hf7 ⊢
            obtain ⟨A7, c7, rfl⟩ := hf7.form
            have HF7 := hide hf7
            have HX := hide hX.symm
            clear a0 a1 a2 hf7 hX hb7 HB6 HK6 HA6 HR6 HO6
            by_cases hen : en = 0
            · subst hen
              obtain ⟨hbl, hbm⟩ := answer_sizes HX.out
              have hfl0 : fl.length ≤ 4000003 := by omega
              clear hbl
              have HBm := hide hbm
              clear hbm
              go_wp2_with fail
              with_reducible refine (equalFunc_any A7 (some ⟨g, off, none⟩) fl.length c7 (m + 1) c fl l _ (by exact HF7.out.rd rfl (fun f hf => Nat.le_trans (HBm.out f hf) (by decide))) (by exact (HL.out.below HB7.out (Nat.le_refl _)).more (by omega)) (by omega) (by omega)).mono ?_
              rintro e w8 ⟨rfl, hb8⟩
              have HB8 := hide (HB7.out.trans (hb8.mono (by omega)))
              have HK8 := hide (HK7.out.below hb8 (by omega))
              have HA8 := hide (HA7.out.below hb8 (by omega))
              have HR8 := hide (HR7.out.below hb8)
              have HO8 := hide (own_below HO7.out hb8)
              have hs8 := hb8.size
              clear hb8
              by_cases hfl : fl = l
              · have HSays := hide (HCand.out.yes (by rw [HX.out, hfl]))
                rw [show decide (fl = l) = true from decide_eq_true hfl]
                clear hfl
                have a0 := HA8.out.cell 0
                have a1 := HA8.out.cell 1
                have a2 := HA8.out.cell 2
                have k0 := HK8.out.cell 0
                have k1 := HK8.out.cell 1
                have k2 := HK8.out.cell 2
                have f0' := HK8.out.frozen 0
                have f1' := HK8.out.frozen 1
                have f2' := HK8.out.frozen 2
                simp at a0 a1 a2 k0 k1 k2
                go_wp2_with fail
                obtain ⟨w9, hw9⟩ : ∃ w9, w9 = ((w8.setCell ⟨w.heap.size, 0, none⟩ (.slice An ns.length cn)).setCell ⟨w.heap.size, 1, none⟩ (.slice Ar rs.length cr)).setCell ⟨w.heap.size, 2, none⟩ (.int .i64 (N : Int)) := ⟨_, rfl⟩
                have HK9 : Blk w9 w.heap.size 50 #[.slice An ns.length cn, .slice Ar rs.length cr, .int .i64 (N : Int)] := by rw [hw9]; exact (((HK8.out.put 0 _).put 1 _).put 2 _)
                have HB9 : Below w.heap.size w w9 := by rw [hw9]; exact (((HB8.out).setCell (p := ⟨w.heap.size, 0, none⟩) (Nat.le_refl _) _).setCell (p := ⟨w.heap.size, 1, none⟩) (Nat.le_refl _) _).setCell (p := ⟨w.heap.size, 2, none⟩) (Nat.le_refl _) _
                have hlw : w.heap.size < w3.heap.size := by omega
                have HO9 : w9.ownsRow w3.heap.size 9 1 (.slice An ns.length cn) ns.length (ns.map Value.string) := by rw [hw9]; exact ownsRow_setCell_below (ownsRow_setCell_below (ownsRow_setCell_below HO8.out hlw _) hlw _) hlw _
                have HR9 : RrOwn w9 w3.heap.size (.slice Ar rs.length cr) rs := by rw [hw9]; exact HR8.out.agree fun k h1 h2 => by rw [Below.heap_setCell _ _ _ _ (by show k ≠ w.heap.size; omega), Below.heap_setCell _ _ _ _ (by show k ≠ w.heap.size; omega), Below.heap_setCell _ _ _ _ (by show k ≠ w.heap.size; omega)]
                rw [← hw9]
                clear hw9
                have r0 := HK9.cell 0
                have r1 := HK9.cell 1
                have r2 := HK9.cell 2
                simp at r0 r1 r2
                refine bodyPost_ret (v := .tuple #[.agg #[.slice An ns.length cn, .slice Ar rs.length cr, .int .i64 (N : Int)], .int .i64 0]) (by simp [results, Try.results21, go_sem, r0, r1, r2]) rfl ?_
                exact ⟨An, cn, ns, Ar, cr, rs, N, 0, rfl, Rt.own HO9 HZ.out, HR9.rd rfl, HB9, .inl ⟨HSays.out, rfl⟩⟩
              · have HP := hide (HCand.out.no (by rw [HX.out]; intro h; injection h with _ h; exact hfl h))
                rw [show decide (fl = l) = false from decide_eq_false hfl]
                clear hfl
                have k0 := HK8.out.cell 0
                have k1 := HK8.out.cell 1
                have k2 := HK8.out.cell 2
                have f0' := HK8.out.frozen 0
                have f1' := HK8.out.frozen 1
                have f2' := HK8.out.frozen 2
                simp at k0 k1 k2
                go_wp2_with fail
                obtain ⟨w9, hw9⟩ : ∃ w9, w9 = ((w8.setCell ⟨w.heap.size, 0, none⟩ (.slice none 0 0)).setCell ⟨w.heap.size, 1, none⟩ (.slice none 0 0)).setCell ⟨w.heap.size, 2, none⟩ (.int .i64 0) := ⟨_, rfl⟩
                have HK9 : Blk w9 w.heap.size 50 #[.slice none 0 0, .slice none 0 0, .int .i64 0] := by rw [hw9]; exact (((HK8.out.put 0 _).put 1 _).put 2 _)
                have HB9 : Below w.heap.size w w9 := by rw [hw9]; exact (((HB8.out).setCell (p := ⟨w.heap.size, 0, none⟩) (Nat.le_refl _) _).setCell (p := ⟨w.heap.size, 1, none⟩) (Nat.le_refl _) _).setCell (p := ⟨w.heap.size, 2, none⟩) (Nat.le_refl _) _
                rw [← hw9]
                clear hw9
                have r0 := HK9.cell 0
                have r1 := HK9.cell 1
                have r2 := HK9.cell 2
                simp at r0 r1 r2
                refine bodyPost_ret (v := .tuple #[.agg #[.slice none 0 0, .slice none 0 0, .int .i64 0], .int .i64 390]) (by simp [results, Try.results21, go_sem, r0, r1, r2]) rfl ?_
                exact RdE.no HP.out HB9
            · have HP := hide (HCand.out.no (by rw [HX.out]; intro h; injection h with h _; exact hen h))
              have t2 : ((en : Int) != 0) = true := by simp; omega
              clear hen
              have k0 := HK7.out.cell 0
              have k1 := HK7.out.cell 1
              have k2 := HK7.out.cell 2
              have f0' := HK7.out.frozen 0
              have f1' := HK7.out.frozen 1
              have f2' := HK7.out.frozen 2
              simp at k0 k1 k2
              go_wp2_with fail
              obtain ⟨w9, hw9⟩ : ∃ w9, w9 = ((w7.setCell ⟨w.heap.size, 0, none⟩ (.slice none 0 0)).setCell ⟨w.heap.size, 1, none⟩ (.slice none 0 0)).setCell ⟨w.heap.size, 2, none⟩ (.int .i64 0) := ⟨_, rfl⟩
              have HK9 : Blk w9 w.heap.size 50 #[.slice none 0 0, .slice none 0 0, .int .i64 0] := by rw [hw9]; exact (((HK7.out.put 0 _).put 1 _).put 2 _)
              have HB9 : Below w.heap.size w w9 := by rw [hw9]; exact (((HB7.out).setCell (p := ⟨w.heap.size, 0, none⟩) (Nat.le_refl _) _).setCell (p := ⟨w.heap.size, 1, none⟩) (Nat.le_refl _) _).setCell (p := ⟨w.heap.size, 2, none⟩) (Nat.le_refl _) _
              rw [← hw9]
              clear hw9
              have r0 := HK9.cell 0
              have r1 := HK9.cell 1
              have r2 := HK9.cell 2
              simp at r0 r1 r2
              refine bodyPost_ret (v := .tuple #[.agg #[.slice none 0 0, .slice none 0 0, .int .i64 0], .int .i64 390]) (by simp [results, Try.results21, go_sem, r0, r1, r2]) rfl ?_
              exact RdE.no HP.out HB9
    · have t1 : ((f.2.length : Int) != 4) = true := by simp; omega
      have HP := hide (no_says_four HN.out.symm HF.out h4)
      go_wp2_with fail
      obtain ⟨w9, hw9⟩ : ∃ w9, w9 = ((w1.setCell ⟨w.heap.size, 0, none⟩ (.slice none 0 0)).setCell ⟨w.heap.size, 1, none⟩ (.slice none 0 0)).setCell ⟨w.heap.size, 2, none⟩ (.int .i64 0) := ⟨_, rfl⟩
      have HK9 : Blk w9 w.heap.size 50 #[.slice none 0 0, .slice none 0 0, .int .i64 0] := by rw [hw9]; exact (((HK1.out.put 0 _).put 1 _).put 2 _)
      have HB9 : Below w.heap.size w w9 := by rw [hw9]; exact (((HB1.out).setCell (p := ⟨w.heap.size, 0, none⟩) (Nat.le_refl _) _).setCell (p := ⟨w.heap.size, 1, none⟩) (Nat.le_refl _) _).setCell (p := ⟨w.heap.size, 2, none⟩) (Nat.le_refl _) _
      rw [← hw9]
      clear hw9
      have r0 := HK9.cell 0
      have r1 := HK9.cell 1
      have r2 := HK9.cell 2
      simp at r0 r1 r2
      refine bodyPost_ret (v := .tuple #[.agg #[.slice none 0 0, .slice none 0 0, .int .i64 0], .int .i64 390]) (by simp [results, Try.results21, go_sem, r0, r1, r2]) rfl ?_
      exact RdE.no HP.out HB9
end Go.Proofs.Ytnieenlnpnaamaa
