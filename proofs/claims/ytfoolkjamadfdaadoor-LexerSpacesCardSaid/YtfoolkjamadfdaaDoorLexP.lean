/-
  The walk of the lexer's pairs. Conditions: the text has at most 2^40 bytes.
-/
import Derived.Test.YtfoolkjamadfdaaDoorLexQ
import Derived.StillTailTactics
namespace Go.Proofs.YtfoolkjamadfdaaDoor
open Go.RowKit

def pairUp : List UInt8 → List UInt8
  | a :: b :: l => Lex.pair a b :: pairUp l
  | _ => []
theorem pairUp_len : ∀ (m : Nat) (l : List UInt8), l.length = 2 * m → (pairUp l).length = m := by
  intro m
  induction m with
  | zero => intro l h; rw [List.eq_nil_of_length_eq_zero h]; rfl
  | succ m ih =>
    intro l h
    match l, h with
    | a :: b :: l, h => simp only [pairUp, List.length_cons]; rw [ih l (by simp at h; omega)]
theorem pairUp_snoc : ∀ (m : Nat) (l : List UInt8) (a b : UInt8), l.length = 2 * m → pairUp (l ++ [a, b]) = pairUp l ++ [Lex.pair a b] := by
  intro m
  induction m with
  | zero => intro l a b h; rw [List.eq_nil_of_length_eq_zero h]; rfl
  | succ m ih =>
    intro l a b h
    match l, h with
    | c :: d :: l, h => simp only [List.cons_append, pairUp]; rw [ih l a b (by simp at h; omega)]
theorem pairUp_next {l : List UInt8} {k : Nat} {a b : UInt8} (ha : l[2 * k]? = some a) (hb : l[2 * k + 1]? = some b) : pairUp (l.take (2 * (k + 1))) = pairUp (l.take (2 * k)) ++ [Lex.pair a b] := by
  have h1 := (List.getElem?_eq_some_iff.1 hb).1
  rw [show 2 * (k + 1) = 2 * k + 1 + 1 by omega, ← take_snoc l _ b hb, ← take_snoc l _ a ha, List.append_assoc]
  exact pairUp_snoc k _ a b (by rw [List.length_take]; omega)
theorem span_two {a b : UInt8} {l : List UInt8} (ha : Lex.hex a = true) (hb : Lex.hex b = true) : Lex.span Lex.hex (a :: b :: l) = Lex.span Lex.hex l + 2 := by
  simp only [Lex.span]
  rw [if_pos ha, if_pos hb]
theorem hex39 {c : UInt8} (h : c.toNat = 39) : Lex.hex c = false := by simp [Lex.hex, Lex.digit, h]
theorem pairs_eq : ∀ (f : Nat) (r : List UInt8), r.length ≤ f → Lex.pairs r = if Lex.isAt r (Lex.span Lex.hex r) 39 = true ∧ Lex.span Lex.hex r % 2 = 0 then some (pairUp (r.take (Lex.span Lex.hex r)), r.drop (Lex.span Lex.hex r + 1)) else none := by
  intro f
  induction f with
  | zero =>
    intro r h
    obtain rfl : r = [] := List.eq_nil_of_length_eq_zero (by omega)
    rfl
  | succ f ih =>
    intro r h
    match r, h with
    | [], _ => rfl
    | [c], _ =>
      by_cases hc : c.toNat = 39
      · have e : Lex.span Lex.hex [c] = 0 := by simp only [Lex.span]; rw [if_neg (by simp [hex39 hc])]
        rw [e]
        simp only [Lex.pairs]
        rw [if_pos hc, if_pos (by refine ⟨?_, by first | rfl | trivial⟩; simp [Lex.isAt]; exact UInt8.toNat_inj.1 (by rw [hc]; rfl))]
        rfl
      · have e0 : Lex.pairs [c] = none := by simp only [Lex.pairs]; rw [if_neg hc]
        rw [e0]
        by_cases hx : Lex.hex c = true
        · have e : Lex.span Lex.hex [c] = 1 := by simp only [Lex.span]; rw [if_pos hx]
          rw [e, if_neg (by simp [Lex.isAt])]
        · have e : Lex.span Lex.hex [c] = 0 := by simp only [Lex.span]; rw [if_neg hx]
          rw [e, if_neg]
          rintro ⟨h1, _⟩
          simp [Lex.isAt] at h1
          rw [h1] at hc
          exact hc rfl
    | c :: d :: l, h =>
      by_cases hc : c.toNat = 39
      · have e : Lex.span Lex.hex (c :: d :: l) = 0 := by simp only [Lex.span]; rw [if_neg (by simp [hex39 hc])]
        rw [e]
        simp only [Lex.pairs]
        rw [if_pos hc, if_pos (by refine ⟨?_, by first | rfl | trivial⟩; simp [Lex.isAt]; exact UInt8.toNat_inj.1 (by rw [hc]; rfl))]
        rfl
      · simp only [Lex.pairs]
        rw [if_neg hc]
        by_cases hx : Lex.hex c = true ∧ Lex.hex d = true
        · rw [if_pos hx, ih l (by simp at h; omega), span_two hx.1 hx.2]
          have e1 : Lex.isAt (c :: d :: l) (Lex.span Lex.hex l + 2) 39 = Lex.isAt l (Lex.span Lex.hex l) 39 := rfl
          rw [e1, show (Lex.span Lex.hex l + 2) % 2 = Lex.span Lex.hex l % 2 by omega]
          by_cases hb : Lex.isAt l (Lex.span Lex.hex l) 39 = true ∧ Lex.span Lex.hex l % 2 = 0
          · rw [if_pos hb, if_pos hb]
            rfl
          · rw [if_neg hb, if_neg hb]
            rfl
        · rw [if_neg hx, if_neg]
          rintro ⟨h1, h2⟩
          by_cases hx1 : Lex.hex c = true
          · have hx2 : ¬ Lex.hex d = true := fun h => hx ⟨hx1, h⟩
            have e : Lex.span Lex.hex (c :: d :: l) = 1 := by simp only [Lex.span]; rw [if_pos hx1, if_neg hx2]
            rw [e] at h2
            omega
          · have e : Lex.span Lex.hex (c :: d :: l) = 0 := by simp only [Lex.span]; rw [if_neg hx1]
            rw [e] at h1
            simp [Lex.isAt] at h1
            rw [h1] at hc
            exact hc rfl
theorem pairsT_eq (l : List UInt8) (at_ n : Nat) (hn : n = Lex.span Lex.hex (l.drop (at_ + 2))) (hl : at_ + 2 ≤ l.length) : Lex.pairsT (l.drop at_) = if (Lex.isAt l (at_ + 2 + n) 39 = true ∧ n % 2 = 0) ∧ n / 2 ≤ 200 then some (4, pairUp ((l.drop (at_ + 2)).take n), 2 + n + 1) else none := by
  unfold Lex.pairsT
  rw [List.drop_drop, pairs_eq _ _ (Nat.le_refl _), ← hn, Lex.isAt_drop]
  by_cases h : Lex.isAt l (at_ + 2 + n) 39 = true ∧ n % 2 = 0
  · rw [if_pos h]
    have hlt : at_ + 2 + n < l.length := by
      have := h.1
      unfold Lex.isAt at this
      rw [decide_eq_true_eq] at this
      exact (List.getElem?_eq_some_iff.1 this).1
    have hlen : (pairUp ((l.drop (at_ + 2)).take n)).length = n / 2 := pairUp_len _ _ (by rw [List.length_take, List.length_drop]; omega)
    simp only [hlen]
    by_cases h2 : n / 2 ≤ 200
    · rw [if_pos h2, if_pos ⟨h, h2⟩]
      simp only [List.length_drop]
      rw [show l.length - at_ - (l.length - (at_ + 2) - (n + 1)) = 2 + n + 1 by omega]
    · rw [if_neg h2, if_neg (fun h => h2 h.2)]
  · rw [if_neg h, if_neg (fun h' => h h'.1)]
theorem or4_fin : ∀ (x y : Fin 16), bits .or .u8 ((x.val : Int) * 16) (y.val : Int) = ((x.val * 16 + y.val : Nat) : Int) := by decide +kernel
theorem or4 (x y : Nat) (hx : x < 16) (hy : y < 16) : bits .or .u8 ((x : Int) * 16) (y : Int) = ((x * 16 + y : Nat) : Int) := or4_fin ⟨x, hx⟩ ⟨y, hy⟩
theorem worth_lt {c : UInt8} (h : Lex.hex c = true) : Lex.worth c < 16 := by
  unfold Lex.worth
  unfold Lex.hex at h
  cases hd : Lex.digit c with
  | true =>
    rw [if_pos rfl]
    simp [Lex.digit] at hd
    omega
  | false =>
    rw [hd, Bool.false_or, decide_eq_true_eq] at h
    rw [if_neg (by simp)]
    omega
theorem pair_nat {a b : UInt8} (ha : Lex.hex a = true) (hb : Lex.hex b = true) : (Lex.pair a b).toNat = Lex.worth a * 16 + Lex.worth b := by
  have h1 := worth_lt ha
  have h2 := worth_lt hb
  unfold Lex.pair
  rw [UInt8.toNat_ofNat_of_lt' (by show _ < 256; omega)]
theorem set_mid {α : Type} (a : List α) (k m : Nat) (z u : α) (ha : a.length = k) (hk : k < m) : (a ++ List.replicate (m - k) z).set k u = (a ++ [u]) ++ List.replicate (m - (k + 1)) z := by
  subst ha
  rw [List.set_append_right _ _ (Nat.le_refl _), Nat.sub_self, show m - a.length = (m - (a.length + 1)) + 1 by omega, List.replicate_succ, List.set_cons_zero]
  simp

/-- What holds at the head of a round. -/
def PR (w : World) (r : List UInt8) (m k gs : Nat) (wr : World) : Prop :=
  k ≤ m ∧ wr.ownsRow (w.heap.size + 1) 5 1 (.slice (some ⟨gs, 0, none⟩) m m) m ((pairUp (r.take (2 * k))).map B8 ++ List.replicate (m - k) (.int .u8 0)) ∧ Below w.heap.size w wr ∧ Blk wr w.heap.size 32 tokZ ∧ w.heap.size + 1 ≤ wr.heap.size
set_option maxHeartbeats 3200000 in
theorem lpairs_any (text : ByteArray) (at_ : Nat) (w : World) (hm : text.size ≤ 1099511627776) (hat : at_ + 1 < text.size) :
    Calls Tryd.prog 17 #[.string text, .int .i64 (at_ : Int)] w (TP w at_ (Lex.pairsT (text.data.toList.drop at_))) := by
  have HL := hide (str_len text)
  obtain ⟨i0, hi0, hz0, hz1, hz2⟩ := info_parts info8
  obtain ⟨o, ho⟩ : ∃ o, o = Lex.pairsT (text.data.toList.drop at_) := ⟨_, rfl⟩
  rw [← ho]
  obtain ⟨n, hn⟩ : ∃ n, n = Lex.span Lex.hex (text.data.toList.drop (at_ + 2)) := ⟨_, rfl⟩
  have hnl := Lex.span_le Lex.hex (text.data.toList.drop (at_ + 2))
  rw [← hn, List.length_drop, HL.out] at hnl
  have HO := hide (ho.trans (pairsT_eq text.data.toList at_ n hn (by rw [HL.out]; omega)))
  have HN := hide hn
  have HH : Hid (∀ j, j < n → ∃ c, (text.data.toList.drop (at_ + 2))[j]? = some c ∧ Lex.hex c = true) := fun j hj => Lex.span_drop_all Lex.hex _ j (by rw [← hn]; exact hj)
  obtain ⟨e1, he1⟩ : ∃ x, x = at_ + 2 + n := ⟨_, rfl⟩
  have he1b : e1 ≤ text.size := by omega
  rw [← he1] at HO
  have HE1 := hide he1
  have hcast : (at_ : Int) + 2 = ((at_ + 2 : Nat) : Int) := by omega
  have HCast := hide hcast
  obtain ⟨b1, hb1⟩ : ∃ b, b = Lex.isAt text.data.toList e1 39 := ⟨_, rfl⟩
  rw [← hb1] at HO
  have H1 := hide hb1
  clear ho hn hb1 hcast
  go_enter Tryd.func17, Tryd.ntmps17
  go_wp2_with fail
  rw [HCast.out]
  with_reducible refine (span_any text (at_ + 2) 32 Lex.hex _ (by omega) run_hex hex_any (by omega)).mono ?_
  rintro e w' ⟨rfl, rfl⟩
  rw [← HN.out, ← he1]
  have HSub : Hid ((e1 : Int) - ((at_ : Int) + 2) = (n : Int)) := by show _ = _; omega
  clear he1
  go_wp2_with fail
  with_reducible refine (is_any text _ e1 39 _ _ rfl b39).mono ?_
  rintro e w' ⟨rfl, rfl⟩
  rw [← H1.out]
  cases b1 with
  | false =>
    have HF : Hid (o = none) := HO.out.trans (if_neg (by simp))
    go_wp2_with fail
    exact bodyPost_ret (v := .tuple #[.agg #[.int .u8 0, .string ⟨#[]⟩, .int .i64 0], .int .i64 0, .bool false]) (by simp [results, Tryd.results17, go_sem]) rfl (TP.no HF.out ((Below.refl _ _).alloc (Nat.le_refl _) _))
  | true =>
    have hsub := HSub.out
    rcases Nat.mod_two_eq_zero_or_one n with h2 | h2
    · obtain ⟨m, rfl⟩ : ∃ m, n = 2 * m := ⟨n / 2, by omega⟩
      have t1 : (((2 * m : Nat) : Int) % 2 == 1) = false := by simp
      have t1b : ((2 * (m : Int)) % 2 == 1) = false := by simp
      by_cases h200 : m ≤ 200
      · have HT : Hid (o = some (4, _, 2 + 2 * m + 1)) := HO.out.trans (if_pos ⟨⟨rfl, by omega⟩, by omega⟩)
        have t2 : decide ((200 : Int) < (m : Int)) = false := by simp; omega
        have hmI : (2 * (m : Int)) / 2 = (m : Int) := by omega
        clear h2 HO
        obtain ⟨r, hr⟩ : ∃ r, r = text.data.toList.drop (at_ + 2) := ⟨_, rfl⟩
        rw [← hr] at HT HH
        have HRd := hide hr
        clear hr
        go_wp2_with (at_make; refine wpList_make_full _ rfl _ _ 45 rfl (w.heap.size + 1) 5 i0 _ 1 Tryd.underlying45 hi0 hz0 hz1 .i64 .i64 _ _ m rfl rfl (by omega) (by omega) (by rw [hz2]; omega) (by unfold maxLen; omega) (by simp) ?_; intro w2 hown2 hg2; have HB2 : Hid (Below w.heap.size w w2) := Below.grown ((Below.refl _ _).alloc (Nat.le_refl _) _) hg2 (by simp) (by simp); have HK2 : Hid (Blk w2 w.heap.size 32 tokZ) := Blk.grown (Blk.new w _ _) hg2 (by simp); have HO2 : Hid (w2.ownsRow (w.heap.size + 1) 5 1 (.slice (some ⟨w.heap.size + 1, 0, none⟩) m m) m (List.replicate m (.int .u8 0))) := (by have := hown2; rw [Nat.mul_one, World.size_alloc] at this; exact (toList_madeCells_one (.int .u8 0) m) ▸ this); have hsz2 : w.heap.size + 1 ≤ w2.heap.size := (by have := hg2.size; simp at this; omega); clear hown2 hg2)
        clear hsub t1 t1b hmI t2
        go_loopw [42] (fun i wr => ∃ k : Nat, i = .int .i64 (k : Nat) ∧ PR w r m k (w.heap.size + 1) wr) (fun i _ => m - (intOf i).toNat)
        case atStart => exact ⟨0, rfl, Nat.zero_le _, by simpa [pairUp] using HO2.out, HB2.out, HK2.out, hsz2⟩
        case round =>
          obtain ⟨k, rfl, hk, hown, hbel, hblk, hsz⟩ := hrel
          clear HO2 HB2 HK2 hsz2
          have HO1 := hide hown
          have HB := hide hbel
          have HK := hide hblk
          clear hown hbel hblk
          by_cases hlt : k < m
          · obtain ⟨ca, hca, hxa⟩ := HH.out (2 * k) (by omega)
            obtain ⟨cb, hcb, hxb⟩ := HH.out (2 * k + 1) (by omega)
            have HNx := hide (pairUp_next hca hcb)
            have HP := hide (pair_nat hxa hxb)
            have HXa := hide hxa
            have HXb := hide hxb
            have ia : at_ + 2 + 2 * k < text.size := by omega
            have ib : at_ + 2 + 2 * k + 1 < text.size := by omega
            have hsa : text[at_ + 2 + 2 * k] = ca := by
              obtain ⟨c, h1, h2⟩ := str_at ia
              rw [HRd.out, List.getElem?_drop, h1] at hca
              injection hca with hca
              rw [h2, hca]
            have hsb : text[at_ + 2 + 2 * k + 1] = cb := by
              obtain ⟨c, h1, h2⟩ := str_at ib
              rw [HRd.out, List.getElem?_drop, show at_ + 2 + (2 * k + 1) = at_ + 2 + 2 * k + 1 by omega, h1] at hcb
              injection hcb with hcb
              rw [h2, hcb]
            have hlen : (pairUp (r.take (2 * k))).length = k := pairUp_len k _ (by
              have := (List.getElem?_eq_some_iff.1 hca).1
              rw [List.length_take]; omega)
            have HS := hide (World.ownsRow.stored HO1.out k (B8 (Lex.pair ca cb))).1
            have HSm := hide (set_mid ((pairUp (r.take (2 * k))).map B8) k m (.int .u8 0) (B8 (Lex.pair ca cb)) (by rw [List.length_map]; exact hlen) hlt)
            have hl0 : k < ((pairUp (r.take (2 * k))).map B8 ++ List.replicate (m - k) (Value.int .u8 0)).length := by rw [List.length_append, List.length_map, hlen, List.length_replicate]; omega
            have hc0 : wr.cell? ⟨w.heap.size + 1, k, none⟩ = some (((pairUp (r.take (2 * k))).map B8 ++ List.replicate (m - k) (Value.int .u8 0))[k]) := by
              rw [World.ownsRow.cellAt HO1.out k (by omega)]
              exact List.getElem?_eq_getElem hl0
            obtain ⟨old, hold⟩ : ∃ x, x = (((pairUp (r.take (2 * k))).map B8 ++ List.replicate (m - k) (Value.int .u8 0))[k]) := ⟨_, rfl⟩
            rw [← hold] at hc0
            have hf0 := World.ownsRow.frozenAt HO1.out k
            have hwl := worth_lt hxa
            have hwl2 := worth_lt hxb
            have HOr := hide (or4 _ _ hwl hwl2)
            clear hold hca hcb hxa hxb hlen hl0
            have hkI : (k : Int) < (m : Int) := by omega
            go_wp2_with fail
            refine wp_region_still_tail 20 (by kernel_rfl) (by kernel_rfl) ?_
            obtain ⟨w3, hw3⟩ : ∃ x : World, x = { wr with drawn := wr.drawn + 1 } := ⟨_, rfl⟩
            rw [← hw3]
            have hq3 : w3 = wr.drewN 1 := hw3
            have d0 : w3.cell? ⟨w.heap.size + 1, k, none⟩ = some old := by rw [hw3]; exact hc0
            have g0 : w3.frozen? ⟨w.heap.size + 1, k, none⟩ = false := by rw [hw3]; exact hf0
            have HO3 := hide (Own.drewE (show Own _ _ _ _ _ _ _ from HO1.out) hq3)
            have HB3 := hide (Below.drewE HB.out hq3)
            have HK3 := hide (HK.out.drewE hq3)
            have hz3 : w.heap.size + 1 ≤ w3.heap.size := by rw [hw3]; exact hsz
            clear hw3 hq3 hc0 hf0 HO1 HB HK HS
            have s1 : IntKind.i64.wrap (2 * (k : Int)) = 2 * (k : Int) := IntWalk.i64_in _ (by omega)
            have s2 : IntKind.i64.wrap ((at_ : Int) + 2 + 2 * (k : Int)) = (at_ : Int) + 2 + 2 * (k : Int) := IntWalk.i64_in _ (by omega)
            have s3 : IntKind.i64.wrap ((at_ : Int) + 2 + 2 * (k : Int) + 1) = (at_ : Int) + 2 + 2 * (k : Int) + 1 := IntWalk.i64_in _ (by omega)
            have s4 : ((at_ : Int) + 2 + 2 * (k : Int)).toNat = at_ + 2 + 2 * k := by omega
            have s5 : ((at_ : Int) + 2 + 2 * (k : Int) + 1).toNat = at_ + 2 + 2 * k + 1 := by omega
            have s6 : (0 : Int) ≤ (at_ : Int) + 2 + 2 * (k : Int) := by omega
            have s7 : (0 : Int) ≤ (at_ : Int) + 2 + 2 * (k : Int) + 1 := by omega
            have s8 : (at_ : Int) + 2 + 2 * (k : Int) < (text.size : Int) := by omega
            have s9 : (at_ : Int) + 2 + 2 * (k : Int) + 1 < (text.size : Int) := by omega
            simp only [List.take_succ_cons, List.take_zero, List.drop_succ_cons, List.drop_zero]
            iterate 8 still_step
            still_call ((worth_any ca _ HXa.out).mono fun _ _ h => ⟨h.1, h.2.symm⟩)
            have s10 : IntKind.u8.wrap (((Lex.worth ca : Nat) : Int) * 16) = ((Lex.worth ca : Nat) : Int) * 16 := IntWalk.u8_in _ (by omega)
            have s11 := HOr.out
            iterate 8 still_step
            still_call ((worth_any cb _ HXb.out).mono fun _ _ h => ⟨h.1, h.2.symm⟩)
            iterate 2 still_step
            refine wpStill_nil ?_
            clear s1 s2 s3 s4 s5 s6 s7 s8 s9 s10 s11
            go_wp2_with fail
            go_roundw
            case rel =>
              have hv : Value.int .u8 (((Lex.worth ca : Nat) : Int) * 16 + ((Lex.worth cb : Nat) : Int)) = B8 (Lex.pair ca cb) := by
                unfold B8
                rw [HP.out]
                simp
              rw [hv]
              have h4 := (World.ownsRow.stored (Own.row HO3.out) k (B8 (Lex.pair ca cb))).1
              rw [HSm.out] at h4
              refine ⟨k + 1, by go_num, hlt, ?_, HB3.out.setCell (show w.heap.size ≤ w.heap.size + 1 by omega) _, HK3.out.far (show w.heap.size ≠ w.heap.size + 1 by omega) _, by simpa using hz3⟩
              rw [HNx.out, List.map_append]
              exact h4
            case measure => simp [intOf]; omega
          · obtain rfl : k = m := by omega
            have hown := HO1.out
            rw [Nat.sub_self, List.replicate_zero, List.append_nil] at hown
            have ec := (Rb.own hown).run_string (P := Tryd.prog) 45 5 9 k Tryd.underlying45 Tryd.underlying5 Tryd.underlying9
            have hblk := HK.out
            have d0 : wr.cell? ⟨w.heap.size, 0, none⟩ = some (.int .u8 0) := hblk.cell 0
            have d1 : wr.cell? ⟨w.heap.size, 1, none⟩ = some (.string ⟨#[]⟩) := hblk.cell 1
            have d2 : wr.cell? ⟨w.heap.size, 2, none⟩ = some (.int .i64 0) := hblk.cell 2
            have f0 := hblk.frozen 0
            have f1 := hblk.frozen 1
            have f2 := hblk.frozen 2
            have hlt0 := hblk.lt
            obtain ⟨sb, hsb⟩ : ∃ s : ByteArray, s = ⟨(pairUp (r.take (2 * k))).toArray⟩ := ⟨_, rfl⟩
            rw [← hsb] at ec
            have HSB := hide hsb
            have HE2 : Hid (((e1 : Int) + 1) = ((at_ + (2 + 2 * k + 1) : Nat) : Int)) := by have := HE1.out; show _ = _; omega
            clear hown hblk hsb
            go_wp2_with fail
            exact bodyPost_ret (v := .tuple #[.agg #[.int .u8 4, .string sb, .int .i64 0], .int .i64 ((e1 : Int) + 1), .bool true]) (by simp [results, Tryd.results17, go_sem, d0, d1, d2]) rfl (TP.yes HT.out rfl HSB.out HE2.out (((HB.out.setCell (Nat.le_refl _) _).setCell (Nat.le_refl _) _).setCell (Nat.le_refl _) _))
      · have HF : Hid (o = none) := HO.out.trans (if_neg (by rintro ⟨_, h⟩; omega))
        have t2 : decide ((200 : Int) < (m : Int)) = true := by simp; omega
        have hmI : (2 * (m : Int)) / 2 = (m : Int) := by omega
        clear h2 HO
        go_wp2_with fail
        exact bodyPost_ret (v := .tuple #[.agg #[.int .u8 0, .string ⟨#[]⟩, .int .i64 0], .int .i64 0, .bool false]) (by simp [results, Tryd.results17, go_sem]) rfl (TP.no HF.out ((Below.refl _ _).alloc (Nat.le_refl _) _))
    · obtain ⟨m, rfl⟩ : ∃ m, n = 2 * m + 1 := ⟨n / 2, by omega⟩
      have HF : Hid (o = none) := HO.out.trans (if_neg (by rintro ⟨⟨_, h⟩, _⟩; omega))
      have t1 : (((2 * m + 1 : Nat) : Int) % 2 == 1) = true := by rw [beq_iff_eq]; omega
      have t1b : ((2 * (m : Int) + 1) % 2 == 1) = true := by rw [beq_iff_eq]; omega
      clear h2 HO
      go_wp2_with fail
      exact bodyPost_ret (v := .tuple #[.agg #[.int .u8 0, .string ⟨#[]⟩, .int .i64 0], .int .i64 0, .bool false]) (by simp [results, Tryd.results17, go_sem]) rfl (TP.no HF.out ((Below.refl _ _).alloc (Nat.le_refl _) _))
end Go.Proofs.YtfoolkjamadfdaaDoor
