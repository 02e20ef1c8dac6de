/-
  The walk of verkey.Part: the key and the number that make just these bytes, or none. Conditions: the slice reads as a list of bytes, of at most 2^45 bytes.
-/
import Derived.Test.YtlkeibpaleiemaaVer
namespace Go.Proofs.Ytlkeibpaleiemaa
open Go.RowKit

theorem dec_cons (c : UInt8) (l : List UInt8) : dec (c :: l) = c :: dec (if c = 0 then l.drop 1 else l) := by
  cases l with
  | nil => simp [dec]
  | cons d l => simp only [dec]; split <;> rfl
theorem dec_len : ∀ (n : Nat) (l : List UInt8), l.length ≤ n → (dec l).length ≤ l.length := by
  intro n
  induction n with
  | zero => intro l h; have : l = [] := List.eq_nil_of_length_eq_zero (by omega); subst this; simp [dec]
  | succ n ih =>
    intro l h
    cases l with
    | nil => simp [dec]
    | cons c l =>
      rw [dec_cons]
      simp only [List.length_cons] at h ⊢
      split
      · have := ih (l.drop 1) (by simp; omega)
        rw [List.length_drop] at this
        omega
      · have := ih l (by omega)
        omega
/-- One round of the reading. -/
theorem dec_step (l : List UInt8) (e j : Nat) (c : UInt8) (key D : List UInt8) (hj : j < e) (he : e ≤ l.length) (hc : l[j]? = some c) (h : key ++ dec ((l.take e).drop j) = D) :
    (key ++ [c]) ++ dec ((l.take e).drop (j + 1 + (if c = 0 then 1 else 0))) = D := by
  have hl : j < (l.take e).length := by simp; omega
  have hg : (l.take e)[j] = c := by
    have := List.getElem?_take_of_lt (l := l) hj
    rw [hc, List.getElem?_eq_getElem hl] at this
    injection this
  rw [List.drop_eq_getElem_cons hl, hg, dec_cons] at h
  rw [← h, List.append_assoc]
  congr 2
  split <;> simp [List.drop_drop]
theorem drop_past (l : List UInt8) (e j : Nat) (h : e ≤ j) : dec ((l.take e).drop j) = [] := by
  rw [List.drop_eq_nil_of_le (by simp; omega)]
  rfl

/-- What the program's way of reading comes to. -/
theorem vpart_prog_some (l : List UInt8) (h1 : vmay (dec (l.take (l.length - 8))).dropLast (18446744073709551615 - beVal (l.drop (l.length - 8))) = true) (h2 : vjoin (dec (l.take (l.length - 8))).dropLast (18446744073709551615 - beVal (l.drop (l.length - 8))) = l) :
    vpart l = some ((dec (l.take (l.length - 8))).dropLast, 18446744073709551615 - beVal (l.drop (l.length - 8))) := (vpart_some _ _ _).2 ⟨h1, h2⟩
theorem vpart_prog_none (l : List UInt8) (h : dec (l.take (l.length - 8)) = [] ∨ 4611686018427387904 < 18446744073709551615 - beVal (l.drop (l.length - 8)) ∨ vmay (dec (l.take (l.length - 8))).dropLast (18446744073709551615 - beVal (l.drop (l.length - 8))) = false ∨ vjoin (dec (l.take (l.length - 8))).dropLast (18446744073709551615 - beVal (l.drop (l.length - 8))) ≠ l) :
    vpart l = none := by
  refine vpart_none l fun k n hm hj => ?_
  subst hj
  have hn : n ≤ 4611686018427387904 := by simp [vmay] at hm; omega
  obtain ⟨e1, e2⟩ := vread k n hn
  rw [e1, e2] at h
  have e3 : 18446744073709551615 - (18446744073709551615 - n) = n := by omega
  rw [e3, List.dropLast_concat] at h
  rcases h with h | h | h | h
  · simp at h
  · omega
  · rw [hm] at h; cases h
  · exact h rfl
theorem vpart_short (l : List UInt8) (h : l.length < 8) : vpart l = none := by
  unfold vpart
  rw [if_pos (by omega)]

def PartPost (w : World) (l : List UInt8) (e : Ending) (w' : World) : Prop :=
  (∃ k n v, vpart l = some (k, n) ∧ e = .returned (.tuple #[v, .int .i64 (n : Nat), .bool true]) ∧ w'.ownsRow w.heap.size 5 1 v k.length (k.map B8) ∧ Below w.heap.size w w') ∨
  (vpart l = none ∧ e = .returned (.tuple #[.slice none 0 0, .int .i64 0, .bool false]) ∧ Below w.heap.size w w')

set_option maxHeartbeats 1000000 in
theorem part_any (A : Option Addr) (n c : Nat) (l : List UInt8) (w : World) (hl : Rb w w.heap.size A n l) (hn : n ≤ 35184372088832) :
    Calls Try.prog 15 #[.slice A n c] w (PartPost w l) := by
  have HL := hide hl
  have HN := hide hl.len
  clear hl
  by_cases h8 : n < 8
  · have HV := hide (vpart_short l (by rw [HN.out]; exact h8))
    go_enter Try.func15, Try.ntmps15
    go_wp2_with fail
    refine (u64_no A n c _ _ (by omega) (by unfold maxLen; omega)).mono ?_
    rintro e w1 ⟨rfl, rfl⟩
    go_wp2
    go_ret3
    exact .inr ⟨HV.out, rfl, Below.refl _ _⟩
  · obtain ⟨E, rfl⟩ : ∃ E, n = E + 8 := ⟨n - 8, by omega⟩
    go_enter Try.func15, Try.ntmps15
    go_wp2_with fail
    refine (u64_yes A (E + 8) c l E _ HL.out (by omega) (by unfold maxLen; omega)).mono ?_
    rintro e w1 ⟨rfl, rfl⟩
    have hV : rev8 (leAt l E 8) = beVal (l.drop (l.length - 8)) := by
      rw [leAt, List.take_of_length_le (by rw [List.length_drop, HN.out]; omega), rev_le _ (by rw [List.length_drop, HN.out]; omega), HN.out]
      rfl
    have HV := hide hV
    have hvl : leAt l E 8 < 18446744073709551616 := leAt_lt l E 8
    clear hV
    generalize leAt l E 8 = V at *
    obtain ⟨D, hD⟩ : ∃ D, D = dec (l.take E) := ⟨_, rfl⟩
    have hDl : D.length ≤ E := by
      have := dec_len _ (l.take E) (Nat.le_refl _)
      rw [hD]
      simp at this
      omega
    have HD := hide hD
    clear hD
    go_wp2_with fail
    go_loopw [8, 9] (fun v i wr => ∃ (j : Nat) (key : List UInt8), j ≤ E + 1 ∧ i = .int .i64 (j : Nat) ∧ key.length ≤ j ∧ Hid (key ++ dec ((l.take E).drop j) = D) ∧ wr.ownsRow w.heap.size 5 1 v key.length (key.map B8) ∧ Below w.heap.size w wr) (fun _ i _ => E + 1 - (intOf i).toNat)
    case atStart => exact ⟨0, [], by omega, rfl, by simp, HD.out.symm, own_nil _ _ _ _, Below.refl _ _⟩
    case round =>
      obtain ⟨j, key, hj, rfl, hkj, HK, hown, hbel⟩ := hrel
      have HO := hide hown
      have HB := hide hbel
      have hsz := hbel.size
      clear hown hbel
      by_cases hlt : j < E
      · have HLr := hide (HL.out.below HB.out (Nat.le_refl _))
        obtain ⟨b, off, ch, rfl, hb, hch, hcell⟩ := HLr.out.at (show j < E + 8 by omega)
        have HE := hide (dec_step l E j ch key D hlt (by rw [HN.out]; omega) hch HK.out)
        clear hch
        have hz : ((ch.toNat : Int) == 0) = decide (ch = 0) := by
          rw [Bool.eq_iff_iff]
          simp only [beq_iff_eq, decide_eq_true_eq]
          constructor
          · intro h; exact UInt8.toNat_inj.1 (by simpa using h)
          · intro h; subst h; rfl
        by_cases h0 : ch = 0
        · subst h0
          clear hz
          go_wp2_with (at_builtin; refine wpList_appL bt rfl (.tmp 29) (.tmp 34) rfl w.heap.size _ key.length key rfl HO.out _ 1 1 [0] rfl rfl rfl rfl (by omega) hsz ?_; intro v3 w3 hown3 hb3 _; have HO3 := hide hown3; have HB3 := hide (HB.out.trans hb3); have hc3 : w3.cell? ⟨b, off + j, none⟩ = some (.int .u8 0) := (HB3.out.cell (by exact hb)).trans ((HB.out.cell (by exact hb)).symm.trans hcell); clear hown3 hb3)
          go_roundw
          case rel =>
            refine ⟨j + 2, key ++ [0], by omega, by go_num, by simp; omega, ?_, by simpa using HO3.out, HB3.out⟩
            have := HE.out
            rw [if_pos rfl] at this
            exact this
          case measure => simp [intOf]; omega
        · have hd : decide (ch = 0) = false := by simp [h0]
          go_wp2_with (at_builtin; refine wpList_appL bt rfl (.tmp 29) (.tmp 34) rfl w.heap.size _ key.length key rfl HO.out _ 1 1 [ch] rfl rfl rfl rfl (by omega) hsz ?_; intro v3 w3 hown3 hb3 _; have HO3 := hide hown3; have HB3 := hide (HB.out.trans hb3); have hc3 : w3.cell? ⟨b, off + j, none⟩ = some (.int .u8 (ch.toNat : Int)) := (HB3.out.cell (by exact hb)).trans ((HB.out.cell (by exact hb)).symm.trans hcell); clear hown3 hb3)
          go_roundw
          case rel =>
            refine ⟨j + 1, key ++ [ch], by omega, by go_num, by simp; omega, ?_, by simpa using HO3.out, HB3.out⟩
            have := HE.out
            rw [if_neg h0] at this
            exact this
          case measure => simp [intOf]; omega
      · have hK : key = D := by
          have := HK.out
          rw [drop_past l E j (by omega), List.append_nil] at this
          exact this
        have HOD : Hid (wr.ownsRow w.heap.size 5 1 u8 D.length (D.map B8)) := by rw [← hK]; exact HO.out
        clear hK HK HO hkj
        have HLr := hide ((HL.out.below HB.out (Nat.le_refl _)).more hsz)
        have hE : l.length - 8 = E := by rw [HN.out]; omega
        have HSome := vpart_prog_some l
        have HNone := vpart_prog_none l
        rw [hE, ← HD.out, ← hE, ← HV.out] at HSome HNone
        have HS := hide HSome
        have HNo := hide HNone
        clear HSome HNone hE
        obtain ⟨A1, c1, rfl, _⟩ := own_form HOD.out
        go_wp2_with fail
        refine (reverse_any V _ hvl).mono ?_
        rintro e w2 ⟨rfl, rfl⟩
        have hrl := rev8_lt V
        generalize rev8 V = R at *
        by_cases hD0 : D.length = 0
        · have hb0 : ((D.length : Int) == 0) = true := by simp [hD0]
          have HN' := hide (HNo.out (.inl (List.eq_nil_of_length_eq_zero hD0)))
          clear hD0
          go_wp2_with fail
          go_ret3
          exact .inr ⟨HN'.out, rfl, HB.out⟩
        · have hb0 : ((D.length : Int) == 0) = false := by simp [hD0]
          by_cases hM : 4611686018427387904 < 18446744073709551615 - R
          · have HN' := hide (HNo.out (.inr (.inl hM)))
            have hd : decide ((4611686018427387904 : Int) < 18446744073709551615 - (R : Int)) = true := by simp; omega
            clear hM
            go_wp2_with fail
            go_ret3
            exact .inr ⟨HN'.out, rfl, HB.out⟩
          · have hd : decide ((4611686018427387904 : Int) < 18446744073709551615 - (R : Int)) = false := by simp; omega
            obtain ⟨g, cp, hv, hg1, hg2, hc1, hc2⟩ := own_pos HOD.out (by omega)
            injection hv with e1 e2 e3
            subst e1 e3
            have HOK := hide (own_take HOD.out (show D.length - 1 ≤ D.length by omega))
            rw [← List.dropLast_eq_take] at HOK
            have hKl : D.dropLast.length = D.length - 1 := by simp
            go_wp2_with fail
            rw [show (18446744073709551615 : Int) - (R : Int) = ((18446744073709551615 - R : Nat) : Int) by omega]
            clear hd
            generalize hMM : 18446744073709551615 - R = M at *
            clear hMM
            by_cases hk : 1 ≤ D.length - 1 ∧ D.length - 1 ≤ 128
            · obtain ⟨hk1, hk2⟩ := hk
              have hmay : vmay D.dropLast M = true := by unfold vmay; rw [hKl]; simp; omega
              refine (join_yes _ _ _ D.dropLast M _ (Rb.own HOK.out) hk1 hk2 (by omega)).mono ?_
              rintro e w3 ⟨v3, rfl, hown3, hb3⟩
              have HO3 := hide hown3
              have HB3 := hide hb3
              clear hown3 hb3
              obtain ⟨A3, c3, rfl, _⟩ := own_form HO3.out
              go_wp2_with fail
              refine (same_any A3 A _ c3 _ c (vjoin D.dropLast M) l _ _ _ (Rb.own HO3.out) (HLr.out.below HB3.out (Nat.le_refl _))).mono ?_
              rintro e w4 ⟨rfl, rfl⟩
              by_cases heq : vjoin D.dropLast M = l
              · have HS' := hide (HS.out hmay heq)
                have hbq : (vjoin D.dropLast M == l) = true := by simp [heq]
                rw [hbq]
                clear hbq heq hmay
                go_wp2_with fail
                go_ret3
                refine .inl ⟨D.dropLast, M, _, HS'.out, rfl, ?_, HB.out.trans (HB3.out.mono hsz)⟩
                rw [hKl]
                exact own_below HOK.out HB3.out
              · have HN' := hide (HNo.out (.inr (.inr (.inr heq))))
                have hbq : (vjoin D.dropLast M == l) = false := by simp [heq]
                rw [hbq]
                clear hbq heq hmay
                go_wp2_with fail
                go_ret3
                exact .inr ⟨HN'.out, rfl, HB.out.trans (HB3.out.mono hsz)⟩
            · have HN' := hide (HNo.out (.inr (.inr (.inl (by unfold vmay; rw [hKl]; simp; omega)))))
              refine (join_no _ _ _ _ _ (by omega)).mono ?_
              rintro e w3 ⟨rfl, rfl⟩
              go_wp2_with fail
              go_ret3
              exact .inr ⟨HN'.out, rfl, HB.out⟩
end Go.Proofs.Ytlkeibpaleiemaa
