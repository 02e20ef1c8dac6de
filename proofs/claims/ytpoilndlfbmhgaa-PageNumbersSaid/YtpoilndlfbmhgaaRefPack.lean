/-
  The walk of chanceryref07.Pack: it is Pag.pack. IN WORK (not clean).
-/
import Derived.Test.YtpoilndlfbmhgaaRefR
namespace Go.Proofs.Ytpoilndlfbmhgaa
open Go.RowKit

theorem rAdd2 (A : Option Addr) (n c : Nat) (l : List UInt8) (v : Nat) (w : World) (hl : Rb w w.heap.size A n l) (hv : v < 18446744073709551616) (hn : n + 8 ≤ 140737488355328) :
    Calls Try.prog 39 #[.slice A n c, .int .u64 (v : Int), .int .i64 2] w fun e w' => ∃ A' c', e = .returned (.slice A' (n + 2) c') ∧ w'.ownsRow w.heap.size 5 1 (.slice A' (n + 2) c') (n + 2) ((l ++ Pag.leL v 2).map B8) ∧ Below w.heap.size w w' := by
  refine (rAdd_any A n c l v 2 w hl (by omega) hv hn).mono ?_
  rintro e w' ⟨r, rfl, hown, hb⟩
  rw [leB2] at hown
  obtain ⟨A', c', rfl⟩ := own_sl hown
  exact ⟨A', c', rfl, hown, hb⟩
theorem rAdd4 (A : Option Addr) (n c : Nat) (l : List UInt8) (v : Nat) (w : World) (hl : Rb w w.heap.size A n l) (hv : v < 18446744073709551616) (hn : n + 8 ≤ 140737488355328) :
    Calls Try.prog 39 #[.slice A n c, .int .u64 (v : Int), .int .i64 4] w fun e w' => ∃ A' c', e = .returned (.slice A' (n + 4) c') ∧ w'.ownsRow w.heap.size 5 1 (.slice A' (n + 4) c') (n + 4) ((l ++ Pag.leL v 4).map B8) ∧ Below w.heap.size w w' := by
  refine (rAdd_any A n c l v 4 w hl (by omega) hv hn).mono ?_
  rintro e w' ⟨r, rfl, hown, hb⟩
  rw [leB4] at hown
  obtain ⟨A', c', rfl⟩ := own_sl hown
  exact ⟨A', c', rfl, hown, hb⟩
set_option linter.unusedVariables false in
set_option maxRecDepth 100000 in
set_option maxHeartbeats 1600000 in
theorem rPack_any (kd : UInt8) (nx : Int) (A : Option Addr) (n c : Nat) (cs : List Pag.Ce) (w : World) (hl : CeRd w w.heap.size A n cs) (hn : n ≤ 4000000000000) :
    Calls Try.prog 10 #[.agg #[.int .u8 (kd.toNat : Int), .int .i64 nx, .slice A n c]] w (BE w (Pag.pack ⟨kd, nx, cs⟩)) := by
  have HL := hide hl
  have HN := hide hl.1
  obtain ⟨i0, hi0, hz0, hz1, hz2⟩ := info_parts info8
  obtain ⟨w1, hw1⟩ : ∃ w1, w1 = w.alloc (.cells #[.int .u8 (kd.toNat : Int), .int .i64 nx, .slice A n c] 25) := ⟨_, rfl⟩
  have HK : Hid (Blk w1 w.heap.size 25 #[.int .u8 (kd.toNat : Int), .int .i64 nx, .slice A n c]) := by rw [hw1]; exact Blk.new _ _ _
  have HB : Hid (Below w.heap.size w w1) := by rw [hw1]; exact (Below.refl _ _).alloc (Nat.le_refl _) _
  have hs1 : w.heap.size < w1.heap.size := by rw [hw1]; simp
  clear hl
  go_enter Try.func10, Try.ntmps10
  go_upto_region 1 with fail
  rw [← hw1]
  clear hw1
  have k0 := HK.out.cell 0
  have k1 := HK.out.cell 1
  have k2 := HK.out.cell 2
  simp at k0 k1 k2
  go_wp2_with fail
  with_reducible refine (rRight_any kd nx A n c cs _ (by exact (HL.out.below HB.out (Nat.le_refl _)).more (by omega)) hn).mono ?_
  rintro e w2 ⟨rfl, hb2⟩
  have HB2 := hide (HB.out.trans (hb2.mono (Nat.le_of_lt hs1)))
  have HK2 := hide (HK.out.below hb2 hs1)
  have hs2 := hb2.size
  clear hb2 k0 k1 k2
  cases hr : Pag.rightB ⟨kd, nx, cs⟩ with
  | false =>
    have HP : Hid (Pag.pack ⟨kd, nx, cs⟩ = (2, [])) := by show _ = _; unfold Pag.pack; rw [if_pos hr]
    clear hr
    go_wp2_with fail
    go_ret2
    exact BE.err 2 HP.out HB2.out
  | true =>
    have hmay := Pag.right_may hr
    obtain ⟨hn1, hn2⟩ := Pag.right_next hr
    simp only at hmay hn1 hn2
    obtain ⟨x, rfl⟩ : ∃ x : Nat, nx = (x : Int) := ⟨nx.toNat, by omega⟩
    have HRt := hide hr
    have HMay := hide hmay
    clear hr hmay hn1
    have k0 := HK2.out.cell 0
    have k1 := HK2.out.cell 1
    have k2 := HK2.out.cell 2
    simp at k0 k1 k2
    go_wp2_with fail
    with_reducible refine (rTaken_any kd (x : Int) A n c cs _ (by exact (HL.out.below HB2.out (Nat.le_refl _)).more (by omega)) HMay.out hn).mono ?_
    rintro e w3 ⟨rfl, hb3⟩
    have HB3 := hide (HB2.out.trans (hb3.mono (by omega)))
    have HK3 := hide (HK2.out.below hb3 (by omega))
    have hs3 := hb3.size
    clear hb3 k0 k1 k2
    obtain ⟨tk, htk⟩ : ∃ tk, tk = Pag.taken cs := ⟨_, rfl⟩
    rw [← htk]
    have HTk := hide htk
    clear htk
    by_cases hfull : 4072 < tk
    · have HP : Hid (Pag.pack ⟨kd, (x : Int), cs⟩ = (5, [])) := by
        show _ = _
        unfold Pag.pack
        rw [if_neg (by rw [HRt.out]; simp), if_pos (by rw [← HTk.out]; exact hfull)]
      have t1 : (4080 : Int) < ((8 + tk : Nat) : Int) := by omega
      go_wp2_with fail
      go_ret2
      exact BE.err 5 HP.out HB3.out
    · have t1 : ¬ (4080 : Int) < ((8 + tk : Nat) : Int) := by omega
      have hn3 : n ≤ 1000 := by
        have := Pag.taken_len cs (by rw [← HTk.out]; omega)
        rw [HN.out]
        exact this
      have HP : Hid (Pag.pack ⟨kd, (x : Int), cs⟩ = (0, Pag.front ⟨kd, (x : Int), cs⟩ ++ List.replicate (4080 - (Pag.front ⟨kd, (x : Int), cs⟩).length) 0)) := Pag.pack_ok.2 ⟨HRt.out, by show Pag.taken cs ≤ 4072; rw [← HTk.out]; omega, rfl⟩
      have k0 := HK3.out.cell 0
      simp at k0
      obtain ⟨w4, hw4⟩ : ∃ w4, w4 = w3.alloc (.cells #[.int .u8 (kd.toNat : Int), .int .u8 0] 5) := ⟨_, rfl⟩
      have hb4 : Below w3.heap.size w3 w4 := by rw [hw4]; exact (Below.refl _ _).alloc (Nat.le_refl _) _
      have HR4 : Hid (Rb w4 w4.heap.size (some ⟨w3.heap.size, 0, none⟩) 2 [kd, 0]) := by
        have := Rb.lit w3 5 [kd, 0] (0, 0)
        rw [hw4]
        exact this
      have HB4 := hide hb4
      have hs4 := hb4.size
      have HK4 := hide (HK3.out.below hb4 (by omega))
      clear hb4
      go_upto_region 6 with fail
      rw [← hw4]
      clear hw4 k0
      have m2 := HK4.out.cell 2
      simp at m2
      go_wp2_with fail
      with_reducible refine (rAdd2 (some ⟨w3.heap.size, 0, none⟩) 2 2 [kd, 0] n _ HR4.out (by omega) (by omega)).mono ?_
      rintro e w6 ⟨A6, c6, rfl, hown6, hb6⟩
      have HO6 := hide (own_base hown6 hs4)
      have HR6 := hide (Rb.own hown6)
      have HB6 := hide (HB4.out.trans (hb6.mono hs4))
      have hs6 := HB6.out.size
      clear hown6 hb6 m2
      have HK6 := hide (HK3.out.below HB6.out (by omega))
      have m1 := HK6.out.cell 1
      simp at m1
      have u64x : IntKind.u64.wrap (x : Int) = (x : Int) := by rw [IntKind.wrap_u64]; omega
      go_wp2_with fail
      with_reducible refine (rAdd4 A6 (2 + 2) c6 ([kd, 0] ++ Pag.leL n 2) x _ HR6.out (by omega) (by omega)).mono ?_
      rintro e w8 ⟨A8, c8, rfl, hown8, hb8⟩
      have HO8 := hide (own_base hown8 hs6)
      have HB8 := hide (HB6.out.trans (hb8.mono hs6))
      have hs8 := HB8.out.size
      clear hown8 hb8 m1
      have HK8 := hide (HK3.out.below HB8.out (by omega))
      have m2 := HK8.out.cell 2
      simp at m2
      obtain ⟨P1, hP1⟩ : ∃ P1, P1 = [kd, 0] ++ Pag.leL n 2 ++ Pag.leL x 4 := ⟨_, rfl⟩
      have hP1l : P1.length = 8 := by rw [hP1]; simp [Pag.leL]
      rw [← hP1] at HO8
      have HP1 := hide hP1
      have HP1l := hide hP1l
      have htn : ∀ k, k ≤ n → Pag.offAt (8 + 2 * n) (cs.take k) ≤ 8 + 2 * n + tk := fun k hk => by
        have h1 := Pag.offAt_le (8 + 2 * n) (cs.take k)
        have h2 := Pag.taken_pre cs k
        rw [← HTk.out] at h2
        omega
      have HTn := hide htn
      clear hP1 hP1l htn
      go_wp2_with fail
      go_loopg [4, 5, 6] n (fun gg v at' i wr => ∃ k a : Nat, k ≤ n ∧ gg = n - k ∧ i = .int .i64 (k : Nat) ∧ at' = .int .i64 (a : Nat) ∧ Hid (a = Pag.offAt (8 + 2 * n) (cs.take k)) ∧ wr.ownsRow w3.heap.size 5 1 v (8 + 2 * k) ((P1 ++ Pag.offs (8 + 2 * n) (cs.take k)).map B8) ∧ Below w3.heap.size w3 wr)
      case atStart => exact ⟨0, 8 + 2 * n, Nat.zero_le _, rfl, rfl, int_eq (by omega), by show _ = _; simp [Pag.offAt], by simpa [Pag.offs] using HO8.out, HB8.out⟩
      case round =>
        obtain ⟨k, a, hk, rfl, rfl, rfl, HA, hown, hbel⟩ := hrel
        obtain ⟨w10, hw10⟩ : ∃ w10, w10 = wr := ⟨_, rfl⟩
        subst hw10
        obtain ⟨Ar, cr, rfl⟩ := own_sl hown
        have HO := hide hown
        have HR10 := hide (Rb.own hown)
        have HB10 := hide hbel
        have hsz := hbel.size
        have HBw := hide (HB3.out.trans (hbel.mono (by omega)))
        have HK10 := hide (HK3.out.below hbel (by omega))
        clear hown hbel m2
        have hab := HTn.out k hk
        rw [← HA.out] at hab
        have p2 := HK10.out.cell 2
        simp at p2
        by_cases hlt : k < n
        · obtain ⟨g, off, f, Ak, ck, Av, cv, rfl, hg, hf, d0, d1, hrk, h1, h2, h3, hrv, h4, h5, h6⟩ := (HL.out.below HBw.out (Nat.le_refl _)).at hlt
          have HOf := hide (Pag.offs_take (8 + 2 * n) hf)
          have HAt := hide (Pag.offAt_take (8 + 2 * n) hf)
          have hgl : g < w10.heap.size := by omega
          have hlti : (k : Int) < (n : Int) := by omega
          have u64a : IntKind.u64.wrap (a : Int) = (a : Int) := by rw [IntKind.wrap_u64]; omega
          have hab2 := HTn.out (k + 1) (by omega)
          rw [HAt.out, ← HA.out] at hab2
          go_wp2_with fail
          with_reducible refine (rAdd2 Ar (8 + 2 * k) cr (P1 ++ Pag.offs (8 + 2 * n) (cs.take k)) a _ HR10.out (by omega) (by omega)).mono ?_
          rintro e w12 ⟨A12, c12, rfl, hown12, hb12⟩
          have e0 : w12.cell? ⟨g, off + k * 2, none⟩ = some (.slice Ak f.1.length ck) := (hb12.cell (show g < w10.heap.size by omega)).trans d0
          have e1 : w12.cell? ⟨g, off + k * 2 + 1, none⟩ = some (.slice Av f.2.length cv) := (hb12.cell (show g < w10.heap.size by omega)).trans d1
          have HO12 := hide (own_base hown12 hsz)
          have HB12 := hide (HB10.out.trans (hb12.mono hsz))
          have HK12 := hide (HK10.out.below hb12 (by omega))
          have q2 := HK12.out.cell 2
          simp at q2
          clear hown12 hb12 d0 d1 hf hrk hrv p2
          go_wp2_with fail
          go_quiet (fail)
          go_wp2_with fail
          go_roundg (n - (k + 1))
          case measure => omega
          case rel =>
            refine ⟨k + 1, a + (4 + f.1.length + f.2.length), by omega, rfl, by go_num, int_eq (by omega), ?_, ?_, below_drewN' HB12.out _⟩
            · show _ = _
              rw [HAt.out, ← HA.out]
            · have := HO12.out
              rw [HA.out, List.append_assoc, ← HOf.out, show 8 + 2 * k + 2 = 8 + 2 * (k + 1) by omega] at this
              exact this
        · have hkn : k = n := by omega
          subst hkn
          have htake : cs.take k = cs := by rw [HN.out, List.take_length]
          rw [htake] at HO
          obtain ⟨P2, hP2⟩ : ∃ P2, P2 = P1 ++ Pag.offs (8 + 2 * k) cs := ⟨_, rfl⟩
          rw [← hP2] at HO
          have HP2 := hide hP2
          clear hP2 htake HA hab hlt hk HR10
          obtain ⟨n, rfl⟩ : ∃ n, n = k := ⟨_, rfl⟩
          go_wp2_with fail
          go_loopg [4, 7] n (fun gg v i wr => ∃ k a : Nat, k ≤ n ∧ gg = n - k ∧ i = .int .i64 (k : Nat) ∧ Hid (a = Pag.offAt (8 + 2 * n) (cs.take k)) ∧ wr.ownsRow w3.heap.size 5 1 v a ((P2 ++ Pag.bodies (cs.take k)).map B8) ∧ Below w3.heap.size w3 wr)
          case atStart => exact ⟨0, 8 + 2 * n, Nat.zero_le _, rfl, rfl, by show _ = _; simp [Pag.offAt], by simpa [Pag.bodies] using HO.out, HB10.out⟩
          case round =>
            obtain ⟨k, a, hk, rfl, rfl, HA, hown, hbel⟩ := hrel
            obtain ⟨w20, hw20⟩ : ∃ w20, w20 = wr := ⟨_, rfl⟩
            subst hw20
            obtain ⟨Aq, cq, rfl⟩ := own_sl hown
            have HO20 := hide hown
            have HB20 := hide hbel
            have hsz20 := hbel.size
            have HBw20 := hide (HB3.out.trans (hbel.mono (by omega)))
            have HK20 := hide (HK3.out.below hbel (by omega))
            clear hown hbel p2
            have q2 := HK20.out.cell 2
            simp at q2
            have hab := HTn.out k hk
            rw [← HA.out] at hab
            by_cases hlt : k < n
            · obtain ⟨g, off, f, Ak, ck, Av, cv, rfl, hg, hf, d0, d1, hrk, h1, h2, h3, hrv, h4, h5, h6⟩ := (HL.out.below HBw20.out (Nat.le_refl _)).at hlt
              have HBf := hide (Pag.bodies_take hf)
              have HAt := hide (Pag.offAt_take (8 + 2 * n) hf)
              have HRk := hide hrk
              have HRv := hide hrv
              have hgl : g < w20.heap.size := by omega
              have hab2 := HTn.out (k + 1) (by omega)
              rw [HAt.out, ← HA.out] at hab2
              obtain ⟨w21, hw21⟩ : ∃ w21, w21 = w20.alloc (.cells #[.slice Ak f.1.length ck, .slice Av f.2.length cv] 41) := ⟨_, rfl⟩
              have hb21 : Below w20.heap.size w20 w21 := by rw [hw21]; exact (Below.refl _ _).alloc (Nat.le_refl _) _
              have HX21 : Hid (Blk w21 w20.heap.size 41 #[.slice Ak f.1.length ck, .slice Av f.2.length cv]) := by rw [hw21]; exact Blk.new _ _ _
              have HB21 := hide (HB20.out.trans (hb21.mono hsz20))
              have HR21 := hide (Rb.own (own_below HO20.out hb21))
              have hs21 : w20.heap.size < w21.heap.size := by rw [hw21]; simp
              have u1 : IntKind.u64.wrap (f.1.length : Int) = (f.1.length : Int) := by rw [IntKind.wrap_u64]; omega
              have u2 : IntKind.u64.wrap (f.2.length : Int) = (f.2.length : Int) := by rw [IntKind.wrap_u64]; omega
              go_upto_region 18 with fail
              rw [← hw21]
              clear hw21 hb21 d0 d1 hf hrk hrv q2
              have x0 := HX21.out.cell 0
              have x1 := HX21.out.cell 1
              simp at x0 x1
              go_wp2_with fail
              with_reducible refine (rAdd2 Aq a cq (P2 ++ Pag.bodies (cs.take k)) f.1.length _ HR21.out (by omega) (by omega)).mono ?_
              rintro e w22 ⟨A22, c22, rfl, hown22, hb22⟩
              have HR22 := hide (Rb.own hown22)
              have HB22 := hide (HB21.out.trans (hb22.mono (by omega)))
              have HX22 := hide (HX21.out.below hb22 hs21)
              have hs22' := hb22.size
              clear hown22 hb22 x0 x1
              have x0 := HX22.out.cell 0
              have x1 := HX22.out.cell 1
              simp at x0 x1
              go_wp2_with fail
              with_reducible refine (rAdd2 A22 (a + 2) c22 (P2 ++ Pag.bodies (cs.take k) ++ Pag.leL f.1.length 2) f.2.length _ HR22.out (by omega) (by omega)).mono ?_
              rintro e w24 ⟨A24, c24, rfl, hown24, hb24⟩
              have HB24 := hide (HB22.out.trans (hb24.mono (by omega)))
              have HO24 := hide (own_base hown24 (show w3.heap.size ≤ w22.heap.size by omega))
              have HX24 := hide (HX22.out.below hb24 (by omega))
              have HR24 := hide (HRk.out.keep (fun p hp => (HB24.out.cell (by omega)).trans (HB20.out.cell (by omega)).symm))
              have hs24 := hb24.size
              clear hown24 hb24 x0 x1
              have x0 := HX24.out.cell 0
              have x1 := HX24.out.cell 1
              simp at x0 x1
              go_wp2_with (first
                | (at_builtin; refine wpList_app _ bt rfl (.tmp 87) (.tmp 89) rfl w3.heap.size _ (a + 2 + 2) (P2 ++ Pag.bodies (cs.take k) ++ Pag.leL f.1.length 2 ++ Pag.leL f.2.length 2) rfl HO24.out _ Ak f.1.length ck f.1 rfl HR24.out (by omega) (by omega) ?_; intro v26 w26 hown26 hb26 hg26; have HO26 := hide hown26; have HB26 := hide (HB24.out.trans hb26); have HX26 := hide (HX24.out.grown hg26 (fun e => own_blk_ne HO24.out HX24.out (by decide) e.symm)); have hs26 := hg26.size; have HR26 := hide (HRv.out.keep (fun p hp => (HB26.out.cell (by omega)).trans (HB20.out.cell (by omega)).symm)); have y0 := HX26.out.cell 0; have y1 := HX26.out.cell 1; simp at y0 y1; clear hown26 hb26 hg26 x0 x1)
                | (at_builtin; refine wpList_app _ bt rfl (.tmp 91) (.tmp 93) rfl w3.heap.size _ (a + 2 + 2 + f.1.length) (P2 ++ Pag.bodies (cs.take k) ++ Pag.leL f.1.length 2 ++ Pag.leL f.2.length 2 ++ f.1) rfl HO26.out _ Av f.2.length cv f.2 rfl HR26.out (by omega) (by omega) ?_; intro v27 w27 hown27 hb27 hg27; have HO27 := hide hown27; have HB27 := hide (HB26.out.trans hb27); clear hown27 hb27 hg27))
              go_roundg (n - (k + 1))
              case measure => omega
              case rel =>
                refine ⟨k + 1, a + 4 + f.1.length + f.2.length, by omega, rfl, by go_num, ?_, ?_, HB27.out⟩
                · show _ = _
                  rw [HAt.out, ← HA.out]
                  omega
                · have := HO27.out
                  rw [HBf.out, show a + 4 + f.1.length + f.2.length = a + 2 + 2 + f.1.length + f.2.length by omega]
                  simpa [Pag.cellB, List.append_assoc] using this
            · have hkn : k = n := by omega
              subst hkn
              have htake : cs.take k = cs := by rw [HN.out, List.take_length]
              rw [htake] at HO20 HA
              have hfr : P2 ++ Pag.bodies cs = Pag.front ⟨kd, (x : Int), cs⟩ := by
                rw [HP2.out, HP1.out, HN.out]
                simp [Pag.front, List.append_assoc]
              rw [hfr] at HO20
              have hfl := own_len HO20.out
              have HFl := hide hfl
              clear hfl hfr htake
              have hgr : a ≤ 4080 := by
                have := Pag.offAt_le (8 + 2 * k) cs
                rw [← HA.out, ← HTk.out, HN.out] at this
                omega
              go_wp2_with (at_builtin; refine wpList_appZ _ bt Try.underlying3 rfl (.tmp 95) (.tmp 98) rfl w3.heap.size _ a (Pag.front ⟨kd, (x : Int), cs⟩) rfl HO20.out (4080 - a) (int_eq (by omega)) (by omega) (by omega) ?_; intro v28 w28 hown28 hb28 hg28; have HO28 := hide hown28; have HB28 := hide (HB20.out.trans hb28); clear hown28 hb28 hg28)
              go_ret2
              have hfl := HFl.out
              have hw3 := HB3.out.size
              refine BE.ok (m := a + (4080 - a)) HP.out ?_ ?_ (HB3.out.trans (HB28.out.mono hw3))
              · simp only [List.length_append, List.length_replicate, hfl]
              · rw [hfl]
                exact own_base HO28.out hw3
end Go.Proofs.Ytpoilndlfbmhgaa
