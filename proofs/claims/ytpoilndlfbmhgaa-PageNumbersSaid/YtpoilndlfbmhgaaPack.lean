/-
  The walk of page.Pack: it is Pag.pack. Conditions: the cells read as a list of at most 4000000000000.
-/
import Derived.Test.YtpoilndlfbmhgaaRightP
import Derived.Test.YtpoilndlfbmhgaaZeros
namespace Go.Proofs.Ytpoilndlfbmhgaa
open Go.RowKit

namespace Pag
def offAt (a : Nat) (l : List Ce) : Nat := a + (l.map fun c => 4 + c.1.length + c.2.length).sum
theorem offs_snoc : ∀ (l : List Ce) (a : Nat) (c : Ce), offs a (l ++ [c]) = offs a l ++ leL (offAt a l) 2 := by
  intro l
  induction l with
  | nil => intro a c; simp [offs, offAt]
  | cons d r ih =>
    intro a c
    simp only [List.cons_append, offs]
    rw [ih, List.append_assoc]
    congr 3
    simp only [offAt, List.map_cons, List.sum_cons]
    omega
theorem offs_take {l : List Ce} {k : Nat} {c : Ce} (a : Nat) (h : l[k]? = some c) : offs a (l.take (k + 1)) = offs a (l.take k) ++ leL (offAt a (l.take k)) 2 := by
  rw [List.take_add_one, h]
  exact offs_snoc _ _ _
theorem offAt_take {l : List Ce} {k : Nat} {c : Ce} (a : Nat) (h : l[k]? = some c) : offAt a (l.take (k + 1)) = offAt a (l.take k) + (4 + c.1.length + c.2.length) := by
  rw [List.take_add_one, h]
  simp [offAt]
  omega
theorem offAt_le (a : Nat) (l : List Ce) : offAt a l + 2 * l.length = a + taken l := by
  induction l with
  | nil => simp [offAt, taken]
  | cons c r ih =>
    have e2 : taken (c :: r) = sizeC c + taken r := by simp [taken]
    rw [e2]
    simp only [offAt, List.map_cons, List.sum_cons, List.length_cons, sizeC] at ih ⊢
    omega
theorem bodies_take {l : List Ce} {k : Nat} {c : Ce} (h : l[k]? = some c) : bodies (l.take (k + 1)) = bodies (l.take k) ++ cellB c := by
  rw [List.take_add_one, h]
  simp [bodies]
theorem taken_pre (l : List Ce) (k : Nat) : taken (l.take k) ≤ taken l := by
  conv => rhs; rw [← List.take_append_drop k l]
  simp only [taken, List.map_append, List.sum_append]
  omega
end Pag
theorem leB2 (v : Nat) : leB v 2 = Pag.leL v 2 := by simp [leB, Pag.leL]
theorem leB4 (v : Nat) : leB v 4 = Pag.leL v 4 := by
  simp only [leB, Pag.leL, List.nil_append, List.cons_append]
  congr 1
  · simp
  · congr 1
    congr 1
    · rw [Nat.div_div_eq_div_mul]
    · congr 1
      rw [Nat.div_div_eq_div_mul, Nat.div_div_eq_div_mul]
theorem bt : Bt Try.prog 26 5 := ⟨Try.underlying26, info8⟩
/-- Bytes of the call's own, and an error's number. -/
def BE (w : World) (r : Nat × List UInt8) (e : Ending) (w' : World) : Prop :=
  ∃ v', e = .returned (.tuple #[v', .int .i64 (r.1 : Int)]) ∧ w'.ownsRow w.heap.size 5 1 v' r.2.length (r.2.map B8) ∧ Below w.heap.size w w'
theorem BE.err {w w' : World} {r : Nat × List UInt8} (n : Nat) (h : r = (n, [])) (hb : Below w.heap.size w w') : BE w r (.returned (.tuple #[.slice none 0 0, .int .i64 (n : Int)])) w' := by
  subst h
  exact ⟨_, rfl, own_nil _ _ _ _, hb⟩
theorem BE.ok {w w' : World} {r : Nat × List UInt8} {v : Value} {m : Nat} {l : List UInt8} (h : r = (0, l)) (hm : m = l.length) (ho : w'.ownsRow w.heap.size 5 1 v m (l.map B8)) (hb : Below w.heap.size w w') : BE w r (.returned (.tuple #[v, .int .i64 0])) w' := by
  subst h hm
  exact ⟨_, rfl, ho, hb⟩

theorem add16_nil (v : Nat) (w : World) (hv : v < 65536) : Calls Try.prog 35 #[.slice none 0 0, .int .u16 (v : Int)] w fun e w' => ∃ A c, e = .returned (.slice A 2 c) ∧ w'.ownsRow w.heap.size 5 1 (.slice A 2 c) 2 ((Pag.leL v 2).map B8) ∧ Below w.heap.size w w' := by
  refine (add16_any none 0 0 [] v w Rb.nil hv (by omega)).mono ?_
  rintro e w' ⟨r, rfl, hown, hb⟩
  simp only [Nat.zero_add, List.nil_append, leB2] at hown
  obtain ⟨A, c, rfl⟩ := own_sl hown
  exact ⟨A, c, rfl, hown, hb⟩
theorem add32_nil (v : Nat) (w : World) (hv : v < 4294967296) : Calls Try.prog 36 #[.slice none 0 0, .int .u32 (v : Int)] w fun e w' => ∃ A c, e = .returned (.slice A 4 c) ∧ w'.ownsRow w.heap.size 5 1 (.slice A 4 c) 4 ((Pag.leL v 4).map B8) ∧ Below w.heap.size w w' := by
  refine (add32_any none 0 0 [] v w Rb.nil hv (by omega)).mono ?_
  rintro e w' ⟨r, rfl, hown, hb⟩
  simp only [Nat.zero_add, List.nil_append, leB4] at hown
  obtain ⟨A, c, rfl⟩ := own_sl hown
  exact ⟨A, c, rfl, hown, hb⟩
theorem u16w (n : Nat) (h : n < 65536) : IntKind.u16.wrap (n : Int) = (n : Int) := by
  have : IntKind.u16.wrap (n : Int) = (n : Int) % 65536 := by simp [IntKind.wrap, IntKind.signed, IntKind.bits]
  rw [this]
  omega
set_option linter.unusedVariables false in
set_option maxRecDepth 100000 in
set_option maxHeartbeats 1600000 in
theorem pack_any (kd : UInt8) (nx : Int) (A : Option Addr) (n c : Nat) (cs : List Pag.Ce) (w : World) (hl : CeRd w w.heap.size A n cs) (hn : n ≤ 4000000000000) :
    Calls Try.prog 9 #[.agg #[.int .u8 (kd.toNat : Int), .int .i64 nx, .slice A n c]] w (BE w (Pag.pack ⟨kd, nx, cs⟩)) := by
  have HL := hide hl
  have HN := hide hl.1
  obtain ⟨i0, hi0, hz0, hz1, hz2⟩ := info_parts info8
  obtain ⟨w1, hw1⟩ : ∃ w1, w1 = w.alloc (.cells #[.int .u8 (kd.toNat : Int), .int .i64 nx, .slice A n c] 25) := ⟨_, rfl⟩
  have HK : Hid (Blk w1 w.heap.size 25 #[.int .u8 (kd.toNat : Int), .int .i64 nx, .slice A n c]) := by rw [hw1]; exact Blk.new _ _ _
  have HB : Hid (Below w.heap.size w w1) := by rw [hw1]; exact (Below.refl _ _).alloc (Nat.le_refl _) _
  have hs1 : w.heap.size < w1.heap.size := by rw [hw1]; simp
  clear hl
  go_enter Try.func9, Try.ntmps9
  go_upto_region 1 with fail
  rw [← hw1]
  clear hw1
  have k0 := HK.out.cell 0
  have k1 := HK.out.cell 1
  have k2 := HK.out.cell 2
  simp at k0 k1 k2
  go_wp2_with fail
  with_reducible refine (right_any kd nx A n c cs _ (by exact (HL.out.below HB.out (Nat.le_refl _)).more (by omega)) hn).mono ?_
  rintro e w2 ⟨rfl, hb2⟩
  have HB2 := hide (HB.out.trans (hb2.mono (Nat.le_of_lt hs1)))
  have HK2 := hide (HK.out.below hb2 hs1)
  have hs2 := hb2.size
  clear hb2 k0 k1 k2
  cases hr : Pag.rightB ⟨kd, nx, cs⟩ with
  | false =>
    have HP : Hid (Pag.pack ⟨kd, nx, cs⟩ = (2, [])) := by show _ = _; unfold Pag.pack; rw [if_pos hr]
    clear hr
    go_wp2_with fail
    go_ret2
    exact BE.err 2 HP.out HB2.out
  | true =>
    have hmay := Pag.right_may hr
    obtain ⟨hn1, hn2⟩ := Pag.right_next hr
    simp only at hmay hn1 hn2
    obtain ⟨x, rfl⟩ : ∃ x : Nat, nx = (x : Int) := ⟨nx.toNat, by omega⟩
    have HRt := hide hr
    have HMay := hide hmay
    clear hr hmay hn1
    have k2 := HK2.out.cell 2
    simp at k2
    go_wp2_with fail
    with_reducible refine (taken_any A n c cs _ (by exact (HL.out.below HB2.out (Nat.le_refl _)).more (by omega)) HMay.out hn).mono ?_
    rintro e w3 ⟨rfl, hb3⟩
    have HB3 := hide (HB2.out.trans (hb3.mono (by omega)))
    have HK3 := hide (HK2.out.below hb3 (by omega))
    have hs3 := hb3.size
    clear hb3 k2
    obtain ⟨tk, htk⟩ : ∃ tk, tk = Pag.taken cs := ⟨_, rfl⟩
    rw [← htk]
    have HTk := hide htk
    clear htk
    by_cases hfull : 4072 < tk
    · have HP : Hid (Pag.pack ⟨kd, (x : Int), cs⟩ = (5, [])) := by
        show _ = _
        unfold Pag.pack
        rw [if_neg (by rw [HRt.out]; simp), if_pos (by rw [← HTk.out]; exact hfull)]
      have t1 : decide ((4072 : Int) < (tk : Int)) = true := by simp; omega
      go_wp2_with fail
      go_ret2
      exact BE.err 5 HP.out HB3.out
    · have t1 : decide ((4072 : Int) < (tk : Int)) = false := by simp; omega
      have hn3 : n ≤ 1000 := by
        have := Pag.taken_len cs (by rw [← HTk.out]; omega)
        rw [HN.out]
        exact this
      have HP : Hid (Pag.pack ⟨kd, (x : Int), cs⟩ = (0, Pag.front ⟨kd, (x : Int), cs⟩ ++ List.replicate (4080 - (Pag.front ⟨kd, (x : Int), cs⟩).length) 0)) := Pag.pack_ok.2 ⟨HRt.out, by show Pag.taken cs ≤ 4072; rw [← HTk.out]; omega, rfl⟩
      have k0 := HK3.out.cell 0
      simp at k0
      have u16n : IntKind.u16.wrap (n : Int) = (n : Int) := by
        have : IntKind.u16.wrap (n : Int) = (n : Int) % 65536 := by simp [IntKind.wrap, IntKind.signed, IntKind.bits]
        rw [this]
        omega
      have u32x : IntKind.u32.wrap (x : Int) = (x : Int) := by
        have : IntKind.u32.wrap (x : Int) = (x : Int) % 4294967296 := by simp [IntKind.wrap, IntKind.signed, IntKind.bits]
        rw [this]
        omega
      go_wp2_with (first
        | (at_make; refine wpList_make_own _ rfl _ _ 26 rfl w3.heap.size 5 i0 _ 1 Try.underlying26 hi0 hz0 hz1 .i64 .i64 _ 4080 rfl rfl (by omega) (by rw [hz2]; omega) (by unfold maxLen; omega) (Nat.le_refl _) ?_; intro w4 hown4 hg4; have HB4 : Hid (Below w3.heap.size w3 w4) := (Below.refl _ _).grown hg4 (Nat.le_refl _) (by simp); have HO4 : Hid (w4.ownsRow w3.heap.size 5 1 _ 0 (([] : List UInt8).map B8)) := hown4; have hs4 := HB4.out.size; have HK4 := hide (HK3.out.below HB4.out (by omega)); have m0 := HK4.out.cell 0; simp at m0; clear hown4 hg4)
        | (at_builtin; refine wpList_appL bt rfl (.tmp 18) (.tmp 21) rfl w3.heap.size _ 0 [] rfl HO4.out _ 2 2 [kd, 0] rfl rfl rfl rfl (by omega) hs4 ?_; intro v5 w5 hown5 hb5 hg5; have HO5 := hide hown5; have HB5 := hide (HB4.out.trans hb5); have hs5 := HB5.out.size; have HK5 := hide (HK3.out.below HB5.out (by omega)); have l1 := HK5.out.cell 1; have l2 := HK5.out.cell 2; simp at l1 l2; clear hown5 hb5 hg5 m0))
      with_reducible refine (add16_nil n _ (by omega)).mono ?_
      rintro e w6 ⟨A6, c6, rfl, hown6, hb6⟩
      have HO6 := hide hown6
      have HB6 := hide (HB5.out.trans (hb6.mono hs5))
      have HO5b := hide (own_below HO5.out hb6)
      have hs6 := HB6.out.size
      clear hown6 hb6 l1 l2
      have HK6 := hide (HK3.out.below HB6.out (by omega))
      have l1 := HK6.out.cell 1
      have l2 := HK6.out.cell 2
      simp at l1 l2
      go_wp2_with (at_builtin; refine wpList_app _ bt rfl (.tmp 23) (.tmp 28) rfl w3.heap.size _ 2 [kd, 0] rfl HO5b.out _ A6 2 c6 (Pag.leL n 2) rfl (Rb.own HO6.out) (by omega) (by omega) ?_; intro v7 w7 hown7 hb7 hg7; have HO7 := hide hown7; have HB7 := hide (HB6.out.trans hb7); have hs7 := HB7.out.size; have HK7 := hide (HK3.out.below HB7.out (by omega)); have m1 := HK7.out.cell 1; have m2 := HK7.out.cell 2; simp at m1 m2; clear hown7 hb7 hg7 l1 l2)
      with_reducible refine (add32_nil x _ (by omega)).mono ?_
      rintro e w8 ⟨A8, c8, rfl, hown8, hb8⟩
      have HO8 := hide hown8
      have HB8 := hide (HB7.out.trans (hb8.mono hs7))
      have HO7b := hide (own_below HO7.out hb8)
      have hs8 := HB8.out.size
      clear hown8 hb8 m1 m2
      have HK8 := hide (HK3.out.below HB8.out (by omega))
      have l1 := HK8.out.cell 1
      have l2 := HK8.out.cell 2
      simp at l1 l2
      go_wp2_with (at_builtin; refine wpList_app _ bt rfl (.tmp 30) (.tmp 34) rfl w3.heap.size _ (2 + 2) ([kd, 0] ++ Pag.leL n 2) rfl HO7b.out _ A8 4 c8 (Pag.leL x 4) rfl (Rb.own HO8.out) (by omega) (by omega) ?_; intro v9 w9 hown9 hb9 hg9; have HO9 := hide hown9; have HB9 := hide (HB8.out.trans hb9); have hs9 := HB9.out.size; have HK9 := hide (HK3.out.below HB9.out (by omega)); have m1 := HK9.out.cell 1; have m2 := HK9.out.cell 2; simp at m1 m2; clear hown9 hb9 hg9 l1 l2)
      obtain ⟨P1, hP1⟩ : ∃ P1, P1 = [kd, 0] ++ Pag.leL n 2 ++ Pag.leL x 4 := ⟨_, rfl⟩
      have hP1l : P1.length = 8 := by rw [hP1]; simp [Pag.leL]
      rw [← hP1] at HO9
      have HP1 := hide hP1
      have HP1l := hide hP1l
      have htn : ∀ k, k ≤ n → Pag.offAt (8 + 2 * n) (cs.take k) ≤ 8 + 2 * n + tk := fun k hk => by
        have h1 := Pag.offAt_le (8 + 2 * n) (cs.take k)
        have h2 := Pag.taken_pre cs k
        rw [← HTk.out] at h2
        omega
      have HTn := hide htn
      clear hP1 hP1l htn
      go_wp2_with fail
      go_loopg [4, 5, 44] n (fun gg v at' i wr => ∃ k a : Nat, k ≤ n ∧ gg = n - k ∧ i = .int .i64 (k : Nat) ∧ at' = .int .i64 (a : Nat) ∧ Hid (a = Pag.offAt (8 + 2 * n) (cs.take k)) ∧ wr.ownsRow w3.heap.size 5 1 v (8 + 2 * k) ((P1 ++ Pag.offs (8 + 2 * n) (cs.take k)).map B8) ∧ Below w3.heap.size w3 wr)
      case atStart => exact ⟨0, 8 + 2 * n, Nat.zero_le _, rfl, rfl, int_eq (by omega), by show _ = _; simp [Pag.offAt], by simpa [Pag.offs] using HO9.out, HB9.out⟩
      case round =>
        obtain ⟨k, a, hk, rfl, rfl, rfl, HA, hown, hbel⟩ := hrel
        obtain ⟨w10, hw10⟩ : ∃ w10, w10 = wr := ⟨_, rfl⟩
        subst hw10
        have HO := hide hown
        have HB10 := hide hbel
        have hsz := hbel.size
        have HBw := hide (HB3.out.trans (hbel.mono (by omega)))
        have HK10 := hide (HK3.out.below hbel (by omega))
        clear hown hbel m1 m2
        have hab := HTn.out k hk
        rw [← HA.out] at hab
        by_cases hlt : k < n
        · obtain ⟨g, off, f, Ak, ck, Av, cv, rfl, hg, hf, d0, d1, hrk, h1, h2, h3, hrv, h4, h5, h6⟩ := (HL.out.below HBw.out (Nat.le_refl _)).at hlt
          have HOf := hide (Pag.offs_take (8 + 2 * n) hf)
          have HAt := hide (Pag.offAt_take (8 + 2 * n) hf)
          have hgl : g < w10.heap.size := by omega
          obtain ⟨w11, hw11⟩ : ∃ w11, w11 = w10.alloc (.cells #[.slice Ak f.1.length ck, .slice Av f.2.length cv] 41) := ⟨_, rfl⟩
          have hb11 : Below w10.heap.size w10 w11 := by rw [hw11]; exact (Below.refl _ _).alloc (Nat.le_refl _) _
          have HX11 : Hid (Blk w11 w10.heap.size 41 #[.slice Ak f.1.length ck, .slice Av f.2.length cv]) := by rw [hw11]; exact Blk.new _ _ _
          have HB11 := hide (HB10.out.trans (hb11.mono hsz))
          have HO11 := hide (own_below HO.out hb11)
          have hs11 : w10.heap.size < w11.heap.size := by rw [hw11]; simp
          have u16a := u16w a (by omega)
          go_upto_region 13 with fail
          rw [← hw11]
          clear hw11 hb11 d0 d1 hf hrk hrv
          go_wp2_with fail
          with_reducible refine (add16_nil a _ (by omega)).mono ?_
          rintro e w12 ⟨A12, c12, rfl, hown12, hb12⟩
          have HO12 := hide hown12
          have HB12 := hide (HB11.out.trans (hb12.mono (by omega)))
          have HO11b := hide (own_below HO11.out hb12)
          have HX12 := hide (HX11.out.below hb12 hs11)
          have hs12 := HB12.out.size
          have hs12' := hb12.size
          clear hown12 hb12
          go_wp2_with (at_builtin; refine wpList_app _ bt rfl (.tmp 48) (.tmp 51) rfl w3.heap.size _ (8 + 2 * k) (P1 ++ Pag.offs (8 + 2 * n) (cs.take k)) rfl HO11b.out _ A12 2 c12 (Pag.leL a 2) rfl (Rb.own HO12.out) (by omega) (by omega) ?_; intro v13 w13 hown13 hb13 hg13; have HO13 := hide hown13; have HB13 := hide (HB12.out.trans hb13); have HX13 := hide (HX12.out.grown hg13 (fun e => own_blk_ne HO11b.out HX12.out (by decide) e.symm)); have hs13 := hg13.size; have x0 := HX13.out.cell 0; have x1 := HX13.out.cell 1; simp at x0 x1; clear hown13 hb13 hg13)
          with_reducible refine (size_any Ak Av f.1.length ck f.2.length cv _ h1 h4).mono ?_
          rintro e w14 ⟨rfl, hb14⟩
          have HB14 := hide (HB13.out.trans (hb14.mono (by omega)))
          have HO14 := hide (own_below HO13.out hb14)
          obtain ⟨sz, hsz'⟩ : ∃ sz, sz = 6 + f.1.length + f.2.length := ⟨_, rfl⟩
          rw [← hsz']
          have hab2 := HTn.out (k + 1) (by omega)
          rw [HAt.out, ← HA.out] at hab2
          have hsz6 : 6 ≤ sz := by omega
          have hszb : a + (sz - 2) ≤ 8 + 2 * n + tk := by omega
          have HSz := hide hsz'
          clear hb14 hsz' hab2 x0 x1
          go_wp2_with fail
          go_roundg (n - (k + 1))
          case measure => omega
          case rel =>
            refine ⟨k + 1, a + (sz - 2), by omega, rfl, by go_num, int_eq (by omega), ?_, ?_, HB14.out⟩
            · show _ = _
              rw [HAt.out, ← HA.out, HSz.out]
              omega
            · have := HO14.out
              rw [HA.out, List.append_assoc, ← HOf.out, show 8 + 2 * k + 2 = 8 + 2 * (k + 1) by omega] at this
              exact this
        · have hkn : k = n := by omega
          subst hkn
          have htake : cs.take k = cs := by rw [HN.out, List.take_length]
          rw [htake] at HO
          obtain ⟨P2, hP2⟩ : ∃ P2, P2 = P1 ++ Pag.offs (8 + 2 * k) cs := ⟨_, rfl⟩
          rw [← hP2] at HO
          have HP2 := hide hP2
          clear hP2 htake HA hab hlt hk
          have q2 := HK10.out.cell 2
          simp at q2
          obtain ⟨n, rfl⟩ : ∃ n, n = k := ⟨_, rfl⟩
          go_wp2_with fail
          go_loopg [4, 62] n (fun gg v i wr => ∃ k a : Nat, k ≤ n ∧ gg = n - k ∧ i = .int .i64 (k : Nat) ∧ Hid (a = Pag.offAt (8 + 2 * n) (cs.take k)) ∧ wr.ownsRow w3.heap.size 5 1 v a ((P2 ++ Pag.bodies (cs.take k)).map B8) ∧ Below w3.heap.size w3 wr)
          case atStart => exact ⟨0, 8 + 2 * n, Nat.zero_le _, rfl, rfl, by show _ = _; simp [Pag.offAt], by simpa [Pag.bodies] using HO.out, HB10.out⟩
          case round =>
            obtain ⟨k, a, hk, rfl, rfl, HA, hown, hbel⟩ := hrel
            obtain ⟨w20, hw20⟩ : ∃ w20, w20 = wr := ⟨_, rfl⟩
            subst hw20
            have HO20 := hide hown
            have HB20 := hide hbel
            have hsz20 := hbel.size
            have HBw20 := hide (HB3.out.trans (hbel.mono (by omega)))
            have HK20 := hide (HK3.out.below hbel (by omega))
            clear hown hbel q2
            have hab := HTn.out k hk
            rw [← HA.out] at hab
            by_cases hlt : k < n
            · obtain ⟨g, off, f, Ak, ck, Av, cv, rfl, hg, hf, d0, d1, hrk, h1, h2, h3, hrv, h4, h5, h6⟩ := (HL.out.below HBw20.out (Nat.le_refl _)).at hlt
              have HBf := hide (Pag.bodies_take hf)
              have HAt := hide (Pag.offAt_take (8 + 2 * n) hf)
              have HRk := hide hrk
              have HRv := hide hrv
              have hgl : g < w20.heap.size := by omega
              have hab2 := HTn.out (k + 1) (by omega)
              rw [HAt.out, ← HA.out] at hab2
              obtain ⟨w21, hw21⟩ : ∃ w21, w21 = w20.alloc (.cells #[.slice Ak f.1.length ck, .slice Av f.2.length cv] 41) := ⟨_, rfl⟩
              have hb21 : Below w20.heap.size w20 w21 := by rw [hw21]; exact (Below.refl _ _).alloc (Nat.le_refl _) _
              have HX21 : Hid (Blk w21 w20.heap.size 41 #[.slice Ak f.1.length ck, .slice Av f.2.length cv]) := by rw [hw21]; exact Blk.new _ _ _
              have HB21 := hide (HB20.out.trans (hb21.mono hsz20))
              have HO21 := hide (own_below HO20.out hb21)
              have hs21 : w20.heap.size < w21.heap.size := by rw [hw21]; simp
              have u1 := u16w f.1.length (by omega)
              have u2 := u16w f.2.length (by omega)
              go_upto_region 19 with fail
              rw [← hw21]
              clear hw21 hb21 d0 d1 hf hrk hrv
              have x0 := HX21.out.cell 0
              have x1 := HX21.out.cell 1
              simp at x0 x1
              go_wp2_with fail
              with_reducible refine (add16_nil f.1.length _ (by omega)).mono ?_
              rintro e w22 ⟨A22, c22, rfl, hown22, hb22⟩
              have HO22 := hide hown22
              have HB22 := hide (HB21.out.trans (hb22.mono (by omega)))
              have HO21b := hide (own_below HO21.out hb22)
              have HX22 := hide (HX21.out.below hb22 hs21)
              have hs22 := HB22.out.size
              have hs22' := hb22.size
              clear hown22 hb22 x0 x1
              go_wp2_with (at_builtin; refine wpList_app _ bt rfl (.tmp 66) (.tmp 71) rfl w3.heap.size _ a (P2 ++ Pag.bodies (cs.take k)) rfl HO21b.out _ A22 2 c22 (Pag.leL f.1.length 2) rfl (Rb.own HO22.out) (by omega) (by omega) ?_; intro v23 w23 hown23 hb23 hg23; have HO23 := hide hown23; have HB23 := hide (HB22.out.trans hb23); have HX23 := hide (HX22.out.grown hg23 (fun e => own_blk_ne HO21b.out HX22.out (by decide) e.symm)); have hs23 := hg23.size; have x0 := HX23.out.cell 0; have x1 := HX23.out.cell 1; simp at x0 x1; clear hown23 hb23 hg23)
              with_reducible refine (add16_nil f.2.length _ (by omega)).mono ?_
              rintro e w24 ⟨A24, c24, rfl, hown24, hb24⟩
              have HO24 := hide hown24
              have HB24 := hide (HB23.out.trans (hb24.mono (by omega)))
              have HO23b := hide (own_below HO23.out hb24)
              have HX24 := hide (HX23.out.below hb24 (by omega))
              have hs24 := HB24.out.size
              have hs24' := hb24.size
              clear hown24 hb24 x0 x1
              go_wp2_with (first
                | (at_builtin; refine wpList_app _ bt rfl (.tmp 73) (.tmp 78) rfl w3.heap.size _ (a + 2) (P2 ++ Pag.bodies (cs.take k) ++ Pag.leL f.1.length 2) rfl HO23b.out _ A24 2 c24 (Pag.leL f.2.length 2) rfl (Rb.own HO24.out) (by omega) (by omega) ?_; intro v25 w25 hown25 hb25 hg25; have HO25 := hide hown25; have HB25 := hide (HB24.out.trans hb25); have HX25 := hide (HX24.out.grown hg25 (fun e => own_blk_ne HO23b.out HX24.out (by decide) e.symm)); have hs25 := hg25.size; have HR25 := hide (HRk.out.keep (fun p hp => (HB25.out.cell (by omega)).trans (HB20.out.cell (by omega)).symm)); have x0 := HX25.out.cell 0; have x1 := HX25.out.cell 1; simp at x0 x1; clear hown25 hb25 hg25)
                | (at_builtin; refine wpList_app _ bt rfl (.tmp 80) (.tmp 82) rfl w3.heap.size _ (a + 2 + 2) (P2 ++ Pag.bodies (cs.take k) ++ Pag.leL f.1.length 2 ++ Pag.leL f.2.length 2) rfl HO25.out _ Ak f.1.length ck f.1 rfl HR25.out (by omega) (by omega) ?_; intro v26 w26 hown26 hb26 hg26; have HO26 := hide hown26; have HB26 := hide (HB25.out.trans hb26); have HX26 := hide (HX25.out.grown hg26 (fun e => own_blk_ne HO25.out HX25.out (by decide) e.symm)); have hs26 := hg26.size; have HR26 := hide (HRv.out.keep (fun p hp => (HB26.out.cell (by omega)).trans (HB20.out.cell (by omega)).symm)); have y0 := HX26.out.cell 0; have y1 := HX26.out.cell 1; simp at y0 y1; clear hown26 hb26 hg26 x0 x1)
                | (at_builtin; refine wpList_app _ bt rfl (.tmp 84) (.tmp 86) rfl w3.heap.size _ (a + 2 + 2 + f.1.length) (P2 ++ Pag.bodies (cs.take k) ++ Pag.leL f.1.length 2 ++ Pag.leL f.2.length 2 ++ f.1) rfl HO26.out _ Av f.2.length cv f.2 rfl HR26.out (by omega) (by omega) ?_; intro v27 w27 hown27 hb27 hg27; have HO27 := hide hown27; have HB27 := hide (HB26.out.trans hb27); clear hown27 hb27 hg27))
              go_roundg (n - (k + 1))
              case measure => omega
              case rel =>
                refine ⟨k + 1, a + 4 + f.1.length + f.2.length, by omega, rfl, by go_num, ?_, ?_, HB27.out⟩
                · show _ = _
                  rw [HAt.out, ← HA.out]
                  omega
                · have := HO27.out
                  rw [HBf.out, show a + 4 + f.1.length + f.2.length = a + 2 + 2 + f.1.length + f.2.length by omega]
                  simpa [Pag.cellB, List.append_assoc] using this
            · have hkn : k = n := by omega
              subst hkn
              have htake : cs.take k = cs := by rw [HN.out, List.take_length]
              rw [htake] at HO20 HA
              have hfr : P2 ++ Pag.bodies cs = Pag.front ⟨kd, (x : Int), cs⟩ := by
                rw [HP2.out, HP1.out, HN.out]
                simp [Pag.front, List.append_assoc]
              rw [hfr] at HO20
              have hfl := own_len HO20.out
              have HFl := hide hfl
              clear hfl hfr htake
              have hgr : a ≤ 4080 := by
                have := Pag.offAt_le (8 + 2 * k) cs
                rw [← HA.out, ← HTk.out, HN.out] at this
                omega
              obtain ⟨A4, c4, rfl⟩ := own_sl HO20.out
              go_wp2_with (at_builtin; refine wpList_appZ _ bt Try.underlying3 rfl (.tmp 89) (.tmp 92) rfl w3.heap.size _ a (Pag.front ⟨kd, (x : Int), cs⟩) rfl HO20.out (4080 - a) (int_eq (by omega)) (by omega) (by omega) ?_; intro v28 w28 hown28 hb28 hg28; have HO28 := hide hown28; have HB28 := hide (HB20.out.trans hb28); clear hown28 hb28 hg28)
              go_ret2
              have hfl := HFl.out
              have hw3 := HB3.out.size
              refine BE.ok (m := a + (4080 - a)) HP.out ?_ ?_ (HB3.out.trans (HB28.out.mono hw3))
              · simp only [List.length_append, List.length_replicate, hfl]
              · rw [hfl]
                exact own_base HO28.out hw3
end Go.Proofs.Ytpoilndlfbmhgaa
