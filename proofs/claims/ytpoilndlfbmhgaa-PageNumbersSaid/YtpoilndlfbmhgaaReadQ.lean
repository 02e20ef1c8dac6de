/-
  The walk of page.read: it is Pag.readB. Conditions: the bytes read as a list.
-/
import Derived.Test.YtpoilndlfbmhgaaReadP
namespace Go.Proofs.Ytpoilndlfbmhgaa
open Go.RowKit

def rdT (h0 x y : Nat) (k v : List UInt8) : Nat → Option Fact := fun i => match i with
  | 6 => some fun u w => w.ownsRow h0 5 1 u x (k.map B8)
  | 11 => some fun u w => w.ownsRow h0 5 1 u y (v.map B8)
  | _ => none
theorem rdT_stable (h0 x y : Nat) (k v : List UInt8) : Stable (rdT h0 x y k v) := by
  intro i Φ h u w w' hu hb
  unfold rdT at h
  split at h
  · injection h with h; subst h; exact own_below hu hb
  · injection h with h; subst h; exact own_below hu hb
  · cases h
def rdSh (x y : Nat) : Nat → Value → Prop := fun i => match i with
  | 6 => IsSl x
  | 11 => IsSl y
  | _ => fun _ => True
theorem rdSh_some (x y i : Nat) : ∃ v, rdSh x y i v := by
  unfold rdSh
  split
  · exact ⟨.slice Option.none x 0, _, _, rfl⟩
  · exact ⟨.slice Option.none y 0, _, _, rfl⟩
  · exact ⟨undef, trivial⟩
theorem isSl_own {w : World} {base : Nat} {e : TypeId} {size : Nat} {v : Value} {n : Nat} {xs : List Value} (h : w.ownsRow base e size v n xs) : IsSl n v := own_sl h
theorem RdP.some {w w' : World} {r : Option Pag.Pg} {p : Pag.Pg} {v : Value} (h : r = Option.some p) (hb : Below w.heap.size w w') (ho : PgOwn w' w.heap.size v p) : RdP w r (.returned (.tuple #[v, .bool true])) w' := by
  subst h
  exact ⟨hb, v, rfl, ho⟩
set_option linter.unusedVariables false in
set_option maxRecDepth 100000 in
set_option maxHeartbeats 1600000 in
theorem read_any (A : Option Addr) (n c : Nat) (l : List UInt8) (w : World) (hl : Rb w w.heap.size A n l) (hn : n ≤ 140737488355328) (hc : n ≤ c) (hc2 : c ≤ 9223372036854775807) :
    Calls Try.prog 42 #[.slice A n c] w (RdP w (Pag.readB l)) := by
  have HL := hide hl
  have HN := hide hl.len
  clear hl
  obtain ⟨w1, hw1⟩ : ∃ w1, w1 = w.alloc (.cells #[.int .u8 0, .int .i64 0, .slice none 0 0] 25) := ⟨_, rfl⟩
  have HK1 : Hid (Blk w1 w.heap.size 25 #[.int .u8 0, .int .i64 0, .slice none 0 0]) := by rw [hw1]; exact Blk.new _ _ _
  have HB1 : Hid (Below w.heap.size w w1) := by rw [hw1]; exact (Below.refl _ _).alloc (Nat.le_refl _) _
  have hs1 : w.heap.size < w1.heap.size := by rw [hw1]; simp
  have k0 := HK1.out.cell 0
  have k1 := HK1.out.cell 1
  have k2 := HK1.out.cell 2
  have f0 := HK1.out.frozen 0
  have f1 := HK1.out.frozen 1
  have f2 := HK1.out.frozen 2
  simp at k0 k1 k2
  by_cases h4 : n = 4080
  · subst h4
    obtain ⟨b, off, ch, rfl, hbw, hch, hcell⟩ := HL.out.at (k := 0) (by omega)
    have HCh := hide hch
    have hcell1 := (HB1.out.cell (p := ⟨b, off + 0, none⟩) hbw).trans hcell
    rw [Nat.add_zero] at hcell1
    have hu8 := ch.toNat_lt
    obtain ⟨N, hN⟩ : ∃ N, N = leAt l 2 2 := ⟨_, rfl⟩
    have hNl : N < 65536 := by rw [hN]; exact leAt_lt l 2 2
    obtain ⟨X, hX⟩ : ∃ X, X = leAt l 4 4 := ⟨_, rfl⟩
    have hXl : X < 4294967296 := by rw [hX]; exact leAt_lt l 4 4
    have HNe := hide hN
    have HXe := hide hX
    have HP0 := hide (Pag.Pre.start l)
    clear hN hX hch hcell
    go_enter Try.func42, Try.ntmps42
    go_upto_region 1 with fail
    rw [← hw1]
    clear hw1
    go_wp2_with fail
    have c1 := u16_yes _ 4080 c l 2 _ ((HL.out.below HB1.out (Nat.le_refl _)).more (Nat.le_of_lt hs1)) (by omega) (by unfold maxLen; omega)
    rw [show ((2 : Nat) : Int) = 2 from rfl] at c1
    with_reducible refine c1.mono ?_
    clear c1
    rintro e w' ⟨rfl, rfl⟩
    rw [← HNe.out]
    go_wp2_with fail
    have c1 := u32_yes _ 4080 c l 4 _ ((HL.out.below HB1.out (Nat.le_refl _)).more (Nat.le_of_lt hs1)) (by omega) (by unfold maxLen; omega)
    rw [show ((4 : Nat) : Int) = 4 from rfl] at c1
    with_reducible refine c1.mono ?_
    clear c1
    rintro e w' ⟨rfl, rfl⟩
    rw [← HXe.out]
    obtain ⟨w2, hw2⟩ : ∃ w2, w2 = w1.alloc (.cells #[.int .u8 (ch.toNat : Int), .int .i64 (X : Int), .slice none 0 0] 25) := ⟨_, rfl⟩
    go_upto_region 6 with fail
    rw [← hw2]
    have HP2 : Hid (Blk w2 w1.heap.size 25 #[.int .u8 (ch.toNat : Int), .int .i64 (X : Int), .slice none 0 0]) := by rw [hw2]; exact Blk.new _ _ _
    have hb2 : Below w1.heap.size w1 w2 := by rw [hw2]; exact (Below.refl _ _).alloc (Nat.le_refl _) _
    have HB2 := hide (HB1.out.trans (hb2.mono (Nat.le_of_lt hs1)))
    have HK2 := hide (HK1.out.below hb2 hs1)
    have hs2 : w1.heap.size < w2.heap.size := by rw [hw2]; simp
    clear hw2 hb2 k0 k1 k2 f0 f1 f2 hcell1
    go_wp2_with fail
    go_loopg [9, 42] N (fun gg at' i wr => ∃ (k a : Nat) (cs : List Pag.Ce) (v : Value), k ≤ N ∧ gg = N - k ∧ i = .int .i64 (k : Nat) ∧ at' = .int .i64 (a : Nat) ∧ Hid (Pag.Pre l N k a cs) ∧ Hid (cs.length = k) ∧ a ≤ 200000 ∧ Blk wr w1.heap.size 25 #[.int .u8 (ch.toNat : Int), .int .i64 (X : Int), v] ∧ CeOwn wr w.heap.size 0 v cs ∧ Blk wr w.heap.size 25 #[.int .u8 0, .int .i64 0, .slice none 0 0] ∧ Below w.heap.size w wr)
    case atStart => exact ⟨0, 8 + 2 * N, [], .slice none 0 0, Nat.zero_le _, rfl, rfl, int_eq (by omega), by have := HP0.out; rw [← HNe.out] at this; exact this, rfl, by omega, HP2.out, CeOwn.nil _ _ _, HK2.out, HB2.out⟩
    case round =>
      obtain ⟨k, a, cs, v, hk, rfl, rfl, rfl, HP, HCl, ha, hbp, hown, hbk, hbel⟩ := hrel
      obtain ⟨w10, hw10⟩ : ∃ w10, w10 = wr := ⟨_, rfl⟩
      subst hw10
      obtain ⟨Av, cv, rfl, hcv1, hcv2⟩ := hown.form
      have HO := hide hown
      have HBP := hide hbp
      have HBK := hide hbk
      have HB10 := hide hbel
      have hs10 := hbel.size
      have hlt1 : w1.heap.size < w10.heap.size := hbp.lt
      have p0 := hbp.cell 0
      have p1 := hbp.cell 1
      have p2 := hbp.cell 2
      have q0 := hbk.cell 0
      have q1 := hbk.cell 1
      have q2 := hbk.cell 2
      have f0 := hbk.frozen 0
      have f1 := hbk.frozen 1
      have f2 := hbk.frozen 2
      simp at p0 p1 p2 q0 q1 q2
      have HL10 := hide ((HL.out.below hbel (Nat.le_refl _)).more hs10)
      clear hown hbp hbk hbel
      by_cases hlt : k < N
      · by_cases h4 : 4080 < a + 4
        · have HR := hide (Pag.readB_none (HP.out.stop1 hlt (by rw [HN.out]; exact h4)))
          go_wp2_with fail
          with_reducible refine (u16_some _ 4080 c l a _ HL10.out (by unfold maxLen; omega)).mono ?_
          rintro e w' ⟨x, t, hx, rfl, rfl⟩
          go_wp2_with fail
          with_reducible refine (u16_no _ 4080 c ((a : Int) + 2) _ (by omega) (by unfold maxLen; omega)).mono ?_
          rintro e w' ⟨rfl, rfl⟩
          go_wp2_with fail
          exact bodyPost_ret (v := .tuple #[.agg #[.int .u8 0, .int .i64 0, .slice none 0 0], .bool false]) (results_page rfl (blk3 HBK.out _ _ _) rfl rfl) rfl (RdP.none HR.out (below3 HB10.out (Nat.le_refl _) _ _ _))
        · obtain ⟨x, hx⟩ : ∃ x, x = leAt l a 2 := ⟨_, rfl⟩
          obtain ⟨y, hy⟩ : ∃ y, y = leAt l (a + 2) 2 := ⟨_, rfl⟩
          have hxl : x < 65536 := by rw [hx]; exact leAt_lt l a 2
          have hyl : y < 65536 := by rw [hy]; exact leAt_lt l (a + 2) 2
          have HX2 := hide hx
          have HY2 := hide hy
          clear hx hy
          go_wp2_with fail
          with_reducible refine (u16_yes _ 4080 c l a _ HL10.out (by omega) (by unfold maxLen; omega)).mono ?_
          rintro e w' ⟨rfl, rfl⟩
          rw [← HX2.out]
          go_wp2_with fail
          have c1 := u16_yes _ 4080 c l (a + 2) _ HL10.out (by omega) (by unfold maxLen; omega)
          rw [show ((a + 2 : Nat) : Int) = (a : Int) + 2 from by omega] at c1
          with_reducible refine c1.mono ?_
          clear c1
          rintro e w' ⟨rfl, rfl⟩
          rw [← HY2.out]
          by_cases hfit : 4080 < a + 4 + x + y
          · have HR := hide (Pag.readB_none (HP.out.stop2 hlt (by rw [HN.out]; exact h4) (by rw [HN.out, ← HX2.out, ← HY2.out]; exact hfit)))
            have t1 : decide ((4080 : Int) < (a : Int) + 4 + x + y) = true := by simp; omega
            go_wp2_with fail
            exact bodyPost_ret (v := .tuple #[.agg #[.int .u8 0, .int .i64 0, .slice none 0 0], .bool false]) (results_page rfl (blk3 HBK.out _ _ _) rfl rfl) rfl (RdP.none HR.out (below3 HB10.out (Nat.le_refl _) _ _ _))
          · have HNx := hide (HP.out.next hlt HX2.out HY2.out (by rw [HN.out]; exact h4) (by rw [HN.out]; exact hfit))
            have t1 : decide ((4080 : Int) < (a : Int) + 4 + x + y) = false := by simp; omega
            go_upto_region 16 with fail
            obtain ⟨P1, hP1⟩ : ∃ P1, P1 = (if c = a + 4 then some (⟨b, off, none⟩ : Addr) else (some (⟨b, off, none⟩ : Addr)).map (·.add (a + 4))) := ⟨_, rfl⟩
            obtain ⟨P2, hP2⟩ : ∃ P2, P2 = (if c = a + 4 + x then some (⟨b, off, none⟩ : Addr) else (some (⟨b, off, none⟩ : Addr)).map (·.add (a + 4 + x))) := ⟨_, rfl⟩
            have HRk : Hid (Rb w10 w10.heap.size P1 x ((l.drop (a + 4)).take x)) := by rw [hP1]; exact HL10.out.at2 (by omega) hc
            have HRv : Hid (Rb w10 w10.heap.size P2 y ((l.drop (a + 4 + x)).take y)) := by rw [hP2]; exact HL10.out.at2 (by omega) hc
            have hS1 := fun w' => run_sliceB w' (some ⟨b, off, none⟩) 4080 c (a + 4) x ((a : Int) + 4) ((a : Int) + 4 + x) (by omega) (by omega) (by omega)
            have hS2 := fun w' => run_sliceB w' (some ⟨b, off, none⟩) 4080 c (a + 4 + x) y ((a : Int) + 4 + x) ((a : Int) + 4 + x + y) (by omega) (by omega) (by omega)
            rw [← hP1] at hS1
            rw [← hP2] at hS2
            have HS1 := hide hS1
            have HS2 := hide hS2
            clear hP1 hP2 hS1 hS2
            refine wp_region_toldL (rdT w10.heap.size x y ((l.drop (a + 4)).take x) ((l.drop (a + 4 + x)).take y)) (Up w10) (w10.heap.size) 14 (rdSh x y) (rdSh_some _ _) (rdT_stable _ _ _ _ _) (Up.lives _) Gro (Gro.turns (Up.lives _) (rdT_stable _ _ _ _ _)) (by kernel_rfl) (by kernel_rfl) (Up.start _) (Nat.le_refl _) ?_
            simp only [List.take_succ_cons, List.take_zero, List.drop_succ_cons, List.drop_zero]
            refine wpTold_read ?_ rfl rfl (fun w' hS => ?_) ?_
            rotate_left
            · go_simp
              rfl
            go_frame
            refine wpTold_read ?_ rfl rfl (fun w' hS => ?_) ?_
            rotate_left
            · have p2' := (hS.cell (p := ⟨w1.heap.size, 2, none⟩) hlt1).trans p2
              go_simp
              rfl
            go_frame
            refine wpTold_read ?_ rfl rfl (fun w' hS => ?_) ?_
            rotate_left
            · go_simp
              rfl
            go_frame
            refine wpTold_read ?_ rfl rfl (fun w' hS => ?_) ?_
            rotate_left
            · go_simp
              rfl
            go_frame
            refine wpTold_read ?_ rfl rfl (fun w' hS => ?_) ?_
            rotate_left
            · go_simp
              rfl
            go_frame
            refine wpTold_read ?_ rfl rfl (fun w' hS => ?_) ?_
            rotate_left
            · have s1 := HS1.out w'
              go_simp
              rfl
            go_frame
            refine' wpTold_call _ _ _ rfl rfl (fun w' => ?_) (fun w' hS hh hs => ?_) (fun v6 h6 => ?_)
            rotate_left 2
            · go_simp
              constructor <;> rfl
            · refine (clone_any _ _ _ _ _ (by exact ((HRk.out.below hS (Nat.le_refl _)).more (hS.size))) (by omega)).mono ?_
              rintro e w2 ⟨v, rfl, h1, h2⟩
              exact ⟨v, rfl, ⟨isSl_own h1, own_base h1 hh⟩, h2⟩
            obtain ⟨A6, c6, rfl⟩ := h6
            go_frame
            refine wpTold_read ?_ rfl rfl (fun w' hS => ?_) ?_
            rotate_left
            · go_simp
              rfl
            go_frame
            refine wpTold_read ?_ rfl rfl (fun w' hS => ?_) ?_
            rotate_left
            · go_simp
              rfl
            go_frame
            refine wpTold_read ?_ rfl rfl (fun w' hS => ?_) ?_
            rotate_left
            · go_simp
              rfl
            go_frame
            refine wpTold_read ?_ rfl rfl (fun w' hS => ?_) ?_
            rotate_left
            · have s2 := HS2.out w'
              go_simp
              rfl
            go_frame
            refine' wpTold_call _ _ _ rfl rfl (fun w' => ?_) (fun w' hS hh hs => ?_) (fun v11 h11 => ?_)
            rotate_left 2
            · go_simp
              constructor <;> rfl
            · refine (clone_any _ _ _ _ _ (by exact ((HRv.out.below hS (Nat.le_refl _)).more (hS.size))) (by omega)).mono ?_
              rintro e w2 ⟨v, rfl, h1, h2⟩
              exact ⟨v, rfl, ⟨isSl_own h1, own_base h1 hh⟩, h2⟩
            obtain ⟨A11, c11, rfl⟩ := h11
            go_frame
            refine wpTold_read ?_ rfl rfl (fun w' hS => ?_) ?_
            rotate_left
            · go_simp
              rfl
            go_frame
            refine wpTold_make (some (1, 1)) (.cells #[.slice A6 x c6, .slice A11 y c11] 41) rfl rfl (fun w' hS => ?_) fun g13 => ?_
            · go_simp
              rfl
            go_frame
            refine wpTold_nil fun w2 hH => ?_
            have h6 := hH.told 6 _ _ rfl rfl
            have h11 := hH.told 11 _ _ rfl rfl
            have h13 : Blk w2 g13 41 #[.slice A6 x c6, .slice A11 y c11] := (hH.lies 13 _ _ rfl).1
            have hup : Below w10.heap.size w10 w2 := hH.s
            have e6 := own_len h6
            have e11 := own_len h11
            have hb6 : Bo w2 w.heap.size 0 (.slice A6 x c6) ((l.drop (a + 4)).take x) := .inl ⟨by rw [e6]; exact own_base h6 hs10, by rw [e6]; omega⟩
            have hb11 : Bo w2 w.heap.size 0 (.slice A11 y c11) ((l.drop (a + 4 + x)).take y) := .inl ⟨by rw [e11]; exact own_base h11 hs10, by rw [e11]; omega⟩
            have HO2 := hide (HO.out.below hup hs10)
            have HBP2 := hide (HBP.out.below hup hlt1)
            have HBK2 := hide (HBK.out.below hup (Nat.lt_trans hs1 hlt1))
            have HUp := hide hup
            have H6 := hide hb6
            have H11 := hide hb11
            have H13 := hide h13
            have hs12 := hup.size
            have hclen : cs.length ≤ 65536 := by rw [HCl.out]; omega
            clear hH h6 h11 h13 hup e6 e11 hb6 hb11 p0 p1 p2 q0 q1 q2 f0 f1 f2
            go_wp2_with (at_builtin; refine wpList_appCg rfl (.tmp 77) (.tmp 89) rfl w.heap.size 0 _ cs rfl HO2.out g13 1 ((l.drop (a + 4)).take x, (l.drop (a + 4 + x)).take y) _ _ H6.out H11.out rfl H13.out (by omega) (by omega) ?_; intro v3 w3 ho3 hb3 hk3; obtain ⟨A3, c3, rfl, hc31, hc32⟩ := ho3.form; have HO3 := hide ho3; have HB3 := hide hb3; have HBP3 := hide (hk3 _ _ _ HBP2.out (by decide)); have HBK3 := hide (hk3 _ _ _ HBK2.out (by decide)); have f2 := HBP3.out.frozen 2; have z2 := HBP3.out.cell 2; simp at z2; clear ho3 hb3 hk3)
            go_roundg (N - (k + 1))
            case measure => omega
            case rel =>
              have hBall := (HB10.out.trans (HUp.out.mono hs10)).trans HB3.out
              have ho3 := HO3.out
              rw [List.length_append, List.length_singleton] at ho3
              refine ⟨k + 1, a + 4 + x + y, _, .slice A3 (cs.length + 1) c3, by omega, rfl, by go_num, int_eq (by omega), HNx.out, by show _ = _; simp [HCl.out], by omega, ?_, ?_, ?_, ?_⟩
              · simpa using HBP3.out.put 2 _
              · exact ho3.box HBP3.out (Nat.le_of_lt hs1) _ _
              · exact HBK3.out.far (by simp; omega) _
              · exact hBall.setCell (Nat.le_of_lt hs1) _

      · obtain rfl : k = N := by omega
        have HR := hide (Pag.readB_some HP.out.fin HN.out)
        clear hlt
        go_wp2_with fail
        refine bodyPost_ret (v := .tuple #[.agg #[.int .u8 (ch.toNat : Int), .int .i64 (X : Int), .slice Av cs.length cv], .bool true]) (results_page rfl (blk3 HBK.out _ _ _) rfl rfl) rfl (RdP.some HR.out (below3 HB10.out (Nat.le_refl _) _ _ _) ⟨Av, cv, ?_, ?_⟩)
        · have h0 : Pag.candK l = ch := by unfold Pag.candK; rw [List.getD_eq_getElem?_getD, HCh.out]; rfl
          have h1 : Pag.candN l = X := HXe.out.symm
          rw [h0, h1]
        · exact ((HO.out.box HBK.out (Nat.le_refl _) 0 _).box (by simpa using HBK.out.put 0 (.int .u8 (ch.toNat : Int))) (Nat.le_refl _) 1 _).box (by simpa using (HBK.out.put 0 (.int .u8 (ch.toNat : Int))).put 1 (.int .i64 (X : Int))) (Nat.le_refl _) 2 _
  · have hne : ((n : Int) != 4080) = true := by simp; omega
    have HR : Hid (Pag.readB l = none) := by
      show _ = _
      unfold Pag.readB
      rw [if_pos (by rw [HN.out]; exact h4)]
    clear h4
    go_enter Try.func42, Try.ntmps42
    go_upto_region 1 with fail
    rw [← hw1]
    clear hw1
    go_wp2_with fail
    exact bodyPost_ret (v := .tuple #[.agg #[.int .u8 0, .int .i64 0, .slice none 0 0], .bool false]) (results_page rfl (blk3 HK1.out _ _ _) rfl rfl) rfl (RdP.none HR.out (below3 HB1.out (Nat.le_refl _) _ _ _))
end Go.Proofs.Ytpoilndlfbmhgaa
