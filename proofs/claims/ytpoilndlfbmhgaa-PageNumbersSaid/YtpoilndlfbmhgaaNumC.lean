/-
  PageNumbers: its regions, one by one (printed by pnum.py). Conditions: none.
-/
import Derived.Test.YtpoilndlfbmhgaaNumA
namespace Go.Proofs.Ytpoilndlfbmhgaa
open Go.RowKit

noncomputable def pn : Nat → Code
  | 0 => Try.f7.body.getD .skip
  | n + 1 => cR (pn n)
set_option linter.unusedVariables false in
set_option maxRecDepth 1000000 in
set_option maxHeartbeats 16000000 in
theorem nr0 {w w2 : World}  {Q : Exit → Act → World → Prop} {a : Act} (hF : Fr a []) (HS : St w w2 [] [])
    (h : ∀ (a' : Act) (w' : World), Fr a' [] → St w w' [] [] → Q .normal a' w') : (cL (pn 0)).wp Try.prog Q a w2 := by
  conv => arg 2; whnf
  obtain ⟨f, rfl, _, hfr⟩ := hF.open
  clear hF hfr
  have H := hide h
  clear h
  go_wp2_with fail
  exact H.out _ _ ⟨rfl, rfl, trivial⟩ HS
set_option linter.unusedVariables false in
set_option maxRecDepth 1000000 in
set_option maxHeartbeats 16000000 in
theorem nr1 {w w2 : World}  {Q : Exit → Act → World → Prop} {a : Act} (hF : Fr a []) (HS : St w w2 [] [])
    (h : ∀ (a' : Act) (w' : World) b, Fr a' [(1, b)] → St w w' [(b, Pag.bytesT)] [] → Q .normal a' w') : (cL (pn 1)).wp Try.prog Q a w2 := by
  conv => arg 2; whnf
  obtain ⟨f, rfl, _, hfr⟩ := hF.open
  clear hF hfr
  have H := hide h
  clear h
  go_wp2_with fail
  with_reducible refine (two_any _).mono ?_
  rintro e w3 ⟨A, c, rfl, hc, hb⟩
  have HC := hide hc
  have HS3 := HS.below hb
  clear hc hb HS
  go_wp2_with fail
  with_reducible refine (pack_bd (kd := 1) (K := 1) (nx := 0) (m := 0) HC.out (by omega) (by decide) (r := 0) (x := Pag.bytesT) Pag.pack_two2 rfl).mono ?_
  rintro e w4 ⟨v, rfl, hv, hb⟩
  have HS4 := (HS3.below hb).cons hv
  clear hv hb HS3
  go_wp2_with fail
  exact H.out _ _ _ ⟨rfl, rfl, rfl, trivial⟩ HS4
set_option linter.unusedVariables false in
set_option maxRecDepth 1000000 in
set_option maxHeartbeats 16000000 in
theorem nr2 {w w2 : World} {b : Value} {Q : Exit → Act → World → Prop} {a : Act} (hF : Fr a [(1, b)]) (HS : St w w2 [(b, Pag.bytesT)] [])
    (h : ∀ (a' : Act) (w' : World), Fr a' [(1, b), (3, .int .i64 4056), (4, .int .i64 0)] → St w w' [(b, Pag.bytesT)] [] → Q .normal a' w') : (cL (pn 2)).wp Try.prog Q a w2 := by
  conv => arg 2; whnf
  obtain ⟨f, rfl, ⟨s1, _⟩, hfr⟩ := hF.open
  rw [hfr] at s1
  rw [s1]
  clear hF hfr s1
  have H := hide h
  clear h
  go_wp2_with fail
  with_reducible refine (room_bd (HS.rd b Pag.bytesT (by simp)) (q := 0) Pag.room_two rfl).mono ?_
  rintro e w3 ⟨rfl, hb⟩
  have HS3 := HS.below hb
  clear hb
  go_wp2_with fail
  exact H.out _ _ ⟨rfl, rfl, rfl, rfl, rfl, trivial⟩ HS3
set_option linter.unusedVariables false in
set_option maxRecDepth 1000000 in
set_option maxHeartbeats 16000000 in
theorem nr3 {w w2 : World} {b : Value} {CB : List UInt8} {Q : Exit → Act → World → Prop} {a : Act} (hF : Fr a [(1, b), (3, .int .i64 4056), (4, .int .i64 0)]) (HS : St w w2 [(b, Pag.bytesT)] []) (hp : Pag.putB Pag.bytesT [98] [] = (0, CB))
    (h : ∀ (a' : Act) (w' : World) c, Fr a' [(1, b), (3, .int .i64 4056), (4, .int .i64 0), (5, c), (6, .int .i64 0)] → St w w' [(c, CB), (b, Pag.bytesT)] [] → Q .normal a' w') : (cL (pn 3)).wp Try.prog Q a w2 := by
  conv => arg 2; whnf
  obtain ⟨f, rfl, ⟨s1, s3, s4, _⟩, hfr⟩ := hF.open
  rw [hfr] at s1 s3 s4
  rw [s1, s3, s4]
  clear hF hfr s1 s3 s4
  have H := hide h
  clear h
  have kc := fun (w : World) (C : Array Value) (n c g : Nat) (hg : g = w.heap.size) => bytes_const_at w C n c g hg
  go_wp2_with fail
  clear kc
  have HL := hide (lit_bd (w := w2) 98 (1, 2) (n := 98) rfl)
  have HS3 := HS.alloc (.cells #[.int .u8 98] 5 (1, 2))
  with_reducible refine (put_bd (HS3.rd b Pag.bytesT (by simp)) HL.out (bd_nil _ _) (m := 0) hp rfl).mono ?_
  rintro e w5 ⟨r, rfl, hr, hb⟩
  have HS5 := (HS3.below hb).cons hr
  clear hr hb HL HS
  go_wp2_with fail
  exact H.out _ _ _ ⟨rfl, rfl, rfl, rfl, rfl, rfl, rfl, trivial⟩ HS5
set_option linter.unusedVariables false in
set_option maxRecDepth 1000000 in
set_option maxHeartbeats 16000000 in
theorem nr4 {w w2 : World} {b c : Value} {CB : List UInt8} {Q : Exit → Act → World → Prop} {a : Act} (hF : Fr a [(1, b), (3, .int .i64 4056), (4, .int .i64 0), (5, c), (6, .int .i64 0)]) (HS : St w w2 [(c, CB), (b, Pag.bytesT)] []) (hp : Pag.findB CB [98] = ([], true, 0))
    (h : ∀ (a' : Act) (w' : World) A k, Fr a' [(1, b), (3, .int .i64 4056), (4, .int .i64 0), (5, c), (6, .int .i64 0), (7, .slice A 0 k), (8, .bool true), (9, .int .i64 0)] → St w w' [(c, CB), (b, Pag.bytesT)] [] → Q .normal a' w') : (cL (pn 4)).wp Try.prog Q a w2 := by
  conv => arg 2; whnf
  obtain ⟨f, rfl, ⟨s1, s3, s4, s5, s6, _⟩, hfr⟩ := hF.open
  rw [hfr] at s1 s3 s4 s5 s6
  rw [s1, s3, s4, s5, s6]
  clear hF hfr s1 s3 s4 s5 s6
  have H := hide h
  clear h
  have kc := fun (w : World) (C : Array Value) (n c g : Nat) (hg : g = w.heap.size) => bytes_const_at w C n c g hg
  go_wp2_with fail
  clear kc
  have HL := hide (lit_bd (w := w2) 98 (1, 2) (n := 98) rfl)
  have HS3 := HS.alloc (.cells #[.int .u8 98] 5 (1, 2))
  with_reducible refine (find_bd (HS3.rd c CB (by simp)) HL.out (m := 0) hp rfl).mono ?_
  rintro e w5 ⟨r, rfl, hr, hb⟩
  obtain ⟨A, k, rfl, _⟩ := hr
  have HS5 := HS3.below hb
  clear hb HL HS
  go_wp2_with fail
  exact H.out _ _ _ _ ⟨rfl, rfl, rfl, rfl, rfl, rfl, rfl, rfl, rfl, rfl, trivial⟩ HS5
set_option linter.unusedVariables false in
set_option maxRecDepth 1000000 in
set_option maxHeartbeats 16000000 in
theorem nr5 {w w2 : World} {b c : Value} {CB DB : List UInt8} {A : Option Addr} {k : Nat} {Q : Exit → Act → World → Prop} {a : Act} (hF : Fr a [(1, b), (3, .int .i64 4056), (4, .int .i64 0), (5, c), (6, .int .i64 0), (7, .slice A 0 k), (8, .bool true), (9, .int .i64 0)]) (HS : St w w2 [(c, CB), (b, Pag.bytesT)] []) (hp : Pag.dropB CB [97] = (DB, true, 0))
    (h : ∀ (a' : Act) (w' : World), Fr a' [(1, b), (3, .int .i64 4056), (4, .int .i64 0), (5, c), (6, .int .i64 0), (7, .slice A 0 k), (8, .bool true), (9, .int .i64 0), (11, .bool true), (12, .int .i64 0)] → St w w' [(c, CB), (b, Pag.bytesT)] [] → Q .normal a' w') : (cL (pn 5)).wp Try.prog Q a w2 := by
  conv => arg 2; whnf
  obtain ⟨f, rfl, ⟨s1, s3, s4, s5, s6, s7, s8, s9, _⟩, hfr⟩ := hF.open
  rw [hfr] at s1 s3 s4 s5 s6 s7 s8 s9
  rw [s1, s3, s4, s5, s6, s7, s8, s9]
  clear hF hfr s1 s3 s4 s5 s6 s7 s8 s9
  have H := hide h
  clear h
  have kc := fun (w : World) (C : Array Value) (n c g : Nat) (hg : g = w.heap.size) => bytes_const_at w C n c g hg
  go_wp2_with fail
  clear kc
  have HL := hide (lit_bd (w := w2) 97 (1, 2) (n := 97) rfl)
  have HS3 := HS.alloc (.cells #[.int .u8 97] 5 (1, 2))
  with_reducible refine (drop_bd (HS3.rd c CB (by simp)) HL.out (m := 0) hp rfl).mono ?_
  rintro e w5 ⟨r, rfl, hr, hb⟩
  have HS5 := HS3.below hb
  clear hr hb HL HS
  go_wp2_with fail
  exact H.out _ _ ⟨rfl, rfl, rfl, rfl, rfl, rfl, rfl, rfl, rfl, rfl, rfl, rfl, trivial⟩ HS5
set_option linter.unusedVariables false in
set_option maxRecDepth 1000000 in
set_option maxHeartbeats 16000000 in
theorem nr6 {w w2 : World} {b c : Value} {CB : List UInt8} {A : Option Addr} {k : Nat} {Q : Exit → Act → World → Prop} {a : Act} (hF : Fr a [(1, b), (3, .int .i64 4056), (4, .int .i64 0), (5, c), (6, .int .i64 0), (7, .slice A 0 k), (8, .bool true), (9, .int .i64 0), (11, .bool true), (12, .int .i64 0)]) (HS : St w w2 [(c, CB), (b, Pag.bytesT)] [])
    (h : ∀ (a' : Act) (w' : World) d, Fr a' [(1, b), (3, .int .i64 4056), (4, .int .i64 0), (5, c), (6, .int .i64 0), (7, .slice A 0 k), (8, .bool true), (9, .int .i64 0), (11, .bool true), (12, .int .i64 0), (13, d), (14, .bool false), (15, .int .i64 0)] → St w w' [(d, Pag.bytesT), (c, CB), (b, Pag.bytesT)] [] → Q .normal a' w') : (cL (pn 6)).wp Try.prog Q a w2 := by
  conv => arg 2; whnf
  obtain ⟨f, rfl, ⟨s1, s3, s4, s5, s6, s7, s8, s9, s11, s12, _⟩, hfr⟩ := hF.open
  rw [hfr] at s1 s3 s4 s5 s6 s7 s8 s9 s11 s12
  rw [s1, s3, s4, s5, s6, s7, s8, s9, s11, s12]
  clear hF hfr s1 s3 s4 s5 s6 s7 s8 s9 s11 s12
  have H := hide h
  clear h
  have kc := fun (w : World) (C : Array Value) (n c g : Nat) (hg : g = w.heap.size) => bytes_const_at w C n c g hg
  go_wp2_with fail
  clear kc
  have HL := hide (lit_bd (w := w2) 122 (1, 2) (n := 122) rfl)
  have HS3 := HS.alloc (.cells #[.int .u8 122] 5 (1, 2))
  with_reducible refine (drop_bd (HS3.rd b Pag.bytesT (by simp)) HL.out (m := 0) Pag.drop_two rfl).mono ?_
  rintro e w5 ⟨r, rfl, hr, hb⟩
  have HS5 := (HS3.below hb).cons hr
  clear hr hb HL HS
  go_wp2_with fail
  exact H.out _ _ _ ⟨rfl, rfl, rfl, rfl, rfl, rfl, rfl, rfl, rfl, rfl, rfl, rfl, rfl, rfl, rfl, trivial⟩ HS5
set_option linter.unusedVariables false in
set_option maxRecDepth 1000000 in
set_option maxHeartbeats 16000000 in
theorem nr7 {w w2 : World} {b c d : Value} {CB : List UInt8} {A : Option Addr} {k : Nat} {Q : Exit → Act → World → Prop} {a : Act} (hF : Fr a [(1, b), (3, .int .i64 4056), (4, .int .i64 0), (5, c), (6, .int .i64 0), (7, .slice A 0 k), (8, .bool true), (9, .int .i64 0), (11, .bool true), (12, .int .i64 0), (13, d), (14, .bool false), (15, .int .i64 0)]) (HS : St w w2 [(d, Pag.bytesT), (c, CB), (b, Pag.bytesT)] [])
    (h : ∀ (a' : Act) (w' : World), Fr a' [(1, b), (16, .bool true)] → St w w' [(b, Pag.bytesT)] [] → Q .normal a' w') : (cL (pn 7)).wp Try.prog Q a w2 := by
  conv => arg 2; whnf
  obtain ⟨f, rfl, ⟨s1, s3, s4, s5, s6, s7, s8, s9, s11, s12, s13, s14, s15, _⟩, hfr⟩ := hF.open
  rw [hfr] at s1 s3 s4 s5 s6 s7 s8 s9 s11 s12 s13 s14 s15
  rw [s1, s3, s4, s5, s6, s7, s8, s9, s11, s12, s13, s14, s15]
  clear hF hfr s1 s3 s4 s5 s6 s7 s8 s9 s11 s12 s13 s14 s15
  have H := hide h
  clear h
  go_wp2_with fail
  with_reducible refine (same_bd (HS.rd d Pag.bytesT (by simp)) (HS.rd b Pag.bytesT (by simp))).mono ?_
  rintro e w' ⟨rfl, rfl⟩
  go_wp2_with fail
  exact H.out _ _ ⟨rfl, rfl, rfl, rfl, trivial⟩ (HS.sub (by simp) (by simp))
end Go.Proofs.Ytpoilndlfbmhgaa

/-
  PageNumbers: its regions, one by one (printed by pnum.py). Conditions: none.
-/
namespace Go.Proofs.Ytpoilndlfbmhgaa
open Go.RowKit

set_option linter.unusedVariables false in
set_option maxRecDepth 1000000 in
set_option maxHeartbeats 16000000 in
theorem nr8 {w w2 : World} {b : Value} {Q : Exit → Act → World → Prop} {a : Act} (hF : Fr a [(1, b), (16, .bool true)]) (HS : St w w2 [(b, Pag.bytesT)] [])
    (h : ∀ (a' : Act) (w' : World), Fr a' [(1, b), (16, .bool true), (18, .int .i64 2)] → St w w' [(b, Pag.bytesT)] [] → Q .normal a' w') : (cL (pn 8)).wp Try.prog Q a w2 := by
  conv => arg 2; whnf
  obtain ⟨f, rfl, ⟨s1, s16, _⟩, hfr⟩ := hF.open
  rw [hfr] at s1 s16
  rw [s1, s16]
  clear hF hfr s1 s16
  have H := hide h
  clear h
  go_wp2_with (at_make; refine wpList_zs 321 (by omega) rfl _ _ rfl rfl rfl rfl rfl ?_; intro v3 w3 hv3 hb3; have HV := hide hv3; have HS3 := HS.below hb3; clear hv3 hb3 HS)
  with_reducible refine (put_bd (HS3.rd b Pag.bytesT (by simp)) HV.out (bd_nil _ _) (m := 2) (Pag.put_bad _ _ (Pag.may_k 321 _ (by omega))) rfl).mono ?_
  rintro e w5 ⟨r, rfl, hr, hb⟩
  have HS5 := HS3.below hb
  clear hr hb HS3
  go_wp2_with fail
  exact H.out _ _ ⟨rfl, rfl, rfl, rfl, rfl, trivial⟩ HS5
set_option linter.unusedVariables false in
set_option maxRecDepth 1000000 in
set_option maxHeartbeats 16000000 in
theorem nr9 {w w2 : World} {b : Value} {Q : Exit → Act → World → Prop} {a : Act} (hF : Fr a [(1, b), (16, .bool true), (18, .int .i64 2)]) (HS : St w w2 [(b, Pag.bytesT)] [])
    (h : ∀ (a' : Act) (w' : World), Fr a' [(1, b), (16, .bool true), (18, .int .i64 2), (20, .int .i64 2)] → St w w' [(b, Pag.bytesT)] [] → Q .normal a' w') : (cL (pn 9)).wp Try.prog Q a w2 := by
  conv => arg 2; whnf
  obtain ⟨f, rfl, ⟨s1, s16, s18, _⟩, hfr⟩ := hF.open
  rw [hfr] at s1 s16 s18
  rw [s1, s16, s18]
  clear hF hfr s1 s16 s18
  have H := hide h
  clear h
  go_wp2_with fail
  have HS3 := HS
  clear HS
  with_reducible refine (put_bd (HS3.rd b Pag.bytesT (by simp)) (bd_nil _ _) (bd_nil _ _) (m := 2) (Pag.put_bad [] [] (by decide)) rfl).mono ?_
  rintro e w5 ⟨r, rfl, hr, hb⟩
  have HS5 := HS3.below hb
  clear hr hb HS3
  go_wp2_with fail
  exact H.out _ _ ⟨rfl, rfl, rfl, rfl, rfl, rfl, trivial⟩ HS5
set_option linter.unusedVariables false in
set_option maxRecDepth 1000000 in
set_option maxHeartbeats 16000000 in
theorem nr10 {w w2 : World} {b : Value} {Q : Exit → Act → World → Prop} {a : Act} (hF : Fr a [(1, b), (16, .bool true), (18, .int .i64 2), (20, .int .i64 2)]) (HS : St w w2 [(b, Pag.bytesT)] [])
    (h : ∀ (a' : Act) (w' : World), Fr a' [(1, b), (16, .bool true), (18, .int .i64 2), (20, .int .i64 2), (22, .int .i64 2)] → St w w' [(b, Pag.bytesT)] [] → Q .normal a' w') : (cL (pn 10)).wp Try.prog Q a w2 := by
  conv => arg 2; whnf
  obtain ⟨f, rfl, ⟨s1, s16, s18, s20, _⟩, hfr⟩ := hF.open
  rw [hfr] at s1 s16 s18 s20
  rw [s1, s16, s18, s20]
  clear hF hfr s1 s16 s18 s20
  have H := hide h
  clear h
  have kc := fun (w : World) (C : Array Value) (n c g : Nat) (hg : g = w.heap.size) => bytes_const_at w C n c g hg
  have HL := hide (lit_bd (w := w2) 120 (1, 2) (n := 120) rfl)
  have HS3 := HS.alloc (.cells #[.int .u8 120] 5 (1, 2))
  go_wp2_with (at_make; refine wpList_zs 577 (by omega) rfl _ _ rfl rfl rfl rfl rfl ?_; intro v3 w3 hv3 hb3; have HV := hide hv3; have HL3 := hide (bd_below HL.out hb3); replace HS3 := HS3.below hb3; clear hv3 hb3 HS HL)
  with_reducible refine (put_bd (HS3.rd b Pag.bytesT (by simp)) HL3.out HV.out (m := 2) (Pag.put_bad _ _ (Pag.may_v [120] 577 (by omega))) rfl).mono ?_
  rintro e w5 ⟨r, rfl, hr, hb⟩
  have HS5 := HS3.below hb
  clear hr hb HS3
  go_wp2_with fail
  exact H.out _ _ ⟨rfl, rfl, rfl, rfl, rfl, rfl, rfl, trivial⟩ HS5
set_option linter.unusedVariables false in
set_option maxRecDepth 1000000 in
set_option maxHeartbeats 16000000 in
theorem nr11 {w w2 : World} {b : Value} {PB : List UInt8} {Q : Exit → Act → World → Prop} {a : Act} (hF : Fr a [(1, b), (16, .bool true), (18, .int .i64 2), (20, .int .i64 2), (22, .int .i64 2)]) (HS : St w w2 [(b, Pag.bytesT)] []) (hp : Pag.putB Pag.bytesT (Pag.zs 320) (Pag.zs 576) = (0, PB))
    (h : ∀ (a' : Act) (w' : World), Fr a' [(1, b), (16, .bool true), (18, .int .i64 2), (20, .int .i64 2), (22, .int .i64 2), (24, .int .i64 0)] → St w w' [(b, Pag.bytesT)] [] → Q .normal a' w') : (cL (pn 11)).wp Try.prog Q a w2 := by
  conv => arg 2; whnf
  obtain ⟨f, rfl, ⟨s1, s16, s18, s20, s22, _⟩, hfr⟩ := hF.open
  rw [hfr] at s1 s16 s18 s20 s22
  rw [s1, s16, s18, s20, s22]
  clear hF hfr s1 s16 s18 s20 s22
  have H := hide h
  clear h
  have hTs := tab_stable (l := [(1, BdF (Pag.zs 320)), (2, BdF (Pag.zs 576)), (3, NoF)]) (fun p hp => by
      simp only [List.mem_cons, List.not_mem_nil, or_false] at hp
      rcases hp with rfl | rfl | rfl
      · exact BdF.stable _
      · exact BdF.stable _
      · exact NoF.stable)
  have hSs := shp_some (l := [(3, IsP0)]) (fun p hp => by
      simp only [List.mem_cons, List.not_mem_nil, or_false] at hp
      subst hp
      exact IsP0.some)
  have HTs := hide hTs
  have HSs := hide hSs
  clear hTs hSs
  refine wp_region_toldL (tab [(1, BdF (Pag.zs 320)), (2, BdF (Pag.zs 576)), (3, NoF)]) (Up w2) (w2.heap.size) 9 (shp [(3, IsP0)]) (HSs.out) (HTs.out) (Up.lives _) Gro (Gro.turns (Up.lives _) (HTs.out)) (by kernel_rfl) (by kernel_rfl) (Up.start _) (Nat.le_refl _) ?_
  simp only [List.take_succ_cons, List.take_zero, List.drop_succ_cons, List.drop_zero]
  refine wpTold_read ?_ rfl rfl (fun w' hS => ?_) ?_
  rotate_left
  · go_simp
    rfl
  go_frame
  refine wpTold_tell _ rfl rfl (fun w' hS hh hs => ?_) (fun v1 h1 => ?_)
  · obtain ⟨v, w9, hrun, ho, hb⟩ := run_zs (w := w') 320 (by omega)
    exact ⟨v, w9, exec_zs 320 _ _ rfl rfl rfl hrun, ⟨trivial, zs_own ho (by omega) (Nat.le_refl _) hb.size⟩, hb⟩
  go_frame
  refine wpTold_tell _ rfl rfl (fun w' hS hh hs => ?_) (fun v2 h2 => ?_)
  · obtain ⟨v, w9, hrun, ho, hb⟩ := run_zs (w := w') 576 (by omega)
    exact ⟨v, w9, exec_zs 576 _ _ rfl rfl rfl hrun, ⟨trivial, zs_own ho (by omega) (Nat.le_refl _) hb.size⟩, hb⟩
  go_frame
  refine' wpTold_call _ _ _ rfl rfl (fun w' => ?_) (fun w' hS hh hs => ?_) (fun v3 h3 => ?_)
  rotate_left 2
  · go_simp
    constructor <;> rfl
  · have h1 := hs.1 1 _ _ (by kernel_rfl) rfl rfl
    have h2 := hs.1 2 _ _ (by kernel_rfl) rfl rfl
    refine (put_bd (bd_below (HS.rd b Pag.bytesT (by simp)) hS) h1 h2 (m := 0) hp rfl).mono ?_
    rintro e w9 ⟨r, rfl, hr, hb⟩
    exact ⟨_, rfl, ⟨⟨r, rfl⟩, trivial⟩, hb⟩
  obtain ⟨r3, rfl⟩ := h3
  go_frame
  refine wpTold_read ?_ rfl rfl (fun w' hS => ?_) ?_
  rotate_left
  · go_simp
    rfl
  go_frame
  refine wpTold_read ?_ rfl rfl (fun w' hS => ?_) ?_
  rotate_left
  · go_simp
    rfl
  go_frame
  refine wpTold_read ?_ rfl rfl (fun w' hS => ?_) ?_
  rotate_left
  · go_simp
    rfl
  go_frame
  refine wpTold_read ?_ rfl rfl (fun w' hS => ?_) ?_
  rotate_left
  · go_simp
    rfl
  go_frame
  refine wpTold_read ?_ rfl rfl (fun w' hS => ?_) ?_
  rotate_left
  · go_simp
    rfl
  go_frame
  refine wpTold_nil fun w3 hH => ?_
  have hup : Below w2.heap.size w2 w3 := hH.s
  have HS3 := HS.below hup
  clear hH hup HS
  go_wp2_with fail
  exact H.out _ _ ⟨rfl, rfl, rfl, rfl, rfl, rfl, rfl, rfl, trivial⟩ HS3
set_option linter.unusedVariables false in
set_option maxRecDepth 1000000 in
set_option maxHeartbeats 16000000 in
theorem nr12 {w w2 : World} {b : Value} {X Y : List UInt8} {Q : Exit → Act → World → Prop} {a : Act} (hF : Fr a [(1, b), (16, .bool true), (18, .int .i64 2), (20, .int .i64 2), (22, .int .i64 2), (24, .int .i64 0)]) (HS : St w w2 [(b, Pag.bytesT)] []) (hp : Pag.splitB Pag.bytesT = (X, Y, [99], 0))
    (h : ∀ (a' : Act) (w' : World) x y k, Fr a' [(16, .bool true), (18, .int .i64 2), (20, .int .i64 2), (22, .int .i64 2), (24, .int .i64 0), (25, x), (26, y), (27, k), (28, .int .i64 0)] → St w w' [(x, X), (y, Y), (k, [99])] [] → Q .normal a' w') : (cL (pn 12)).wp Try.prog Q a w2 := by
  conv => arg 2; whnf
  obtain ⟨f, rfl, ⟨s1, s16, s18, s20, s22, s24, _⟩, hfr⟩ := hF.open
  rw [hfr] at s1 s16 s18 s20 s22 s24
  rw [s1, s16, s18, s20, s22, s24]
  clear hF hfr s1 s16 s18 s20 s22 s24
  have H := hide h
  clear h
  go_wp2_with fail
  with_reducible refine (split_bd (HS.rd b Pag.bytesT (by simp)) (m := 0) hp rfl).mono ?_
  rintro e w5 ⟨r, s, t, rfl, h1, h2, h3, hb⟩
  have HS5 := (((HS.sub (M' := []) (N' := []) (by simp) (by simp)).below hb).cons h3 |>.cons h2).cons h1
  clear h1 h2 h3 hb HS
  go_wp2_with fail
  exact H.out _ _ _ _ _ ⟨rfl, rfl, rfl, rfl, rfl, rfl, rfl, rfl, rfl, rfl, rfl, trivial⟩ HS5
set_option linter.unusedVariables false in
set_option maxRecDepth 1000000 in
set_option maxHeartbeats 16000000 in
theorem nr13 {w w2 : World} {x y k : Value} {X Y : List UInt8} {Q : Exit → Act → World → Prop} {a : Act} (hF : Fr a [(16, .bool true), (18, .int .i64 2), (20, .int .i64 2), (22, .int .i64 2), (24, .int .i64 0), (25, x), (26, y), (27, k), (28, .int .i64 0)]) (HS : St w w2 [(x, X), (y, Y), (k, [99])] []) (hp : Pag.unpB X = some Pag.xP)
    (h : ∀ (a' : Act) (w' : World) g1 A1 c1, Fr a' [(16, .bool true), (18, .int .i64 2), (20, .int .i64 2), (22, .int .i64 2), (24, .int .i64 0), (25, x), (26, y), (27, k), (28, .int .i64 0), (29, .pointer (some ⟨g1, 0, none⟩))] → St w w' [(x, X), (y, Y), (k, [99])] [(g1, #[.int .u8 1, .int .i64 0, .slice A1 1 c1])] → Q .normal a' w') : (cL (pn 13)).wp Try.prog Q a w2 := by
  conv => arg 2; whnf
  obtain ⟨f, rfl, ⟨s16, s18, s20, s22, s24, s25, s26, s27, s28, _⟩, hfr⟩ := hF.open
  rw [hfr] at s16 s18 s20 s22 s24 s25 s26 s27 s28
  rw [s16, s18, s20, s22, s24, s25, s26, s27, s28]
  clear hF hfr s16 s18 s20 s22 s24 s25 s26 s27 s28
  have H := hide h
  clear h
  go_wp2_with fail
  with_reducible refine (unpack_bd (HS.rd x X (by simp)) hp (K := 1) (nx := 0) (m := 1) rfl rfl rfl).mono ?_
  rintro e w5 ⟨A', c', rfl, hb⟩
  have HS5 := (HS.below hb).alloc (.cells #[.int .u8 1, .int .i64 0, .slice A' 1 c'] 25)
  have HS6 := HS5.page (Blk.new w5 _ _)
  clear hb HS HS5
  go_wp2_with fail
  exact H.out _ _ _ _ _ ⟨rfl, rfl, rfl, rfl, rfl, rfl, rfl, rfl, rfl, rfl, rfl, rfl, trivial⟩ HS6
set_option linter.unusedVariables false in
set_option maxRecDepth 1000000 in
set_option maxHeartbeats 16000000 in
theorem nr14 {w w2 : World} {x y k : Value} {X Y : List UInt8} {g1 c1 : Nat} {A1 : Option Addr} {Q : Exit → Act → World → Prop} {a : Act} (hF : Fr a [(16, .bool true), (18, .int .i64 2), (20, .int .i64 2), (22, .int .i64 2), (24, .int .i64 0), (25, x), (26, y), (27, k), (28, .int .i64 0), (29, .pointer (some ⟨g1, 0, none⟩))]) (HS : St w w2 [(x, X), (y, Y), (k, [99])] [(g1, #[.int .u8 1, .int .i64 0, .slice A1 1 c1])]) (hp : Pag.unpB Y = some Pag.yP)
    (h : ∀ (a' : Act) (w' : World) g2 A2 c2, Fr a' [(16, .bool true), (18, .int .i64 2), (20, .int .i64 2), (22, .int .i64 2), (24, .int .i64 0), (25, x), (26, y), (27, k), (28, .int .i64 0), (29, .pointer (some ⟨g1, 0, none⟩)), (31, .pointer (some ⟨g2, 0, none⟩))] → St w w' [(x, X), (y, Y), (k, [99])] [(g2, #[.int .u8 1, .int .i64 0, .slice A2 1 c2]), (g1, #[.int .u8 1, .int .i64 0, .slice A1 1 c1])] → Q .normal a' w') : (cL (pn 14)).wp Try.prog Q a w2 := by
  conv => arg 2; whnf
  obtain ⟨f, rfl, ⟨s16, s18, s20, s22, s24, s25, s26, s27, s28, s29, _⟩, hfr⟩ := hF.open
  rw [hfr] at s16 s18 s20 s22 s24 s25 s26 s27 s28 s29
  rw [s16, s18, s20, s22, s24, s25, s26, s27, s28, s29]
  clear hF hfr s16 s18 s20 s22 s24 s25 s26 s27 s28 s29
  have H := hide h
  clear h
  go_wp2_with fail
  with_reducible refine (unpack_bd (HS.rd y Y (by simp)) hp (K := 1) (nx := 0) (m := 1) rfl rfl rfl).mono ?_
  rintro e w5 ⟨A', c', rfl, hb⟩
  have HS5 := (HS.below hb).alloc (.cells #[.int .u8 1, .int .i64 0, .slice A' 1 c'] 25)
  have HS6 := HS5.page (Blk.new w5 _ _)
  clear hb HS HS5
  go_wp2_with fail
  exact H.out _ _ _ _ _ ⟨rfl, rfl, rfl, rfl, rfl, rfl, rfl, rfl, rfl, rfl, rfl, rfl, rfl, trivial⟩ HS6
set_option linter.unusedVariables false in
set_option maxRecDepth 1000000 in
set_option maxHeartbeats 16000000 in
theorem nr15 {w w2 : World} {x y k : Value} {X Y : List UInt8} {g1 c1 g2 c2 : Nat} {A1 A2 : Option Addr} {Q : Exit → Act → World → Prop} {a : Act} (hF : Fr a [(16, .bool true), (18, .int .i64 2), (20, .int .i64 2), (22, .int .i64 2), (24, .int .i64 0), (25, x), (26, y), (27, k), (28, .int .i64 0), (29, .pointer (some ⟨g1, 0, none⟩)), (31, .pointer (some ⟨g2, 0, none⟩))]) (HS : St w w2 [(x, X), (y, Y), (k, [99])] [(g2, #[.int .u8 1, .int .i64 0, .slice A2 1 c2]), (g1, #[.int .u8 1, .int .i64 0, .slice A1 1 c1])])
    (h : ∀ (a' : Act) (w' : World), Fr a' [(16, .bool true), (33, .bool true), (25, x)] → St w w' [(x, X)] [] → Q .normal a' w') : (cL (pn 15)).wp Try.prog Q a w2 := by
  conv => arg 2; whnf
  obtain ⟨f, rfl, ⟨s16, s18, s20, s22, s24, s25, s26, s27, s28, s29, s31, _⟩, hfr⟩ := hF.open
  rw [hfr] at s16 s18 s20 s22 s24 s25 s26 s27 s28 s29 s31
  rw [s16, s18, s20, s22, s24, s25, s26, s27, s28, s29, s31]
  clear hF hfr s16 s18 s20 s22 s24 s25 s26 s27 s28 s29 s31
  have H := hide h
  clear h
  have q1 := (HS.pg g1 #[.int .u8 1, .int .i64 0, .slice A1 1 c1] (by simp)).cell 2
  have q2 := (HS.pg g2 #[.int .u8 1, .int .i64 0, .slice A2 1 c2] (by simp)).cell 2
  simp at q1 q2
  obtain ⟨A, c, e, r1, _⟩ := HS.rd k [99] (by simp)
  simp only [List.length_singleton] at e r1
  subst e
  have sc := r1.run_string (P := Try.prog) 26 5 9 c Try.underlying26 Try.underlying5 Try.underlying9
  clear r1
  go_wp2_with fail
  exact H.out _ _ ⟨rfl, rfl, rfl, rfl, rfl, trivial⟩ (HS.sub (by simp) (by simp))
set_option linter.unusedVariables false in
set_option maxRecDepth 1000000 in
set_option maxHeartbeats 16000000 in
theorem nr16 {w w2 : World} {x : Value} {X : List UInt8} {Q : Exit → Act → World → Prop} {a : Act} (hF : Fr a [(16, .bool true), (33, .bool true), (25, x)]) (HS : St w w2 [(x, X)] [])
    (h : ∀ (a' : Act) (w' : World) g3 A3 c3, Fr a' [(16, .bool true), (33, .bool true), (25, x), (34, .pointer (some ⟨g3, 0, none⟩)), (35, .int .i64 0)] → St w w' [(x, X)] [(g3, #[.int .u8 0, .int .i64 0, .slice A3 0 c3])] → Q .normal a' w') : (cL (pn 16)).wp Try.prog Q a w2 := by
  conv => arg 2; whnf
  obtain ⟨f, rfl, ⟨s16, s33, s25, _⟩, hfr⟩ := hF.open
  rw [hfr] at s16 s33 s25
  rw [s16, s33, s25]
  clear hF hfr s16 s33 s25
  have H := hide h
  clear h
  go_wp2_with (at_make; refine wpList_zs 4080 (by omega) rfl _ _ rfl rfl rfl rfl rfl ?_; intro v3 w3 hv3 hb3; have HV := hide hv3; have HS3 := HS.below hb3; clear hv3 hb3 HS)
  with_reducible refine (unpack_bd HV.out Pag.unp_zeros (K := 0) (nx := 0) (m := 0) rfl rfl rfl).mono ?_
  rintro e w5 ⟨A', c', rfl, hb⟩
  have HS5 := (HS3.below hb).alloc (.cells #[.int .u8 0, .int .i64 0, .slice A' 0 c'] 25)
  have HS6 := HS5.page (Blk.new w5 _ _)
  clear hb HS3 HS5
  go_wp2_with fail
  exact H.out _ _ _ _ _ ⟨rfl, rfl, rfl, rfl, rfl, rfl, rfl, trivial⟩ HS6
set_option linter.unusedVariables false in
set_option maxRecDepth 1000000 in
set_option maxHeartbeats 16000000 in
theorem nr17 {w w2 : World} {x : Value} {X : List UInt8} {g3 c3 : Nat} {A3 : Option Addr} {Q : Exit → Act → World → Prop} {a : Act} (hF : Fr a [(16, .bool true), (33, .bool true), (25, x), (34, .pointer (some ⟨g3, 0, none⟩)), (35, .int .i64 0)]) (HS : St w w2 [(x, X)] [(g3, #[.int .u8 0, .int .i64 0, .slice A3 0 c3])])
    (h : ∀ (a' : Act) (w' : World), Fr a' [(16, .bool true), (33, .bool true), (25, x), (34, .pointer (some ⟨g3, 0, none⟩)), (35, .int .i64 0), (37, .int .i64 170)] → St w w' [(x, X)] [(g3, #[.int .u8 0, .int .i64 0, .slice A3 0 c3])] → Q .normal a' w') : (cL (pn 17)).wp Try.prog Q a w2 := by
  conv => arg 2; whnf
  obtain ⟨f, rfl, ⟨s16, s33, s25, s34, s35, _⟩, hfr⟩ := hF.open
  rw [hfr] at s16 s33 s25 s34 s35
  rw [s16, s33, s25, s34, s35]
  clear hF hfr s16 s33 s25 s34 s35
  have H := hide h
  clear h
  go_wp2_with (at_make; refine wpList_zs 4079 (by omega) rfl _ _ rfl rfl rfl rfl rfl ?_; intro v3 w3 hv3 hb3; have HV := hide hv3; have HS3 := HS.below hb3; clear hv3 hb3 HS)
  with_reducible refine (unpack_no HV.out Pag.unp_short).mono ?_
  rintro e w5 ⟨rfl, hb⟩
  have HS5 := (HS3.below hb).alloc (.cells #[.int .u8 0, .int .i64 0, .slice none 0 0] 25)
  clear hb HS3
  go_wp2_with fail
  exact H.out _ _ ⟨rfl, rfl, rfl, rfl, rfl, rfl, rfl, rfl, trivial⟩ HS5
set_option linter.unusedVariables false in
set_option maxRecDepth 1000000 in
set_option maxHeartbeats 16000000 in
theorem nr18 {w w2 : World} {x : Value} {X : List UInt8} {g3 c3 : Nat} {A3 : Option Addr} {Q : Exit → Act → World → Prop} {a : Act} (hF : Fr a [(16, .bool true), (33, .bool true), (25, x), (34, .pointer (some ⟨g3, 0, none⟩)), (35, .int .i64 0), (37, .int .i64 170)]) (HS : St w w2 [(x, X)] [(g3, #[.int .u8 0, .int .i64 0, .slice A3 0 c3])])
    (h : ∀ (a' : Act) (w' : World), Fr a' [(16, .bool true), (33, .bool true), (25, x), (34, .pointer (some ⟨g3, 0, none⟩)), (35, .int .i64 0), (37, .int .i64 170), (39, .int .i64 2)] → St w w' [(x, X)] [(g3, #[.int .u8 0, .int .i64 0, .slice A3 0 c3])] → Q .normal a' w') : (cL (pn 18)).wp Try.prog Q a w2 := by
  conv => arg 2; whnf
  obtain ⟨f, rfl, ⟨s16, s33, s25, s34, s35, s37, _⟩, hfr⟩ := hF.open
  rw [hfr] at s16 s33 s25 s34 s35 s37
  rw [s16, s33, s25, s34, s35, s37]
  clear hF hfr s16 s33 s25 s34 s35 s37
  have H := hide h
  clear h
  have kc := fun (w : World) (C : Array Value) (n c g : Nat) (hg : g = w.heap.size) => bytes_const_at w C n c g hg
  go_wp2_with (at_make; refine wpList_zs 4080 (by omega) rfl _ _ rfl rfl rfl rfl rfl ?_; intro v3 w3 hv3 hb3; have HS2 := HS.below hb3; have HL := hide (lit_bd (w := w3) 97 (1, 2) (n := 97) rfl); have HS3 := HS2.alloc (.cells #[.int .u8 97] 5 (1, 2)); have HV := hide (bd_below hv3 (al w3 (.cells #[.int .u8 97] 5 (1, 2)))); clear hv3 hb3 HS HS2)
  with_reducible refine (put_bd HV.out HL.out (bd_nil _ _) (m := 2) (Pag.put_zeros _ _) rfl).mono ?_
  rintro e w5 ⟨r, rfl, hr, hb⟩
  have HS5 := HS3.below hb
  clear hr hb HS3 HL HV kc
  go_wp2_with fail
  exact H.out _ _ ⟨rfl, rfl, rfl, rfl, rfl, rfl, rfl, rfl, rfl, trivial⟩ HS5
set_option linter.unusedVariables false in
set_option maxRecDepth 1000000 in
set_option maxHeartbeats 16000000 in
theorem nr19 {w w2 : World} {x : Value} {X : List UInt8} {g3 c3 : Nat} {A3 : Option Addr} {Q : Exit → Act → World → Prop} {a : Act} (hF : Fr a [(16, .bool true), (33, .bool true), (25, x), (34, .pointer (some ⟨g3, 0, none⟩)), (35, .int .i64 0), (37, .int .i64 170), (39, .int .i64 2)]) (HS : St w w2 [(x, X)] [(g3, #[.int .u8 0, .int .i64 0, .slice A3 0 c3])]) (hp : Pag.unpB X = some Pag.xP)
    (h : ∀ (a' : Act) (w' : World), Fr a' [(16, .bool true), (33, .bool true), (25, x), (34, .pointer (some ⟨g3, 0, none⟩)), (35, .int .i64 0), (37, .int .i64 170), (39, .int .i64 2), (43, .int .i64 2)] → St w w' [(x, X)] [(g3, #[.int .u8 0, .int .i64 0, .slice A3 0 c3])] → Q .normal a' w') : (cL (pn 19)).wp Try.prog Q a w2 := by
  conv => arg 2; whnf
  obtain ⟨f, rfl, ⟨s16, s33, s25, s34, s35, s37, s39, _⟩, hfr⟩ := hF.open
  rw [hfr] at s16 s33 s25 s34 s35 s37 s39
  rw [s16, s33, s25, s34, s35, s37, s39]
  clear hF hfr s16 s33 s25 s34 s35 s37 s39
  have H := hide h
  clear h
  go_wp2_with fail
  with_reducible refine (split_bd (HS.rd x X (by simp)) (m := 2) (Pag.split_x hp) rfl).mono ?_
  rintro e w5 ⟨r, s, t, rfl, h1, h2, h3, hb⟩
  have HS5 := HS.below hb
  clear h1 h2 h3 hb HS
  go_wp2_with fail
  exact H.out _ _ ⟨rfl, rfl, rfl, rfl, rfl, rfl, rfl, rfl, rfl, rfl, trivial⟩ HS5
set_option linter.unusedVariables false in
set_option maxRecDepth 1000000 in
set_option maxHeartbeats 16000000 in
theorem nr20 {w w2 : World} {x : Value} {X : List UInt8} {g3 c3 : Nat} {A3 : Option Addr} {Q : Exit → Act → World → Prop} {a : Act} (hF : Fr a [(16, .bool true), (33, .bool true), (25, x), (34, .pointer (some ⟨g3, 0, none⟩)), (35, .int .i64 0), (37, .int .i64 170), (39, .int .i64 2), (43, .int .i64 2)]) (HS : St w w2 [(x, X)] [(g3, #[.int .u8 0, .int .i64 0, .slice A3 0 c3])])
    (h : ∀ (a' : Act) (w' : World), Fr a' [(16, .bool true), (33, .bool true), (44, .bool true)] → St w w' [] [] → Q .normal a' w') : (cL (pn 20)).wp Try.prog Q a w2 := by
  conv => arg 2; whnf
  obtain ⟨f, rfl, ⟨s16, s33, s25, s34, s35, s37, s39, s43, _⟩, hfr⟩ := hF.open
  rw [hfr] at s16 s33 s25 s34 s35 s37 s39 s43
  rw [s16, s33, s25, s34, s35, s37, s39, s43]
  clear hF hfr s16 s33 s25 s34 s35 s37 s39 s43
  have H := hide h
  clear h
  have kc := fun (w : World) (C : Array Value) (n c g : Nat) (hg : g = w.heap.size) => bytes_const_at w C n c g hg
  have q1 := (HS.pg g3 #[.int .u8 0, .int .i64 0, .slice A3 0 c3] (by simp)).cell 0
  simp at q1
  have HS1 := HS.sub (M' := []) (N' := []) (by simp) (by simp)
  clear HS
  go_wp2_with fail
  with_reducible refine (two_any _).mono ?_
  rintro e w1a ⟨A1, c1, rfl, hc, hb⟩
  have HC1 := hide hc
  have HSa1 := HS1.below hb
  clear hc hb HS1
  go_wp2_with fail
  have HL := hide (lit_bd (w := w1a) 98 (1, 2) (n := 98) rfl)
  have HSb1 := HSa1.alloc (.cells #[.int .u8 98] 5 (1, 2))
  with_reducible refine (below_bd (kd := 1) (nx := 0) (ce_below HC1.out (al w1a _)) HL.out (by omega) (K := 1) (by decide) (m := 1) Pag.below_two.1 (by decide)).mono ?_
  rintro e w1b ⟨rfl, hb⟩
  have HS2 := HSb1.below hb
  clear hb HSa1 HSb1 HC1 HL
  go_wp2_with fail
  with_reducible refine (two_any _).mono ?_
  rintro e w2a ⟨A2, c2, rfl, hc, hb⟩
  have HC2 := hide hc
  have HSa2 := HS2.below hb
  clear hc hb HS2
  go_wp2_with fail
  have HL := hide (lit_bd (w := w2a) 99 (1, 2) (n := 99) rfl)
  have HSb2 := HSa2.alloc (.cells #[.int .u8 99] 5 (1, 2))
  with_reducible refine (below_bd (kd := 1) (nx := 0) (ce_below HC2.out (al w2a _)) HL.out (by omega) (K := 1) (by decide) (m := 2) Pag.below_two.2.1 (by decide)).mono ?_
  rintro e w2b ⟨rfl, hb⟩
  have HS3 := HSb2.below hb
  clear hb HSa2 HSb2 HC2 HL
  go_wp2_with fail
  with_reducible refine (two_any _).mono ?_
  rintro e w3a ⟨A3, c3, rfl, hc, hb⟩
  have HC3 := hide hc
  have HSa3 := HS3.below hb
  clear hc hb HS3
  go_wp2_with fail
  have HSb3 := HSa3
  with_reducible refine (below_bd (kd := 1) (nx := 0) HC3.out (bd_nil _ _) (by omega) (K := 1) (by decide) (m := 0) Pag.below_two.2.2 (by decide)).mono ?_
  rintro e w3b ⟨rfl, hb⟩
  have HS4 := HSb3.below hb
  clear hb HSa3 HSb3 HC3
  go_wp2_with fail
  exact H.out _ _ ⟨rfl, rfl, rfl, rfl, rfl, trivial⟩ HS4
end Go.Proofs.Ytpoilndlfbmhgaa
