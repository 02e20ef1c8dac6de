/-
  The walk of chancerylaw07.PageNumbers: it returns true (printed by pnum.py). Conditions: none.
-/
import Derived.Test.YtpoilndlfbmhgaaNumE
namespace Go.Proofs.Ytpoilndlfbmhgaa
open Go.RowKit

theorem pe0 : pn 0 = .seq (cL (pn 0)) (pn 1) := by kernel_rfl
theorem pe1 : pn 1 = .seq (cL (pn 1)) (pn 2) := by kernel_rfl
theorem pe2 : pn 2 = .seq (cL (pn 2)) (pn 3) := by kernel_rfl
theorem pe3 : pn 3 = .seq (cL (pn 3)) (pn 4) := by kernel_rfl
theorem pe4 : pn 4 = .seq (cL (pn 4)) (pn 5) := by kernel_rfl
theorem pe5 : pn 5 = .seq (cL (pn 5)) (pn 6) := by kernel_rfl
theorem pe6 : pn 6 = .seq (cL (pn 6)) (pn 7) := by kernel_rfl
theorem pe7 : pn 7 = .seq (cL (pn 7)) (pn 8) := by kernel_rfl
theorem pe8 : pn 8 = .seq (cL (pn 8)) (pn 9) := by kernel_rfl
theorem pe9 : pn 9 = .seq (cL (pn 9)) (pn 10) := by kernel_rfl
theorem pe10 : pn 10 = .seq (cL (pn 10)) (pn 11) := by kernel_rfl
theorem pe11 : pn 11 = .seq (cL (pn 11)) (pn 12) := by kernel_rfl
theorem pe12 : pn 12 = .seq (cL (pn 12)) (pn 13) := by kernel_rfl
theorem pe13 : pn 13 = .seq (cL (pn 13)) (pn 14) := by kernel_rfl
theorem pe14 : pn 14 = .seq (cL (pn 14)) (pn 15) := by kernel_rfl
theorem pe15 : pn 15 = .seq (cL (pn 15)) (pn 16) := by kernel_rfl
theorem pe16 : pn 16 = .seq (cL (pn 16)) (pn 17) := by kernel_rfl
theorem pe17 : pn 17 = .seq (cL (pn 17)) (pn 18) := by kernel_rfl
theorem pe18 : pn 18 = .seq (cL (pn 18)) (pn 19) := by kernel_rfl
theorem pe19 : pn 19 = .seq (cL (pn 19)) (pn 20) := by kernel_rfl
theorem pe20 : pn 20 = .seq (cL (pn 20)) (pn 21) := by kernel_rfl
theorem pe21 : pn 21 = .seq (cL (pn 21)) (pn 22) := by kernel_rfl
theorem pe22 : pn 22 = .seq (cL (pn 22)) (pn 23) := by kernel_rfl
theorem pe23 : pn 23 = .seq (cL (pn 23)) (pn 24) := by kernel_rfl
theorem pe24 : pn 24 = .seq (cL (pn 24)) (pn 25) := by kernel_rfl
theorem pe25 : pn 25 = .seq (cL (pn 25)) (pn 26) := by kernel_rfl
theorem pe26 : pn 26 = .seq (cL (pn 26)) (pn 27) := by kernel_rfl
theorem pe27 : pn 27 = .seq (cL (pn 27)) (pn 28) := by kernel_rfl
theorem pe28 : pn 28 = .seq (cL (pn 28)) (pn 29) := by kernel_rfl
theorem pe29 : pn 29 = .seq (cL (pn 29)) (pn 30) := by kernel_rfl
theorem pe30 : pn 30 = .seq (cL (pn 30)) (pn 31) := by kernel_rfl
theorem pe31 : pn 31 = .seq (cL (pn 31)) (pn 32) := by kernel_rfl
theorem pe32 : pn 32 = .seq (cL (pn 32)) (pn 33) := by kernel_rfl
theorem pe33 : pn 33 = .ret := by kernel_rfl
set_option linter.unusedVariables false in
set_option maxRecDepth 1000000 in
set_option maxHeartbeats 16000000 in
theorem pageNumbers_any (w : World) : Calls Try.prog 7 #[] w fun e w' => e = .returned (.bool true) ∧ Below w.heap.size w w' := by
  obtain ⟨CB, hput, hunp⟩ := Pag.put_two
  obtain ⟨DB, hdrop⟩ := Pag.drop_put hunp
  obtain ⟨PB, hlong⟩ := Pag.put_long
  obtain ⟨X, Y, hsp, hux, huy⟩ := Pag.split_two
  obtain ⟨FB, h5⟩ := Pag.pack_five
  obtain ⟨J, hj, huj⟩ := Pag.pack_six
  obtain ⟨XJ, h567⟩ : ∃ XJ, Pag.putB J [9] (Pag.zs 567) = (0, XJ) := by
    rcases Pag.put_six huj 567 (by omega) with ⟨_, h⟩ | ⟨h, _⟩
    · exact h
    · exact absurd h (by omega)
  have h568 : Pag.putB J [9] (Pag.zs 568) = (5, []) := by
    rcases Pag.put_six huj 568 (by omega) with ⟨h, _⟩ | ⟨_, h⟩
    · exact absurd h (by omega)
    · exact h
  refine calls_of_wp Try.func7 (c := pn 0) (by kernel_rfl) ?_
  have HS : St w w [] [] := ⟨Below.refl _ _, fun _ _ h => absurd h (by simp), fun _ _ h => absurd h (by simp)⟩
  have hF : Fr { tmps := #[] ++ Array.replicate (Try.f7.ntmps - (#[] : Array Value).size) undef, defers := [] } [] := by
    rw [Try.ntmps7]
    exact ⟨by simp, rfl, trivial⟩
  revert HS hF
  generalize ({ tmps := #[] ++ Array.replicate (Try.f7.ntmps - (#[] : Array Value).size) undef, defers := [] } : Act) = a
  intro HS hF
  rw [pe0]
  refine wp_seq (nr0 hF HS ?_)
  clear hF
  intro a w0  hF HS
  rw [pe1]
  refine wp_seq (nr1 hF HS ?_)
  clear hF
  intro a w1 b hF HS
  rw [pe2]
  refine wp_seq (nr2 hF HS ?_)
  clear hF
  intro a w2  hF HS
  rw [pe3]
  refine wp_seq (nr3 hF HS hput ?_)
  clear hF
  intro a w3 c hF HS
  rw [pe4]
  refine wp_seq (nr4 hF HS (Pag.find_put hunp) ?_)
  clear hF
  intro a w4 A k hF HS
  rw [pe5]
  refine wp_seq (nr5 hF HS hdrop ?_)
  clear hF
  intro a w5  hF HS
  rw [pe6]
  refine wp_seq (nr6 hF HS ?_)
  clear hF
  intro a w6 d hF HS
  rw [pe7]
  refine wp_seq (nr7 hF HS ?_)
  clear hF
  intro a w7  hF HS
  rw [pe8]
  refine wp_seq (nr8 hF HS ?_)
  clear hF
  intro a w8  hF HS
  rw [pe9]
  refine wp_seq (nr9 hF HS ?_)
  clear hF
  intro a w9  hF HS
  rw [pe10]
  refine wp_seq (nr10 hF HS ?_)
  clear hF
  intro a w10  hF HS
  rw [pe11]
  refine wp_seq (nr11 hF HS hlong ?_)
  clear hF
  intro a w11  hF HS
  rw [pe12]
  refine wp_seq (nr12 hF HS hsp ?_)
  clear hF
  intro a w12 x y kk hF HS
  rw [pe13]
  refine wp_seq (nr13 hF HS hux ?_)
  clear hF
  intro a w13 g1 A1 c1 hF HS
  rw [pe14]
  refine wp_seq (nr14 hF HS huy ?_)
  clear hF
  intro a w14 g2 A2 c2 hF HS
  rw [pe15]
  refine wp_seq (nr15 hF HS ?_)
  clear hF
  intro a w15  hF HS
  rw [pe16]
  refine wp_seq (nr16 hF HS ?_)
  clear hF
  intro a w16 g3 A3 c3 hF HS
  rw [pe17]
  refine wp_seq (nr17 hF HS ?_)
  clear hF
  intro a w17  hF HS
  rw [pe18]
  refine wp_seq (nr18 hF HS ?_)
  clear hF
  intro a w18  hF HS
  rw [pe19]
  refine wp_seq (nr19 hF HS hux ?_)
  clear hF
  intro a w19  hF HS
  rw [pe20]
  refine wp_seq (nr20 hF HS ?_)
  clear hF
  intro a w20  hF HS
  rw [pe21]
  refine wp_seq (nr21 hF HS ?_)
  clear hF
  intro a w21  hF HS
  rw [pe22]
  refine wp_seq (nr22 hF HS ?_)
  clear hF
  intro a w22 gf hF HS
  rw [pe23]
  refine wp_seq (nr23 hF HS ?_)
  clear hF
  intro a w23 v1 hF HS
  rw [pe24]
  refine wp_seq (nr24 hF HS h5 ?_)
  clear hF
  intro a w24  hF HS
  rw [pe25]
  refine wp_seq (nr25 hF HS ?_)
  clear hF
  intro a w25 v2 hF HS
  rw [pe26]
  refine wp_seq (nr26 hF HS ?_)
  clear hF
  intro a w26  hF HS
  rw [pe27]
  refine wp_seq (nr27 hF HS ?_)
  clear hF
  intro a w27 g6 A6 c6 hF HS HP HR
  rw [pe28]
  refine wp_seq (nr28 hF HP HS HR hj ?_)
  clear hF
  intro a w28 j hF HS
  rw [pe29]
  refine wp_seq (nr29 hF HS h567 ?_)
  clear hF
  intro a w29  hF HS
  rw [pe30]
  refine wp_seq (nr30 hF HS h568 ?_)
  clear hF
  intro a w30  hF HS
  rw [pe31]
  refine wp_seq (nr31 hF HS ?_)
  clear hF
  intro a w31  hF HS
  rw [pe32]
  refine wp_seq (nr32 hF HS ?_)
  clear hF
  intro a w32  hF HS
  rw [pe33]
  refine wp_ret ?_
  obtain ⟨f, rfl, ⟨s0, _⟩, hfr⟩ := hF.open
  rw [hfr] at s0
  rw [s0]
  go_ret
  exact ⟨rfl, HS⟩
end Go.Proofs.Ytpoilndlfbmhgaa
