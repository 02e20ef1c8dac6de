/-
  The walk of chancerylaw17.ValueLogic: it returns true. Conditions: the tables are as listed. (printed by laws17.py)
-/
import Derived.Test.YthmlfbbbcmmhdaaDoorLogLaw
namespace Go.Proofs.YthmlfbbbcmmhdaaDoor
open Go.RowKit

set_option maxRecDepth 20000 in
set_option maxHeartbeats 6400000 in
theorem logic_any (a0 a1 a2 : Int) (m : Int) (w : World) (hE : Env w m) (hO : TOr w) (hN : TNot w) (h0 : (Lit.int .u8 a0).wf = true) (h1 : (Lit.int .u8 a1).wf = true) (h2 : (Lit.int .u8 a2).wf = true) :
    Calls Tryd.prog 7 #[.int .u8 a0, .int .u8 a1, .int .u8 a2] w fun e w' => e = .returned (.bool true) ∧ Below w.heap.size w w' := by
  obtain ⟨a, rfl⟩ : ∃ op : Nat, a0 = (op : Int) := ⟨a0.toNat, by have := bounds_u8 h0; omega⟩
  obtain ⟨b, rfl⟩ : ∃ op : Nat, a1 = (op : Int) := ⟨a1.toNat, by have := bounds_u8 h1; omega⟩
  obtain ⟨c, rfl⟩ : ∃ op : Nat, a2 = (op : Int) := ⟨a2.toNat, by have := bounds_u8 h2; omega⟩
  have HT := hide (show T3 w w m from ⟨hE, hO, hN, Below.refl _ _⟩)
  obtain ⟨na, hna⟩ : ∃ x, x = Lg.not_ a := ⟨_, rfl⟩
  obtain ⟨nb, hnb⟩ : ∃ x, x = Lg.not_ b := ⟨_, rfl⟩
  obtain ⟨X, hX⟩ : ∃ x, x = Lg.and_ a b := ⟨_, rfl⟩
  obtain ⟨Bc, hBc⟩ : ∃ x, x = Lg.and_ b c := ⟨_, rfl⟩
  obtain ⟨Y, hY⟩ : ∃ x, x = Lg.and_ a Bc := ⟨_, rfl⟩
  obtain ⟨NX, hNX⟩ : ∃ x, x = Lg.not_ X := ⟨_, rfl⟩
  obtain ⟨Pq, hPq⟩ : ∃ x, x = Lg.or_ a b := ⟨_, rfl⟩
  obtain ⟨Q, hQ⟩ : ∃ x, x = Lg.or_ b c := ⟨_, rfl⟩
  obtain ⟨R, hR⟩ : ∃ x, x = Lg.or_ a Q := ⟨_, rfl⟩
  obtain ⟨NP, hNP⟩ : ∃ x, x = Lg.not_ Pq := ⟨_, rfl⟩
  obtain ⟨K, hK⟩ : ∃ x, x = Lg.kn a := ⟨_, rfl⟩
  have C1 : Hid (Lg.not_ a = na) := hna.symm
  have C2 : Hid (Lg.not_ b = nb) := hnb.symm
  have D1 : Hid (Lg.and_ a b = X) := hX.symm
  have D2 : Hid (Lg.and_ b a = X) := (by show _ = _; rw [Lg.and_comm, hX])
  have D3 : Hid (Lg.and_ b c = Bc) := hBc.symm
  have D4 : Hid (Lg.and_ a Bc = Y) := hY.symm
  have D5 : Hid (Lg.and_ X c = Y) := (by show _ = _; rw [hX, hY, hBc, Lg.and_assoc])
  have D6 : Hid (Lg.not_ X = NX) := hNX.symm
  have D7 : Hid (Lg.or_ na nb = NX) := (by show _ = _; rw [hna, hnb, hNX, hX, Lg.not_and])
  have E1 : Hid (Lg.or_ a b = Pq) := hPq.symm
  have E2 : Hid (Lg.or_ b a = Pq) := (by show _ = _; rw [Lg.or_comm, hPq])
  have E3 : Hid (Lg.or_ b c = Q) := hQ.symm
  have E4 : Hid (Lg.or_ a Q = R) := hR.symm
  have E5 : Hid (Lg.or_ Pq c = R) := (by show _ = _; rw [hPq, hR, hQ, Lg.or_assoc])
  have E6 : Hid (Lg.not_ Pq = NP) := hNP.symm
  have E7 : Hid (Lg.and_ na nb = NP) := (by show _ = _; rw [hna, hnb, hNP, hPq, Lg.not_or])
  have G1 : Hid (Lg.not_ na = K) := (by show _ = _; rw [hna, hK, Lg.not_not])
  have G2 : Hid (Lg.and_ a a = K) := (by show _ = _; rw [hK, Lg.and_self])
  have G3 : Hid (Lg.and_ a Pq = K) := (by show _ = _; rw [hPq, hK, Lg.and_or])
  have G4 : Hid (Lg.or_ a a = K) := (by show _ = _; rw [hK, Lg.or_self])
  have GT : Hid (Lg.truth (Lg.of_ a) = (K, 0)) := (by show _ = _; rw [Lg.truth_of, hK])
  clear hna hnb hX hBc hY hNX hPq hQ hR hNP hK h0 h1 h2 hE hO hN
  go_enter Tryd.func7, Tryd.ntmps7
  go_wp2_with fail
  with_reducible refine (notC C1.out HT.out).mono ?_
  rintro e w1 ⟨rfl, ht⟩
  replace HT := hide ht
  clear ht
  go_wp2_with fail
  with_reducible refine (notC C2.out HT.out).mono ?_
  rintro e w2 ⟨rfl, ht⟩
  replace HT := hide ht
  clear ht
  go_wp2_with fail
  with_reducible refine (andC D1.out HT.out).mono ?_
  rintro e w3 ⟨rfl, ht⟩
  replace HT := hide ht
  clear ht
  go_wp2_with fail
  with_reducible refine (andC D2.out HT.out).mono ?_
  rintro e w4 ⟨rfl, ht⟩
  replace HT := hide ht
  clear ht
  go_wp2_with fail
  with_reducible refine (andC D3.out HT.out).mono ?_
  rintro e w5 ⟨rfl, ht⟩
  replace HT := hide ht
  clear ht
  go_wp2_with fail
  with_reducible refine (andC D4.out HT.out).mono ?_
  rintro e w6 ⟨rfl, ht⟩
  replace HT := hide ht
  clear ht
  go_wp2_with fail
  with_reducible refine (andC D1.out HT.out).mono ?_
  rintro e w7 ⟨rfl, ht⟩
  replace HT := hide ht
  clear ht
  go_wp2_with fail
  with_reducible refine (andC D5.out HT.out).mono ?_
  rintro e w8 ⟨rfl, ht⟩
  replace HT := hide ht
  clear ht
  go_wp2_with fail
  with_reducible refine (andC D1.out HT.out).mono ?_
  rintro e w9 ⟨rfl, ht⟩
  replace HT := hide ht
  clear ht
  go_wp2_with fail
  with_reducible refine (notC D6.out HT.out).mono ?_
  rintro e w10 ⟨rfl, ht⟩
  replace HT := hide ht
  clear ht
  go_wp2_with fail
  with_reducible refine (orC D7.out HT.out).mono ?_
  rintro e w11 ⟨rfl, ht⟩
  replace HT := hide ht
  clear ht
  go_wp2_with fail
  with_reducible refine (orC E1.out HT.out).mono ?_
  rintro e w12 ⟨rfl, ht⟩
  replace HT := hide ht
  clear ht
  go_wp2_with fail
  with_reducible refine (orC E2.out HT.out).mono ?_
  rintro e w13 ⟨rfl, ht⟩
  replace HT := hide ht
  clear ht
  go_wp2_with fail
  with_reducible refine (orC E3.out HT.out).mono ?_
  rintro e w14 ⟨rfl, ht⟩
  replace HT := hide ht
  clear ht
  go_wp2_with fail
  with_reducible refine (orC E4.out HT.out).mono ?_
  rintro e w15 ⟨rfl, ht⟩
  replace HT := hide ht
  clear ht
  go_wp2_with fail
  with_reducible refine (orC E1.out HT.out).mono ?_
  rintro e w16 ⟨rfl, ht⟩
  replace HT := hide ht
  clear ht
  go_wp2_with fail
  with_reducible refine (orC E5.out HT.out).mono ?_
  rintro e w17 ⟨rfl, ht⟩
  replace HT := hide ht
  clear ht
  go_wp2_with fail
  with_reducible refine (orC E1.out HT.out).mono ?_
  rintro e w18 ⟨rfl, ht⟩
  replace HT := hide ht
  clear ht
  go_wp2_with fail
  with_reducible refine (notC E6.out HT.out).mono ?_
  rintro e w19 ⟨rfl, ht⟩
  replace HT := hide ht
  clear ht
  go_wp2_with fail
  with_reducible refine (andC E7.out HT.out).mono ?_
  rintro e w20 ⟨rfl, ht⟩
  replace HT := hide ht
  clear ht
  go_wp2_with fail
  with_reducible refine (notC C1.out HT.out).mono ?_
  rintro e w21 ⟨rfl, ht⟩
  replace HT := hide ht
  clear ht
  go_wp2_with fail
  with_reducible refine (notC G1.out HT.out).mono ?_
  rintro e w22 ⟨rfl, ht⟩
  replace HT := hide ht
  clear ht
  go_wp2_with fail
  with_reducible refine (andC G2.out HT.out).mono ?_
  rintro e w23 ⟨rfl, ht⟩
  replace HT := hide ht
  clear ht
  go_wp2_with fail
  with_reducible refine (orC E1.out HT.out).mono ?_
  rintro e w24 ⟨rfl, ht⟩
  replace HT := hide ht
  clear ht
  go_wp2_with fail
  with_reducible refine (andC G3.out HT.out).mono ?_
  rintro e w25 ⟨rfl, ht⟩
  replace HT := hide ht
  clear ht
  go_wp2_with fail
  with_reducible refine (orC G4.out HT.out).mono ?_
  rintro e w26 ⟨rfl, ht⟩
  replace HT := hide ht
  clear ht
  obtain ⟨v, hv⟩ : ∃ v, v = Lg.of_ a := ⟨_, rfl⟩
  rw [← hv] at GT
  have HV := hide (vOf_any a w26)
  rw [← hv] at HV
  clear hv
  unfold valV at HV
  obtain ⟨vk, vn, vs⟩ := v
  simp only at HV
  go_wp2_with fail
  with_reducible refine HV.out.mono ?_
  rintro e wo ⟨rfl, hb⟩
  replace HT := hide (HT.out.below hb)
  clear hb HV
  go_wp2_with fail
  with_reducible refine (vTruth_any vk vn vs wo).mono ?_
  rintro e wt ⟨rfl, hb⟩
  replace HT := hide (HT.out.below hb)
  clear hb
  rw [GT.out]
  unfold truV
  simp only
  go_wp2_with fail
  with_reducible refine (andC G2.out HT.out).mono ?_
  rintro e wx ⟨rfl, ht⟩
  replace HT := hide ht
  clear ht
  have HEv := hide HT.out.1
  go_wp2_with fail
  with_reducible refine (awake_any m wx HEv.out).mono ?_
  rintro e wz ⟨rfl, hbz⟩
  have HZ := hide (HT.out.2.2.2.trans (hbz.mono HT.out.2.2.2.size))
  clear hbz
  go_wp2_with fail
  go_ret
  exact ⟨rfl, HZ.out⟩
end Go.Proofs.YthmlfbbbcmmhdaaDoor
