/-
  The walks of the reference's Drop and Put. Conditions: the bytes read as lists.
-/
import Derived.Test.YtpoilndlfbmhgaaRefWith
namespace Go.Proofs.Ytpoilndlfbmhgaa
open Go.RowKit

/-- A store over a slice leaves all bytes. -/
theorem Bd.put {w : World} {B : Nat} {b : Value} {l : List UInt8} (h : Bd w B b l) {p : Addr} {A : Option Addr} {n c : Nat} (hp : w.cell? p = some (.slice A n c)) (u : Value) : Bd (w.setCell p u) B b l := by
  obtain ⟨A', c', e, hr, hm⟩ := h
  refine ⟨A', c', e, ⟨hr.1, fun hn => ?_⟩, hm⟩
  obtain ⟨b, off, e, hb, hc⟩ := hr.2 hn
  refine ⟨b, off, e, hb, fun j v hj => ?_⟩
  rw [World.cell?_setCell_other]
  · exact hc j v hj
  · intro e2
    rw [e2, hc j v hj] at hp
    rw [List.getElem?_map] at hj
    cases hx : l[j]? with
    | none => rw [hx] at hj; cases hj
    | some x =>
      rw [hx] at hj
      injection hj with hj
      injection hp with hp
      rw [← hj] at hp
      cases hp
theorem CeOwn.box2 {w : World} {lo k g : Nat} {v : Value} {cs : List Pag.Ce} {xs : Array Value} (h : CeOwn w lo k v cs) (hb : Blk w g 25 xs) {i : Nat} {A : Option Addr} {n c : Nat} (hx : xs[i]? = some (.slice A n c)) (u : Value) : CeOwn (w.setCell ⟨g, i, none⟩ u) lo k v cs := by
  have hp : w.cell? ⟨g, i, none⟩ = some (.slice A n c) := by rw [hb.cell i]; exact hx
  have far : ∀ {e : TypeId} {size n : Nat} {v : Value} {ys : List Value}, w.ownsRow lo e size v n ys → e ≠ 25 → (w.setCell ⟨g, i, none⟩ u).ownsRow lo e size v n ys := fun h2 hne =>
    own_agree h2 fun k hk => Below.heap_setCell _ _ _ _ fun e => own_blk_ne h2 hb hne (by rw [hk, e])
  have bo : ∀ {b : Value} {l : List UInt8}, Bo w lo k b l → Bo (w.setCell ⟨g, i, none⟩ u) lo k b l := fun h2 => by
    rcases h2 with ⟨h2, hm⟩ | ⟨h2, hk⟩
    · exact .inl ⟨far h2 (by decide), hm⟩
    · exact .inr ⟨h2.put hp u, hk⟩
  obtain ⟨bs, h1, h2, h3⟩ := h
  exact ⟨bs, h1, far h2 (by decide), fun i c b hc hb' => ⟨bo (h3 i c b hc hb').1, bo (h3 i c b hc hb').2⟩⟩
namespace Pag
theorem with_has {cs : List Ce} {key : List UInt8} (hr : riseB cs = true) : decide ((withN cs key).length < cs.length) = hasB cs key := by
  cases h : hasB cs key with
  | false => rw [with_no hr h]; simp
  | true =>
    rw [with_yes hr h]
    obtain ⟨c, hc, _⟩ := has_find h
    have hlt := (List.getElem?_eq_some_iff.1 hc).1
    rw [List.length_eraseIdx, if_pos hlt]
    simp
    omega
theorem drop_eq {b key : List UInt8} {p : Pg} (h : unpB b = some p) : ∃ x, pack ⟨p.kind, p.next, withN p.cells key⟩ = (0, x) ∧ dropB b key = (x, hasB p.cells key, 0) := by
  obtain ⟨h1, h2, h3⟩ := unpB_right h
  have hr := right_rise h1
  cases hh : hasB p.cells key with
  | false => rw [with_no hr hh]; exact ⟨b, unpB_pack h, dropB_no h hh⟩
  | true =>
    obtain ⟨x, hx, _⟩ := drop_pack h1 h2 hh
    rw [with_yes hr hh]
    exact ⟨x, hx, dropB_yes h hh hx⟩
end Pag
set_option linter.unusedVariables false in
set_option maxRecDepth 100000 in
set_option maxHeartbeats 1600000 in
theorem rDrop_any (A A' : Option Addr) (n c n' c' : Nat) (l key : List UInt8) (w : World) (hl : Rb w w.heap.size A n l) (hn : n ≤ 140737488355328) (hc : n ≤ c) (hc2 : c ≤ 9223372036854775807) (hk : Rb w w.heap.size A' n' key) :
    Calls Try.prog 28 #[.slice A n c, .slice A' n' c'] w (DrR w (Pag.dropB l key)) := by
  have HL := hide hl
  have HK := hide hk
  clear hl hk
  go_enter Try.func28, Try.ntmps28
  go_wp2_with fail
  with_reducible refine (rUnpack_any A n c l _ HL.out hn hc hc2).mono ?_
  rintro e w1 ⟨hb1, hr⟩
  have HB1 := hide hb1
  have hs1 := hb1.size
  cases hu : Pag.unpB l with
  | none =>
    rw [hu] at hr
    obtain rfl := hr
    have HP := hide (Pag.dropB_none (key := key) hu)
    clear hu hb1
    go_wp2_with fail
    go_ret3
    exact DrR.none HP.out (HB1.out.alloc hs1 _)
  | some p =>
    rw [hu] at hr
    obtain ⟨v, rfl, Av, cv, rfl, hown⟩ := hr
    obtain ⟨hr1, hr2, hr3⟩ := Pag.unpB_right hu
    have HU := hide hu
    have HRr := hide hr1
    have HRt := hide hr2
    obtain ⟨m, hm⟩ : ∃ m, m = p.cells.length := ⟨_, rfl⟩
    rw [← hm] at hown hr3 ⊢
    have HM := hide hm
    have hmc : m ≤ cv ∧ cv ≤ 9223372036854775807 := by
      obtain ⟨A', c', e', x1, x2⟩ := hown.form
      rw [← HM.out] at e' x1
      injection e' with _ _ e3
      subst e3
      exact ⟨x1, x2⟩
    obtain ⟨hmc1, hmc2⟩ := hmc
    obtain ⟨w2, hw2⟩ : ∃ w2, w2 = w1.alloc (.cells #[.int .u8 (p.kind.toNat : Int), .int .i64 p.next, .slice Av m cv] 25) := ⟨_, rfl⟩
    have hb2 : Below w1.heap.size w1 w2 := by rw [hw2]; exact (Below.refl _ _).alloc (Nat.le_refl _) _
    have HK2 : Hid (Blk w2 w1.heap.size 25 #[.int .u8 (p.kind.toNat : Int), .int .i64 p.next, .slice Av m cv]) := by rw [hw2]; exact Blk.new _ _ _
    have hs2 : w1.heap.size < w2.heap.size := by rw [hw2]; simp
    have HB2 := hide (HB1.out.trans (hb2.mono hs1))
    have HO2 := hide (hown.below hb2 hs1)
    clear hu hr1 hr2 hm hb1 hown
    go_upto_region 2 with fail
    rw [← hw2]
    clear hw2 hb2
    have k0 := HK2.out.cell 0
    have k1 := HK2.out.cell 1
    have k2 := HK2.out.cell 2
    simp at k0 k1 k2
    have HRi := hide (Pag.right_rise HRr.out)
    obtain ⟨x, hx, hP⟩ := Pag.drop_eq (key := key) HU.out
    have HX := hide hx
    have HP := hide hP
    clear hx hP
    go_wp2_with fail
    with_reducible refine (rWith_any Av A' m cv n' c' p.cells key _ (by exact HO2.out.rd HM.out (by omega)) (by exact (HK.out.below HB2.out (Nat.le_refl _)).more (by omega)) (by omega)).mono ?_
    rintro e w3 ⟨v3, rfl, ho3, hb3⟩
    have hwl := Pag.with_len p.cells key
    obtain ⟨A3, c3, rfl, hc3a, hc3b⟩ := ho3.form
    rw [HM.out, Pag.with_has HRi.out]
    obtain ⟨hs, hhs⟩ : ∃ hs, hs = Pag.hasB p.cells key := ⟨_, rfl⟩
    have HHs := hide hhs
    rw [← hhs]
    obtain ⟨q, hq⟩ : ∃ q, q = (Pag.withN p.cells key).length := ⟨_, rfl⟩
    have HQ := hide hq
    rw [← hq] at ho3 hc3a hwl ⊢
    rw [← HM.out] at hwl
    have hs3 := hb3.size
    have HB3 := hide (HB2.out.trans (hb3.mono (by omega)))
    have HK3 := hide (HK2.out.below hb3 hs2)
    obtain ⟨w4, hw4⟩ : ∃ w4, w4 = w3.setCell ⟨w1.heap.size, 2, none⟩ (.slice A3 q c3) := ⟨_, rfl⟩
    have HK4 : Hid (Blk w4 w1.heap.size 25 #[.int .u8 (p.kind.toNat : Int), .int .i64 p.next, .slice A3 q c3]) := by rw [hw4]; exact HK3.out.put 2 _
    have HB4 : Hid (Below w.heap.size w w4) := by rw [hw4]; exact HB3.out.setCell hs1 _
    have HO4 : Hid (CeOwn w4 w2.heap.size w2.heap.size (.slice A3 q c3) (Pag.withN p.cells key)) := by rw [hw4]; exact ho3.box2 HK3.out (i := 2) rfl _
    have hs4 : w3.heap.size ≤ w4.heap.size := by rw [hw4]; simp
    clear ho3 hb3 hq hhs k0 k1 k2
    have k0 := HK3.out.cell 0
    have k1 := HK3.out.cell 1
    have k2 := HK3.out.cell 2
    simp at k0 k1 k2
    have q0 := HK3.out.frozen 2
    go_upto_region 6 with fail
    rw [← hw4]
    clear hw4 k0 k1 k2 q0
    have k0 := HK4.out.cell 0
    have k1 := HK4.out.cell 1
    have k2 := HK4.out.cell 2
    simp at k0 k1 k2
    go_wp2_with fail
    have cp := rPack_any p.kind p.next A3 q c3 (Pag.withN p.cells key) _ (by exact HO4.out.rd HQ.out (by omega)) (by omega)
    rw [HX.out] at cp
    with_reducible refine cp.mono ?_
    clear cp
    rintro e w6 ⟨v6, rfl, h1, h2⟩
    simp only at h1 ⊢
    have HB6 := hide (HB4.out.trans (h2.mono (by omega)))
    have HO6 := hide (own_base h1 (show w.heap.size ≤ w4.heap.size by omega))
    clear h1 h2 k0 k1 k2
    go_wp2_with fail
    go_ret3
    exact DrR.of (by rw [HP.out, HHs.out]) HB6.out rfl HO6.out
end Go.Proofs.Ytpoilndlfbmhgaa
