/-
  The plain facts of the chapter's fixed examples. Conditions: none. No program is named here.
-/
import Derived.Test.YtpoilndlfbmhgaaMapReg
import Derived.Test.YtpoilndlfbmhgaaSplitMath
import Derived.Test.YtpoilndlfbmhgaaPageReadsW
import Derived.Test.YtpoilndlfbmhgaaOpenOp
import Derived.Test.YtpoilndlfbmhgaaPiece413
namespace Go.Proofs.Ytpoilndlfbmhgaa
namespace Pag
/-- n zeros. -/
def zs (n : Nat) : List UInt8 := List.replicate n 0
theorem zs_len (n : Nat) : (zs n).length = n := List.length_replicate
theorem pack_of {p : Pg} (h1 : rightB p = true) (h2 : taken p.cells ≤ 4072) : ∃ b, pack p = (0, b) ∧ unpB b = some p := ⟨_, pack_ok.2 ⟨h1, h2, rfl⟩, unpB_of_pack (pack_ok.2 ⟨h1, h2, rfl⟩)⟩
theorem pack_bad {p : Pg} (h : rightB p = false) : pack p = (2, []) := by unfold pack; rw [if_pos h]
theorem pack_full {p : Pg} (h1 : rightB p = true) (h2 : 4072 < taken p.cells) : pack p = (5, []) := by
  unfold pack
  rw [if_neg (by rw [h1]; decide), if_pos h2]
theorem pack_two2 : pack ⟨1, 0, twoP.cells⟩ = (0, bytesT) := pack_two
theorem room_two : roomB bytesT = (4056, 0) := by
  rw [roomB_some unp_two]
  rfl
def putP : Pg := ⟨1, 0, [([97], [98]), ([98], []), ([99], [100])]⟩
theorem put_two : ∃ b, putB bytesT [98] [] = (0, b) ∧ unpB b = some putP := by
  obtain ⟨b, h1, h2⟩ := pack_of (p := putP) (by decide) (by decide)
  exact ⟨b, (putB_yes unp_two (by decide) (by decide)).trans h1, h2⟩
theorem find_put {b : List UInt8} (h : unpB b = some putP) : findB b [98] = ([], true, 0) := by
  unfold findB
  rw [h]
  rfl
theorem drop_put {b : List UInt8} (h : unpB b = some putP) : ∃ x, dropB b [97] = (x, true, 0) := by
  obtain ⟨x, hx, _⟩ := drop_pack (p := putP) (key := [97]) (by decide) (by decide) (by decide)
  exact ⟨x, dropB_yes h (by decide) hx⟩
theorem drop_two : dropB bytesT [122] = (bytesT, false, 0) := dropB_no unp_two (by decide)
theorem put_bad (key val : List UInt8) (h : mayB key val = false) : putB bytesT key val = (2, []) := putB_arg unp_two (.inr h)
theorem may_k (n : Nat) (v : List UInt8) (h : n = 0 ∨ 320 < n) : mayB (zs n) v = false := by
  unfold mayB
  rw [zs_len]
  rcases h with h | h
  · simp [h]
  · simp
    omega
theorem may_v (k : List UInt8) (n : Nat) (h : 576 < n) : mayB k (zs n) = false := by
  unfold mayB
  rw [zs_len]
  simp
  omega
theorem put_long : ∃ b, putB bytesT (zs 320) (zs 576) = (0, b) := by
  have hm : mayB (zs 320) (zs 576) = true := by
    unfold mayB
    rw [zs_len, zs_len]
    decide
  rcases put_can unp_two (by decide) hm with ⟨_, x, h, _⟩ | ⟨h, _⟩
  · exact ⟨x, h⟩
  · exfalso
    apply h
    have hh : hasB twoP.cells (zs 320) = false := by
      refine has_no fun i c hc e => ?_
      have hl : c.1.length = 320 := by rw [e, zs_len]
      match i with
      | 0 =>
        simp [twoP] at hc
        subst hc
        simp at hl
      | 1 =>
        simp [twoP] at hc
        subst hc
        simp at hl
      | i + 2 => simp [twoP] at hc
    rw [taken_putNo hh, zs_len, zs_len]
    decide
def xP : Pg := ⟨1, 0, [([97], [98])]⟩
def yP : Pg := ⟨1, 0, [([99], [100])]⟩
theorem split_two : ∃ x y, splitB bytesT = (x, y, [99], 0) ∧ unpB x = some xP ∧ unpB y = some yP := by
  obtain ⟨x, hx, ux⟩ := pack_of (p := xP) (by decide) (by decide)
  obtain ⟨y, hy, uy⟩ := pack_of (p := yP) (by decide) (by decide)
  exact ⟨x, y, splitB_yes (c := ([99], [100])) unp_two (by decide) hx hy rfl, ux, uy⟩
theorem split_x {b : List UInt8} (h : unpB b = some xP) : splitB b = ([], [], [], 2) := splitB_few h (by decide)
theorem unp_zeros : unpB (zs 4080) = some ⟨0, 0, []⟩ := by
  refine unpB_of_pack (pack_ok.2 ⟨by decide, by decide, ?_⟩)
  have : front ⟨0, 0, []⟩ = List.replicate 8 0 := by decide
  rw [this, List.length_replicate]
  exact (List.replicate_append_replicate (n := 8) (m := 4072)).symm
theorem unp_short : unpB (zs 4079) = none := by
  cases h : unpB (zs 4079) with
  | none => rfl
  | some p =>
    have := pack_len (unpB_pack h)
    rw [zs_len] at this
    omega
theorem put_zeros (k v : List UInt8) : putB (zs 4080) k v = (2, []) := putB_arg unp_zeros (.inl rfl)
/-- The full pages: n cells of one byte and 576 zeros. -/
def fullC (n : Nat) : List Ce := (List.range n).map fun i => ([UInt8.ofNat i], zs 576)
theorem fullC_len (n : Nat) : (fullC n).length = n := by unfold fullC; rw [List.length_map, List.length_range]
theorem fullC_succ (n : Nat) : fullC (n + 1) = fullC n ++ [([UInt8.ofNat n], zs 576)] := by unfold fullC; rw [List.range_succ, List.map_append]; rfl
theorem fullC_z (n : Nat) : fullC (n + 1) = fullC n ++ [([UInt8.ofNat n], zs 576)] := fullC_succ n
theorem fullC_at {n i : Nat} {c : Ce} (h : (fullC n)[i]? = some c) : i < n ∧ c = ([UInt8.ofNat i], zs 576) := by
  have hi : i < n := by
    have := (List.getElem?_eq_some_iff.1 h).1
    rwa [fullC_len] at this
  unfold fullC at h
  rw [List.getElem?_map, List.getElem?_range hi] at h
  exact ⟨hi, (Option.some.inj h).symm⟩
theorem fullC_taken (n : Nat) : taken (fullC n) = 583 * n := by
  induction n with
  | zero => rfl
  | succ n ih =>
    rw [fullC_succ, taken_app, ih]
    have : taken [([UInt8.ofNat n], zs 576)] = 583 := by
      unfold taken sizeC
      rw [List.map_cons, zs_len]
      rfl
    omega
theorem fullC_rise {n : Nat} (h : n ≤ 8) : riseB (fullC n) = true := by
  refine rise_of_pairs _ (fun c hc => ?_) fun i c d hc hd => ?_
  · obtain ⟨i, hi, e⟩ := List.mem_iff_getElem.1 hc
    obtain ⟨h1, rfl⟩ := fullC_at (n := n) (i := i) (c := c) (by rw [← e]; exact List.getElem?_eq_getElem hi)
    unfold mayB
    rw [zs_len]
    simp
  · obtain ⟨h1, rfl⟩ := fullC_at hc
    obtain ⟨h2, rfl⟩ := fullC_at hd
    have : i < 8 := by omega
    have h3 : i + 1 < 8 := by omega
    match i, h3 with
    | 0, _ | 1, _ | 2, _ | 3, _ | 4, _ | 5, _ | 6, _ => decide
theorem full_right (nx : Int) (n : Nat) (h : n ≤ 8) (h0 : 0 ≤ nx) (h1 : nx < 4096) : rightB ⟨1, nx, fullC n⟩ = true :=
  right_of (k := 1) (nx := 0) (cs := []) (by decide) (by decide) h0 h1 (fullC_rise h)
theorem pack_five : ∃ b, pack ⟨1, 4095, fullC 5⟩ = (0, b) := by
  obtain ⟨b, h, _⟩ := pack_of (p := ⟨1, 4095, fullC 5⟩) (full_right _ _ (by omega) (by omega) (by omega)) (by show taken (fullC 5) ≤ 4072; rw [fullC_taken]; omega)
  exact ⟨b, h⟩
theorem pack_eight : pack ⟨1, 4095, fullC 8⟩ = (5, []) := pack_full (full_right _ _ (by omega) (by omega) (by omega)) (by show 4072 < taken (fullC 8); rw [fullC_taken]; omega)
def sixP : Pg := ⟨1, 0, fullC 6⟩
theorem pack_six : ∃ b, pack sixP = (0, b) ∧ unpB b = some sixP := pack_of (full_right _ _ (by omega) (by omega) (by omega)) (by show taken (fullC 6) ≤ 4072; rw [fullC_taken]; omega)
theorem full_take (n m : Nat) (h : m ≤ n) : (fullC n).take m = fullC m := by
  unfold fullC
  rw [← List.map_take, List.take_range, Nat.min_eq_left h]
theorem has_nine : hasB (fullC 6) [9] = false := by
  refine has_no fun i c hc e => ?_
  obtain ⟨h1, rfl⟩ := fullC_at hc
  simp only at e
  match i, h1 with
  | 0, _ | 1, _ | 2, _ | 3, _ | 4, _ | 5, _ => exact absurd e (by decide)
theorem put_six {b : List UInt8} (h : unpB b = some sixP) (n : Nat) (hn : n ≤ 576) : (n ≤ 567 ∧ ∃ x, putB b [9] (zs n) = (0, x)) ∨ (567 < n ∧ putB b [9] (zs n) = (5, [])) := by
  have hm : mayB [9] (zs n) = true := by
    unfold mayB
    rw [zs_len]
    simp [hn]
  have ht : taken (putN (fullC 6) [9] (zs n)) = 3505 + n := by
    rw [taken_putNo has_nine, fullC_taken, zs_len]
    simp
    omega
  rcases put_can h (by decide) hm with ⟨h1, x, h2, _⟩ | ⟨h1, h2⟩
  · rw [show sixP.cells = fullC 6 from rfl, ht] at h1
    exact .inl ⟨by omega, x, h2⟩
  · rw [show sixP.cells = fullC 6 from rfl, ht] at h1
    exact .inr ⟨by omega, h2⟩
/-- The eight that are none. -/
def badP : Nat → Pg
  | 0 => ⟨3, 0, []⟩
  | 1 => ⟨0, 1, []⟩
  | 2 => ⟨1, -1, []⟩
  | 3 => ⟨1, 4096, []⟩
  | 4 => ⟨2, 0, [([], [])]⟩
  | 5 => ⟨1, 0, [([98], []), ([97], [])]⟩
  | 6 => ⟨1, 0, [([98], []), ([98], [])]⟩
  | _ => ⟨0, 0, twoP.cells⟩
theorem bad_pack (k : Nat) : pack (badP k) = (2, []) := by
  refine pack_bad ?_
  unfold badP
  split <;> decide
theorem below_two : belowN twoP.cells [98] = 1 ∧ belowN twoP.cells [99] = 2 ∧ belowN twoP.cells [] = 0 := by decide
end Pag
end Go.Proofs.Ytpoilndlfbmhgaa

/-
  PageNumbers: the calls on bytes that are read, and what is known at each place. Conditions: none.
-/
namespace Go.Proofs.Ytpoilndlfbmhgaa
open Go.RowKit

namespace Pag
theorem pack_le {p : Pg} {n : Nat} {x : List UInt8} (h : pack p = (n, x)) : x.length ≤ 4080 := by
  unfold pack at h
  split at h
  · injection h with _ h; subst h; simp
  · split at h
    · injection h with _ h; subst h; simp
    · rename_i h2 h3
      have h4 := pack_len (p := p) (b := front p ++ List.replicate (4080 - (front p).length) 0) (by unfold pack; rw [if_neg h2, if_neg h3])
      injection h with _ h
      rw [← h, h4]
      exact Nat.le_refl _
theorem putB_le {b k v : List UInt8} {n : Nat} {x : List UInt8} (h : putB b k v = (n, x)) : x.length ≤ 4080 := by
  unfold putB at h
  split at h
  · injection h with _ h; subst h; simp
  · split at h
    · injection h with _ h; subst h; simp
    · exact pack_le h
theorem dropB_le {b k : List UInt8} {n : Nat} {t : Bool} {x : List UInt8} (h : dropB b k = (x, t, n)) : x.length ≤ 4080 := by
  unfold dropB at h
  split at h
  · injection h with h _; subst h; simp
  · rename_i p hp
    split at h
    · injection h with h _; subst h; exact pack_le rfl
    · injection h with h _; subst h; exact Nat.le_of_eq (pack_len (unpB_pack hp))
end Pag
/-- A literal of one byte. -/
theorem lit_bd {w : World} (c : UInt8) (m : Nat × Nat) {n : Int} (hn : (c.toNat : Int) = n) : Bd (w.alloc (.cells #[.int .u8 n] 5 m)) (w.alloc (.cells #[.int .u8 n] 5 m)).heap.size (.slice (some ⟨w.heap.size, 0, none⟩) 1 1) [c] := by
  subst hn
  exact bd_cells (l := [c]) (mk := m) (by rw [heap_alloc_new]; rfl) (by simp) (by simp)
theorem ce_below {w w' : World} {A : Option Addr} {n : Nat} {cs : List Pag.Ce} (h : CeRd w w.heap.size A n cs) (hb : Below w.heap.size w w') : CeRd w' w'.heap.size A n cs := (h.below hb (Nat.le_refl _)).more hb.size
theorem al (w : World) (o : Obj) : Below w.heap.size w (w.alloc o) := (Below.refl _ _).alloc (Nat.le_refl _) _
theorem bd_nil (w : World) (B : Nat) : Bd w B (.slice none 0 0) [] := ⟨none, 0, rfl, ⟨rfl, fun h => absurd h (by simp)⟩, by simp, by simp, by simp⟩
theorem bd_below {w w' : World} {v : Value} {l : List UInt8} (h : Bd w w.heap.size v l) (hb : Below w.heap.size w w') : Bd w' w'.heap.size v l := (h.keep fun _ hp => hb.cell hp).more hb.size
theorem bd_own {w w' : World} {lo : Nat} {v : Value} {l : List UInt8} (h : w'.ownsRow lo 5 1 v l.length (l.map B8)) (hl : l.length ≤ 4080) (hlo : lo ≤ w.heap.size) (hs : w.heap.size ≤ w'.heap.size) : Bd w' w'.heap.size v l :=
  Bo.bd (k := 0) (.inl ⟨h, by omega⟩) (Nat.le_trans hlo hs)
/-- What is known: bytes that are read, pages' blocks. -/
structure St (w wr : World) (M : List (Value × List UInt8)) (N : List (Nat × Array Value)) : Prop where
  bel : Below w.heap.size w wr
  rd : ∀ v l, (v, l) ∈ M → Bd wr wr.heap.size v l
  pg : ∀ g cs, (g, cs) ∈ N → Blk wr g 25 cs
section
variable {w w1 w2 : World} {M M' : List (Value × List UInt8)} {N N' : List (Nat × Array Value)}
theorem St.below (h : St w w1 M N) (hb : Below w1.heap.size w1 w2) : St w w2 M N :=
  ⟨h.bel.trans (hb.mono h.bel.size), fun v l hm => bd_below (h.rd v l hm) hb, fun g cs hm => (h.pg g cs hm).below hb (h.pg g cs hm).lt⟩
theorem St.cons (h : St w w1 M N) {v : Value} {l : List UInt8} (hv : Bd w1 w1.heap.size v l) : St w w1 ((v, l) :: M) N :=
  ⟨h.bel, fun v' l' hm => by
    rcases List.mem_cons.1 hm with e | e
    · injection e with e1 e2; subst e1 e2; exact hv
    · exact h.rd v' l' e, h.pg⟩
theorem St.page (h : St w w1 M N) {g : Nat} {cs : Array Value} (hv : Blk w1 g 25 cs) : St w w1 M ((g, cs) :: N) :=
  ⟨h.bel, h.rd, fun g' cs' hm => by
    rcases List.mem_cons.1 hm with e | e
    · injection e with e1 e2; subst e1 e2; exact hv
    · exact h.pg g' cs' e⟩
theorem St.alloc (h : St w w1 M N) (o : Obj) : St w (w1.alloc o) M N := h.below ((Below.refl _ _).alloc (Nat.le_refl _) _)
theorem St.sub (h : St w w1 M N) (hM : ∀ p ∈ M', p ∈ M) (hN : ∀ p ∈ N', p ∈ N) : St w w1 M' N' := ⟨h.bel, fun v l hm => h.rd v l (hM _ hm), fun g cs hm => h.pg g cs (hN _ hm)⟩
end
section
variable {w : World} {b k v : Value} {l key val : List UInt8}
theorem put_bd (hb : Bd w w.heap.size b l) (hk : Bd w w.heap.size k key) (hv : Bd w w.heap.size v val) {n : Nat} {x : List UInt8} {m : Int} (hp : Pag.putB l key val = (n, x)) (hm : (n : Int) = m) :
    Calls Try.prog 22 #[b, k, v] w fun e w' => ∃ r, e = .returned (.tuple #[r, .int .i64 m]) ∧ Bd w' w'.heap.size r x ∧ Below w.heap.size w w' := by
  obtain ⟨A, c, rfl, r1, r2, r3, r4⟩ := hb
  obtain ⟨A1, c1, rfl, k1, k2, k3, k4⟩ := hk
  obtain ⟨A2, c2, rfl, v1, v2, v3, v4⟩ := hv
  refine (put_any A A1 A2 _ c _ c1 _ c2 l key val w r1 r2 r3 r4 k1 k2 k3 k4 v1 v2 v3 v4).mono ?_
  rintro e w' ⟨r, rfl, ho, hb⟩
  rw [hp] at ho ⊢
  subst hm
  exact ⟨r, rfl, bd_own ho (Pag.putB_le hp) (Nat.le_refl _) hb.size, hb⟩
theorem room_bd (hb : Bd w w.heap.size b l) {m : Int} {n : Nat} (hp : Pag.roomB l = (m, n)) {q : Int} (hm : (n : Int) = q) :
    Calls Try.prog 21 #[b] w fun e w' => e = .returned (.tuple #[.int .i64 m, .int .i64 q]) ∧ Below w.heap.size w w' := by
  obtain ⟨A, c, rfl, r1, r2, r3, r4⟩ := hb
  refine (room_any A _ c l w r1 r2 r3 r4).mono ?_
  rintro e w' ⟨hb, rfl⟩
  rw [hp]
  subst hm
  exact ⟨rfl, hb⟩
theorem find_bd (hb : Bd w w.heap.size b l) (hk : Bd w w.heap.size k key) {n : Nat} {x : List UInt8} {t : Bool} {m : Int} (hp : Pag.findB l key = (x, t, n)) (hm : (n : Int) = m) :
    Calls Try.prog 23 #[b, k] w fun e w' => ∃ r, e = .returned (.tuple #[r, .bool t, .int .i64 m]) ∧ Bd w' w'.heap.size r x ∧ Below w.heap.size w w' := by
  obtain ⟨A, c, rfl, r1, r2, r3, r4⟩ := hb
  obtain ⟨A1, c1, rfl, k1, k2, k3, k4⟩ := hk
  refine (Find_any A A1 _ c _ c1 l key w r1 r2 r3 r4 k1).mono ?_
  rintro e w' ⟨hb, r, rfl, ho⟩
  rw [hp] at ho ⊢
  subst hm
  exact ⟨r, rfl, ho.bd hb.size, hb⟩
theorem drop_bd (hb : Bd w w.heap.size b l) (hk : Bd w w.heap.size k key) {n : Nat} {x : List UInt8} {t : Bool} {m : Int} (hp : Pag.dropB l key = (x, t, n)) (hm : (n : Int) = m) :
    Calls Try.prog 20 #[b, k] w fun e w' => ∃ r, e = .returned (.tuple #[r, .bool t, .int .i64 m]) ∧ Bd w' w'.heap.size r x ∧ Below w.heap.size w w' := by
  obtain ⟨A, c, rfl, r1, r2, r3, r4⟩ := hb
  obtain ⟨A1, c1, rfl, k1, k2, k3, k4⟩ := hk
  refine (drop_any A A1 _ c _ c1 l key w r1 r2 r3 r4 k1).mono ?_
  rintro e w' ⟨hb, r, rfl, ho⟩
  rw [hp] at ho ⊢
  subst hm
  exact ⟨r, rfl, bd_own ho (Pag.dropB_le hp) (Nat.le_refl _) hb.size, hb⟩
theorem split_bd (hb : Bd w w.heap.size b l) {n : Nat} {x y z : List UInt8} {m : Int} (hp : Pag.splitB l = (x, y, z, n)) (hm : (n : Int) = m) :
    Calls Try.prog 17 #[b] w fun e w' => ∃ r s t, e = .returned (.tuple #[r, s, t, .int .i64 m]) ∧ Bd w' w'.heap.size r x ∧ Bd w' w'.heap.size s y ∧ Bd w' w'.heap.size t z ∧ Below w.heap.size w w' := by
  obtain ⟨A, c, rfl, r1, r2, r3, r4⟩ := hb
  refine (split_any A _ c l w r1 r2 r3 r4).mono ?_
  rintro e w' ⟨hb, r, s, t, rfl, h1, h2, h3⟩
  rw [hp] at h1 h2 h3 ⊢
  subst hm
  exact ⟨r, s, t, rfl, h1.bd hb.size, h2.bd hb.size, h3.bd hb.size, hb⟩
theorem unpack_bd (hb : Bd w w.heap.size b l) {p : Pag.Pg} (hp : Pag.unpB l = some p) {K nx : Int} {m : Nat} (hk : (p.kind.toNat : Int) = K) (hx : p.next = nx) (hm : p.cells.length = m) :
    Calls Try.prog 16 #[b] w fun e w' => ∃ A c, e = .returned (.tuple #[.agg #[.int .u8 K, .int .i64 nx, .slice A m c], .int .i64 0]) ∧ Below w.heap.size w w' := by
  obtain ⟨A, c, rfl, r1, r2, r3, r4⟩ := hb
  refine (unpack_any A _ c l w r1 r2 r3 r4).mono ?_
  rintro e w' ⟨hb, hr⟩
  rw [hp] at hr
  obtain ⟨v, rfl, A', c', rfl, _⟩ := hr
  subst hk hx hm
  exact ⟨A', c', rfl, hb⟩
theorem unpack_no (hb : Bd w w.heap.size b l) (hp : Pag.unpB l = none) :
    Calls Try.prog 16 #[b] w fun e w' => e = .returned (.tuple #[.agg #[.int .u8 0, .int .i64 0, .slice none 0 0], .int .i64 170]) ∧ Below w.heap.size w w' := by
  obtain ⟨A, c, rfl, r1, r2, r3, r4⟩ := hb
  refine (unpack_any A _ c l w r1 r2 r3 r4).mono ?_
  rintro e w' ⟨hb, hr⟩
  rw [hp] at hr
  exact ⟨hr, hb⟩
theorem same_bd (hb : Bd w w.heap.size b l) (hk : Bd w w.heap.size k l) :
    Calls Try.prog 11 #[b, k] w fun e w' => e = .returned (.bool true) ∧ w = w' := by
  obtain ⟨A, c, rfl, r1, _⟩ := hb
  obtain ⟨A1, c1, rfl, k1, _⟩ := hk
  refine (sameBytes_any A A1 _ c _ c1 l l w _ _ r1 k1).mono ?_
  rintro e w' ⟨rfl, rfl⟩
  exact ⟨by simp, rfl⟩
theorem pack_bd {kd : UInt8} {K nx : Int} {A : Option Addr} {n c : Nat} {cs : List Pag.Ce} (hl : CeRd w w.heap.size A n cs) (hn : n ≤ 4000000000000) (hk : (kd.toNat : Int) = K) {r : Nat} {x : List UInt8} {m : Int} (hp : Pag.pack ⟨kd, nx, cs⟩ = (r, x)) (hm : (r : Int) = m) :
    Calls Try.prog 9 #[.agg #[.int .u8 K, .int .i64 nx, .slice A n c]] w fun e w' => ∃ v, e = .returned (.tuple #[v, .int .i64 m]) ∧ Bd w' w'.heap.size v x ∧ Below w.heap.size w w' := by
  subst hk
  refine (pack_any kd nx A n c cs w hl hn).mono ?_
  rintro e w' ⟨v, rfl, ho, hb⟩
  rw [hp] at ho ⊢
  subst hm
  exact ⟨v, rfl, bd_own ho (Pag.pack_le hp) (Nat.le_refl _) hb.size, hb⟩
theorem below_bd {kd : UInt8} {K nx : Int} {A : Option Addr} {n c : Nat} {cs : List Pag.Ce} (hl : CeRd w w.heap.size A n cs) (hk2 : Bd w w.heap.size k key) (hn : n ≤ 4000000000000) (hk : (kd.toNat : Int) = K) {r : Nat} {m : Int} (hp : Pag.belowN cs key = r) (hm : (r : Int) = m) :
    Calls Try.prog 12 #[.agg #[.int .u8 K, .int .i64 nx, .slice A n c], k] w fun e w' => e = .returned (.int .i64 m) ∧ Below w.heap.size w w' := by
  subst hk hp hm
  obtain ⟨A1, c1, rfl, k1, _⟩ := hk2
  exact below_any kd nx A A1 n c _ c1 cs key w hl k1 hn
end
/-- 'make([]byte, n)'. -/
theorem info1 : (Try.prog.info? 5).map (fun i => (i.zero, i.size, i.bytes)) = some (some (.int .u8 0), 1, 1) := by kernel_rfl
theorem run_zs {w : World} (n : Nat) (hn : n ≤ 5000) : ∃ v w', (Instr.makeSlice 26 (.int .i64 (n : Int)) (.int .i64 (n : Int))).run Try.prog w = .ok v w' ∧ w'.ownsRow w.heap.size 5 1 v n ((Pag.zs n).map B8) ∧ Below w.heap.size w w' := by
  obtain ⟨i0, hi0, hz0, hz1, hz2⟩ := info_parts info1
  obtain ⟨w', hrun, ho, hg⟩ := run_make_full (P := Try.prog) w w.heap.size 26 5 i0 _ 1 Try.underlying26 hi0 hz0 hz1 .i64 .i64 n (by rw [hz2]; omega) (by unfold maxLen; omega) (Nat.le_refl _)
  refine ⟨_, w', hrun, ?_, (Below.refl _ _).grown hg (Nat.le_refl _) (by simp)⟩
  rw [Nat.mul_one] at ho
  unfold Pag.zs
  rw [List.map_replicate]
  exact (toList_madeCells_one (.int .u8 0) n) ▸ ho
theorem zs_own {w w' : World} {v : Value} {n lo : Nat} (h : w'.ownsRow lo 5 1 v n ((Pag.zs n).map B8)) (hn : n ≤ 5000) (hlo : lo ≤ w.heap.size) (hs : w.heap.size ≤ w'.heap.size) : Bd w' w'.heap.size v (Pag.zs n) :=
  Bo.bd (k := 0) (.inl ⟨by rw [Pag.zs_len]; exact h, by rw [Pag.zs_len]; omega⟩) (Nat.le_trans hlo hs)
theorem exec_zs {w w' : World} {o : Oper} {a : Act} {v : Value} (n : Nat) (l c : Operand) (hop : o.op = Op.makeSlice 26 l c) (hl : a.eval l = .int .i64 (n : Int)) (hc : a.eval c = .int .i64 (n : Int)) (hrun : (Instr.makeSlice 26 (.int .i64 (n : Int)) (.int .i64 (n : Int))).run Try.prog w = .ok v w') :
    (execOp a.eval o).run Try.prog w = .ok (.value v) w' := by
  unfold execOp
  simp only [hop, hl, hc, Sem.run_bind, hrun, Result.andThen, Sem.run_pure]
def BdF (l : List UInt8) : Fact := fun u w => Bd w w.heap.size u l
theorem BdF.stable (l : List UInt8) : StableF (BdF l) := fun _ _ _ h hb => bd_below h hb
def IsP0 (v : Value) : Prop := ∃ r, v = .tuple #[r, .int .i64 0]
theorem IsP0.some : ∃ v, IsP0 v := ⟨.tuple #[undef, .int .i64 0], _, rfl⟩
theorem wpList_zs {ops : Array Oper} {rest : List Oper} {o : Oper} {a : Act} {Q : Exit → Act → World → Prop} {w : World} (n : Nat) (hn : n ≤ 5000) (hg : o.guard = none) (l c : Operand) (hop : o.op = Op.makeSlice 26 l c) {L C : Int} (hl : a.eval l = .int .i64 L) (hc : a.eval c = .int .i64 C) (hL : L = (n : Int)) (hC : C = (n : Int))
    (hK : ∀ v w', Bd w' w'.heap.size v (Pag.zs n) → Below w.heap.size w w' → wpList Try.prog ops Q rest (a.put o.dst v) w') : wpList Try.prog ops Q (o :: rest) a w := by
  refine wpList_plain hg fun K hK' => ?_
  obtain ⟨v, w', hrun, ho, hb⟩ := run_zs (w := w) n hn
  subst hL hC
  unfold Oper.wp
  rw [exec_zs n l c hop hl hc hrun]
  exact hK' _ _ (hK v w' (zs_own ho hn (Nat.le_refl _) hb.size) hb)
end Go.Proofs.Ytpoilndlfbmhgaa
