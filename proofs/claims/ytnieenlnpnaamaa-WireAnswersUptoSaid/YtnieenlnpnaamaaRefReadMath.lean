/-
  Plain laws for the document's reading of a row's bytes. Conditions: none. No program is named here.
-/
import Derived.Test.YtnieenlnpnaamaaRead
namespace Go.Proofs.Ytnieenlnpnaamaa
open Go.RowKit

/-- Behind a kind: d bytes tell the length, and sz bytes follow. -/
def Hd (kd : UInt8) (l1 : List UInt8) (d sz : Nat) : Prop :=
  (kd.toNat = 1 ∧ d = 0 ∧ sz = 1) ∨ ((kd.toNat = 2 ∨ kd.toNat = 3) ∧ d = 0 ∧ sz = 8) ∨ ((kd.toNat = 4 ∨ kd.toNat = 5) ∧ d = 1 ∧ ∃ c l2, l1 = c :: l2 ∧ sz = c.toNat) ∨ ((kd.toNat ≠ 1 ∧ kd.toNat ≠ 2 ∧ kd.toNat ≠ 3 ∧ kd.toNat ≠ 4 ∧ kd.toNat ≠ 5) ∧ d = 0 ∧ sz = 0)
section
variable {kd : UInt8} {l1 : List UInt8} {d sz : Nat}
theorem Hd.le (h : Hd kd l1 d sz) : d ≤ l1.length ∧ d ≤ 1 ∧ sz ≤ 255 := by
  rcases h with ⟨_, rfl, rfl⟩ | ⟨_, rfl, rfl⟩ | ⟨_, rfl, c, l2, rfl, rfl⟩ | ⟨_, rfl, rfl⟩
  · omega
  · omega
  · have := c.toNat_lt
    simp only [List.length_cons]
    omega
  · omega
theorem Hd.short (h : Hd kd l1 d sz) (hs : (l1.drop d).length < sz) : Cell.readV (kd :: l1) = none := by
  rcases h with ⟨hk, rfl, rfl⟩ | ⟨hk, rfl, rfl⟩ | ⟨hk, rfl, c, l2, rfl, rfl⟩ | ⟨hk, rfl, rfl⟩
  · have hl : l1 = [] := List.eq_nil_of_length_eq_zero (by simp at hs ⊢; omega)
    subst hl
    unfold Cell.readV
    simp only [hk]
  · simp only [List.drop_zero] at hs
    rcases hk with hk | hk <;> (unfold Cell.readV; simp only [hk]; rw [if_pos hs])
  · simp only [List.drop_succ_cons, List.drop_zero] at hs
    rcases hk with hk | hk <;> (unfold Cell.readV; simp only [hk]; rw [if_pos hs])
  · omega
theorem Hd.num (h : Hd kd l1 d sz) (h4 : kd.toNat ≠ 4) (h5 : kd.toNat ≠ 5) (hs : sz ≤ (l1.drop d).length) : Cell.readV (kd :: l1) = some (⟨kd, wrap64 ((Cell.beN ((l1.drop d).take sz) : Nat) : Int), ByteArray.empty⟩, (l1.drop d).drop sz) := by
  rcases h with ⟨hk, rfl, rfl⟩ | ⟨hk, rfl, rfl⟩ | ⟨hk, _⟩ | ⟨⟨h1, h2, h3, _, _⟩, rfl, rfl⟩
  · match l1, hs with
    | c :: l2, _ =>
      have hc := c.toNat_lt
      have e1 : Cell.beN ((c :: l2).take 1) = c.toNat := by simp [Cell.beN]
      have e2 : wrap64 (c.toNat : Int) = (c.toNat : Int) := by unfold wrap64; omega
      rw [List.drop_zero, e1, e2]
      unfold Cell.readV
      simp only [hk]
      rfl
  · simp only [List.drop_zero] at hs ⊢
    have ew : wrap64 ((Cell.beN (l1.take 8) : Nat) : Int) = Cell.i64 (Cell.beN (l1.take 8)) := by unfold wrap64 Cell.i64; rfl
    rw [ew]
    rcases hk with hk | hk <;> (unfold Cell.readV; simp only [hk]; rw [if_neg (by omega)]; rfl)
  · rcases hk with hk | hk
    · exact absurd hk h4
    · exact absurd hk h5
  · simp only [List.drop_zero, List.take_zero]
    rw [show wrap64 ((Cell.beN [] : Nat) : Int) = 0 from by simp [Cell.beN, wrap64]]
    unfold Cell.readV
    simp only
    rfl
theorem Hd.text (h : Hd kd l1 d sz) (hk : kd.toNat = 4 ∨ kd.toNat = 5) (hs : sz ≤ (l1.drop d).length) : Cell.readV (kd :: l1) = some (⟨kd, 0, ⟨((l1.drop d).take sz).toArray⟩⟩, (l1.drop d).drop sz) := by
  rcases h with ⟨hk', _⟩ | ⟨hk', _⟩ | ⟨_, rfl, c, l2, rfl, rfl⟩ | ⟨hk', _⟩
  · omega
  · omega
  · simp only [List.drop_succ_cons, List.drop_zero] at hs ⊢
    rcases hk with hk | hk <;> (unfold Cell.readV; simp only [hk]; rw [if_neg (by omega)]; rfl)
  · omega
end
section
variable {ct : UInt8} {tl rest rest' : List UInt8} {m : Nat} {vs : List Cell.Val} {v : Cell.Val}
theorem rawN_none (h : Cell.readV rest = none) (hm : 0 < m) : Cell.rawN m rest = none := by
  obtain ⟨k, rfl⟩ : ∃ k, m = k + 1 := ⟨m - 1, by omega⟩
  simp only [Cell.rawN, h]
theorem rawN_next (hR : Cell.rawN ct.toNat tl = (Cell.rawN (m + 1) rest).map (fun p => (vs ++ p.1, p.2))) (h : Cell.readV rest = some (v, rest')) : Cell.rawN ct.toNat tl = (Cell.rawN m rest').map (fun p => ((vs ++ [v]) ++ p.1, p.2)) := by
  rw [hR]
  simp only [Cell.rawN, h, Option.map_map]
  congr 1
  funext p
  simp
theorem refRead_stop (hR : Cell.rawN ct.toNat tl = (Cell.rawN m rest).map (fun p => (vs ++ p.1, p.2))) (h : Cell.rawN m rest = none) : Cell.refRead (ct :: tl) = none := by
  unfold Cell.refRead
  rw [h] at hR
  simp only [hR, Option.map_none]
theorem refRead_end (hR : Cell.rawN ct.toNat tl = (Cell.rawN 0 rest).map (fun p => (vs ++ p.1, p.2))) : Cell.refRead (ct :: tl) = if Cell.row vs = (0, ct :: tl) then some vs else none := by
  unfold Cell.refRead
  simp only [hR, Cell.rawN, Option.map_some, List.append_nil]
end
end Go.Proofs.Ytnieenlnpnaamaa
