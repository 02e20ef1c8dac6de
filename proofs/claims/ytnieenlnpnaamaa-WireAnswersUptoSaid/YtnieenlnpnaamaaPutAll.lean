/-
  The walk of wire.Put of any frame, and what bytes that are put behind one another are cut into. Conditions: the body reads as a list.
-/
import Derived.Test.YtnieenlnpnaamaaNames
namespace Go.Proofs.Ytnieenlnpnaamaa
open Go.RowKit

namespace Wire
def putR (k : UInt8) (l : List UInt8) : Nat × List UInt8 := if kindOk k = false then (2, []) else if 8191 < l.length then (3, []) else (0, put k l)
theorem put_len (k : UInt8) (l : List UInt8) : (put k l).length = 5 + l.length := by unfold put four; simp; omega
theorem put_be4 (k : UInt8) (l r : List UInt8) (h : l.length ≤ 8191) : be4 (put k l ++ r) = 1 + l.length := by
  unfold put four be4
  simp only [List.cons_append, List.nil_append, List.getD_cons_zero, List.getD_cons_succ, UInt8.toNat_ofNat']
  omega
theorem firstN_put (k : UInt8) (l r : List UInt8) (hk : kindOk k = true) (h : l.length ≤ 8191) : firstN (put k l ++ r) = some (4 + l.length + 1) := by
  have hb := put_be4 k l r h
  have hl := put_len k l
  have h4 : (put k l ++ r).getD 4 0 = k := by unfold put four; rfl
  unfold firstN
  rw [if_neg (by rw [List.length_append]; omega), hb, if_neg (by omega), if_neg (by rw [List.length_append]; omega), h4, hk, if_neg (by simp), if_neg (by rw [List.length_append]; omega)]
  congr 1
  omega
theorem cut_put (k : UInt8) (l r : List UInt8) (hk : kindOk k = true) (h : l.length ≤ 8191) : cut (put k l ++ r) = ((k, l) :: (cut r).1, (cut r).2) := by
  rw [cut_more (firstN_put k l r hk h)]
  have hl := put_len k l
  have e1 : (put k l ++ r).drop (4 + l.length + 1) = r := by rw [List.drop_left' (by omega)]
  have e2 : frame (put k l ++ r) = (k, l) := by
    unfold frame
    rw [put_be4 k l r h]
    have h4 : (put k l ++ r).getD 4 0 = k := by unfold put four; rfl
    rw [h4]
    congr 1
    have h5 : (put k l ++ r).drop 5 = l ++ r := by unfold put four; rfl
    rw [h5, show 1 + l.length - 1 = l.length by omega, List.take_left' rfl]
  rw [e1, e2]
theorem cut_nil : cut [] = ([], [], false) := cut_wait (by simp [firstN])
/-- The bytes of frames that may be. -/
def bytesOf (fs : List (UInt8 × List UInt8)) : List UInt8 := fs.flatMap fun f => put f.1 f.2
theorem cut_bytesOf : ∀ fs : List (UInt8 × List UInt8), (∀ f ∈ fs, kindOk f.1 = true ∧ f.2.length ≤ 8191) → cut (bytesOf fs) = (fs, [], false) := by
  intro fs
  induction fs with
  | nil => intro _; exact cut_nil
  | cons f fs ih =>
    intro h
    have hf := h f List.mem_cons_self
    show cut (put f.1 f.2 ++ bytesOf fs) = _
    rw [cut_put _ _ _ hf.1 hf.2, ih fun f' h' => h f' (List.mem_cons_of_mem _ h')]
theorem bytesOf_snoc (fs : List (UInt8 × List UInt8)) (f : UInt8 × List UInt8) : bytesOf (fs ++ [f]) = bytesOf fs ++ put f.1 f.2 := by simp [bytesOf]
end Wire

set_option maxHeartbeats 800000 in
theorem put_any (k : UInt8) (A : Option Addr) (n c : Nat) (l : List UInt8) (w : World) (hl : Rb w w.heap.size A n l) (hm : n ≤ 140737488355328) :
    Calls Try.prog 24 #[.agg #[.int .u8 (k.toNat : Int), .slice A n c]] w (BE w (Wire.putR k l)) := by
  have hlen := hl.len
  cases hk : Wire.kindOk k with
  | false =>
    have HP : Hid (Wire.putR k l = (2, [])) := by show _ = _; unfold Wire.putR; rw [if_pos hk]
    have HK := hide hk
    obtain ⟨w1, hw1⟩ : ∃ w1, w1 = w.alloc (.cells #[.int .u8 (k.toNat : Int), .slice A n c] 42) := ⟨_, rfl⟩
    have HB1 : Hid (Below w.heap.size w w1) := by rw [hw1]; exact (Below.refl _ _).alloc (Nat.le_refl _) _
    clear hl hk hlen
    go_enter Try.func24, Try.ntmps24
    go_wp2_with fail
    rw [← hw1]
    clear hw1
    with_reducible refine (wireRight_any k _).mono ?_
    rintro e w' ⟨rfl, rfl⟩
    rw [HK.out]
    go_wp2_with fail
    go_ret2
    exact BE.err 2 HP.out HB1.out
  | true =>
    by_cases hn : 8191 < n
    · have HP : Hid (Wire.putR k l = (3, [])) := by show _ = _; unfold Wire.putR; rw [if_neg (by simp [hk]), if_pos (by omega)]
      have HK := hide hk
      obtain ⟨w1, hw1⟩ : ∃ w1, w1 = w.alloc (.cells #[.int .u8 (k.toNat : Int), .slice A n c] 42) := ⟨_, rfl⟩
      have HB1 : Hid (Below w.heap.size w w1) := by rw [hw1]; exact (Below.refl _ _).alloc (Nat.le_refl _) _
      have HX : Hid (Blk w1 w.heap.size 42 #[.int .u8 (k.toNat : Int), .slice A n c]) := by rw [hw1]; exact Blk.new _ _ _
      have t1 : decide ((8191 : Int) < (n : Int)) = true := by simp; omega
      clear hl hk hlen
      go_enter Try.func24, Try.ntmps24
      go_wp2_with fail
      rw [← hw1]
      clear hw1
      with_reducible refine (wireRight_any k _).mono ?_
      rintro e w' ⟨rfl, rfl⟩
      rw [HK.out]
      have x1 := HX.out.cell 1
      simp at x1
      go_wp2_with fail
      go_ret2
      exact BE.err 3 HP.out HB1.out
    · have HP : Wire.putR k l = (0, Wire.put k l) := by unfold Wire.putR; rw [if_neg (by simp [hk]), if_neg (by omega)]
      refine (put_ok k A n c l w hl hk (by omega)).mono ?_
      rintro e w' ⟨v, rfl, hown, hb⟩
      rw [HP]
      refine ⟨v, rfl, ?_, hb⟩
      rw [Wire.put_len, hlen]
      exact hown
end Go.Proofs.Ytnieenlnpnaamaa
