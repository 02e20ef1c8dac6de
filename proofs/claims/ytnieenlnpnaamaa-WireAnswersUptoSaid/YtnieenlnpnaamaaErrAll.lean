/-
  The walks of wire.Errno of any frame and of wire.Error of any number. Conditions: none.
-/
import Derived.Test.YtnieenlnpnaamaaRefPut
namespace Go.Proofs.Ytnieenlnpnaamaa
open Go.RowKit

set_option maxHeartbeats 800000 in
theorem errno_no (f : Fr) (A : Option Addr) (c : Nat) (w : World) (h : ¬ (f.1 = 8 ∧ f.2.length = 2)) :
    Calls Try.prog 26 #[.agg #[.int .u8 (f.1.toNat : Int), .slice A f.2.length c]] w fun e w' => e = .returned (.tuple #[.int .i64 0, .bool false]) ∧ Below w.heap.size w w' := by
  have HB : Hid (Below w.heap.size w (w.alloc (.cells #[.int .u8 (f.1.toNat : Int), .slice A f.2.length c] 42))) := (Below.refl _ _).alloc (Nat.le_refl _) _
  by_cases h8 : f.1 = 8
  · have t8 : ((f.1.toNat : Int) != 8) = false := by rw [h8]; rfl
    have t2 : ((f.2.length : Int) != 2) = true := by
      have : ¬ f.2.length = 2 := fun e => h ⟨h8, e⟩
      simp
      omega
    clear h h8
    go_enter Try.func26, Try.ntmps26
    go_wp2_with fail
    go_ret2
    exact ⟨rfl, HB.out⟩
  · have t8 : ((f.1.toNat : Int) != 8) = true := by
      simp
      intro e
      exact h8 (UInt8.toNat_inj.1 (by show f.1.toNat = 8; omega))
    clear h h8
    go_enter Try.func26, Try.ntmps26
    go_wp2_with fail
    go_ret2
    exact ⟨rfl, HB.out⟩
theorem errno_yes (f : Fr) (A : Option Addr) (c : Nat) (w : World) (B : Nat) (hl : Rb w B A f.2.length f.2) (hB : B ≤ w.heap.size) (h : f.1 = 8 ∧ f.2.length = 2) :
    Calls Try.prog 26 #[.agg #[.int .u8 (f.1.toNat : Int), .slice A f.2.length c]] w fun e w' => e = .returned (.tuple #[.int .i64 (((f.2.getD 0 0).toNat : Int) * 256 + (f.2.getD 1 0).toNat), .bool true]) ∧ Below w.heap.size w w' := by
  rw [h.2] at hl ⊢
  rw [h.1]
  exact errno_ok A c f.2 w B hl hB

theorem error_any (x : Int) (w : World) : Calls Try.prog 28 #[.int .i64 x] w fun e w' => ∃ hi lo : UInt8, e = .returned (.agg #[.int .u8 8, .slice (some ⟨w.heap.size + 1, 0, none⟩) 2 2]) ∧ Rb w' w'.heap.size (some ⟨w.heap.size + 1, 0, none⟩) 2 [hi, lo] ∧ Below w.heap.size w w' ∧ (hi.toNat : Int) * 256 + lo.toNat = x % 65536 := by
  obtain ⟨m, hm⟩ : ∃ m : Nat, m = (x % 65536).toNat := ⟨_, rfl⟩
  have hm2 : m < 65536 := by omega
  have hw : IntKind.u16.wrap x = (m : Int) := by
    have : IntKind.u16.wrap x = x % 65536 := by simp [IntKind.wrap, IntKind.signed, IntKind.bits]
    rw [this]
    omega
  have HM := hide hm
  clear hm
  go_enter Try.func28, Try.ntmps28
  go_wp2
  have HE : #[Value.int IntKind.u8 ((m : Int) / 256), Value.int IntKind.u8 ((m : Int) % 256)] = ([UInt8.ofNat (m / 256), UInt8.ofNat (m % 256)].map B8).toArray := by
    simp only [B8, List.map_cons, List.map_nil, UInt8.toNat_ofNat']
    congr 3
    · congr 1
      omega
    · congr 2
      omega
  rw [HE]
  have HL := Rb.litAt (w.alloc (.cells #[.int .u8 8, .slice (some ⟨w.heap.size + 1, 0, none⟩) 2 2] 42)) 5 [UInt8.ofNat (m / 256), UInt8.ofNat (m % 256)] (0, 0) (w.heap.size + 1) (by simp)
  refine bodyPost_ret (v := .agg #[.int .u8 8, .slice (some ⟨w.heap.size + 1, 0, none⟩) 2 2]) (by simp [results, Try.results28, go_sem]) rfl ?_
  exact ⟨_, _, rfl, HL, by go_grown, by rw [UInt8.toNat_ofNat', UInt8.toNat_ofNat']; have := HM.out; omega⟩
end Go.Proofs.Ytnieenlnpnaamaa
