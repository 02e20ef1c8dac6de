/-
  The walks of the other calls of wire's Reader, and of Put, Error, Errno. Conditions: readers that New or Copy made, or nil, or zero; sizes.
-/
import Derived.Test.YtnieenlnpnaamaaFeed
namespace Go.Proofs.Ytnieenlnpnaamaa
open Go.RowKit

theorem feed_nil (a : Value) (w : World) (ha : ∃ A n c, a = .slice A n c) : Calls Try.prog 9 #[.pointer none, a] w fun e w' => e = .returned (.tuple #[.slice none 0 0, .int .i64 1]) ∧ w = w' := by
  obtain ⟨A, n, c, rfl⟩ := ha
  go_enter Try.func9, Try.ntmps9
  go_wp2_with fail
  refine (made_nil _).mono ?_
  rintro e w' ⟨rfl, rfl⟩
  go_wp2_with fail
  go_ret2
  exact ⟨rfl, rfl⟩
theorem feed_zero (g : Nat) (a : Value) (w : World) (ha : ∃ A n c, a = .slice A n c) (h0 : w.cell? ⟨g, 0, none⟩ = some (.pointer none)) : Calls Try.prog 9 #[.pointer (some ⟨g, 0, none⟩), a] w fun e w' => e = .returned (.tuple #[.slice none 0 0, .int .i64 1]) ∧ w = w' := by
  obtain ⟨A, n, c, rfl⟩ := ha
  go_enter Try.func9, Try.ntmps9
  go_wp2_with fail
  refine (made_zero g _ h0).mono ?_
  rintro e w' ⟨rfl, rfl⟩
  go_wp2_with fail
  go_ret2
  exact ⟨rfl, rfl⟩
theorem feed_broken (R base : Nat) (v : Value) (l0 : List UInt8) (A : Option Addr) (n c : Nat) (w : World) (hR : Rdr w R base v l0 true) : Calls Try.prog 9 #[.pointer (some ⟨R, 0, none⟩), .slice A n c] w fun e w' => e = .returned (.tuple #[.slice none 0 0, .int .i64 390]) ∧ w = w' := by
  obtain ⟨hblk, hown⟩ := hR
  have h2 : w.cell? ⟨R, 2, none⟩ = some (.bool true) := hblk.cell 2
  have HK := hide hblk
  clear hblk hown
  go_enter Try.func9, Try.ntmps9
  go_wp2_with fail
  refine (made_yes R _ true _ HK.out).mono ?_
  rintro e w' ⟨rfl, rfl⟩
  go_wp2_with fail
  go_ret2
  exact ⟨rfl, rfl⟩

theorem left_nil (w : World) : Calls Try.prog 14 #[.pointer none] w fun e w' => e = .returned (.int .i64 0) ∧ w = w' := by
  go_enter Try.func14, Try.ntmps14
  go_wp2_with fail
  refine (made_nil _).mono ?_
  rintro e w' ⟨rfl, rfl⟩
  go_wp2_with fail
  go_ret
  exact ⟨rfl, rfl⟩
theorem left_zero (g : Nat) (w : World) (h0 : w.cell? ⟨g, 0, none⟩ = some (.pointer none)) : Calls Try.prog 14 #[.pointer (some ⟨g, 0, none⟩)] w fun e w' => e = .returned (.int .i64 0) ∧ w = w' := by
  go_enter Try.func14, Try.ntmps14
  go_wp2_with fail
  refine (made_zero g _ h0).mono ?_
  rintro e w' ⟨rfl, rfl⟩
  go_wp2_with fail
  go_ret
  exact ⟨rfl, rfl⟩
theorem left_ok (R base : Nat) (v : Value) (l0 : List UInt8) (b : Bool) (w : World) (hR : Rdr w R base v l0 b) : Calls Try.prog 14 #[.pointer (some ⟨R, 0, none⟩)] w fun e w' => e = .returned (.int .i64 (l0.length : Nat)) ∧ w = w' := by
  obtain ⟨hblk, hown⟩ := hR
  obtain ⟨A, c, rfl⟩ := own_sl hown
  have h1 := hblk.cell 1
  simp at h1
  have HK := hide hblk
  clear hblk hown
  go_enter Try.func14, Try.ntmps14
  go_wp2_with fail
  refine (made_yes R _ b _ HK.out).mono ?_
  rintro e w' ⟨rfl, rfl⟩
  go_wp2_with fail
  go_ret
  exact ⟨rfl, rfl⟩

theorem copy_nil (w : World) : Calls Try.prog 16 #[.pointer none] w fun e w' => e = .returned (.pointer none) ∧ w = w' := by
  go_enter Try.func16, Try.ntmps16
  go_wp2_with fail
  refine (made_nil _).mono ?_
  rintro e w' ⟨rfl, rfl⟩
  go_wp2_with fail
  go_ret
  exact ⟨rfl, rfl⟩
theorem copy_zero (g : Nat) (w : World) (h0 : w.cell? ⟨g, 0, none⟩ = some (.pointer none)) : Calls Try.prog 16 #[.pointer (some ⟨g, 0, none⟩)] w fun e w' => e = .returned (.pointer none) ∧ w = w' := by
  go_enter Try.func16, Try.ntmps16
  go_wp2_with fail
  refine (made_zero g _ h0).mono ?_
  rintro e w' ⟨rfl, rfl⟩
  go_wp2_with fail
  go_ret
  exact ⟨rfl, rfl⟩

end Go.Proofs.Ytnieenlnpnaamaa
