/-
  The walks of package octets (Cmp, Same; numbers read and put, the lowest byte first) and of bytes.Compare, bits.ReverseBytes64. Conditions: slices read as lists of bytes.
-/
import Derived.Test.YtpoilndlfbmhgaaRows
import Derived.Test.YtpoilndlfbmhgaaMem
import Derived.Test.YtpoilndlfbmhgaaApp
import Derived.Test.YtpoilndlfbmhgaaVerMath
import Derived.Test.YtpoilndlfbmhgaaBits64
import Derived.Test.YtpoilndlfbmhgaaLow
import Derived.Lib.Bytealg
import Derived.Laws.Externs
namespace Go.Proofs.Ytpoilndlfbmhgaa
open Go.RowKit

theorem cmpB_eq : ∀ l m, Lib.compareBytes l m = cmpB l m := by
  intro l
  induction l with
  | nil => intro m; cases m <;> rfl
  | cons c l ih => intro m; cases m with
    | nil => rfl
    | cons d m => simp only [Lib.compareBytes, cmpB, ih]

theorem run_loadBytes {P : Program} {w : World} (b : Nat) : ∀ (l : List UInt8) (off : Nat) (acc : ByteArray), (∀ j c, l[j]? = some c → w.cell? ⟨b, off + j, none⟩ = some (.int .u8 (c.toNat : Int))) →
    (Extern.Bytes.loadBytes ⟨b, off, none⟩ l.length acc).run P w = .ok ⟨acc.data ++ l.toArray⟩ w := by
  intro l
  induction l with
  | nil => intro off acc _; simp [Extern.Bytes.loadBytes, Sem.run_pure]
  | cons c l ih =>
    intro off acc h
    have h0 := h 0 c rfl
    rw [Nat.add_zero] at h0
    have hr := ih (off + 1) (acc.push c) (fun j d hj => by
      have := h (j + 1) d (by simpa using hj)
      rwa [show off + (j + 1) = off + 1 + j by omega] at this)
    simp only [List.length_cons, Extern.Bytes.loadBytes, Sem.run_bind]
    have hl : (load (⟨b, off, none⟩ : Addr)).run P w = .ok (.int .u8 (c.toNat : Int)) w := by simp [go_sem, h0]
    rw [hl]
    simp only [Result.andThen]
    rw [addr_add, show ((c.toNat : Int)).toNat.toUInt8 = c by simp, hr]
    simp [ByteArray.push]

theorem Rb.run_bytesOf {P : Program} {w : World} {B : Nat} {A : Option Addr} {n : Nat} {l : List UInt8} (h : Rb w B A n l) (c : Nat) : (Extern.Bytes.bytesOf (.slice A n c)).run P w = .ok ⟨l.toArray⟩ w := by
  rcases Nat.eq_zero_or_pos n with h0 | h0
  · subst h0
    have hl : l = [] := List.eq_nil_of_length_eq_zero h.len
    subst hl
    cases A with
    | none => rfl
    | some a => rfl
  · obtain ⟨b, off, rfl, _, hc⟩ := h.all h0
    have := run_loadBytes (P := P) b l off .empty hc
    rw [h.len] at this
    simp only [Extern.Bytes.bytesOf]
    rw [this]
    simp [ByteArray.empty, ByteArray.emptyWithCapacity]
    rfl

theorem run_compare {w : World} {B B' : Nat} {A A' : Option Addr} {n n' : Nat} {l l' : List UInt8} (h : Rb w B A n l) (h' : Rb w B' A' n' l') (c c' : Nat) :
    (callFunc 61 #[.slice A n c, .slice A' n' c']).run Try.prog w = .ok (.value (.int .i64 (cmpB l l'))) w := by
  rw [run_callFunc_extern Try.func61 (by kernel_rfl) (by kernel_rfl) (by kernel_rfl) (e := Extern.BytealgCompare.compare) (by kernel_rfl)]
  have : (Extern.BytealgCompare.compare #[.slice A n c, .slice A' n' c']).run Try.prog w = .ok (.int .i64 (cmpB l l')) w := by
    change Sem.run Try.prog (do pure (goInt (Extern.BytealgCompare.cmp (← Extern.Bytes.bytesOf (.slice A n c)) (← Extern.Bytes.bytesOf (.slice A' n' c'))))) w = _
    simp only [Sem.run_bind, h.run_bytesOf, h'.run_bytesOf, Result.andThen, Sem.run_pure, Lib.cmp_eq, cmpB_eq]
    rfl
  rw [this]
  rfl

theorem cmp_any (A A' : Option Addr) (n c n' c' : Nat) (l l' : List UInt8) (w : World) (B B' : Nat) (hl : Rb w B A n l) (hl' : Rb w B' A' n' l') :
    Calls Try.prog 40 #[.slice A n c, .slice A' n' c'] w fun e w' => e = .returned (.int .i64 (cmpB l l')) ∧ w = w' := by
  have hr := run_compare hl hl' c c'
  clear hl hl'
  go_enter Try.func40, Try.ntmps40
  go_wp2
  go_ret
  exact ⟨rfl, rfl⟩

theorem same_any (A A' : Option Addr) (n c n' c' : Nat) (l l' : List UInt8) (w : World) (B B' : Nat) (hl : Rb w B A n l) (hl' : Rb w B' A' n' l') :
    Calls Try.prog 43 #[.slice A n c, .slice A' n' c'] w fun e w' => e = .returned (.bool (l == l')) ∧ w = w' := by
  have HL := hide hl
  have HL' := hide hl'
  clear hl hl'
  go_enter Try.func43, Try.ntmps43
  go_wp2_with fail
  refine (cmp_any _ _ _ _ _ _ l l' _ _ _ HL.out HL'.out).mono ?_
  rintro e w1 ⟨rfl, rfl⟩
  go_wp2
  go_ret
  refine ⟨?_, rfl⟩
  have : (cmpB l l' == 0) = (l == l') := by
    rw [Bool.eq_iff_iff]
    simp [cmpB_zero]
  exact congrArg (fun b => Ending.returned (.bool b)) this

/-! ### numbers -/
theorem le_snoc (l : List UInt8) (c : UInt8) : le (l ++ [c]) = le l + c.toNat * 256 ^ l.length := by
  induction l with
  | nil => simp [le]
  | cons d l ih => simp only [List.cons_append, le, ih, List.length_cons, Nat.pow_succ, Nat.mul_add]; rw [Nat.mul_comm (256 ^ l.length) 256, ← Nat.mul_assoc 256, Nat.mul_comm 256 c.toNat, Nat.mul_assoc, Nat.add_assoc]
theorem le_lt (l : List UInt8) : le l < 256 ^ l.length := by
  induction l with
  | nil => simp [le]
  | cons d l ih => simp only [le, List.length_cons, Nat.pow_succ]; have := d.toNat_lt; omega
/-- The number that the first i of the bytes from a on say. -/
def leAt (l : List UInt8) (a i : Nat) : Nat := le ((l.drop a).take i)
theorem leAt_succ (l : List UInt8) (a i : Nat) (c : UInt8) (h : l[a + i]? = some c) : leAt l a (i + 1) = leAt l a i + c.toNat * 256 ^ i := by
  have hlt : a + i < l.length := (List.getElem?_eq_some_iff.1 h).1
  unfold leAt
  rw [List.take_add_one, List.getElem?_drop, h]
  show le (_ ++ [c]) = _
  rw [le_snoc]
  rw [show ((l.drop a).take i).length = i by simp; omega]
theorem leAt_lt (l : List UInt8) (a i : Nat) : leAt l a i < 256 ^ i := by
  refine Nat.lt_of_lt_of_le (le_lt _) (Nat.pow_le_pow_right (by omega) ?_)
  simp
  omega
theorem or_num (v c i : Nat) (hi : i < 8) (hv : v < 256 ^ i) (hc : c < 256) : bits .or .u64 (v : Int) (IntKind.u64.wrap ((c : Int) * 2 ^ (8 * i))) = (v : Int) + c * 2 ^ (8 * i) := by
  rw [IntKind.wrap_u64]
  have e : 256 ^ i = 2 ^ (8 * i) := by rw [Nat.pow_mul]
  rw [e] at hv
  have hb : (c + 1) * 2 ^ (8 * i) ≤ 2 ^ 8 * 2 ^ (8 * i) := Nat.mul_le_mul_right _ (by omega)
  rw [← Nat.pow_add] at hb
  have hb2 : 2 ^ (8 + 8 * i) ≤ 2 ^ 64 := Nat.pow_le_pow_right (by omega) (by omega)
  have e2 : ((c : Int) * 2 ^ (8 * i)) = ((c * 2 ^ (8 * i) : Nat) : Int) := by simp
  rw [e2]
  rw [Nat.add_mul, Nat.one_mul] at hb
  generalize hz : c * 2 ^ (8 * i) = z at *
  have hm : z % 2 ^ (8 * i) = 0 := by rw [← hz]; exact Nat.mul_mod_left _ _
  generalize hp : 2 ^ (8 * i) = p at *
  rw [show ((z : Int) % 18446744073709551616) = (z : Int) by omega, u64_or_nat v z (by omega) (by omega), Nat.or_comm, nat_join (8 * i) z v (by rw [hp]; exact hm) (by rw [hp]; exact hv)]
  omega

set_option maxHeartbeats 400000 in
/-- number(b, at, size), the bytes being there. -/
theorem number_yes (A : Option Addr) (n c : Nat) (l : List UInt8) (a k : Nat) (w : World) (hl : Rb w w.heap.size A n l) (hk : k ≤ 8) (ha : a + k ≤ n) (hn : n ≤ maxLen) :
    Calls Try.prog 62 #[.slice A n c, .int .i64 (a : Int), .int .i64 (k : Int)] w fun e w' => e = .returned (.tuple #[.int .u64 (leAt l a k : Nat), .bool true]) ∧ w = w' := by
  unfold maxLen at hn
  have HL := hide hl
  clear hl
  have hd : decide ((n : Int) - k < a) = false := by simp; omega
  go_enter Try.func62, Try.ntmps62
  go_wp2
  go_loop [8, 21] (fun v i => ∃ j : Nat, j ≤ k ∧ i = .int .i64 j ∧ v = .int .u64 (leAt l a j : Nat)) (fun _ i => k - (intOf i).toNat)
  case atStart => exact ⟨0, Nat.zero_le _, rfl, rfl⟩
  case round =>
    obtain ⟨j, hj, rfl, rfl⟩ := hrel
    by_cases hlt : j < k
    · obtain ⟨b, off, ch, rfl, hb, hch, hcell⟩ := HL.out.at (show a + j < n by omega)
      have HS := hide (leAt_succ l a j ch hch)
      have hor := or_num (leAt l a j) ch.toNat j (by omega) (leAt_lt _ _ _) ch.toNat_lt
      have hb8 := ch.toNat_lt
      clear hch
      go_wp2
      go_round
      case rel => exact ⟨j + 1, by omega, by go_num, int_eq (by rw [HS.out, show 256 ^ j = 2 ^ (8 * j) by rw [Nat.pow_mul]]; simp)⟩
      case measure => simp [intOf]; omega
    · obtain rfl : j = k := by omega
      go_wp2
      go_ret2
      exact ⟨rfl, rfl⟩

/-- number(b, at, size), the bytes not being there. -/
theorem number_no (A : Option Addr) (n c : Nat) (a : Int) (k : Nat) (w : World) (hk : k ≤ 8) (ha : a < 0 ∨ (n : Int) - k < a) (hn : n ≤ maxLen) :
    Calls Try.prog 62 #[.slice A n c, .int .i64 a, .int .i64 (k : Int)] w fun e w' => e = .returned (.tuple #[.int .u64 0, .bool false]) ∧ w = w' := by
  unfold maxLen at hn
  by_cases h0 : a < 0
  · clear ha
    have hd : decide (a < 0) = true := by simp; omega
    go_enter Try.func62, Try.ntmps62
    go_wp2
    go_ret2
    exact ⟨rfl, rfl⟩
  · have h1 : (n : Int) - k < a := by omega
    clear ha
    have hd : decide ((n : Int) - k < a) = true := by simp; omega
    have hd0 : decide (a < 0) = false := by simp; omega
    go_enter Try.func62, Try.ntmps62
    go_wp2
    go_ret2
    exact ⟨rfl, rfl⟩

/-! ### numbers put -/
/-- The first i bytes of v, the lowest first. -/
def leB (v : Nat) : Nat → List UInt8
  | 0 => []
  | i + 1 => leB v i ++ [UInt8.ofNat (v / 2 ^ (8 * i) % 256)]
theorem leB_len (v i : Nat) : (leB v i).length = i := by
  induction i with
  | zero => rfl
  | succ i ih => simp [leB, ih]
theorem byte_val (v i : Nat) : Value.int .u8 ((v : Int) / 2 ^ (8 * i) % 256) = B8 (UInt8.ofNat (v / 2 ^ (8 * i) % 256)) := by
  have e : (v : Int) / 2 ^ (8 * i) % 256 = ((v / 2 ^ (8 * i) % 256 : Nat) : Int) := by simp
  rw [e, B8, UInt8.toNat_ofNat_of_lt' (show v / 2 ^ (8 * i) % 256 < 256 from Nat.mod_lt _ (by omega))]

set_option maxHeartbeats 400000 in
theorem add_any (A : Option Addr) (n c : Nat) (l : List UInt8) (v k : Nat) (w : World) (hl : Rb w w.heap.size A n l) (hk : k ≤ 8) (_hv : v < 18446744073709551616) (hn : n + 8 ≤ 140737488355328) :
    Calls Try.prog 53 #[.slice A n c, .int .u64 (v : Int), .int .i64 (k : Int)] w fun e w' => ∃ r, e = .returned r ∧ w'.ownsRow w.heap.size 5 1 r (n + k) ((l ++ leB v k).map B8) ∧ Below w.heap.size w w' := by
  obtain ⟨i0, hi0, hz0, hz1, hz2⟩ := info_parts info8
  have HL := hide hl
  clear hl
  go_enter Try.func53, Try.ntmps53
  go_wp2_with (first
    | (at_make; refine wpList_make_own _ rfl _ _ 26 rfl w.heap.size 5 i0 _ 1 Try.underlying26 hi0 hz0 hz1 .i64 .i64 _ (n + k) rfl rfl (by omega) (by rw [hz2]; omega) (by unfold maxLen; omega) (Nat.le_refl _) ?_; intro w1 hown1 hg1; have HB1 : Hid (Below w.heap.size w w1) := (Below.refl _ _).grown hg1 (Nat.le_refl _) (by simp); have HO1 := hide hown1; clear hown1 hg1)
    | (at_builtin; refine wpList_append_rd _ rfl (.tmp 14) (.tmp 15) _ rfl w.heap.size 5 i0 _ 1 1 Try.underlying26 hi0 hz0 hz1 hz2 rfl (by omega) _ 0 [] rfl HO1.out w.heap.size A n c (l.map B8) rfl (HL.out.below HB1.out (Nat.le_refl _)) (B8_one l) (by unfold maxLen; omega) (by omega) HB1.out.size ?_; intro v2 w2 hown2 hb2 _; rw [List.nil_append, Nat.zero_add] at hown2; have HO2 := hide hown2; have HB2 := hide (HB1.out.trans hb2); clear hown2 hb2 HO1 HB1))
  go_loopw [7, 18] (fun r i wr => ∃ j : Nat, j ≤ k ∧ i = .int .i64 j ∧ wr.ownsRow w.heap.size 5 1 r (n + j) ((l ++ leB v j).map B8) ∧ Below w.heap.size w wr) (fun _ i _ => k - (intOf i).toNat)
  case atStart => exact ⟨0, Nat.zero_le _, rfl, by simpa [leB] using HO2.out, HB2.out⟩
  case round =>
    obtain ⟨j, hj, rfl, hown, hbel⟩ := hrel
    have HO := hide hown
    have HB := hide hbel
    clear hown hbel
    have hsz := HB.out.size
    by_cases hlt : j < k
    · have HLIT := hide (Rd.lit wr 5 [Value.int .u8 ((v : Int) / 2 ^ (8 * j) % 256)])
      have H1 : Hid (∀ u ∈ [Value.int .u8 ((v : Int) / 2 ^ (8 * j) % 256)], u.oneCell' = true) := by intro u hu; simp at hu; subst hu; rfl
      go_wp2_with (at_builtin; refine wpList_append_rd _ rfl (.tmp 21) (.tmp 27) _ rfl w.heap.size 5 i0 _ 1 1 Try.underlying26 hi0 hz0 hz1 hz2 rfl (by omega) _ (n + j) ((l ++ leB v j).map B8) rfl (HO.out.alloc _) _ _ 1 1 [Value.int .u8 ((v : Int) / 2 ^ (8 * j) % 256)] rfl HLIT.out H1.out (by unfold maxLen; omega) (by omega) ?_ ?_; (simp; omega); intro v3 w3 hown3 hb3 _; have HO3 := hide hown3; have HB3 := hide (((HB.out.alloc hsz _).trans hb3)); clear hown3 hb3)
      go_roundw
      case rel =>
        refine ⟨j + 1, by omega, by go_num, ?_, HB3.out⟩
        have := HO3.out
        rw [byte_val, ← List.map_singleton (f := B8), ← List.map_append, List.append_assoc] at this
        exact this
      case measure => simp [intOf]; omega
    · obtain rfl : j = k := by omega
      go_wp2
      go_ret
      exact ⟨_, rfl, HO.out, HB.out⟩

theorem u16_yes (A : Option Addr) (n c : Nat) (l : List UInt8) (a : Nat) (w : World) (hl : Rb w w.heap.size A n l) (ha : a + 2 ≤ n) (hn : n ≤ maxLen) :
    Calls Try.prog 55 #[.slice A n c, .int .i64 (a : Int)] w fun e w' => e = .returned (.tuple #[.int .u16 (leAt l a 2 : Nat), .bool true]) ∧ w = w' := by
  have HL := hide hl
  have hlt := leAt_lt l a 2
  obtain ⟨v, hv⟩ : ∃ v, v = leAt l a 2 := ⟨_, rfl⟩
  have HV := hide hv
  rw [← hv] at hlt ⊢
  have hw : IntKind.u16.wrap (v : Int) = (v : Int) := by
    have : IntKind.u16.wrap (v : Int) = (v : Int) % 65536 := by simp [IntKind.wrap, IntKind.signed, IntKind.bits]
    rw [this]
    omega
  clear hl hv
  go_enter Try.func55, Try.ntmps55
  go_wp2_with fail
  refine (number_yes A n c l a 2 _ HL.out (by omega) ha hn).mono ?_
  rintro e w' ⟨rfl, rfl⟩
  rw [← HV.out]
  go_wp2_with fail
  go_ret2
  exact ⟨rfl, rfl⟩
theorem u16_no (A : Option Addr) (n c : Nat) (a : Int) (w : World) (ha : a < 0 ∨ (n : Int) - 2 < a) (hn : n ≤ maxLen) :
    Calls Try.prog 55 #[.slice A n c, .int .i64 a] w fun e w' => e = .returned (.tuple #[.int .u16 0, .bool false]) ∧ w = w' := by
  have HA := hide ha
  clear ha
  go_enter Try.func55, Try.ntmps55
  go_wp2_with fail
  refine (number_no A n c a 2 _ (by omega) HA.out hn).mono ?_
  rintro e w' ⟨rfl, rfl⟩
  go_wp2_with fail
  go_ret2
  exact ⟨rfl, rfl⟩
theorem u32_yes (A : Option Addr) (n c : Nat) (l : List UInt8) (a : Nat) (w : World) (hl : Rb w w.heap.size A n l) (ha : a + 4 ≤ n) (hn : n ≤ maxLen) :
    Calls Try.prog 56 #[.slice A n c, .int .i64 (a : Int)] w fun e w' => e = .returned (.tuple #[.int .u32 (leAt l a 4 : Nat), .bool true]) ∧ w = w' := by
  have HL := hide hl
  have hlt := leAt_lt l a 4
  obtain ⟨v, hv⟩ : ∃ v, v = leAt l a 4 := ⟨_, rfl⟩
  have HV := hide hv
  rw [← hv] at hlt ⊢
  have hw : IntKind.u32.wrap (v : Int) = (v : Int) := by
    have : IntKind.u32.wrap (v : Int) = (v : Int) % 4294967296 := by simp [IntKind.wrap, IntKind.signed, IntKind.bits]
    rw [this]
    omega
  clear hl hv
  go_enter Try.func56, Try.ntmps56
  go_wp2_with fail
  refine (number_yes A n c l a 4 _ HL.out (by omega) ha hn).mono ?_
  rintro e w' ⟨rfl, rfl⟩
  rw [← HV.out]
  go_wp2_with fail
  go_ret2
  exact ⟨rfl, rfl⟩
theorem add16_any (A : Option Addr) (n c : Nat) (l : List UInt8) (v : Nat) (w : World) (hl : Rb w w.heap.size A n l) (hv : v < 65536) (hn : n + 8 ≤ 140737488355328) :
    Calls Try.prog 35 #[.slice A n c, .int .u16 (v : Int)] w fun e w' => ∃ r, e = .returned r ∧ w'.ownsRow w.heap.size 5 1 r (n + 2) ((l ++ leB v 2).map B8) ∧ Below w.heap.size w w' := by
  have HL := hide hl
  clear hl
  have hw : IntKind.u64.wrap (v : Int) = (v : Int) := by rw [IntKind.wrap_u64]; omega
  go_enter Try.func35, Try.ntmps35
  go_wp2_with fail
  refine (add_any A n c l v 2 _ HL.out (by omega) (by omega) hn).mono ?_
  rintro e w1 ⟨r, rfl, hown, hb⟩
  go_wp2
  go_ret
  exact ⟨r, rfl, hown, hb⟩
theorem add32_any (A : Option Addr) (n c : Nat) (l : List UInt8) (v : Nat) (w : World) (hl : Rb w w.heap.size A n l) (hv : v < 4294967296) (hn : n + 8 ≤ 140737488355328) :
    Calls Try.prog 36 #[.slice A n c, .int .u32 (v : Int)] w fun e w' => ∃ r, e = .returned r ∧ w'.ownsRow w.heap.size 5 1 r (n + 4) ((l ++ leB v 4).map B8) ∧ Below w.heap.size w w' := by
  have HL := hide hl
  clear hl
  have hw : IntKind.u64.wrap (v : Int) = (v : Int) := by rw [IntKind.wrap_u64]; omega
  go_enter Try.func36, Try.ntmps36
  go_wp2_with fail
  refine (add_any A n c l v 4 _ HL.out (by omega) (by omega) hn).mono ?_
  rintro e w1 ⟨r, rfl, hown, hb⟩
  go_wp2
  go_ret
  exact ⟨r, rfl, hown, hb⟩
end Go.Proofs.Ytpoilndlfbmhgaa
