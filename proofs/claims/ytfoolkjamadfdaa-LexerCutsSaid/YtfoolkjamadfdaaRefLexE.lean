/-
  The walk of chanceryref19.one: signs. Conditions: the text has at most 2^40 bytes. (printed by refone.py)
-/
import Derived.Test.YtfoolkjamadfdaaRefLexC
import Derived.Deep.CutBlock
namespace Go.Proofs.Ytfoolkjamadfdaa
open Go.RowKit


set_option maxRecDepth 100000 in
set_option maxHeartbeats 6400000 in
theorem one_sign_40 (text : ByteArray) (at_ : Nat) (w : World) (hm : text.size ≤ 1099511627776) (hat : at_ < text.size) (c : UInt8) (hs : text[at_] = c) (hv : c.toNat = 40) :
    Calls Try.prog 18 #[.string text, .int .i64 (at_ : Int)] w (TQ w at_ (some (5, (text.data.toList.drop at_).take 1, 1))) := by
  have HL := hide (str_len text)
  have hcl := c.toNat_lt
  have HLt : Hid (Lex.letter c = false) := by show _ = _; simp [Lex.letter, hv]
  have HDg : Hid (Lex.digit c = false) := by show _ = _; simp [Lex.digit, hv]
  have q120 : ((c.toNat : Int) == 120) = false := by simp; omega
  have q39 : ((c.toNat : Int) == 39) = false := by simp; omega
  have q40 : ((c.toNat : Int) == 40) = true := by simp; omega
  have q41 : ((c.toNat : Int) == 41) = false := by simp; omega
  have q44 : ((c.toNat : Int) == 44) = false := by simp; omega
  have q46 : ((c.toNat : Int) == 46) = false := by simp; omega
  have q59 : ((c.toNat : Int) == 59) = false := by simp; omega
  have q43 : ((c.toNat : Int) == 43) = false := by simp; omega
  have q45 : ((c.toNat : Int) == 45) = false := by simp; omega
  have q42 : ((c.toNat : Int) == 42) = false := by simp; omega
  have q61 : ((c.toNat : Int) == 61) = false := by simp; omega
  have q60 : ((c.toNat : Int) == 60) = false := by simp; omega
  have q62 : ((c.toNat : Int) == 62) = false := by simp; omega
  clear hv
  go_enter Try.func18, Try.ntmps18
  go_wp2_with fail
  with_reducible refine (rletter_any c _).mono ?_
  rintro e w1 ⟨rfl, hw1⟩
  rw [HLt.out]
  have HOn : Hid (On w w1 at_) := by rw [← hw1]; exact On.new w at_
  clear hw1
  go_wp2_with fail
  with_reducible refine (rdigit_any c _).mono ?_
  rintro e w' ⟨rfl, rfl⟩
  rw [HDg.out]
  have I3 : (at_ : Int) + 1 ≤ (text.size : Int) := by omega
  have I4 : (at_ : Int) ≤ (at_ : Int) + 1 := by omega
  have T2 : ((at_ : Int) + 1).toNat = at_ + 1 := by omega
  obtain ⟨⟨a0, a1, a2⟩, ⟨b0, b1', b2'⟩, fa, fb⟩ := HOn.out.cells
  have fa0 := fa 0
  have fa1 := fa 1
  have fa2 := fa 2
  have fb0 := fb 0
  have fb1 := fb 1
  have fb2 := fb 2
  have la := HOn.out.2.1.lt
  have lb := HOn.out.2.2.lt
  clear fa fb
  go_wp2_with fail
  refine bodyPost_ret (v := .tuple #[.agg #[.int .u8 5, .string (text.extract at_ (at_ + 1)), .int .i64 (at_ : Int)], .int .i64 ((at_ : Int) + 1), .bool true]) (by simp [results, Try.results18, go_sem, a0, a1, a2]) rfl ?_
  exact TQ.yes rfl rfl (by rw [extract_eq _ _ _ (by omega), show at_ + 1 - at_ = 1 by omega]) (by omega) (HOn.out.five _ _ _ _ _)

set_option maxRecDepth 100000 in
set_option maxHeartbeats 6400000 in
theorem one_sign_41 (text : ByteArray) (at_ : Nat) (w : World) (hm : text.size ≤ 1099511627776) (hat : at_ < text.size) (c : UInt8) (hs : text[at_] = c) (hv : c.toNat = 41) :
    Calls Try.prog 18 #[.string text, .int .i64 (at_ : Int)] w (TQ w at_ (some (5, (text.data.toList.drop at_).take 1, 1))) := by
  have HL := hide (str_len text)
  have hcl := c.toNat_lt
  have HLt : Hid (Lex.letter c = false) := by show _ = _; simp [Lex.letter, hv]
  have HDg : Hid (Lex.digit c = false) := by show _ = _; simp [Lex.digit, hv]
  have q120 : ((c.toNat : Int) == 120) = false := by simp; omega
  have q39 : ((c.toNat : Int) == 39) = false := by simp; omega
  have q40 : ((c.toNat : Int) == 40) = false := by simp; omega
  have q41 : ((c.toNat : Int) == 41) = true := by simp; omega
  have q44 : ((c.toNat : Int) == 44) = false := by simp; omega
  have q46 : ((c.toNat : Int) == 46) = false := by simp; omega
  have q59 : ((c.toNat : Int) == 59) = false := by simp; omega
  have q43 : ((c.toNat : Int) == 43) = false := by simp; omega
  have q45 : ((c.toNat : Int) == 45) = false := by simp; omega
  have q42 : ((c.toNat : Int) == 42) = false := by simp; omega
  have q61 : ((c.toNat : Int) == 61) = false := by simp; omega
  have q60 : ((c.toNat : Int) == 60) = false := by simp; omega
  have q62 : ((c.toNat : Int) == 62) = false := by simp; omega
  clear hv
  go_enter Try.func18, Try.ntmps18
  go_wp2_with fail
  with_reducible refine (rletter_any c _).mono ?_
  rintro e w1 ⟨rfl, hw1⟩
  rw [HLt.out]
  have HOn : Hid (On w w1 at_) := by rw [← hw1]; exact On.new w at_
  clear hw1
  go_wp2_with fail
  with_reducible refine (rdigit_any c _).mono ?_
  rintro e w' ⟨rfl, rfl⟩
  rw [HDg.out]
  have I3 : (at_ : Int) + 1 ≤ (text.size : Int) := by omega
  have I4 : (at_ : Int) ≤ (at_ : Int) + 1 := by omega
  have T2 : ((at_ : Int) + 1).toNat = at_ + 1 := by omega
  obtain ⟨⟨a0, a1, a2⟩, ⟨b0, b1', b2'⟩, fa, fb⟩ := HOn.out.cells
  have fa0 := fa 0
  have fa1 := fa 1
  have fa2 := fa 2
  have fb0 := fb 0
  have fb1 := fb 1
  have fb2 := fb 2
  have la := HOn.out.2.1.lt
  have lb := HOn.out.2.2.lt
  clear fa fb
  go_wp2_with fail
  refine bodyPost_ret (v := .tuple #[.agg #[.int .u8 5, .string (text.extract at_ (at_ + 1)), .int .i64 (at_ : Int)], .int .i64 ((at_ : Int) + 1), .bool true]) (by simp [results, Try.results18, go_sem, a0, a1, a2]) rfl ?_
  exact TQ.yes rfl rfl (by rw [extract_eq _ _ _ (by omega), show at_ + 1 - at_ = 1 by omega]) (by omega) (HOn.out.five _ _ _ _ _)

set_option maxRecDepth 100000 in
set_option maxHeartbeats 6400000 in
theorem one_sign_44 (text : ByteArray) (at_ : Nat) (w : World) (hm : text.size ≤ 1099511627776) (hat : at_ < text.size) (c : UInt8) (hs : text[at_] = c) (hv : c.toNat = 44) :
    Calls Try.prog 18 #[.string text, .int .i64 (at_ : Int)] w (TQ w at_ (some (5, (text.data.toList.drop at_).take 1, 1))) := by
  have HL := hide (str_len text)
  have hcl := c.toNat_lt
  have HLt : Hid (Lex.letter c = false) := by show _ = _; simp [Lex.letter, hv]
  have HDg : Hid (Lex.digit c = false) := by show _ = _; simp [Lex.digit, hv]
  have q120 : ((c.toNat : Int) == 120) = false := by simp; omega
  have q39 : ((c.toNat : Int) == 39) = false := by simp; omega
  have q40 : ((c.toNat : Int) == 40) = false := by simp; omega
  have q41 : ((c.toNat : Int) == 41) = false := by simp; omega
  have q44 : ((c.toNat : Int) == 44) = true := by simp; omega
  have q46 : ((c.toNat : Int) == 46) = false := by simp; omega
  have q59 : ((c.toNat : Int) == 59) = false := by simp; omega
  have q43 : ((c.toNat : Int) == 43) = false := by simp; omega
  have q45 : ((c.toNat : Int) == 45) = false := by simp; omega
  have q42 : ((c.toNat : Int) == 42) = false := by simp; omega
  have q61 : ((c.toNat : Int) == 61) = false := by simp; omega
  have q60 : ((c.toNat : Int) == 60) = false := by simp; omega
  have q62 : ((c.toNat : Int) == 62) = false := by simp; omega
  clear hv
  go_enter Try.func18, Try.ntmps18
  go_wp2_with fail
  with_reducible refine (rletter_any c _).mono ?_
  rintro e w1 ⟨rfl, hw1⟩
  rw [HLt.out]
  have HOn : Hid (On w w1 at_) := by rw [← hw1]; exact On.new w at_
  clear hw1
  go_wp2_with fail
  with_reducible refine (rdigit_any c _).mono ?_
  rintro e w' ⟨rfl, rfl⟩
  rw [HDg.out]
  have I3 : (at_ : Int) + 1 ≤ (text.size : Int) := by omega
  have I4 : (at_ : Int) ≤ (at_ : Int) + 1 := by omega
  have T2 : ((at_ : Int) + 1).toNat = at_ + 1 := by omega
  obtain ⟨⟨a0, a1, a2⟩, ⟨b0, b1', b2'⟩, fa, fb⟩ := HOn.out.cells
  have fa0 := fa 0
  have fa1 := fa 1
  have fa2 := fa 2
  have fb0 := fb 0
  have fb1 := fb 1
  have fb2 := fb 2
  have la := HOn.out.2.1.lt
  have lb := HOn.out.2.2.lt
  clear fa fb
  go_wp2_with fail
  refine bodyPost_ret (v := .tuple #[.agg #[.int .u8 5, .string (text.extract at_ (at_ + 1)), .int .i64 (at_ : Int)], .int .i64 ((at_ : Int) + 1), .bool true]) (by simp [results, Try.results18, go_sem, a0, a1, a2]) rfl ?_
  exact TQ.yes rfl rfl (by rw [extract_eq _ _ _ (by omega), show at_ + 1 - at_ = 1 by omega]) (by omega) (HOn.out.five _ _ _ _ _)

set_option maxRecDepth 100000 in
set_option maxHeartbeats 6400000 in
theorem one_sign_46 (text : ByteArray) (at_ : Nat) (w : World) (hm : text.size ≤ 1099511627776) (hat : at_ < text.size) (c : UInt8) (hs : text[at_] = c) (hv : c.toNat = 46) :
    Calls Try.prog 18 #[.string text, .int .i64 (at_ : Int)] w (TQ w at_ (some (5, (text.data.toList.drop at_).take 1, 1))) := by
  have HL := hide (str_len text)
  have hcl := c.toNat_lt
  have HLt : Hid (Lex.letter c = false) := by show _ = _; simp [Lex.letter, hv]
  have HDg : Hid (Lex.digit c = false) := by show _ = _; simp [Lex.digit, hv]
  have q120 : ((c.toNat : Int) == 120) = false := by simp; omega
  have q39 : ((c.toNat : Int) == 39) = false := by simp; omega
  have q40 : ((c.toNat : Int) == 40) = false := by simp; omega
  have q41 : ((c.toNat : Int) == 41) = false := by simp; omega
  have q44 : ((c.toNat : Int) == 44) = false := by simp; omega
  have q46 : ((c.toNat : Int) == 46) = true := by simp; omega
  have q59 : ((c.toNat : Int) == 59) = false := by simp; omega
  have q43 : ((c.toNat : Int) == 43) = false := by simp; omega
  have q45 : ((c.toNat : Int) == 45) = false := by simp; omega
  have q42 : ((c.toNat : Int) == 42) = false := by simp; omega
  have q61 : ((c.toNat : Int) == 61) = false := by simp; omega
  have q60 : ((c.toNat : Int) == 60) = false := by simp; omega
  have q62 : ((c.toNat : Int) == 62) = false := by simp; omega
  clear hv
  go_enter Try.func18, Try.ntmps18
  go_wp2_with fail
  with_reducible refine (rletter_any c _).mono ?_
  rintro e w1 ⟨rfl, hw1⟩
  rw [HLt.out]
  have HOn : Hid (On w w1 at_) := by rw [← hw1]; exact On.new w at_
  clear hw1
  go_wp2_with fail
  with_reducible refine (rdigit_any c _).mono ?_
  rintro e w' ⟨rfl, rfl⟩
  rw [HDg.out]
  have I3 : (at_ : Int) + 1 ≤ (text.size : Int) := by omega
  have I4 : (at_ : Int) ≤ (at_ : Int) + 1 := by omega
  have T2 : ((at_ : Int) + 1).toNat = at_ + 1 := by omega
  obtain ⟨⟨a0, a1, a2⟩, ⟨b0, b1', b2'⟩, fa, fb⟩ := HOn.out.cells
  have fa0 := fa 0
  have fa1 := fa 1
  have fa2 := fa 2
  have fb0 := fb 0
  have fb1 := fb 1
  have fb2 := fb 2
  have la := HOn.out.2.1.lt
  have lb := HOn.out.2.2.lt
  clear fa fb
  go_wp2_with fail
  refine bodyPost_ret (v := .tuple #[.agg #[.int .u8 5, .string (text.extract at_ (at_ + 1)), .int .i64 (at_ : Int)], .int .i64 ((at_ : Int) + 1), .bool true]) (by simp [results, Try.results18, go_sem, a0, a1, a2]) rfl ?_
  exact TQ.yes rfl rfl (by rw [extract_eq _ _ _ (by omega), show at_ + 1 - at_ = 1 by omega]) (by omega) (HOn.out.five _ _ _ _ _)

set_option maxRecDepth 100000 in
set_option maxHeartbeats 6400000 in
theorem one_sign_59 (text : ByteArray) (at_ : Nat) (w : World) (hm : text.size ≤ 1099511627776) (hat : at_ < text.size) (c : UInt8) (hs : text[at_] = c) (hv : c.toNat = 59) :
    Calls Try.prog 18 #[.string text, .int .i64 (at_ : Int)] w (TQ w at_ (some (5, (text.data.toList.drop at_).take 1, 1))) := by
  have HL := hide (str_len text)
  have hcl := c.toNat_lt
  have HLt : Hid (Lex.letter c = false) := by show _ = _; simp [Lex.letter, hv]
  have HDg : Hid (Lex.digit c = false) := by show _ = _; simp [Lex.digit, hv]
  have q120 : ((c.toNat : Int) == 120) = false := by simp; omega
  have q39 : ((c.toNat : Int) == 39) = false := by simp; omega
  have q40 : ((c.toNat : Int) == 40) = false := by simp; omega
  have q41 : ((c.toNat : Int) == 41) = false := by simp; omega
  have q44 : ((c.toNat : Int) == 44) = false := by simp; omega
  have q46 : ((c.toNat : Int) == 46) = false := by simp; omega
  have q59 : ((c.toNat : Int) == 59) = true := by simp; omega
  have q43 : ((c.toNat : Int) == 43) = false := by simp; omega
  have q45 : ((c.toNat : Int) == 45) = false := by simp; omega
  have q42 : ((c.toNat : Int) == 42) = false := by simp; omega
  have q61 : ((c.toNat : Int) == 61) = false := by simp; omega
  have q60 : ((c.toNat : Int) == 60) = false := by simp; omega
  have q62 : ((c.toNat : Int) == 62) = false := by simp; omega
  clear hv
  go_enter Try.func18, Try.ntmps18
  go_wp2_with fail
  with_reducible refine (rletter_any c _).mono ?_
  rintro e w1 ⟨rfl, hw1⟩
  rw [HLt.out]
  have HOn : Hid (On w w1 at_) := by rw [← hw1]; exact On.new w at_
  clear hw1
  go_wp2_with fail
  with_reducible refine (rdigit_any c _).mono ?_
  rintro e w' ⟨rfl, rfl⟩
  rw [HDg.out]
  have I3 : (at_ : Int) + 1 ≤ (text.size : Int) := by omega
  have I4 : (at_ : Int) ≤ (at_ : Int) + 1 := by omega
  have T2 : ((at_ : Int) + 1).toNat = at_ + 1 := by omega
  obtain ⟨⟨a0, a1, a2⟩, ⟨b0, b1', b2'⟩, fa, fb⟩ := HOn.out.cells
  have fa0 := fa 0
  have fa1 := fa 1
  have fa2 := fa 2
  have fb0 := fb 0
  have fb1 := fb 1
  have fb2 := fb 2
  have la := HOn.out.2.1.lt
  have lb := HOn.out.2.2.lt
  clear fa fb
  go_wp2_with fail
  refine bodyPost_ret (v := .tuple #[.agg #[.int .u8 5, .string (text.extract at_ (at_ + 1)), .int .i64 (at_ : Int)], .int .i64 ((at_ : Int) + 1), .bool true]) (by simp [results, Try.results18, go_sem, a0, a1, a2]) rfl ?_
  exact TQ.yes rfl rfl (by rw [extract_eq _ _ _ (by omega), show at_ + 1 - at_ = 1 by omega]) (by omega) (HOn.out.five _ _ _ _ _)

set_option maxRecDepth 100000 in
set_option maxHeartbeats 6400000 in
theorem one_sign_43 (text : ByteArray) (at_ : Nat) (w : World) (hm : text.size ≤ 1099511627776) (hat : at_ < text.size) (c : UInt8) (hs : text[at_] = c) (hv : c.toNat = 43) :
    Calls Try.prog 18 #[.string text, .int .i64 (at_ : Int)] w (TQ w at_ (some (5, (text.data.toList.drop at_).take 1, 1))) := by
  have HL := hide (str_len text)
  have hcl := c.toNat_lt
  have HLt : Hid (Lex.letter c = false) := by show _ = _; simp [Lex.letter, hv]
  have HDg : Hid (Lex.digit c = false) := by show _ = _; simp [Lex.digit, hv]
  have q120 : ((c.toNat : Int) == 120) = false := by simp; omega
  have q39 : ((c.toNat : Int) == 39) = false := by simp; omega
  have q40 : ((c.toNat : Int) == 40) = false := by simp; omega
  have q41 : ((c.toNat : Int) == 41) = false := by simp; omega
  have q44 : ((c.toNat : Int) == 44) = false := by simp; omega
  have q46 : ((c.toNat : Int) == 46) = false := by simp; omega
  have q59 : ((c.toNat : Int) == 59) = false := by simp; omega
  have q43 : ((c.toNat : Int) == 43) = true := by simp; omega
  have q45 : ((c.toNat : Int) == 45) = false := by simp; omega
  have q42 : ((c.toNat : Int) == 42) = false := by simp; omega
  have q61 : ((c.toNat : Int) == 61) = false := by simp; omega
  have q60 : ((c.toNat : Int) == 60) = false := by simp; omega
  have q62 : ((c.toNat : Int) == 62) = false := by simp; omega
  clear hv
  go_enter Try.func18, Try.ntmps18
  go_wp2_with fail
  with_reducible refine (rletter_any c _).mono ?_
  rintro e w1 ⟨rfl, hw1⟩
  rw [HLt.out]
  have HOn : Hid (On w w1 at_) := by rw [← hw1]; exact On.new w at_
  clear hw1
  go_wp2_with fail
  with_reducible refine (rdigit_any c _).mono ?_
  rintro e w' ⟨rfl, rfl⟩
  rw [HDg.out]
  have I3 : (at_ : Int) + 1 ≤ (text.size : Int) := by omega
  have I4 : (at_ : Int) ≤ (at_ : Int) + 1 := by omega
  have T2 : ((at_ : Int) + 1).toNat = at_ + 1 := by omega
  obtain ⟨⟨a0, a1, a2⟩, ⟨b0, b1', b2'⟩, fa, fb⟩ := HOn.out.cells
  have fa0 := fa 0
  have fa1 := fa 1
  have fa2 := fa 2
  have fb0 := fb 0
  have fb1 := fb 1
  have fb2 := fb 2
  have la := HOn.out.2.1.lt
  have lb := HOn.out.2.2.lt
  clear fa fb
  go_wp2_with fail
  refine bodyPost_ret (v := .tuple #[.agg #[.int .u8 5, .string (text.extract at_ (at_ + 1)), .int .i64 (at_ : Int)], .int .i64 ((at_ : Int) + 1), .bool true]) (by simp [results, Try.results18, go_sem, a0, a1, a2]) rfl ?_
  exact TQ.yes rfl rfl (by rw [extract_eq _ _ _ (by omega), show at_ + 1 - at_ = 1 by omega]) (by omega) (HOn.out.five _ _ _ _ _)

set_option maxRecDepth 100000 in
set_option maxHeartbeats 6400000 in
theorem one_sign_45 (text : ByteArray) (at_ : Nat) (w : World) (hm : text.size ≤ 1099511627776) (hat : at_ < text.size) (c : UInt8) (hs : text[at_] = c) (hv : c.toNat = 45) :
    Calls Try.prog 18 #[.string text, .int .i64 (at_ : Int)] w (TQ w at_ (some (5, (text.data.toList.drop at_).take 1, 1))) := by
  have HL := hide (str_len text)
  have hcl := c.toNat_lt
  have HLt : Hid (Lex.letter c = false) := by show _ = _; simp [Lex.letter, hv]
  have HDg : Hid (Lex.digit c = false) := by show _ = _; simp [Lex.digit, hv]
  have q120 : ((c.toNat : Int) == 120) = false := by simp; omega
  have q39 : ((c.toNat : Int) == 39) = false := by simp; omega
  have q40 : ((c.toNat : Int) == 40) = false := by simp; omega
  have q41 : ((c.toNat : Int) == 41) = false := by simp; omega
  have q44 : ((c.toNat : Int) == 44) = false := by simp; omega
  have q46 : ((c.toNat : Int) == 46) = false := by simp; omega
  have q59 : ((c.toNat : Int) == 59) = false := by simp; omega
  have q43 : ((c.toNat : Int) == 43) = false := by simp; omega
  have q45 : ((c.toNat : Int) == 45) = true := by simp; omega
  have q42 : ((c.toNat : Int) == 42) = false := by simp; omega
  have q61 : ((c.toNat : Int) == 61) = false := by simp; omega
  have q60 : ((c.toNat : Int) == 60) = false := by simp; omega
  have q62 : ((c.toNat : Int) == 62) = false := by simp; omega
  clear hv
  go_enter Try.func18, Try.ntmps18
  go_wp2_with fail
  with_reducible refine (rletter_any c _).mono ?_
  rintro e w1 ⟨rfl, hw1⟩
  rw [HLt.out]
  have HOn : Hid (On w w1 at_) := by rw [← hw1]; exact On.new w at_
  clear hw1
  go_wp2_with fail
  with_reducible refine (rdigit_any c _).mono ?_
  rintro e w' ⟨rfl, rfl⟩
  rw [HDg.out]
  have I3 : (at_ : Int) + 1 ≤ (text.size : Int) := by omega
  have I4 : (at_ : Int) ≤ (at_ : Int) + 1 := by omega
  have T2 : ((at_ : Int) + 1).toNat = at_ + 1 := by omega
  obtain ⟨⟨a0, a1, a2⟩, ⟨b0, b1', b2'⟩, fa, fb⟩ := HOn.out.cells
  have fa0 := fa 0
  have fa1 := fa 1
  have fa2 := fa 2
  have fb0 := fb 0
  have fb1 := fb 1
  have fb2 := fb 2
  have la := HOn.out.2.1.lt
  have lb := HOn.out.2.2.lt
  clear fa fb
  go_wp2_with fail
  refine bodyPost_ret (v := .tuple #[.agg #[.int .u8 5, .string (text.extract at_ (at_ + 1)), .int .i64 (at_ : Int)], .int .i64 ((at_ : Int) + 1), .bool true]) (by simp [results, Try.results18, go_sem, a0, a1, a2]) rfl ?_
  exact TQ.yes rfl rfl (by rw [extract_eq _ _ _ (by omega), show at_ + 1 - at_ = 1 by omega]) (by omega) (HOn.out.five _ _ _ _ _)

set_option maxRecDepth 100000 in
set_option maxHeartbeats 6400000 in
theorem one_sign_42 (text : ByteArray) (at_ : Nat) (w : World) (hm : text.size ≤ 1099511627776) (hat : at_ < text.size) (c : UInt8) (hs : text[at_] = c) (hv : c.toNat = 42) :
    Calls Try.prog 18 #[.string text, .int .i64 (at_ : Int)] w (TQ w at_ (some (5, (text.data.toList.drop at_).take 1, 1))) := by
  have HL := hide (str_len text)
  have hcl := c.toNat_lt
  have HLt : Hid (Lex.letter c = false) := by show _ = _; simp [Lex.letter, hv]
  have HDg : Hid (Lex.digit c = false) := by show _ = _; simp [Lex.digit, hv]
  have q120 : ((c.toNat : Int) == 120) = false := by simp; omega
  have q39 : ((c.toNat : Int) == 39) = false := by simp; omega
  have q40 : ((c.toNat : Int) == 40) = false := by simp; omega
  have q41 : ((c.toNat : Int) == 41) = false := by simp; omega
  have q44 : ((c.toNat : Int) == 44) = false := by simp; omega
  have q46 : ((c.toNat : Int) == 46) = false := by simp; omega
  have q59 : ((c.toNat : Int) == 59) = false := by simp; omega
  have q43 : ((c.toNat : Int) == 43) = false := by simp; omega
  have q45 : ((c.toNat : Int) == 45) = false := by simp; omega
  have q42 : ((c.toNat : Int) == 42) = true := by simp; omega
  have q61 : ((c.toNat : Int) == 61) = false := by simp; omega
  have q60 : ((c.toNat : Int) == 60) = false := by simp; omega
  have q62 : ((c.toNat : Int) == 62) = false := by simp; omega
  clear hv
  go_enter Try.func18, Try.ntmps18
  go_wp2_with fail
  with_reducible refine (rletter_any c _).mono ?_
  rintro e w1 ⟨rfl, hw1⟩
  rw [HLt.out]
  have HOn : Hid (On w w1 at_) := by rw [← hw1]; exact On.new w at_
  clear hw1
  go_wp2_with fail
  with_reducible refine (rdigit_any c _).mono ?_
  rintro e w' ⟨rfl, rfl⟩
  rw [HDg.out]
  have I3 : (at_ : Int) + 1 ≤ (text.size : Int) := by omega
  have I4 : (at_ : Int) ≤ (at_ : Int) + 1 := by omega
  have T2 : ((at_ : Int) + 1).toNat = at_ + 1 := by omega
  obtain ⟨⟨a0, a1, a2⟩, ⟨b0, b1', b2'⟩, fa, fb⟩ := HOn.out.cells
  have fa0 := fa 0
  have fa1 := fa 1
  have fa2 := fa 2
  have fb0 := fb 0
  have fb1 := fb 1
  have fb2 := fb 2
  have la := HOn.out.2.1.lt
  have lb := HOn.out.2.2.lt
  clear fa fb
  go_wp2_with fail
  refine bodyPost_ret (v := .tuple #[.agg #[.int .u8 5, .string (text.extract at_ (at_ + 1)), .int .i64 (at_ : Int)], .int .i64 ((at_ : Int) + 1), .bool true]) (by simp [results, Try.results18, go_sem, a0, a1, a2]) rfl ?_
  exact TQ.yes rfl rfl (by rw [extract_eq _ _ _ (by omega), show at_ + 1 - at_ = 1 by omega]) (by omega) (HOn.out.five _ _ _ _ _)

set_option maxRecDepth 100000 in
set_option maxHeartbeats 6400000 in
theorem one_sign_61 (text : ByteArray) (at_ : Nat) (w : World) (hm : text.size ≤ 1099511627776) (hat : at_ < text.size) (c : UInt8) (hs : text[at_] = c) (hv : c.toNat = 61) :
    Calls Try.prog 18 #[.string text, .int .i64 (at_ : Int)] w (TQ w at_ (some (5, (text.data.toList.drop at_).take 1, 1))) := by
  have HL := hide (str_len text)
  have hcl := c.toNat_lt
  have HLt : Hid (Lex.letter c = false) := by show _ = _; simp [Lex.letter, hv]
  have HDg : Hid (Lex.digit c = false) := by show _ = _; simp [Lex.digit, hv]
  have q120 : ((c.toNat : Int) == 120) = false := by simp; omega
  have q39 : ((c.toNat : Int) == 39) = false := by simp; omega
  have q40 : ((c.toNat : Int) == 40) = false := by simp; omega
  have q41 : ((c.toNat : Int) == 41) = false := by simp; omega
  have q44 : ((c.toNat : Int) == 44) = false := by simp; omega
  have q46 : ((c.toNat : Int) == 46) = false := by simp; omega
  have q59 : ((c.toNat : Int) == 59) = false := by simp; omega
  have q43 : ((c.toNat : Int) == 43) = false := by simp; omega
  have q45 : ((c.toNat : Int) == 45) = false := by simp; omega
  have q42 : ((c.toNat : Int) == 42) = false := by simp; omega
  have q61 : ((c.toNat : Int) == 61) = true := by simp; omega
  have q60 : ((c.toNat : Int) == 60) = false := by simp; omega
  have q62 : ((c.toNat : Int) == 62) = false := by simp; omega
  clear hv
  go_enter Try.func18, Try.ntmps18
  go_wp2_with fail
  with_reducible refine (rletter_any c _).mono ?_
  rintro e w1 ⟨rfl, hw1⟩
  rw [HLt.out]
  have HOn : Hid (On w w1 at_) := by rw [← hw1]; exact On.new w at_
  clear hw1
  go_wp2_with fail
  with_reducible refine (rdigit_any c _).mono ?_
  rintro e w' ⟨rfl, rfl⟩
  rw [HDg.out]
  have I3 : (at_ : Int) + 1 ≤ (text.size : Int) := by omega
  have I4 : (at_ : Int) ≤ (at_ : Int) + 1 := by omega
  have T2 : ((at_ : Int) + 1).toNat = at_ + 1 := by omega
  obtain ⟨⟨a0, a1, a2⟩, ⟨b0, b1', b2'⟩, fa, fb⟩ := HOn.out.cells
  have fa0 := fa 0
  have fa1 := fa 1
  have fa2 := fa 2
  have fb0 := fb 0
  have fb1 := fb 1
  have fb2 := fb 2
  have la := HOn.out.2.1.lt
  have lb := HOn.out.2.2.lt
  clear fa fb
  go_wp2_with fail
  refine bodyPost_ret (v := .tuple #[.agg #[.int .u8 5, .string (text.extract at_ (at_ + 1)), .int .i64 (at_ : Int)], .int .i64 ((at_ : Int) + 1), .bool true]) (by simp [results, Try.results18, go_sem, a0, a1, a2]) rfl ?_
  exact TQ.yes rfl rfl (by rw [extract_eq _ _ _ (by omega), show at_ + 1 - at_ = 1 by omega]) (by omega) (HOn.out.five _ _ _ _ _)

set_option maxRecDepth 100000 in
set_option maxHeartbeats 6400000 in
theorem one_sign_60 (text : ByteArray) (at_ : Nat) (w : World) (hm : text.size ≤ 1099511627776) (hat : at_ < text.size) (c : UInt8) (hs : text[at_] = c) (hv : c.toNat = 60) (h62 : Lex.isAt text.data.toList (at_ + 1) 62 = false) (h61 : Lex.isAt text.data.toList (at_ + 1) 61 = false) :
    Calls Try.prog 18 #[.string text, .int .i64 (at_ : Int)] w (TQ w at_ (some (5, (text.data.toList.drop at_).take 1, 1))) := by
  have HL := hide (str_len text)
  have hcl := c.toNat_lt
  have HLt : Hid (Lex.letter c = false) := by show _ = _; simp [Lex.letter, hv]
  have HDg : Hid (Lex.digit c = false) := by show _ = _; simp [Lex.digit, hv]
  have q120 : ((c.toNat : Int) == 120) = false := by simp; omega
  have q39 : ((c.toNat : Int) == 39) = false := by simp; omega
  have q40 : ((c.toNat : Int) == 40) = false := by simp; omega
  have q41 : ((c.toNat : Int) == 41) = false := by simp; omega
  have q44 : ((c.toNat : Int) == 44) = false := by simp; omega
  have q46 : ((c.toNat : Int) == 46) = false := by simp; omega
  have q59 : ((c.toNat : Int) == 59) = false := by simp; omega
  have q43 : ((c.toNat : Int) == 43) = false := by simp; omega
  have q45 : ((c.toNat : Int) == 45) = false := by simp; omega
  have q42 : ((c.toNat : Int) == 42) = false := by simp; omega
  have q61 : ((c.toNat : Int) == 61) = false := by simp; omega
  have q60 : ((c.toNat : Int) == 60) = true := by simp; omega
  have q62 : ((c.toNat : Int) == 62) = false := by simp; omega
  have H62 := hide h62
  have H61 := hide h61
  clear hv h62 h61
  go_enter Try.func18, Try.ntmps18
  go_wp2_with fail
  with_reducible refine (rletter_any c _).mono ?_
  rintro e w1 ⟨rfl, hw1⟩
  rw [HLt.out]
  have HOn : Hid (On w w1 at_) := by rw [← hw1]; exact On.new w at_
  clear hw1
  go_wp2_with fail
  with_reducible refine (rdigit_any c _).mono ?_
  rintro e w' ⟨rfl, rfl⟩
  rw [HDg.out]
  go_wp2_with fail
  with_reducible refine (rat_any text _ (at_ + 1) _ (by omega)).mono ?_
  rintro e w' ⟨rfl, rfl⟩
  obtain ⟨x1, hx1⟩ : ∃ a, a = atB text.data.toList (at_ + 1) := ⟨_, rfl⟩
  have qx1 := at_is text.data.toList (at_ + 1) 62 (by decide) 62 rfl
  rw [← hx1, H62.out] at qx1
  rw [← hx1]
  clear hx1
  go_wp2_with fail
  with_reducible refine (rat_any text _ (at_ + 1) _ (by omega)).mono ?_
  rintro e w' ⟨rfl, rfl⟩
  obtain ⟨x2, hx2⟩ : ∃ a, a = atB text.data.toList (at_ + 1) := ⟨_, rfl⟩
  have qx2 := at_is text.data.toList (at_ + 1) 61 (by decide) 61 rfl
  rw [← hx2, H61.out] at qx2
  rw [← hx2]
  clear hx2
  have I3 : (at_ : Int) + 1 ≤ (text.size : Int) := by omega
  have I4 : (at_ : Int) ≤ (at_ : Int) + 1 := by omega
  have T2 : ((at_ : Int) + 1).toNat = at_ + 1 := by omega
  obtain ⟨⟨a0, a1, a2⟩, ⟨b0, b1', b2'⟩, fa, fb⟩ := HOn.out.cells
  have fa0 := fa 0
  have fa1 := fa 1
  have fa2 := fa 2
  have fb0 := fb 0
  have fb1 := fb 1
  have fb2 := fb 2
  have la := HOn.out.2.1.lt
  have lb := HOn.out.2.2.lt
  clear fa fb
  go_wp2_with fail
  refine bodyPost_ret (v := .tuple #[.agg #[.int .u8 5, .string (text.extract at_ (at_ + 1)), .int .i64 (at_ : Int)], .int .i64 ((at_ : Int) + 1), .bool true]) (by simp [results, Try.results18, go_sem, a0, a1, a2]) rfl ?_
  exact TQ.yes rfl rfl (by rw [extract_eq _ _ _ (by omega), show at_ + 1 - at_ = 1 by omega]) (by omega) (HOn.out.five _ _ _ _ _)

set_option maxRecDepth 100000 in
set_option maxHeartbeats 6400000 in
theorem one_sign_62 (text : ByteArray) (at_ : Nat) (w : World) (hm : text.size ≤ 1099511627776) (hat : at_ < text.size) (c : UInt8) (hs : text[at_] = c) (hv : c.toNat = 62) (h61 : Lex.isAt text.data.toList (at_ + 1) 61 = false) :
    Calls Try.prog 18 #[.string text, .int .i64 (at_ : Int)] w (TQ w at_ (some (5, (text.data.toList.drop at_).take 1, 1))) := by
  have HL := hide (str_len text)
  have hcl := c.toNat_lt
  have HLt : Hid (Lex.letter c = false) := by show _ = _; simp [Lex.letter, hv]
  have HDg : Hid (Lex.digit c = false) := by show _ = _; simp [Lex.digit, hv]
  have q120 : ((c.toNat : Int) == 120) = false := by simp; omega
  have q39 : ((c.toNat : Int) == 39) = false := by simp; omega
  have q40 : ((c.toNat : Int) == 40) = false := by simp; omega
  have q41 : ((c.toNat : Int) == 41) = false := by simp; omega
  have q44 : ((c.toNat : Int) == 44) = false := by simp; omega
  have q46 : ((c.toNat : Int) == 46) = false := by simp; omega
  have q59 : ((c.toNat : Int) == 59) = false := by simp; omega
  have q43 : ((c.toNat : Int) == 43) = false := by simp; omega
  have q45 : ((c.toNat : Int) == 45) = false := by simp; omega
  have q42 : ((c.toNat : Int) == 42) = false := by simp; omega
  have q61 : ((c.toNat : Int) == 61) = false := by simp; omega
  have q60 : ((c.toNat : Int) == 60) = false := by simp; omega
  have q62 : ((c.toNat : Int) == 62) = true := by simp; omega
  have H61 := hide h61
  clear hv h61
  go_enter Try.func18, Try.ntmps18
  go_wp2_with fail
  with_reducible refine (rletter_any c _).mono ?_
  rintro e w1 ⟨rfl, hw1⟩
  rw [HLt.out]
  have HOn : Hid (On w w1 at_) := by rw [← hw1]; exact On.new w at_
  clear hw1
  go_wp2_with fail
  with_reducible refine (rdigit_any c _).mono ?_
  rintro e w' ⟨rfl, rfl⟩
  rw [HDg.out]
  go_wp2_with fail
  with_reducible refine (rat_any text _ (at_ + 1) _ (by omega)).mono ?_
  rintro e w' ⟨rfl, rfl⟩
  obtain ⟨x2, hx2⟩ : ∃ a, a = atB text.data.toList (at_ + 1) := ⟨_, rfl⟩
  have qx2 := at_is text.data.toList (at_ + 1) 61 (by decide) 61 rfl
  rw [← hx2, H61.out] at qx2
  rw [← hx2]
  clear hx2
  have I3 : (at_ : Int) + 1 ≤ (text.size : Int) := by omega
  have I4 : (at_ : Int) ≤ (at_ : Int) + 1 := by omega
  have T2 : ((at_ : Int) + 1).toNat = at_ + 1 := by omega
  obtain ⟨⟨a0, a1, a2⟩, ⟨b0, b1', b2'⟩, fa, fb⟩ := HOn.out.cells
  have fa0 := fa 0
  have fa1 := fa 1
  have fa2 := fa 2
  have fb0 := fb 0
  have fb1 := fb 1
  have fb2 := fb 2
  have la := HOn.out.2.1.lt
  have lb := HOn.out.2.2.lt
  clear fa fb
  go_wp2_with fail
  refine bodyPost_ret (v := .tuple #[.agg #[.int .u8 5, .string (text.extract at_ (at_ + 1)), .int .i64 (at_ : Int)], .int .i64 ((at_ : Int) + 1), .bool true]) (by simp [results, Try.results18, go_sem, a0, a1, a2]) rfl ?_
  exact TQ.yes rfl rfl (by rw [extract_eq _ _ _ (by omega), show at_ + 1 - at_ = 1 by omega]) (by omega) (HOn.out.five _ _ _ _ _)

set_option maxRecDepth 100000 in
set_option maxHeartbeats 6400000 in
theorem one_sign_60_62 (text : ByteArray) (at_ : Nat) (w : World) (hm : text.size ≤ 1099511627776) (hat : at_ < text.size) (c : UInt8) (hs : text[at_] = c) (hv : c.toNat = 60) (h62 : Lex.isAt text.data.toList (at_ + 1) 62 = true) (hat1 : at_ + 1 < text.size) :
    Calls Try.prog 18 #[.string text, .int .i64 (at_ : Int)] w (TQ w at_ (some (5, (text.data.toList.drop at_).take 2, 2))) := by
  have HL := hide (str_len text)
  have hcl := c.toNat_lt
  have HLt : Hid (Lex.letter c = false) := by show _ = _; simp [Lex.letter, hv]
  have HDg : Hid (Lex.digit c = false) := by show _ = _; simp [Lex.digit, hv]
  have q120 : ((c.toNat : Int) == 120) = false := by simp; omega
  have q39 : ((c.toNat : Int) == 39) = false := by simp; omega
  have q40 : ((c.toNat : Int) == 40) = false := by simp; omega
  have q41 : ((c.toNat : Int) == 41) = false := by simp; omega
  have q44 : ((c.toNat : Int) == 44) = false := by simp; omega
  have q46 : ((c.toNat : Int) == 46) = false := by simp; omega
  have q59 : ((c.toNat : Int) == 59) = false := by simp; omega
  have q43 : ((c.toNat : Int) == 43) = false := by simp; omega
  have q45 : ((c.toNat : Int) == 45) = false := by simp; omega
  have q42 : ((c.toNat : Int) == 42) = false := by simp; omega
  have q61 : ((c.toNat : Int) == 61) = false := by simp; omega
  have q60 : ((c.toNat : Int) == 60) = true := by simp; omega
  have q62 : ((c.toNat : Int) == 62) = false := by simp; omega
  have H62 := hide h62
  clear hv h62
  go_enter Try.func18, Try.ntmps18
  go_wp2_with fail
  with_reducible refine (rletter_any c _).mono ?_
  rintro e w1 ⟨rfl, hw1⟩
  rw [HLt.out]
  have HOn : Hid (On w w1 at_) := by rw [← hw1]; exact On.new w at_
  clear hw1
  go_wp2_with fail
  with_reducible refine (rdigit_any c _).mono ?_
  rintro e w' ⟨rfl, rfl⟩
  rw [HDg.out]
  go_wp2_with fail
  with_reducible refine (rat_any text _ (at_ + 1) _ (by omega)).mono ?_
  rintro e w' ⟨rfl, rfl⟩
  obtain ⟨x1, hx1⟩ : ∃ a, a = atB text.data.toList (at_ + 1) := ⟨_, rfl⟩
  have qx1 := at_is text.data.toList (at_ + 1) 62 (by decide) 62 rfl
  rw [← hx1, H62.out] at qx1
  rw [← hx1]
  clear hx1
  have I3 : (at_ : Int) + 2 ≤ (text.size : Int) := by omega
  have I4 : (at_ : Int) ≤ (at_ : Int) + 2 := by omega
  have T2 : ((at_ : Int) + 2).toNat = at_ + 1 + 1 := by omega
  obtain ⟨⟨a0, a1, a2⟩, ⟨b0, b1', b2'⟩, fa, fb⟩ := HOn.out.cells
  have fa0 := fa 0
  have fa1 := fa 1
  have fa2 := fa 2
  have fb0 := fb 0
  have fb1 := fb 1
  have fb2 := fb 2
  have la := HOn.out.2.1.lt
  have lb := HOn.out.2.2.lt
  clear fa fb
  go_wp2_with fail
  refine bodyPost_ret (v := .tuple #[.agg #[.int .u8 5, .string (text.extract at_ (at_ + 1 + 1)), .int .i64 (at_ : Int)], .int .i64 ((at_ : Int) + 2), .bool true]) (by simp [results, Try.results18, go_sem, a0, a1, a2]) rfl ?_
  exact TQ.yes rfl rfl (by rw [extract_eq _ _ _ (by omega), show at_ + 1 + 1 - at_ = 2 by omega]) (by omega) (HOn.out.five _ _ _ _ _)

set_option maxRecDepth 100000 in
set_option maxHeartbeats 6400000 in
theorem one_sign_60_61 (text : ByteArray) (at_ : Nat) (w : World) (hm : text.size ≤ 1099511627776) (hat : at_ < text.size) (c : UInt8) (hs : text[at_] = c) (hv : c.toNat = 60) (h62 : Lex.isAt text.data.toList (at_ + 1) 62 = false) (h61 : Lex.isAt text.data.toList (at_ + 1) 61 = true) (hat1 : at_ + 1 < text.size) :
    Calls Try.prog 18 #[.string text, .int .i64 (at_ : Int)] w (TQ w at_ (some (5, (text.data.toList.drop at_).take 2, 2))) := by
  have HL := hide (str_len text)
  have hcl := c.toNat_lt
  have HLt : Hid (Lex.letter c = false) := by show _ = _; simp [Lex.letter, hv]
  have HDg : Hid (Lex.digit c = false) := by show _ = _; simp [Lex.digit, hv]
  have q120 : ((c.toNat : Int) == 120) = false := by simp; omega
  have q39 : ((c.toNat : Int) == 39) = false := by simp; omega
  have q40 : ((c.toNat : Int) == 40) = false := by simp; omega
  have q41 : ((c.toNat : Int) == 41) = false := by simp; omega
  have q44 : ((c.toNat : Int) == 44) = false := by simp; omega
  have q46 : ((c.toNat : Int) == 46) = false := by simp; omega
  have q59 : ((c.toNat : Int) == 59) = false := by simp; omega
  have q43 : ((c.toNat : Int) == 43) = false := by simp; omega
  have q45 : ((c.toNat : Int) == 45) = false := by simp; omega
  have q42 : ((c.toNat : Int) == 42) = false := by simp; omega
  have q61 : ((c.toNat : Int) == 61) = false := by simp; omega
  have q60 : ((c.toNat : Int) == 60) = true := by simp; omega
  have q62 : ((c.toNat : Int) == 62) = false := by simp; omega
  have H62 := hide h62
  have H61 := hide h61
  clear hv h62 h61
  go_enter Try.func18, Try.ntmps18
  go_wp2_with fail
  with_reducible refine (rletter_any c _).mono ?_
  rintro e w1 ⟨rfl, hw1⟩
  rw [HLt.out]
  have HOn : Hid (On w w1 at_) := by rw [← hw1]; exact On.new w at_
  clear hw1
  go_wp2_with fail
  with_reducible refine (rdigit_any c _).mono ?_
  rintro e w' ⟨rfl, rfl⟩
  rw [HDg.out]
  go_wp2_with fail
  with_reducible refine (rat_any text _ (at_ + 1) _ (by omega)).mono ?_
  rintro e w' ⟨rfl, rfl⟩
  obtain ⟨x1, hx1⟩ : ∃ a, a = atB text.data.toList (at_ + 1) := ⟨_, rfl⟩
  have qx1 := at_is text.data.toList (at_ + 1) 62 (by decide) 62 rfl
  rw [← hx1, H62.out] at qx1
  rw [← hx1]
  clear hx1
  go_wp2_with fail
  with_reducible refine (rat_any text _ (at_ + 1) _ (by omega)).mono ?_
  rintro e w' ⟨rfl, rfl⟩
  obtain ⟨x2, hx2⟩ : ∃ a, a = atB text.data.toList (at_ + 1) := ⟨_, rfl⟩
  have qx2 := at_is text.data.toList (at_ + 1) 61 (by decide) 61 rfl
  rw [← hx2, H61.out] at qx2
  rw [← hx2]
  clear hx2
  have I3 : (at_ : Int) + 2 ≤ (text.size : Int) := by omega
  have I4 : (at_ : Int) ≤ (at_ : Int) + 2 := by omega
  have T2 : ((at_ : Int) + 2).toNat = at_ + 1 + 1 := by omega
  obtain ⟨⟨a0, a1, a2⟩, ⟨b0, b1', b2'⟩, fa, fb⟩ := HOn.out.cells
  have fa0 := fa 0
  have fa1 := fa 1
  have fa2 := fa 2
  have fb0 := fb 0
  have fb1 := fb 1
  have fb2 := fb 2
  have la := HOn.out.2.1.lt
  have lb := HOn.out.2.2.lt
  clear fa fb
  go_wp2_with fail
  refine bodyPost_ret (v := .tuple #[.agg #[.int .u8 5, .string (text.extract at_ (at_ + 1 + 1)), .int .i64 (at_ : Int)], .int .i64 ((at_ : Int) + 2), .bool true]) (by simp [results, Try.results18, go_sem, a0, a1, a2]) rfl ?_
  exact TQ.yes rfl rfl (by rw [extract_eq _ _ _ (by omega), show at_ + 1 + 1 - at_ = 2 by omega]) (by omega) (HOn.out.five _ _ _ _ _)

set_option maxRecDepth 100000 in
set_option maxHeartbeats 6400000 in
theorem one_sign_62_61 (text : ByteArray) (at_ : Nat) (w : World) (hm : text.size ≤ 1099511627776) (hat : at_ < text.size) (c : UInt8) (hs : text[at_] = c) (hv : c.toNat = 62) (h61 : Lex.isAt text.data.toList (at_ + 1) 61 = true) (hat1 : at_ + 1 < text.size) :
    Calls Try.prog 18 #[.string text, .int .i64 (at_ : Int)] w (TQ w at_ (some (5, (text.data.toList.drop at_).take 2, 2))) := by
  have HL := hide (str_len text)
  have hcl := c.toNat_lt
  have HLt : Hid (Lex.letter c = false) := by show _ = _; simp [Lex.letter, hv]
  have HDg : Hid (Lex.digit c = false) := by show _ = _; simp [Lex.digit, hv]
  have q120 : ((c.toNat : Int) == 120) = false := by simp; omega
  have q39 : ((c.toNat : Int) == 39) = false := by simp; omega
  have q40 : ((c.toNat : Int) == 40) = false := by simp; omega
  have q41 : ((c.toNat : Int) == 41) = false := by simp; omega
  have q44 : ((c.toNat : Int) == 44) = false := by simp; omega
  have q46 : ((c.toNat : Int) == 46) = false := by simp; omega
  have q59 : ((c.toNat : Int) == 59) = false := by simp; omega
  have q43 : ((c.toNat : Int) == 43) = false := by simp; omega
  have q45 : ((c.toNat : Int) == 45) = false := by simp; omega
  have q42 : ((c.toNat : Int) == 42) = false := by simp; omega
  have q61 : ((c.toNat : Int) == 61) = false := by simp; omega
  have q60 : ((c.toNat : Int) == 60) = false := by simp; omega
  have q62 : ((c.toNat : Int) == 62) = true := by simp; omega
  have H61 := hide h61
  clear hv h61
  go_enter Try.func18, Try.ntmps18
  go_wp2_with fail
  with_reducible refine (rletter_any c _).mono ?_
  rintro e w1 ⟨rfl, hw1⟩
  rw [HLt.out]
  have HOn : Hid (On w w1 at_) := by rw [← hw1]; exact On.new w at_
  clear hw1
  go_wp2_with fail
  with_reducible refine (rdigit_any c _).mono ?_
  rintro e w' ⟨rfl, rfl⟩
  rw [HDg.out]
  go_wp2_with fail
  with_reducible refine (rat_any text _ (at_ + 1) _ (by omega)).mono ?_
  rintro e w' ⟨rfl, rfl⟩
  obtain ⟨x2, hx2⟩ : ∃ a, a = atB text.data.toList (at_ + 1) := ⟨_, rfl⟩
  have qx2 := at_is text.data.toList (at_ + 1) 61 (by decide) 61 rfl
  rw [← hx2, H61.out] at qx2
  rw [← hx2]
  clear hx2
  have I3 : (at_ : Int) + 2 ≤ (text.size : Int) := by omega
  have I4 : (at_ : Int) ≤ (at_ : Int) + 2 := by omega
  have T2 : ((at_ : Int) + 2).toNat = at_ + 1 + 1 := by omega
  obtain ⟨⟨a0, a1, a2⟩, ⟨b0, b1', b2'⟩, fa, fb⟩ := HOn.out.cells
  have fa0 := fa 0
  have fa1 := fa 1
  have fa2 := fa 2
  have fb0 := fb 0
  have fb1 := fb 1
  have fb2 := fb 2
  have la := HOn.out.2.1.lt
  have lb := HOn.out.2.2.lt
  clear fa fb
  go_wp2_with fail
  refine bodyPost_ret (v := .tuple #[.agg #[.int .u8 5, .string (text.extract at_ (at_ + 1 + 1)), .int .i64 (at_ : Int)], .int .i64 ((at_ : Int) + 2), .bool true]) (by simp [results, Try.results18, go_sem, a0, a1, a2]) rfl ?_
  exact TQ.yes rfl rfl (by rw [extract_eq _ _ _ (by omega), show at_ + 1 + 1 - at_ = 2 by omega]) (by omega) (HOn.out.five _ _ _ _ _)

set_option maxRecDepth 100000 in
set_option maxHeartbeats 6400000 in
theorem one_sign_no (text : ByteArray) (at_ : Nat) (w : World) (_hm : text.size ≤ 1099511627776) (hat : at_ < text.size) (c : UInt8) (hs : text[at_] = c) (hlet : Lex.letter c = false) (hdig : Lex.digit c = false) (h39 : c.toNat ≠ 39) (hno : c ∉ Lex.signs) :
    Calls Try.prog 18 #[.string text, .int .i64 (at_ : Int)] w (TQ w at_ (none)) := by
  have HL := hide (str_len text)
  have hcl := c.toNat_lt
  have h120 : c.toNat ≠ 120 := fun h => absurd hlet (by simp [Lex.letter, h])
  have hne : ∀ v : UInt8, v ∈ Lex.signs → ((c.toNat : Int) == (v.toNat : Int)) = false := by
    intro v hv
    rw [beq_eq_false_iff_ne]
    intro h
    exact hno ((UInt8.toNat_inj.1 (by omega) : c = v) ▸ hv)
  have HLt := hide hlet
  have HDg := hide hdig
  have q120 : ((c.toNat : Int) == 120) = false := by simp; omega
  have q39 : ((c.toNat : Int) == 39) = false := by simp; omega
  have q40 : ((c.toNat : Int) == 40) = false := hne 40 (by decide)
  have q41 : ((c.toNat : Int) == 41) = false := hne 41 (by decide)
  have q44 : ((c.toNat : Int) == 44) = false := hne 44 (by decide)
  have q46 : ((c.toNat : Int) == 46) = false := hne 46 (by decide)
  have q59 : ((c.toNat : Int) == 59) = false := hne 59 (by decide)
  have q43 : ((c.toNat : Int) == 43) = false := hne 43 (by decide)
  have q45 : ((c.toNat : Int) == 45) = false := hne 45 (by decide)
  have q42 : ((c.toNat : Int) == 42) = false := hne 42 (by decide)
  have q61 : ((c.toNat : Int) == 61) = false := hne 61 (by decide)
  have q60 : ((c.toNat : Int) == 60) = false := hne 60 (by decide)
  have q62 : ((c.toNat : Int) == 62) = false := hne 62 (by decide)
  clear hlet hdig h39 hno h120 hne
  go_enter Try.func18, Try.ntmps18
  go_wp2_with fail
  with_reducible refine (rletter_any c _).mono ?_
  rintro e w1 ⟨rfl, hw1⟩
  rw [HLt.out]
  have HOn : Hid (On w w1 at_) := by rw [← hw1]; exact On.new w at_
  clear hw1
  go_wp2_with fail
  with_reducible refine (rdigit_any c _).mono ?_
  rintro e w' ⟨rfl, rfl⟩
  rw [HDg.out]
  obtain ⟨⟨a0, a1, a2⟩, ⟨b0, b1', b2'⟩, fa, fb⟩ := HOn.out.cells
  have fa0 := fa 0
  have fa1 := fa 1
  have fa2 := fa 2
  have fb0 := fb 0
  have fb1 := fb 1
  have fb2 := fb 2
  have la := HOn.out.2.1.lt
  have lb := HOn.out.2.2.lt
  clear fa fb
  go_wp2_with fail
  refine bodyPost_ret (v := .tuple #[.agg #[.int .u8 0, .string ⟨#[]⟩, .int .i64 (at_ : Int)], .int .i64 0, .bool false]) (by simp [results, Try.results18, go_sem, a0, a1, a2]) rfl ?_
  exact TQ.no rfl (HOn.out.three _ _ _)
end Go.Proofs.Ytfoolkjamadfdaa
