/-
  The walk of WireBack: for every list of frames and every answer it is true. Conditions: at most 4000000 names and rows.
-/
import Derived.Test.YtnieenlnpnaamaaPutAll
import Derived.Test.YtnieenlnpnaamaaSameAns
import Derived.Test.YtnieenlnpnaamaaWireRead
import Derived.Test.YtnieenlnpnaamaaRefRd
namespace Go.Proofs.Ytnieenlnpnaamaa
open Go.RowKit

/-- A row of frames of the call's own, whose bodies are somebody else's. -/
def FrMix (w : World) (B lo : Nat) (v : Value) (fs : List Fr) : Prop :=
  ∃ bs : List Value, bs.length = fs.length ∧ w.ownsRow lo 42 2 v fs.length (frCells fs bs) ∧
    ∀ (i : Nat) (f : Fr) (b : Value), fs[i]? = some f → bs[i]? = some b → ∃ Ab cb, b = .slice Ab f.2.length cb ∧ Rb w B Ab f.2.length f.2 ∧ f.2.length ≤ 140737488355328 ∧ f.2.length ≤ cb ∧ cb ≤ 9223372036854775807
theorem FrMix.nil (w : World) (B lo : Nat) : FrMix w B lo (.slice none 0 0) [] := ⟨[], rfl, own_nil _ _ _ _, by simp⟩
theorem FrMix.form {w : World} {B lo : Nat} {v : Value} {fs : List Fr} (h : FrMix w B lo v fs) : ∃ A c, v = .slice A fs.length c := by
  obtain ⟨bs, h1, h2, _⟩ := h
  exact own_sl h2
theorem FrMix.rd {w : World} {B lo n c : Nat} {A : Option Addr} {fs : List Fr} (h : FrMix w B lo (.slice A n c) fs) (hn : n = fs.length) (hB : B ≤ w.heap.size) : FrRd w w.heap.size A n fs := by
  subst hn
  obtain ⟨bs, h1, h2, h3⟩ := h
  exact ⟨rfl, bs, h1, Rd.own h2, fun i f b hf hb => by obtain ⟨Ab, cb, e, hr, hm⟩ := h3 i f b hf hb; exact ⟨Ab, cb, e, hr.more hB, hm⟩⟩
theorem FrMix.below {w w' : World} {B lo : Nat} {v : Value} {fs : List Fr} (h : FrMix w B lo v fs) (hb : Below w.heap.size w w') (hB : B ≤ w.heap.size) : FrMix w' B lo v fs := by
  obtain ⟨bs, h1, h2, h3⟩ := h
  exact ⟨bs, h1, own_below h2 hb, fun i f b hf hb' => by obtain ⟨Ab, cb, e, hr, hm⟩ := h3 i f b hf hb'; exact ⟨Ab, cb, e, hr.below hb hB, hm⟩⟩
/-- It stays while a row of another type grows. -/
theorem FrMix.kept {w w' : World} {B lo lo2 size n : Nat} {e : TypeId} {v v2 : Value} {xs : List Value} {fs : List Fr} (h : FrMix w B lo v fs) (hg : w.grownBy w' v2.ownBlock) (h2 : w.ownsRow lo2 e size v2 n xs) (hne : 42 ≠ e) (hb : Below lo2 w w') (hB : B ≤ lo2) : FrMix w' B lo v fs := by
  obtain ⟨bs, h1, h3, h4⟩ := h
  exact ⟨bs, h1, h3.kept hg (own_own_ne h3 h2 hne), fun i f b hf hb' => by obtain ⟨Ab, cb, e, hr, hm⟩ := h4 i f b hf hb'; exact ⟨Ab, cb, e, hr.below hb hB, hm⟩⟩
/-- 'want = append(want, l[i])'. -/
theorem wpList_appM {ops : Array Oper} {rest : List Oper} {o : Oper} {a : Act} {Q : Exit → Act → World → Prop} {w0 : World} {cs : Array Value} {mk : Nat × Nat} (hgd : o.guard = none) (s x : Operand)
    (ho : o.op = .call { callee := .builtin .append, args := #[s, x], argTypes := #[26, 26] })
    (B lo : Nat) (v : Value) (fs : List Fr) (hs : a.eval s = v) (hF : FrMix w0 B lo v fs)
    (c : Nat) (f : Fr) (A : Option Addr) (cb : Nat) (hbody : Rb w0 B A f.2.length f.2) (hb1 : f.2.length ≤ 140737488355328) (hb2 : f.2.length ≤ cb) (hb3 : cb ≤ 9223372036854775807) (hx : a.eval x = .slice (some ⟨w0.heap.size, 0, none⟩) 1 c) (hcs : cs = #[.int .u8 (f.1.toNat : Int), .slice A f.2.length cb]) (hm : (fs.length + 1) * 32 ≤ 140737488355328) (hlo : lo ≤ w0.heap.size) (hB : B ≤ lo)
    (h : ∀ v' w', FrMix w' B lo v' (fs ++ [f]) → Below lo w0 w' → (∀ (base : Nat) (e : TypeId) (size : Nat) (v2 : Value) (n : Nat) (xs : List Value), w0.ownsRow base e size v2 n xs → e ≠ 42 → w'.ownsRow base e size v2 n xs) → wpList Try.prog ops Q rest (a.put o.dst v') w') : wpList Try.prog ops Q (o :: rest) a (w0.alloc (.cells cs 42 mk)) := by
  subst hcs
  obtain ⟨iF, hiF, hzF0, hzF1, hzF2⟩ := info_parts infoF
  obtain ⟨bs, hbl, hrow, hbod⟩ := hF
  have hr : Rd (w0.alloc (.cells #[Value.int .u8 (f.1.toNat : Int), .slice A f.2.length cb] 42 mk)) (w0.heap.size + 1) 2 (some ⟨w0.heap.size, 0, none⟩) 1 [Value.int .u8 (f.1.toNat : Int), .slice A f.2.length cb] := by
    have := Rd.lit w0 42 [Value.int .u8 (f.1.toNat : Int), .slice A f.2.length cb] mk
    refine ⟨rfl, fun _ => ?_⟩
    exact this.2 (by show 0 < 2; omega)
  refine wpList_append_rd (w0.alloc _) hgd s x _ ho lo 42 iF _ 2 32 Try.underlying26 hiF hzF0 hzF1 hzF2 rfl (by omega) v fs.length (frCells fs bs) hs (hrow.alloc _) _ _ 1 c _ hx hr ?_ (by unfold maxLen; omega) hm (by simp; omega) ?_
  · intro u hu
    simp at hu
    rcases hu with rfl | rfl <;> rfl
  · intro v3 w3 hown3 hb3' hg3
    have hbel : Below lo w0 w3 := ((Below.refl _ _).alloc hlo _).trans hb3'
    refine h v3 w3 ⟨bs ++ [.slice A f.2.length cb], by simp [hbl], by rw [frCells_append fs bs f _ hbl, List.length_append]; exact hown3, fun i f' b' hf hb => ?_⟩ hbel (fun base e size v2 n xs hh hne => (hh.alloc (.cells #[Value.int .u8 (f.1.toNat : Int), .slice A f.2.length cb] 42 mk)).kept hg3 (own_own_ne (hh.alloc (.cells #[Value.int .u8 (f.1.toNat : Int), .slice A f.2.length cb] 42 mk)) (hrow.alloc (.cells #[Value.int .u8 (f.1.toNat : Int), .slice A f.2.length cb] 42 mk)) hne))
    by_cases hi : i < fs.length
    · rw [List.getElem?_append_left hi] at hf
      rw [List.getElem?_append_left (by omega)] at hb
      obtain ⟨Ab, cb', e, hr', hm'⟩ := hbod i f' b' hf hb
      exact ⟨Ab, cb', e, hr'.below hbel hB, hm'⟩
    · have hi' : i = fs.length := by
        rcases Nat.lt_or_ge i (fs ++ [f]).length with h | h
        · simp at h; omega
        · rw [List.getElem?_eq_none h] at hf; cases hf
      subst hi'
      have e1 : (fs ++ [f])[fs.length]? = some f := by simp
      have e2 : (bs ++ [Value.slice A f.2.length cb])[fs.length]? = some (.slice A f.2.length cb) := by rw [← hbl]; simp
      rw [e1] at hf
      rw [e2] at hb
      injection hf with hf
      injection hb with hb
      subst hf hb
      exact ⟨A, cb, rfl, hbody.below hbel hB, hb1, hb2, hb3⟩
theorem putR_zero {k : UInt8} {l : List UInt8} (h : (Wire.putR k l).1 = 0) : Wire.putR k l = (0, Wire.put k l) ∧ Wire.kindOk k = true ∧ l.length ≤ 8191 := by
  unfold Wire.putR at h ⊢
  by_cases hk : Wire.kindOk k = false
  · rw [if_pos hk] at h; cases h
  · rw [if_neg hk] at h ⊢
    by_cases hn : 8191 < l.length
    · rw [if_pos hn] at h; cases h
    · rw [if_neg hn]
      exact ⟨rfl, by simpa using hk, by omega⟩
theorem bytesOf_len : ∀ fs : List Fr, (∀ f ∈ fs, Wire.kindOk f.1 = true ∧ f.2.length ≤ 8191) → (Wire.bytesOf fs).length ≤ 8196 * fs.length := by
  intro fs
  induction fs with
  | nil => intro _; simp [Wire.bytesOf]
  | cons f fs ih =>
    intro h
    have h1 := ih fun f' h' => h f' (List.mem_cons_of_mem _ h')
    have h2 := (h f List.mem_cons_self).2
    have h3 := Wire.put_len f.1 f.2
    have h4 : Wire.bytesOf (f :: fs) = Wire.put f.1 f.2 ++ Wire.bytesOf fs := rfl
    rw [h4, List.length_append, List.length_cons]
    omega

set_option linter.unusedVariables false in
set_option maxRecDepth 100000 in
set_option maxHeartbeats 1600000 in
theorem back_walk (A : Option Addr) (n c : Nat) (l : List Fr) (An : Option Addr) (nn cn : Nat) (ns : List ByteArray) (Ar : Option Addr) (nr cr : Nat) (rs : List (List Cell.Val)) (cnt : Int) (w : World)
    (hl : FrRd w w.heap.size A n l) (hlc : n ≤ c) (hcm : c ≤ maxLen) (hnb : n ≤ 1048576) (hcap : CapOk w A n) (hn : Rt w w.heap.size An nn ns) (hr : Rrs w w.heap.size Ar nr rs) (hnn : nn ≤ 1048576) (hnr : nr ≤ 1048576) (hok : ∀ r ∈ rs, VOk r) (hc1 : -9223372036854775808 ≤ cnt) (hc2 : cnt ≤ 9223372036854775807) :
    Calls Try.prog 7 #[.slice A n c, .agg #[.slice An nn cn, .slice Ar nr cr, .int .i64 cnt]] w fun e w' => e = .returned (.bool true) ∧ Below w.heap.size w w' := by
  unfold maxLen at hcm
  have HL := hide hl
  have HN := hide hn
  have HR := hide hr
  have HOk := hide hok
  clear hl hn hr hok hcap hc1 hc2
  obtain ⟨w1, hw1⟩ : ∃ w1, w1 = w.alloc (.cells #[.slice An nn cn, .slice Ar nr cr, .int .i64 cnt] 50) := ⟨_, rfl⟩
  have HK1 : Hid (Blk w1 w.heap.size 50 #[.slice An nn cn, .slice Ar nr cr, .int .i64 cnt]) := by rw [hw1]; exact Blk.new _ _ _
  have HB1 : Hid (Below w.heap.size w w1) := by rw [hw1]; exact (Below.refl _ _).alloc (Nat.le_refl _) _
  have hs1 : w.heap.size < w1.heap.size := by rw [hw1]; simp
  go_enter Try.func7, Try.ntmps7
  go_upto_region 1 with fail
  rw [← hw1]
  clear hw1
  go_wp2_with fail
  go_loopg [5, 6, 7] 50 (fun gg vb vw i wr => ∃ (k : Nat) (fs : List Fr), k ≤ n ∧ k ≤ 50 ∧ gg = 50 - k ∧ i = .int .i64 (k : Nat) ∧ fs.length ≤ k ∧ (∀ f ∈ fs, Wire.kindOk f.1 = true ∧ f.2.length ≤ 8191) ∧ wr.ownsRow w1.heap.size 5 1 vb (Wire.bytesOf fs).length ((Wire.bytesOf fs).map B8) ∧ FrMix wr w.heap.size w1.heap.size vw fs ∧ Below w1.heap.size w1 wr)
  case atStart => exact ⟨0, [], Nat.zero_le _, Nat.zero_le _, rfl, rfl, by simp, by simp, own_nil _ _ _ _, FrMix.nil _ _ _, Below.refl _ _⟩
  case round =>
    obtain ⟨k, fs, hk, hk2, rfl, rfl, hfl, hfk, hown, hmix, hbel⟩ := hrel
    obtain ⟨w3, hw3⟩ : ∃ w3, w3 = wr := ⟨_, rfl⟩
    subst hw3
    have HFk := hide hfk
    have HO := hide hown
    have HM := hide hmix
    have HB := hide hbel
    have hsz := hbel.size
    have HBw := hide (HB1.out.trans (hbel.mono (Nat.le_of_lt hs1)))
    have HK3 := hide (HK1.out.below hbel hs1)
    clear hfk hown hmix hbel
    have hbl : (Wire.bytesOf fs).length ≤ 8196 * 50 := by have := bytesOf_len fs HFk.out; omega
    obtain ⟨Avb, cvb, rfl⟩ := own_sl HO.out
    obtain ⟨Avw, cvw, rfl⟩ := HM.out.form
    by_cases hgo : k < n ∧ k < 50
    · obtain ⟨hg1, hg2⟩ := hgo
      obtain ⟨g, off, f, Af, cf, rfl, hg, hf, d0, d1, hfr, hfm, hfc, hfx⟩ := (HL.out.below HBw.out (Nat.le_refl _)).atC hg1
      have HF := hide hf
      have HFr := hide hfr
      clear hf hfr
      go_wp2_with fail
      with_reducible refine (put_any f.1 Af f.2.length cf f.2 _ (by exact HFr.out.more (by omega)) hfm).mono ?_
      intro e w4 hpost
      by_cases hz : (Wire.putR f.1 f.2).1 = 0
      · obtain ⟨hp, hkk, hll⟩ := putR_zero hz
        obtain ⟨A4, c4, rfl, hown4, hb4, _, _⟩ := hpost.ok0 hp
        have HO4 := hide hown4
        have HB4 := hide (HB.out.trans (hb4.mono hsz))
        have HBw4 := hide (HBw.out.trans (hb4.mono (by omega)))
        have HOb := hide (own_below HO.out hb4)
        have HM4 := hide (HM.out.below hb4 (by omega))
        have HFr4 := hide (HFr.out.below hb4 (by omega))
        have hs4 := hb4.size
        have d0' : w4.cell? ⟨g, off + k * 2, none⟩ = some (.int .u8 (f.1.toNat : Int)) := (hb4.cell (p := ⟨g, off + k * 2, none⟩) (by show g < w3.heap.size; omega)).trans d0
        have d1' : w4.cell? ⟨g, off + k * 2 + 1, none⟩ = some (.slice Af f.2.length cf) := (hb4.cell (p := ⟨g, off + k * 2 + 1, none⟩) (by show g < w3.heap.size; omega)).trans d1
        have hpl := Wire.put_len f.1 f.2
        obtain ⟨pl, hpl'⟩ : ∃ pl, pl = (Wire.put f.1 f.2).length := ⟨_, rfl⟩
        rw [← hpl'] at HO4 hpl ⊢
        have HPL := hide hpl'
        have hple : pl ≤ 8196 := by omega
        clear hpost hz hp hown4 hb4 d0 d1 hpl' hpl
        obtain ⟨bl, hbl'⟩ : ∃ bl, bl = (Wire.bytesOf fs).length := ⟨_, rfl⟩
        rw [← hbl'] at HOb hbl ⊢
        have HBL := hide hbl'
        clear hbl'
        go_wp2_with (first | (at_builtin; refine wpList_app _ bt rfl (.tmp 37) (.tmp 38) rfl w1.heap.size _ bl (Wire.bytesOf fs) rfl HOb.out _ A4 pl c4 (Wire.put f.1 f.2) rfl (Rb.own HO4.out) (by omega) (by omega) ?_; intro v5 w5 hown5 hb5 hg5; have HO5 := hide hown5; have HB5 := hide hb5; have HM5 := hide (HM4.out.kept hg5 HOb.out (by decide) hb5 (Nat.le_of_lt hs1)); have HFr5 := hide (HFr4.out.below hb5 (Nat.le_of_lt hs1)); have hs5 := hb5.size; have e0 : w5.cell? ⟨g, off + k * 2, none⟩ = some (.int .u8 (f.1.toNat : Int)) := (hb5.cell (p := ⟨g, off + k * 2, none⟩) (by show g < w1.heap.size; omega)).trans d0'; have e1 : w5.cell? ⟨g, off + k * 2 + 1, none⟩ = some (.slice Af f.2.length cf) := (hb5.cell (p := ⟨g, off + k * 2 + 1, none⟩) (by show g < w1.heap.size; omega)).trans d1'; clear hown5 hb5 hg5 d0' d1') | (at_builtin; refine wpList_appM rfl (.tmp 40) (.tmp 45) rfl w.heap.size w1.heap.size _ fs rfl HM5.out 1 f Af cf HFr5.out hfm hfc hfx rfl rfl (by omega) (by omega) (Nat.le_of_lt hs1) ?_; intro v6 w6 hm6 hb6 hkeep6; have HM6 := hide hm6; have HB6 := hide hb6; have HO6 := hide (hkeep6 _ _ _ _ _ _ HO5.out (by decide)); clear hm6 hb6 hkeep6))
        go_roundg (50 - (k + 1))
        case measure => omega
        case rel => exact ⟨k + 1, fs ++ [f], by omega, by omega, rfl, by go_num, by simp; omega, fun f' hf' => by
          rcases List.mem_append.1 hf' with hf' | hf'
          · exact HFk.out f' hf'
          · have : f' = f := by simpa using hf'
            rw [this]
            exact ⟨hkk, hll⟩, by rw [Wire.bytesOf_snoc, List.length_append, ← HPL.out, ← HBL.out]; exact HO6.out, HM6.out, (HB4.out.trans HB5.out).trans HB6.out⟩
      · obtain ⟨A4, c4, rfl, hown4, hb4, _, _⟩ := hpost.is (n := (Wire.putR f.1 f.2).1) (l := (Wire.putR f.1 f.2).2) rfl
        obtain ⟨en, hen⟩ : ∃ en, en = (Wire.putR f.1 f.2).1 := ⟨_, rfl⟩
        rw [← hen] at hz ⊢
        have t1 : ((en : Int) == 0) = false := by simp; omega
        have HB4 := hide (HB.out.trans (hb4.mono hsz))
        have HOb := hide (own_below HO.out hb4)
        have HM4 := hide (HM.out.below hb4 (by omega))
        clear hpost hz hen hown4 hb4
        go_wp2_with fail
        go_roundg (50 - (k + 1))
        case measure => omega
        case rel => exact ⟨k + 1, fs, by omega, by omega, rfl, by go_num, by omega, HFk.out, HOb.out, HM4.out, HB4.out⟩
    · go_wp2_with fail
      all_goals
        with_reducible refine (new_any _).mono ?_
        intro e w4 hpost
        obtain ⟨rfl, hw4⟩ := hpost
        have HR4 : Hid (Rdr w4 w3.heap.size w4.heap.size (.slice none 0 0) [] false) := ⟨by rw [hw4]; exact Blk.new _ _ _, own_nil _ _ _ _⟩
        have hb4 : Below w3.heap.size w3 w4 := by rw [hw4]; exact (Below.refl _ _).alloc (Nat.le_refl _) _
        have hs4 : w3.heap.size < w4.heap.size := by rw [hw4]; simp
        have HO4 := hide (own_below HO.out hb4)
        have HM4 := hide (HM.out.below hb4 (by omega))
        have HB4 := hide (HBw.out.trans (hb4.mono (by omega)))
        have HK4 := hide (HK3.out.below hb4 (by omega))
        have hb34 := hide hb4
        clear hb4 hw4
        have hcut := Wire.cut_bytesOf fs HFk.out
        obtain ⟨T, hT⟩ : ∃ T, T = Wire.bytesOf fs := ⟨_, rfl⟩
        rw [← hT] at hcut HO4 hbl ⊢
        have HCut := hide hcut
        clear hcut hT
        obtain ⟨tl, htl⟩ : ∃ tl, tl = T.length := ⟨_, rfl⟩
        rw [← htl] at HO4 hbl ⊢
        clear htl
        go_wp2_with fail
        with_reducible refine (feed_ok w3.heap.size w4.heap.size (.slice none 0 0) [] Avb tl cvb T _ HR4.out (by exact Rb.own HO4.out) (by simp; omega) (by omega)).mono ?_
        rintro e w5 ⟨vo, v5, m5, rfl, hm5, hfr5, hr5, ht5⟩
        rw [List.nil_append, HCut.out] at hfr5 hr5 ⊢
        obtain ⟨Ao, co, rfl⟩ := hfr5.form
        have hb5 : Below w3.heap.size w4 w5 := ht5.ge (by omega) (by omega) HR4.out.2 (by omega)
        have HB5 := hide (HB4.out.trans (hb5.mono (by omega)))
        have HK5 := hide (HK4.out.below hb5 (by omega))
        have HF5 := hide hfr5
        have HR5 := hide hr5
        have hb35 : Below w3.heap.size w3 w5 := by
          refine Below.trans ?_ hb5
          exact hb34.out
        have HM5 := hide (HM.out.below hb35 (by omega))
        have hs5 := hb5.size
        clear hfr5 hr5 ht5 hb5 hb35 HM4 HO4 HM HO
        go_wp2_with fail
        with_reducible refine (left_ok w3.heap.size m5 v5 [] false _ HR5.out).mono ?_
        rintro e w6 ⟨rfl, rfl⟩
        go_wp2_with fail
        with_reducible refine (sameFrames_any Ao Avw fs.length co fs.length cvw fs fs _ w5.heap.size w5.heap.size (by exact HF5.out.rd rfl (fun f hf => by have := (HFk.out f hf).2; omega)) (by exact HM5.out.rd rfl (by omega)) (by omega)).mono ?_
        rintro e w6' ⟨rfl, q6, hq6⟩
        rw [show decide (fs = fs) = true by simp]
        obtain ⟨w6, hw6⟩ : ∃ w6, w6 = w6' := ⟨_, rfl⟩
        subst hw6
        have HB6 := hide (Below.drewE HB5.out hq6)
        have HK6 := hide (HK5.out.drewE hq6)
        have hsz6 := HB6.out.size
        have hl6 := HK6.out.lt
        clear hq6 HF5 HR5 HM5 HB5 HK5 HR4
        have a0 := HK6.out.cell 0
        have a1 := HK6.out.cell 1
        have a2 := HK6.out.cell 2
        simp at a0 a1 a2
        go_wp2_with fail
        with_reducible refine (wireAnswer_any An nn cn ns Ar nr cr rs cnt _ (by exact (HN.out.below HB6.out (Nat.le_refl _)).more hsz6) (by exact (HR.out.below HB6.out (Nat.le_refl _)).more hsz6) (by omega) (by omega)).mono ?_
        rintro e w7 ⟨v7, rfl, hf7, hb7⟩
        have HB7 := hide (HB6.out.trans (hb7.mono hsz6))
        have HK7 := hide (HK6.out.below hb7 hl6)
        have hs7 := hb7.size
        obtain ⟨en, fl, hX⟩ : ∃ en fl, (en, fl) = Wire.answer ⟨ns, rs, cnt⟩ := ⟨_, _, rfl⟩
        have hXe := Wire.answer_err ⟨ns, rs, cnt⟩
        rw [← hX] at hf7 hXe ⊢
        simp only at hf7 hXe ⊢
        obtain ⟨A7, c7, rfl⟩ := hf7.form
        have HF7 := hide hf7
        have HX := hide hX.symm
        clear a0 a1 a2 hf7 hX hb7 HB6 HK6
        by_cases hen : en = 0
        · subst hen
          obtain ⟨hbl2, hbm⟩ := answer_sizes HX.out
          have hnr' : rs.length ≤ 1048576 := by rw [HR.out.1]; exact hnr
          have hfl0 : fl.length ≤ 4000000 := by omega
          have HBm := hide hbm
          clear hbl2 hbm hXe
          obtain ⟨m8, hm8, hm8'⟩ : ∃ m, m ≤ c7 ∧ c7 ≤ 9223372036854775807 ∧ m = fl.length := by
            obtain ⟨bs, _, hr2, _⟩ := HF7.out
            obtain ⟨A', c', hv, _, g1, g2⟩ := own_form hr2
            injection hv with _ _ e3
            subst e3
            exact ⟨fl.length, g1, by unfold maxLen at g2; omega, rfl⟩
          have hcc7 : fl.length ≤ c7 := by omega
          clear hm8
          obtain ⟨hm8', _⟩ := hm8'
          go_wp2_with fail
          with_reducible refine (wireRead_any A7 fl.length c7 fl _ (by exact HF7.out.rd rfl (fun f hf => Nat.le_trans (HBm.out f hf) (by decide))) hcc7 hm8' hfl0).mono ?_
          rintro e w8 ⟨An8, cn8, ns8, Ar8, cr8, rs8, cnt8, en8, rfl, hn8, hr8, hb8, halt⟩
          have hsays : Wire.Says ⟨ns, rs, cnt⟩ fl := ⟨fun r hr v hv => (HOk.out r hr v hv).2, HX.out⟩
          rcases halt with ⟨hs8, rfl⟩ | ⟨hno, _⟩
          · have heq := hs8.rc.symm.trans hsays.rc
            injection heq with e1 e2 e3
            subst e1 e2 e3
            have hl1 := HN.out.len
            have hl2 := HR.out.1
            rw [hl1] at hn8 ⊢
            rw [hl2] at hr8 ⊢
            have HB8 := hide (HB7.out.trans (hb8.mono (by omega)))
            have HK8 := hide (HK7.out.below hb8 (by omega))
            have HN8 := hide hn8
            have HR8 := hide hr8
            have hs8' := hb8.size
            have HN0 := hide (HN.out.below HB8.out (Nat.le_refl _))
            have HR0 := hide (HR.out.below HB8.out (Nat.le_refl _))
            clear hl1 hl2 hn8 hr8 hb8 hs8 hsays
            go_upto_region 18 with fail
            obtain ⟨w9, hw9⟩ : ∃ w9, w9 = w8.alloc (.cells #[.slice An8 nn cn8, .slice Ar8 nr cr8, .int .i64 cnt8] 50) := ⟨_, rfl⟩
            have hb9 : Below w8.heap.size w8 w9 := by rw [hw9]; exact (Below.refl _ _).alloc (Nat.le_refl _) _
            have HC9 : Hid (Blk w9 w8.heap.size 50 #[.slice An8 nn cn8, .slice Ar8 nr cr8, .int .i64 cnt8]) := by rw [hw9]; exact Blk.new _ _ _
            rw [← hw9]
            clear hw9
            have HK9 := hide (HK8.out.below hb9 (by omega))
            have HB9 := hide (HB8.out.trans (hb9.mono (by omega)))
            have HN9 := hide ((HN8.out.below hb9 (Nat.le_refl _)).more hb9.size)
            have HR9 := hide ((HR8.out.below hb9 (Nat.le_refl _)).more hb9.size)
            have HM9 := hide ((HN0.out.below hb9 (by omega)).more (show w.heap.size ≤ w9.heap.size by have := hb9.size; omega))
            have HQ9 := hide ((HR0.out.below hb9 (by omega)).more (show w.heap.size ≤ w9.heap.size by have := hb9.size; omega))
            have hs9 := hb9.size
            have a0 := HK9.out.cell 0
            have a1 := HK9.out.cell 1
            have a2 := HK9.out.cell 2
            have b0 := HC9.out.cell 0
            have b1 := HC9.out.cell 1
            have b2 := HC9.out.cell 2
            simp at a0 a1 a2 b0 b1 b2
            clear hb9
            go_wp2_with fail
            with_reducible refine (sameAnswer_yes An nn cn _ Ar nr cr _ An8 cn8 Ar8 cr8 cnt8 _ HM9.out HQ9.out HN9.out HR9.out (by omega) (by omega)).mono ?_
            rintro e w10 ⟨rfl, hb10⟩
            have HB10 := hide (HB9.out.trans (hb10.mono (by omega)))
            have hs10 := hb10.size
            clear hb10 a0 a1 a2 b0 b1 b2
            go_wp2_with fail
            with_reducible refine (awake_any _).mono ?_
            rintro e w11 ⟨rfl, hb11⟩
            have HB11 := hide (HB10.out.trans (hb11.mono (by omega)))
            clear hb11
            go_wp2_with fail
            go_ret
            exact ⟨rfl, HB11.out⟩
          · exact absurd hsays (hno _)
        · have hfl := hXe hen
          subst hfl
          have t2 : ((en : Int) != 0) = true := by simp; omega
          clear hen hXe
          go_wp2_with fail
          with_reducible refine (awake_any _).mono ?_
          rintro e w9 ⟨rfl, hb9⟩
          have HB9 := hide (HB7.out.trans (hb9.mono (by omega)))
          clear hb9
          go_wp2_with fail
          go_ret
          exact ⟨rfl, HB9.out⟩
end Go.Proofs.Ytnieenlnpnaamaa
