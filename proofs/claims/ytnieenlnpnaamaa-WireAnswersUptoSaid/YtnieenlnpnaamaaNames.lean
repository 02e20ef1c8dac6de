/-
  The walks of wire.namesOf and of its inner function: it is Wire.namesOf. Conditions: the bytes read as a list.
-/
import Derived.Test.YtnieenlnpnaamaaAns
import Derived.Test.YtnieenlnpnaamaaFeedsMem
import Derived.BigQuiet
namespace Go.Proofs.Ytnieenlnpnaamaa
open Go.RowKit

/-- What is left of the bytes. -/
def NS (w : World) (Bb B : Nat) (rest : List UInt8) : Prop :=
  ∃ A c, Blk w Bb 22 #[.slice A rest.length c] ∧ Rb w B A rest.length rest ∧ rest.length ≤ c ∧ c ≤ 9223372036854775807 ∧ B ≤ Bb
def NTake (w : World) (Bb B : Nat) (rest : List UInt8) (k : Nat) (e : Ending) (w' : World) : Prop :=
  ∃ A c, e = .returned (.tuple #[.slice A k c, .bool true]) ∧ k ≤ c ∧ c ≤ 9223372036854775807 ∧ Rb w' B A k (rest.take k) ∧ NS w' Bb B (rest.drop k) ∧ Out Bb (Bb + 1) w w'
theorem Out.self (w : World) (B i : Nat) (u : Value) : Out B (B + 1) w (w.setCell ⟨B, i, none⟩ u) := (Out.refl _ _ _).put (p := ⟨B, i, none⟩) (Nat.le_refl B) (Nat.lt_succ_self B) u
set_option maxHeartbeats 800000 in
theorem ntake_ok (k : Nat) (Bb B : Nat) (rest : List UInt8) (w : World) (hst : NS w Bb B rest) (hk : k ≤ rest.length) :
    Calls Try.prog 52 #[.int .i64 (k : Int), .pointer (some ⟨Bb, 0, none⟩)] w (NTake w Bb B rest k) := by
  obtain ⟨A, c, h1, h3, h4, h5, h6⟩ := hst
  have H1 := hide h1
  have H3 := hide h3
  have hc1 : w.cell? ⟨Bb, 0, none⟩ = some (.slice A rest.length c) := h1.cell 0
  have hf1 := h1.frozen 0
  have hl1 := h1.lt
  have kI : ¬ ((rest.length : Int) < (k : Int)) := by omega
  have tI : decide ((rest.length : Int) < (k : Int)) = false := decide_eq_false kI
  have kJ : (k : Int) ≤ (rest.length : Int) := by omega
  have kK : (rest.length : Int) ≤ (c : Int) := by omega
  have HR := hide (h3.take hk)
  have HC := hide (h3.cut hk h4)
  have HL : Hid ((rest.drop k).length = rest.length - k) := List.length_drop
  clear h1 h3
  by_cases hck : c = k
  · subst hck
    have hC := HC.out
    rw [if_pos rfl] at hC
    have HC2 := hide hC
    clear hC HC
    go_enter Try.func52, Try.ntmps52
    go_wp2_with fail
    go_ret2
    refine ⟨A, c, rfl, Nat.le_refl _, h5, HR.out.below ((Below.refl B w).setCell h6 _) (Nat.le_refl _), ⟨A, 0, ?_, ?_, by rw [HL.out]; omega, by omega, h6⟩, Out.self _ _ _ _⟩
    · rw [HL.out, show rest.length - c = 0 by omega]
      have := H1.out.put 0 (.slice A 0 0)
      simpa using this
    · rw [HL.out]
      exact HC2.out.below ((Below.refl B w).setCell h6 _) (Nat.le_refl _)
  · have hC := HC.out
    rw [if_neg hck] at hC
    have HC2 := hide hC
    clear hC HC
    go_enter Try.func52, Try.ntmps52
    go_wp2_with fail
    go_ret2
    refine ⟨A, c, rfl, by omega, h5, HR.out.below ((Below.refl B w).setCell h6 _) (Nat.le_refl _), ⟨Option.map (fun x => x.add k) A, c - k, ?_, ?_, by rw [HL.out]; omega, by omega, h6⟩, Out.self _ _ _ _⟩
    · rw [HL.out]
      have := H1.out.put 0 (.slice (Option.map (fun x => x.add k) A) (rest.length - k) (c - k))
      simpa using this
    · rw [HL.out]
      exact HC2.out.below ((Below.refl B w).setCell h6 _) (Nat.le_refl _)
theorem ntake_no (k : Nat) (Bb B : Nat) (rest : List UInt8) (w : World) (hst : NS w Bb B rest) (hk : rest.length < k) :
    Calls Try.prog 52 #[.int .i64 (k : Int), .pointer (some ⟨Bb, 0, none⟩)] w fun e w' => e = .returned (.tuple #[.slice none 0 0, .bool false]) ∧ w = w' := by
  obtain ⟨A, c, h1, h3, h4, h5, h6⟩ := hst
  have hc1 : w.cell? ⟨Bb, 0, none⟩ = some (.slice A rest.length c) := h1.cell 0
  have tI : decide ((rest.length : Int) < (k : Int)) = true := decide_eq_true (by omega)
  clear h1 h3
  go_enter Try.func52, Try.ntmps52
  go_wp2_with fail
  go_ret2
  exact ⟨rfl, rfl⟩
theorem ntake1_ok (Bb B : Nat) (rest : List UInt8) (w : World) (hst : NS w Bb B rest) (hk : 1 ≤ rest.length) :
    Calls Try.prog 52 #[.int .i64 1, .pointer (some ⟨Bb, 0, none⟩)] w (NTake w Bb B rest 1) := ntake_ok 1 Bb B rest w hst hk
theorem ntake1_no (Bb B : Nat) (rest : List UInt8) (w : World) (hst : NS w Bb B rest) (hk : rest.length < 1) :
    Calls Try.prog 52 #[.int .i64 1, .pointer (some ⟨Bb, 0, none⟩)] w fun e w' => e = .returned (.tuple #[.slice none 0 0, .bool false]) ∧ w = w' := ntake_no 1 Bb B rest w hst hk
theorem NS.below {w w' : World} {Bb B C : Nat} {rest : List UInt8} (h : NS w Bb B rest) (hb : Below C w w') (hC : Bb < C) : NS w' Bb B rest := by
  obtain ⟨A, c, h1, h3, h4, h5, h6⟩ := h
  exact ⟨A, c, h1.below hb hC, h3.below hb (by omega), h4, h5, h6⟩
theorem infoS : (Try.prog.info? 9).map (fun i => (i.zero, i.size, i.bytes)) = some (some (.string ByteArray.empty), 1, 16) := by kernel_rfl
/-- 'out = append(out, s)', a list of texts. -/
theorem wpList_appT {ops : Array Oper} {rest : List Oper} {o : Oper} {a : Act} {Q : Exit → Act → World → Prop} {w0 : World} {cs : Array Value} {mk : Nat × Nat} (hgd : o.guard = none) (s x : Operand)
    (ho : o.op = .call { callee := .builtin .append, args := #[s, x], argTypes := #[47, 47] })
    (lo : Nat) (v : Value) (n : Nat) (ns : List ByteArray) (hs : a.eval s = v) (hown : w0.ownsRow lo 9 1 v n (ns.map Value.string))
    (c : Nat) (str : ByteArray) (hx : a.eval x = .slice (some ⟨w0.heap.size, 0, none⟩) 1 c) (hcs : cs = #[.string str]) (hm : (n + 1) * 16 ≤ 140737488355328) (hlo : lo ≤ w0.heap.size)
    (h : ∀ v' w', w'.ownsRow lo 9 1 v' (n + 1) ((ns ++ [str]).map Value.string) → Below lo w0 w' → wpList Try.prog ops Q rest (a.put o.dst v') w') : wpList Try.prog ops Q (o :: rest) a (w0.alloc (.cells cs 9 mk)) := by
  subst hcs
  obtain ⟨i0, hi0, hz0, hz1, hz2⟩ := info_parts infoS
  have hr : Rd (w0.alloc (.cells #[Value.string str] 9 mk)) (w0.heap.size + 1) 1 (some ⟨w0.heap.size, 0, none⟩) 1 [Value.string str] := Rd.lit w0 9 [Value.string str] mk
  refine wpList_append_rd (w0.alloc _) hgd s x _ ho lo 9 i0 _ 1 16 Try.underlying47 hi0 hz0 hz1 hz2 rfl (by omega) v n _ hs (hown.alloc _) _ _ 1 c _ hx hr (by simp; rfl) (by unfold maxLen; omega) hm (by simp; omega) ?_
  intro v' w' h1 h2 _
  refine h v' w' ?_ (((Below.refl _ _).alloc hlo _).trans h2)
  rw [List.map_append]
  exact h1
/-- Texts of the call's own, if there are any. -/
def NE (w : World) (o : Option (List ByteArray)) (e : Ending) (w' : World) : Prop :=
  ∃ v, e = .returned (.tuple #[v, .bool o.isSome]) ∧ (∀ ns, o = some ns → w'.ownsRow w.heap.size 9 1 v ns.length (ns.map Value.string) ∧ (∀ s ∈ ns, s.size ≤ 255)) ∧ Below w.heap.size w w'
theorem NE.no {w w' : World} {o : Option (List ByteArray)} {v : Value} (h : o = none) (hb : Below w.heap.size w w') : NE w o (.returned (.tuple #[v, .bool false])) w' := by
  subst h
  exact ⟨_, rfl, fun ns e => (by cases e), hb⟩
theorem NE.yes {w w' : World} {o : Option (List ByteArray)} {v : Value} {out : List ByteArray} {n : Nat} (h : o = some out) (hown : w'.ownsRow w.heap.size 9 1 v n (out.map Value.string)) (hz : ∀ s ∈ out, s.size ≤ 255) (hb : Below w.heap.size w w') : NE w o (.returned (.tuple #[v, .bool true])) w' := by
  subst h
  refine ⟨_, rfl, fun ns e => ?_, hb⟩
  injection e with e
  subst e
  have hlen : out.length = n := by simpa using hown.1
  rw [hlen]
  exact ⟨hown, hz⟩
namespace Wire
/-- The names so far, beside what is left. -/
def Mid (ct : Nat) (t : List UInt8) (k : Nat) (out : List ByteArray) (rest : List UInt8) : Prop := takeN ct t = (takeN (ct - k) rest).map fun p => (out ++ p.1, p.2)
theorem Mid.start (ct : Nat) (t : List UInt8) : Mid ct t 0 [] t := by unfold Mid; simp
theorem Mid.empty {ct k : Nat} {t : List UInt8} {out : List ByteArray} (h : Mid ct t k out []) (hk : k < ct) : takeN ct t = none := by
  unfold Mid at h
  rw [h, show ct - k = (ct - (k + 1)) + 1 by omega]
  rfl
theorem Mid.short {ct k : Nat} {t : List UInt8} {out : List ByteArray} {x : UInt8} {r : List UInt8} (h : Mid ct t k out (x :: r)) (hk : k < ct) (hs : r.length < x.toNat) : takeN ct t = none := by
  unfold Mid at h
  rw [h, show ct - k = (ct - (k + 1)) + 1 by omega]
  unfold takeN
  simp only
  rw [if_pos hs]
  rfl
theorem Mid.next {ct k : Nat} {t : List UInt8} {out : List ByteArray} {x : UInt8} {r : List UInt8} (h : Mid ct t k out (x :: r)) (hk : k < ct) (hs : x.toNat ≤ r.length) : Mid ct t (k + 1) (out ++ [⟨(r.take x.toNat).toArray⟩]) (r.drop x.toNat) := by
  unfold Mid at h ⊢
  rw [h, show ct - k = (ct - (k + 1)) + 1 by omega]
  conv => lhs; unfold takeN
  simp only
  rw [if_neg (by omega)]
  cases takeN (ct - (k + 1)) (r.drop x.toNat) <;> simp
theorem Mid.done {ct : Nat} {t : List UInt8} {out : List ByteArray} {rest : List UInt8} (h : Mid ct t ct out rest) : takeN ct t = some (out, rest) := by
  unfold Mid at h
  rw [h, Nat.sub_self]
  simp [takeN]
end Wire
theorem str_size (l : List UInt8) : (⟨l.toArray⟩ : ByteArray).size = l.length := by show l.toArray.size = _; simp

set_option linter.unusedVariables false in
set_option maxRecDepth 8000 in
set_option maxHeartbeats 1600000 in
theorem namesOf_any (A : Option Addr) (n c : Nat) (l : List UInt8) (w : World) (hl : Rb w w.heap.size A n l) (hc : n ≤ c) (hcm : c ≤ 9223372036854775807) :
    Calls Try.prog 38 #[.slice A n c] w (NE w (Wire.namesOf l)) := by
  have hlen := hl.len
  subst hlen
  obtain ⟨w1, hw1⟩ : ∃ w1, w1 = w.alloc (.cells #[.slice A l.length c] 22) := ⟨_, rfl⟩
  have HB1 : Hid (Below w.heap.size w w1) := by rw [hw1]; exact (Below.refl _ _).alloc (Nat.le_refl _) _
  have HS1 : Hid (NS w1 w.heap.size w.heap.size l) := ⟨A, c, by rw [hw1]; exact Blk.new _ _ _, hl.below HB1.out (Nat.le_refl _), hc, hcm, Nat.le_refl _⟩
  have hs1 : w.heap.size < w1.heap.size := by rw [hw1]; simp
  clear hl
  go_enter Try.func38, Try.ntmps38
  go_wp2_with fail
  rw [← hw1]
  clear hw1
  cases l with
  | nil =>
    with_reducible refine (ntake1_no _ _ [] _ HS1.out (by simp)).mono ?_
    rintro e w2 ⟨rfl, rfl⟩
    go_wp2_with fail
    go_ret2
    exact NE.no rfl HB1.out
  | cons x t =>
    with_reducible refine (ntake1_ok _ _ (x :: t) _ HS1.out (by simp)).mono ?_
    rintro e w2 ⟨A2, c2, rfl, hc21, hc22, hr2, hs2, ho2⟩
    simp only [List.take_succ_cons, List.take_zero, List.drop_succ_cons, List.drop_zero] at hr2 hs2
    have HB2 := hide (HB1.out.trans (ho2.below (Nat.le_refl _)))
    have HS2 := hide hs2
    have hs2l : w.heap.size < w2.heap.size := by rw [ho2.size]; exact hs1
    obtain ⟨g2, o2, rfl, hg2, hat2⟩ := hr2.all (by omega)
    have hx := hat2 0 x rfl
    rw [Nat.add_zero] at hx
    have hxl := x.toNat_lt
    clear hr2 hs2 ho2 hat2
    go_wp2_with fail
    go_loopg [7, 23] x.toNat (fun gg v i wr => ∃ (k : Nat) (out : List ByteArray) (rest : List UInt8), k ≤ x.toNat ∧ gg = x.toNat - k ∧ i = .int .i64 (k : Nat) ∧ Wire.Mid x.toNat t k out rest ∧ NS wr w.heap.size w.heap.size rest ∧ wr.ownsRow w2.heap.size 9 1 v k (out.map Value.string) ∧ (∀ s ∈ out, s.size ≤ 255) ∧ Below w.heap.size w wr ∧ w2.heap.size ≤ wr.heap.size)
    case atStart => exact ⟨0, [], t, Nat.zero_le _, rfl, rfl, Wire.Mid.start _ _, HS2.out, own_nil _ _ _ _, by simp, HB2.out, Nat.le_refl _⟩
    case round =>
      obtain ⟨k, out, rest, hk, rfl, rfl, hmid, hns, hown, hsz, hbel, hw2⟩ := hrel
      obtain ⟨w3, hw3⟩ : ∃ w3, w3 = wr := ⟨_, rfl⟩
      subst hw3
      have HM := hide hmid
      have HS3 := hide hns
      have HO3 := hide hown
      have HZ := hide hsz
      have HB3 := hide hbel
      clear hmid hns hown hsz hbel hx
      by_cases hlt : k < x.toNat
      · cases rest with
        | nil =>
          have HP : Hid (Wire.namesOf (x :: t) = none) := by
            show _ = _
            unfold Wire.namesOf
            simp only [HM.out.empty hlt]
          go_wp2_with fail
          with_reducible refine (ntake1_no _ _ [] _ HS3.out (by simp)).mono ?_
          rintro e w4 ⟨rfl, rfl⟩
          go_wp2_with fail
          go_ret2
          exact NE.no HP.out HB3.out
        | cons y r =>
          go_wp2_with fail
          with_reducible refine (ntake1_ok _ _ (y :: r) _ HS3.out (by simp)).mono ?_
          rintro e w4 ⟨A4, c4, rfl, hc41, hc42, hr4, hs4, ho4⟩
          simp only [List.take_succ_cons, List.take_zero, List.drop_succ_cons, List.drop_zero] at hr4 hs4
          have HB4 := hide (HB3.out.trans (ho4.below (Nat.le_refl _)))
          have HO4 := hide (ho4.own HO3.out (fun q hq => by have := (HO3.out.lt q hq).1; omega))
          have HS4 := hide hs4
          have hw4 : w2.heap.size ≤ w4.heap.size := by rw [ho4.size]; exact hw2
          obtain ⟨g4, o4, rfl, hg4, hat4⟩ := hr4.all (by omega)
          have hy := hat4 0 y rfl
          rw [Nat.add_zero] at hy
          have hyl := y.toNat_lt
          clear hr4 hs4 ho4 hat4 HO3 HB3 HS3
          by_cases hsh : r.length < y.toNat
          · have HP : Hid (Wire.namesOf (x :: t) = none) := by
              show _ = _
              unfold Wire.namesOf
              simp only [HM.out.short hlt hsh]
            go_wp2_with fail
            with_reducible refine (ntake_no y.toNat _ _ r _ HS4.out hsh).mono ?_
            rintro e w5 ⟨rfl, rfl⟩
            go_wp2_with fail
            go_ret2
            exact NE.no HP.out HB4.out
          · go_wp2_with fail
            with_reducible refine (ntake_ok y.toNat _ _ r _ HS4.out (by omega)).mono ?_
            rintro e w5 ⟨A5, c5, rfl, hc51, hc52, hr5, hs5, ho5⟩
            have HB5 := hide (HB4.out.trans (ho5.below (Nat.le_refl _)))
            have HO5 := hide (ho5.own HO4.out (fun q hq => by have := (HO4.out.lt q hq).1; omega))
            have HS5 := hide hs5
            have hw5 : w2.heap.size ≤ w5.heap.size := by rw [ho5.size]; exact hw4
            have hrs := hr5.run_string (P := Try.prog) 22 5 9 c5 Try.underlying22 Try.underlying5 Try.underlying9
            obtain ⟨S, hS⟩ : ∃ S : ByteArray, S = ⟨(r.take y.toNat).toArray⟩ := ⟨_, rfl⟩
            rw [← hS] at hrs
            have HMn := HM.out.next hlt (by omega)
            rw [← hS] at HMn
            replace HMn := hide HMn
            have hSs : S.size ≤ 255 := by rw [hS, str_size]; have := List.length_take_le y.toNat r; omega
            have HSs := hide hSs
            clear hS hr5 hs5 ho5 HO4 HB4 HS4 hSs
            go_wp2_with (at_builtin; refine wpList_appT rfl (.tmp 43) (.tmp 46) rfl w2.heap.size _ k out rfl HO5.out 1 S rfl rfl (by omega) (by omega) ?_; intro v6 w6 hown6 hb6; have HO6 := hide hown6; have HB6 := hide hb6; clear hown6 hb6)
            go_roundg (x.toNat - (k + 1))
            case measure => omega
            case rel => exact ⟨k + 1, out ++ [S], r.drop y.toNat, by omega, rfl, by go_num, HMn.out, HS5.out.below HB6.out (by omega), HO6.out, fun s hs => by
              rcases List.mem_append.1 hs with hs | hs
              · exact HZ.out s hs
              · have : s = S := by simpa using hs
                rw [this]
                exact HSs.out, HB5.out.trans (HB6.out.mono (by omega)), Nat.le_trans hw5 HB6.out.size⟩
      · obtain ⟨ct, hct⟩ : ∃ ct, ct = x.toNat := ⟨_, rfl⟩
        have hkc : k = ct := by omega
        have HCt := hide hct
        rw [← hct] at HM hlt hk hxl
        subst hkc
        have hdone := HM.out.done
        obtain ⟨A3, c3, h31, h32, h33, h34, h35⟩ := HS3.out
        have hb0 := h31.cell 0
        simp at hb0
        obtain ⟨Av, cv, rfl⟩ := own_sl HO3.out
        have HD := hide hdone
        clear h31 h32 hdone
        rw [← hct]
        clear hct
        cases rest with
        | nil =>
          have HP : Hid (Wire.namesOf (x :: t) = some out) := by
            show _ = _
            unfold Wire.namesOf
            simp only [← HCt.out, HD.out]
          simp only [List.length_nil] at hb0
          go_wp2_with fail
          go_quiet (fail)
          go_wp2_with fail
          go_ret2
          exact NE.yes (n := k) HP.out (own_agree (own_base HO3.out (Nat.le_of_lt hs2l)) fun _ _ => rfl) HZ.out (below_drewN HB3.out _)
        | cons y r =>
          have HP : Hid (Wire.namesOf (x :: t) = none) := by
            show _ = _
            unfold Wire.namesOf
            simp only [← HCt.out, HD.out]
          have hyn : (((y :: r).length : Int) == 0) = false := by simp; omega
          obtain ⟨m, hm⟩ : ∃ m, m = (y :: r).length := ⟨_, rfl⟩
          rw [← hm] at hb0 hyn
          clear hm
          go_wp2_with fail
          go_quiet (fail)
          go_wp2_with fail
          go_ret2
          exact NE.no HP.out (below_drewN HB3.out _)
end Go.Proofs.Ytnieenlnpnaamaa
