/-
  The walks of cell.place and chanceryref18.place: both are Cell.place. Conditions: at most two names, at most one byte of a kind.
-/
import Derived.Test.YtccapkkaeljnfaaName
import Derived.Lib.AppendStr
namespace Go.Proofs.Ytccapkkaeljnfaa
open Go.RowKit

/-- 'out = append(out, s...)', s a text. -/
theorem wpList_appS {P : Program} (w : World) {ops : Array Oper} {rest : List Oper} {o : Oper} {a : Act} {Q : Exit → Act → World → Prop} {t e u : TypeId} (hT : Bt P t e) (hU : P.underlying u = some .string) (hgd : o.guard = none) (s x : Operand)
    (ho : o.op = .call { callee := .builtin .append, args := #[s, x], argTypes := #[t, u] })
    (base : Nat) (v : Value) (n : Nat) (l : List UInt8) (hs : a.eval s = v) (hown : w.ownsRow base e 1 v n (l.map B8))
    (str : ByteArray) (hx : a.eval x = .string str) (hbytes : n + str.size ≤ 140737488355328) (hbase : base ≤ w.heap.size)
    (h : ∀ v' w', w'.ownsRow base e 1 v' (n + str.size) ((l ++ str.data.toList).map B8) → Below base w w' → w.grownBy w' v.ownBlock → wpList P ops Q rest (a.put o.dst v') w') : wpList P ops Q (o :: rest) a w := by
  obtain ⟨i0, hi0, hz0, hz1, hz2⟩ := info_parts hT.2
  refine Lib.wpList_append_own_string w hgd s x t u ho base e i0 hT.1 hU hi0 hz0 hz1 hz2 v n _ hs hown str hx (by unfold maxLen; omega) hbytes hbase ?_
  intro v' w' h1 h2 _
  refine h v' w' ?_ ((Below.refl _ _).grown h2 hbase fun k hk => (hown.lt k hk).1) h2
  rw [List.map_append]
  exact h1
theorem BE.mk' {w w' : World} {r : Nat × List UInt8} {A : Option Addr} {m c : Nat} {l : List UInt8} (h : r = (0, l)) (hm : m = l.length) (ho : w'.ownsRow w.heap.size 5 1 (.slice A m c) m (l.map B8)) (hb : Below w.heap.size w w') : BE w r (.returned (.tuple #[.slice A m c, .int .i64 0])) w' := by
  subst h hm
  exact ⟨_, rfl, ho, hb⟩
theorem Rd.at1 {w : World} {B n k : Nat} {A : Option Addr} {xs : List Value} (h : Rd w B 1 A n xs) (hk : k < n) : ∃ b off u, A = some ⟨b, off, none⟩ ∧ b < B ∧ xs[k]? = some u ∧ w.cell? ⟨b, off + k, none⟩ = some u := by
  obtain ⟨b, off, e, hb, hc⟩ := h.2 (by omega)
  have hl : k < xs.length := by rw [h.1]; omega
  exact ⟨b, off, xs[k], e, hb, List.getElem?_eq_getElem hl, hc k _ (List.getElem?_eq_getElem hl)⟩
/-- A list of texts that is read. -/
def Rt (w : World) (B : Nat) (A : Option Addr) (n : Nat) (ns : List ByteArray) : Prop := Rd w B 1 A n (ns.map Value.string) ∧ ∀ s ∈ ns, s.size ≤ maxLen
theorem Rt.at {w : World} {B n k : Nat} {A : Option Addr} {ns : List ByteArray} (h : Rt w B A n ns) (hk : k < n) : ∃ b off s, A = some ⟨b, off, none⟩ ∧ b < B ∧ (ns.map (·.data.toList))[k]? = some s.data.toList ∧ s.size ≤ maxLen ∧ w.cell? ⟨b, off + k, none⟩ = some (.string s) := by
  obtain ⟨b, off, u, e, hb, hu, hc⟩ := h.1.at1 hk
  rw [List.getElem?_map] at hu
  cases hs : ns[k]? with
  | none => rw [hs] at hu; cases hu
  | some s =>
    rw [hs] at hu
    injection hu with hu
    subst hu
    exact ⟨b, off, s, e, hb, by rw [List.getElem?_map, hs]; rfl, h.2 s (List.mem_of_getElem? hs), hc⟩
theorem Rt.len {w : World} {B n : Nat} {A : Option Addr} {ns : List ByteArray} (h : Rt w B A n ns) : ns.length = n := by simpa [Rd] using h.1.1
theorem Rt.below {w w' : World} {B C n : Nat} {A : Option Addr} {ns : List ByteArray} (h : Rt w B A n ns) (hb : Below C w w') (hC : B ≤ C) : Rt w' B A n ns := ⟨h.1.below hb hC, h.2⟩

set_option maxHeartbeats 1600000 in
theorem place_any (letter : UInt8) (t : Int) (Ak : Option Addr) (nk ck : Nat) (kd : List UInt8) (An : Option Addr) (m cn : Nat) (ns : List ByteArray) (w : World) (hkd : Rb w w.heap.size Ak nk kd) (hkn : nk ≤ 1) (hn : Rt w w.heap.size An m ns) (hm : m ≤ 2) :
    Calls Try.prog 42 #[.int .u8 (letter.toNat : Int), .int .i64 t, .slice Ak nk ck, .slice An m cn] w (BE w (Cell.place letter t kd (ns.map (·.data.toList)))) := by
  have HN := hide hn
  have HNl := hide hn.len
  have HK := hide hkd
  have HKl := hide hkd.len
  clear hn hkd 
  by_cases ht : t < 0 ∨ 4 ≤ t
  · have HP := hide (Cell.place_far (letter := letter) (kind := kd) (ns := ns.map (·.data.toList)) ht)
    by_cases h0 : t < 0
    · have t1 : decide (t < 0) = true := decide_eq_true h0
      clear ht
      go_enter Try.func42, Try.ntmps42
      go_wp2_with fail
      go_ret2
      exact BE.err 2 HP.out (Below.refl _ _)
    · have t1 : decide (t < 0) = false := decide_eq_false h0
      have u2 : (4 : Int) ≤ t := by omega
      have t2 : decide ((4 : Int) ≤ t) = true := decide_eq_true u2
      clear ht
      go_enter Try.func42, Try.ntmps42
      go_wp2_with fail
      go_ret2
      exact BE.err 2 HP.out (Below.refl _ _)
  · have HT := hide ht
    obtain ⟨T, hT⟩ : ∃ T : Nat, t = (T : Int) := ⟨t.toNat, by omega⟩
    subst hT
    have hT4 : T < 4 := by omega
    have u1 : ¬ ((T : Int) < 0) := by omega
    have t1 : decide ((T : Int) < 0) = false := decide_eq_false u1
    have u2 : ¬ ((4 : Int) ≤ (T : Int)) := by omega
    have t2 : decide ((4 : Int) ≤ (T : Int)) = false := decide_eq_false u2
    clear ht
    have HC : Hid (#[Value.int .u8 (letter.toNat : Int), Value.int .u8 (T : Int)] = ([letter, Cell.byteOf (T : Int).toNat].map B8).toArray) := by
      show _ = _
      rw [show (T : Int).toNat = T from rfl, byte_of T (T : Int) (by omega)]
      rfl
    have HLit := hide (own_lit w 5 [letter, Cell.byteOf (T : Int).toNat] 2 rfl (by unfold maxLen; omega))
    rw [← HC.out] at HLit
    have HKa := hide (fun o => HK.out.below ((Below.refl w.heap.size w).alloc (Nat.le_refl _) o) (Nat.le_refl _))
    go_enter Try.func42, Try.ntmps42
    go_wp2_with (at_builtin; refine wpList_app _ bt rfl (.tmp 22) (.tmp 23) rfl w.heap.size _ 2 [letter, Cell.byteOf (T : Int).toNat] rfl HLit.out _ Ak nk ck kd rfl (HKa.out _) (by omega) (by simp) ?_; intro v1 w1 hown1 hb1 _; have HO1 := hide hown1; have HB1 := hide (((Below.refl w.heap.size w).alloc (Nat.le_refl _) _).trans hb1); clear hown1 hb1)
    go_loopw [10, 27] (fun v i wr => ∃ j len : Nat, j ≤ m ∧ i = .int .i64 (j : Nat) ∧ len = (letter :: Cell.byteOf (T : Int).toNat :: (kd ++ Cell.namesOf ((ns.map (·.data.toList)).take j))).length ∧ len ≤ 3 + 25 * j ∧ wr.ownsRow w.heap.size 5 1 v len ((letter :: Cell.byteOf (T : Int).toNat :: (kd ++ Cell.namesOf ((ns.map (·.data.toList)).take j))).map B8) ∧ Hid (((ns.map (·.data.toList)).take j).all Cell.nameB = true) ∧ Below w.heap.size w wr) (fun _ i _ => m - (intOf i).toNat)
    case atStart => exact ⟨0, 2 + nk, Nat.zero_le _, rfl, by rw [HKl.out.symm]; simp [Cell.namesOf]; omega, by omega, by simpa [Cell.namesOf] using HO1.out, rfl, HB1.out⟩
    case round =>
      obtain ⟨j, len, hj, rfl, hlen, hlb, hown, HA, hbel⟩ := hrel
      have HLn := hide hlen
      have HO := hide hown
      have HB := hide hbel
      have hsz := hbel.size
      clear hlen hown hbel
      by_cases hlt : j < m
      · obtain ⟨b, off, s, rfl, hb, hs, hsm, hcell⟩ := (HN.out.below HB.out (Nat.le_refl _)).at hlt
        unfold maxLen at hsm
        have HS := hide hs
        clear hs
        have hjI : (j : Int) < (m : Int) := by omega
        go_wp2_with fail
        refine (name_any s _ (by unfold maxLen; omega)).mono ?_
        rintro e w' ⟨rfl, rfl⟩
        cases hnm : Cell.nameB s.data.toList with
        | false =>
          have HP := hide (Cell.place_bad (letter := letter) (kind := kd) HT.out (Cell.all_stop HS.out hnm))
          clear hnm
          go_wp2_with fail
          go_ret2
          exact BE.err 2 HP.out HB.out
        | true =>
          have hs24 : s.size ≤ 24 := by have := Cell.nameB_le hnm; rwa [str_len] at this
          have HA2 := hide (Cell.all_next HS.out HA.out hnm)
          have HX := hide (Cell.names_next HS.out)
          clear hnm
          go_wp2_with (first | (at_builtin; refine wpList_appS _ bt Try.underlying9 rfl (.tmp 34) (.tmp 35) rfl w.heap.size _ len _ rfl HO.out s rfl (by omega) hsz ?_; intro v3 w3 hown3 hb3 _; have HO3 := hide hown3; have HB3 := hide (HB.out.trans hb3); have hz3 := HB3.out.size; clear hown3 hb3) | (at_builtin; refine wpList_appL bt rfl (.tmp 37) (.tmp 38) rfl w.heap.size _ (len + s.size) _ rfl HO3.out _ 1 1 [0] rfl rfl rfl rfl (by omega) hz3 ?_; intro v4 w4 hown4 hb4 _; have HO4 := hide hown4; have HB4 := hide (HB3.out.trans hb4); clear hown4 hb4))
          go_roundw
          case rel => exact ⟨j + 1, len + s.size + 1, by omega, by go_num, by rw [HX.out, HLn.out]; simp; omega, by omega, by rw [HX.out]; have := HO4.out; simp only [List.cons_append, List.append_assoc] at this ⊢; exact this, HA2.out, HB4.out⟩
          case measure => simp [intOf]; omega
      · obtain rfl : j = m := by omega
        obtain ⟨A5, c5, rfl⟩ := own_sl HO.out
        have htk : (ns.map (·.data.toList)).take j = ns.map (·.data.toList) := List.take_of_length_le (by simp [HNl.out])
        rw [htk] at HO HA HLn
        have HP := hide (Cell.place_ok (letter := letter) (kind := kd) HT.out HA.out)
        clear htk
        go_wp2_with fail
        go_ret2
        exact BE.mk' HP.out HLn.out HO.out HB.out

set_option maxHeartbeats 1600000 in
theorem refPlace_any (letter : UInt8) (t : Int) (An : Option Addr) (m cn : Nat) (ns : List ByteArray) (w : World) (hn : Rt w w.heap.size An m ns) (hm : m ≤ 2) :
    Calls Try.prog 44 #[.int .u8 (letter.toNat : Int), .int .i64 t, .slice An m cn] w (BE w (Cell.place letter t [] (ns.map (·.data.toList)))) := by
  have HN := hide hn
  have HNl := hide hn.len
  clear hn 
  by_cases ht : t < 0 ∨ 4 ≤ t
  · have HP := hide (Cell.place_far (letter := letter) (kind := []) (ns := ns.map (·.data.toList)) ht)
    by_cases h0 : t < 0
    · have t1 : decide (t < 0) = true := decide_eq_true h0
      clear ht
      go_enter Try.func44, Try.ntmps44
      go_wp2_with fail
      go_ret2
      exact BE.err 2 HP.out (Below.refl _ _)
    · have t1 : decide (t < 0) = false := decide_eq_false h0
      have u2 : (3 : Int) < t := by omega
      have t2 : decide ((3 : Int) < t) = true := decide_eq_true u2
      clear ht
      go_enter Try.func44, Try.ntmps44
      go_wp2_with fail
      go_ret2
      exact BE.err 2 HP.out (Below.refl _ _)
  · have HT := hide ht
    obtain ⟨T, hT⟩ : ∃ T : Nat, t = (T : Int) := ⟨t.toNat, by omega⟩
    subst hT
    have hT4 : T < 4 := by omega
    have u1 : ¬ ((T : Int) < 0) := by omega
    have t1 : decide ((T : Int) < 0) = false := decide_eq_false u1
    have u2 : ¬ ((3 : Int) < (T : Int)) := by omega
    have t2 : decide ((3 : Int) < (T : Int)) = false := decide_eq_false u2
    clear ht
    have HC : Hid (#[Value.int .u8 (letter.toNat : Int), Value.int .u8 (T : Int)] = ([letter, Cell.byteOf (T : Int).toNat].map B8).toArray) := by
      show _ = _
      rw [show (T : Int).toNat = T from rfl, byte_of T (T : Int) (by omega)]
      rfl
    have HLit := hide (own_lit w 5 [letter, Cell.byteOf (T : Int).toNat] 2 rfl (by unfold maxLen; omega))
    rw [← HC.out] at HLit
    go_enter Try.func44, Try.ntmps44
    go_wp2_with fail
    go_loopw [8, 9] (fun v i wr => ∃ j len : Nat, j ≤ m ∧ i = .int .i64 (j : Nat) ∧ len = (letter :: Cell.byteOf (T : Int).toNat :: ([] ++ Cell.namesOf ((ns.map (·.data.toList)).take j))).length ∧ len ≤ 3 + 25 * j ∧ wr.ownsRow w.heap.size 5 1 v len ((letter :: Cell.byteOf (T : Int).toNat :: ([] ++ Cell.namesOf ((ns.map (·.data.toList)).take j))).map B8) ∧ Hid (((ns.map (·.data.toList)).take j).all Cell.nameB = true) ∧ Below w.heap.size w wr) (fun _ i _ => m - (intOf i).toNat)
    case atStart => exact ⟨0, 2, Nat.zero_le _, rfl, by simp [Cell.namesOf], by omega, by simpa [Cell.namesOf] using HLit.out, rfl, (Below.refl _ _).alloc (Nat.le_refl _) _⟩
    case round =>
      obtain ⟨j, len, hj, rfl, hlen, hlb, hown, HA, hbel⟩ := hrel
      have HLn := hide hlen
      have HO := hide hown
      have HB := hide hbel
      have hsz := hbel.size
      clear hlen hown hbel
      by_cases hlt : j < m
      · obtain ⟨b, off, s, rfl, hb, hs, hsm, hcell⟩ := (HN.out.below HB.out (Nat.le_refl _)).at hlt
        unfold maxLen at hsm
        have HS := hide hs
        clear hs
        have hjI : (j : Int) < (m : Int) := by omega
        go_wp2_with fail
        refine (refName_any s _ (by unfold maxLen; omega)).mono ?_
        rintro e w' ⟨rfl, rfl⟩
        cases hnm : Cell.nameB s.data.toList with
        | false =>
          have HP := hide (Cell.place_bad (letter := letter) (kind := []) HT.out (Cell.all_stop HS.out hnm))
          clear hnm
          go_wp2_with fail
          go_ret2
          exact BE.err 2 HP.out HB.out
        | true =>
          have hs24 : s.size ≤ 24 := by have := Cell.nameB_le hnm; rwa [str_len] at this
          have HA2 := hide (Cell.all_next HS.out HA.out hnm)
          have HX := hide (Cell.names_next HS.out)
          clear hnm
          go_wp2_with (first | (at_builtin; refine wpList_appS _ bt Try.underlying9 rfl (.tmp 32) (.tmp 36) rfl w.heap.size _ len _ rfl HO.out s rfl (by omega) hsz ?_; intro v3 w3 hown3 hb3 _; have HO3 := hide hown3; have HB3 := hide (HB.out.trans hb3); have hz3 := HB3.out.size; clear hown3 hb3) | (at_builtin; refine wpList_appL bt rfl (.tmp 38) (.tmp 39) rfl w.heap.size _ (len + s.size) _ rfl HO3.out _ 1 1 [0] rfl rfl rfl rfl (by omega) hz3 ?_; intro v4 w4 hown4 hb4 _; have HO4 := hide hown4; have HB4 := hide (HB3.out.trans hb4); clear hown4 hb4))
          go_roundw
          case rel => exact ⟨j + 1, len + s.size + 1, by omega, by go_num, by rw [HX.out, HLn.out]; simp; omega, by omega, by rw [HX.out]; have := HO4.out; simp only [List.cons_append, List.append_assoc] at this ⊢; exact this, HA2.out, HB4.out⟩
          case measure => simp [intOf]; omega
      · obtain rfl : j = m := by omega
        obtain ⟨A5, c5, rfl⟩ := own_sl HO.out
        have htk : (ns.map (·.data.toList)).take j = ns.map (·.data.toList) := List.take_of_length_le (by simp [HNl.out])
        rw [htk] at HO HA HLn
        have HP := hide (Cell.place_ok (letter := letter) (kind := []) HT.out HA.out)
        clear htk
        go_wp2_with fail
        go_ret2
        exact BE.mk' HP.out HLn.out HO.out HB.out

end Go.Proofs.Ytccapkkaeljnfaa
