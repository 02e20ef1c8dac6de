/-
  The walk of cell.Read: it is Cell.read. Conditions: the bytes read as a list.
-/
import Derived.Test.YtnieenlnpnaamaaTake
import Derived.Deep.LoopGhost
import Derived.Deep.DeepCutAuto
import Derived.Deep.RegionWith
import Derived.Deep.CutBlock
namespace Go.Proofs.Ytnieenlnpnaamaa
open Go.RowKit

/-- A row of values of the call's own, or the error 280. -/
def RE (w : World) (o : Option (List Cell.Val)) (e : Ending) (w' : World) : Prop :=
  ∃ v' en, e = .returned (.tuple #[v', .int .i64 en]) ∧ en = (if o.isSome then 0 else 280) ∧ w'.ownsRow w.heap.size 83 3 v' (o.getD []).length (vcells (o.getD [])) ∧ Below w.heap.size w w' ∧ ∀ v ∈ o.getD [], v.s.size ≤ maxLen ∧ -9223372036854775808 ≤ v.n ∧ v.n ≤ 9223372036854775807
theorem RE.err {w w' : World} {o : Option (List Cell.Val)} (h : o = none) (hb : Below w.heap.size w w') : RE w o (.returned (.tuple #[.slice none 0 0, .int .i64 280])) w' := by
  subst h
  exact ⟨_, _, rfl, rfl, own_nil _ _ _ _, hb, fun v hv => by cases hv⟩

/-- All blocks from g on are as they were. -/
structure Up (w w' : World) (g : Nat) : Prop where
  size : w'.heap.size = w.heap.size
  block : ∀ k, g ≤ k → w'.heap[k]? = w.heap[k]?
theorem Up.blk {w w' : World} {g b : Nat} {t : TypeId} {cs : Array Value} (h : Up w w' g) (hb : Blk w b t cs) (hg : g ≤ b) : Blk w' b t cs := (h.block b hg).trans hb
theorem Up.own {w w' : World} {g : Nat} {e : TypeId} {size n : Nat} {v : Value} {xs : List Value} (h : Up w w' g) (ho : w.ownsRow g e size v n xs) : w'.ownsRow g e size v n xs := own_agree ho fun k hk => h.block k (ho.lt k hk).1

/-- The state inside Read, which began at w. -/
structure SI (w wr : World) (rest : List UInt8) (wh : Bool) : Prop where
  st : St wr w.heap.size (w.heap.size + 1) w.heap.size rest wh
  fn : Blk wr (w.heap.size + 1 + 1) 69 #[takeF w.heap.size (w.heap.size + 1)]
  bel : Below w.heap.size w wr
  size : w.heap.size + 3 ≤ wr.heap.size
theorem SI.below {w wr w' : World} {rest : List UInt8} {wh : Bool} (h : SI w wr rest wh) (hb : Below (w.heap.size + 3) wr w') : SI w w' rest wh := by
  obtain ⟨A, c, h1, h2, h3, h4, h5, h6, h7, h8⟩ := h.st
  exact ⟨⟨A, c, h1.below hb (by omega), h2.below hb (by omega), h3.below hb (by omega), h4, h5, h6, h7, h8⟩, h.fn.below hb (by omega), h.bel.trans (hb.mono (by omega)), Nat.le_trans h.size hb.size⟩
theorem SI.alloc {w wr : World} {rest : List UInt8} {wh : Bool} (h : SI w wr rest wh) (o : Obj) : SI w (wr.alloc o) rest wh := h.below ((Below.refl _ _).alloc h.size o)
theorem SI.put {w wr : World} {rest : List UInt8} {wh : Bool} (h : SI w wr rest wh) {p : Addr} (hp : w.heap.size + 3 ≤ p.block) (u : Value) : SI w (wr.setCell p u) rest wh := h.below ((Below.refl _ _).setCell hp u)
theorem SI.wh {w wr : World} {rest : List UInt8} {wh : Bool} (h : SI w wr rest wh) : wr.cell? ⟨w.heap.size + 1, 0, none⟩ = some (.bool wh) := by
  obtain ⟨A, c, h1, h2, h3⟩ := h.st
  exact h2.cell 0
theorem SI.fnc {w wr : World} {rest : List UInt8} {wh : Bool} (h : SI w wr rest wh) : wr.cell? ⟨w.heap.size + 1 + 1, 0, none⟩ = some (.func (.func 53) #[] #[.pointer (some ⟨w.heap.size, 0, none⟩), .pointer (some ⟨w.heap.size + 1, 0, none⟩)]) := h.fn.cell 0
theorem SI.left {w wr : World} {rest : List UInt8} {wh : Bool} (h : SI w wr rest wh) : ∃ A c, wr.cell? ⟨w.heap.size, 0, none⟩ = some (.slice A rest.length c) := by
  obtain ⟨A, c, h1, h2, h3⟩ := h.st
  exact ⟨A, c, h1.cell 0⟩
theorem si_ch {w wr w' : World} {rest rest' : List UInt8} {wh wh' : Bool} (h : SI w wr rest wh) (hs : St w' w.heap.size (w.heap.size + 1) w.heap.size rest' wh') (hc : Ch wr w' w.heap.size (w.heap.size + 1)) : SI w w' rest' wh' ∧ Up wr w' (w.heap.size + 3) :=
  ⟨⟨hs, h.fn.ch hc (by omega) (by omega), h.bel.trans (hc.below (by omega) (by omega)), by rw [hc.size]; exact h.size⟩, ⟨hc.size, fun k hk => hc.block k (by omega) (by omega)⟩⟩
def LongP (w wr : World) (rest : List UInt8) (wh : Bool) (k : Nat) (e : Ending) (w' : World) : Prop :=
  e = .returned (.int .u64 ((Cell.beN (rest.take k) : Nat) : Int)) ∧ SI w w' (rest.drop k) (wh && decide (k ≤ rest.length)) ∧ Up wr w' (w.heap.size + 3)
theorem long_si (k : Nat) (w wr : World) (rest : List UInt8) (wh : Bool) (hk8 : k ≤ 8) (h : SI w wr rest wh) :
    Calls Try.prog 54 #[.int .i64 (k : Int), .pointer (some ⟨w.heap.size + 1 + 1, 0, none⟩)] wr (LongP w wr rest wh k) := by
  refine (long_any k _ _ _ _ rest wh wr hk8 h.st h.fn).mono ?_
  rintro e w' ⟨rfl, hs, hc⟩
  exact ⟨rfl, si_ch h hs hc⟩
def TakeP (w wr : World) (rest : List UInt8) (wh : Bool) (k : Nat) (e : Ending) (w' : World) : Prop :=
  ∃ A c, e = .returned (.slice A (rest.take k).length c) ∧ Rb w' w.heap.size A (rest.take k).length (rest.take k) ∧ SI w w' (rest.drop k) (wh && decide (k ≤ rest.length)) ∧ Up wr w' (w.heap.size + 3)
theorem take_si (k : Nat) (w wr : World) (rest : List UInt8) (wh : Bool) (h : SI w wr rest wh) :
    Calls Try.prog 53 #[.int .i64 (k : Int), .pointer (some ⟨w.heap.size, 0, none⟩), .pointer (some ⟨w.heap.size + 1, 0, none⟩)] wr (TakeP w wr rest wh k) := by
  refine (take_any k _ _ _ rest wh wr h.st).mono ?_
  rintro e w' ⟨A, c, rfl, hr, hs, hc⟩
  exact ⟨A, c, rfl, hr, si_ch h hs hc⟩
theorem si_start (A : Option Addr) (n c : Nat) (l : List UInt8) (w : World) (hl : Rb w w.heap.size A n l) (hc : n ≤ c) (hcm : c ≤ 9223372036854775807) :
    SI w (((w.alloc (.cells #[.slice A n c] 22)).alloc (.cells #[.bool true] 4)).alloc (.cells #[.func (.func 53) #[] #[.pointer (some ⟨w.heap.size, 0, none⟩), .pointer (some ⟨w.heap.size + 1, 0, none⟩)]] 69)) l true := by
  have hlen := hl.len
  subst hlen
  have hbel : Below w.heap.size w (((w.alloc (.cells #[.slice A l.length c] 22)).alloc (.cells #[.bool true] 4)).alloc (.cells #[.func (.func 53) #[] #[.pointer (some ⟨w.heap.size, 0, none⟩), .pointer (some ⟨w.heap.size + 1, 0, none⟩)]] 69)) :=
    (((Below.refl _ _).alloc (Nat.le_refl _) _).alloc (by simp) _).alloc (by simp; omega) _
  refine ⟨⟨A, c, ?_, ?_, hl.below hbel (Nat.le_refl _), hc, hcm, Nat.le_refl _, by omega, by omega⟩, ?_, hbel, by simp⟩
  · exact ((Blk.new w _ _).alloc _).alloc _
  · have := (Blk.new (w.alloc (.cells #[.slice A l.length c] 22)) 4 #[.bool true]).alloc (.cells #[.func (.func 53) #[] #[.pointer (some ⟨w.heap.size, 0, none⟩), .pointer (some ⟨w.heap.size + 1, 0, none⟩)]] 69)
    simpa using this
  · have := Blk.new ((w.alloc (.cells #[.slice A l.length c] 22)).alloc (.cells #[.bool true] 4)) 69 #[takeF w.heap.size (w.heap.size + 1)]
    simpa [takeF] using this

/-- What the body's first half has made of the bytes: a value and what is left, or it has run short. -/
def Got (rest : List UInt8) (kd : UInt8) (nn : Int) (ss : ByteArray) (rest' : List UInt8) (wh : Bool) : Prop :=
  if wh = true then Cell.readV rest = some (⟨kd, nn, ss⟩, rest') ∧ ss.size ≤ 255 ∧ -9223372036854775808 ≤ nn ∧ nn ≤ 9223372036854775807 else Cell.readV rest = none

theorem got_short {rest : List UInt8} {kd : UInt8} {nn : Int} {ss : ByteArray} {rest' : List UInt8} (h : Cell.readV rest = none) : Got rest kd nn ss rest' false := by
  unfold Got
  rw [if_neg (by simp)]
  exact h
theorem got_ok {rest : List UInt8} {kd : UInt8} {nn : Int} {ss : ByteArray} {rest' : List UInt8} (h : Cell.readV rest = some (⟨kd, nn, ss⟩, rest')) (h1 : ss.size ≤ 255) (h2 : -9223372036854775808 ≤ nn ∧ nn ≤ 9223372036854775807) : Got rest kd nn ss rest' true := by
  unfold Got
  rw [if_pos rfl]
  exact ⟨h, h1, h2⟩
theorem empty_size : (ByteArray.empty).size = 0 := rfl
theorem got_else {kd : UInt8} {l1 : List UInt8} (h1 : kd.toNat ≠ 1) (h2 : kd.toNat ≠ 2) (h3 : kd.toNat ≠ 3) (h4 : kd.toNat ≠ 4) (h5 : kd.toNat ≠ 5) : Got (kd :: l1) kd 0 ByteArray.empty l1 true := by
  refine got_ok ?_ (by rw [empty_size]; omega) (by omega)
  unfold Cell.readV
  simp only
  rfl
theorem got_one {kd : UInt8} {l1 : List UInt8} (h1 : kd.toNat = 1) : Got (kd :: l1) kd (wrap64 ((Cell.beN (l1.take 1) : Nat) : Int)) ByteArray.empty (l1.drop 1) (true && decide (1 ≤ l1.length)) := by
  match l1 with
  | [] => exact got_short (by unfold Cell.readV; simp only [h1])
  | c :: l2 =>
    have hc := c.toNat_lt
    have e1 : Cell.beN ((c :: l2).take 1) = c.toNat := by simp [Cell.beN]
    have e2 : wrap64 (c.toNat : Int) = (c.toNat : Int) := by unfold wrap64; omega
    rw [e1, e2, show (true && decide (1 ≤ (c :: l2).length)) = true by simp]
    exact got_ok (by unfold Cell.readV; simp only [h1]; rfl) (by rw [empty_size]; omega) ⟨by omega, by omega⟩
theorem got_eight {kd : UInt8} {l1 : List UInt8} (h1 : kd.toNat = 2 ∨ kd.toNat = 3) : Got (kd :: l1) kd (wrap64 ((Cell.beN (l1.take 8) : Nat) : Int)) ByteArray.empty (l1.drop 8) (true && decide (8 ≤ l1.length)) := by
  have ew : wrap64 ((Cell.beN (l1.take 8) : Nat) : Int) = Cell.i64 (Cell.beN (l1.take 8)) := by unfold wrap64 Cell.i64; rfl
  rw [ew]
  by_cases hl : 8 ≤ l1.length
  · rw [decide_eq_true hl]
    have := Cell.i64_range (Cell.beN (l1.take 8))
    refine got_ok ?_ (by rw [empty_size]; omega) this
    rcases h1 with h1 | h1 <;> (unfold Cell.readV; simp only [h1]; rw [if_neg (by omega)]; rfl)
  · rw [decide_eq_false hl]
    refine got_short ?_
    rcases h1 with h1 | h1 <;> (unfold Cell.readV; simp only [h1]; rw [if_pos (by omega)])
theorem got_text {kd : UInt8} {l1 : List UInt8} (h1 : kd.toNat = 4 ∨ kd.toNat = 5) : Got (kd :: l1) kd 0 ⟨((l1.drop 1).take (Cell.beN (l1.take 1))).toArray⟩ ((l1.drop 1).drop (Cell.beN (l1.take 1))) ((true && decide (1 ≤ l1.length)) && decide (Cell.beN (l1.take 1) ≤ (l1.drop 1).length)) := by
  match l1 with
  | [] => exact got_short (by rcases h1 with h1 | h1 <;> (unfold Cell.readV; simp only [h1]))
  | c :: l2 =>
    have hc := c.toNat_lt
    have e1 : Cell.beN ((c :: l2).take 1) = c.toNat := by simp [Cell.beN]
    rw [e1, show (true && decide (1 ≤ (c :: l2).length)) = true by simp, Bool.true_and, show (c :: l2).drop 1 = l2 from rfl]
    by_cases hl : c.toNat ≤ l2.length
    · rw [decide_eq_true hl]
      refine got_ok ?_ ?_ (by omega)
      · rcases h1 with h1 | h1 <;> (unfold Cell.readV; simp only [h1]; rw [if_neg (by omega)]; rfl)
      · show ((l2.take c.toNat).toArray).size ≤ 255
        rw [List.size_toArray, List.length_take]
        omega
    · rw [decide_eq_false hl]
      refine got_short ?_
      rcases h1 with h1 | h1 <;> (unfold Cell.readV; simp only [h1]; rw [if_pos (by omega)])

theorem Got.short {rest : List UInt8} {kd : UInt8} {nn : Int} {ss : ByteArray} {rest' : List UInt8} (h : Got rest kd nn ss rest' false) : Cell.readV rest = none := by
  unfold Got at h
  rwa [if_neg (by simp)] at h
theorem Got.ok {rest : List UInt8} {kd : UInt8} {nn : Int} {ss : ByteArray} {rest' : List UInt8} (h : Got rest kd nn ss rest' true) : Cell.readV rest = some (⟨kd, nn, ss⟩, rest') ∧ ss.size ≤ 255 ∧ -9223372036854775808 ≤ nn ∧ nn ≤ 9223372036854775807 := by
  unfold Got at h
  rwa [if_pos rfl] at h
section
variable {ct : UInt8} {tl rest rest' : List UInt8} {k : Nat} {vs : List Cell.Val} {v : Cell.Val}
theorem sub_succ {c k : Nat} (h : k < c) : c - k = (c - (k + 1)) + 1 := by omega
theorem readN_short (hk : k < ct.toNat) (h : Cell.readV rest = none) : Cell.readN (ct.toNat - k) rest = none := by
  rw [sub_succ hk, Cell.readN, h]
theorem readN_wrong (hk : k < ct.toNat) (h : Cell.readV rest = some (v, rest')) (hr : Cell.rightB v = false) : Cell.readN (ct.toNat - k) rest = none := by
  rw [sub_succ hk, Cell.readN, h]
  simp only [hr]
  rfl
theorem readN_next (hR : Cell.readN ct.toNat tl = (Cell.readN (ct.toNat - k) rest).map (fun p => (vs ++ p.1, p.2))) (hk : k < ct.toNat) (h : Cell.readV rest = some (v, rest')) (hr : Cell.rightB v = true) : Cell.readN ct.toNat tl = (Cell.readN (ct.toNat - (k + 1)) rest').map (fun p => ((vs ++ [v]) ++ p.1, p.2)) := by
  rw [hR, sub_succ hk, Cell.readN, h]
  simp only [hr, if_true, Option.map_map]
  congr 1
  funext p
  simp
theorem read_stop (hR : Cell.readN ct.toNat tl = (Cell.readN (ct.toNat - k) rest).map (fun p => (vs ++ p.1, p.2))) (h : Cell.readN (ct.toNat - k) rest = none) : Cell.read (ct :: tl) = none := by
  rw [h] at hR
  unfold Cell.read
  split
  · rfl
  · simp only [hR, Option.map_none]
    split <;> rfl
theorem read_done (hR : Cell.readN ct.toNat tl = (Cell.readN (ct.toNat - ct.toNat) []).map (fun p => (vs ++ p.1, p.2))) (hl : ¬ 480 < (ct :: tl).length) (hc : ¬ 12 < ct.toNat) : Cell.read (ct :: tl) = some vs := by
  rw [Nat.sub_self, Cell.readN] at hR
  simp only [Option.map_some, List.append_nil] at hR
  unfold Cell.read
  rw [if_neg hl]
  simp only
  rw [if_neg hc, hR]
theorem read_left {x : UInt8} {r : List UInt8} (hR : Cell.readN ct.toNat tl = (Cell.readN (ct.toNat - ct.toNat) (x :: r)).map (fun p => (vs ++ p.1, p.2))) : Cell.read (ct :: tl) = none := by
  rw [Nat.sub_self, Cell.readN] at hR
  simp only [Option.map_some, List.append_nil] at hR
  unfold Cell.read
  split
  · rfl
  · simp only [hR]
    split <;> rfl
theorem below_dr (B : Nat) (w : World) : Below B w w.drew := (Below.refl B w).drew
theorem own_vals {w : World} {base : Nat} {e : TypeId} {u : Value} (h : w.ownsRow base e 3 u k (vcells vs)) : vs.length = k := by
  have := h.1
  rw [vcells_len] at this
  omega
end
theorem infoV : (Try.prog.info? 83).map (fun i => (i.zero, i.size, i.bytes)) = some (some (.agg #[.int .u8 0, .int .i64 0, .string ByteArray.empty]), 3, 32) := by kernel_rfl
/-- 'r = append(r, v)'. -/
theorem wpList_appV {ops : Array Oper} {rest : List Oper} {o : Oper} {a : Act} {Q : Exit → Act → World → Prop} {w0 : World} {cs : Array Value} {mk : Nat × Nat} (hgd : o.guard = none) (s x : Operand)
    (ho : o.op = .call { callee := .builtin .append, args := #[s, x], argTypes := #[67, 67] })
    (base : Nat) (v : Value) (n : Nat) (vs : List Cell.Val) (hs : a.eval s = v) (hown : w0.ownsRow base 83 3 v n (vcells vs))
    (c : Nat) (kd : UInt8) (nn : Int) (ss : ByteArray) (hx : a.eval x = .slice (some ⟨w0.heap.size, 0, none⟩) 1 c) (hcs : cs = #[.int .u8 (kd.toNat : Int), .int .i64 nn, .string ss]) (hn : n ≤ 1000000) (hbase : base ≤ w0.heap.size)
    (h : ∀ v' w', w'.ownsRow base 83 3 v' (n + 1) (vcells (vs ++ [⟨kd, nn, ss⟩])) → Below base w0 w' → wpList Try.prog ops Q rest (a.put o.dst v') w') : wpList Try.prog ops Q (o :: rest) a (w0.alloc (.cells cs 83 mk)) := by
  subst hcs
  obtain ⟨i0, hi0, hz0, hz1, hz2⟩ := info_parts infoV
  have hr : Rd (w0.alloc (.cells #[.int .u8 (kd.toNat : Int), .int .i64 nn, .string ss] 83 mk)) (w0.heap.size + 1) 3 (some ⟨w0.heap.size, 0, none⟩) 1 (vcells [⟨kd, nn, ss⟩]) := by
    have := Rd.lit w0 83 (vcells [⟨kd, nn, ss⟩]) mk
    refine ⟨rfl, fun _ => ?_⟩
    exact this.2 (by show 0 < 3; omega)
  refine wpList_append_rd (w0.alloc _) hgd s x 67 ho base 83 i0 _ 3 32 Try.underlying67 hi0 hz0 hz1 hz2 rfl (by omega) v n _ hs (hown.alloc _) _ _ 1 c _ hx hr (vcells_one _) (by unfold maxLen; omega) (by omega) (by simp; omega) ?_
  intro v' w' h1 h2 h3
  rw [← vcells_append] at h1
  exact h v' w' h1 (((Below.refl _ _).alloc hbase _).trans h2)

/-- What the first half of a round leaves. -/
def Half (w : World) (rest : List UInt8) (u8 : Value) (k : Nat) (vs : List Cell.Val) (p : Value) (wx : World) : Prop :=
  ∃ (g : Nat) (kd : UInt8) (nn : Int) (ss : ByteArray) (rest' : List UInt8) (wh : Bool), p = .pointer (some ⟨g, 0, none⟩) ∧ w.heap.size + 3 ≤ g ∧ Blk wx g 83 #[.int .u8 (kd.toNat : Int), .int .i64 nn, .string ss] ∧ SI w wx rest' wh ∧ wx.ownsRow (w.heap.size + 3) 83 3 u8 k (vcells vs) ∧ Got rest kd nn ss rest' wh
theorem own_far {w : World} {base : Nat} {e : TypeId} {size n : Nat} {v : Value} {xs : List Value} {g i : Nat} {u : Value} (h : w.ownsRow base e size v n xs) (hg : v.ownBlock ≠ some g) : (w.setCell ⟨g, i, none⟩ u).ownsRow base e size v n xs :=
  own_agree h fun k hk => Below.heap_setCell w ⟨g, i, none⟩ u k (fun e => hg (by have e' : k = g := e; rw [← e']; exact hk))

set_option maxRecDepth 8000 in
set_option maxHeartbeats 4000000 in
theorem read_any (A : Option Addr) (n c : Nat) (l : List UInt8) (w : World) (hl : Rb w w.heap.size A n l) (hc : n ≤ c) (hcm : c ≤ 9223372036854775807) :
    Calls Try.prog 39 #[.slice A n c] w (RE w (Cell.read l)) := by
  have HL := hide hl
  have HN := hide hl.len
  clear hl
  by_cases hn : 480 < n
  · have HP : Hid (Cell.read l = none) := by show _ = _; unfold Cell.read; rw [if_pos (by rw [HN.out]; exact hn)]
    have t1 : decide ((480 : Int) < (n : Int)) = true := by simp; omega
    go_enter Try.func39, Try.ntmps39
    go_wp2_with fail
    go_ret2
    exact RE.err HP.out ((Below.refl _ _).alloc (Nat.le_refl _) _)
  · have t1 : decide ((480 : Int) < (n : Int)) = false := by simp; omega
    go_enter Try.func39, Try.ntmps39
    go_wp2_with fail
    refine (long_si 1 w _ l true (by omega) (si_start A n c l w HL.out hc hcm)).mono ?_
    rintro e w1 ⟨rfl, hs1, -⟩
    have HS1 := hide hs1
    have hwh1 := hs1.wh
    clear hs1
    cases l with
    | nil =>
      have HP : Hid (Cell.read [] = none) := by show _ = _; unfold Cell.read; rw [if_neg (by simp)]
      have hb : Cell.beN (List.take 1 []) = 0 := rfl
      simp only [List.length_nil, show decide (1 ≤ 0) = false from rfl, Bool.and_false] at hwh1
      simp only [hb]
      go_wp2_with fail
      go_ret2
      exact RE.err HP.out HS1.out.bel
    | cons ct tl =>
      have hb : Cell.beN (List.take 1 (ct :: tl)) = ct.toNat := by simp [Cell.beN]
      simp only [List.length_cons, show decide (1 ≤ tl.length + 1) = true by simp, Bool.and_true] at hwh1
      simp only [hb]
      have hwr : wrap64 (ct.toNat : Int) = (ct.toNat : Int) := by have := ct.toNat_lt; unfold wrap64; omega
      by_cases hct : 12 < ct.toNat
      · have t2 : decide ((12 : Int) < (ct.toNat : Int)) = true := by simp; omega
        have HP : Hid (Cell.read (ct :: tl) = none) := by show _ = _; unfold Cell.read; rw [if_neg (by rw [HN.out]; exact hn)]; simp only; rw [if_pos hct]
        go_wp2_with fail
        go_ret2
        exact RE.err HP.out HS1.out.bel
      · have t2 : decide ((12 : Int) < (ct.toNat : Int)) = false := by simp; omega
        have HS : Hid (SI w w1 tl true) := by
          have := HS1.out
          simp only [List.length_cons, show decide (1 ≤ tl.length + 1) = true by simp, Bool.and_true] at this
          exact this
        clear HS1
        go_wp2_with fail
        clear hb t2 t1 hwr hwh1
        go_loopg [8, 25] ct.toNat (fun g v i wr => ∃ (k : Nat) (rest : List UInt8) (vs : List Cell.Val), k ≤ ct.toNat ∧ g = ct.toNat - k ∧ i = .int .i64 (k : Nat) ∧ SI w wr rest true ∧ wr.ownsRow (w.heap.size + 3) 83 3 v k (vcells vs) ∧ Cell.readN ct.toNat tl = (Cell.readN (ct.toNat - k) rest).map (fun p => (vs ++ p.1, p.2)) ∧ ∀ v ∈ vs, v.s.size ≤ maxLen ∧ -9223372036854775808 ≤ v.n ∧ v.n ≤ 9223372036854775807)
        case atStart => exact ⟨0, tl, [], Nat.zero_le _, rfl, rfl, HS.out, own_nil _ _ _ _, by simp, fun v hv => by cases hv⟩
        case round =>
          obtain ⟨k, rest, vs, hk, rfl, rfl, hsi, hown, hrd, hvs⟩ := hrel
          have HS2 := hide hsi
          have HO := hide hown
          have HR := hide hrd
          have HV := hide hvs
          clear hsi hown hrd hvs HS
          by_cases hlt : k < ct.toNat
          · have hltI : (k : Int) < (ct.toNat : Int) := by omega
            go_wp2_with fail
            refine (long_si 1 w _ rest true (by omega) HS2.out).mono ?_
            rintro e w2 ⟨rfl, hs2, hu2⟩
            have hrk : ∃ (kd : UInt8) (l1 : List UInt8) (wh1 : Bool), Cell.beN (rest.take 1) = kd.toNat ∧ SI w w2 l1 wh1 ∧ (wh1 = true → rest = kd :: l1) ∧ (wh1 = false → rest = [] ∧ kd = 0) := by
              cases rest with
              | nil => exact ⟨0, [], false, rfl, hs2, fun h => (by cases h), fun _ => ⟨rfl, rfl⟩⟩
              | cons kd l1 =>
                simp only [List.length_cons, show decide (1 ≤ l1.length + 1) = true by simp, Bool.and_true] at hs2
                exact ⟨kd, l1, true, by simp [Cell.beN], hs2, fun _ => rfl, fun h => (by cases h)⟩
            obtain ⟨kd, l1, wh1, hkd, hs3, hr1, hr2⟩ := hrk
            rw [hkd]
            have hkl := kd.toNat_lt
            have hk0 : kd.toNat ≠ 0 → wh1 = true := fun h => by
              cases wh1
              · exact absurd (congrArg UInt8.toNat (hr2 rfl).2) h
              · rfl
            have HS3 := hide hs3
            have HO2 := hide (hu2.own HO.out)
            have HO3 := hide (own_pos (hu2.own HO.out))
            have hsz2 := hs3.size
            have HK := hide (And.intro hr1 (And.intro hr2 hk0))
            clear hs2 hs3 hu2 hkd hr1 hr2 hk0 HO HS2 HO3
            go_upto_block 2 with fail
            go_cut [9] (fun p wx => Half w rest u8 k vs p wx)
            case first =>
              have HB0 : Hid (Blk (w2.alloc (.cells #[.int .u8 (kd.toNat : Int), .int .i64 0, .string ByteArray.empty] 83)) w2.heap.size 83 #[.int .u8 (kd.toNat : Int), .int .i64 0, .string ByteArray.empty]) := Blk.new _ _ _
              have HN2 : Hid (u8.ownBlock ≠ some w2.heap.size) := fun e => Nat.lt_irrefl _ (HO2.out.lt _ e).2
              by_cases h1 : kd.toNat = 1
              · have hwh : wh1 = true := HK.out.2.2 (by omega)
                subst hwh
                have HE := hide (HK.out.1 rfl)
                have HG := hide (got_one (l1 := l1) h1)
                have t1 : ((kd.toNat : Int) == 1) = true := by simp; omega
                have t2 : ((kd.toNat : Int) == 2) = false := by simp; omega
                have t3 : ((kd.toNat : Int) == 3) = false := by simp; omega
                have t4 : ((kd.toNat : Int) == 4) = false := by simp; omega
                have t5 : ((kd.toNat : Int) == 5) = false := by simp; omega
                clear h1 HK
                go_wp2_with fail
                refine (long_si 1 w _ l1 true (by omega) (HS3.out.alloc _)).mono ?_
                rintro e w3 ⟨rfl, hs4, hu4⟩
                have hb3 := hu4.blk HB0.out (by omega)
                have HB3 := hide hb3
                have HU4 := hide hu4
                have HS4 := hide hs4
                have c31 : w3.cell? ⟨w2.heap.size, 1, none⟩ = some (.int .i64 0) := hb3.cell 1
                have f31 := hb3.frozen 1
                have l31 := hb3.lt
                clear hb3 hu4 hs4
                go_wp2_with fail
                go_meet
                rw [HE.out]
                refine ⟨w2.heap.size, kd, _, ByteArray.empty, _, _, rfl, hsz2, HB3.out.put 1 _, HS4.out.put hsz2 _, own_far (HU4.out.own (HO2.out.alloc _)) HN2.out, HG.out⟩
              by_cases h2 : kd.toNat = 2
              · have hwh : wh1 = true := HK.out.2.2 (by omega)
                subst hwh
                have HE := hide (HK.out.1 rfl)
                have HG := hide (got_eight (l1 := l1) (Or.inl h2))
                have t1 : ((kd.toNat : Int) == 1) = false := by simp; omega
                have t2 : ((kd.toNat : Int) == 2) = true := by simp; omega
                have t3 : ((kd.toNat : Int) == 3) = false := by simp; omega
                have t4 : ((kd.toNat : Int) == 4) = false := by simp; omega
                have t5 : ((kd.toNat : Int) == 5) = false := by simp; omega
                clear h1 h2 HK
                go_wp2_with fail
                refine (long_si 8 w _ l1 true (by omega) (HS3.out.alloc _)).mono ?_
                rintro e w3 ⟨rfl, hs4, hu4⟩
                have hb3 := hu4.blk HB0.out (by omega)
                have HB3 := hide hb3
                have HU4 := hide hu4
                have HS4 := hide hs4
                have c31 : w3.cell? ⟨w2.heap.size, 1, none⟩ = some (.int .i64 0) := hb3.cell 1
                have f31 := hb3.frozen 1
                have l31 := hb3.lt
                clear hb3 hu4 hs4
                go_wp2_with fail
                go_meet
                rw [HE.out]
                refine ⟨w2.heap.size, kd, _, ByteArray.empty, _, _, rfl, hsz2, HB3.out.put 1 _, HS4.out.put hsz2 _, own_far (HU4.out.own (HO2.out.alloc _)) HN2.out, HG.out⟩
              by_cases h3 : kd.toNat = 3
              · have hwh : wh1 = true := HK.out.2.2 (by omega)
                subst hwh
                have HE := hide (HK.out.1 rfl)
                have HG := hide (got_eight (l1 := l1) (Or.inr h3))
                have t1 : ((kd.toNat : Int) == 1) = false := by simp; omega
                have t2 : ((kd.toNat : Int) == 2) = false := by simp; omega
                have t3 : ((kd.toNat : Int) == 3) = true := by simp; omega
                have t4 : ((kd.toNat : Int) == 4) = false := by simp; omega
                have t5 : ((kd.toNat : Int) == 5) = false := by simp; omega
                clear h1 h2 h3 HK
                go_wp2_with fail
                refine (long_si 8 w _ l1 true (by omega) (HS3.out.alloc _)).mono ?_
                rintro e w3 ⟨rfl, hs4, hu4⟩
                have hb3 := hu4.blk HB0.out (by omega)
                have HB3 := hide hb3
                have HU4 := hide hu4
                have HS4 := hide hs4
                have c31 : w3.cell? ⟨w2.heap.size, 1, none⟩ = some (.int .i64 0) := hb3.cell 1
                have f31 := hb3.frozen 1
                have l31 := hb3.lt
                clear hb3 hu4 hs4
                go_wp2_with fail
                go_meet
                rw [HE.out]
                refine ⟨w2.heap.size, kd, _, ByteArray.empty, _, _, rfl, hsz2, HB3.out.put 1 _, HS4.out.put hsz2 _, own_far (HU4.out.own (HO2.out.alloc _)) HN2.out, HG.out⟩
              by_cases h4 : kd.toNat = 4
              · have hwh : wh1 = true := HK.out.2.2 (by omega)
                subst hwh
                have HE := hide (HK.out.1 rfl)
                have HG := hide (got_text (l1 := l1) (Or.inl h4))
                have t1 : ((kd.toNat : Int) == 1) = false := by simp; omega
                have t2 : ((kd.toNat : Int) == 2) = false := by simp; omega
                have t3 : ((kd.toNat : Int) == 3) = false := by simp; omega
                have t4 : ((kd.toNat : Int) == 4) = true := by simp; omega
                have t5 : ((kd.toNat : Int) == 5) = false := by simp; omega
                clear h1 h2 h3 h4 HK
                have hfn := HS3.out.fnc
                have hfl : w.heap.size + 1 + 1 < w2.heap.size := by omega
                obtain ⟨K1, hK1⟩ : ∃ K1, K1 = Cell.beN (l1.take 1) := ⟨_, rfl⟩
                have hK2 : K1 < 256 := by rw [hK1]; have := Cell.beN_lt (l1.take 1); have h2 : (l1.take 1).length ≤ 1 := by rw [List.length_take]; omega
                                          exact Nat.lt_of_lt_of_le this (Nat.le_trans (Nat.pow_le_pow_right (by omega) h2) (by decide))
                have HK3 : Hid (IntKind.i64.wrap (K1 : Int) = (K1 : Int)) := by show _ = _; rw [IntKind.wrap_i64]; omega
                have HK1 := hide hK1
                rw [← hK1] at HG
                obtain ⟨T, hT⟩ : ∃ T, T = (l1.drop 1).take K1 := ⟨_, rfl⟩
                have HT := hide hT
                rw [← hT] at HG
                clear hK1 hT
                go_wp2_with fail
                go_region_with (first | (go_at_call 54; refine (long_si 1 w _ l1 true (by omega) ((HS3.out.alloc _).below (below_dr _ _))).mono ?_; rintro e w3 ⟨rfl, hs4, hu4⟩; rw [← HK1.out]; have HU4 := hide hu4; have HS4 := hide hs4; have hf3 := hs4.fnc; clear hu4 hs4) | (go_at_call 53; rw [HK3.out]; refine (take_si K1 w w3 _ _ HS4.out).mono ?_; rintro e w4 ⟨A4, c4, rfl, hr4, hs5, hu5⟩; rw [← HT.out] at hr4 ⊢; have hb4 := hu5.blk (HU4.out.blk HB0.out (by omega)) (by omega); have HB4 := hide hb4; have HU5 := hide hu5; have HS5 := hide hs5; have h41 : w4.cell? ⟨w2.heap.size, 2, none⟩ = some (.string ByteArray.empty) := hb4.cell 2; have h42 := hb4.frozen 2; have h43 := hb4.lt; have hrs := hr4.run_string (P := Try.prog) 22 5 9 c4 Try.underlying22 Try.underlying5 Try.underlying9; clear hu5 hs5 hr4 hb4))
                all_goals (try go_wp2_with fail)
                all_goals go_meet
                all_goals rw [HE.out]
                all_goals exact ⟨w2.heap.size, kd, 0, ⟨T.toArray⟩, _, _, rfl, hsz2, HB4.out.put 2 _, HS5.out.put hsz2 _, own_far (HU5.out.own (HU4.out.own (own_agree (HO2.out.alloc _) fun _ _ => rfl))) HN2.out, HG.out⟩
              by_cases h5 : kd.toNat = 5
              · have hwh : wh1 = true := HK.out.2.2 (by omega)
                subst hwh
                have HE := hide (HK.out.1 rfl)
                have HG := hide (got_text (l1 := l1) (Or.inr h5))
                have t1 : ((kd.toNat : Int) == 1) = false := by simp; omega
                have t2 : ((kd.toNat : Int) == 2) = false := by simp; omega
                have t3 : ((kd.toNat : Int) == 3) = false := by simp; omega
                have t4 : ((kd.toNat : Int) == 4) = false := by simp; omega
                have t5 : ((kd.toNat : Int) == 5) = true := by simp; omega
                clear h1 h2 h3 h4 h5 HK
                have hfn := HS3.out.fnc
                have hfl : w.heap.size + 1 + 1 < w2.heap.size := by omega
                obtain ⟨K1, hK1⟩ : ∃ K1, K1 = Cell.beN (l1.take 1) := ⟨_, rfl⟩
                have hK2 : K1 < 256 := by rw [hK1]; have := Cell.beN_lt (l1.take 1); have h2 : (l1.take 1).length ≤ 1 := by rw [List.length_take]; omega
                                          exact Nat.lt_of_lt_of_le this (Nat.le_trans (Nat.pow_le_pow_right (by omega) h2) (by decide))
                have HK3 : Hid (IntKind.i64.wrap (K1 : Int) = (K1 : Int)) := by show _ = _; rw [IntKind.wrap_i64]; omega
                have HK1 := hide hK1
                rw [← hK1] at HG
                obtain ⟨T, hT⟩ : ∃ T, T = (l1.drop 1).take K1 := ⟨_, rfl⟩
                have HT := hide hT
                rw [← hT] at HG
                clear hK1 hT
                go_wp2_with fail
                go_region_with (first | (go_at_call 54; refine (long_si 1 w _ l1 true (by omega) ((HS3.out.alloc _).below (below_dr _ _))).mono ?_; rintro e w3 ⟨rfl, hs4, hu4⟩; rw [← HK1.out]; have HU4 := hide hu4; have HS4 := hide hs4; have hf3 := hs4.fnc; clear hu4 hs4) | (go_at_call 53; rw [HK3.out]; refine (take_si K1 w w3 _ _ HS4.out).mono ?_; rintro e w4 ⟨A4, c4, rfl, hr4, hs5, hu5⟩; rw [← HT.out] at hr4 ⊢; have hb4 := hu5.blk (HU4.out.blk HB0.out (by omega)) (by omega); have HB4 := hide hb4; have HU5 := hide hu5; have HS5 := hide hs5; have h41 : w4.cell? ⟨w2.heap.size, 2, none⟩ = some (.string ByteArray.empty) := hb4.cell 2; have h42 := hb4.frozen 2; have h43 := hb4.lt; have hrs := hr4.run_string (P := Try.prog) 22 5 9 c4 Try.underlying22 Try.underlying5 Try.underlying9; clear hu5 hs5 hr4 hb4))
                all_goals (try go_wp2_with fail)
                all_goals go_meet
                all_goals rw [HE.out]
                all_goals exact ⟨w2.heap.size, kd, 0, ⟨T.toArray⟩, _, _, rfl, hsz2, HB4.out.put 2 _, HS5.out.put hsz2 _, own_far (HU5.out.own (HU4.out.own (own_agree (HO2.out.alloc _) fun _ _ => rfl))) HN2.out, HG.out⟩
              have t1 : ((kd.toNat : Int) == 1) = false := by simp; omega
              have t2 : ((kd.toNat : Int) == 2) = false := by simp; omega
              have t3 : ((kd.toNat : Int) == 3) = false := by simp; omega
              have t4 : ((kd.toNat : Int) == 4) = false := by simp; omega
              have t5 : ((kd.toNat : Int) == 5) = false := by simp; omega
              have HG : Hid (Got rest kd 0 ByteArray.empty l1 wh1) := by
                cases wh1
                · exact got_short (by rw [(HK.out.2.1 rfl).1]; rfl)
                · rw [HK.out.1 rfl]; exact got_else h1 h2 h3 h4 h5
              clear h1 h2 h3 h4 h5 HK
              go_wp2_with fail
              go_meet
              exact ⟨w2.heap.size, kd, 0, ByteArray.empty, _, _, rfl, hsz2, HB0.out, HS3.out.alloc _, HO2.out.alloc _, HG.out⟩
            case rest =>
              obtain ⟨g, kd', nn, ss, rest', wh, rfl, hg, hbk, hsi, hown, hgot⟩ := hcut
              clear HS3 HO2 HK
              have hwc := hsi.wh
              have HSI := hide hsi
              have HO3 := hide hown
              have HG := hide hgot
              have c0 : wc.cell? ⟨g, 0, none⟩ = some (.int .u8 (kd'.toNat : Int)) := hbk.cell 0
              have c1 : wc.cell? ⟨g, 1, none⟩ = some (.int .i64 nn) := hbk.cell 1
              have c2 : wc.cell? ⟨g, 2, none⟩ = some (.string ss) := hbk.cell 2
              have hgl := hbk.lt
              have HBK := hide hbk
              clear hbk hsi hown hgot
              cases wh with
              | false =>
                have HP := hide (read_stop HR.out (readN_short hlt HG.out.short))
                go_wp2_with fail
                go_ret2
                exact RE.err HP.out HSI.out.bel
              | true =>
                go_wp2_with fail
                refine (right_any kd' nn ss wc).mono ?_
                rintro e w4 ⟨rfl, hb4⟩
                have HB4 := hide hb4
                have hsz4 := hb4.size
                have HBK4 := hide (HBK.out.below hb4 hgl)
                have d0 : w4.cell? ⟨g, 0, none⟩ = some (.int .u8 (kd'.toNat : Int)) := HBK4.out.cell 0
                have d1 : w4.cell? ⟨g, 1, none⟩ = some (.int .i64 nn) := HBK4.out.cell 1
                have d2 : w4.cell? ⟨g, 2, none⟩ = some (.string ss) := HBK4.out.cell 2
                have HO4 := hide (own_below HO3.out hb4)
                have HSI4 := hide (HSI.out.below (hb4.mono (by omega)))
                have hbs := HSI4.out.size
                clear hb4 c0 c1 c2 HBK HBK4 hwc
                cases hr : Cell.rightB ⟨kd', nn, ss⟩ with
                | false =>
                  have HP := hide (read_stop HR.out (readN_wrong hlt HG.out.ok.1 hr))
                  clear hr
                  go_wp2_with fail
                  go_ret2
                  exact RE.err HP.out HSI4.out.bel
                | true =>
                  have HN := hide (readN_next HR.out hlt HG.out.ok.1 hr)
                  clear hr
                  go_wp2_with (at_builtin; refine wpList_appV rfl (.tmp 63) (.tmp 65) rfl (w.heap.size + 3) _ k vs rfl HO4.out _ kd' nn ss rfl rfl (by omega) (by omega) ?_; intro v5 w5 hown5 hb5; have HO5 := hide hown5; have HB5 := hide hb5; clear hown5 hb5)
                  go_roundg (ct.toNat - (k + 1))
                  case measure => omega
                  case rel =>
                    refine ⟨k + 1, rest', vs ++ [⟨kd', nn, ss⟩], by omega, rfl, by go_num, HSI4.out.below HB5.out, HO5.out, HN.out, ?_⟩
                    intro v hv
                    rcases List.mem_append.1 hv with hv | hv
                    · exact HV.out v hv
                    · rw [List.mem_singleton.1 hv]
                      exact ⟨by have := HG.out.ok.2.1; show ss.size ≤ maxLen; unfold maxLen; omega, HG.out.ok.2.2⟩
          · obtain rfl : k = ct.toNat := by omega
            obtain ⟨A6, c6, hleft⟩ := HS2.out.left
            obtain ⟨A7, c7, rfl⟩ := own_sl HO.out
            cases rest with
            | nil =>
              have HD := hide (read_done HR.out (by rw [HN.out]; exact hn) hct)
              have HL2 := hide (own_vals HO.out)
              go_wp2_with fail
              go_ret2
              refine ⟨_, _, rfl, by rw [HD.out]; rfl, ?_, HS2.out.bel, by rw [HD.out]; exact HV.out⟩
              rw [HD.out]
              show World.ownsRow _ _ _ _ _ vs.length (vcells vs)
              rw [HL2.out]
              exact own_base HO.out (by omega)
            | cons x r =>
              have HD := hide (read_left HR.out)
              have t3 : decide ((0 : Int) < ((x :: r).length : Int)) = true := by simp
              go_wp2_with fail
              go_ret2
              exact RE.err HD.out HS2.out.bel
end Go.Proofs.Ytnieenlnpnaamaa
