/-
  The walk of chanceryref18.Read: it is Cell.refRead. Conditions: the bytes read as a list, of a length within the reach.
-/
import Derived.Test.YtnieenlnpnaamaaRefReadMath
import Derived.Test.YtnieenlnpnaamaaRefRow
import Derived.Test.YtnieenlnpnaamaaNext
namespace Go.Proofs.Ytnieenlnpnaamaa
open Go.RowKit

def BV (v : Cell.Val) : Prop := v.s.size ≤ maxLen ∧ -9223372036854775808 ≤ v.n ∧ v.n ≤ 9223372036854775807
/-- What holds at the head of a round. -/
def RR (w : World) (l : List UInt8) (ct : UInt8) (tl : List UInt8) (m pos : Nat) (vs : List Cell.Val) (v : Value) (wr : World) : Prop :=
  pos ≤ l.length ∧ vs.length + m = ct.toNat ∧ wr.ownsRow w.heap.size 83 3 v vs.length (vcells vs) ∧ Below w.heap.size w wr ∧ Cell.rawN ct.toNat tl = (Cell.rawN m (l.drop pos)).map (fun p => (vs ++ p.1, p.2)) ∧ ∀ v ∈ vs, BV v
theorem Rb.mid {w : World} {B : Nat} {A : Option Addr} {n c k sz : Nat} {l : List UInt8} (h : Rb w B A n l) (hk : k + sz ≤ n) (hc : n ≤ c) : Rb w B (if c = k then A else A.map (·.add k)) sz ((l.drop k).take sz) := (h.cut (by omega) hc).take (by omega)

theorem wpList_appG {ops : Array Oper} {rest : List Oper} {o : Oper} {a : Act} {Q : Exit → Act → World → Prop} {w0 : World} {cs : Array Value} {mk : Nat × Nat} {t : TypeId} (ht : Try.prog.underlying t = some (.slice 83)) (hgd : o.guard = none) (s x : Operand)
    (ho : o.op = .call { callee := .builtin .append, args := #[s, x], argTypes := #[t, t] })
    (base : Nat) (v : Value) (n : Nat) (vs : List Cell.Val) (hs : a.eval s = v) (hown : w0.ownsRow base 83 3 v n (vcells vs))
    (c : Nat) (kd : UInt8) (nn : Int) (ss : ByteArray) (g : Nat) (hg : g = w0.heap.size) (hx : a.eval x = .slice (some ⟨g, 0, none⟩) 1 c) (hcs : cs = #[.int .u8 (kd.toNat : Int), .int .i64 nn, .string ss]) (hn : (n + 1) * 32 ≤ 140737488355328) (hbase : base ≤ w0.heap.size)
    (h : ∀ v' w', w'.ownsRow base 83 3 v' (n + 1) (vcells (vs ++ [⟨kd, nn, ss⟩])) → Below base w0 w' → wpList Try.prog ops Q rest (a.put o.dst v') w') : wpList Try.prog ops Q (o :: rest) a (w0.alloc (.cells cs 83 mk)) := by
  subst hg
  exact wpList_appW ht hgd s x ho base v n vs hs hown c kd nn ss hx hcs hn hbase h
theorem mul8 (x : Nat) (c : UInt8) (hx : x < 72057594037927936) : IntKind.u64.wrap (IntKind.u64.wrap ((x : Int) * 256) + (c.toNat : Int)) = ((x * 256 + c.toNat : Nat) : Int) := by
  have := c.toNat_lt
  rw [IntKind.wrap_u64, IntKind.wrap_u64]
  omega

set_option maxRecDepth 8000 in
set_option maxHeartbeats 4000000 in
theorem refRead_any (A : Option Addr) (n c : Nat) (l : List UInt8) (w : World) (hl : Rb w w.heap.size A n l) (hc : n ≤ c) (hcm : c ≤ 140737488355328) :
    Calls Try.prog 44 #[.slice A n c] w (RE w (Cell.refRead l)) := by
  have HL := hide hl
  have HN := hide hl.len
  cases l with
  | nil =>
    have HP : Hid (Cell.refRead [] = none) := rfl
    obtain rfl : n = 0 := hl.len.symm
    clear hl HN
    go_enter Try.func44, Try.ntmps44
    go_wp2_with fail
    go_ret2
    exact RE.err HP.out (Below.refl _ _)
  | cons ct tl =>
    have hn0 : 0 < n := by rw [← hl.len]; simp
    obtain ⟨b, off, c0, rfl, hb, hc0, hcell⟩ := hl.at hn0
    obtain rfl : ct = c0 := by simpa using hc0
    rw [Nat.add_zero] at hcell
    have t0 : ((n : Int) == 0) = false := by simp; omega
    have hcl := ct.toNat_lt
    clear hl hc0
    go_enter Try.func44, Try.ntmps44
    go_wp2_with fail
    clear t0 hcell
    go_loopg [4, 5, 6] ct.toNat (fun g v a i wr => ∃ (pos : Nat) (vs : List Cell.Val), i = .int .i64 (g : Nat) ∧ a = .int .i64 (pos : Nat) ∧ RR w (ct :: tl) ct tl g pos vs v wr)
    case atStart => exact ⟨1, [], rfl, rfl, by simp, by simp, own_nil _ _ _ _, Below.refl _ _, by simp, fun v hv => by cases hv⟩
    case round =>
      obtain ⟨pos, vs, rfl, rfl, hpos, hm, hown, hbel, hraw, hvs⟩ := hrel
      have HO := hide hown
      have HB := hide hbel
      have HW := hide hraw
      have HV := hide hvs
      have hsz := hbel.size
      clear hown hbel hraw hvs
      rw [HN.out] at hpos
      by_cases hm0 : 0 < gk
      · by_cases hp : pos < n
        · obtain ⟨b', off', kd, he, _, hkd, hcell⟩ := (HL.out.below HB.out (Nat.le_refl _)).at hp
          injection he with he
          injection he with e1 e2
          subst e1 e2
          have hdr : (ct :: tl).drop pos = kd :: (ct :: tl).drop (pos + 1) := by
            obtain ⟨hlt, hk⟩ := List.getElem?_eq_some_iff.1 hkd
            rw [List.drop_eq_getElem_cons hlt, hk]
          rw [hdr] at HW
          obtain ⟨l1, hl1⟩ : ∃ x, x = (ct :: tl).drop (pos + 1) := ⟨_, rfl⟩
          have hl1n : l1.length = n - (pos + 1) := by rw [hl1, List.length_drop, HN.out]
          have hl1l : l1.length + pos + 1 = n := by omega
          have HD := hide hl1
          rw [← hl1] at HW
          have hkl := kd.toNat_lt
          have t0 : decide (n ≤ pos) = false := by simp; omega
          have hbr : b < wr.heap.size := by omega
          have HLr := hide (HL.out.below HB.out (Nat.le_refl _))
          have t1 : decide ((0 : Int) < (gk : Int)) = true := by simp; omega
          clear hkd hdr hl1 hl1n
          by_cases he : (kd.toNat = 4 ∨ kd.toNat = 5) ∧ n ≤ pos + 1
          · have hl1e : l1 = [] := List.eq_nil_of_length_eq_zero (by omega)
            have HE : Hid (Cell.refRead (ct :: tl) = none) := refRead_stop HW.out (rawN_none (by rw [hl1e]; rcases he.1 with h | h <;> (unfold Cell.readV; simp only [h])) hm0)
            have te : decide ((n : Int) ≤ (pos : Int) + 1) = true := by simp; omega
            clear hl1e
            by_cases h4 : kd.toNat = 4
            · have hk0 := he.1
              have q1 : ((kd.toNat : Int) == 1) = false := by simp; omega
              have q2 : ((kd.toNat : Int) == 2) = false := by simp; omega
              have q3 : ((kd.toNat : Int) == 3) = false := by simp; omega
              have q4 : ((kd.toNat : Int) == 4) = true := by simp; omega
              have q5 : ((kd.toNat : Int) == 5) = false := by simp; omega
              clear hk0 he h4
              go_wp2_with fail
              go_ret2
              exact RE.err HE.out (HB.out.alloc hsz _)
            · have hk0 := he.1
              have q1 : ((kd.toNat : Int) == 1) = false := by simp; omega
              have q2 : ((kd.toNat : Int) == 2) = false := by simp; omega
              have q3 : ((kd.toNat : Int) == 3) = false := by simp; omega
              have q4 : ((kd.toNat : Int) == 4) = false := by simp; omega
              have q5 : ((kd.toNat : Int) == 5) = true := by simp; omega
              clear hk0 he h4
              go_wp2_with fail
              go_ret2
              exact RE.err HE.out (HB.out.alloc hsz _)
          · go_upto_block 2 with fail
            go_cut [5, 8] (fun a s wx => ∃ d sz : Nat, a = .int .i64 ((pos + 1 + d : Nat) : Int) ∧ s = .int .i64 (sz : Nat) ∧ Hd kd l1 d sz ∧ wx = wr.alloc (.cells #[.int .u8 (kd.toNat : Int), .int .i64 0, .string ⟨#[]⟩] 83))
            case first =>
              by_cases h1 : kd.toNat = 1
              · have HH : Hid (Hd kd l1 0 1) := Or.inl ⟨h1, rfl, rfl⟩
                have q1 : ((kd.toNat : Int) == 1) = true := by simp; omega
                have q2 : ((kd.toNat : Int) == 2) = false := by simp; omega
                have q3 : ((kd.toNat : Int) == 3) = false := by simp; omega
                have q4 : ((kd.toNat : Int) == 4) = false := by simp; omega
                have q5 : ((kd.toNat : Int) == 5) = false := by simp; omega
                clear h1 he
                go_wp2_with fail
                go_meet
                exact ⟨0, 1, rfl, rfl, HH.out, rfl⟩
              by_cases h2 : kd.toNat = 2
              · have HH : Hid (Hd kd l1 0 8) := Or.inr (Or.inl ⟨Or.inl h2, rfl, rfl⟩)
                have q1 : ((kd.toNat : Int) == 1) = false := by simp; omega
                have q2 : ((kd.toNat : Int) == 2) = true := by simp; omega
                have q3 : ((kd.toNat : Int) == 3) = false := by simp; omega
                have q4 : ((kd.toNat : Int) == 4) = false := by simp; omega
                have q5 : ((kd.toNat : Int) == 5) = false := by simp; omega
                clear h2 he
                go_wp2_with fail
                go_meet
                exact ⟨0, 8, rfl, rfl, HH.out, rfl⟩
              by_cases h3 : kd.toNat = 3
              · have HH : Hid (Hd kd l1 0 8) := Or.inr (Or.inl ⟨Or.inr h3, rfl, rfl⟩)
                have q1 : ((kd.toNat : Int) == 1) = false := by simp; omega
                have q2 : ((kd.toNat : Int) == 2) = false := by simp; omega
                have q3 : ((kd.toNat : Int) == 3) = true := by simp; omega
                have q4 : ((kd.toNat : Int) == 4) = false := by simp; omega
                have q5 : ((kd.toNat : Int) == 5) = false := by simp; omega
                clear h3 he
                go_wp2_with fail
                go_meet
                exact ⟨0, 8, rfl, rfl, HH.out, rfl⟩
              by_cases h4 : kd.toNat = 4
              · have hnp : pos + 1 < n := by omega
                obtain ⟨b2, off2, c2, hee, _, hc2, hcell2⟩ := HLr.out.at hnp
                injection hee with hee
                injection hee with e1 e2
                subst e1 e2
                have HH : Hid (Hd kd l1 1 c2.toNat) := by
                  refine Or.inr (Or.inr (Or.inl ⟨Or.inl h4, rfl, c2, (ct :: tl).drop (pos + 1 + 1), ?_, rfl⟩))
                  rw [HD.out]
                  obtain ⟨hlt, hk⟩ := List.getElem?_eq_some_iff.1 hc2
                  rw [List.drop_eq_getElem_cons hlt, hk]
                have te : decide ((n : Int) ≤ (pos : Int) + 1) = false := by simp; omega
                have hc2l := c2.toNat_lt
                have q1 : ((kd.toNat : Int) == 1) = false := by simp; omega
                have q2 : ((kd.toNat : Int) == 2) = false := by simp; omega
                have q3 : ((kd.toNat : Int) == 3) = false := by simp; omega
                have q4 : ((kd.toNat : Int) == 4) = true := by simp; omega
                have q5 : ((kd.toNat : Int) == 5) = false := by simp; omega
                clear h4 he hc2
                go_wp2_with fail
                go_meet
                exact ⟨1, c2.toNat, rfl, rfl, HH.out, rfl⟩
              by_cases h5 : kd.toNat = 5
              · have hnp : pos + 1 < n := by omega
                obtain ⟨b2, off2, c2, hee, _, hc2, hcell2⟩ := HLr.out.at hnp
                injection hee with hee
                injection hee with e1 e2
                subst e1 e2
                have HH : Hid (Hd kd l1 1 c2.toNat) := by
                  refine Or.inr (Or.inr (Or.inl ⟨Or.inr h5, rfl, c2, (ct :: tl).drop (pos + 1 + 1), ?_, rfl⟩))
                  rw [HD.out]
                  obtain ⟨hlt, hk⟩ := List.getElem?_eq_some_iff.1 hc2
                  rw [List.drop_eq_getElem_cons hlt, hk]
                have te : decide ((n : Int) ≤ (pos : Int) + 1) = false := by simp; omega
                have hc2l := c2.toNat_lt
                have q1 : ((kd.toNat : Int) == 1) = false := by simp; omega
                have q2 : ((kd.toNat : Int) == 2) = false := by simp; omega
                have q3 : ((kd.toNat : Int) == 3) = false := by simp; omega
                have q4 : ((kd.toNat : Int) == 4) = false := by simp; omega
                have q5 : ((kd.toNat : Int) == 5) = true := by simp; omega
                clear h5 he hc2
                go_wp2_with fail
                go_meet
                exact ⟨1, c2.toNat, rfl, rfl, HH.out, rfl⟩
              have HH : Hid (Hd kd l1 0 0) := Or.inr (Or.inr (Or.inr ⟨⟨h1, h2, h3, h4, h5⟩, rfl, rfl⟩))
              have q1 : ((kd.toNat : Int) == 1) = false := by simp; omega
              have q2 : ((kd.toNat : Int) == 2) = false := by simp; omega
              have q3 : ((kd.toNat : Int) == 3) = false := by simp; omega
              have q4 : ((kd.toNat : Int) == 4) = false := by simp; omega
              have q5 : ((kd.toNat : Int) == 5) = false := by simp; omega
              clear h1 h2 h3 h4 h5 he
              go_wp2_with fail
              go_meet
              exact ⟨0, 0, rfl, rfl, HH.out, rfl⟩
            case rest =>
              obtain ⟨d, sz, rfl, rfl, hhd, rfl⟩ := hcut
              have hle := hhd.le
              have HH := hide hhd
              obtain ⟨at1, hat⟩ : ∃ x, x = pos + 1 + d := ⟨_, rfl⟩
              have hat2 : at1 ≤ n := by omega
              have hat3 : (l1.drop d).length + at1 = n := by rw [List.length_drop]; omega
              have HAT : Hid (l1.drop d = (ct :: tl).drop at1) := by show _ = _; rw [HD.out, List.drop_drop, hat]
              have hsz8 : sz ≤ 255 := hle.2.2
              rw [← hat]
              clear he hhd hle hat hl1l
              by_cases hs : at1 + sz ≤ n
              · have ts : decide ((n : Int) < (at1 : Int) + (sz : Int)) = false := by simp; omega
                have ts2 : decide (n < at1 + sz) = false := by simp; omega
                obtain ⟨part, hpart⟩ : ∃ x, x = ((ct :: tl).drop at1).take sz := ⟨_, rfl⟩
                have hpl : part.length = sz := by rw [hpart, List.length_take, ← HAT.out]; omega
                have HRm : Hid (Rb (wr.alloc (.cells #[.int .u8 (kd.toNat : Int), .int .i64 0, .string ⟨#[]⟩] 83)) w.heap.size (if c = at1 then some ⟨b, off, none⟩ else (some ⟨b, off, none⟩ : Option Addr).map (·.add at1)) sz part) := by
                  rw [hpart]
                  exact (HLr.out.mid hs hc).keep fun p hp => World.cell?_alloc_lt wr _ p (by omega)
                have HBK : Hid (Blk (wr.alloc (.cells #[.int .u8 (kd.toNat : Int), .int .i64 0, .string ⟨#[]⟩] 83)) wr.heap.size 83 #[.int .u8 (kd.toNat : Int), .int .i64 0, .string ⟨#[]⟩]) := Blk.new _ _ _
                have HNB : Hid (u4.ownBlock ≠ some wr.heap.size) := fun e => Nat.lt_irrefl _ (HO.out.lt _ e).2
                have HP := hide hpart
                have HPl := hide hpl
                clear hpart hpl
                by_cases hk : kd.toNat = 4 ∨ kd.toNat = 5
                · have HT := hide (HH.out.text hk (by omega))
                  rw [HAT.out, ← HP.out, ← HAT.out] at HT
                  have HBV : Hid (BV ⟨kd, 0, ⟨part.toArray⟩⟩) := by
                    refine ⟨?_, by show (_ : Int) ≤ 0; omega, by show (0 : Int) ≤ _; omega⟩
                    show part.toArray.size ≤ maxLen
                    rw [List.size_toArray, HPl.out]; unfold maxLen; omega
                  by_cases hca : c = at1
                  · have HR2 := HRm
                    rw [if_pos hca] at HR2
                    have ec := HR2.out.run_string (P := Try.prog) 22 5 9 (0) Try.underlying22 Try.underlying5 Try.underlying9
                    subst hca
                    obtain rfl : sz = 0 := by omega
                    have hs' : (c : Int) ≤ (c : Int) + (0 : Int) := by omega
                    have hs2 : (c : Int) + (0 : Int) ≤ (c : Int) := by omega
                    by_cases h4 : kd.toNat = 4
                    · have hk0 := hk
                      have q1 : ((kd.toNat : Int) == 1) = false := by simp; omega
                      have q2 : ((kd.toNat : Int) == 2) = false := by simp; omega
                      have q3 : ((kd.toNat : Int) == 3) = false := by simp; omega
                      have q4 : ((kd.toNat : Int) == 4) = true := by simp; omega
                      have q5 : ((kd.toNat : Int) == 5) = false := by simp; omega
                      clear hk0 hk h4 HR2
                      go_wp2_with (at_builtin; refine wpList_appG Try.underlying67 rfl (.tmp 100) (.tmp 102) rfl w.heap.size _ vs.length vs rfl (HO.out.alloc _) 1 kd 0 ⟨part.toArray⟩ (wr.heap.size + 1) (by simp) rfl rfl (by omega) (by simp; omega) ?_; intro v5 w5 hown5 hb5; have HO5 := hide hown5; have HB5 := hide hb5; clear hown5 hb5)
                      go_roundg (gk - 1)
                      case measure => omega
                      case rel =>
                        refine ⟨c + 0, vs ++ [⟨kd, 0, ⟨part.toArray⟩⟩], by go_num, rfl, ?_⟩
                        refine ⟨by rw [HN.out]; exact hs, by simp; omega, by rw [List.length_append]; exact HO5.out, (HB.out.alloc hsz _).trans HB5.out, ?_, ?_⟩
                        · have := rawN_next (m := gk - 1) (by rw [show gk - 1 + 1 = gk by omega]; exact HW.out) HT.out
                          rw [this, HAT.out, List.drop_drop]
                        · intro v hv
                          rcases List.mem_append.1 hv with hv | hv
                          · exact HV.out v hv
                          · rw [List.mem_singleton.1 hv]
                            exact HBV.out
                    · have hk0 := hk
                      have q1 : ((kd.toNat : Int) == 1) = false := by simp; omega
                      have q2 : ((kd.toNat : Int) == 2) = false := by simp; omega
                      have q3 : ((kd.toNat : Int) == 3) = false := by simp; omega
                      have q4 : ((kd.toNat : Int) == 4) = false := by simp; omega
                      have q5 : ((kd.toNat : Int) == 5) = true := by simp; omega
                      clear hk0 hk h4 HR2
                      go_wp2_with (at_builtin; refine wpList_appG Try.underlying67 rfl (.tmp 100) (.tmp 102) rfl w.heap.size _ vs.length vs rfl (HO.out.alloc _) 1 kd 0 ⟨part.toArray⟩ (wr.heap.size + 1) (by simp) rfl rfl (by omega) (by simp; omega) ?_; intro v5 w5 hown5 hb5; have HO5 := hide hown5; have HB5 := hide hb5; clear hown5 hb5)
                      go_roundg (gk - 1)
                      case measure => omega
                      case rel =>
                        refine ⟨c + 0, vs ++ [⟨kd, 0, ⟨part.toArray⟩⟩], by go_num, rfl, ?_⟩
                        refine ⟨by rw [HN.out]; exact hs, by simp; omega, by rw [List.length_append]; exact HO5.out, (HB.out.alloc hsz _).trans HB5.out, ?_, ?_⟩
                        · have := rawN_next (m := gk - 1) (by rw [show gk - 1 + 1 = gk by omega]; exact HW.out) HT.out
                          rw [this, HAT.out, List.drop_drop]
                        · intro v hv
                          rcases List.mem_append.1 hv with hv | hv
                          · exact HV.out v hv
                          · rw [List.mem_singleton.1 hv]
                            exact HBV.out
                  · have HR2 := HRm
                    rw [if_neg hca] at HR2
                    have ec := HR2.out.run_string (P := Try.prog) 22 5 9 (c - at1) Try.underlying22 Try.underlying5 Try.underlying9
                    simp only [Option.map_some, addr_add] at ec
                    have hs' : (at1 : Int) ≤ (at1 : Int) + (sz : Int) := by omega
                    have hs2 : (at1 : Int) + (sz : Int) ≤ (c : Int) := by omega
                    by_cases h4 : kd.toNat = 4
                    · have hk0 := hk
                      have q1 : ((kd.toNat : Int) == 1) = false := by simp; omega
                      have q2 : ((kd.toNat : Int) == 2) = false := by simp; omega
                      have q3 : ((kd.toNat : Int) == 3) = false := by simp; omega
                      have q4 : ((kd.toNat : Int) == 4) = true := by simp; omega
                      have q5 : ((kd.toNat : Int) == 5) = false := by simp; omega
                      clear hk0 hk h4 HR2
                      go_wp2_with (at_builtin; refine wpList_appG Try.underlying67 rfl (.tmp 100) (.tmp 102) rfl w.heap.size _ vs.length vs rfl (HO.out.alloc _) 1 kd 0 ⟨part.toArray⟩ (wr.heap.size + 1) (by simp) rfl rfl (by omega) (by simp; omega) ?_; intro v5 w5 hown5 hb5; have HO5 := hide hown5; have HB5 := hide hb5; clear hown5 hb5)
                      go_roundg (gk - 1)
                      case measure => omega
                      case rel =>
                        refine ⟨at1 + sz, vs ++ [⟨kd, 0, ⟨part.toArray⟩⟩], by go_num, rfl, ?_⟩
                        refine ⟨by rw [HN.out]; exact hs, by simp; omega, by rw [List.length_append]; exact HO5.out, (HB.out.alloc hsz _).trans HB5.out, ?_, ?_⟩
                        · have := rawN_next (m := gk - 1) (by rw [show gk - 1 + 1 = gk by omega]; exact HW.out) HT.out
                          rw [this, HAT.out, List.drop_drop]
                        · intro v hv
                          rcases List.mem_append.1 hv with hv | hv
                          · exact HV.out v hv
                          · rw [List.mem_singleton.1 hv]
                            exact HBV.out
                    · have hk0 := hk
                      have q1 : ((kd.toNat : Int) == 1) = false := by simp; omega
                      have q2 : ((kd.toNat : Int) == 2) = false := by simp; omega
                      have q3 : ((kd.toNat : Int) == 3) = false := by simp; omega
                      have q4 : ((kd.toNat : Int) == 4) = false := by simp; omega
                      have q5 : ((kd.toNat : Int) == 5) = true := by simp; omega
                      clear hk0 hk h4 HR2
                      go_wp2_with (at_builtin; refine wpList_appG Try.underlying67 rfl (.tmp 100) (.tmp 102) rfl w.heap.size _ vs.length vs rfl (HO.out.alloc _) 1 kd 0 ⟨part.toArray⟩ (wr.heap.size + 1) (by simp) rfl rfl (by omega) (by simp; omega) ?_; intro v5 w5 hown5 hb5; have HO5 := hide hown5; have HB5 := hide hb5; clear hown5 hb5)
                      go_roundg (gk - 1)
                      case measure => omega
                      case rel =>
                        refine ⟨at1 + sz, vs ++ [⟨kd, 0, ⟨part.toArray⟩⟩], by go_num, rfl, ?_⟩
                        refine ⟨by rw [HN.out]; exact hs, by simp; omega, by rw [List.length_append]; exact HO5.out, (HB.out.alloc hsz _).trans HB5.out, ?_, ?_⟩
                        · have := rawN_next (m := gk - 1) (by rw [show gk - 1 + 1 = gk by omega]; exact HW.out) HT.out
                          rw [this, HAT.out, List.drop_drop]
                        · intro v hv
                          rcases List.mem_append.1 hv with hv | hv
                          · exact HV.out v hv
                          · rw [List.mem_singleton.1 hv]
                            exact HBV.out
                · have h45 : kd.toNat ≠ 4 ∧ kd.toNat ≠ 5 := by omega
                  have HT := hide (HH.out.num h45.1 h45.2 (by omega))
                  rw [HAT.out, ← HP.out, ← HAT.out] at HT
                  have HBV : Hid (BV ⟨kd, wrap64 ((Cell.beN part : Nat) : Int), ByteArray.empty⟩) := by
                    have := Cell.i64_range (Cell.beN part)
                    have ew : wrap64 ((Cell.beN part : Nat) : Int) = Cell.i64 (Cell.beN part) := by unfold wrap64 Cell.i64; rfl
                    refine ⟨?_, by show _ ≤ wrap64 _; rw [ew]; exact this.1, by show wrap64 _ ≤ _; rw [ew]; exact this.2⟩
                    show (0 : Nat) ≤ maxLen
                    omega
                  have hs8 : sz ≤ 8 := by
                    rcases HH.out with h | h | h | h
                    · omega
                    · omega
                    · exact absurd h.1 hk
                    · omega
                  have q4 : ((kd.toNat : Int) == 4) = false := by simp; omega
                  have q5 : ((kd.toNat : Int) == 5) = false := by simp; omega
                  clear h45 hk
                  by_cases hca : c = at1
                  · have HR2 := HRm
                    rw [if_pos hca] at HR2
                    subst hca
                    have hs' : (c : Int) ≤ (c : Int) + (sz : Int) := by omega
                    have hs2 : (c : Int) + (sz : Int) ≤ (c : Int) := by omega
                    go_wp2_with fail
                    go_loop [10, 11] (fun v i => ∃ j : Nat, j ≤ sz ∧ i = .int .i64 (j : Nat) ∧ v = .int .u64 ((Cell.beN (part.take j) : Nat) : Int)) (fun _ i => sz - (intOf i).toNat)
                    case atStart => exact ⟨0, Nat.zero_le _, rfl, rfl⟩
                    case round =>
                      obtain ⟨j, hj, rfl, rfl⟩ := hrel
                      by_cases hlt : j < sz
                      · exact absurd hlt (by omega)
                      · obtain rfl : j = sz := by omega
                        rw [List.take_of_length_le (Nat.le_of_eq HPl.out)]
                        go_wp2_with (at_builtin; refine wpList_appG Try.underlying67 rfl (.tmp 100) (.tmp 102) rfl w.heap.size _ vs.length vs rfl (HO.out.alloc _) 1 kd (wrap64 ((Cell.beN part : Nat) : Int)) ByteArray.empty (wr.heap.size + 1) (by simp) rfl rfl (by omega) (by simp; omega) ?_; intro v5 w5 hown5 hb5; have HO5 := hide hown5; have HB5 := hide hb5; clear hown5 hb5)
                        go_roundg (gk - 1)
                        case measure => omega
                        case rel =>
                          refine ⟨c + j, vs ++ [⟨kd, (wrap64 ((Cell.beN part : Nat) : Int)), ByteArray.empty⟩], by go_num, rfl, ?_⟩
                          refine ⟨by rw [HN.out]; exact hs, by simp; omega, by rw [List.length_append]; exact HO5.out, (HB.out.alloc hsz _).trans HB5.out, ?_, ?_⟩
                          · have := rawN_next (m := gk - 1) (by rw [show gk - 1 + 1 = gk by omega]; exact HW.out) HT.out
                            rw [this, HAT.out, List.drop_drop]
                          · intro v hv
                            rcases List.mem_append.1 hv with hv | hv
                            · exact HV.out v hv
                            · rw [List.mem_singleton.1 hv]
                              exact HBV.out
                  · have HR2 := HRm
                    rw [if_neg hca] at HR2
                    simp only [Option.map_some, addr_add] at HR2
                    have hs' : (at1 : Int) ≤ (at1 : Int) + (sz : Int) := by omega
                    have hs2 : (at1 : Int) + (sz : Int) ≤ (c : Int) := by omega
                    go_wp2_with fail
                    go_loop [10, 11] (fun v i => ∃ j : Nat, j ≤ sz ∧ i = .int .i64 (j : Nat) ∧ v = .int .u64 ((Cell.beN (part.take j) : Nat) : Int)) (fun _ i => sz - (intOf i).toNat)
                    case atStart => exact ⟨0, Nat.zero_le _, rfl, rfl⟩
                    case round =>
                      obtain ⟨j, hj, rfl, rfl⟩ := hrel
                      by_cases hlt : j < sz
                      · obtain ⟨b2, off2, ch, hee, hb2, hch, hcell2⟩ := HR2.out.at hlt
                        injection hee with hee
                        injection hee with e1 e2
                        subst e1 e2
                        have hlb := Cell.beN_lt (part.take j)
                        have hlt7 : Cell.beN (part.take j) < 72057594037927936 := Nat.lt_of_lt_of_le hlb (Nat.le_trans (Nat.pow_le_pow_right (by omega) (show (part.take j).length ≤ 7 by rw [List.length_take]; omega)) (by decide))
                        have hcl2 := ch.toNat_lt
                        have hjI : (j : Int) < (sz : Int) := by omega
                        have HS := hide (take_snoc part j ch hch)
                        have HM := hide (mul8 _ ch hlt7)
                        clear hlb hlt7 hch
                        go_wp2_with fail
                        exact ⟨⟨j + 1, by omega, by go_num, by rw [HM.out, ← HS.out, Cell.beN_snoc]⟩, by simp [intOf]; omega⟩
                      · obtain rfl : j = sz := by omega
                        rw [List.take_of_length_le (Nat.le_of_eq HPl.out)]
                        go_wp2_with (at_builtin; refine wpList_appG Try.underlying67 rfl (.tmp 100) (.tmp 102) rfl w.heap.size _ vs.length vs rfl (HO.out.alloc _) 1 kd (wrap64 ((Cell.beN part : Nat) : Int)) ByteArray.empty (wr.heap.size + 1) (by simp) rfl rfl (by omega) (by simp; omega) ?_; intro v5 w5 hown5 hb5; have HO5 := hide hown5; have HB5 := hide hb5; clear hown5 hb5)
                        go_roundg (gk - 1)
                        case measure => omega
                        case rel =>
                          refine ⟨at1 + j, vs ++ [⟨kd, (wrap64 ((Cell.beN part : Nat) : Int)), ByteArray.empty⟩], by go_num, rfl, ?_⟩
                          refine ⟨by rw [HN.out]; exact hs, by simp; omega, by rw [List.length_append]; exact HO5.out, (HB.out.alloc hsz _).trans HB5.out, ?_, ?_⟩
                          · have := rawN_next (m := gk - 1) (by rw [show gk - 1 + 1 = gk by omega]; exact HW.out) HT.out
                            rw [this, HAT.out, List.drop_drop]
                          · intro v hv
                            rcases List.mem_append.1 hv with hv | hv
                            · exact HV.out v hv
                            · rw [List.mem_singleton.1 hv]
                              exact HBV.out
              · have ts : decide ((n : Int) < (at1 : Int) + (sz : Int)) = true := by simp; omega
                have ts2 : decide (n < at1 + sz) = true := by simp; omega
                have HE : Hid (Cell.refRead (ct :: tl) = none) := refRead_stop HW.out (rawN_none (HH.out.short (by omega)) hm0)
                go_wp2_with fail
                go_ret2
                exact RE.err HE.out (HB.out.alloc hsz _)
        · obtain rfl : pos = n := by omega
          have t1 : decide ((0 : Int) < (gk : Int)) = true := by simp; omega
          have HE : Hid (Cell.refRead (ct :: tl) = none) := refRead_stop HW.out (rawN_none (by rw [List.drop_of_length_le (by rw [HN.out]; exact Nat.le_refl _)]; rfl) hm0)
          go_wp2_with fail
          go_ret2
          exact RE.err HE.out HB.out
      · obtain rfl : gk = 0 := by omega
        obtain ⟨A7, c7, rfl, -, h7, h8⟩ := own_form HO.out
        have HF := hide (refRead_end HW.out)
        have HRv := hide (Rv.own HO.out HV.out)
        unfold maxLen at h8
        go_wp2_with fail
        refine (refRow_any A7 vs.length c7 vs wr HRv.out (by omega)).mono ?_
        intro e w8 hpost
        obtain ⟨p1, bs, hp⟩ : ∃ p1 bs, Cell.row vs = (p1, bs) := ⟨_, _, rfl⟩
        obtain ⟨A9, c9, rfl, ho9, hb9, hl9, hm9⟩ := hpost.is hp
        have HO9 := hide (own_below HO.out hb9)
        have HB9 := hide (HB.out.trans (hb9.mono hsz))
        have ec := (HL.out.below HB9.out (Nat.le_refl _)).run_string (P := Try.prog) 22 5 9 c Try.underlying22 Try.underlying5 Try.underlying9
        have ec2 := (Rb.own ho9).run_string (P := Try.prog) 22 5 9 c9 Try.underlying22 Try.underlying5 Try.underlying9
        rw [hp] at HF
        clear hpost ho9 hb9 hp
        obtain ⟨s1, hs1⟩ : ∃ s : ByteArray, s = ⟨bs.toArray⟩ := ⟨_, rfl⟩
        obtain ⟨s2, hs2⟩ : ∃ s : ByteArray, s = ⟨(ct :: tl).toArray⟩ := ⟨_, rfl⟩
        rw [← hs1] at ec2
        rw [← hs2] at ec
        have HS1 := hide hs1
        have HS2 := hide hs2
        clear hs1 hs2
        by_cases h0 : p1 = 0
        · subst h0
          by_cases hbs : bs = ct :: tl
          · have HF2 : Hid (Cell.refRead (ct :: tl) = some vs) := HF.out.trans (if_pos (by rw [hbs]))
            have hss : s1 = s2 := by rw [HS1.out, HS2.out, hbs]
            subst hss
            clear HF hbs
            go_wp2_with fail
            go_ret2
            rw [HF2.out]
            exact ⟨_, _, rfl, rfl, own_base HO9.out (Nat.le_refl _), HB9.out, HV.out⟩
          · have HF2 : Hid (Cell.refRead (ct :: tl) = none) := HF.out.trans (if_neg (fun h => hbs (by injection h)))
            have hss : ¬ s1.toList = s2.toList := by rw [HS1.out, HS2.out, ByteArray.toList_eq, ByteArray.toList_eq]; exact hbs
            have hst : (s1.toList == s2.toList) = false := by simpa using hss
            clear HF hbs
            go_wp2_with fail
            go_ret2
            exact RE.err HF2.out HB9.out
        · have HF2 : Hid (Cell.refRead (ct :: tl) = none) := HF.out.trans (if_neg (fun h => h0 (by injection h)))
          have t1 : ((p1 : Int) != 0) = true := by simp; exact h0
          clear HF h0
          go_wp2_with fail
          go_ret2
          exact RE.err HF2.out HB9.out
end Go.Proofs.Ytnieenlnpnaamaa
