/-
  The walks of chancerykit.SameRow, CopyRow, beside chapter 24's rows. Conditions: the rows read as lists of values.
-/
import Derived.Test.YticljmgcgjibpaaGreatDoorEvH
import Derived.Test.YticljmgcgjibpaaGreatDoorValEq
import Derived.Test.YticljmgcgjibpaaGreatDoorTold
namespace Go.Proofs.YticljmgcgjibpaaGreatDoor
open Go.RowKit

theorem wpList_appW {ops : Array Oper} {rest : List Oper} {o : Oper} {a : Act} {Q : Exit → Act → World → Prop} {w0 : World} {cs : Array Value} {mk : Nat × Nat} {t : TypeId} (ht : Tryz.prog.underlying t = some (.slice 25)) (hgd : o.guard = none) (s x : Operand)
    (ho : o.op = .call { callee := .builtin .append, args := #[s, x], argTypes := #[t, t] })
    (base : Nat) (v : Value) (n : Nat) (vs : List Cell.Val) (hs : a.eval s = v) (hown : w0.ownsRow base 25 3 v n (vcells vs))
    (c : Nat) (kd : UInt8) (nn : Int) (ss : ByteArray) (hx : a.eval x = .slice (some ⟨w0.heap.size, 0, none⟩) 1 c) (hcs : cs = #[.int .u8 (kd.toNat : Int), .int .i64 nn, .string ss]) (hn : (n + 1) * 32 ≤ 140737488355328) (hbase : base ≤ w0.heap.size)
    (h : ∀ v' w', w'.ownsRow base 25 3 v' (n + 1) (vcells (vs ++ [⟨kd, nn, ss⟩])) → Below base w0 w' → wpList Tryz.prog ops Q rest (a.put o.dst v') w') : wpList Tryz.prog ops Q (o :: rest) a (w0.alloc (.cells cs 25 mk)) := by
  subst hcs
  obtain ⟨i0, hi0, hz0, hz1, hz2⟩ := info_parts infoV
  have hr : Rd (w0.alloc (.cells #[.int .u8 (kd.toNat : Int), .int .i64 nn, .string ss] 25 mk)) (w0.heap.size + 1) 3 (some ⟨w0.heap.size, 0, none⟩) 1 (vcells [⟨kd, nn, ss⟩]) := by
    have := Rd.lit w0 25 (vcells [⟨kd, nn, ss⟩]) mk
    refine ⟨rfl, fun _ => ?_⟩
    exact this.2 (by show 0 < 3; omega)
  refine wpList_append_rd (w0.alloc _) hgd s x t ho base 25 i0 _ 3 32 ht hi0 hz0 hz1 hz2 rfl (by omega) v n _ hs (hown.alloc _) _ _ 1 c _ hx hr (vcells_one _) (by unfold maxLen; omega) hn (by simp; omega) ?_
  intro v' w' h1 h2 h3
  rw [← vcells_append] at h1
  exact h v' w' h1 (((Below.refl _ _).alloc hbase _).trans h2)
theorem vtake_snoc (l : List Cell.Val) (k : Nat) (x : Cell.Val) (h : l[k]? = some x) : l.take k ++ [x] = l.take (k + 1) := by
  rw [List.take_add_one, h]
  rfl

set_option maxHeartbeats 800000 in
theorem copyValues_any (A : Option Addr) (n c : Nat) (r : List Cell.Val) (w : World) (hv : Rv w w.heap.size A n r) (hn : n * 32 ≤ 140737488355328) :
    Calls Tryz.prog 19 #[.slice A n c] w fun e w' => ∃ v, e = .returned v ∧ w'.ownsRow w.heap.size 25 3 v n (vcells r) ∧ Below w.heap.size w w' := by
  have HL := hide hv
  clear hv
  go_enter Tryz.func19, Tryz.ntmps19
  go_wp2_with fail
  go_loopw [3, 4] (fun v i wr => ∃ k : Nat, k ≤ n ∧ i = .int .i64 (k : Nat) ∧ wr.ownsRow w.heap.size 25 3 v k (vcells (r.take k)) ∧ Below w.heap.size w wr) (fun _ i _ => n - (intOf i).toNat)
  case atStart => exact ⟨0, Nat.zero_le _, rfl, own_nil _ _ _ _, Below.refl _ _⟩
  case round =>
    obtain ⟨k, hk, rfl, hown, hbel⟩ := hrel
    have HO := hide hown
    have HB := hide hbel
    have hsz := hbel.size
    clear hown hbel
    by_cases hlt : k < n
    · obtain ⟨b, off, kd, nn, ss, rfl, hb, hch, h0, h1, h2, hs1⟩ := (HL.out.below HB.out (Nat.le_refl _)).at hlt
      have HE := hide (vtake_snoc r k _ hch)
      have hkI : (k : Int) < (n : Int) := by omega
      clear hch
      go_wp2_with (at_builtin; refine wpList_appW Tryz.underlying29 rfl (.tmp 11) (.tmp 16) rfl w.heap.size _ k (r.take k) rfl HO.out _ kd nn ss rfl rfl (by omega) hsz ?_; intro v3 w3 hown3 hb3; have HO3 := hide hown3; have HB3 := hide (HB.out.trans hb3); clear hown3 hb3)
      go_roundw
      case rel => exact ⟨k + 1, by omega, by go_num, by rw [← HE.out]; exact HO3.out, HB3.out⟩
      case measure => simp [intOf]; omega
    · obtain rfl : k = n := by omega
      obtain ⟨A1, c1, rfl⟩ := own_sl HO.out
      go_wp2_with fail
      go_ret
      have := HO.out
      rw [List.take_of_length_le (by rw [HL.out.len]; exact Nat.le_refl _)] at this
      exact ⟨_, rfl, this, HB.out⟩
theorem copyRow_any (A : Option Addr) (n c : Nat) (r : List Cell.Val) (w : World) (hv : Rv w w.heap.size A n r) (hn : n * 32 ≤ 140737488355328) :
    Calls Tryz.prog 6 #[.slice A n c] w fun e w' => ∃ v, e = .returned v ∧ w'.ownsRow w.heap.size 25 3 v n (vcells r) ∧ Below w.heap.size w w' := by
  have HL := hide hv
  clear hv
  go_enter Tryz.func6, Tryz.ntmps6
  go_wp2_with fail
  refine (copyValues_any A n c r w HL.out hn).mono ?_
  rintro e w1 ⟨v, rfl, hown, hb⟩
  obtain ⟨A1, c1, rfl⟩ := own_sl hown
  have HO := hide hown
  have HB := hide hb
  clear hown hb
  go_wp2_with fail
  go_ret
  exact ⟨_, rfl, HO.out, HB.out⟩

theorem vtake_succ {l l' : List Cell.Val} {k : Nat} {a : Cell.Val} (h : l.take k = l'.take k) (h1 : l[k]? = some a) (h2 : l'[k]? = some a) : l.take (k + 1) = l'.take (k + 1) := by
  rw [List.take_add_one, List.take_add_one, h, h1, h2]

set_option maxHeartbeats 1600000 in
theorem sameValues_any (A A' : Option Addr) (n c n' c' : Nat) (r r' : List Cell.Val) (w : World) (B B' : Nat) (hv : Rv w B A n r) (hv' : Rv w B' A' n' r') (hn : n ≤ 9223372036854775807) :
    Calls Tryz.prog 34 #[.slice A n c, .slice A' n' c'] w fun e w' => ∃ b, e = .returned (.bool b) ∧ (b = true ↔ r = r') ∧ ∃ q, w' = w.drewN q := by
  have HL := hide hv
  have HL' := hide hv'
  clear hv hv'
  by_cases hne : n = n'
  · subst hne
    have hb : ((n : Int) != (n : Int)) = false := by simp
    go_enter Tryz.func34, Tryz.ntmps34
    go_wp2_with fail
    go_loopw [5] (fun i wr => ∃ k q : Nat, k ≤ n ∧ i = .int .i64 (k : Nat) ∧ wr = w.drewN q ∧ Hid (r.take k = r'.take k)) (fun i _ => n - (intOf i).toNat)
    case atStart => exact ⟨0, 0, Nat.zero_le _, rfl, rfl, rfl⟩
    case round =>
      obtain ⟨k, q, hk, rfl, rfl, HT⟩ := hrel
      by_cases hlt : k < n
      · obtain ⟨b, off, kd, nn, ss, rfl, _, hx, h0, h1, h2, _⟩ := HL.out.at hlt
        obtain ⟨b', off', kd', nn', ss', rfl, _, hy, h0', h1', h2', _⟩ := HL'.out.at hlt
        have hkI : (k : Int) < (n : Int) := by omega
        have HX := hide hx
        have HY := hide hy
        clear hx hy
        obtain ⟨q1, hq1⟩ : ∃ q1, q1 = vbeq ⟨kd, nn, ss⟩ ⟨kd', nn', ss'⟩ := ⟨_, rfl⟩
        have HQ := hide hq1
        have e1 : ∀ w, (binOp .neq 25 (.agg #[.int .u8 (kd.toNat : Int), .int .i64 nn, .string ss]) (.agg #[.int .u8 (kd'.toNat : Int), .int .i64 nn', .string ss'])).run Tryz.prog w = .ok (.bool (!q1)) w := by
          intro w
          rw [hq1]
          exact neqV w ⟨kd, nn, ss⟩ ⟨kd', nn', ss'⟩
        have e2 := guardV
        clear hq1
        cases q1
        · go_wp2_with fail
          go_quiet (fail)
          go_wp2
          go_ret
          refine ⟨false, rfl, ⟨fun h => (by cases h), ?_⟩, _, World.drewN_drewN _ _ _⟩
          rintro rfl
          have := HX.out.symm.trans HY.out
          injection this with this
          have h2 := (vbeq_iff _ _).2 this
          rw [← HQ.out] at h2
          cases h2
        · have heq := (vbeq_iff _ _).1 HQ.out.symm
          rw [heq] at HX
          have HS := hide (vtake_succ HT.out HX.out HY.out)
          clear heq
          go_wp2_with fail
          go_quiet (fail)
          go_wp2
          go_roundw
          case rel => exact ⟨k + 1, _, by omega, by go_num, rfl, HS.out⟩
          case measure => simp [intOf]; omega
      · obtain rfl : k = n := by omega
        have HF : Hid (r = r') := by
          have h := HT.out
          rw [List.take_of_length_le (by rw [HL.out.len]; exact Nat.le_refl _), List.take_of_length_le (by rw [HL'.out.len]; exact Nat.le_refl _)] at h
          exact h
        go_wp2
        go_ret
        exact ⟨true, rfl, ⟨fun _ => HF.out, fun _ => rfl⟩, q, rfl⟩
  · have hb : ((n : Int) != (n' : Int)) = true := by simp; omega
    have HF : Hid (¬ r = r') := by
      rintro rfl
      exact hne (by rw [← HL.out.len, HL'.out.len])
    go_enter Tryz.func34, Tryz.ntmps34
    go_wp2_with fail
    go_ret
    exact ⟨false, rfl, ⟨fun h => (by cases h), fun h => absurd h HF.out⟩, 0, rfl⟩
theorem sameRow_any (A A' : Option Addr) (n c n' c' : Nat) (r r' : List Cell.Val) (w : World) (B B' : Nat) (hv : Rv w B A n r) (hv' : Rv w B' A' n' r') (hn : n ≤ 9223372036854775807) :
    Calls Tryz.prog 12 #[.slice A n c, .slice A' n' c'] w fun e w' => ∃ b, e = .returned (.bool b) ∧ (b = true ↔ r = r') ∧ ∃ q, w' = w.drewN q := by
  have HL := hide hv
  have HL' := hide hv'
  clear hv hv'
  go_enter Tryz.func12, Tryz.ntmps12
  go_wp2_with fail
  refine (sameValues_any A A' n c n' c' r r' w B B' HL.out HL'.out hn).mono ?_
  rintro e w1 ⟨b, rfl, hb, q, rfl⟩
  have HB := hide hb
  clear hb
  go_wp2_with fail
  go_ret
  exact ⟨b, rfl, HB.out, q, rfl⟩
end Go.Proofs.YticljmgcgjibpaaGreatDoor

/-
  The walks of chancerykit.CopyExpr, CopyExprs, SameExpr, SameExprs. Conditions: what is read reads as a tree.
-/
namespace Go.Proofs.YticljmgcgjibpaaGreatDoor
open Go.RowKit

theorem ecells_len : ∀ l : List It, (ecells l).length = l.length * 8 := by
  intro l
  induction l with
  | nil => rfl
  | cons x l ih =>
    simp only [ecells, List.length_append, List.length_cons, ih]
    have : (ecell x.h x.A x.m x.c).length = 8 := rfl
    omega
theorem ecells_append : ∀ l l' : List It, ecells (l ++ l') = ecells l ++ ecells l' := by
  intro l l'
  induction l with
  | nil => rfl
  | cons x l ih => simp only [List.cons_append, ecells, ih, List.append_assoc]
theorem ecells_one (x : It) : ∀ u ∈ ecells [x], u.oneCell' = true := by
  intro u hu
  simp only [ecells, ecell, List.append_nil, List.mem_cons, List.not_mem_nil, or_false] at hu
  rcases hu with rfl | rfl | rfl | rfl | rfl | rfl | rfl | rfl <;> rfl
theorem infoE : (Tryz.prog.info? 28).map (fun i => (i.zero, i.size, i.bytes)) = some (some (.agg #[.int .u8 0, .int .u8 0, .int .i64 0, .string ByteArray.empty, .string ByteArray.empty, .string ByteArray.empty, .int .i64 0, .slice none 0 0]), 8, 104) := by kernel_rfl
section
variable {w w' : World} {P : Nat → Prop}
/-- Expressions that a slice reads. -/
theorem ex_rd {B d n : Nat} {A : Option Addr} (l : List It) (hr : Rd w B 8 A n (ecells l)) (hP : 0 < n → ∀ b off, A = some ⟨b, off, none⟩ → b < B → P b) (hn : n = l.length) (hl : n * 104 ≤ 140737488355328) (hall : ∀ x ∈ l, HdOk x.h ∧ x.m ≤ x.c ∧ x.c ≤ 9223372036854775807 ∧ ExK w P d x.A x.m x.ks) : ExK w P (d + 1) A n (l.map fun x => Ev.Ex.mk x.h x.ks) := by
  refine ⟨by simpa using hn, hl, fun h0 => ?_⟩
  obtain ⟨g, off, e, hg, hcell⟩ := hr.2 h0
  refine ⟨g, off, e, hP h0 g off e hg, fun i h ks' hi => ?_⟩
  rw [List.getElem?_map] at hi
  obtain ⟨x, hx, e⟩ := Option.map_eq_some_iff.1 hi
  injection e with e1 e2
  subst e1 e2
  obtain ⟨h1, h2, h3, h4⟩ := hall x (List.mem_of_getElem? hx)
  have hm := h4.len.1
  have hc : ∀ j v, (ecell x.h x.A x.m x.c)[j]? = some v → w.cell? ⟨g, off + i * 8 + j, none⟩ = some v := fun j v hv => by
    rw [Nat.add_assoc]
    exact hcell _ _ (ecells_at l i x hx j v hv)
  refine ⟨x.A, x.c, hc 0 _ rfl, hc 1 _ rfl, hc 2 _ rfl, hc 3 _ rfl, hc 4 _ rfl, hc 5 _ rfl, hc 6 _ rfl, ?_, by omega, h3, h1, by rw [← hm]; exact h4⟩
  rw [← hm]
  exact hc 7 _ rfl
/-- A row of expressions of the call's own, from block lo on. -/
def ExOwn (w : World) (lo d : Nat) (v : Value) (ks : List Ev.Ex) : Prop :=
  ∃ its : List It, (its.map fun x => Ev.Ex.mk x.h x.ks) = ks ∧ w.ownsRow lo 28 8 v its.length (ecells its) ∧ ∀ x ∈ its, HdOk x.h ∧ x.m ≤ x.c ∧ x.c ≤ 9223372036854775807 ∧ ExK w (fun g => lo ≤ g ∧ g < w.heap.size ∧ some g ≠ v.ownBlock) d x.A x.m x.ks
theorem ExOwn.nil (w : World) (lo d : Nat) : ExOwn w lo d (.slice none 0 0) [] := ⟨[], rfl, own_nil _ _ _ _, fun x h => absurd h (by simp)⟩
theorem ExOwn.below {lo d : Nat} {v : Value} {ks : List Ev.Ex} (h : ExOwn w lo d v ks) (hb : Below w.heap.size w w') : ExOwn w' lo d v ks := by
  obtain ⟨its, h1, h2, h3⟩ := h
  refine ⟨its, h1, own_below h2 hb, fun x hx => ?_⟩
  obtain ⟨g1, g2, g3, g4⟩ := h3 x hx
  exact ⟨g1, g2, g3, ExK.keep (fun g hg => ⟨hg.1, Nat.lt_of_lt_of_le hg.2.1 hb.size, hg.2.2⟩) (fun g o hg => hb.cell hg.2.1) g4⟩
theorem ExOwn.lt {lo d : Nat} {v : Value} {ks : List Ev.Ex} (h : ExOwn w lo d v ks) {g : Nat} (hg : v.ownBlock = some g) : lo ≤ g ∧ g < w.heap.size := by
  obtain ⟨its, h1, h2, h3⟩ := h
  exact h2.lt g hg
theorem ExOwn.form {lo d : Nat} {v : Value} {ks : List Ev.Ex} (h : ExOwn w lo d v ks) : ∃ A c, v = .slice A ks.length c ∧ ks.length ≤ c ∧ c ≤ 9223372036854775807 := by
  obtain ⟨its, h1, h2, h3⟩ := h
  obtain ⟨A, c, e, _, c1, c2⟩ := own_form h2
  have hl : its.length = ks.length := by rw [← h1]; simp
  rw [hl] at e c1
  exact ⟨A, c, e, c1, by unfold maxLen at c2; omega⟩
theorem ExOwn.exk {lo d n c : Nat} {A : Option Addr} {ks : List Ev.Ex} (h : ExOwn w lo d (.slice A n c) ks) (hn : n = ks.length) (hl : n * 104 ≤ 140737488355328) : ExK w (fun g => lo ≤ g ∧ g < w.heap.size) (d + 1) A n ks := by
  obtain ⟨its, h1, h2, h3⟩ := h
  have hi : its.length = ks.length := by rw [← h1]; simp
  have hni : n = its.length := by omega
  rw [← h1]
  have hrd : Rd w w.heap.size 8 A n (ecells its) := by rw [hni] at h2 ⊢; exact Rd.own h2
  refine ex_rd its hrd (fun h0 b off e hb => ⟨?_, hb⟩) hni hl fun x hx => ?_
  · subst e
    exact (h2.lt b rfl).1
  · obtain ⟨g1, g2, g3, g4⟩ := h3 x hx
    exact ⟨g1, g2, g3, ExK.keep (fun g hg => ⟨hg.1, hg.2.1⟩) (fun _ _ _ => rfl) g4⟩
/-- 'out = append(out, x)' of expressions; the new one lies in a block of its own. -/
theorem wpList_appX {ops : Array Oper} {rest : List Oper} {o : Oper} {a : Act} {Q : Exit → Act → World → Prop} {w : World} (hgd : o.guard = none) (s x : Operand) {T : TypeId} (hT : Tryz.prog.underlying T = some (.slice 28))
    (ho : o.op = .call { callee := .builtin .append, args := #[s, x], argTypes := #[T, T] })
    (lo d : Nat) (v : Value) (ks : List Ev.Ex) (hs : a.eval s = v) (hF : ExOwn w lo d v ks)
    (g c : Nat) (u : It) (hx : a.eval x = .slice (some ⟨g, 0, none⟩) 1 c) {cs : Array Value} (hcs : cs = (ecells [u]).toArray) (hg : Blk w g 28 cs) (hm : (ks.length + 1) * 104 ≤ 140737488355328) (hlo : lo ≤ w.heap.size)
    (hu : HdOk u.h ∧ u.m ≤ u.c ∧ u.c ≤ 9223372036854775807 ∧ ExK w (fun g => lo ≤ g ∧ g < w.heap.size ∧ some g ≠ v.ownBlock) d u.A u.m u.ks)
    (h : ∀ v' w', ExOwn w' lo d v' (ks ++ [Ev.Ex.mk u.h u.ks]) → Below lo w w' → wpList Tryz.prog ops Q rest (a.put o.dst v') w') : wpList Tryz.prog ops Q (o :: rest) a w := by
  subst hcs
  obtain ⟨its, h1, h2, h3⟩ := hF
  have hil : its.length = ks.length := by rw [← h1]; simp
  obtain ⟨iC, hiC, hz0, hz1, hz2⟩ := info_parts infoE
  have hr : Rd w (g + 1) 8 (some ⟨g, 0, none⟩) 1 (ecells [u]) := by
    refine ⟨rfl, fun _ => ⟨g, 0, rfl, by omega, fun j z hz => ?_⟩⟩
    have := hg.cell j
    rw [Nat.zero_add, this]
    simpa using hz
  refine wpList_plain hgd fun _ hK => wp_append_rd w s x _ ho lo 28 iC _ 8 104 hT hiC hz0 hz1 hz2 rfl (by omega) v its.length (ecells its) hs h2 _ _ 1 c _ hx hr (ecells_one _) (by unfold maxLen; omega) (by omega) hlo fun v' w' k1 k2 k3 => hK _ _ (h v' w' ?_ ((Below.refl _ _).grown k2 hlo fun k hk => (h2.lt k hk).1))
  rw [← ecells_append] at k1
  have hP : ∀ g, (lo ≤ g ∧ g < w.heap.size ∧ some g ≠ v.ownBlock) → lo ≤ g ∧ g < w'.heap.size ∧ some g ≠ v'.ownBlock := fun g hg => ⟨hg.1, Nat.lt_of_lt_of_le hg.2.1 k2.size, by
    rcases k3 with e | e
    · rw [e]; exact hg.2.2
    · rw [e]; intro q; injection q with q; have := hg.2.1; omega⟩
  have hC : ∀ g o, (lo ≤ g ∧ g < w.heap.size ∧ some g ≠ v.ownBlock) → w'.cell? ⟨g, o, none⟩ = w.cell? ⟨g, o, none⟩ := fun g o hg => World.cell?_of_block (a := ⟨g, o, none⟩) (k2.block g hg.2.1 hg.2.2)
  refine ⟨its ++ [u], by rw [List.map_append, h1]; rfl, by rw [List.length_append]; exact k1, fun y hy => ?_⟩
  rcases List.mem_append.1 hy with hy | hy
  · obtain ⟨g1, g2, g3, g4⟩ := h3 y hy
    exact ⟨g1, g2, g3, ExK.keep hP hC g4⟩
  · simp only [List.mem_cons, List.not_mem_nil, or_false] at hy
    subst hy
    obtain ⟨g1, g2, g3, g4⟩ := hu
    exact ⟨g1, g2, g3, ExK.keep hP hC g4⟩
end
section
variable {w wr : World} {g b B : Nat} {t : TypeId} {cs : Array Value}
theorem Blk.put8X {x0 x1 x2 x3 x4 x5 x6 x7 : Value} (h : Blk w g t #[x0, x1, x2, x3, x4, x5, x6, x7]) (u0 u1 u2 u3 u4 u5 u6 u7 : Value) : Blk ((((((((w.setCell ⟨g, 0, none⟩ (u0)).setCell ⟨g, 1, none⟩ (u1)).setCell ⟨g, 2, none⟩ (u2)).setCell ⟨g, 3, none⟩ (u3)).setCell ⟨g, 4, none⟩ (u4)).setCell ⟨g, 5, none⟩ (u5)).setCell ⟨g, 6, none⟩ (u6)).setCell ⟨g, 7, none⟩ (u7)) g t #[u0, u1, u2, u3, u4, u5, u6, u7] := by simpa using ((((((((h.put 0 u0).put 1 u1).put 2 u2).put 3 u3).put 4 u4).put 5 u5).put 6 u6).put 7 u7)
theorem below8X {w0 : World} (h : Below B w0 w) (hg : B ≤ g) (u0 u1 u2 u3 u4 u5 u6 u7 : Value) : Below B w0 ((((((((w.setCell ⟨g, 0, none⟩ (u0)).setCell ⟨g, 1, none⟩ (u1)).setCell ⟨g, 2, none⟩ (u2)).setCell ⟨g, 3, none⟩ (u3)).setCell ⟨g, 4, none⟩ (u4)).setCell ⟨g, 5, none⟩ (u5)).setCell ⟨g, 6, none⟩ (u6)).setCell ⟨g, 7, none⟩ (u7)) :=
  ((((((((h.setCell (p := ⟨g, 0, none⟩) hg u0).setCell (p := ⟨g, 1, none⟩) hg u1).setCell (p := ⟨g, 2, none⟩) hg u2).setCell (p := ⟨g, 3, none⟩) hg u3).setCell (p := ⟨g, 4, none⟩) hg u4).setCell (p := ⟨g, 5, none⟩) hg u5).setCell (p := ⟨g, 6, none⟩) hg u6).setCell (p := ⟨g, 7, none⟩) hg u7)
theorem heap_far (hne : b ≠ g) {u0 u1 u2 u3 u4 u5 u6 u7 : Value} : ((((((((w.setCell ⟨g, 0, none⟩ (u0)).setCell ⟨g, 1, none⟩ (u1)).setCell ⟨g, 2, none⟩ (u2)).setCell ⟨g, 3, none⟩ (u3)).setCell ⟨g, 4, none⟩ (u4)).setCell ⟨g, 5, none⟩ (u5)).setCell ⟨g, 6, none⟩ (u6)).setCell ⟨g, 7, none⟩ (u7)).heap[b]? = w.heap[b]? := by
  rw [Below.heap_setCell _ ⟨g, 7, none⟩ _ b hne, Below.heap_setCell _ ⟨g, 6, none⟩ _ b hne, Below.heap_setCell _ ⟨g, 5, none⟩ _ b hne, Below.heap_setCell _ ⟨g, 4, none⟩ _ b hne, Below.heap_setCell _ ⟨g, 3, none⟩ _ b hne, Below.heap_setCell _ ⟨g, 2, none⟩ _ b hne, Below.heap_setCell _ ⟨g, 1, none⟩ _ b hne, Below.heap_setCell _ ⟨g, 0, none⟩ _ b hne]
end
def CpX (d : Nat) : Prop := ∀ (h : Ev.Hd) (A : Option Addr) (m c : Nat) (ks : List Ev.Ex) (w : World), ExK w (· < w.heap.size) d A m ks →
  Calls Tryz.prog 5 #[exV h A m c] w fun e w' => ∃ A' c', e = .returned (exV h A' m c') ∧ m ≤ c' ∧ c' ≤ 9223372036854775807 ∧ ExK w' (fun g => w.heap.size ≤ g ∧ g < w'.heap.size) d A' m ks ∧ Below w.heap.size w w'
def CpXs (d : Nat) : Prop := ∀ (A : Option Addr) (m c : Nat) (ks : List Ev.Ex) (w : World), ExK w (· < w.heap.size) d A m ks →
  Calls Tryz.prog 18 #[.slice A m c] w fun e w' => ∃ A' c', e = .returned (.slice A' m c') ∧ m ≤ c' ∧ c' ≤ 9223372036854775807 ∧ ExK w' (fun g => w.heap.size ≤ g ∧ g < w'.heap.size) d A' m ks ∧ Below w.heap.size w w'
theorem ktake_snoc (l : List Ev.Ex) (k : Nat) (x : Ev.Ex) (h : l[k]? = some x) : l.take k ++ [x] = l.take (k + 1) := by
  rw [List.take_add_one, h]
  rfl
set_option linter.unusedVariables false in
set_option maxRecDepth 1000000 in
set_option maxHeartbeats 4000000 in
theorem copyExprs_step (d : Nat) (ih : ∀ d', d = d' + 1 → CpX d') : CpXs d := by
  intro A m c ks w hex
  have HX := hide hex
  have HL := hide hex.len
  have IH := hide ih
  clear hex ih
  go_enter Tryz.func18, Tryz.ntmps18
  go_wp2_with fail
  go_loopg [3, 4] m (fun gg v i wr => ∃ (k : Nat), k ≤ m ∧ gg = m - k ∧ i = .int .i64 (k : Nat) ∧ Hid (ExOwn wr w.heap.size (d - 1) v (ks.take k)) ∧ Below w.heap.size w wr)
  case atStart => exact ⟨0, Nat.zero_le _, rfl, rfl, ExOwn.nil _ _ _, Below.refl _ _⟩
  case round =>
    obtain ⟨k, hk, rfl, rfl, HO, hbel⟩ := hrel
    obtain ⟨w5, hw5⟩ : ∃ w5, w5 = wr := ⟨_, rfl⟩
    subst hw5
    have HB := hide hbel
    have hs5 := hbel.size
    clear hbel
    by_cases hlt : k < m
    · obtain ⟨d', g, off, hd, ks', A', c', rfl, rfl, hg, hkk, c0, c1, c2, c3, c4, c5, c6, c7, e1, e2, e3, e4⟩ := HX.out.at hlt
      replace c0 := (HB.out.cell (p := ⟨g, off + k * 8, none⟩) hg).trans c0
      replace c1 := (HB.out.cell (p := ⟨g, off + k * 8 + 1, none⟩) hg).trans c1
      replace c2 := (HB.out.cell (p := ⟨g, off + k * 8 + 2, none⟩) hg).trans c2
      replace c3 := (HB.out.cell (p := ⟨g, off + k * 8 + 3, none⟩) hg).trans c3
      replace c4 := (HB.out.cell (p := ⟨g, off + k * 8 + 4, none⟩) hg).trans c4
      replace c5 := (HB.out.cell (p := ⟨g, off + k * 8 + 5, none⟩) hg).trans c5
      replace c6 := (HB.out.cell (p := ⟨g, off + k * 8 + 6, none⟩) hg).trans c6
      replace c7 := (HB.out.cell (p := ⟨g, off + k * 8 + 7, none⟩) hg).trans c7
      have HK := hide hkk
      have HE := hide (And.intro e1 (And.intro e2 (And.intro e3 e4)))
      clear hkk e1 e2 e3 e4
      go_wp2_with fail
      have cc : Calls Tryz.prog 5 #[.agg #[.int .u8 (hd.o.toNat : Int), .int .u8 (hd.v.k.toNat : Int), .int .i64 hd.v.n, .string hd.v.s, .string hd.nm, .string hd.of, .int .i64 hd.n, .slice A' ks'.length c']] w5 fun e w' => ∃ A2 c2, e = .returned (.agg #[.int .u8 (hd.o.toNat : Int), .int .u8 (hd.v.k.toNat : Int), .int .i64 hd.v.n, .string hd.v.s, .string hd.nm, .string hd.of, .int .i64 hd.n, .slice A2 ks'.length c2]) ∧ ks'.length ≤ c2 ∧ c2 ≤ 9223372036854775807 ∧ ExK w' (fun g => w5.heap.size ≤ g ∧ g < w'.heap.size) d' A2 ks'.length ks' ∧ Below w5.heap.size w5 w' :=
        IH.out d' rfl hd A' ks'.length c' ks' w5 (ExK.keep (fun _ hg => Nat.lt_of_lt_of_le hg HB.out.size) (fun _ _ hg => HB.out.cell hg) HE.out.2.2.2)
      with_reducible refine cc.mono ?_
      clear cc c0 c1 c2 c3 c4 c5 c6 c7
      rintro e w6 ⟨A2, cp, rfl, q1, q2, q3, hb6⟩
      have HQ := hide (And.intro q1 (And.intro q2 q3))
      have HB56 := hide hb6
      have hs6 := hb6.size
      have HO6 := hide (HO.out.below hb6)
      have HOb : Hid (∀ g, u3.ownBlock = some g → g < w5.heap.size) := fun g hg => (HO.out.lt hg).2
      clear q1 q2 q3 hb6
      obtain ⟨w7, hw7⟩ : ∃ w7, w7 = w6.alloc (.cells #[.int .u8 (hd.o.toNat : Int), .int .u8 (hd.v.k.toNat : Int), .int .i64 hd.v.n, .string hd.v.s, .string hd.nm, .string hd.of, .int .i64 hd.n, .slice A2 ks'.length cp] 28) := ⟨_, rfl⟩
      have HG7 : Hid (Blk w7 w6.heap.size 28 #[.int .u8 (hd.o.toNat : Int), .int .u8 (hd.v.k.toNat : Int), .int .i64 hd.v.n, .string hd.v.s, .string hd.nm, .string hd.of, .int .i64 hd.n, .slice A2 ks'.length cp]) := by rw [hw7]; exact Blk.new _ _ _
      have hb7 : Below w6.heap.size w6 w7 := by rw [hw7]; exact (Below.refl _ _).alloc (Nat.le_refl _) _
      have HO7 := hide (HO6.out.below hb7)
      have HB7 := hide ((HB.out.trans (HB56.out.mono hs5)).trans (hb7.mono (by omega)))
      have hs7 := hb7.size
      obtain ⟨hme, hml⟩ := HL.out
      have hkl : (ks.take k).length = k := by rw [List.length_take]; omega
      have HU : Hid (HdOk hd ∧ ks'.length ≤ cp ∧ cp ≤ 9223372036854775807 ∧ ExK w7 (fun g => w.heap.size ≤ g ∧ g < w7.heap.size ∧ some g ≠ u3.ownBlock) (d' + 1 - 1) A2 ks'.length ks') := ⟨HE.out.2.2.1, HQ.out.1, HQ.out.2.1, ExK.keep (fun g hg => ⟨by have := hg.1; omega, by have := hg.2; omega, fun e => by have := HOb.out g e.symm; have := hg.1; omega⟩) (fun g o hg => hb7.cell hg.2) HQ.out.2.2⟩
      have HT := hide (ktake_snoc ks k _ HK.out)
      clear hb7 hme
      go_wp2_with (at_builtin; rw [← hw7]; refine wpList_appX rfl (.tmp 11) (.tmp 17) Tryz.underlying26 rfl w.heap.size (d' + 1 - 1) _ (ks.take k) rfl HO7.out w6.heap.size 1 ⟨hd, A2, ks'.length, cp, ks'⟩ rfl rfl HG7.out (by have := HL.out; omega) (by omega) HU.out ?_; intro v9 w9 ho9 hb9; have HO9 := hide ho9; have HB9 := hide (HB7.out.trans hb9); clear ho9 hb9)
      go_roundg (m - (k + 1))
      case measure => omega
      case rel => exact ⟨k + 1, by omega, rfl, by go_num, by rw [← HT.out]; exact HO9.out, HB9.out⟩
    · obtain rfl : k = m := by omega
      have HO1 := hide HO.out
      obtain ⟨A1, c1, e1, h1, h2⟩ := HO.out.form
      have htk : ks.take k = ks := List.take_of_length_le (by rw [HL.out.1]; exact Nat.le_refl _)
      rw [htk] at e1 h1
      have hkl : ks.length = k := HL.out.1.symm
      rw [hkl] at e1 h1
      subst e1
      have H12 := hide (And.intro h1 h2)
      clear h1 h2
      go_wp2_with fail
      go_ret
      refine ⟨A1, c1, rfl, H12.out.1, H12.out.2, ?_, HB.out⟩
      have hx := HO1.out
      rw [htk] at hx
      rcases Nat.eq_zero_or_pos d with h0 | h0
      · subst h0
        obtain ⟨hk0, hks⟩ := HX.out
        subst hk0 hks
        exact ExK.nil _ _ _ _
      · have := hx.exk hkl.symm HL.out.2
        rwa [show d - 1 + 1 = d by omega] at this
set_option linter.unusedVariables false in
set_option maxRecDepth 1000000 in
set_option maxHeartbeats 4000000 in
theorem copyExpr_of (d : Nat) (ih : CpXs d) : CpX d := by
  intro h A m c ks w hex
  have HX := hide hex
  have IH := hide ih
  clear hex ih
  unfold exV
  obtain ⟨w1, hw1⟩ : ∃ x, x = (w.alloc (.cells #[.int .u8 (h.o.toNat : Int), .int .u8 (h.v.k.toNat : Int), .int .i64 h.v.n, .string h.v.s, .string h.nm, .string h.of, .int .i64 h.n, .slice A m c] 28)).alloc (.cells #[.int .u8 0, .int .u8 0, .int .i64 0, .string ⟨#[]⟩, .string ⟨#[]⟩, .string ⟨#[]⟩, .int .i64 0, .slice none 0 0] 28) := ⟨_, rfl⟩
  have HG : Hid (Blk w1 w.heap.size 28 #[.int .u8 (h.o.toNat : Int), .int .u8 (h.v.k.toNat : Int), .int .i64 h.v.n, .string h.v.s, .string h.nm, .string h.of, .int .i64 h.n, .slice A m c]) := by rw [hw1]; exact (Blk.new w _ _).alloc _
  have HR : Hid (Blk w1 (w.heap.size + 1) 28 #[.int .u8 0, .int .u8 0, .int .i64 0, .string ⟨#[]⟩, .string ⟨#[]⟩, .string ⟨#[]⟩, .int .i64 0, .slice none 0 0]) := by
    rw [hw1]
    have := Blk.new (w.alloc (.cells #[.int .u8 (h.o.toNat : Int), .int .u8 (h.v.k.toNat : Int), .int .i64 h.v.n, .string h.v.s, .string h.nm, .string h.of, .int .i64 h.n, .slice A m c] 28)) 28 #[.int .u8 0, .int .u8 0, .int .i64 0, .string ⟨#[]⟩, .string ⟨#[]⟩, .string ⟨#[]⟩, .int .i64 0, .slice none 0 0]
    exact hide (by simpa using this)
  have HB : Hid (Below w.heap.size w w1) := by
    rw [hw1]
    exact ((Below.refl _ _).alloc (Nat.le_refl _) _).alloc (by simp) _
  have hs1 : w1.heap.size = w.heap.size + 1 + 1 := by rw [hw1]; simp
  go_enter Tryz.func5, Tryz.ntmps5
  go_upto_region 1 with fail
  rw [← hw1]
  clear hw1
  have x0 := HG.out.cell 0
  have x1 := HG.out.cell 1
  have x2 := HG.out.cell 2
  have x3 := HG.out.cell 3
  have x4 := HG.out.cell 4
  have x5 := HG.out.cell 5
  have x6 := HG.out.cell 6
  have x7 := HG.out.cell 7
  simp at x0 x1 x2 x3 x4 x5 x6 x7
  have f0 := HG.out.frozen 0
  have f1 := HG.out.frozen 1
  have f2 := HG.out.frozen 2
  have f3 := HG.out.frozen 3
  have f4 := HG.out.frozen 4
  have f5 := HG.out.frozen 5
  have f6 := HG.out.frozen 6
  have f7 := HG.out.frozen 7
  go_wp2_with fail
  have cc : CpXs d := IH.out
  unfold CpXs at cc
  replace cc := cc A m c ks w1 (ExK.keep (fun _ hg => by omega) (fun _ _ hg => HB.out.cell hg) HX.out)
  with_reducible refine cc.mono ?_
  clear cc
  rintro e w2 ⟨A2, c2, rfl, q1, q2, q3, hb2⟩
  have HQ := hide (And.intro q1 (And.intro q2 q3))
  have HG2 := hide (HG.out.below hb2 (by omega))
  have HR2 := hide (HR.out.below hb2 (by omega))
  have HB2 := hide (HB.out.trans (hb2.mono HB.out.size))
  have hs2 := hb2.size
  clear q1 q2 q3 hb2 x0 x1 x2 x3 x4 x5 x6 x7 f0 f1 f2 f3 f4 f5 f6 f7
  have x0 := HG2.out.cell 0
  have x1 := HG2.out.cell 1
  have x2 := HG2.out.cell 2
  have x3 := HG2.out.cell 3
  have x4 := HG2.out.cell 4
  have x5 := HG2.out.cell 5
  have x6 := HG2.out.cell 6
  have x7 := HG2.out.cell 7
  simp at x0 x1 x2 x3 x4 x5 x6 x7
  have f0 := HG2.out.frozen 0
  have f1 := HG2.out.frozen 1
  have f2 := HG2.out.frozen 2
  have f3 := HG2.out.frozen 3
  have f4 := HG2.out.frozen 4
  have f5 := HG2.out.frozen 5
  have f6 := HG2.out.frozen 6
  have f7 := HG2.out.frozen 7
  go_upto_region 2 with fail
  obtain ⟨w3, hw3⟩ : ∃ x, x = w2.setCell ⟨w.heap.size, 7, none⟩ (.slice A2 m c2) := ⟨_, rfl⟩
  have HG3 : Hid (Blk w3 w.heap.size 28 #[.int .u8 (h.o.toNat : Int), .int .u8 (h.v.k.toNat : Int), .int .i64 h.v.n, .string h.v.s, .string h.nm, .string h.of, .int .i64 h.n, .slice A2 m c2]) := by rw [hw3]; exact HG2.out.put 7 _
  have HR3 : Hid (Blk w3 (w.heap.size + 1) 28 #[.int .u8 0, .int .u8 0, .int .i64 0, .string ⟨#[]⟩, .string ⟨#[]⟩, .string ⟨#[]⟩, .int .i64 0, .slice none 0 0]) := by rw [hw3]; exact HR2.out.far (by simp) _
  have HB3 : Hid (Below w.heap.size w w3) := by rw [hw3]; exact HB2.out.setCell (Nat.le_refl _) _
  have HQ3 : Hid (m ≤ c2 ∧ c2 ≤ 9223372036854775807 ∧ ExK w3 (fun g => w1.heap.size ≤ g ∧ g < w3.heap.size) d A2 m ks) := by
    obtain ⟨q1, q2, q3⟩ := HQ.out
    refine ⟨q1, q2, ?_⟩
    rw [hw3]
    exact ExK.keep (fun g hg => by simpa using hg) (fun g o hg => World.cell?_of_block (a := ⟨g, o, none⟩) (Below.heap_setCell w2 _ _ g (by simp; have := hg.1; omega))) q3
  rw [← hw3]
  clear hw3 HG2 HR2 HQ HB2 x0 x1 x2 x3 x4 x5 x6 x7 f0 f1 f2 f3 f4 f5 f6 f7
  have x0 := HG3.out.cell 0
  have x1 := HG3.out.cell 1
  have x2 := HG3.out.cell 2
  have x3 := HG3.out.cell 3
  have x4 := HG3.out.cell 4
  have x5 := HG3.out.cell 5
  have x6 := HG3.out.cell 6
  have x7 := HG3.out.cell 7
  simp at x0 x1 x2 x3 x4 x5 x6 x7
  have y0 := HR3.out.cell 0
  have y1 := HR3.out.cell 1
  have y2 := HR3.out.cell 2
  have y3 := HR3.out.cell 3
  have y4 := HR3.out.cell 4
  have y5 := HR3.out.cell 5
  have y6 := HR3.out.cell 6
  have y7 := HR3.out.cell 7
  simp at y0 y1 y2 y3 y4 y5 y6 y7
  have g0 := HR3.out.frozen 0
  have g1 := HR3.out.frozen 1
  have g2 := HR3.out.frozen 2
  have g3 := HR3.out.frozen 3
  have g4 := HR3.out.frozen 4
  have g5 := HR3.out.frozen 5
  have g6 := HR3.out.frozen 6
  have g7 := HR3.out.frozen 7
  go_wp2_with fail
  have HE := hide (HR3.out.put8X (.int .u8 (h.o.toNat : Int)) (.int .u8 (h.v.k.toNat : Int)) (.int .i64 h.v.n) (.string h.v.s) (.string h.nm) (.string h.of) (.int .i64 h.n) (.slice A2 m c2))
  refine bodyPost_ret (v := .agg #[.int .u8 (h.o.toNat : Int), .int .u8 (h.v.k.toNat : Int), .int .i64 h.v.n, .string h.v.s, .string h.nm, .string h.of, .int .i64 h.n, .slice A2 m c2]) (results_ex rfl HE.out rfl) rfl ⟨A2, c2, rfl, HQ3.out.1, HQ3.out.2.1, ?_, below8X HB3.out (by omega) _ _ _ _ _ _ _ _⟩
  refine ExK.keep (fun g hg => ⟨by have := hg.1; omega, by simpa using hg.2⟩) (fun g o hg => ?_) HQ3.out.2.2
  have hne : g ≠ w.heap.size + 1 := by have := hg.1; omega
  simp only [World.cell?, heap_far hne]
theorem copy_all : ∀ d, CpXs d := by
  intro d
  induction d with
  | zero => exact copyExprs_step 0 fun d' h => absurd h (by omega)
  | succ d ih =>
    refine copyExprs_step (d + 1) fun d' h => ?_
    obtain rfl : d = d' := by omega
    exact copyExpr_of d ih
theorem copyExpr_any (d : Nat) (h : Ev.Hd) (A : Option Addr) (m c : Nat) (ks : List Ev.Ex) (w : World) (hex : ExK w (· < w.heap.size) d A m ks) :
    Calls Tryz.prog 5 #[exV h A m c] w fun e w' => ∃ A' c', e = .returned (exV h A' m c') ∧ m ≤ c' ∧ c' ≤ 9223372036854775807 ∧ ExK w' (fun g => w.heap.size ≤ g ∧ g < w'.heap.size) d A' m ks ∧ Below w.heap.size w w' := copyExpr_of d (copy_all d) h A m c ks w hex
end Go.Proofs.YticljmgcgjibpaaGreatDoor

/-
  The walks of chancerykit.SameExpr, SameExprs: of equal trees they are true. Conditions: what is read reads as trees.
-/
namespace Go.Proofs.YticljmgcgjibpaaGreatDoor
open Go.RowKit

def SmX (d : Nat) : Prop := ∀ (h : Ev.Hd) (A A' : Option Addr) (m c c' : Nat) (ks : List Ev.Ex) (w : World), ExK w (· < w.heap.size) d A m ks → ExK w (· < w.heap.size) d A' m ks →
  Calls Tryz.prog 11 #[exV h A m c, exV h A' m c'] w fun e w' => e = .returned (.bool true) ∧ Below w.heap.size w w'
def SmXs (d : Nat) : Prop := ∀ (A A' : Option Addr) (m c c' : Nat) (ks : List Ev.Ex) (w : World), ExK w (· < w.heap.size) d A m ks → ExK w (· < w.heap.size) d A' m ks →
  Calls Tryz.prog 33 #[.slice A m c, .slice A' m c'] w fun e w' => e = .returned (.bool true) ∧ Below w.heap.size w w'
set_option linter.unusedVariables false in
set_option maxRecDepth 1000000 in
set_option maxHeartbeats 4000000 in
theorem sameExprs_step (d : Nat) (ih : ∀ d', d = d' + 1 → SmX d') : SmXs d := by
  intro A A' m c c' ks w hex hex'
  have HX := hide hex
  have HX' := hide hex'
  have HL := hide hex.len
  have IH := hide ih
  have hml := hex.len.2
  have t0 : ((m : Int) != (m : Int)) = false := by simp
  clear hex hex' ih
  go_enter Tryz.func33, Tryz.ntmps33
  go_wp2_with fail
  go_loopg [5] m (fun gg i wr => ∃ (k : Nat), k ≤ m ∧ gg = m - k ∧ i = .int .i64 (k : Nat) ∧ Below w.heap.size w wr)
  case atStart => exact ⟨0, Nat.zero_le _, rfl, rfl, Below.refl _ _⟩
  case round =>
    obtain ⟨k, hk, rfl, rfl, hbel⟩ := hrel
    obtain ⟨w5, hw5⟩ : ∃ w5, w5 = wr := ⟨_, rfl⟩
    subst hw5
    have HB := hide hbel
    have hs5 := hbel.size
    clear hbel
    by_cases hlt : k < m
    · obtain ⟨d', g, off, hd, ks', A1, c1', rfl, rfl, hg, hkk, a0, a1, a2, a3, a4, a5, a6, a7, e1, e2, e3, e4⟩ := HX.out.at hlt
      obtain ⟨d2, g', off', hd2, ks2, A2, c2', hd2e, rfl, hg', hkk', b0, b1, b2, b3, b4, b5, b6, b7, e1', e2', e3', e4'⟩ := HX'.out.at hlt
      obtain rfl : d' = d2 := by omega
      rw [hkk] at hkk'
      injection hkk' with hkk'
      injection hkk' with q1 q2
      subst q1 q2
      replace a0 := (HB.out.cell (p := ⟨g, off + k * 8, none⟩) hg).trans a0
      replace b0 := (HB.out.cell (p := ⟨g', off' + k * 8, none⟩) hg').trans b0
      replace a1 := (HB.out.cell (p := ⟨g, off + k * 8 + 1, none⟩) hg).trans a1
      replace b1 := (HB.out.cell (p := ⟨g', off' + k * 8 + 1, none⟩) hg').trans b1
      replace a2 := (HB.out.cell (p := ⟨g, off + k * 8 + 2, none⟩) hg).trans a2
      replace b2 := (HB.out.cell (p := ⟨g', off' + k * 8 + 2, none⟩) hg').trans b2
      replace a3 := (HB.out.cell (p := ⟨g, off + k * 8 + 3, none⟩) hg).trans a3
      replace b3 := (HB.out.cell (p := ⟨g', off' + k * 8 + 3, none⟩) hg').trans b3
      replace a4 := (HB.out.cell (p := ⟨g, off + k * 8 + 4, none⟩) hg).trans a4
      replace b4 := (HB.out.cell (p := ⟨g', off' + k * 8 + 4, none⟩) hg').trans b4
      replace a5 := (HB.out.cell (p := ⟨g, off + k * 8 + 5, none⟩) hg).trans a5
      replace b5 := (HB.out.cell (p := ⟨g', off' + k * 8 + 5, none⟩) hg').trans b5
      replace a6 := (HB.out.cell (p := ⟨g, off + k * 8 + 6, none⟩) hg).trans a6
      replace b6 := (HB.out.cell (p := ⟨g', off' + k * 8 + 6, none⟩) hg').trans b6
      replace a7 := (HB.out.cell (p := ⟨g, off + k * 8 + 7, none⟩) hg).trans a7
      replace b7 := (HB.out.cell (p := ⟨g', off' + k * 8 + 7, none⟩) hg').trans b7
      have HE := hide e4
      have HF := hide e4'
      have hag : g < w5.heap.size := Nat.lt_of_lt_of_le hg hs5
      have hbg : g' < w5.heap.size := Nat.lt_of_lt_of_le hg' hs5
      clear hkk e1 e2 e3 e4 e1' e2' e3' e4' hd2e
      go_upto_region 6 with fail
      have hTs := tab_stable (l := [(8, NoF)]) (fun p hp => by
          simp only [List.mem_cons, List.not_mem_nil, or_false] at hp
          subst hp
          exact NoF.stable)
      have hSs := shp_some (l := [(8, IsV (.bool true))]) (fun p hp => by
          simp only [List.mem_cons, List.not_mem_nil, or_false] at hp
          subst hp
          exact IsV.some _)
      have HTs := hide hTs
      have HSs := hide hSs
      clear hTs hSs
      refine wp_region_toldL (tab [(8, NoF)]) (Up w5) (w5.heap.size) 10 (shp [(8, IsV (.bool true))]) (HSs.out) (HTs.out) (Up.lives _) Gro (Gro.turns (Up.lives _) (HTs.out)) (by kernel_rfl) (by kernel_rfl) (Up.start _) (Nat.le_refl _) ?_
      simp only [List.take_succ_cons, List.take_zero, List.drop_succ_cons, List.drop_zero]
      refine wpTold_read ?_ rfl rfl (fun w' hS => ?_) ?_
      rotate_left
      · go_simp
        rfl
      go_frame
      refine wpTold_read ?_ rfl rfl (fun w' hS => ?_) ?_
      rotate_left
      · go_simp
        rfl
      go_frame
      refine wpTold_read ?_ rfl rfl (fun w' hS => ?_) ?_
      rotate_left
      · go_simp
        rfl
      go_frame
      refine wpTold_read ?_ rfl rfl (fun w' hS => ?_) ?_
      rotate_left
      · have l0 := (hS.cell (p := ⟨g, off + k * 8, none⟩) hag).trans a0
        have l1 := (hS.cell (p := ⟨g, off + k * 8 + 1, none⟩) hag).trans a1
        have l2 := (hS.cell (p := ⟨g, off + k * 8 + 2, none⟩) hag).trans a2
        have l3 := (hS.cell (p := ⟨g, off + k * 8 + 3, none⟩) hag).trans a3
        have l4 := (hS.cell (p := ⟨g, off + k * 8 + 4, none⟩) hag).trans a4
        have l5 := (hS.cell (p := ⟨g, off + k * 8 + 5, none⟩) hag).trans a5
        have l6 := (hS.cell (p := ⟨g, off + k * 8 + 6, none⟩) hag).trans a6
        have l7 := (hS.cell (p := ⟨g, off + k * 8 + 7, none⟩) hag).trans a7
        go_simp
        rfl
      go_frame
      refine wpTold_read ?_ rfl rfl (fun w' hS => ?_) ?_
      rotate_left
      · go_simp
        rfl
      go_frame
      refine wpTold_read ?_ rfl rfl (fun w' hS => ?_) ?_
      rotate_left
      · go_simp
        rfl
      go_frame
      refine wpTold_read ?_ rfl rfl (fun w' hS => ?_) ?_
      rotate_left
      · go_simp
        rfl
      go_frame
      refine wpTold_read ?_ rfl rfl (fun w' hS => ?_) ?_
      rotate_left
      · have l0 := (hS.cell (p := ⟨g', off' + k * 8, none⟩) hbg).trans b0
        have l1 := (hS.cell (p := ⟨g', off' + k * 8 + 1, none⟩) hbg).trans b1
        have l2 := (hS.cell (p := ⟨g', off' + k * 8 + 2, none⟩) hbg).trans b2
        have l3 := (hS.cell (p := ⟨g', off' + k * 8 + 3, none⟩) hbg).trans b3
        have l4 := (hS.cell (p := ⟨g', off' + k * 8 + 4, none⟩) hbg).trans b4
        have l5 := (hS.cell (p := ⟨g', off' + k * 8 + 5, none⟩) hbg).trans b5
        have l6 := (hS.cell (p := ⟨g', off' + k * 8 + 6, none⟩) hbg).trans b6
        have l7 := (hS.cell (p := ⟨g', off' + k * 8 + 7, none⟩) hbg).trans b7
        go_simp
        rfl
      go_frame
      refine' wpTold_call _ _ _ rfl rfl (fun w' => ?_) (fun w' hS hh hs => ?_) (fun v8 h8 => ?_)
      rotate_left 2
      · go_simp
        constructor <;> rfl
      · have cc := IH.out d' rfl hd A1 A2 ks'.length c1' c2' ks' w' ((HE.out.next HB.out).next hS) ((HF.out.next HB.out).next hS)
        unfold exV at cc
        refine cc.mono ?_
        rintro e w9 ⟨rfl, hb⟩
        exact ⟨_, rfl, ⟨rfl, trivial⟩, hb⟩
      obtain rfl := h8
      go_frame
      refine wpTold_read ?_ rfl rfl (fun w' hS => ?_) ?_
      rotate_left
      · go_simp
        rfl
      go_frame
      refine wpTold_nil fun w6 hH => ?_
      have hup : Below w5.heap.size w5 w6 := hH.s
      have HB6 := hide (HB.out.trans (hup.mono hs5))
      clear hH hup a0 a1 a2 a3 a4 a5 a6 a7 b0 b1 b2 b3 b4 b5 b6 b7
      go_wp2_with fail
      go_roundg (m - (k + 1))
      case measure => omega
      case rel => exact ⟨k + 1, by omega, rfl, by go_num, HB6.out⟩
    · obtain rfl : k = m := by omega
      go_wp2_with fail
      go_ret
      exact ⟨rfl, HB.out⟩
set_option linter.unusedVariables false in
set_option maxRecDepth 1000000 in
set_option maxHeartbeats 4000000 in
theorem sameExpr_of (d : Nat) (ih : SmXs d) : SmX d := by
  intro h A A' m c c' ks w hex hex'
  have HX := hide hex
  have HX' := hide hex'
  have IH := hide ih
  clear hex hex' ih
  unfold exV
  obtain ⟨⟨o, ⟨k, n, s⟩, nm, of, N⟩, hh⟩ : ∃ h', h' = h := ⟨_, rfl⟩
  subst hh
  obtain ⟨w1, hw1⟩ : ∃ x, x = (w.alloc (.cells #[.int .u8 (o.toNat : Int), .int .u8 (k.toNat : Int), .int .i64 n, .string s, .string nm, .string of, .int .i64 N, .slice A m c] 28)).alloc (.cells #[.int .u8 (o.toNat : Int), .int .u8 (k.toNat : Int), .int .i64 n, .string s, .string nm, .string of, .int .i64 N, .slice A' m c'] 28) := ⟨_, rfl⟩
  have HG : Hid (Blk w1 w.heap.size 28 #[.int .u8 (o.toNat : Int), .int .u8 (k.toNat : Int), .int .i64 n, .string s, .string nm, .string of, .int .i64 N, .slice A m c]) := by rw [hw1]; exact (Blk.new w _ _).alloc _
  have HR : Hid (Blk w1 (w.heap.size + 1) 28 #[.int .u8 (o.toNat : Int), .int .u8 (k.toNat : Int), .int .i64 n, .string s, .string nm, .string of, .int .i64 N, .slice A' m c']) := by
    rw [hw1]
    have := Blk.new (w.alloc (.cells #[.int .u8 (o.toNat : Int), .int .u8 (k.toNat : Int), .int .i64 n, .string s, .string nm, .string of, .int .i64 N, .slice A m c] 28)) 28 #[.int .u8 (o.toNat : Int), .int .u8 (k.toNat : Int), .int .i64 n, .string s, .string nm, .string of, .int .i64 N, .slice A' m c']
    exact hide (by simpa using this)
  have HB : Hid (Below w.heap.size w w1) := by
    rw [hw1]
    exact ((Below.refl _ _).alloc (Nat.le_refl _) _).alloc (by simp) _
  have hs1 : w1.heap.size = w.heap.size + 1 + 1 := by rw [hw1]; simp
  go_enter Tryz.func11, Tryz.ntmps11
  go_upto_region 1 with fail
  rw [← hw1]
  clear hw1
  have x0 := HG.out.cell 0
  have x1 := HG.out.cell 1
  have x2 := HG.out.cell 2
  have x3 := HG.out.cell 3
  have x4 := HG.out.cell 4
  have x5 := HG.out.cell 5
  have x6 := HG.out.cell 6
  have x7 := HG.out.cell 7
  simp at x0 x1 x2 x3 x4 x5 x6 x7
  have y0 := HR.out.cell 0
  have y1 := HR.out.cell 1
  have y2 := HR.out.cell 2
  have y3 := HR.out.cell 3
  have y4 := HR.out.cell 4
  have y5 := HR.out.cell 5
  have y6 := HR.out.cell 6
  have y7 := HR.out.cell 7
  simp at y0 y1 y2 y3 y4 y5 y6 y7
  have e1 : (binOp .eql 25 (.agg #[.int .u8 (k.toNat : Int), .int .i64 n, .string s]) (.agg #[.int .u8 (k.toNat : Int), .int .i64 n, .string s])).run Tryz.prog w1 = .ok (.bool true) w1 := by
    rw [eqlV w1 ⟨k, n, s⟩ ⟨k, n, s⟩, (vbeq_iff _ _).2 rfl]
  have e2 := guardV
  go_wp2_with fail
  have cc : SmXs d := IH.out
  unfold SmXs at cc
  replace cc := cc A A' m c c' ks w1 (ExK.keep (fun _ hg => by omega) (fun _ _ hg => HB.out.cell hg) HX.out) (ExK.keep (fun _ hg => by omega) (fun _ _ hg => HB.out.cell hg) HX'.out)
  with_reducible refine cc.mono ?_
  clear cc
  rintro e w2 ⟨rfl, hb2⟩
  have HB2 := hide (HB.out.trans (hb2.mono HB.out.size))
  clear hb2 x0 x1 x2 x3 x4 x5 x6 x7 y0 y1 y2 y3 y4 y5 y6 y7
  go_wp2_with fail
  go_ret
  exact ⟨rfl, HB2.out⟩
theorem same_all : ∀ d, SmXs d := by
  intro d
  induction d with
  | zero => exact sameExprs_step 0 fun d' h => absurd h (by omega)
  | succ d ih =>
    refine sameExprs_step (d + 1) fun d' h => ?_
    obtain rfl : d = d' := by omega
    exact sameExpr_of d ih
theorem sameExpr_any (d : Nat) (h : Ev.Hd) (A A' : Option Addr) (m c c' : Nat) (ks : List Ev.Ex) (w : World) (hex : ExK w (· < w.heap.size) d A m ks) (hex' : ExK w (· < w.heap.size) d A' m ks) :
    Calls Tryz.prog 11 #[exV h A m c, exV h A' m c'] w fun e w' => e = .returned (.bool true) ∧ Below w.heap.size w w' := sameExpr_of d (same_all d) h A A' m c c' ks w hex hex'
end Go.Proofs.YticljmgcgjibpaaGreatDoor
