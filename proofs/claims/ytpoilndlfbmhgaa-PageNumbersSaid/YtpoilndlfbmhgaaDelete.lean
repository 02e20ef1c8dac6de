/-
  slices.Delete of one cell. Conditions: the cells are a row of the call's own.
-/
import Derived.Test.YtpoilndlfbmhgaaCellOps
namespace Go.Proofs.Ytpoilndlfbmhgaa
open Go.RowKit

/-- The blocks of other types are as they were. -/
def Others (w w' : World) : Prop := ∀ (g : Nat) (e : TypeId) (xs : Array Value), Blk w g e xs → e ≠ 41 → Blk w' g e xs
theorem Others.trans {w w1 w2 : World} (h : Others w w1) (h' : Others w1 w2) : Others w w2 := fun g e xs hb hne => h' g e xs (h g e xs hb hne) hne
theorem Others.row {w : World} {g : Nat} {cur : Array Value} (hg : w.heap[g]? = some (.cells cur 41 (0, 0))) (cur' : Array Value) : Others w (w.setRow g cur') := fun g' e xs hb hne => by
  refine (setRow_other w g g' cur' fun e' => hne ?_).trans hb
  subst e'
  have h2 : w.heap[g']? = some (.cells xs e (0, 0)) := hb
  rw [hg] at h2
  injection h2 with h2
  injection h2 with _ h3 _
  exact h3.symm
theorem Others.below {w w' : World} (h : Below w.heap.size w w') : Others w w' := fun _ _ _ hb _ => hb.below h hb.lt
/-- Cells of the call's own are answered. -/
def CellsR (w : World) (lo k : Nat) (ds : List Pag.Ce) (e : Ending) (w' : World) : Prop := ∃ v, e = .returned v ∧ CeOwn w' lo k v ds ∧ Below lo w w' ∧ Others w w'
def fromA (g c i : Nat) : Addr := if c = i then ⟨g, 0, none⟩ else ⟨g, i * 2, none⟩
/-- 'l[i:]', 'l[:i]', 'l[i:j]' of cells. -/
theorem run_cFrom (w : World) (g n c i : Nat) (x : Int) (hx : x = (i : Int)) (hi : i ≤ n) : (Instr.sliceAt 23 (.slice (some ⟨g, 0, none⟩) n c) (some (.int .i64 x)) none none).run Try.prog w = .ok (.slice (some (fromA g c i)) (n - i) (c - i)) w := by
  subst hx
  have ht : Try.prog.underlying 23 = some (.slice (Try.prog.elem 23)) := by kernel_rfl
  have hs : (sizeOf (Try.prog.elem 23)).run Try.prog w = .ok 2 w := by kernel_rfl
  rw [run_sliceAt_slice (P := Try.prog) w _ _ _ _ _ ht, run_slice_l (P := Try.prog) w _ _ _ _ ht _ _ (by omega) (by omega), hs]
  simp only [Result.andThen, sliced, Option.map_some, addr_add, Int.toNat_natCast, Nat.zero_add]
  unfold fromA
  split <;> rfl
theorem run_cTo (w : World) (A : Option Addr) (n c i : Nat) (x : Int) (hx : x = (i : Int)) (hi : i ≤ c) : (Instr.sliceAt 23 (.slice A n c) none (some (.int .i64 x)) none).run Try.prog w = .ok (.slice A i c) w := by
  subst hx
  have ht : Try.prog.underlying 23 = some (.slice (Try.prog.elem 23)) := by kernel_rfl
  have hs : (sizeOf (Try.prog.elem 23)).run Try.prog w = .ok 2 w := by kernel_rfl
  rw [run_sliceAt_slice (P := Try.prog) w _ _ _ _ _ ht, run_slice_h (P := Try.prog) w _ _ _ _ ht _ _ (by omega) (by omega), hs]
  have e : (A.map fun a => a.add 0) = A := by
    cases A with
    | none => rfl
    | some a => obtain ⟨b, o, x⟩ := a; unfold Addr.add; cases x <;> simp
  simp only [Result.andThen, sliced, Nat.zero_mul, e, ite_self, Nat.sub_zero, Int.toNat_natCast]
theorem run_cPart (w : World) (g n c i j : Nat) (x y : Int) (hx : x = (i : Int)) (hy : y = (j : Int)) (hi : i ≤ j) (hj : j ≤ c) : (Instr.sliceAt 23 (.slice (some ⟨g, 0, none⟩) n c) (some (.int .i64 x)) (some (.int .i64 y)) none).run Try.prog w = .ok (.slice (some (fromA g c i)) (j - i) (c - i)) w := by
  subst hx hy
  have ht : Try.prog.underlying 23 = some (.slice (Try.prog.elem 23)) := by kernel_rfl
  have hs : (sizeOf (Try.prog.elem 23)).run Try.prog w = .ok 2 w := by kernel_rfl
  rw [run_sliceAt_slice (P := Try.prog) w _ _ _ _ _ ht, run_slice_lh (P := Try.prog) w _ _ _ _ ht _ _ _ _ (by omega) (by omega) (by omega), hs]
  simp only [Result.andThen, sliced, Option.map_some, addr_add, Int.toNat_natCast, Nat.zero_add]
  unfold fromA
  split <;> rfl
theorem run_cBounds (w : World) (g n c i j m : Nat) (x y z : Int) (hx : x = (i : Int)) (hy : y = (j : Int)) (hz : z = (m : Int)) (hi : i ≤ j) (hj : j ≤ m) (hm : m ≤ c) : (Instr.sliceAt 23 (.slice (some ⟨g, 0, none⟩) n c) (some (.int .i64 x)) (some (.int .i64 y)) (some (.int .i64 z))).run Try.prog w = .ok (.slice (some (fromA g m i)) (j - i) (m - i)) w := by
  subst hx hy hz
  have ht : Try.prog.underlying 23 = some (.slice (Try.prog.elem 23)) := by kernel_rfl
  have hs : (sizeOf (Try.prog.elem 23)).run Try.prog w = .ok 2 w := by kernel_rfl
  rw [run_sliceAt_slice (P := Try.prog) w _ _ _ _ _ ht, run_slice_lhm (P := Try.prog) w _ _ _ _ ht _ _ _ _ _ _ (by omega) (by omega) (by omega) (by omega), hs]
  simp only [Result.andThen, sliced, Option.map_some, addr_add, Int.toNat_natCast, Nat.zero_add]
  unfold fromA
  split <;> rfl
theorem zero2 : (Builtin.zeroCells (Value.agg #[.slice none 0 0, .slice none 0 0]).cells 1).toList = [.slice none 0 0, .slice none 0 0] := by kernel_rfl
theorem erase_parts (cs : List Pag.Ce) (i : Nat) : cs.eraseIdx i = cs.take i ++ cs.drop (i + 1) := List.eraseIdx_eq_take_drop_succ _ _
theorem del_list (xs cl z : List Value) (i m : Nat) (hi : i ≤ m) (hx : xs.length = (m + 1) * 2) (hc : cl.take ((m + 1) * 2) = xs) (r2 r3 : List Value) :
    ((cl.take (i * 2) ++ xs.drop ((i + 1) * 2) ++ r2).take (m * 2) ++ z ++ r3).take (m * 2) = xs.take (i * 2) ++ xs.drop ((i + 1) * 2) := by
  have l1 : (xs.take (i * 2)).length = i * 2 := by rw [List.length_take]; omega
  have l2 : (xs.drop ((i + 1) * 2)).length = (m - i) * 2 := by rw [List.length_drop]; omega
  have l3 : (xs.take (i * 2) ++ xs.drop ((i + 1) * 2)).length = m * 2 := by rw [List.length_append]; omega
  have l4 : cl.take (i * 2) = xs.take (i * 2) := by rw [← hc, List.take_take, Nat.min_eq_left (by omega)]
  rw [l4, List.take_left' l3, List.append_assoc]
  exact List.take_left' l3
set_option linter.unusedVariables false in
set_option maxRecDepth 100000 in
set_option maxHeartbeats 1600000 in
theorem delete_any (A : Option Addr) (n c i lo k : Nat) (cs : List Pag.Ce) (w : World) (ho : CeOwn w lo k (.slice A n c) cs) (hn : n = cs.length) (hi : i < n) (hc2 : c ≤ 9223372036854775807) (hlo : lo ≤ w.heap.size) :
    Calls Try.prog 47 #[.slice A n c, .int .i64 (i : Int), .int .i64 ((i : Int) + 1)] w (CellsR w lo k (cs.eraseIdx i)) := by
  obtain ⟨g, bs, cur, rfl, hrow⟩ := ho.row hn (by omega)
  obtain ⟨m, rfl⟩ : ∃ m, n = m + 1 := ⟨n - 1, by omega⟩
  obtain ⟨iC, hiC, hz0, hz1, hz2⟩ := info_parts infoC
  have hmc : m + 1 ≤ c := hrow.nc
  have hbl := hrow.bl
  have hone := hrow.one hlo
  obtain ⟨W, hW⟩ : ∃ W, W = w.drew := ⟨_, rfl⟩
  have hgW : W.heap[g]? = some (.cells cur 41 (0, 0)) := by rw [hW]; exact hrow.heap
  have hnl : (prs (bs.drop (i + 1))).length = (m + 1 - (i + 1)) * 2 := by rw [prs_len, List.length_drop]; omega
  have hsz := hrow.size
  have hfit : i * 2 + (prs (bs.drop (i + 1))).length ≤ cur.size := by rw [hnl, hsz]; omega
  have hsrc : ∀ j u, (prs (bs.drop (i + 1)))[j]? = some u → W.cell? ((fromA g c (i + 1)).add j) = some u := fun j u hj => by
    have hjl := (List.getElem?_eq_some_iff.1 hj).1
    rw [hnl] at hjl
    unfold fromA
    rw [if_neg (by omega), addr_add, hW]
    refine hrow.cell ?_
    rw [prs_drop, List.getElem?_drop] at hj
    exact hj
  have hap := fun ty => run_append_in (P := Try.prog) W 23 ty 41 iC 2 Try.underlying23 hiC hz1 g i c cur hgW (fromA g c (i + 1)) (m + 1 - (i + 1)) (c - (i + 1)) (prs (bs.drop (i + 1))) hnl hsrc (fun u hu => hone u (by rw [prs_drop] at hu; exact List.mem_of_mem_drop hu)) (by omega) hfit
  rw [show i + (m + 1 - (i + 1)) = m by omega] at hap
  obtain ⟨cur1, hc1⟩ : ∃ cur1, cur1 = lay3 cur (i * 2) (prs (bs.drop (i + 1))) := ⟨_, rfl⟩
  rw [← hc1] at hap
  have hs1 : cur1.size = c * 2 := by rw [hc1, lay3_size _ _ _ hfit, hsz]
  have hg1 : (W.setRow g cur1).heap[g]? = some (.cells cur1 41 (0, 0)) := setRow_heap W g cur cur1 41 (0, 0) hgW
  have hfm : fromA g c m = ⟨g, m * 2, none⟩ := by unfold fromA; rw [if_neg (by omega)]
  have hcl := fun ty => run_clear_row (P := Try.prog) (W.setRow g cur1) 23 41 ty (.agg #[.slice none 0 0, .slice none 0 0]) Try.underlying23 (fun w => by kernel_rfl) g (m * 2) 1 (c - m) cur1 41 hg1 [.slice none 0 0, .slice none 0 0] zero2 (by simp [Value.oneCell']) (by omega) (by rw [hs1]; simp; omega)
  rw [← hfm] at hcl
  obtain ⟨cur2, hc2'⟩ : ∃ cur2, cur2 = lay3 cur1 (m * 2) [.slice none 0 0, .slice none 0 0] := ⟨_, rfl⟩
  rw [← hc2'] at hcl
  have hs2 : cur2.size = c * 2 := by rw [hc2', lay3_size _ _ _ (by rw [hs1]; simp; omega), hs1]
  have hg2 : ((W.setRow g cur1).setRow g cur2).heap[g]? = some (.cells cur2 41 (0, 0)) := setRow_heap _ g cur1 cur2 41 (0, 0) hg1
  have FIN : Hid (CeOwn ((W.setRow g cur1).setRow g cur2) lo k (.slice (some ⟨g, 0, none⟩) m c) (cs.eraseIdx i) ∧ Below lo w ((W.setRow g cur1).setRow g cur2) ∧ Others w ((W.setRow g cur1).setRow g cur2)) := by
    have hlen : (cs.eraseIdx i).length = m := by rw [List.length_eraseIdx, if_pos (by omega)]; omega
    refine ⟨hrow.own (es := bs.eraseIdx i) hg2 (fun b l hb => ?_) hlen.symm (by rw [List.length_eraseIdx, if_pos (by omega), hlen]; omega) (by omega) hs2 ?_ ?_, ?_, ?_⟩
    · have h1 : Bo W lo k b l := by rw [hW]; exact hb.drew
      exact (h1.row hgW hrow.big).row hg1 hrow.big
    · rw [hc2', lay3_list, hc1, lay3_list]
      have ht := hrow.take
      have hpl : (prs bs).length = (m + 1) * 2 := by rw [prs_len, hbl, ← hn]
      rw [List.eraseIdx_eq_take_drop_succ, prs_append, prs_take, prs_drop]
      exact del_list (prs bs) cur.toList _ i m (by omega) hpl ht _ _
    · intro j c' b hc' hb'
      rw [List.getElem?_eraseIdx] at hc' hb'
      split at hc'
      · rename_i hlt
        rw [if_pos hlt] at hb'
        exact hrow.body j c' b hc' hb'
      · rename_i hlt
        rw [if_neg hlt] at hb'
        exact hrow.body (j + 1) c' b hc' hb'
    · rw [hW]
      exact below_setRow (below_setRow (Below.refl lo w).drew hrow.big _) hrow.big _
    · rw [hW] at hgW hg1 ⊢
      exact Others.trans (fun g' e xs hb _ => hb) ((Others.row hgW cur1).trans (Others.row hg1 cur2))
  have e1 := fun w' => run_cBounds w' g (m + 1) c i (i + 1) (m + 1) (i : Int) ((i : Int) + 1) ((m : Int) + 1) rfl (by omega) (by omega) (by omega) (by omega) hmc
  have e2 := run_cTo
  have E1 := hide e1
  have hif : (if c = i + 1 then some (⟨g, 0, none⟩ : Addr) else some ⟨g, (i + 1) * 2, none⟩) = some (fromA g c (i + 1)) := by unfold fromA; split <;> rfl
  have HIf := hide hif
  rw [Nat.add_sub_add_right] at hap
  have HAp := hide hap
  have hic : i ≤ c := by omega
  have him : i ≤ m := by omega
  have hi0 : (0 : Int) ≤ (i : Int) + 1 := by omega
  clear hif
  have HCl := hide hcl
  have HW := hide hW
  clear hone hW hgW hnl hsz hfit hsrc hap hc1 hs1 hg1 hfm hcl hc2' hs2 hg2 e2 hrow hbl ho hn
  go_enter Try.func47, Try.ntmps47
  go_wp2_with fail
  refine wp_region_flow (fun w' => w' = w.drew) 6 (by kernel_rfl) (by kernel_rfl) rfl ?_
  simp only [List.take_succ_cons, List.take_zero, List.drop_succ_cons, List.drop_zero]
  refine wpFlow_read ?_ rfl (fun w' hS => ?_) ?_
  rotate_left
  · go_simp
    rfl
  refine wpFlow_read ?_ rfl (fun w' hS => ?_) ?_
  rotate_left
  · go_simp
    rfl
  refine wpFlow_read ?_ rfl (fun w' hS => ?_) ?_
  rotate_left
  · go_simp
    rfl
  refine wpFlow_read ?_ rfl (fun w' hS => ?_) ?_
  rotate_left
  · go_simp
    rfl
  refine wpFlow_read ?_ rfl (fun w' hS => ?_) ?_
  rotate_left
  · go_simp
    rfl
  refine wpFlow_read ?_ rfl (fun w' hS => ?_) ?_
  rotate_left
  · go_simp
    rfl
  refine wpFlow_nil fun w2 hS => ?_
  rw [← HW.out] at hS
  subst hS
  rw [HIf.out]
  go_frame
  have ap := HAp.out
  refine wpList_run rfl (exec_append (.tmp 22) (.tmp 25) rfl rfl rfl (ap _)) ?_
  clear ap
  have hfm : fromA g c m = ⟨g, m * 2, none⟩ := by unfold fromA; rw [if_neg (by omega)]
  have s2 := fun w' => run_cPart w' g m c m (m + 1) (m : Int) ((m : Int) + 1) rfl (by omega) (by omega) hmc
  simp only [Nat.add_sub_cancel_left] at s2
  have cl := HCl.out
  clear hfm
  go_frame
  go_wp2_with fail
  go_ret
  exact ⟨_, rfl, FIN.out.1, FIN.out.2.1, FIN.out.2.2⟩
end Go.Proofs.Ytpoilndlfbmhgaa
