/-
  slices.Insert of one cell. Conditions: the cells are a row of the call's own; the cell lies in a block of its own.
-/
import Derived.Test.YtpoilndlfbmhgaaDelete
namespace Go.Proofs.Ytpoilndlfbmhgaa
open Go.RowKit

theorem ins_list (xs cl z : List Value) (i n : Nat) (hi : i ≤ n) (hx : xs.length = n * 2) (hl : (n + 1) * 2 ≤ cl.length) (hc : cl.take (n * 2) = xs) (hz : z.length = 2) (r : List Value) :
    ((cl.take ((i + 1) * 2) ++ xs.drop (i * 2) ++ r).take (i * 2) ++ z ++ (cl.take ((i + 1) * 2) ++ xs.drop (i * 2) ++ r).drop (i * 2 + z.length)).take ((n + 1) * 2) = xs.take (i * 2) ++ z ++ xs.drop (i * 2) := by
  have l0 : (cl.take ((i + 1) * 2)).length = (i + 1) * 2 := by rw [List.length_take]; omega
  have l4 : cl.take (i * 2) = xs.take (i * 2) := by rw [← hc, List.take_take, Nat.min_eq_left (by omega)]
  have e1 : (cl.take ((i + 1) * 2) ++ xs.drop (i * 2) ++ r).take (i * 2) = xs.take (i * 2) := by
    rw [List.append_assoc, List.take_append_of_le_length (by omega), List.take_take, Nat.min_eq_left (by omega), l4]
  have e2 : (cl.take ((i + 1) * 2) ++ xs.drop (i * 2) ++ r).drop (i * 2 + z.length) = xs.drop (i * 2) ++ r := by
    rw [List.append_assoc, show i * 2 + z.length = (i + 1) * 2 by omega]
    exact List.drop_left' l0
  rw [e1, e2, ← List.append_assoc]
  refine List.take_left' ?_
  simp only [List.length_append, List.length_take, List.length_drop]
  omega
theorem new_list (xs r0 z : List Value) (i n : Nat) (hi : i ≤ n) (hx : xs.length = n * 2) (hz : z.length = 2) :
    ((((xs.take (i * 2) ++ r0).take (i * 2) ++ z ++ (xs.take (i * 2) ++ r0).drop (i * 2 + z.length)).take ((i + 1) * 2) ++ xs.drop (i * 2) ++ ((xs.take (i * 2) ++ r0).take (i * 2) ++ z ++ (xs.take (i * 2) ++ r0).drop (i * 2 + z.length)).drop ((i + 1) * 2 + (xs.drop (i * 2)).length)).take ((n + 1) * 2)) = xs.take (i * 2) ++ z ++ xs.drop (i * 2) := by
  have l0 : (xs.take (i * 2)).length = i * 2 := by rw [List.length_take]; omega
  have e1 : (xs.take (i * 2) ++ r0).take (i * 2) = xs.take (i * 2) := List.take_left' l0
  rw [e1]
  have e2 : (xs.take (i * 2) ++ z ++ (xs.take (i * 2) ++ r0).drop (i * 2 + z.length)).take ((i + 1) * 2) = xs.take (i * 2) ++ z := List.take_left' (by rw [List.length_append, l0, hz]; omega)
  rw [e2]
  refine List.take_left' ?_
  simp only [List.length_append, List.length_take, List.length_drop]
  omega
theorem getElem?_ins (cs : List Pag.Ce) (f : Pag.Ce) (i j : Nat) (hi : i ≤ cs.length) : (cs.take i ++ [f] ++ cs.drop i)[j]? = if j < i then cs[j]? else if j = i then some f else cs[j - 1]? := by
  have l0 : (cs.take i).length = i := by rw [List.length_take]; omega
  rw [List.append_assoc]
  by_cases h1 : j < i
  · rw [if_pos h1, List.getElem?_append_left (by omega), List.getElem?_take, if_pos h1]
  · rw [if_neg h1, List.getElem?_append_right (by omega), l0]
    by_cases h2 : j = i
    · rw [if_pos h2, h2, Nat.sub_self]; rfl
    · rw [if_neg h2, show j - i = (j - i - 1) + 1 by omega]
      show (cs.drop i)[j - i - 1]? = _
      rw [List.getElem?_drop, show i + (j - i - 1) = j - 1 by omega]
theorem getElem?_insB (cs : List (Value × Value)) (f : Value × Value) (i j : Nat) (hi : i ≤ cs.length) : (cs.take i ++ [f] ++ cs.drop i)[j]? = if j < i then cs[j]? else if j = i then some f else cs[j - 1]? := by
  have l0 : (cs.take i).length = i := by rw [List.length_take]; omega
  rw [List.append_assoc]
  by_cases h1 : j < i
  · rw [if_pos h1, List.getElem?_append_left (by omega), List.getElem?_take, if_pos h1]
  · rw [if_neg h1, List.getElem?_append_right (by omega), l0]
    by_cases h2 : j = i
    · rw [if_pos h2, h2, Nat.sub_self]; rfl
    · rw [if_neg h2, show j - i = (j - i - 1) + 1 by omega]
      show (cs.drop i)[j - i - 1]? = _
      rw [List.getElem?_drop, show i + (j - i - 1) = j - 1 by omega]
theorem ins_len (cs : List Pag.Ce) (f : Pag.Ce) (i : Nat) (hi : i ≤ cs.length) : (cs.take i ++ [f] ++ cs.drop i).length = cs.length + 1 := by
  simp only [List.length_append, List.length_take, List.length_drop, List.length_singleton]; omega
theorem overlaps_no (w : World) (vb g off n c vc m : Nat) (xs ys : Array Value) (hne : vb ≠ g) (hv : Blk w vb 41 xs) (hg : w.heap[g]? = some (.cells ys 41 (0, 0))) (h0 : 0 < ys.size) :
    (callFunc 59 #[.slice (some ⟨vb, 0, none⟩) m vc, .slice (some ⟨g, off, none⟩) n c]).run Try.prog w = .ok (.value (.bool false)) w := by
  have hsa : w.shape? vb = some (41, xs.size) := by unfold World.shape?; rw [show w.heap[vb]? = some (.cells xs 41 (0, 0)) from hv]
  have hsb : w.shape? g = some (41, ys.size) := by unfold World.shape?; rw [hg]
  rw [run_callFunc_extern Try.func59 (by kernel_rfl) (by kernel_rfl) (by kernel_rfl) (e := Extern.SlicesOverlaps.overlaps #[23, 23] #[4]) (by kernel_rfl),
    Lib.run_overlaps_apart w 23 4 41 Try.underlying23 2 (fun w => by kernel_rfl) ⟨vb, 0, none⟩ ⟨g, off, none⟩ m vc n c hne _ _ _ _ hsa hsb (by omega) (hv.frozen 0) (hv.frozen _)]
  rfl
set_option linter.unusedVariables false in
set_option maxRecDepth 100000 in
set_option maxHeartbeats 1600000 in
theorem insert_end (A : Option Addr) (n c lo k : Nat) (cs : List Pag.Ce) (w : World) (ho : CeOwn w lo k (.slice A n c) cs) (hn : n = cs.length) (f : Pag.Ce) (b1 b2 : Value) (hb1 : Bo w lo k b1 f.1) (hb2 : Bo w lo k b2 f.2) (vb vc : Nat) (hv : Blk w vb 41 #[b1, b2])
    (hm : (n + 1) * 48 ≤ 140737488355328) (hlo : lo ≤ w.heap.size) :
    Calls Try.prog 49 #[.slice A n c, .int .i64 (n : Int), .slice (some ⟨vb, 0, none⟩) 1 vc] w (CellsR w lo k (cs ++ [f])) := by
  have HO := hide ho
  have H1 := hide hb1
  have H2 := hide hb2
  have HV := hide hv
  have HM : Hid ((cs.length + 1) * 48 ≤ 140737488355328) := by show _ ≤ _; omega
  obtain ⟨A', c', e', x1, x2⟩ := ho.form
  rw [← hn] at e' x1
  injection e' with _ _ e3
  subst e3
  clear ho hb1 hb2 hv hn
  go_enter Try.func49, Try.ntmps49
  go_wp2_with (at_builtin; refine wpList_appCg rfl (.tmp 23) (.tmp 24) rfl lo k _ cs rfl HO.out vb vc f b1 b2 H1.out H2.out rfl HV.out HM.out hlo ?_; intro v' w' ho' hb' hx'; have HO' := hide ho'; have HB' := hide hb'; have HX' : Hid (Others w w') := hx'; clear ho' hb' hx')
  all_goals
    go_ret
    exact ⟨_, rfl, HO'.out, HB'.out, HX'.out⟩
theorem ins_body {w : World} {lo k g n cap i : Nat} {cs : List Pag.Ce} {bs : List (Value × Value)} {cur : Array Value} (h : CeRow w lo k g n cap cs bs cur) (hi : i ≤ n) {f : Pag.Ce} {b1 b2 : Value} (hb1 : Bo w lo k b1 f.1) (hb2 : Bo w lo k b2 f.2) :
    ∀ (j : Nat) (c : Pag.Ce) (b : Value × Value), (cs.take i ++ [f] ++ cs.drop i)[j]? = some c → (bs.take i ++ [(b1, b2)] ++ bs.drop i)[j]? = some b → Bo w lo k b.1 c.1 ∧ Bo w lo k b.2 c.2 := by
  intro j c b hc hb
  have hl := h.len
  have hl2 := h.bl
  rw [getElem?_ins _ _ _ _ (by omega)] at hc
  rw [getElem?_insB _ _ _ _ (by omega)] at hb
  by_cases h1 : j < i
  · rw [if_pos h1] at hc hb
    exact h.body j c b hc hb
  · rw [if_neg h1] at hc hb
    by_cases h2 : j = i
    · rw [if_pos h2] at hc hb
      injection hc with hc
      injection hb with hb
      subst hc hb
      exact ⟨hb1, hb2⟩
    · rw [if_neg h2] at hc hb
      exact h.body (j - 1) c b hc hb
set_option linter.unusedVariables false in
set_option maxRecDepth 100000 in
set_option maxHeartbeats 1600000 in
theorem insert_in (g n c i lo k : Nat) (cs : List Pag.Ce) (bs : List (Value × Value)) (cur : Array Value) (w : World) (hrow : CeRow w lo k g n c cs bs cur) (hi : i < n) (hroom : n + 1 ≤ c) (f : Pag.Ce) (b1 b2 : Value) (hb1 : Bo w lo k b1 f.1) (hb2 : Bo w lo k b2 f.2) (vb vc : Nat) (hv : Blk w vb 41 #[b1, b2]) (hne : vb ≠ g)
    (hlo : lo ≤ w.heap.size) :
    Calls Try.prog 49 #[.slice (some ⟨g, 0, none⟩) n c, .int .i64 (i : Int), .slice (some ⟨vb, 0, none⟩) 1 vc] w (CellsR w lo k (cs.take i ++ [f] ++ cs.drop i)) := by
  obtain ⟨iC, hiC, hz0, hz1, hz2⟩ := info_parts infoC
  have hsz1 : (Try.prog.info? 41).map (·.size) = some 2 := by rw [hiC]; simp [hz1]
  have hbl := hrow.bl
  have hlen := hrow.len
  have hcm : c ≤ 9223372036854775807 := hrow.cm
  have hone := hrow.one hlo
  have o1 : b1.oneCell' = true := by obtain ⟨A, c, e, _⟩ := hb1.bd hlo; rw [e]; rfl
  have o2 : b2.oneCell' = true := by obtain ⟨A, c, e, _⟩ := hb2.bd hlo; rw [e]; rfl
  obtain ⟨W, hW⟩ : ∃ W, W = w.drew := ⟨_, rfl⟩
  have hgW : W.heap[g]? = some (.cells cur 41 (0, 0)) := by rw [hW]; exact hrow.heap
  have hvW : Blk W vb 41 #[b1, b2] := by rw [hW]; exact hv
  have hsz := hrow.size
  have hnl : (prs (bs.drop i)).length = (n - i) * 2 := by rw [prs_len, List.length_drop]; omega
  have hfit : (i + 1) * 2 + (prs (bs.drop i)).length ≤ cur.size := by rw [hnl, hsz]; omega
  have hsrc : ∀ j u, (prs (bs.drop i))[j]? = some u → W.cell? ((⟨g, i * 2, none⟩ : Addr).add j) = some u := fun j u hj => by
    rw [addr_add, hW]
    refine hrow.cell ?_
    rw [prs_drop, List.getElem?_drop] at hj
    exact hj
  have cp1 := fun ty => run_copy_rows (P := Try.prog) W 23 23 ty 41 2 g ((i + 1) * 2) (n - i) (c - (i + 1)) ⟨g, i * 2, none⟩ (n + 1 - i) (c - i) (n - i) cur 41 (prs (bs.drop i)) Try.underlying23 hsz1 hgW (by simp only [Nat.min_def]; split <;> omega) hnl hsrc hfit (fun u hu => hone u (by rw [prs_drop] at hu; exact List.mem_of_mem_drop hu))
  obtain ⟨cur1, hc1⟩ : ∃ cur1, cur1 = lay3 cur ((i + 1) * 2) (prs (bs.drop i)) := ⟨_, rfl⟩
  rw [← hc1] at cp1
  have hs1 : cur1.size = c * 2 := by rw [hc1, lay3_size _ _ _ hfit, hsz]
  have hg1 : (W.setRow g cur1).heap[g]? = some (.cells cur1 41 (0, 0)) := setRow_heap W g cur cur1 41 (0, 0) hgW
  have hv1 : Blk (W.setRow g cur1) vb 41 #[b1, b2] := (setRow_other W g vb cur1 hne).trans hvW
  have cp2 := fun ty => run_copy_rows (P := Try.prog) (W.setRow g cur1) 23 23 ty 41 2 g (i * 2) (n + 1 - i) (c - i) ⟨vb, 0, none⟩ 1 vc 1 cur1 41 [b1, b2] Try.underlying23 hsz1 hg1 (by simp only [Nat.min_def]; split <;> omega) rfl
    (fun j u hj => by rw [addr_add, Nat.zero_add, hv1.cell j]; simpa using hj) (by rw [hs1]; simp; omega) (by simp [o1, o2])
  obtain ⟨cur2, hc2⟩ : ∃ cur2, cur2 = lay3 cur1 (i * 2) [b1, b2] := ⟨_, rfl⟩
  rw [← hc2] at cp2
  have hs2 : cur2.size = c * 2 := by rw [hc2, lay3_size _ _ _ (by rw [hs1]; simp; omega), hs1]
  have hg2 : ((W.setRow g cur1).setRow g cur2).heap[g]? = some (.cells cur2 41 (0, 0)) := setRow_heap _ g cur1 cur2 41 (0, 0) hg1
  have FIN : Hid (CeOwn ((W.setRow g cur1).setRow g cur2) lo k (.slice (some ⟨g, 0, none⟩) (n + 1) c) (cs.take i ++ [f] ++ cs.drop i) ∧ Below lo w ((W.setRow g cur1).setRow g cur2) ∧ Others w ((W.setRow g cur1).setRow g cur2)) := by
    refine ⟨hrow.own (es := bs.take i ++ [(b1, b2)] ++ bs.drop i) hg2 (fun b l hb => ?_) (by rw [ins_len _ _ _ (by omega), hlen]) ?_ hroom hs2 ?_ (ins_body hrow (by omega) hb1 hb2), ?_, ?_⟩
    · have h1 : Bo W lo k b l := by rw [hW]; exact hb.drew
      exact (h1.row hgW hrow.big).row hg1 hrow.big
    · rw [ins_len _ _ _ (by omega)]
      simp only [List.length_append, List.length_take, List.length_drop, List.length_singleton]
      omega
    · have hpl : (prs bs).length = n * 2 := by rw [prs_len, hbl, ← hlen]
      rw [hc2, lay3_list, hc1, lay3_list, prs_append, prs_append, prs_take, prs_drop]
      exact ins_list (prs bs) cur.toList [b1, b2] i n (by omega) hpl (by rw [Array.length_toList, hsz]; omega) hrow.take rfl _
    · rw [hW]
      exact below_setRow (below_setRow (Below.refl lo w).drew hrow.big _) hrow.big _
    · rw [hW] at hgW hg1 ⊢
      exact Others.trans (fun g' e xs hb _ => hb) ((Others.row hgW cur1).trans (Others.row hg1 cur2))
  have hov := fun len => overlaps_no w vb g ((i + 1) * 2) len (c - (i + 1)) vc 1 #[b1, b2] cur hne hv hrow.heap (by rw [hsz]; omega)
  have HOv := hide hov
  have C1 := hide cp1
  have C2 := hide cp2
  have HW := hide hW
  have e1 : ¬ (n : Int) = (i : Int) := by omega
  have e2 : ¬ (i : Int) = (n : Int) := by omega
  have e3 : ¬ ((c : Int) < (n : Int) + 1) := by omega
  have e4 : ¬ (c = i + 1) := by omega
  have e5 : ¬ (c = i) := by omega
  have e6 : i ≤ n := by omega
  have e7 : (0 : Int) ≤ (i : Int) + 1 := by omega
  have e8 : (0 : Int) ≤ (n : Int) + 1 := by omega
  have e9 : i ≤ n + 1 := by omega
  clear hov hone hW hgW hvW hsz hnl hfit hsrc cp1 hc1 hs1 hg1 hv1 cp2 hc2 hs2 hg2 hrow hbl hlen hb1 hb2 hv hsz1 o1 o2 hiC hz0 hz1 hz2
  have hov := HOv.out
  go_enter Try.func49, Try.ntmps49
  go_wp2_with fail
  have q1 : IntKind.i64.wrap ((i : Int) + 1) = (i : Int) + 1 := by rw [IntKind.wrap_i64]; omega
  have q2 : ((i : Int) + 1).toNat = i + 1 := by omega
  have q3 : (i : Int) ≤ (n : Int) + 1 := by omega
  refine wp_region_flow (fun w' => w' = w.drew) 8 (by kernel_rfl) (by kernel_rfl) rfl ?_
  simp only [List.take_succ_cons, List.take_zero, List.drop_succ_cons, List.drop_zero]
  refine wpFlow_read ?_ rfl (fun w' hS => ?_) ?_
  rotate_left
  · go_simp
    rfl
  refine wpFlow_read ?_ rfl (fun w' hS => ?_) ?_
  rotate_left
  · go_simp
    rfl
  refine wpFlow_read ?_ rfl (fun w' hS => ?_) ?_
  rotate_left
  · go_simp
    rfl
  refine wpFlow_read ?_ rfl (fun w' hS => ?_) ?_
  rotate_left
  · go_simp
    rfl
  refine wpFlow_read ?_ rfl (fun w' hS => ?_) ?_
  rotate_left
  · go_simp
    rfl
  refine wpFlow_read ?_ rfl (fun w' hS => ?_) ?_
  rotate_left
  · go_simp
    rfl
  refine wpFlow_read ?_ rfl (fun w' hS => ?_) ?_
  rotate_left
  · go_simp
    rfl
  refine wpFlow_read ?_ rfl (fun w' hS => ?_) ?_
  rotate_left
  · go_simp
    rfl
  refine wpFlow_nil fun w2 hS => ?_
  rw [← HW.out] at hS
  subst hS
  go_frame
  clear q1 q2 q3
  have c1 := C1.out
  refine wpList_run rfl (exec_copy (.tmp 73) (.tmp 76) rfl rfl rfl (c1 _)) ?_
  clear c1
  have c2 := C2.out
  go_frame
  go_wp2_with fail
  go_ret
  exact ⟨_, rfl, FIN.out.1, FIN.out.2.1, FIN.out.2.2⟩
set_option linter.unusedVariables false in
set_option maxRecDepth 100000 in
set_option maxHeartbeats 1600000 in
theorem insert_new (g n c i lo k : Nat) (cs : List Pag.Ce) (bs : List (Value × Value)) (cur : Array Value) (w : World) (hrow : CeRow w lo k g n c cs bs cur) (hi : i < n) (hroom : c < n + 1) (f : Pag.Ce) (b1 b2 : Value) (hb1 : Bo w lo k b1 f.1) (hb2 : Bo w lo k b2 f.2) (vb vc : Nat) (hv : Blk w vb 41 #[b1, b2])
    (hm : (n + 1) * 48 ≤ 140737488355328) (hlo : lo ≤ w.heap.size) :
    Calls Try.prog 49 #[.slice (some ⟨g, 0, none⟩) n c, .int .i64 (i : Int), .slice (some ⟨vb, 0, none⟩) 1 vc] w (CellsR w lo k (cs.take i ++ [f] ++ cs.drop i)) := by
  obtain ⟨iC, hiC, hz0, hz1, hz2⟩ := info_parts infoC
  have hsz1 : (Try.prog.info? 41).map (·.size) = some 2 := by rw [hiC]; simp [hz1]
  have hbl := hrow.bl
  have hlen := hrow.len
  have hcm : c ≤ 9223372036854775807 := hrow.cm
  have hnc := hrow.nc
  have hone := hrow.one hlo
  have o1 : b1.oneCell' = true := by obtain ⟨A, c, e, _⟩ := hb1.bd hlo; rw [e]; rfl
  have o2 : b2.oneCell' = true := by obtain ⟨A, c, e, _⟩ := hb2.bd hlo; rw [e]; rfl
  have hgl : g < w.heap.size := lt_of_block hrow.heap
  have hvl : vb < w.heap.size := hv.lt
  have hpl : (prs bs).length = n * 2 := by rw [prs_len, hbl, ← hlen]
  have hold : (Builtin.firstCells iC.size i (.slice (some ⟨g, 0, none⟩) i c)).run Try.prog w.drew = .ok (prs (bs.take i)).toArray w.drew := by
    rw [hz1]
    refine run_firstCells_some w.drew 2 i ⟨g, 0, none⟩ i c (prs (bs.take i)) (by rw [prs_len, List.length_take]; omega) fun j u hj => ?_
    rw [addr_add, Nat.zero_add]
    rw [prs_take, List.getElem?_take] at hj
    split at hj
    · exact hrow.cell hj
    · cases hj
  have hik : i + (n + 1 - i) = n + 1 := by omega
  have hap := fun ty => Lib.run_append_grow_zeros w 23 3 ty 41 iC _ .i64 .i64 Try.underlying23 Try.underlying3 hiC hz0 (some ⟨g, 0, none⟩) i c (prs (bs.take i)) hold (n + 1 - i) (by omega) (by rw [hz1]; omega) (by omega) (by omega) (by rw [hz2]; omega) (by rw [hz2, hik]; exact growslice_fits (by omega) hm)
  rw [hik] at hap
  obtain ⟨G, hG⟩ : ∃ G, G = grownCap w (n + 1) c 41 := ⟨_, rfl⟩
  rw [← hG] at hap
  have hGn : n + 1 ≤ G := by rw [hG]; exact grownCap_ge w _ _ _
  have hG63 : G ≤ 9223372036854775807 := by
    have := grownCap_le_maxLen w (n + 1) c 41 (by unfold maxLen; omega)
    rw [← hG] at this
    unfold maxLen at this
    exact this
  have zl : ∀ k, (Builtin.zeroCells (Value.agg #[.slice none 0 0, .slice none 0 0]).cells k).toList.length = k * 2 := fun k => by
    rw [Array.length_toList, Builtin.zeroCells, Array.size_map, Array.size_range]
    rfl
  obtain ⟨ROW, hROW⟩ : ∃ ROW : Array Value, ROW = (prs (bs.take i)).toArray ++ Builtin.zeroCells (Value.agg #[.slice none 0 0, .slice none 0 0]).cells (n + 1 - i) ++ Builtin.zeroCells (Value.agg #[.slice none 0 0, .slice none 0 0]).cells (G - (n + 1)) := ⟨_, rfl⟩
  rw [← hROW] at hap
  obtain ⟨r0, hr0⟩ : ∃ r0, ROW.toList = (prs bs).take (i * 2) ++ r0 := ⟨(Builtin.zeroCells (Value.agg #[.slice none 0 0, .slice none 0 0]).cells (n + 1 - i)).toList ++ (Builtin.zeroCells (Value.agg #[.slice none 0 0, .slice none 0 0]).cells (G - (n + 1))).toList, by rw [hROW, ← prs_take]; simp⟩
  have hRs : ROW.size = G * 2 := by
    rw [hROW, Array.size_append, Array.size_append, ← Array.length_toList, ← Array.length_toList, ← Array.length_toList, zl, zl]
    simp only [prs_len, List.length_take]
    omega
  obtain ⟨W, hW⟩ : ∃ W, W = w.drew.alloc (.cells ROW 41) := ⟨_, rfl⟩
  rw [← hW] at hap
  have hN : W.heap[w.heap.size]? = some (.cells ROW 41 (0, 0)) := by rw [hW]; exact heap_alloc_new w.drew _
  have hbW : Below w.heap.size w W := by rw [hW]; exact (Below.refl w.heap.size w).drew.alloc (Nat.le_refl _) _
  have hvW : Blk W vb 41 #[b1, b2] := (hbW.block vb hvl).trans hv
  have cp1 := fun ty => run_copy_rows (P := Try.prog) W 23 23 ty 41 2 w.heap.size (i * 2) (n + 1 - i) (G - i) ⟨vb, 0, none⟩ 1 vc 1 ROW 41 [b1, b2] Try.underlying23 hsz1 hN (by simp only [Nat.min_def]; split <;> omega) rfl
    (fun j u hj => by rw [addr_add, Nat.zero_add, hvW.cell j]; simpa using hj) (by rw [hRs]; simp; omega) (by simp [o1, o2])
  obtain ⟨cur1, hc1⟩ : ∃ cur1, cur1 = lay3 ROW (i * 2) [b1, b2] := ⟨_, rfl⟩
  rw [← hc1] at cp1
  have hs1 : cur1.size = G * 2 := by rw [hc1, lay3_size _ _ _ (by rw [hRs]; simp; omega), hRs]
  obtain ⟨W1, hW1⟩ : ∃ W1, W1 = (W.setRow w.heap.size cur1).drew := ⟨_, rfl⟩
  have hg1 : W1.heap[w.heap.size]? = some (.cells cur1 41 (0, 0)) := by rw [hW1]; exact setRow_heap W w.heap.size ROW cur1 41 (0, 0) hN
  have hb1W : Below w.heap.size w W1 := by rw [hW1]; exact (below_setRow hbW (Nat.le_refl _) _).drew
  have hnl : (prs (bs.drop i)).length = (n - i) * 2 := by rw [prs_len, List.length_drop]; omega
  have hfit : (i + 1) * 2 + (prs (bs.drop i)).length ≤ cur1.size := by rw [hnl, hs1]; omega
  have cp2 := fun ty => run_copy_rows (P := Try.prog) W1 23 23 ty 41 2 w.heap.size ((i + 1) * 2) (n - i) (G - (i + 1)) ⟨g, i * 2, none⟩ (n - i) (c - i) (n - i) cur1 41 (prs (bs.drop i)) Try.underlying23 hsz1 hg1 (by simp only [Nat.min_def]; split <;> omega) hnl
    (fun j u hj => by
      rw [addr_add, hb1W.cell (p := ⟨g, i * 2 + j, none⟩) hgl]
      refine hrow.cell ?_
      rw [prs_drop, List.getElem?_drop] at hj
      exact hj) hfit (fun u hu => hone u (by rw [prs_drop] at hu; exact List.mem_of_mem_drop hu))
  obtain ⟨cur2, hc2⟩ : ∃ cur2, cur2 = lay3 cur1 ((i + 1) * 2) (prs (bs.drop i)) := ⟨_, rfl⟩
  rw [← hc2] at cp2
  have hs2 : cur2.size = G * 2 := by rw [hc2, lay3_size _ _ _ hfit, hs1]
  have hg2 : (W1.setRow w.heap.size cur2).heap[w.heap.size]? = some (.cells cur2 41 (0, 0)) := setRow_heap _ _ cur1 cur2 41 (0, 0) hg1
  have FIN : Hid (CeOwn (W1.setRow w.heap.size cur2) lo k (.slice (some ⟨w.heap.size, 0, none⟩) (n + 1) G) (cs.take i ++ [f] ++ cs.drop i) ∧ Below lo w (W1.setRow w.heap.size cur2) ∧ Others w (W1.setRow w.heap.size cur2)) := by
    have hb2W : Below w.heap.size w (W1.setRow w.heap.size cur2) := below_setRow hb1W (Nat.le_refl _) _
    refine ⟨⟨bs.take i ++ [(b1, b2)] ++ bs.drop i, ?_, ?_, fun j c' b hc' hb' => ?_⟩, hb2W.mono hlo, Others.below hb2W⟩
    · rw [ins_len _ _ _ (by omega)]
      simp only [List.length_append, List.length_take, List.length_drop, List.length_singleton]
      omega
    · rw [ins_len _ _ _ (by omega), ← hlen]
      refine ⟨?_, .inr ⟨w.heap.size, G, cur2, rfl, hlo, hg2, hGn, by unfold maxLen; exact hG63, hs2, ?_⟩⟩
      · simp only [prs_append, List.length_append, prs_len, List.length_take, List.length_drop, List.length_singleton]
        omega
      · rw [hc2, lay3_list, hc1, lay3_list, hr0, prs_append, prs_append, prs_take, prs_drop]
        exact new_list (prs bs) r0 [b1, b2] i n (by omega) hpl rfl
    · obtain ⟨g1, g2⟩ := ins_body hrow (by omega) hb1 hb2 j c' b hc' hb'
      exact ⟨g1.below hb2W hlo, g2.below hb2W hlo⟩
  have HAp := hide hap
  have C1 := hide cp1
  have C2 := hide cp2
  have HW := hide hW
  have HW1 := hide hW1
  have e1 : ¬ (n : Int) = (i : Int) := by omega
  have e2 : ¬ (i : Int) = (n : Int) := by omega
  have e3 : ((c : Int) < (n : Int) + 1) := by omega
  have e4 : ¬ (G = i + 1) := by omega
  have e5 : ¬ (c = i) := by omega
  have e6 : i ≤ n := by omega
  have e7 : (0 : Int) ≤ (i : Int) + 1 := by omega
  have e8 : (0 : Int) ≤ (n : Int) + 1 := by omega
  have e9 : i ≤ n + 1 := by omega
  have e10 : ¬ (G = i) := by omega
  have e11 : i ≤ c := by omega
  have e12 : i ≤ G := by omega
  have hkk : (n : Int) + 1 - (i : Int) = ((n + 1 - i : Nat) : Int) := by omega
  rw [← hkk] at hap
  have HAp := hide hap
  clear hkk hap hone hW hpl hold hik hG hROW zl hr0 hRs hN hbW hvW cp1 hc1 hs1 hW1 hg1 hb1W hnl hfit cp2 hc2 hs2 hg2 hrow hbl hlen hb1 hb2 hv hsz1 o1 o2 hiC hz0 hz1 hz2
  have hap := HAp.out
  go_enter Try.func49, Try.ntmps49
  go_wp2_with (at_builtin; refine Lib.wpList_append_run _ rfl _ _ _ _ rfl _ _ rfl rfl _ _ (hap _) ?_; clear hap; have c1 := C1.out)
  have HW1' : Hid (W1 = (W.setRow w.heap.size cur1).drew) := HW1
  clear c1
  have q1 : IntKind.i64.wrap ((i : Int) + 1) = (i : Int) + 1 := by rw [IntKind.wrap_i64]; omega
  have q2 : ((i : Int) + 1).toNat = i + 1 := by omega
  have q3 : (i : Int) ≤ (n : Int) + 1 := by omega
  refine wp_region_flow (fun w' => w' = W1) 8 (by kernel_rfl) (by kernel_rfl) ?_ ?_
  · rw [HW1.out, HW.out]; rfl
  simp only [List.take_succ_cons, List.take_zero, List.drop_succ_cons, List.drop_zero]
  refine wpFlow_read ?_ rfl (fun w' hS => ?_) ?_
  rotate_left
  · go_simp
    rfl
  refine wpFlow_read ?_ rfl (fun w' hS => ?_) ?_
  rotate_left
  · go_simp
    rfl
  refine wpFlow_read ?_ rfl (fun w' hS => ?_) ?_
  rotate_left
  · go_simp
    rfl
  refine wpFlow_read ?_ rfl (fun w' hS => ?_) ?_
  rotate_left
  · go_simp
    rfl
  refine wpFlow_read ?_ rfl (fun w' hS => ?_) ?_
  rotate_left
  · go_simp
    rfl
  refine wpFlow_read ?_ rfl (fun w' hS => ?_) ?_
  rotate_left
  · go_simp
    rfl
  refine wpFlow_read ?_ rfl (fun w' hS => ?_) ?_
  rotate_left
  · go_simp
    rfl
  refine wpFlow_read ?_ rfl (fun w' hS => ?_) ?_
  rotate_left
  · go_simp
    rfl
  refine wpFlow_nil fun w2 hS => ?_
  subst hS
  clear q1 q2 q3
  go_frame
  have c2 := C2.out
  refine wpList_run rfl (exec_copy (.tmp 50) (.tmp 53) rfl rfl rfl (c2 _)) ?_
  clear c2
  go_frame
  go_wp2_with fail
  go_ret
  exact ⟨_, rfl, FIN.out.1, FIN.out.2.1, FIN.out.2.2⟩
theorem insert_any (A : Option Addr) (n c i lo k : Nat) (cs : List Pag.Ce) (w : World) (ho : CeOwn w lo k (.slice A n c) cs) (hn : n = cs.length) (hi : i ≤ n) (f : Pag.Ce) (b1 b2 : Value) (hb1 : Bo w lo k b1 f.1) (hb2 : Bo w lo k b2 f.2) (vb vc : Nat) (hv : Blk w vb 41 #[b1, b2]) (hne : ∀ g, A = some ⟨g, 0, none⟩ → vb ≠ g)
    (hm : (n + 1) * 48 ≤ 140737488355328) (hlo : lo ≤ w.heap.size) :
    Calls Try.prog 49 #[.slice A n c, .int .i64 (i : Int), .slice (some ⟨vb, 0, none⟩) 1 vc] w (CellsR w lo k (cs.take i ++ [f] ++ cs.drop i)) := by
  by_cases h1 : i = n
  · subst h1
    rw [List.take_of_length_le (by omega), List.drop_of_length_le (by omega), List.append_nil]
    exact insert_end A i c lo k cs w ho hn f b1 b2 hb1 hb2 vb vc hv hm hlo
  · obtain ⟨g, bs, cur, rfl, hrow⟩ := ho.row hn (by omega)
    by_cases h2 : n + 1 ≤ c
    · exact insert_in g n c i lo k cs bs cur w hrow (by omega) h2 f b1 b2 hb1 hb2 vb vc hv (hne g rfl) hlo
    · exact insert_new g n c i lo k cs bs cur w hrow (by omega) (by omega) f b1 b2 hb1 hb2 vb vc hv hm hlo
end Go.Proofs.Ytpoilndlfbmhgaa
