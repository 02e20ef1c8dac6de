/-
  Plain words on append(b, make([]byte, k)...): k zeros behind a row of bytes of the call's own. Conditions: none. No program is named here.
-/
import Derived.Test.YtpoilndlfbmhgaaApp
import Derived.Lib.AppendZerosOnto
namespace Go.Proofs.Ytpoilndlfbmhgaa
open Go.RowKit

theorem zeros_B8 (k : Nat) : Builtin.zeroCells (Value.int .u8 0).cells k = ((List.replicate k (0 : UInt8)).map B8).toArray := by
  apply Array.ext'
  simp only [Builtin.zeroCells, Value.cells, List.map_replicate]
  apply List.ext_getElem
  · simp
  · intro i h1 h2
    simp [B8, Nat.mod_one]
section
variable {P : Program} (w : World)
theorem run_app_zeros {t tn e : TypeId} {kn : IntKind} (hT : Bt P t e) (htn : P.underlying tn = some (.int kn)) (ty : TypeId) (base : Nat) (v : Value) (n : Nat) (l : List UInt8) (hown : w.ownsRow base e 1 v n (l.map B8)) (k : Nat) (hbytes : n + k ≤ 140737488355328) (hbase : base ≤ w.heap.size) :
    ∃ v' w', (Builtin.append_ #[t, tn] ty #[v, .int .i64 (k : Int)]).run P w = .ok v' w' ∧ w'.ownsRow base e 1 v' (n + k) ((l ++ List.replicate k 0).map B8) ∧ w.grownBy w' v.ownBlock := by
  obtain ⟨i, hi, hz, hs, hb⟩ := info_parts hT.2
  have ht := hT.1
  have hll := own_len hown
  have hnl : ((List.replicate k (0 : UInt8)).map B8).length = k := by simp
  have hlen : ((l ++ List.replicate k 0).map B8).length = (n + k) * 1 := by simp; omega
  have hw : IntKind.i64.wrap (k : Int) = k := by rw [IntKind.wrap_i64]; omega
  have hneg : ¬ ((k : Int) < 0) := by omega
  have h48i : ¬ (281474976710656 < (k : Int)) := by omega
  by_cases hk : k = 0
  · subst hk
    refine ⟨v, w, ?_, by simpa using hown, World.grownBy.refl w _⟩
    rcases hown.2 with ⟨rfl, rfl⟩ | ⟨g, cap, cur, rfl, _, _, hnc, _⟩
    · simp [Builtin.append_, run_underlying ht, run_underlying htn, sizeOf, typeInfo, hi, hb, asInt, asIntOf, IntKind.wrap_i64]
    · simp [Builtin.append_, run_underlying ht, run_underlying htn, sizeOf, typeInfo, hi, hb, asInt, asIntOf, IntKind.wrap_i64, hnc, storeCells]
  · have grown : ∀ (old : Nat), old < n + k → ∀ (row : Option Nat),
        (w.drew.alloc (.cells ((l.map B8).toArray ++ ((List.replicate k (0 : UInt8)).map B8).toArray ++ Builtin.zeroCells (Value.int .u8 0).cells (grownCap w (n + k) old e - (n + k))) e)).ownsRow base e 1
          (.slice (some ⟨w.heap.size, 0, none⟩) (n + k) (grownCap w (n + k) old e)) (n + k) ((l ++ List.replicate k 0).map B8) ∧
        w.grownBy (w.drew.alloc (.cells ((l.map B8).toArray ++ ((List.replicate k (0 : UInt8)).map B8).toArray ++ Builtin.zeroCells (Value.int .u8 0).cells (grownCap w (n + k) old e - (n + k))) e)) row := by
      intro old ho row
      have hge := grownCap_ge w (n + k) old e
      have hcm : grownCap w (n + k) old e ≤ maxLen := grownCap_le_maxLen w (n + k) old e (by unfold maxLen; omega)
      refine ⟨⟨hlen, .inr ⟨w.heap.size, _, _, rfl, hbase, heap_alloc_new w.drew _, hge, hcm, ?_, ?_⟩⟩, ⟨rfl, rfl, rfl, by simp, fun k hk _ => heap_alloc_old w.drew _ hk⟩⟩
      · simp only [Array.size_append, List.size_toArray, size_zeroCells, List.length_map, hll, List.length_replicate]
        rw [show (Value.int .u8 0).cells.size = 1 from rfl]
        omega
      · simp only [Array.toList_append, List.append_assoc]
        rw [List.map_append, ← List.append_assoc, ← hlen, List.map_append]
        exact List.take_left
    rcases hown.2 with ⟨rfl, rfl⟩ | ⟨g, cap, cur, rfl, hbg, hg, hnc, hcm, hcs, htake⟩
    · have hx : l = [] := List.eq_nil_of_length_eq_zero hll
      subst hx
      have hr := Lib.run_append_nil_zeros (P := P) w t tn ty e i (.int .u8 0) .i64 kn ht htn hi hz k (by omega) (by omega) (by omega) (by rw [hb]; omega)
      have hgr := grown 0 (by omega) (Value.ownBlock (.slice none 0 0))
      simp only [Nat.zero_add, List.nil_append, Array.empty_append, List.map_nil] at hgr ⊢
      rw [zeros_B8 k] at hr
      exact ⟨_, _, hr, hgr.1, hgr.2⟩
    · by_cases hroom : n + k ≤ cap
      · have hfit : n * 1 + ((List.replicate k (0 : UInt8)).map B8).length ≤ cur.size := by rw [hnl, hcs]; omega
        have hst := run_storeCells_at P g (n * 1) e ((List.replicate k (0 : UInt8)).map B8) 0 cur w hg (by simpa using hfit) (B8_one _)
        simp only [Nat.add_zero, Nat.mul_one] at hst
        refine ⟨.slice (some ⟨g, 0, none⟩) (n + k) cap, w.setRow g (cur.toList.take n ++ ((List.replicate k (0 : UInt8)).map B8) ++ cur.toList.drop (n + ((List.replicate k (0 : UInt8)).map B8).length)).toArray, ?_, ⟨hlen, .inr ⟨g, cap, _, rfl, hbg, setRow_heap w g cur _ e _ hg, hroom, hcm, ?_, ?_⟩⟩, ⟨rfl, rfl, rfl, by simp, fun j _ hj => setRow_other w g j _ (fun e => hj (by simp [Value.ownBlock, e]))⟩⟩
        · have hzz := zeros_B8 k
          simp only [Value.cells] at hzz
          obtain ⟨Z, hZ⟩ : ∃ Z, Z = (List.replicate k (0 : UInt8)).map B8 := ⟨_, rfl⟩
          rw [← hZ] at hzz hst ⊢
          simp [Builtin.append_, run_underlying ht, run_underlying htn, sizeOf, typeInfo, zeroValue, hi, hz, hs, hb, asInt, asIntOf, hw, hneg, h48i, hk, hroom, Addr.add_lit, Value.cells, hzz, hst]
        · simp only [List.size_toArray, List.length_append, List.length_take, List.length_drop, Array.length_toList, hnl]
          rw [hcs]
          omega
        · simp only [Nat.mul_one] at htake hlen ⊢
          rw [htake, ← hlen, List.map_append]
          exact List.take_left
      · have holds : ∀ j u, (l.map B8)[j]? = some u → w.cell? ((⟨g, 0, none⟩ : Addr).add j) = some u := hown.cells (g := g) rfl
        have hold : (Builtin.firstCells i.size n (.slice (some ⟨g, 0, none⟩) n cap)).run P w.drew = .ok (l.map B8).toArray w.drew := run_firstCells_some (P := P) w.drew i.size n ⟨g, 0, none⟩ n cap (l.map B8) (by rw [hs]; simpa using hll) (fun j u hu => holds j u hu)
        have hr := Lib.run_append_grow_zeros (P := P) w t tn ty e i (.int .u8 0) .i64 kn ht htn hi hz (some ⟨g, 0, none⟩) n cap (l.map B8) hold k (by omega) (by omega) (by omega) (by omega) (by rw [hb]; omega) (growslice_fits (by omega) (by rw [hb]; omega))
        have hgr := grown cap (by omega) (Value.ownBlock (.slice (some ⟨g, 0, none⟩) n cap))
        rw [zeros_B8 k] at hr
        exact ⟨_, _, hr, hgr.1, hgr.2⟩
/-- 'out = append(out, make([]byte, k)...)'. -/
theorem wpList_appZ {ops : Array Oper} {rest : List Oper} {o : Oper} {a : Act} {Q : Exit → Act → World → Prop} {t tn e : TypeId} {kn : IntKind} (hT : Bt P t e) (htn : P.underlying tn = some (.int kn)) (hgd : o.guard = none) (s x : Operand)
    (ho : o.op = .call { callee := .builtin .append, args := #[s, x], argTypes := #[t, tn] })
    (base : Nat) (v : Value) (n : Nat) (l : List UInt8) (hs : a.eval s = v) (hown : w.ownsRow base e 1 v n (l.map B8)) (k : Nat) (hx : a.eval x = .int .i64 (k : Int)) (hbytes : n + k ≤ 140737488355328) (hbase : base ≤ w.heap.size)
    (h : ∀ v' w', w'.ownsRow base e 1 v' (n + k) ((l ++ List.replicate k 0).map B8) → Below base w w' → w.grownBy w' v.ownBlock → wpList P ops Q rest (a.put o.dst v') w') : wpList P ops Q (o :: rest) a w := by
  obtain ⟨v', w', hr, h1, h2⟩ := run_app_zeros w hT htn o.type base v n l hown k hbytes hbase
  exact Lib.wpList_append_run w hgd s x t tn ho v _ hs hx v' w' hr (h v' w' h1 ((Below.refl _ _).grown h2 hbase fun j hj => (hown.lt j hj).1) h2)
end
end Go.Proofs.Ytpoilndlfbmhgaa
