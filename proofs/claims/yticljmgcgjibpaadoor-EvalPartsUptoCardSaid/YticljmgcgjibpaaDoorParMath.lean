/-
  The plain law of EvalParts: what is folded in two parts, and turned about, is what is folded at once. Conditions: none. No program is named here.
-/
import Derived.Test.YticljmgcgjibpaaDoorEvH
import Derived.Test.YticljmgcgjibpaaDoorOrdE
namespace Go.Proofs.YticljmgcgjibpaaDoor
namespace Ev
open Val (vz)
theorem colL_app (x : Ex) (role : ByteArray) : ∀ (a b : List (List V)), colL x role (a ++ b) = if (colL x role a).2 ≠ 0 then ([], (colL x role a).2) else if (colL x role b).2 ≠ 0 then ([], (colL x role b).2) else ((colL x role a).1 ++ (colL x role b).1, 0) := by
  intro a b
  induction a with
  | nil =>
    rw [List.nil_append, if_neg (show ¬ (colL x role []).2 ≠ 0 from fun h => h rfl)]
    by_cases h : (colL x role b).2 = 0
    · rw [if_neg (by simp [h])]
      exact Prod.ext rfl h
    · rw [if_pos h]
      have : ∀ rs, (colL x role rs).2 ≠ 0 → (colL x role rs).1 = [] := by
        intro rs
        induction rs with
        | nil => intro h; exact absurd rfl h
        | cons r rs ih =>
          intro h
          rw [colL_cons] at h ⊢
          by_cases h1 : (x.val r role).2 ≠ 0
          · rw [if_pos h1]
          · rw [if_neg h1] at h ⊢
            by_cases h2 : (colL x role rs).2 ≠ 0
            · rw [if_pos h2]
            · rw [if_neg h2] at h; exact absurd rfl h
      exact Prod.ext (this b h) rfl
  | cons r a ih =>
    rw [List.cons_append, colL_cons, ih, colL_cons]
    by_cases h1 : (x.val r role).2 = 0
    · by_cases h2 : (colL x role a).2 = 0
      · by_cases h3 : (colL x role b).2 = 0
        · simp [h1, h2, h3, List.append_assoc]
        · simp [h1, h2, h3]
      · simp [h1, h2]
    · simp [h1]
theorem col_len (x : Ex) (role : ByteArray) : ∀ rs, (colL x role rs).1.length ≤ rs.length := by
  intro rs
  induction rs with
  | nil => simp [colL]
  | cons r rs ih =>
    rw [colL_cons]
    split
    · simp
    · split
      · simp
      · simp only [List.length_append, List.length_cons]
        have : (some1 (x.val r role).1).length ≤ 1 := by unfold some1; split <;> simp
        omega
theorem col_some (x : Ex) (role : ByteArray) : ∀ rs, ∀ v ∈ (colL x role rs).1, v.k ≠ 0 := by
  intro rs
  induction rs with
  | nil => intro v hv; simp [colL] at hv
  | cons r rs ih =>
    intro v hv
    rw [colL_cons] at hv
    split at hv
    · simp at hv
    · split at hv
      · simp at hv
      · rcases List.mem_append.1 hv with h | h
        · unfold some1 at h
          split at h
          · simp at h
          · rename_i hk
            rw [List.mem_singleton] at h
            rw [h]
            exact hk
        · exact ih v h
/-- To one side. -/
def sideOf (o : UInt8) : Int := if o = 19 then -1 else 1
section
variable {s : Int} (hs : s = -1 ∨ s = 1)
include hs
theorem pick_comm (a b : V) : pickB s a b = pickB s b a := by
  unfold pickB
  have h1 := ordV_anti a b
  have h2 := ordV_range a b
  by_cases h0 : ordV a b = 0
  · have := ordV_zero h0
    subst this
    simp
  · by_cases e : ordV b a = s
    · rw [if_pos e, if_neg (by omega)]
    · rw [if_neg e, if_pos (by omega)]
theorem pick_assoc (a b c : V) : pickB s (pickB s a b) c = pickB s a (pickB s b c) := by
  have a1 := ordV_anti a b
  have a2 := ordV_anti b c
  have a3 := ordV_anti a c
  have r1 := ordV_range a b
  have r2 := ordV_range b c
  have r3 := ordV_range a c
  have t1 := tri_ordV a b c
  have t2 := tri_ordV c b a
  unfold Tri at t1 t2
  unfold pickB
  by_cases h1 : ordV b a = s
  · rw [if_pos h1]
    by_cases h2 : ordV c b = s
    · rw [if_pos h2, if_pos (by omega)]
    · rw [if_neg h2, if_pos h1]
  · rw [if_neg h1]
    by_cases h2 : ordV c b = s
    · rw [if_pos h2]
    · rw [if_neg h2, if_neg h1, if_neg (by omega)]
theorem fold_pick (l : List V) : ∀ a b : V, l.foldl (pickB s) (pickB s a b) = pickB s a (l.foldl (pickB s) b) := by
  induction l with
  | nil => intro a b; rfl
  | cons x l ih =>
    intro a b
    simp only [List.foldl_cons]
    rw [pick_assoc hs, ih]
end
theorem gatL_pick (s : Int) : ∀ (l : List V) (a : V), gatL (fun a b => (pickB s a b, 0)) a l = (l.foldl (pickB s) a, 0) := by
  intro l
  induction l with
  | nil => intro a; rfl
  | cons x l ih =>
    intro a
    simp only [gatL, List.foldl_cons]
    rw [if_neg (by simp), ih]
theorem gat_join {s : Int} (hs : s = -1 ∨ s = 1) {a b : V} {la lb : List V} : gat (fun a b => (pickB s a b, 0)) (a :: la ++ b :: lb) = (pickB s (la.foldl (pickB s) a) (lb.foldl (pickB s) b), 0) := by
  show gatL _ a (la ++ b :: lb) = _
  rw [gatL_pick, List.foldl_append, List.foldl_cons, fold_pick hs]
theorem pick_some {s : Int} {a b : V} (ha : a.k ≠ 0) (hb : b.k ≠ 0) : (pickB s a b).k ≠ 0 := by
  unfold pickB
  split
  · exact hb
  · exact ha
theorem folds_some {s : Int} : ∀ (l : List V) (a : V), a.k ≠ 0 → (∀ v ∈ l, v.k ≠ 0) → (l.foldl (pickB s) a).k ≠ 0 := by
  intro l
  induction l with
  | nil => intro a ha _; exact ha
  | cons x l ih =>
    intro a ha h
    exact ih _ (pick_some ha (h x List.mem_cons_self)) fun v hv => h v (List.mem_cons_of_mem _ hv)
/-- The answer that two parts' answers make. -/
def want (o : UInt8) (X Y : V) : V := if o = 17 then ⟨X.k, X.n + Y.n, X.s⟩ else if X.k = 0 ∨ (Y.k ≠ 0 ∧ (ordV Y X < 0 ↔ o = 19)) then Y else X
theorem part_o {o : UInt8} (ho : o = 17 ∨ o = 19 ∨ o = 20) : 17 ≤ o.toNat ∧ o.toNat ≤ 20 := by
  rcases ho with rfl | rfl | rfl <;> decide
theorem part_fold {o : UInt8} (ho : o = 17 ∨ o = 19 ∨ o = 20) (x : Ex) (rs : List (List V)) (role : ByteArray) : fold (hd o) [x] rs role = if (colL x role rs).2 ≠ 0 then (vz, (colL x role rs).2) else foldL o (colL x role rs).1 := by
  obtain ⟨h1, h2⟩ := part_o ho
  by_cases h : (colL x role rs).2 = 0
  · rw [if_neg (by simp [h])]
    exact fold_ok (h := hd o) h1 h2 (Prod.ext rfl h)
  · rw [if_pos h]
    exact fold_err (h := hd o) (l := (colL x role rs).1) h1 h2 rfl h
theorem gat_pick0 (s : Int) (l : List V) : (gat (fun a b => (pickB s a b, 0)) l).2 = 0 := by
  cases l with
  | nil => rfl
  | cons a l =>
    show (gatL _ a l).2 = 0
    rw [gatL_pick]
theorem part_foldL {o : UInt8} (ho : o = 17 ∨ o = 19 ∨ o = 20) (l : List V) : (foldL o l).2 = 0 := by
  rcases ho with rfl | rfl | rfl
  · rfl
  · exact gat_pick0 _ _
  · exact gat_pick0 _ _
theorem part_zero {o : UInt8} (ho : o = 17 ∨ o = 19 ∨ o = 20) {x : Ex} {rs : List (List V)} {role : ByteArray} : (fold (hd o) [x] rs role).2 = 0 ↔ (colL x role rs).2 = 0 := by
  rw [part_fold ho]
  by_cases h : (colL x role rs).2 = 0
  · rw [if_neg (by simp [h])]
    exact ⟨fun _ => h, fun _ => part_foldL ho _⟩
  · rw [if_pos h]
theorem part_err {o : UInt8} (ho : o = 17 ∨ o = 19 ∨ o = 20) {x : Ex} {ra rb : List (List V)} {role : ByteArray} (h : (fold (hd o) [x] ra role).2 ≠ 0 ∨ (fold (hd o) [x] rb role).2 ≠ 0) :
    (fold (hd o) [x] (ra ++ rb) role).2 ≠ 0 ∧ (fold (hd o) [x] (rb ++ ra) role).2 ≠ 0 := by
  rw [Ne, part_zero ho, Ne, part_zero ho] at h
  rw [Ne, part_zero ho, Ne, part_zero ho, colL_app, colL_app]
  by_cases h1 : (colL x role ra).2 = 0
  · have h2 : ¬ (colL x role rb).2 = 0 := by rcases h with h | h; exact absurd h1 h; exact h
    rw [if_neg (by simp [h1]), if_pos h2, if_pos h2]
    exact ⟨h2, h2⟩
  · rw [if_pos h1]
    refine ⟨h1, ?_⟩
    split
    · assumption
    · exact h1
theorem part_ok {o : UInt8} (ho : o = 17 ∨ o = 19 ∨ o = 20) {x : Ex} {ra rb : List (List V)} {role : ByteArray} (h1 : (fold (hd o) [x] ra role).2 = 0) (h2 : (fold (hd o) [x] rb role).2 = 0) :
    fold (hd o) [x] (ra ++ rb) role = (want o (fold (hd o) [x] ra role).1 (fold (hd o) [x] rb role).1, 0) ∧ fold (hd o) [x] (rb ++ ra) role = (want o (fold (hd o) [x] ra role).1 (fold (hd o) [x] rb role).1, 0) := by
  have c1 := (part_zero ho).1 h1
  have c2 := (part_zero ho).1 h2
  have f1 := part_fold ho x ra role
  have f2 := part_fold ho x rb role
  have f3 := part_fold ho x (ra ++ rb) role
  have f4 := part_fold ho x (rb ++ ra) role
  rw [if_neg (by simp [c1])] at f1
  rw [if_neg (by simp [c2])] at f2
  have g3 : colL x role (ra ++ rb) = ((colL x role ra).1 ++ (colL x role rb).1, 0) := by rw [colL_app]; simp [c1, c2]
  have g4 : colL x role (rb ++ ra) = ((colL x role rb).1 ++ (colL x role ra).1, 0) := by rw [colL_app]; simp [c1, c2]
  rw [g3, if_neg (fun h => h rfl)] at f3
  rw [g4, if_neg (fun h => h rfl)] at f4
  rw [f1, f2, f3, f4]
  simp only
  have sa := col_some x role ra
  have sb := col_some x role rb
  generalize (colL x role ra).1 = la at *
  generalize (colL x role rb).1 = lb at *
  have key : ∀ (s : Int) (o : UInt8), (s = -1 ∨ s = 1) → (s = -1 ↔ o = 19) → o ≠ 17 → (∀ l, foldL o l = gat (fun a b => (pickB s a b, 0)) l) →
      foldL o (la ++ lb) = (want o (foldL o la).1 (foldL o lb).1, 0) ∧ foldL o (lb ++ la) = (want o (foldL o la).1 (foldL o lb).1, 0) := by
    intro s o hs ho h17 hf
    simp only [hf]
    cases la with
    | nil =>
      have e : want o (gat (fun a b => (pickB s a b, 0)) []).1 (gat (fun a b => (pickB s a b, 0)) lb).1 = (gat (fun a b => (pickB s a b, 0)) lb).1 := by
        unfold want
        rw [if_neg h17, if_pos (.inl rfl)]
      rw [e, List.nil_append, List.append_nil]
      exact ⟨Prod.ext rfl (gat_pick0 _ _), Prod.ext rfl (gat_pick0 _ _)⟩
    | cons a la =>
      have hX : (gat (fun a b => (pickB s a b, 0)) (a :: la)).1 = la.foldl (pickB s) a := by
        show (gatL _ a la).1 = _
        rw [gatL_pick]
      have kX : (la.foldl (pickB s) a).k ≠ 0 := folds_some _ _ (sa a List.mem_cons_self) fun v hv => sa v (List.mem_cons_of_mem _ hv)
      cases lb with
      | nil =>
        have e : want o (gat (fun a b => (pickB s a b, 0)) (a :: la)).1 (gat (fun a b => (pickB s a b, 0)) []).1 = (gat (fun a b => (pickB s a b, 0)) (a :: la)).1 := by
          unfold want
          rw [if_neg h17, if_neg]
          rintro (h | ⟨h, _⟩)
          · rw [hX] at h; exact kX h
          · exact h rfl
        rw [e, List.nil_append, List.append_nil]
        exact ⟨Prod.ext rfl (gat_pick0 _ _), Prod.ext rfl (gat_pick0 _ _)⟩
      | cons b lb =>
        have hY : (gat (fun a b => (pickB s a b, 0)) (b :: lb)).1 = lb.foldl (pickB s) b := by
          show (gatL _ b lb).1 = _
          rw [gatL_pick]
        have kY : (lb.foldl (pickB s) b).k ≠ 0 := folds_some _ _ (sb b List.mem_cons_self) fun v hv => sb v (List.mem_cons_of_mem _ hv)
        rw [gat_join hs, gat_join hs, pick_comm hs (lb.foldl (pickB s) b), hX, hY]
        generalize la.foldl (pickB s) a = X at *
        generalize lb.foldl (pickB s) b = Y at *
        have e : pickB s X Y = want o X Y := by
          have r := ordV_range Y X
          unfold pickB want
          rw [if_neg h17]
          by_cases c : ordV Y X = 0
          · have := ordV_zero c
            subst this
            simp
          · by_cases c2 : ordV Y X = s
            · rw [if_pos c2, if_pos (.inr ⟨kY, by rw [← ho]; omega⟩)]
            · rw [if_neg c2, if_neg]
              rintro (h | ⟨_, h⟩)
              · exact kX h
              · rw [← ho] at h; omega
        rw [e]
        exact ⟨rfl, rfl⟩
  rcases ho with rfl | rfl | rfl
  · constructor
    · rw [foldL_count rfl, foldL_count rfl, foldL_count rfl]
      unfold want
      rw [if_pos rfl]
      simp
    · rw [foldL_count rfl, foldL_count rfl, foldL_count rfl]
      unfold want
      rw [if_pos rfl]
      simp
      omega
  · exact key (-1) 19 (.inl rfl) ⟨fun _ => rfl, fun _ => rfl⟩ (by decide) fun l => foldL_min rfl l
  · exact key 1 20 (.inr rfl) ⟨fun h => absurd h (by decide), fun h => absurd h (by decide)⟩ (by decide) fun l => foldL_max rfl l
theorem part_count {x : Ex} {rs : List (List V)} {role : ByteArray} (h : (fold (hd 17) [x] rs role).2 = 0) : ∃ m : Nat, (fold (hd 17) [x] rs role).1 = ⟨2, (m : Int), emp⟩ ∧ m ≤ rs.length := by
  have c1 := (part_zero (.inl rfl)).1 h
  refine ⟨(colL x role rs).1.length, ?_, col_len _ _ _⟩
  rw [part_fold (.inl rfl), if_neg (by simp [c1])]
  rfl
end Ev
end Go.Proofs.YticljmgcgjibpaaDoor
