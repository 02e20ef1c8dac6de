/-
  The walk of eval.Fold. Conditions: what is read reads as a tree, and as rows; the tables are laid.
-/
import Derived.Test.YticljmgcgjibpaaGreatDoorEvF
namespace Go.Proofs.YticljmgcgjibpaaGreatDoor
open Go.RowKit

namespace Ev
/-- The value itself, if it is not NULL. -/
def some1 (v : V) : List V := if v.k = 0 then [] else [v]
/-- The values of an expression over rows, those that are NULL aside. -/
def colL (x : Ex) (role : ByteArray) : List (List V) → List V × Nat
  | [] => ([], 0)
  | r :: rs => if (x.val r role).2 ≠ 0 then ([], (x.val r role).2) else if (colL x role rs).2 ≠ 0 then ([], (colL x role rs).2) else (some1 (x.val r role).1 ++ (colL x role rs).1, 0)
theorem colL_cons (x : Ex) (role : ByteArray) (r : List V) (rs : List (List V)) : colL x role (r :: rs) = if (x.val r role).2 ≠ 0 then ([], (x.val r role).2) else if (colL x role rs).2 ≠ 0 then ([], (colL x role rs).2) else (some1 (x.val r role).1 ++ (colL x role rs).1, 0) := rfl
theorem col_put {x : Ex} {role : ByteArray} : ∀ {rs : List (List V)} {l : List V} {r : List V} {v : V}, colL x role rs = (l, 0) → x.val r role = (v, 0) → colL x role (rs ++ [r]) = (l ++ some1 v, 0) := by
  intro rs
  induction rs with
  | nil =>
    intro l r v h hv
    simp only [colL] at h
    injection h with h _
    subst h
    simp [colL, hv]
  | cons q rs ih =>
    intro l r v h hv
    rw [colL_cons] at h
    by_cases h1 : (x.val q role).2 ≠ 0
    · rw [if_pos h1] at h
      injection h with _ h
      exact absurd h h1
    · rw [if_neg h1] at h
      by_cases h2 : (colL x role rs).2 ≠ 0
      · rw [if_pos h2] at h
        injection h with _ h
        exact absurd h h2
      · rw [if_neg h2] at h
        injection h with h _
        have := ih (l := (colL x role rs).1) (Prod.ext rfl (by simpa using h2)) hv
        rw [List.cons_append, colL_cons, if_neg h1, this, if_neg (by simp), ← h, List.append_assoc]
theorem col_halt {x : Ex} {role : ByteArray} : ∀ {rs rest : List (List V)} {l : List V} {r : List V} {v : V} {e : Nat}, colL x role rs = (l, 0) → x.val r role = (v, e) → e ≠ 0 → colL x role (rs ++ r :: rest) = ([], e) := by
  intro rs
  induction rs with
  | nil =>
    intro rest l r v e h hv he
    rw [List.nil_append, colL_cons, if_pos (by rw [hv]; exact he), hv]
  | cons q rs ih =>
    intro rest l r v e h hv he
    rw [colL_cons] at h
    by_cases h1 : (x.val q role).2 ≠ 0
    · rw [if_pos h1] at h
      injection h with _ h
      exact absurd h h1
    · rw [if_neg h1] at h
      by_cases h2 : (colL x role rs).2 ≠ 0
      · rw [if_pos h2] at h
        injection h with _ h
        exact absurd h h2
      · have := ih (rest := rest) (l := (colL x role rs).1) (Prod.ext rfl (by simpa using h2)) hv he
        rw [List.cons_append, colL_cons, if_neg h1, this, if_pos (by exact he)]
theorem col_snoc {x : Ex} {role : ByteArray} {rs : List (List V)} {k : Nat} {l r : List V} {v : V} (h : colL x role (rs.take k) = (l, 0)) (hx : rs[k]? = some r) (hv : x.val r role = (v, 0)) : colL x role (rs.take (k + 1)) = (l ++ some1 v, 0) := by
  have e : rs.take (k + 1) = rs.take k ++ [r] := by
    rw [List.take_add_one, hx]
    rfl
  rw [e]
  exact col_put h hv
theorem col_stop {x : Ex} {role : ByteArray} {rs : List (List V)} {k : Nat} {l r : List V} {v : V} {e : Nat} (h : colL x role (rs.take k) = (l, 0)) (hx : rs[k]? = some r) (hv : x.val r role = (v, e)) (he : e ≠ 0) : colL x role rs = ([], e) := by
  have hk := (List.getElem?_eq_some_iff.1 hx).1
  have e1 : rs = rs.take k ++ (r :: rs.drop (k + 1)) := by
    have : rs[k] = r := (List.getElem?_eq_some_iff.1 hx).2
    rw [← this, ← List.drop_eq_getElem_cons hk, List.take_append_drop]
  rw [e1]
  exact col_halt h hv he
/-- What a fold makes of its values. -/
def foldL (o : UInt8) (l : List V) : V × Nat :=
  if o = 17 then (⟨2, (l.length : Int), ⟨#[]⟩⟩, 0) else if o = 18 then gat Val.add l else if o = 19 then gat (fun a b => (pickB (-1) a b, 0)) l else gat (fun a b => (pickB 1 a b, 0)) l
def fold (h : Hd) (ks : List Ex) (rs : List (List V)) (role : ByteArray) : V × Nat :=
  if h.o = 17 ∧ ks = [] then (⟨2, (rs.length : Int), ⟨#[]⟩⟩, 0)
  else match ks with
    | [x] => if h.o.toNat < 17 ∨ 20 < h.o.toNat then (Val.vz, 330) else if (colL x role rs).2 ≠ 0 then (Val.vz, (colL x role rs).2) else foldL h.o (colL x role rs).1
    | _ => (Val.vz, 330)
section
variable {h : Hd} {ks : List Ex} {rs : List (List V)} {role : ByteArray}
theorem fold_all (ho : h.o.toNat = 17) : fold h [] rs role = (⟨2, (rs.length : Int), ⟨#[]⟩⟩, 0) := by
  unfold fold
  rw [if_pos ⟨o_eq ho, rfl⟩]
theorem fold_bad (h1 : ¬ (h.o.toNat = 17 ∧ ks = [])) (h2 : h.o.toNat < 17 ∨ 20 < h.o.toNat ∨ ks.length ≠ 1) : fold h ks rs role = (Val.vz, 330) := by
  unfold fold
  rw [if_neg (fun e => h1 ⟨by rw [e.1]; rfl, e.2⟩)]
  match ks with
  | [] => rfl
  | [x] => simp only; rw [if_pos (by simp at h2; omega)]
  | _ :: _ :: _ => rfl
theorem fold_err {x : Ex} {l : List V} {e : Nat} (h1 : 17 ≤ h.o.toNat) (h2 : h.o.toNat ≤ 20) (hc : colL x role rs = (l, e)) (he : e ≠ 0) : fold h [x] rs role = (Val.vz, e) := by
  unfold fold
  rw [if_neg (by simp)]
  simp only
  rw [if_neg (by omega), hc, if_pos he]
theorem fold_ok {x : Ex} {l : List V} (h1 : 17 ≤ h.o.toNat) (h2 : h.o.toNat ≤ 20) (hc : colL x role rs = (l, 0)) : fold h [x] rs role = foldL h.o l := by
  unfold fold
  rw [if_neg (by simp)]
  simp only
  rw [if_neg (by omega), hc, if_neg (by simp)]
end
theorem foldL_count {o : UInt8} (h : o.toNat = 17) (l : List V) : foldL o l = (⟨2, (l.length : Int), ⟨#[]⟩⟩, 0) := by
  unfold foldL
  rw [o_eq h, if_pos (by decide)]
theorem foldL_sum {o : UInt8} (h : o.toNat = 18) (l : List V) : foldL o l = gat Val.add l := by
  unfold foldL
  rw [o_eq h, if_neg (by decide), if_pos (by decide)]
theorem foldL_min {o : UInt8} (h : o.toNat = 19) (l : List V) : foldL o l = gat (fun a b => (pickB (-1) a b, 0)) l := by
  unfold foldL
  rw [o_eq h, if_neg (by decide), if_neg (by decide), if_pos (by decide)]
theorem foldL_max {o : UInt8} (h : o.toNat = 20) (l : List V) : foldL o l = gat (fun a b => (pickB 1 a b, 0)) l := by
  unfold foldL
  rw [o_eq h, if_neg (by decide), if_neg (by decide), if_neg (by decide)]
theorem pick_ok {side : Int} {x y : V} {p : V → Prop} (hx : p x) (hy : p y) : p (pickB side x y) := by
  unfold pickB
  split
  · exact hy
  · exact hx
end Ev
theorem add_ok (x y : Cell.Val) : vOk (Val.add x y).1 := ⟨by
  have : (Val.add x y).1.s.size = 0 := by
    unfold Val.add
    repeat' split
    all_goals first | rfl | exact Ev.sz_fit
  rw [this]
  exact Nat.zero_le _, Ev.inR_add x y⟩
/-- A slice that reads as a list of values; its block is among P. -/
def Rvp (w : World) (P : Nat → Prop) (A : Option Addr) (n : Nat) (r : List Cell.Val) : Prop :=
  n = r.length ∧ (∀ v ∈ r, vOk v) ∧ (0 < n → ∃ b off, A = some ⟨b, off, none⟩ ∧ P b ∧ ∀ j u, (vcells r)[j]? = some u → w.cell? ⟨b, off + j, none⟩ = some u)
theorem Rvp.rv {w : World} {P : Nat → Prop} {B : Nat} {A : Option Addr} {n : Nat} {r : List Cell.Val} (h : Rvp w P A n r) (hP : ∀ b, P b → b < B) : Rv w B A n r := by
  obtain ⟨h1, h2, h3⟩ := h
  refine ⟨⟨by rw [vcells_len, h1], fun h0 => ?_⟩, h2⟩
  obtain ⟨b, off, e, hb, hc⟩ := h3 h0
  exact ⟨b, off, e, hP b hb, hc⟩
theorem Rvp.keep {w w' : World} {P P' : Nat → Prop} {A : Option Addr} {n : Nat} {r : List Cell.Val} (h : Rvp w P A n r) (hP : ∀ g, P g → P' g) (hk : ∀ g o, P g → w'.cell? ⟨g, o, none⟩ = w.cell? ⟨g, o, none⟩) : Rvp w' P' A n r := by
  obtain ⟨h1, h2, h3⟩ := h
  refine ⟨h1, h2, fun h0 => ?_⟩
  obtain ⟨b, off, e, hb, hc⟩ := h3 h0
  exact ⟨b, off, e, hP b hb, fun j u hu => (hk _ _ hb).trans (hc j u hu)⟩
/-- Rows that are read. -/
def Rws (w : World) (P : Nat → Prop) (A : Option Addr) (n : Nat) (rs : List (List Cell.Val)) : Prop :=
  n = rs.length ∧ n * 32 ≤ 140737488355328 ∧ (0 < n → ∃ g off, A = some ⟨g, off, none⟩ ∧ P g ∧ ∀ (i : Nat) (r : List Cell.Val), rs[i]? = some r → ∃ A' c', w.cell? ⟨g, off + i, none⟩ = some (.slice A' r.length c') ∧ r.length ≤ c' ∧ c' ≤ 9223372036854775807 ∧ Rvp w P A' r.length r)
theorem Rws.keep {w w' : World} {P P' : Nat → Prop} {A : Option Addr} {n : Nat} {rs : List (List Cell.Val)} (h : Rws w P A n rs) (hP : ∀ g, P g → P' g) (hk : ∀ g o, P g → w'.cell? ⟨g, o, none⟩ = w.cell? ⟨g, o, none⟩) : Rws w' P' A n rs := by
  obtain ⟨h1, h2, h3⟩ := h
  refine ⟨h1, h2, fun h0 => ?_⟩
  obtain ⟨g, off, e, hg, hc⟩ := h3 h0
  refine ⟨g, off, e, hP g hg, fun i r hi => ?_⟩
  obtain ⟨A', c', c0, e1, e2, hv⟩ := hc i r hi
  exact ⟨A', c', (hk _ _ hg).trans c0, e1, e2, hv.keep hP hk⟩
theorem Rws.next {w w' : World} {A : Option Addr} {n : Nat} {rs : List (List Cell.Val)} (h : Rws w (· < w.heap.size) A n rs) (hb : Below w.heap.size w w') : Rws w' (· < w'.heap.size) A n rs :=
  h.keep (fun _ hg => Nat.lt_of_lt_of_le hg hb.size) fun _ _ hg => hb.cell hg
theorem Rws.at {w : World} {P : Nat → Prop} {A : Option Addr} {n i : Nat} {rs : List (List Cell.Val)} (h : Rws w P A n rs) (hi : i < n) : ∃ g off r A' c', A = some ⟨g, off, none⟩ ∧ P g ∧ rs[i]? = some r ∧ w.cell? ⟨g, off + i, none⟩ = some (.slice A' r.length c') ∧ r.length ≤ c' ∧ c' ≤ 9223372036854775807 ∧ Rvp w P A' r.length r := by
  obtain ⟨h1, h2, h3⟩ := h
  obtain ⟨g, off, e, hg, hc⟩ := h3 (by omega)
  have hr : rs[i]? = some rs[i] := List.getElem?_eq_getElem (by omega)
  obtain ⟨A', c', h4⟩ := hc i _ hr
  exact ⟨g, off, rs[i], A', c', e, hg, hr, h4⟩
set_option linter.unusedVariables false in
set_option maxRecDepth 1000000 in
set_option maxHeartbeats 4000000 in
theorem fold_any (d : Nat) (h : Ev.Hd) (ks : List Ev.Ex) (A : Option Addr) (m c : Nat) (Ar : Option Addr) (nr cr : Nat) (rs : List (List Cell.Val)) (role : ByteArray) (w : World) (hex : ExK w (· < w.heap.size) d A m ks) (hok : HdOk h) (hmc : m ≤ c) (hc2 : c ≤ 9223372036854775807) (hr : Rws w (· < w.heap.size) Ar nr rs) (hro : role.size ≤ 9223372036854775807) (hE : Env w) :
    Calls Tryz.prog 15 #[exV h A m c, .slice Ar nr cr, .string role] w fun e w' => e = .returned (ansV (Ev.fold h ks rs role)) ∧ Below w.heap.size w w' := by
  have HEx := hide hex
  have HOk := hide hok
  have HR := hide hr
  have HE := hide hE
  obtain ⟨hml, hmb⟩ := hex.len
  have HMl := hide hml
  have HRl := hide hr.1
  have hrb := hr.2.1
  clear hex hok hr hE hml
  obtain ⟨o, ⟨k, n, s⟩, nm, of, N⟩ := h
  unfold exV
  simp only
  obtain ⟨w1, hw1⟩ : ∃ w1, w1 = (w.alloc (.cells #[.int .u8 (o.toNat : Int), .int .u8 (k.toNat : Int), .int .i64 n, .string s, .string nm, .string of, .int .i64 N, .slice A m c] 28)).alloc (.cells #[.int .u8 0, .int .i64 0, .string ⟨#[]⟩] 25) := ⟨_, rfl⟩
  have HX : Hid (Blk w1 w.heap.size 28 #[.int .u8 (o.toNat : Int), .int .u8 (k.toNat : Int), .int .i64 n, .string s, .string nm, .string of, .int .i64 N, .slice A m c]) := by rw [hw1]; exact (Blk.new w _ _).alloc _
  have HZ : Hid (Blk w1 (w.heap.size + 1) 25 #[.int .u8 0, .int .i64 0, .string ⟨#[]⟩]) := by
    rw [hw1]
    have := Blk.new (w.alloc (.cells #[.int .u8 (o.toNat : Int), .int .u8 (k.toNat : Int), .int .i64 n, .string s, .string nm, .string of, .int .i64 N, .slice A m c] 28)) 25 #[.int .u8 0, .int .i64 0, .string ⟨#[]⟩]
    exact hide (by simpa using this)
  have HB : Hid (Below w.heap.size w w1) := by
    rw [hw1]
    exact ((Below.refl _ _).alloc (Nat.le_refl _) _).alloc (by simp) _
  have hs1 : w.heap.size < w1.heap.size := HX.out.lt
  have hz1' : w.heap.size + 1 < w1.heap.size := HZ.out.lt
  have x0 := HX.out.cell 0
  have x7 := HX.out.cell 7
  simp at x0 x7
  go_enter Tryz.func15, Tryz.ntmps15
  go_upto_region 1 with fail
  rw [← hw1]
  clear hw1
  by_cases hall : o.toNat = 17 ∧ m = 0
  · obtain ⟨h17, rfl⟩ := hall
    have t17 : ((o.toNat : Int) == 17) = true := by simp; omega
    have HSp : Hid (Ev.fold ⟨o, ⟨k, n, s⟩, nm, of, N⟩ ks rs role = (intV (nr : Int), 0)) := by
      show _ = _
      rw [List.eq_nil_of_length_eq_zero (l := ks) HMl.out.symm, Ev.fold_all h17, ← HRl.out]
      rfl
    clear h17
    go_wp2_with fail
    with_reducible refine (count_any (nr : Int) _).mono ?_
    rintro e w2 ⟨rfl, hb2⟩
    unfold intV
    rw [valV_mk]
    have HB2 := hide (HB.out.trans (hb2.mono HB.out.size))
    have HZ2 := hide (HZ.out.below hb2 hz1')
    have z0 := HZ2.out.frozen 0
    have q0 := HZ2.out.cell 0
    have z1 := HZ2.out.frozen 1
    have q1 := HZ2.out.cell 1
    have z2 := HZ2.out.frozen 2
    have q2 := HZ2.out.cell 2
    simp at q0 q1 q2
    clear hb2 x0 x7
    simp only [show ((2 : UInt8).toNat : Int) = 2 from rfl]
    go_wp2_with fail
    exact bodyPost_ret (v := .tuple #[.agg #[.int .u8 2, .int .i64 (nr : Int), .string ⟨#[]⟩], .int .i64 0]) (results_val rfl (blk3 HZ2.out _ _ _) rfl rfl) rfl ⟨by rw [HSp.out]; rfl, below3 HB2.out (by omega) _ _ _⟩

  · by_cases hbad : o.toNat < 17 ∨ 20 < o.toNat ∨ m ≠ 1
    · have HSp : Hid (Ev.fold ⟨o, ⟨k, n, s⟩, nm, of, N⟩ ks rs role = (Val.vz, 330)) := Ev.fold_bad (fun e => hall ⟨e.1, by rw [HMl.out, e.2]; rfl⟩) (by rw [← HMl.out]; exact hbad)
      have z0 := HZ.out.frozen 0
      have q0 := HZ.out.cell 0
      have z1 := HZ.out.frozen 1
      have q1 := HZ.out.cell 1
      have z2 := HZ.out.frozen 2
      have q2 := HZ.out.cell 2
      simp at q0 q1 q2
      by_cases h17 : o.toNat = 17
      · have t17 : ((o.toNat : Int) == 17) = true := by simp; omega
        have tm0 : ((m : Int) == 0) = false := by simp; omega
        have ta : decide ((o.toNat : Int) < 17) = false := by simp; omega
        have tb : decide ((20 : Int) < (o.toNat : Int)) = false := by simp; omega
        have tc : ((m : Int) != 1) = true := by simp; omega
        clear hall hbad
        go_wp2_with fail
        exact bodyPost_ret (v := .tuple #[.agg #[.int .u8 0, .int .i64 0, .string ⟨#[]⟩], .int .i64 330]) (results_val rfl (blk3 HZ.out _ _ _) rfl rfl) rfl ⟨by rw [HSp.out]; rfl, below3 HB.out (by omega) _ _ _⟩

      · have t17 : ((o.toNat : Int) == 17) = false := by simp; omega
        by_cases h1 : o.toNat < 17
        · have ta : decide ((o.toNat : Int) < 17) = true := by simp; omega
          clear hall hbad h17
          go_wp2_with fail
          exact bodyPost_ret (v := .tuple #[.agg #[.int .u8 0, .int .i64 0, .string ⟨#[]⟩], .int .i64 330]) (results_val rfl (blk3 HZ.out _ _ _) rfl rfl) rfl ⟨by rw [HSp.out]; rfl, below3 HB.out (by omega) _ _ _⟩

        · have ta : decide ((o.toNat : Int) < 17) = false := by simp; omega
          by_cases h2 : 20 < o.toNat
          · have tb : decide ((20 : Int) < (o.toNat : Int)) = true := by simp; omega
            clear hall hbad h17
            go_wp2_with fail
            exact bodyPost_ret (v := .tuple #[.agg #[.int .u8 0, .int .i64 0, .string ⟨#[]⟩], .int .i64 330]) (results_val rfl (blk3 HZ.out _ _ _) rfl rfl) rfl ⟨by rw [HSp.out]; rfl, below3 HB.out (by omega) _ _ _⟩

          · have tb : decide ((20 : Int) < (o.toNat : Int)) = false := by simp; omega
            have tc : ((m : Int) != 1) = true := by simp; omega
            clear hall hbad h17
            go_wp2_with fail
            exact bodyPost_ret (v := .tuple #[.agg #[.int .u8 0, .int .i64 0, .string ⟨#[]⟩], .int .i64 330]) (results_val rfl (blk3 HZ.out _ _ _) rfl rfl) rfl ⟨by rw [HSp.out]; rfl, below3 HB.out (by omega) _ _ _⟩

    · obtain rfl : m = 1 := by omega
      have ho1 : 17 ≤ o.toNat := by omega
      have ho2 : o.toNat ≤ 20 := by omega
      obtain ⟨x, hx⟩ : ∃ x, ks = [x] := by
        have := HMl.out
        match ks, this with
        | [x], _ => exact ⟨x, rfl⟩
      have HKs := hide hx
      have ta : decide ((o.toNat : Int) < 17) = false := by simp; omega
      have tb : decide ((20 : Int) < (o.toNat : Int)) = false := by simp; omega
      clear hall hbad hx
      go_cut [21] from 13 to 92 (fun v wx => v = .bool false ∧ w1 = wx)
      case first =>
        by_cases h17 : o.toNat = 17
        · have t17 : ((o.toNat : Int) == 17) = true := by simp; omega
          go_wp2_with fail
          go_meet
          exact ⟨rfl, rfl⟩
        · have t17 : ((o.toNat : Int) == 17) = false := by simp; omega
          go_wp2_with fail
          go_meet
          exact ⟨rfl, rfl⟩
      case rest =>
      obtain ⟨rfl, rfl⟩ := hcut
      go_wp2_with fail
      clear ta tb
      go_loopg [8, 42] nr (fun gg kv iv wr => ∃ (j : Nat) (l : List Cell.Val), j ≤ nr ∧ gg = nr - j ∧ iv = .int .i64 (j : Nat) ∧ Hid (Ev.colL x role (rs.take j) = (l, 0)) ∧ Hid (∀ v ∈ l, vOk v) ∧ Hid (l.length ≤ j) ∧ Hid (wr.ownsRow w1.heap.size 25 3 kv l.length (vcells l)) ∧ Below w1.heap.size w1 wr)
      case atStart => exact ⟨0, [], Nat.zero_le _, rfl, rfl, rfl, fun v h => absurd h (by simp), Nat.le_refl _, own_nil _ _ _ _, Below.refl _ _⟩
      case round =>
        obtain ⟨j, l, hj, rfl, rfl, HT, HLo, HLj, HO, hbel⟩ := hrel
        obtain ⟨w5, hw5⟩ : ∃ w5, w5 = wr := ⟨_, rfl⟩
        subst hw5
        have HB15 := hide hbel
        have HB5 := hide (HB.out.trans (hbel.mono (by omega)))
        have HZ5 := hide (HZ.out.below hbel hz1')
        have HX5 := hide (HX.out.below hbel hs1)
        have hs5 := hbel.size
        have HE5 := hide (HE.out.next HB5.out)
        have x0 := HX5.out.cell 0
        have x7 := HX5.out.cell 7
        simp at x0 x7
        clear hbel
        by_cases hlt : j < nr
        · have hr5 := (HR.out.next HB5.out).at hlt
          obtain ⟨gr, offr, r, Aq, cq, rfl, hgr, hrj, d0, hq1, hq2, hrv⟩ := hr5
          have hex5 := HEx.out.next HB5.out
          obtain ⟨d', g, off, hd, ks', A', c', hdd, rfl, hgl, hkj, c0, c1, c2, c3, c4, c5, c6, c7, e1, e2, hok', hex'⟩ := hex5.at (i := 0) (by omega)
          rw [HKs.out] at hkj
          simp only [List.getElem?_cons_zero, Option.some.injEq] at hkj
          have HKj := hide hkj
          have HRj := hide hrj
          have HRv := hide (hrv.rv fun b hb => hb)
          have HOk' := hide hok'
          obtain ⟨⟨⟨k', n', s'⟩, er⟩, hp⟩ : ∃ p, p = (Ev.Ex.mk hd ks').val r role := ⟨_, rfl⟩
          have HP : Hid (x.val r role = (⟨k', n', s'⟩, er)) := by
            show _ = _
            rw [hkj, hp]
          have HP2 := hide hp
          have hvo := vOk_val (ks := ks') (role := role) hrv.2.1 hok'.1 (by unfold maxLen; omega)
          rw [← hp] at hvo
          have HVo := hide hvo
          have HEx' := hide hex'
          clear hp hvo hkj hok' hex' hex5 hrj hrv
          obtain ⟨ho, ⟨hk, hn, hs⟩, hnm, hof, hN⟩ := hd
          simp only [Nat.zero_mul, Nat.add_zero] at c0 c1 c2 c3 c4 c5 c6 c7
          go_wp2_with fail
          have cc := value_all d' ⟨ho, ⟨hk, hn, hs⟩, hnm, hof, hN⟩ ks' A' ks'.length c' Aq r.length cq r role w5 HEx'.out HOk'.out e1 e2 HRv.out (by omega) hro HE5.out
          rw [← HP2.out, ansV_mk] at cc
          unfold exV at cc
          simp only at cc
          with_reducible refine cc.mono ?_
          clear cc
          rintro e w7 ⟨rfl, hb7⟩
          have HB57 := hide hb7
          clear hb7 c0 c1 c2 c3 c4 c5 c6 c7 d0 x0 x7
          obtain ⟨w8, hw8⟩ : ∃ w8, w8 = w7.alloc (.cells #[.int .u8 (k'.toNat : Int), .int .i64 n', .string s'] 25) := ⟨_, rfl⟩
          have hK8 : Blk w8 w7.heap.size 25 #[.int .u8 (k'.toNat : Int), .int .i64 n', .string s'] := by rw [hw8]; exact Blk.new _ _ _
          have hb8 : Below w7.heap.size w7 w8 := by rw [hw8]; exact (Below.refl _ _).alloc (Nat.le_refl _) _
          have HB58 := hide (HB57.out.trans (hb8.mono HB57.out.size))
          have HB8 := hide (HB5.out.trans (HB58.out.mono HB5.out.size))
          have HB18 := hide (HB15.out.trans (HB58.out.mono hs5))
          have HZ8 := hide (HZ5.out.below HB58.out HZ5.out.lt)
          have hs8 := HB58.out.size
          clear hb8
          go_upto_region 10 with fail
          rw [← hw8]
          clear hw8
          have u0 := hK8.cell 0
          have u1 := hK8.cell 1
          have u2 := hK8.cell 2
          simp at u0 u1 u2
          clear hK8
          by_cases her : er = 0
          · subst her
            have HC : Hid (Ev.colL x role (rs.take (j + 1)) = (l ++ Ev.some1 ⟨k', n', s'⟩, 0)) := Ev.col_snoc HT.out HRj.out HP.out
            by_cases hk0 : k'.toNat = 0
            · have tk : ((k'.toNat : Int) != 0) = false := by simp; omega
              have HC2 : Hid (Ev.colL x role (rs.take (j + 1)) = (l, 0)) := by
                have := HC.out
                rw [show Ev.some1 ⟨k', n', s'⟩ = [] by unfold Ev.some1; rw [if_pos (by show k' = 0; exact UInt8.toNat_inj.1 hk0)], List.append_nil] at this
                exact this
              have HO8 := hide (own_below HO.out HB58.out)
              have HLj2 : Hid (l.length ≤ j + 1) := Nat.le_succ_of_le HLj.out
              clear hk0
              go_wp2_with fail
              go_roundg (nr - (j + 1))
              case measure => omega
              case rel => exact ⟨j + 1, l, by omega, rfl, by go_num, HC2, HLo, HLj2, HO8, HB18.out⟩
            · have tk : ((k'.toNat : Int) != 0) = true := by simp; omega
              have HC2 : Hid (Ev.colL x role (rs.take (j + 1)) = (l ++ [⟨k', n', s'⟩], 0)) := by
                have := HC.out
                rw [show Ev.some1 ⟨k', n', s'⟩ = [⟨k', n', s'⟩] by unfold Ev.some1; rw [if_neg (by show ¬ k' = 0; intro e; rw [e] at hk0; exact hk0 rfl)]] at this
                exact this
              have HLo2 : Hid (∀ v ∈ l ++ [(⟨k', n', s'⟩ : Cell.Val)], vOk v) := fun v hv => by
                rcases List.mem_append.1 hv with h | h
                · exact HLo.out v h
                · rw [List.mem_singleton] at h
                  rw [h]
                  exact HVo.out
              have HLj2 : Hid ((l ++ [(⟨k', n', s'⟩ : Cell.Val)]).length ≤ j + 1) := by
                show _ ≤ _
                rw [List.length_append, List.length_singleton]
                exact Nat.succ_le_succ HLj.out
              have hlen : l.length + 1 ≤ nr := by have := HLj.out; omega
              obtain ⟨w9, hw9⟩ : ∃ w9, w9 = w8.alloc (.cells #[.int .u8 (k'.toNat : Int), .int .i64 n', .string s'] 25) := ⟨_, rfl⟩
              have HG9 : Hid (Blk w9 w8.heap.size 25 #[.int .u8 (k'.toNat : Int), .int .i64 n', .string s']) := by rw [hw9]; exact Blk.new _ _ _
              have hb9 : Below w8.heap.size w8 w9 := by rw [hw9]; exact (Below.refl _ _).alloc (Nat.le_refl _) _
              have HB59 := hide (HB58.out.trans (hb9.mono hs8))
              have HB19 := hide (HB15.out.trans (HB59.out.mono hs5))
              have HO9 := hide (own_below HO.out HB59.out)
              have hs9 := HB19.out.size
              clear hb9 hk0
              go_wp2_with (at_builtin; rw [← hw9]; refine wpList_appV rfl (.tmp 63) (.tmp 65) Tryz.underlying29 rfl w1.heap.size _ l rfl HO9.out w8.heap.size 1 ⟨k', n', s'⟩ rfl rfl HG9.out (by omega) hs9 ?_; intro v10 w10 ho10 hb10; have HO10 := hide ho10; have HB10 := hide (HB19.out.trans hb10); clear ho10 hb10)
              go_roundg (nr - (j + 1))
              case measure => omega
              case rel => exact ⟨j + 1, l ++ [⟨k', n', s'⟩], by omega, rfl, by go_num, HC2, HLo2, HLj2, HO10, HB10.out⟩
          · have te : ((er : Int) != 0) = true := by simp; omega
            have HSp : Hid (Ev.fold ⟨o, ⟨k, n, s⟩, nm, of, N⟩ ks rs role = (Val.vz, er)) := by
              show _ = _
              rw [HKs.out]
              exact Ev.fold_err ho1 ho2 (Ev.col_stop HT.out HRj.out HP.out her) her
            have z0 := HZ8.out.frozen 0
            have q0 := HZ8.out.cell 0
            have z1 := HZ8.out.frozen 1
            have q1 := HZ8.out.cell 1
            have z2 := HZ8.out.frozen 2
            have q2 := HZ8.out.cell 2
            simp at q0 q1 q2
            clear her
            go_wp2_with fail
            exact bodyPost_ret (v := .tuple #[.agg #[.int .u8 0, .int .i64 0, .string ⟨#[]⟩], .int .i64 (er : Int)]) (results_val rfl (blk3 HZ8.out _ _ _) rfl rfl) rfl ⟨by rw [HSp.out]; rfl, below3 HB8.out (by omega) _ _ _⟩

        · obtain rfl : j = nr := by omega
          have hT := HT.out
          rw [List.take_of_length_le (l := rs) (i := j) (by rw [← HRl.out]; exact Nat.le_refl _)] at hT
          have HFo : Hid (Ev.fold ⟨o, ⟨k, n, s⟩, nm, of, N⟩ ks rs role = Ev.foldL o l) := by
            show _ = _
            rw [HKs.out]
            exact Ev.fold_ok ho1 ho2 hT
          obtain ⟨A5, c5, rfl, _, hl5, hc5⟩ := own_form HO.out
          unfold maxLen at hc5
          have HRk : Hid (Rv w5 w5.heap.size A5 l.length l) := Rv.own HO.out HLo.out
          clear hT x7
          rcases (by omega : o.toNat = 17 ∨ o.toNat = 18 ∨ o.toNat = 19 ∨ o.toNat = 20) with h | h | h | h
          · have t17 : ((o.toNat : Int) == 17) = true := by simp; omega
            have HSp : Hid (Ev.fold ⟨o, ⟨k, n, s⟩, nm, of, N⟩ ks rs role = (intV (l.length : Int), 0)) := by
              show _ = _
              rw [HFo.out, Ev.foldL_count h]
              rfl
            obtain ⟨L, hL⟩ : ∃ L, L = l.length := ⟨_, rfl⟩
            rw [← hL] at HSp ⊢
            clear h hL
            go_wp2_with fail
            with_reducible refine (count_any (L : Int) _).mono ?_
            rintro e w7 ⟨rfl, hb7⟩
            unfold intV
            rw [valV_mk]
            have HB7 := hide (HB5.out.trans (hb7.mono HB5.out.size))
            have HZ7 := hide (HZ5.out.below hb7 HZ5.out.lt)
            have z0 := HZ7.out.frozen 0
            have q0 := HZ7.out.cell 0
            have z1 := HZ7.out.frozen 1
            have q1 := HZ7.out.cell 1
            have z2 := HZ7.out.frozen 2
            have q2 := HZ7.out.cell 2
            simp at q0 q1 q2
            clear hb7 x0
            simp only [show ((2 : UInt8).toNat : Int) = 2 from rfl]
            go_wp2_with fail
            exact bodyPost_ret (v := .tuple #[.agg #[.int .u8 2, .int .i64 (L : Int), .string ⟨#[]⟩], .int .i64 0]) (results_val rfl (blk3 HZ7.out _ _ _) rfl rfl) rfl ⟨by rw [HSp.out]; rfl, below3 HB7.out (by omega) _ _ _⟩

          · have t17 : ((o.toNat : Int) == 17) = false := by simp; omega
            have t18 : ((o.toNat : Int) == 18) = true := by simp; omega
            obtain ⟨⟨⟨k', n', s'⟩, er⟩, hp⟩ : ∃ p, p = Ev.gat Val.add l := ⟨_, rfl⟩
            have HP := hide hp
            have HSp : Hid (Ev.fold ⟨o, ⟨k, n, s⟩, nm, of, N⟩ ks rs role = (⟨k', n', s'⟩, er)) := by
              show _ = _
              rw [HFo.out, Ev.foldL_sum h, hp]
            clear hp h
            go_wp2_with fail
            have cc := gather_any _ Val.add A5 l.length c5 l w5 (wi_add w5) (fun x y _ _ => add_ok x y) HRk.out hl5 hc5
            rw [← HP.out, ansV_mk] at cc
            with_reducible refine cc.mono ?_
            clear cc
            rintro e w7 ⟨rfl, hb7⟩
            have HB7 := hide (HB5.out.trans (hb7.mono HB5.out.size))
            have HZ7 := hide (HZ5.out.below hb7 HZ5.out.lt)
            have z0 := HZ7.out.frozen 0
            have q0 := HZ7.out.cell 0
            have z1 := HZ7.out.frozen 1
            have q1 := HZ7.out.cell 1
            have z2 := HZ7.out.frozen 2
            have q2 := HZ7.out.cell 2
            simp at q0 q1 q2
            clear hb7 x0
            go_wp2_with fail
            exact bodyPost_ret (v := .tuple #[.agg #[.int .u8 (k'.toNat : Int), .int .i64 n', .string s'], .int .i64 (er : Int)]) (results_val rfl (blk3 HZ7.out _ _ _) rfl rfl) rfl ⟨by rw [HSp.out]; rfl, below3 HB7.out (by omega) _ _ _⟩

          · have t17 : ((o.toNat : Int) == 17) = false := by simp; omega
            have t18 : ((o.toNat : Int) == 18) = false := by simp; omega
            have t19 : ((o.toNat : Int) == 19) = true := by simp; omega
            obtain ⟨⟨⟨k', n', s'⟩, er⟩, hp⟩ : ∃ p, p = Ev.gat (fun a b => (Ev.pickB (-1) a b, 0)) l := ⟨_, rfl⟩
            have HP := hide hp
            have HSp : Hid (Ev.fold ⟨o, ⟨k, n, s⟩, nm, of, N⟩ ks rs role = (⟨k', n', s'⟩, er)) := by
              show _ = _
              rw [HFo.out, Ev.foldL_min h, hp]
            clear hp h
            go_wp2_with fail
            with_reducible refine (first_any (-1) w5).mono ?_
            rintro e w6 ⟨g, rfl, hg6, hb6⟩
            have HG6 := hide hg6
            replace HB5 := hide (HB5.out.trans (hb6.mono HB5.out.size))
            replace HZ5 := hide (HZ5.out.below hb6 HZ5.out.lt)
            replace HRk := hide (HRk.out.next hb6)
            obtain ⟨w5, hw5⟩ : ∃ w5, w5 = w6 := ⟨_, rfl⟩
            subst hw5
            clear hg6 hb6 x0
            go_wp2_with fail
            have cc := gather_any _ (fun a b => (Ev.pickB (-1) a b, 0)) A5 l.length c5 l w5 (wi_first w5 _ g HG6.out) (fun x y hx hy => Ev.pick_ok hx hy) HRk.out hl5 hc5
            rw [← HP.out, ansV_mk] at cc
            with_reducible refine cc.mono ?_
            clear cc
            rintro e w7 ⟨rfl, hb7⟩
            have HB7 := hide (HB5.out.trans (hb7.mono HB5.out.size))
            have HZ7 := hide (HZ5.out.below hb7 HZ5.out.lt)
            have z0 := HZ7.out.frozen 0
            have q0 := HZ7.out.cell 0
            have z1 := HZ7.out.frozen 1
            have q1 := HZ7.out.cell 1
            have z2 := HZ7.out.frozen 2
            have q2 := HZ7.out.cell 2
            simp at q0 q1 q2
            clear hb7
            go_wp2_with fail
            exact bodyPost_ret (v := .tuple #[.agg #[.int .u8 (k'.toNat : Int), .int .i64 n', .string s'], .int .i64 (er : Int)]) (results_val rfl (blk3 HZ7.out _ _ _) rfl rfl) rfl ⟨by rw [HSp.out]; rfl, below3 HB7.out (by omega) _ _ _⟩

          · have t17 : ((o.toNat : Int) == 17) = false := by simp; omega
            have t18 : ((o.toNat : Int) == 18) = false := by simp; omega
            have t19 : ((o.toNat : Int) == 19) = false := by simp; omega
            obtain ⟨⟨⟨k', n', s'⟩, er⟩, hp⟩ : ∃ p, p = Ev.gat (fun a b => (Ev.pickB 1 a b, 0)) l := ⟨_, rfl⟩
            have HP := hide hp
            have HSp : Hid (Ev.fold ⟨o, ⟨k, n, s⟩, nm, of, N⟩ ks rs role = (⟨k', n', s'⟩, er)) := by
              show _ = _
              rw [HFo.out, Ev.foldL_max h, hp]
            clear hp h
            go_wp2_with fail
            with_reducible refine (first_any (1) w5).mono ?_
            rintro e w6 ⟨g, rfl, hg6, hb6⟩
            have HG6 := hide hg6
            replace HB5 := hide (HB5.out.trans (hb6.mono HB5.out.size))
            replace HZ5 := hide (HZ5.out.below hb6 HZ5.out.lt)
            replace HRk := hide (HRk.out.next hb6)
            obtain ⟨w5, hw5⟩ : ∃ w5, w5 = w6 := ⟨_, rfl⟩
            subst hw5
            clear hg6 hb6 x0
            go_wp2_with fail
            have cc := gather_any _ (fun a b => (Ev.pickB 1 a b, 0)) A5 l.length c5 l w5 (wi_first w5 _ g HG6.out) (fun x y hx hy => Ev.pick_ok hx hy) HRk.out hl5 hc5
            rw [← HP.out, ansV_mk] at cc
            with_reducible refine cc.mono ?_
            clear cc
            rintro e w7 ⟨rfl, hb7⟩
            have HB7 := hide (HB5.out.trans (hb7.mono HB5.out.size))
            have HZ7 := hide (HZ5.out.below hb7 HZ5.out.lt)
            have z0 := HZ7.out.frozen 0
            have q0 := HZ7.out.cell 0
            have z1 := HZ7.out.frozen 1
            have q1 := HZ7.out.cell 1
            have z2 := HZ7.out.frozen 2
            have q2 := HZ7.out.cell 2
            simp at q0 q1 q2
            clear hb7
            go_wp2_with fail
            exact bodyPost_ret (v := .tuple #[.agg #[.int .u8 (k'.toNat : Int), .int .i64 n', .string s'], .int .i64 (er : Int)]) (results_val rfl (blk3 HZ7.out _ _ _) rfl rfl) rfl ⟨by rw [HSp.out]; rfl, below3 HB7.out (by omega) _ _ _⟩


end Go.Proofs.YticljmgcgjibpaaGreatDoor
