/-
  The walks of the law's own at and awake. Conditions: the tables are laid.
-/
import Derived.Test.YticljmgcgjibpaaGreatDoorEvG
import Derived.Test.YticljmgcgjibpaaGreatDoorTold
namespace Go.Proofs.YticljmgcgjibpaaGreatDoor
open Go.RowKit

/-- An expression's cells. -/
def ecell (h : Ev.Hd) (A : Option Addr) (m c : Nat) : List Value := [.int .u8 (h.o.toNat : Int), .int .u8 (h.v.k.toNat : Int), .int .i64 h.v.n, .string h.v.s, .string h.nm, .string h.of, .int .i64 h.n, .slice A m c]
structure It where
  h : Ev.Hd
  A : Option Addr
  m : Nat
  c : Nat
  ks : List Ev.Ex
def It.leaf (h : Ev.Hd) : It := ⟨h, none, 0, 0, []⟩
def ecells : List It → List Value
  | [] => []
  | x :: r => ecell x.h x.A x.m x.c ++ ecells r
theorem ecells_at : ∀ (l : List It) (i : Nat) (x : It), l[i]? = some x → ∀ (j : Nat) (v : Value), (ecell x.h x.A x.m x.c)[j]? = some v → (ecells l)[i * 8 + j]? = some v := by
  intro l
  induction l with
  | nil => intro i x h; cases h
  | cons y l ih =>
    intro i x h j v hv
    have hl : (ecell y.h y.A y.m y.c).length = 8 := rfl
    match i with
    | 0 =>
      injection h with h
      subst h
      have hj := (List.getElem?_eq_some_iff.1 hv).1
      rw [Nat.zero_mul, Nat.zero_add]
      simp only [ecells]
      rw [List.getElem?_append_left hj]
      exact hv
    | i + 1 =>
      have := ih i x (by simpa using h) j v hv
      simp only [ecells]
      rw [List.getElem?_append_right (by rw [hl]; omega), hl, show (i + 1) * 8 + j - 8 = i * 8 + j by omega]
      exact this
theorem ExK.mono {w : World} {P : Nat → Prop} : ∀ {d d' : Nat} {A : Option Addr} {m : Nat} {ks : List Ev.Ex}, ExK w P d A m ks → d ≤ d' → ExK w P d' A m ks := by
  intro d
  induction d with
  | zero =>
    intro d' A m ks h _
    obtain ⟨rfl, rfl⟩ := h
    exact ExK.nil _ _ _ _
  | succ d ih =>
    intro d' A m ks h hd
    match d', hd with
    | d' + 1, hd =>
      obtain ⟨h1, h2, h3⟩ := h
      refine ⟨h1, h2, fun h0 => ?_⟩
      obtain ⟨g, off, e, hg, hc⟩ := h3 h0
      refine ⟨g, off, e, hg, fun i h ks' hi => ?_⟩
      obtain ⟨A', c', c0, c1, c2, c3, c4, c5, c6, c7, e1, e2, e3, e4⟩ := hc i h ks' hi
      exact ⟨A', c', c0, c1, c2, c3, c4, c5, c6, c7, e1, e2, e3, ih e4 (by omega)⟩
/-- Expressions that lie in a block. -/
theorem ex_row {w : World} {P : Nat → Prop} {g d : Nat} {t : TypeId} {mk : Nat × Nat} (l : List It) (hb : w.heap[g]? = some (.cells (ecells l).toArray t mk)) (hP : P g) (hl : l.length * 104 ≤ 140737488355328) (hall : ∀ x ∈ l, HdOk x.h ∧ x.m ≤ x.c ∧ x.c ≤ 9223372036854775807 ∧ ExK w P d x.A x.m x.ks) : ExK w P (d + 1) (some ⟨g, 0, none⟩) l.length (l.map fun x => Ev.Ex.mk x.h x.ks) := by
  refine ⟨by simp, hl, fun _ => ⟨g, 0, rfl, hP, fun i h ks' hi => ?_⟩⟩
  rw [List.getElem?_map] at hi
  obtain ⟨x, hx, e⟩ := Option.map_eq_some_iff.1 hi
  injection e with e1 e2
  subst e1 e2
  obtain ⟨h1, h2, h3, h4⟩ := hall x (List.mem_of_getElem? hx)
  have hm := h4.len.1
  have hc := fun j v (hv : (ecell x.h x.A x.m x.c)[j]? = some v) => (cell_of_row w g (i * 8 + j) _ t mk hb).trans (by simpa using ecells_at l i x hx j v hv)
  refine ⟨x.A, x.c, ?_, ?_, ?_, ?_, ?_, ?_, ?_, ?_, by omega, h3, h1, by rw [← hm]; exact h4⟩
  · rw [Nat.zero_add]; exact hc 0 _ rfl
  · rw [Nat.zero_add]; exact hc 1 _ rfl
  · rw [Nat.zero_add]; exact hc 2 _ rfl
  · rw [Nat.zero_add]; exact hc 3 _ rfl
  · rw [Nat.zero_add]; exact hc 4 _ rfl
  · rw [Nat.zero_add]; exact hc 5 _ rfl
  · rw [Nat.zero_add]; exact hc 6 _ rfl
  · rw [Nat.zero_add, ← hm]; exact hc 7 _ rfl
/-- Values that lie in a block. -/
theorem rv_row {w : World} {B g : Nat} {t : TypeId} {mk : Nat × Nat} (l : List Cell.Val) (hb : w.heap[g]? = some (.cells (vcells l).toArray t mk)) (hB : g < B) (hl : ∀ v ∈ l, vOk v) : Rv w B (some ⟨g, 0, none⟩) l.length l := by
  refine ⟨⟨vcells_len l, fun _ => ⟨g, 0, rfl, hB, fun j u hu => ?_⟩⟩, hl⟩
  rw [Nat.zero_add, cell_of_row w g j _ t mk hb]
  simpa using hu
theorem rv_nil (w : World) (B : Nat) (A : Option Addr) : Rv w B A 0 [] := ⟨⟨rfl, fun h => absurd h (by omega)⟩, fun v h => absurd h (by simp)⟩
theorem rvp_row {w : World} {P : Nat → Prop} {g : Nat} {t : TypeId} {mk : Nat × Nat} (l : List Cell.Val) (hb : w.heap[g]? = some (.cells (vcells l).toArray t mk)) (hP : P g) (hl : ∀ v ∈ l, vOk v) : Rvp w P (some ⟨g, 0, none⟩) l.length l := by
  refine ⟨rfl, hl, fun _ => ⟨g, 0, rfl, hP, fun j u hu => ?_⟩⟩
  rw [Nat.zero_add, cell_of_row w g j _ t mk hb]
  simpa using hu
namespace Ev
def emp : ByteArray := ⟨#[]⟩
def hd (o : UInt8) : Hd := ⟨o, Val.vz, emp, emp, 0⟩
def hAt (n : Int) : Hd := ⟨22, Val.vz, emp, emp, n⟩
def hLit (v : V) : Hd := ⟨1, v, emp, emp, 0⟩
def rR : ByteArray := ⟨#[114]⟩
def i3 (n : Int) : V := ⟨2, n, emp⟩
theorem aw1 : (Ex.mk (hd 4) [.mk (hAt 0) [], .mk (hLit (i3 1)) []]).val [i3 2] rR = (i3 3, 0) := by rfl
theorem aw2 : (Ex.mk (hAt 3) []).val [i3 2] rR = (Val.vz, 2) := by rfl
theorem aw3 : Ev.is ((Ex.mk (hd 7) [.mk (hAt 0) [], .mk (hLit Val.vz) []]).val [i3 2] rR) = (2, 0) := by rfl
theorem aw4 : Ev.fold (hd 18) [.mk (hAt 0) []] [[i3 1], [Val.vz], [i3 2]] rR = (i3 3, 0) := by rfl
theorem aw5 : (Ex.mk (hd 21) []).val [] rR = (⟨4, 0, rR⟩, 0) := by rfl
end Ev
theorem hdOk_mk {o : UInt8} {v : Cell.Val} {n : Int} (hv : vOk v) (h1 : -9223372036854775808 ≤ n) (h2 : n ≤ 9223372036854775807) : HdOk ⟨o, v, Ev.emp, Ev.emp, n⟩ := ⟨hv, Nat.zero_le _, Nat.zero_le _, h1, h2⟩
theorem vOk_i3 (n : Int) (h1 : -9223372036854775808 ≤ n) (h2 : n ≤ 9223372036854775807) : vOk (Ev.i3 n) := ⟨Nat.zero_le _, h1, h2⟩
theorem results_ex {fn : Func} {p : Tmp} {tmps : Array Value} {w : World} {g : Nat} {a0 a1 a2 a3 a4 a5 a6 a7 : Value} (h : fn.results = #[.cell p 28]) (hk : Blk w g 28 #[a0, a1, a2, a3, a4, a5, a6, a7]) (hp : tmps.getD p undef = .pointer (some ⟨g, 0, none⟩)) :
    (results fn tmps).run Tryz.prog w = .ok (.agg #[a0, a1, a2, a3, a4, a5, a6, a7]) w := by
  have r0 := hk.cell 0
  have r1 := hk.cell 1
  have r2 := hk.cell 2
  have r3 := hk.cell 3
  have r4 := hk.cell 4
  have r5 := hk.cell 5
  have r6 := hk.cell 6
  have r7 := hk.cell 7
  simp at r0 r1 r2 r3 r4 r5 r6 r7
  have hp' : tmps[p]?.getD undef = .pointer (some ⟨g, 0, none⟩) := by simpa using hp
  simp [results, h, hp', go_sem, r0, r1, r2, r3, r4, r5, r6, r7]
set_option linter.unusedVariables false in
set_option maxRecDepth 1000000 in
set_option maxHeartbeats 4000000 in
theorem at_any (n : Int) (w : World) : Calls Tryz.prog 35 #[.int .i64 n] w fun e w' => e = .returned (.agg #[.int .u8 22, .int .u8 0, .int .i64 0, .string ⟨#[]⟩, .string ⟨#[]⟩, .string ⟨#[]⟩, .int .i64 n, .slice none 0 0]) ∧ Below w.heap.size w w' := by
  go_enter Tryz.func35, Tryz.ntmps35
  go_wp2_with fail
  exact bodyPost_ret (v := .agg #[.int .u8 22, .int .u8 0, .int .i64 0, .string ⟨#[]⟩, .string ⟨#[]⟩, .string ⟨#[]⟩, .int .i64 n, .slice none 0 0]) (results_ex rfl (Blk.new _ _ _) rfl) rfl ⟨rfl, (Below.refl _ _).alloc (Nat.le_refl _) _⟩
noncomputable def aw : Nat → Code
  | 0 => Tryz.f13.body.getD .skip
  | n + 1 => cR (aw n)
/-- What is known: the world, and values' blocks. -/
structure Aw (w wr : World) (N : List (Nat × Array Value)) : Prop where
  bel : Below w.heap.size w wr
  pg : ∀ g cs, (g, cs) ∈ N → Blk wr g 25 cs
theorem Aw.below {w w1 w2 : World} {N : List (Nat × Array Value)} (h : Aw w w1 N) (hb : Below w1.heap.size w1 w2) : Aw w w2 N := ⟨h.bel.trans (hb.mono h.bel.size), fun g cs hm => (h.pg g cs hm).below hb (h.pg g cs hm).lt⟩
theorem Aw.cons {w w1 : World} {N : List (Nat × Array Value)} (h : Aw w w1 N) {g : Nat} {cs : Array Value} (hv : Blk w1 g 25 cs) : Aw w w1 ((g, cs) :: N) :=
  ⟨h.bel, fun g' cs' hm => by
    rcases List.mem_cons.1 hm with e | e
    · injection e with e1 e2; subst e1 e2; exact hv
    · exact h.pg g' cs' e⟩
theorem al (w : World) (o : Obj) : Below w.heap.size w (w.alloc o) := (Below.refl _ _).alloc (Nat.le_refl _) _
set_option linter.unusedVariables false in
set_option maxRecDepth 1000000 in
set_option maxHeartbeats 4000000 in
theorem numv_any (n : Int) (w : World) : Calls Tryz.prog 36 #[.int .i64 n] w fun e w' => e = .returned (.agg #[.int .u8 2, .int .i64 n, .string ⟨#[]⟩]) ∧ Below w.heap.size w w' := num_any n w
set_option linter.unusedVariables false in
set_option maxRecDepth 1000000 in
set_option maxHeartbeats 4000000 in
theorem aw_0 {w w0 : World}  {Q : Exit → Act → World → Prop} {a : Act} (hF : Fr 95 a []) (HA : Aw w w0 []) (hE : Env w0)
    (h : ∀ (a' : Act) (w' : World), Fr 95 a' [] → Aw w w' [] → Env w' → Q .normal a' w') : (cL (aw 0)).wp Tryz.prog Q a w0 := by
  conv => arg 2; whnf
  obtain ⟨f, rfl, _, hfr⟩ := hF.open95
  clear hF hfr
  have H := hide h
  have HE := hide hE
  clear h hE
  go_wp2_with fail
  exact H.out _ _ ⟨rfl, rfl, trivial⟩ HA HE.out
set_option linter.unusedVariables false in
set_option maxRecDepth 1000000 in
set_option maxHeartbeats 4000000 in
theorem aw_1 {w w0 : World}  {Q : Exit → Act → World → Prop} {a : Act} (hF : Fr 95 a []) (HA : Aw w w0 []) (hE : Env w0)
    (h : ∀ (a' : Act) (w' : World) g1, Fr 95 a' [(1, .pointer (some ⟨g1, 0, none⟩)), (2, .int .i64 0)] → Aw w w' [(g1, #[.int .u8 2, .int .i64 3, .string ⟨#[]⟩])] → Env w' → Q .normal a' w') : (cL (aw 1)).wp Tryz.prog Q a w0 := by
  conv => arg 2; whnf
  obtain ⟨f, rfl, _, hfr⟩ := hF.open95
  clear hF hfr
  have H := hide h
  have HE := hide hE
  clear h hE
  go_wp2_with fail
  with_reducible refine (at_any 0 w0).mono ?_
  rintro e w1 ⟨rfl, hb⟩
  replace HA := HA.below hb
  replace HE := hide (HE.out.next hb)
  clear hb
  go_wp2_with fail
  with_reducible refine (numv_any 1 w1).mono ?_
  rintro e w2 ⟨rfl, hb⟩
  replace HA := HA.below hb
  replace HE := hide (HE.out.next hb)
  clear hb
  go_wp2_with fail
  skip
  obtain ⟨w3, hw3⟩ : ∃ x, x = w2.alloc (.cells #[.int .u8 22, .int .u8 0, .int .i64 0, .string ⟨#[]⟩, .string ⟨#[]⟩, .string ⟨#[]⟩, .int .i64 0, .slice none 0 0, .int .u8 1, .int .u8 2, .int .i64 1, .string ⟨#[]⟩, .string ⟨#[]⟩, .string ⟨#[]⟩, .int .i64 0, .slice none 0 0] 28) := ⟨_, rfl⟩
  have HK : Hid (Blk w3 w2.heap.size 28 #[.int .u8 22, .int .u8 0, .int .i64 0, .string ⟨#[]⟩, .string ⟨#[]⟩, .string ⟨#[]⟩, .int .i64 0, .slice none 0 0, .int .u8 1, .int .u8 2, .int .i64 1, .string ⟨#[]⟩, .string ⟨#[]⟩, .string ⟨#[]⟩, .int .i64 0, .slice none 0 0]) := by rw [hw3]; exact Blk.new _ _ _
  have hb : Below w2.heap.size w2 w3 := by rw [hw3]; exact al _ _
  obtain ⟨gHK, hgHK⟩ : ∃ g, g = w2.heap.size := ⟨_, rfl⟩
  rw [← hgHK] at HK
  replace HA := HA.below hb
  replace HE := hide (HE.out.next hb)
  rw [← hw3, ← hgHK]
  clear hw3 hgHK hb
  go_wp2_with fail
  with_reducible refine (numv_any 2 w3).mono ?_
  rintro e w4 ⟨rfl, hb⟩
  replace HA := HA.below hb
  replace HE := hide (HE.out.next hb)
  replace HK := hide (HK.out.below hb HK.out.lt)
  clear hb
  go_wp2_with fail
  obtain ⟨w5, hw5⟩ : ∃ x, x = w4.alloc (.cells #[.int .u8 2, .int .i64 2, .string ⟨#[]⟩] 25) := ⟨_, rfl⟩
  have HR : Hid (Blk w5 w4.heap.size 25 #[.int .u8 2, .int .i64 2, .string ⟨#[]⟩]) := by rw [hw5]; exact Blk.new _ _ _
  have hb : Below w4.heap.size w4 w5 := by rw [hw5]; exact al _ _
  obtain ⟨gHR, hgHR⟩ : ∃ g, g = w4.heap.size := ⟨_, rfl⟩
  rw [← hgHR] at HR
  replace HA := HA.below hb
  replace HE := hide (HE.out.next hb)
  replace HK := hide (HK.out.below hb HK.out.lt)
  rw [← hw5, ← hgHR]
  clear hw5 hgHR hb
  have hex : ExK w5 (· < w5.heap.size) 1 (some ⟨gHK, 0, none⟩) 2 [.mk (Ev.hAt 0) [], .mk (Ev.hLit (Ev.i3 1)) []] := ex_row [It.leaf (Ev.hAt 0), It.leaf (Ev.hLit (Ev.i3 1))] HK.out HK.out.lt (by decide) (fun x hx => by
    simp only [List.mem_cons, List.not_mem_nil, or_false] at hx
    rcases hx with rfl | rfl
    · exact ⟨hdOk_mk vOk_vz (by decide) (by decide), by decide, by decide, ExK.nil _ _ _ _⟩
    · exact ⟨hdOk_mk (vOk_i3 _ (by decide) (by decide)) (by decide) (by decide), by decide, by decide, ExK.nil _ _ _ _⟩)
  have hrv : Rv w5 w5.heap.size (some ⟨gHR, 0, none⟩) 1 [Ev.i3 2] := rv_row [Ev.i3 2] HR.out HR.out.lt (fun v hv => by
    simp only [List.mem_cons, List.not_mem_nil, or_false] at hv
    subst hv
    exact vOk_i3 _ (by decide) (by decide))
  have cc : Calls Tryz.prog 7 #[.agg #[.int .u8 4, .int .u8 0, .int .i64 0, .string ⟨#[]⟩, .string ⟨#[]⟩, .string ⟨#[]⟩, .int .i64 0, .slice (some ⟨gHK, 0, none⟩) 2 2], .slice (some ⟨gHR, 0, none⟩) 1 1, .string ⟨#[114]⟩] w5 fun e w' => e = .returned (.tuple #[.agg #[.int .u8 2, .int .i64 3, .string ⟨#[]⟩], .int .i64 0]) ∧ Below w5.heap.size w5 w' :=
    (value_all 1 (Ev.hd 4) _ _ 2 2 _ 1 1 [Ev.i3 2] Ev.rR w5 hex (hdOk_mk vOk_vz (by decide) (by decide)) (by decide) (by decide) hrv (by decide) (by decide) HE.out).mono fun e w' hp => ⟨by rw [hp.1, Ev.aw1]; rfl, hp.2⟩
  clear hex hrv
  with_reducible refine cc.mono ?_
  clear cc
  rintro e w8 ⟨rfl, hb⟩
  replace HA := HA.below hb
  replace HE := hide (HE.out.next hb)
  clear hb HK HR
  obtain ⟨w6, hw6⟩ : ∃ x, x = w8.alloc (.cells #[.int .u8 2, .int .i64 3, .string ⟨#[]⟩] 25) := ⟨_, rfl⟩
  have HV : Hid (Blk w6 w8.heap.size 25 #[.int .u8 2, .int .i64 3, .string ⟨#[]⟩]) := by rw [hw6]; exact Blk.new _ _ _
  have hb : Below w8.heap.size w8 w6 := by rw [hw6]; exact al _ _
  obtain ⟨gHV, hgHV⟩ : ∃ g, g = w8.heap.size := ⟨_, rfl⟩
  rw [← hgHV] at HV
  replace HA := HA.below hb
  replace HE := hide (HE.out.next hb)
  go_wp2_with fail
  rw [← hw6, ← hgHV]
  exact H.out _ _ _ ⟨rfl, rfl, rfl, rfl, trivial⟩ (HA.cons HV.out) HE.out
set_option linter.unusedVariables false in
set_option maxRecDepth 1000000 in
set_option maxHeartbeats 4000000 in
theorem aw_2 {w w0 : World} {g1 : Nat} {Q : Exit → Act → World → Prop} {a : Act} (hF : Fr 95 a [(1, .pointer (some ⟨g1, 0, none⟩)), (2, .int .i64 0)]) (HA : Aw w w0 [(g1, #[.int .u8 2, .int .i64 3, .string ⟨#[]⟩])]) (hE : Env w0)
    (h : ∀ (a' : Act) (w' : World), Fr 95 a' [(1, .pointer (some ⟨g1, 0, none⟩)), (2, .int .i64 0), (4, .int .i64 2)] → Aw w w' [(g1, #[.int .u8 2, .int .i64 3, .string ⟨#[]⟩])] → Env w' → Q .normal a' w') : (cL (aw 2)).wp Tryz.prog Q a w0 := by
  conv => arg 2; whnf
  obtain ⟨f, rfl, ⟨s1, s2, _⟩, hfr⟩ := hF.open95
  rw [hfr] at s1 s2
  rw [s1, s2]
  clear hF hfr s1 s2
  have H := hide h
  have HE := hide hE
  clear h hE
  go_wp2_with fail
  with_reducible refine (at_any 3 w0).mono ?_
  rintro e w1 ⟨rfl, hb⟩
  replace HA := HA.below hb
  replace HE := hide (HE.out.next hb)
  clear hb
  go_wp2_with fail
  with_reducible refine (numv_any 2 w1).mono ?_
  rintro e w2 ⟨rfl, hb⟩
  replace HA := HA.below hb
  replace HE := hide (HE.out.next hb)
  clear hb
  go_wp2_with fail
  obtain ⟨w3, hw3⟩ : ∃ x, x = w2.alloc (.cells #[.int .u8 2, .int .i64 2, .string ⟨#[]⟩] 25) := ⟨_, rfl⟩
  have HR : Hid (Blk w3 w2.heap.size 25 #[.int .u8 2, .int .i64 2, .string ⟨#[]⟩]) := by rw [hw3]; exact Blk.new _ _ _
  have hb : Below w2.heap.size w2 w3 := by rw [hw3]; exact al _ _
  obtain ⟨gHR, hgHR⟩ : ∃ g, g = w2.heap.size := ⟨_, rfl⟩
  rw [← hgHR] at HR
  replace HA := HA.below hb
  replace HE := hide (HE.out.next hb)
  rw [← hw3, ← hgHR]
  clear hw3 hgHR hb
  have hrv : Rv w3 w3.heap.size (some ⟨gHR, 0, none⟩) 1 [Ev.i3 2] := rv_row [Ev.i3 2] HR.out HR.out.lt (fun v hv => by
    simp only [List.mem_cons, List.not_mem_nil, or_false] at hv
    subst hv
    exact vOk_i3 _ (by decide) (by decide))
  have cc : Calls Tryz.prog 7 #[.agg #[.int .u8 22, .int .u8 0, .int .i64 0, .string ⟨#[]⟩, .string ⟨#[]⟩, .string ⟨#[]⟩, .int .i64 3, .slice none 0 0], .slice (some ⟨gHR, 0, none⟩) 1 1, .string ⟨#[114]⟩] w3 fun e w' => e = .returned (.tuple #[.agg #[.int .u8 0, .int .i64 0, .string ⟨#[]⟩], .int .i64 2]) ∧ Below w3.heap.size w3 w' :=
    (value_all 0 (Ev.hAt 3) [] none 0 0 _ 1 1 [Ev.i3 2] Ev.rR w3 ⟨rfl, rfl⟩ (hdOk_mk vOk_vz (by decide) (by decide)) (by decide) (by decide) hrv (by decide) (by decide) HE.out).mono fun e w' hp => ⟨by rw [hp.1, Ev.aw2]; rfl, hp.2⟩
  clear hrv
  with_reducible refine cc.mono ?_
  clear cc
  rintro e w8 ⟨rfl, hb⟩
  replace HA := HA.below hb
  replace HE := hide (HE.out.next hb)
  clear hb HR
  obtain ⟨w4, hw4⟩ : ∃ x, x = w8.alloc (.cells #[.int .u8 0, .int .i64 0, .string ⟨#[]⟩] 25) := ⟨_, rfl⟩
  have HV : Hid (Blk w4 w8.heap.size 25 #[.int .u8 0, .int .i64 0, .string ⟨#[]⟩]) := by rw [hw4]; exact Blk.new _ _ _
  have hb : Below w8.heap.size w8 w4 := by rw [hw4]; exact al _ _
  obtain ⟨gHV, hgHV⟩ : ∃ g, g = w8.heap.size := ⟨_, rfl⟩
  rw [← hgHV] at HV
  replace HA := HA.below hb
  replace HE := hide (HE.out.next hb)
  go_wp2_with fail
  rw [← hw4]
  exact H.out _ _ ⟨rfl, rfl, rfl, rfl, rfl, trivial⟩ HA HE.out
set_option linter.unusedVariables false in
set_option maxRecDepth 1000000 in
set_option maxHeartbeats 4000000 in
theorem aw_3 {w w0 : World} {g1 : Nat} {Q : Exit → Act → World → Prop} {a : Act} (hF : Fr 95 a [(1, .pointer (some ⟨g1, 0, none⟩)), (2, .int .i64 0), (4, .int .i64 2)]) (HA : Aw w w0 [(g1, #[.int .u8 2, .int .i64 3, .string ⟨#[]⟩])]) (hE : Env w0)
    (h : ∀ (a' : Act) (w' : World), Fr 95 a' [(1, .pointer (some ⟨g1, 0, none⟩)), (2, .int .i64 0), (4, .int .i64 2), (5, .int .u8 2), (6, .int .i64 0)] → Aw w w' [(g1, #[.int .u8 2, .int .i64 3, .string ⟨#[]⟩])] → Env w' → Q .normal a' w') : (cL (aw 3)).wp Tryz.prog Q a w0 := by
  conv => arg 2; whnf
  obtain ⟨f, rfl, ⟨s1, s2, s4, _⟩, hfr⟩ := hF.open95
  rw [hfr] at s1 s2 s4
  rw [s1, s2, s4]
  clear hF hfr s1 s2 s4
  have H := hide h
  have HE := hide hE
  clear h hE
  go_wp2_with fail
  with_reducible refine (at_any 0 w0).mono ?_
  rintro e w1 ⟨rfl, hb⟩
  replace HA := HA.below hb
  replace HE := hide (HE.out.next hb)
  clear hb
  go_wp2_with fail
  obtain ⟨w2, hw2⟩ : ∃ x, x = w1.alloc (.cells #[.int .u8 22, .int .u8 0, .int .i64 0, .string ⟨#[]⟩, .string ⟨#[]⟩, .string ⟨#[]⟩, .int .i64 0, .slice none 0 0, .int .u8 1, .int .u8 0, .int .i64 0, .string ⟨#[]⟩, .string ⟨#[]⟩, .string ⟨#[]⟩, .int .i64 0, .slice none 0 0] 28) := ⟨_, rfl⟩
  have HK : Hid (Blk w2 w1.heap.size 28 #[.int .u8 22, .int .u8 0, .int .i64 0, .string ⟨#[]⟩, .string ⟨#[]⟩, .string ⟨#[]⟩, .int .i64 0, .slice none 0 0, .int .u8 1, .int .u8 0, .int .i64 0, .string ⟨#[]⟩, .string ⟨#[]⟩, .string ⟨#[]⟩, .int .i64 0, .slice none 0 0]) := by rw [hw2]; exact Blk.new _ _ _
  have hb : Below w1.heap.size w1 w2 := by rw [hw2]; exact al _ _
  obtain ⟨gHK, hgHK⟩ : ∃ g, g = w1.heap.size := ⟨_, rfl⟩
  rw [← hgHK] at HK
  replace HA := HA.below hb
  replace HE := hide (HE.out.next hb)
  rw [← hw2, ← hgHK]
  clear hw2 hgHK hb
  go_wp2_with fail
  with_reducible refine (numv_any 2 w2).mono ?_
  rintro e w3 ⟨rfl, hb⟩
  replace HA := HA.below hb
  replace HE := hide (HE.out.next hb)
  replace HK := hide (HK.out.below hb HK.out.lt)
  clear hb
  go_wp2_with fail
  obtain ⟨w4, hw4⟩ : ∃ x, x = w3.alloc (.cells #[.int .u8 2, .int .i64 2, .string ⟨#[]⟩] 25) := ⟨_, rfl⟩
  have HR : Hid (Blk w4 w3.heap.size 25 #[.int .u8 2, .int .i64 2, .string ⟨#[]⟩]) := by rw [hw4]; exact Blk.new _ _ _
  have hb : Below w3.heap.size w3 w4 := by rw [hw4]; exact al _ _
  obtain ⟨gHR, hgHR⟩ : ∃ g, g = w3.heap.size := ⟨_, rfl⟩
  rw [← hgHR] at HR
  replace HA := HA.below hb
  replace HE := hide (HE.out.next hb)
  replace HK := hide (HK.out.below hb HK.out.lt)
  rw [← hw4, ← hgHR]
  clear hw4 hgHR hb
  have hex : ExK w4 (· < w4.heap.size) 1 (some ⟨gHK, 0, none⟩) 2 [.mk (Ev.hAt 0) [], .mk (Ev.hLit Val.vz) []] := ex_row [It.leaf (Ev.hAt 0), It.leaf (Ev.hLit Val.vz)] HK.out HK.out.lt (by decide) (fun x hx => by
    simp only [List.mem_cons, List.not_mem_nil, or_false] at hx
    rcases hx with rfl | rfl
    · exact ⟨(hdOk_mk vOk_vz (by decide) (by decide)), by decide, by decide, ExK.nil _ _ _ _⟩
    · exact ⟨(hdOk_mk vOk_vz (by decide) (by decide)), by decide, by decide, ExK.nil _ _ _ _⟩)
  have hrv : Rv w4 w4.heap.size (some ⟨gHR, 0, none⟩) 1 [Ev.i3 2] := rv_row [Ev.i3 2] HR.out HR.out.lt (fun v hv => by
    simp only [List.mem_cons, List.not_mem_nil, or_false] at hv
    subst hv
    exact vOk_i3 _ (by decide) (by decide))
  have cc : Calls Tryz.prog 9 #[.agg #[.int .u8 7, .int .u8 0, .int .i64 0, .string ⟨#[]⟩, .string ⟨#[]⟩, .string ⟨#[]⟩, .int .i64 0, .slice (some ⟨gHK, 0, none⟩) 2 2], .slice (some ⟨gHR, 0, none⟩) 1 1, .string ⟨#[114]⟩] w4 fun e w' => e = .returned (.tuple #[.int .u8 2, .int .i64 0]) ∧ Below w4.heap.size w4 w' :=
    (is_any 1 (Ev.hd 7) _ _ 2 2 _ 1 1 [Ev.i3 2] Ev.rR w4 hex (hdOk_mk vOk_vz (by decide) (by decide)) (by decide) (by decide) hrv (by decide) (by decide) HE.out).mono fun e w' hp => ⟨by rw [hp.1, Ev.aw3]; rfl, hp.2⟩
  clear hex hrv
  with_reducible refine cc.mono ?_
  clear cc
  rintro e w8 ⟨rfl, hb⟩
  replace HA := HA.below hb
  replace HE := hide (HE.out.next hb)
  clear hb HK HR
  go_wp2_with fail
  exact H.out _ _ ⟨rfl, rfl, rfl, rfl, rfl, rfl, rfl, trivial⟩ HA HE.out
set_option linter.unusedVariables false in
set_option maxRecDepth 1000000 in
set_option maxHeartbeats 4000000 in
theorem aw_4 {w w0 : World} {g1 : Nat} {Q : Exit → Act → World → Prop} {a : Act} (hF : Fr 95 a [(1, .pointer (some ⟨g1, 0, none⟩)), (2, .int .i64 0), (4, .int .i64 2), (5, .int .u8 2), (6, .int .i64 0)]) (HA : Aw w w0 [(g1, #[.int .u8 2, .int .i64 3, .string ⟨#[]⟩])]) (hE : Env w0)
    (h : ∀ (a' : Act) (w' : World) g7, Fr 95 a' [(1, .pointer (some ⟨g1, 0, none⟩)), (2, .int .i64 0), (4, .int .i64 2), (5, .int .u8 2), (6, .int .i64 0), (7, .pointer (some ⟨g7, 0, none⟩)), (8, .int .i64 0)] → Aw w w' [(g7, #[.int .u8 2, .int .i64 3, .string ⟨#[]⟩]), (g1, #[.int .u8 2, .int .i64 3, .string ⟨#[]⟩])] → Env w' → Q .normal a' w') : (cL (aw 4)).wp Tryz.prog Q a w0 := by
  conv => arg 2; whnf
  obtain ⟨f, rfl, ⟨s1, s2, s4, s5, s6, _⟩, hfr⟩ := hF.open95
  rw [hfr] at s1 s2 s4 s5 s6
  rw [s1, s2, s4, s5, s6]
  clear hF hfr s1 s2 s4 s5 s6
  have H := hide h
  have HE := hide hE
  clear h hE
  go_wp2_with fail
  with_reducible refine (at_any 0 w0).mono ?_
  rintro e w1 ⟨rfl, hb⟩
  replace HA := HA.below hb
  replace HE := hide (HE.out.next hb)
  clear hb
  go_wp2_with fail
  obtain ⟨w2, hw2⟩ : ∃ x, x = w1.alloc (.cells #[.int .u8 22, .int .u8 0, .int .i64 0, .string ⟨#[]⟩, .string ⟨#[]⟩, .string ⟨#[]⟩, .int .i64 0, .slice none 0 0] 28) := ⟨_, rfl⟩
  have HK : Hid (Blk w2 w1.heap.size 28 #[.int .u8 22, .int .u8 0, .int .i64 0, .string ⟨#[]⟩, .string ⟨#[]⟩, .string ⟨#[]⟩, .int .i64 0, .slice none 0 0]) := by rw [hw2]; exact Blk.new _ _ _
  have hb : Below w1.heap.size w1 w2 := by rw [hw2]; exact al _ _
  obtain ⟨gHK, hgHK⟩ : ∃ g, g = w1.heap.size := ⟨_, rfl⟩
  rw [← hgHK] at HK
  replace HA := HA.below hb
  replace HE := hide (HE.out.next hb)
  rw [← hw2, ← hgHK]
  clear hw2 hgHK hb
  go_wp2_with fail
  with_reducible refine (numv_any 1 w2).mono ?_
  rintro e w3 ⟨rfl, hb⟩
  replace HA := HA.below hb
  replace HE := hide (HE.out.next hb)
  replace HK := hide (HK.out.below hb HK.out.lt)
  clear hb
  go_wp2_with fail
  obtain ⟨w4, hw4⟩ : ∃ x, x = w3.alloc (.cells #[.int .u8 2, .int .i64 1, .string ⟨#[]⟩] 25) := ⟨_, rfl⟩
  have HRa : Hid (Blk w4 w3.heap.size 25 #[.int .u8 2, .int .i64 1, .string ⟨#[]⟩]) := by rw [hw4]; exact Blk.new _ _ _
  have hb : Below w3.heap.size w3 w4 := by rw [hw4]; exact al _ _
  obtain ⟨gHRa, hgHRa⟩ : ∃ g, g = w3.heap.size := ⟨_, rfl⟩
  rw [← hgHRa] at HRa
  replace HA := HA.below hb
  replace HE := hide (HE.out.next hb)
  replace HK := hide (HK.out.below hb HK.out.lt)
  clear hb
  obtain ⟨w5, hw5⟩ : ∃ x, x = w4.alloc (.cells #[.int .u8 0, .int .i64 0, .string ⟨#[]⟩] 25) := ⟨_, rfl⟩
  have HRb : Hid (Blk w5 w4.heap.size 25 #[.int .u8 0, .int .i64 0, .string ⟨#[]⟩]) := by rw [hw5]; exact Blk.new _ _ _
  have hb : Below w4.heap.size w4 w5 := by rw [hw5]; exact al _ _
  obtain ⟨gHRb, hgHRb⟩ : ∃ g, g = w4.heap.size := ⟨_, rfl⟩
  rw [← hgHRb] at HRb
  replace HA := HA.below hb
  replace HE := hide (HE.out.next hb)
  replace HK := hide (HK.out.below hb HK.out.lt)
  replace HRa := hide (HRa.out.below hb HRa.out.lt)
  have eb : gHRb = gHRa + 1 := by rw [hgHRb, hw4, hgHRa]; simp
  rw [← hw4, ← hw5, ← hgHRa, ← eb]
  clear hw4 hgHRa hw5 hgHRb eb hb
  with_reducible refine (numv_any 2 w5).mono ?_
  rintro e w6 ⟨rfl, hb⟩
  replace HA := HA.below hb
  replace HE := hide (HE.out.next hb)
  replace HK := hide (HK.out.below hb HK.out.lt)
  replace HRa := hide (HRa.out.below hb HRa.out.lt)
  replace HRb := hide (HRb.out.below hb HRb.out.lt)
  clear hb
  go_wp2_with fail
  obtain ⟨w7, hw7⟩ : ∃ x, x = w6.alloc (.cells #[.int .u8 2, .int .i64 2, .string ⟨#[]⟩] 25) := ⟨_, rfl⟩
  have HRc : Hid (Blk w7 w6.heap.size 25 #[.int .u8 2, .int .i64 2, .string ⟨#[]⟩]) := by rw [hw7]; exact Blk.new _ _ _
  have hb : Below w6.heap.size w6 w7 := by rw [hw7]; exact al _ _
  obtain ⟨gHRc, hgHRc⟩ : ∃ g, g = w6.heap.size := ⟨_, rfl⟩
  rw [← hgHRc] at HRc
  replace HA := HA.below hb
  replace HE := hide (HE.out.next hb)
  replace HK := hide (HK.out.below hb HK.out.lt)
  replace HRa := hide (HRa.out.below hb HRa.out.lt)
  replace HRb := hide (HRb.out.below hb HRb.out.lt)
  clear hb
  obtain ⟨w8, hw8⟩ : ∃ x, x = w7.alloc (.cells #[.slice (some ⟨gHRa, 0, none⟩) 1 1, .slice (some ⟨gHRb, 0, none⟩) 1 1, .slice (some ⟨gHRc, 0, none⟩) 1 1] 30) := ⟨_, rfl⟩
  have HRs : Hid (Blk w8 w7.heap.size 30 #[.slice (some ⟨gHRa, 0, none⟩) 1 1, .slice (some ⟨gHRb, 0, none⟩) 1 1, .slice (some ⟨gHRc, 0, none⟩) 1 1]) := by rw [hw8]; exact Blk.new _ _ _
  have hb : Below w7.heap.size w7 w8 := by rw [hw8]; exact al _ _
  obtain ⟨gHRs, hgHRs⟩ : ∃ g, g = w7.heap.size := ⟨_, rfl⟩
  rw [← hgHRs] at HRs
  replace HA := HA.below hb
  replace HE := hide (HE.out.next hb)
  replace HK := hide (HK.out.below hb HK.out.lt)
  replace HRa := hide (HRa.out.below hb HRa.out.lt)
  replace HRb := hide (HRb.out.below hb HRb.out.lt)
  replace HRc := hide (HRc.out.below hb HRc.out.lt)
  have es : gHRs = gHRc + 1 := by rw [hgHRs, hw7, hgHRc]; simp
  rw [← hw7, ← hgHRc, ← hw8, ← es]
  clear hw7 hgHRc hw8 hgHRs es hb
  have hvHRa : Rvp w8 (· < w8.heap.size) (some ⟨gHRa, 0, none⟩) 1 [Ev.i3 1] := rvp_row [Ev.i3 1] HRa.out HRa.out.lt (fun v hv => by
    simp only [List.mem_cons, List.not_mem_nil, or_false] at hv
    subst hv
    exact vOk_i3 _ (by decide) (by decide))
  have hvHRb : Rvp w8 (· < w8.heap.size) (some ⟨gHRb, 0, none⟩) 1 [Val.vz] := rvp_row [Val.vz] HRb.out HRb.out.lt (fun v hv => by
    simp only [List.mem_cons, List.not_mem_nil, or_false] at hv
    subst hv
    exact vOk_vz)
  have hvHRc : Rvp w8 (· < w8.heap.size) (some ⟨gHRc, 0, none⟩) 1 [Ev.i3 2] := rvp_row [Ev.i3 2] HRc.out HRc.out.lt (fun v hv => by
    simp only [List.mem_cons, List.not_mem_nil, or_false] at hv
    subst hv
    exact vOk_i3 _ (by decide) (by decide))
  have hrs : Rws w8 (· < w8.heap.size) (some ⟨gHRs, 0, none⟩) 3 [[Ev.i3 1], [Val.vz], [Ev.i3 2]] := ⟨rfl, by decide, fun _ => ⟨gHRs, 0, rfl, HRs.out.lt, fun i r hi => by
    match i, hi with
    | 0, hi =>
      injection hi with hi
      subst hi
      exact ⟨_, 1, HRs.out.cell 0, by decide, by decide, hvHRa⟩
    | 1, hi =>
      injection hi with hi
      subst hi
      exact ⟨_, 1, HRs.out.cell 1, by decide, by decide, hvHRb⟩
    | 2, hi =>
      injection hi with hi
      subst hi
      exact ⟨_, 1, HRs.out.cell 2, by decide, by decide, hvHRc⟩
    | i + 3, hi => simp at hi⟩⟩
  have hex : ExK w8 (· < w8.heap.size) 1 (some ⟨gHK, 0, none⟩) 1 [.mk (Ev.hAt 0) []] := ex_row [It.leaf (Ev.hAt 0)] HK.out HK.out.lt (by decide) (fun x hx => by
    simp only [List.mem_cons, List.not_mem_nil, or_false] at hx
    subst hx
    exact ⟨(hdOk_mk vOk_vz (by decide) (by decide)), by decide, by decide, ExK.nil _ _ _ _⟩)
  have cc : Calls Tryz.prog 15 #[.agg #[.int .u8 18, .int .u8 0, .int .i64 0, .string ⟨#[]⟩, .string ⟨#[]⟩, .string ⟨#[]⟩, .int .i64 0, .slice (some ⟨gHK, 0, none⟩) 1 1], .slice (some ⟨gHRs, 0, none⟩) 3 3, .string ⟨#[114]⟩] w8 fun e w' => e = .returned (.tuple #[.agg #[.int .u8 2, .int .i64 3, .string ⟨#[]⟩], .int .i64 0]) ∧ Below w8.heap.size w8 w' :=
    (fold_any 1 (Ev.hd 18) _ _ 1 1 _ 3 3 _ Ev.rR w8 hex (hdOk_mk vOk_vz (by decide) (by decide)) (by decide) (by decide) hrs (by decide) HE.out).mono fun e w' hp => ⟨by rw [hp.1, Ev.aw4]; rfl, hp.2⟩
  clear hex hrs hvHRa hvHRb hvHRc
  with_reducible refine cc.mono ?_
  clear cc
  rintro e w8 ⟨rfl, hb⟩
  replace HA := HA.below hb
  replace HE := hide (HE.out.next hb)
  clear hb HK HRa HRb HRc HRs
  obtain ⟨w9, hw9⟩ : ∃ x, x = w8.alloc (.cells #[.int .u8 2, .int .i64 3, .string ⟨#[]⟩] 25) := ⟨_, rfl⟩
  have HV : Hid (Blk w9 w8.heap.size 25 #[.int .u8 2, .int .i64 3, .string ⟨#[]⟩]) := by rw [hw9]; exact Blk.new _ _ _
  have hb : Below w8.heap.size w8 w9 := by rw [hw9]; exact al _ _
  obtain ⟨gHV, hgHV⟩ : ∃ g, g = w8.heap.size := ⟨_, rfl⟩
  rw [← hgHV] at HV
  replace HA := HA.below hb
  replace HE := hide (HE.out.next hb)
  go_wp2_with fail
  rw [← hw9, ← hgHV]
  exact H.out _ _ _ ⟨rfl, rfl, rfl, rfl, rfl, rfl, rfl, rfl, rfl, trivial⟩ (HA.cons HV.out) HE.out
set_option linter.unusedVariables false in
set_option maxRecDepth 1000000 in
set_option maxHeartbeats 4000000 in
theorem aw_5 {w w0 : World} {g1 g7 : Nat} {Q : Exit → Act → World → Prop} {a : Act} (hF : Fr 95 a [(1, .pointer (some ⟨g1, 0, none⟩)), (2, .int .i64 0), (4, .int .i64 2), (5, .int .u8 2), (6, .int .i64 0), (7, .pointer (some ⟨g7, 0, none⟩)), (8, .int .i64 0)]) (HA : Aw w w0 [(g7, #[.int .u8 2, .int .i64 3, .string ⟨#[]⟩]), (g1, #[.int .u8 2, .int .i64 3, .string ⟨#[]⟩])]) (hE : Env w0)
    (h : ∀ (a' : Act) (w' : World) g9, Fr 95 a' [(1, .pointer (some ⟨g1, 0, none⟩)), (2, .int .i64 0), (4, .int .i64 2), (5, .int .u8 2), (6, .int .i64 0), (7, .pointer (some ⟨g7, 0, none⟩)), (8, .int .i64 0), (9, .pointer (some ⟨g9, 0, none⟩)), (10, .int .i64 0)] → Aw w w' [(g9, #[.int .u8 4, .int .i64 0, .string ⟨#[114]⟩]), (g7, #[.int .u8 2, .int .i64 3, .string ⟨#[]⟩]), (g1, #[.int .u8 2, .int .i64 3, .string ⟨#[]⟩])] → Env w' → Q .normal a' w') : (cL (aw 5)).wp Tryz.prog Q a w0 := by
  conv => arg 2; whnf
  obtain ⟨f, rfl, ⟨s1, s2, s4, s5, s6, s7, s8, _⟩, hfr⟩ := hF.open95
  rw [hfr] at s1 s2 s4 s5 s6 s7 s8
  rw [s1, s2, s4, s5, s6, s7, s8]
  clear hF hfr s1 s2 s4 s5 s6 s7 s8
  have H := hide h
  have HE := hide hE
  clear h hE
  go_wp2_with fail
  have cc : Calls Tryz.prog 7 #[.agg #[.int .u8 21, .int .u8 0, .int .i64 0, .string ⟨#[]⟩, .string ⟨#[]⟩, .string ⟨#[]⟩, .int .i64 0, .slice none 0 0], .slice none 0 0, .string ⟨#[114]⟩] w0 fun e w' => e = .returned (.tuple #[.agg #[.int .u8 4, .int .i64 0, .string ⟨#[114]⟩], .int .i64 0]) ∧ Below w0.heap.size w0 w' :=
    (value_all 0 (Ev.hd 21) [] none 0 0 _ 0 0 [] Ev.rR w0 ⟨rfl, rfl⟩ (hdOk_mk vOk_vz (by decide) (by decide)) (by decide) (by decide) (rv_nil _ _ none) (by decide) (by decide) HE.out).mono fun e w' hp => ⟨by rw [hp.1, Ev.aw5]; rfl, hp.2⟩
  with_reducible refine cc.mono ?_
  clear cc
  rintro e w8 ⟨rfl, hb⟩
  replace HA := HA.below hb
  replace HE := hide (HE.out.next hb)
  clear hb
  obtain ⟨w1, hw1⟩ : ∃ x, x = w8.alloc (.cells #[.int .u8 4, .int .i64 0, .string ⟨#[114]⟩] 25) := ⟨_, rfl⟩
  have HV : Hid (Blk w1 w8.heap.size 25 #[.int .u8 4, .int .i64 0, .string ⟨#[114]⟩]) := by rw [hw1]; exact Blk.new _ _ _
  have hb : Below w8.heap.size w8 w1 := by rw [hw1]; exact al _ _
  obtain ⟨gHV, hgHV⟩ : ∃ g, g = w8.heap.size := ⟨_, rfl⟩
  rw [← hgHV] at HV
  replace HA := HA.below hb
  replace HE := hide (HE.out.next hb)
  go_wp2_with fail
  rw [← hw1, ← hgHV]
  exact H.out _ _ _ ⟨rfl, rfl, rfl, rfl, rfl, rfl, rfl, rfl, rfl, rfl, rfl, trivial⟩ (HA.cons HV.out) HE.out
set_option linter.unusedVariables false in
set_option maxRecDepth 1000000 in
set_option maxHeartbeats 4000000 in
theorem aw_6 {w w0 : World} {g1 g7 g9 : Nat} {Q : Exit → Act → World → Prop} {a : Act} (hF : Fr 95 a [(1, .pointer (some ⟨g1, 0, none⟩)), (2, .int .i64 0), (4, .int .i64 2), (5, .int .u8 2), (6, .int .i64 0), (7, .pointer (some ⟨g7, 0, none⟩)), (8, .int .i64 0), (9, .pointer (some ⟨g9, 0, none⟩)), (10, .int .i64 0)]) (HA : Aw w w0 [(g9, #[.int .u8 4, .int .i64 0, .string ⟨#[114]⟩]), (g7, #[.int .u8 2, .int .i64 3, .string ⟨#[]⟩]), (g1, #[.int .u8 2, .int .i64 3, .string ⟨#[]⟩])]) (hE : Env w0)
    (h : ∀ (a' : Act) (w' : World), Fr 95 a' [(0, .bool true)] → Aw w w' [] → Env w' → Q .normal a' w') : (cL (aw 6)).wp Tryz.prog Q a w0 := by
  conv => arg 2; whnf
  obtain ⟨f, rfl, ⟨s1, s2, s4, s5, s6, s7, s8, s9, s10, _⟩, hfr⟩ := hF.open95
  rw [hfr] at s1 s2 s4 s5 s6 s7 s8 s9 s10
  rw [s1, s2, s4, s5, s6, s7, s8, s9, s10]
  clear hF hfr s1 s2 s4 s5 s6 s7 s8 s9 s10
  have H := hide h
  have HE := hide hE
  clear h hE
  have HB1 := hide (HA.pg g1 #[.int .u8 2, .int .i64 3, .string ⟨#[]⟩] (by simp))
  have HB7 := hide (HA.pg g7 #[.int .u8 2, .int .i64 3, .string ⟨#[]⟩] (by simp))
  have HB9 := hide (HA.pg g9 #[.int .u8 4, .int .i64 0, .string ⟨#[114]⟩] (by simp))
  have HBl := hide HA.bel
  clear HA
  have hTs := tab_stable (l := [(4, NoF), (25, NoF)]) (fun p hp => by
      simp only [List.mem_cons, List.not_mem_nil, or_false] at hp
      rcases hp with rfl | rfl
      · exact NoF.stable
      · exact NoF.stable)
  have hSs := shp_some (l := [(4, IsV (.agg #[.int .u8 2, .int .i64 3, .string ⟨#[]⟩])), (25, IsV (.agg #[.int .u8 2, .int .i64 3, .string ⟨#[]⟩]))]) (fun p hp => by
      simp only [List.mem_cons, List.not_mem_nil, or_false] at hp
      rcases hp with rfl | rfl
      · exact IsV.some _
      · exact IsV.some _)
  have HTs := hide hTs
  have HSs := hide hSs
  clear hTs hSs
  refine wp_region_toldL (tab [(4, NoF), (25, NoF)]) (Up w0) (w0.heap.size) 38 (shp [(4, IsV (.agg #[.int .u8 2, .int .i64 3, .string ⟨#[]⟩])), (25, IsV (.agg #[.int .u8 2, .int .i64 3, .string ⟨#[]⟩]))]) (HSs.out) (HTs.out) (Up.lives _) Gro (Gro.turns (Up.lives _) (HTs.out)) (by kernel_rfl) (by kernel_rfl) (Up.start _) (Nat.le_refl _) ?_
  simp only [List.take_succ_cons, List.take_zero, List.drop_succ_cons, List.drop_zero]
  refine wpTold_read ?_ rfl rfl (fun w' hS => ?_) ?_
  rotate_left
  · go_simp
    rfl
  go_frame
  refine wpTold_read ?_ rfl rfl (fun w' hS => ?_) ?_
  rotate_left
  · go_simp
    rfl
  go_frame
  refine wpTold_read ?_ rfl rfl (fun w' hS => ?_) ?_
  rotate_left
  · go_simp
    rfl
  go_frame
  refine wpTold_read ?_ rfl rfl (fun w' hS => ?_) ?_
  rotate_left
  · have l0 := (Blk.below (HB1.out) hS HB1.out.lt).cell 0
    have l1 := (Blk.below (HB1.out) hS HB1.out.lt).cell 1
    have l2 := (Blk.below (HB1.out) hS HB1.out.lt).cell 2
    simp at l0 l1 l2
    go_simp
    rfl
  go_frame
  refine' wpTold_call _ _ _ rfl rfl (fun w' => ?_) (fun w' hS hh hs => ?_) (fun v4 h4 => ?_)
  rotate_left 2
  · go_simp
    constructor <;> rfl
  · refine (numv_any 3 w').mono ?_
    rintro e w9 ⟨rfl, hb⟩
    exact ⟨_, rfl, ⟨rfl, trivial⟩, hb⟩
  obtain rfl := h4
  go_frame
  refine wpTold_read ?_ rfl rfl (fun w' hS => ?_) ?_
  rotate_left
  · go_simp
    rfl
  go_frame
  refine wpTold_read ?_ rfl rfl (fun w' hS => ?_) ?_
  rotate_left
  · go_simp
    rfl
  go_frame
  refine wpTold_read ?_ rfl rfl (fun w' hS => ?_) ?_
  rotate_left
  · go_simp
    rfl
  go_frame
  refine wpTold_read ?_ rfl rfl (fun w' hS => ?_) ?_
  rotate_left
  · go_simp
    rfl
  go_frame
  refine wpTold_read ?_ rfl rfl (fun w' hS => ?_) ?_
  rotate_left
  · go_simp
    rfl
  go_frame
  refine wpTold_read ?_ rfl rfl (fun w' hS => ?_) ?_
  rotate_left
  · go_simp
    rfl
  go_frame
  refine wpTold_read ?_ rfl rfl (fun w' hS => ?_) ?_
  rotate_left
  · go_simp
    rfl
  go_frame
  refine wpTold_read ?_ rfl rfl (fun w' hS => ?_) ?_
  rotate_left
  · go_simp
    rfl
  go_frame
  refine wpTold_read ?_ rfl rfl (fun w' hS => ?_) ?_
  rotate_left
  · go_simp
    rfl
  go_frame
  refine wpTold_read ?_ rfl rfl (fun w' hS => ?_) ?_
  rotate_left
  · go_simp
    rfl
  go_frame
  refine wpTold_read ?_ rfl rfl (fun w' hS => ?_) ?_
  rotate_left
  · go_simp
    rfl
  go_frame
  refine wpTold_read ?_ rfl rfl (fun w' hS => ?_) ?_
  rotate_left
  · go_simp
    rfl
  go_frame
  refine wpTold_read ?_ rfl rfl (fun w' hS => ?_) ?_
  rotate_left
  · go_simp
    rfl
  go_frame
  refine wpTold_read ?_ rfl rfl (fun w' hS => ?_) ?_
  rotate_left
  · go_simp
    rfl
  go_frame
  refine wpTold_read ?_ rfl rfl (fun w' hS => ?_) ?_
  rotate_left
  · go_simp
    rfl
  go_frame
  refine wpTold_read ?_ rfl rfl (fun w' hS => ?_) ?_
  rotate_left
  · go_simp
    rfl
  go_frame
  refine wpTold_read ?_ rfl rfl (fun w' hS => ?_) ?_
  rotate_left
  · go_simp
    rfl
  go_frame
  refine wpTold_read ?_ rfl rfl (fun w' hS => ?_) ?_
  rotate_left
  · go_simp
    rfl
  go_frame
  refine wpTold_read ?_ rfl rfl (fun w' hS => ?_) ?_
  rotate_left
  · go_simp
    rfl
  go_frame
  refine wpTold_read ?_ rfl rfl (fun w' hS => ?_) ?_
  rotate_left
  · have l0 := (Blk.below (HB7.out) hS HB7.out.lt).cell 0
    have l1 := (Blk.below (HB7.out) hS HB7.out.lt).cell 1
    have l2 := (Blk.below (HB7.out) hS HB7.out.lt).cell 2
    simp at l0 l1 l2
    go_simp
    rfl
  go_frame
  refine' wpTold_call _ _ _ rfl rfl (fun w' => ?_) (fun w' hS hh hs => ?_) (fun v25 h25 => ?_)
  rotate_left 2
  · go_simp
    constructor <;> rfl
  · refine (numv_any 3 w').mono ?_
    rintro e w9 ⟨rfl, hb⟩
    exact ⟨_, rfl, ⟨rfl, trivial⟩, hb⟩
  obtain rfl := h25
  go_frame
  refine wpTold_read ?_ rfl rfl (fun w' hS => ?_) ?_
  rotate_left
  · go_simp
    rfl
  go_frame
  refine wpTold_read ?_ rfl rfl (fun w' hS => ?_) ?_
  rotate_left
  · go_simp
    rfl
  go_frame
  refine wpTold_read ?_ rfl rfl (fun w' hS => ?_) ?_
  rotate_left
  · go_simp
    rfl
  go_frame
  refine wpTold_read ?_ rfl rfl (fun w' hS => ?_) ?_
  rotate_left
  · go_simp
    rfl
  go_frame
  refine wpTold_read ?_ rfl rfl (fun w' hS => ?_) ?_
  rotate_left
  · go_simp
    rfl
  go_frame
  refine wpTold_read ?_ rfl rfl (fun w' hS => ?_) ?_
  rotate_left
  · go_simp
    rfl
  go_frame
  refine wpTold_read ?_ rfl rfl (fun w' hS => ?_) ?_
  rotate_left
  · go_simp
    rfl
  go_frame
  refine wpTold_read ?_ rfl rfl (fun w' hS => ?_) ?_
  rotate_left
  · go_simp
    rfl
  go_frame
  refine wpTold_read ?_ rfl rfl (fun w' hS => ?_) ?_
  rotate_left
  · have l0 := (Blk.below (HB9.out) hS HB9.out.lt).cell 0
    have l1 := (Blk.below (HB9.out) hS HB9.out.lt).cell 1
    have l2 := (Blk.below (HB9.out) hS HB9.out.lt).cell 2
    simp at l0 l1 l2
    go_simp
    rfl
  go_frame
  refine wpTold_read ?_ rfl rfl (fun w' hS => ?_) ?_
  rotate_left
  · go_simp
    rfl
  go_frame
  refine wpTold_read ?_ rfl rfl (fun w' hS => ?_) ?_
  rotate_left
  · go_simp
    rfl
  go_frame
  refine wpTold_read ?_ rfl rfl (fun w' hS => ?_) ?_
  rotate_left
  · go_simp
    rfl
  go_frame
  refine wpTold_nil fun w3 hH => ?_
  have hup : Below w0.heap.size w0 w3 := hH.s
  have HA3 : Hid (Aw w w3 []) := ⟨HBl.out.trans (hup.mono HBl.out.size), fun _ _ h => absurd h (by simp)⟩
  have HE3 := hide (HE.out.next hup)
  clear hH hup
  go_wp2_with fail
  exact H.out _ _ ⟨rfl, rfl, rfl, trivial⟩ HA3.out HE3.out
theorem awe0 : aw 0 = .seq (cL (aw 0)) (aw 1) := by kernel_rfl
theorem awe1 : aw 1 = .seq (cL (aw 1)) (aw 2) := by kernel_rfl
theorem awe2 : aw 2 = .seq (cL (aw 2)) (aw 3) := by kernel_rfl
theorem awe3 : aw 3 = .seq (cL (aw 3)) (aw 4) := by kernel_rfl
theorem awe4 : aw 4 = .seq (cL (aw 4)) (aw 5) := by kernel_rfl
theorem awe5 : aw 5 = .seq (cL (aw 5)) (aw 6) := by kernel_rfl
theorem awe6 : aw 6 = .seq (cL (aw 6)) (aw 7) := by kernel_rfl
theorem awe7 : aw 7 = .ret := by kernel_rfl
set_option linter.unusedVariables false in
set_option maxRecDepth 1000000 in
set_option maxHeartbeats 4000000 in
theorem awake_any (w : World) (hE : Env w) : Calls Tryz.prog 13 #[] w fun e w' => e = .returned (.bool true) ∧ Below w.heap.size w w' := by
  refine calls_of_wp Tryz.func13 (c := aw 0) (by kernel_rfl) ?_
  have HA : Aw w w [] := ⟨Below.refl _ _, fun _ _ h => absurd h (by simp)⟩
  have hF : Fr 95 { tmps := #[] ++ Array.replicate (Tryz.f13.ntmps - (#[] : Array Value).size) undef, defers := [] } [] := by
    rw [Tryz.ntmps13]
    exact ⟨by simp, rfl, trivial⟩
  revert HA hF hE
  generalize ({ tmps := #[] ++ Array.replicate (Tryz.f13.ntmps - (#[] : Array Value).size) undef, defers := [] } : Act) = a
  intro hE HA hF
  rw [awe0]
  refine wp_seq (aw_0 hF HA hE ?_)
  clear hF
  intro a w0  hF HA hE
  rw [awe1]
  refine wp_seq (aw_1 hF HA hE ?_)
  clear hF
  intro a w1 g1 hF HA hE
  rw [awe2]
  refine wp_seq (aw_2 hF HA hE ?_)
  clear hF
  intro a w2  hF HA hE
  rw [awe3]
  refine wp_seq (aw_3 hF HA hE ?_)
  clear hF
  intro a w3  hF HA hE
  rw [awe4]
  refine wp_seq (aw_4 hF HA hE ?_)
  clear hF
  intro a w4 g7 hF HA hE
  rw [awe5]
  refine wp_seq (aw_5 hF HA hE ?_)
  clear hF
  intro a w5 g9 hF HA hE
  rw [awe6]
  refine wp_seq (aw_6 hF HA hE ?_)
  clear hF
  intro a w6  hF HA hE
  rw [awe7]
  refine wp_ret ?_
  obtain ⟨f, rfl, ⟨s0, _⟩, hfr⟩ := hF.open95
  rw [hfr] at s0
  rw [s0]
  go_ret
  exact ⟨rfl, HA.bel⟩
end Go.Proofs.YticljmgcgjibpaaGreatDoor
