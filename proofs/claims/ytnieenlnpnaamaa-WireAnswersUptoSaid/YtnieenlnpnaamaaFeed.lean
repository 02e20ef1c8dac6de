/-
  The walk of (*wire.Reader).Feed: the frames that are whole, what is left, whether a frame is wrong. Conditions: the reader is one that New or Copy made; sizes of at most 2^21 bytes.
-/
import Derived.Test.YtnieenlnpnaamaaFrames
namespace Go.Proofs.Ytnieenlnpnaamaa
open Go.RowKit

theorem infoF : (Try.prog.info? 42).map (fun i => (i.zero, i.size, i.bytes)) = some (some (.agg #[.int .u8 0, .slice none 0 0]), 2, 32) := by kernel_rfl
def sliceLen : Value → Nat | .slice _ n _ => n | _ => 0

/-- The reader at block R: made by New or Copy; left bytes; broken or not. -/
def Rdr (w : World) (R lo : Nat) (v : Value) (l : List UInt8) (b : Bool) : Prop :=
  Blk w R 45 #[.pointer (some ⟨R, 0, none⟩), v, .bool b] ∧ w.ownsRow lo 5 1 v l.length (l.map B8)
/-- Only block R and the row of v may have turned. -/
def Turned (w w' : World) (R : Nat) (v : Value) : Prop :=
  w'.os = w.os ∧ w'.tape = w.tape ∧ w'.output = w.output ∧ w.heap.size ≤ w'.heap.size ∧ ∀ k, k < w.heap.size → k ≠ R → v.ownBlock ≠ some k → w'.heap[k]? = w.heap[k]?
theorem Turned.below {w w' : World} {R B : Nat} {v : Value} (h : Turned w w' R v) (hB : B ≤ w.heap.size) (hR : B ≤ R) (hv : ∀ k, v.ownBlock = some k → B ≤ k) : Below B w w' :=
  ⟨h.1, h.2.1, h.2.2.1, h.2.2.2.1, fun k hk => h.2.2.2.2 k (by omega) (by omega) (fun e => by have := hv k e; omega)⟩

theorem Turned.of {w w1 w2 : World} {R : Nat} {v : Value} (hg : w.grownBy w1 v.ownBlock) (hb : Below w1.heap.size w1 w2) : Turned w w2 R v :=
  ⟨hb.os.trans hg.os, hb.tape.trans hg.tape, hb.output.trans hg.output, Nat.le_trans hg.size hb.size, fun k hk _ hv => (hb.block k (Nat.lt_of_lt_of_le hk hg.size)).trans (hg.block k hk (fun e => hv e.symm))⟩
theorem Turned.trans {w w1 w2 : World} {R : Nat} {v : Value} (h : Turned w w1 R v) (hb : Below w1.heap.size w1 w2) : Turned w w2 R v :=
  ⟨hb.os.trans h.1, hb.tape.trans h.2.1, hb.output.trans h.2.2.1, Nat.le_trans h.2.2.2.1 hb.size, fun k hk h1 h2 => (hb.block k (Nat.lt_of_lt_of_le hk h.2.2.2.1)).trans (h.2.2.2.2 k hk h1 h2)⟩
theorem Turned.put {w w1 : World} {R i : Nat} {v : Value} (h : Turned w w1 R v) (u : Value) : Turned w (w1.setCell ⟨R, i, none⟩ u) R v :=
  ⟨h.1, h.2.1, h.2.2.1, by simpa [World.setCell] using h.2.2.2.1, fun k hk h1 h2 => (Below.heap_setCell w1 ⟨R, i, none⟩ u k (by exact h1)).trans (h.2.2.2.2 k hk h1 h2)⟩

/-- Rows of different element types are different blocks. -/
theorem own_own_ne {w : World} {b1 b2 : Nat} {e1 e2 : TypeId} {s1 s2 n1 n2 : Nat} {v1 v2 : Value} {x1 x2 : List Value} (h1 : w.ownsRow b1 e1 s1 v1 n1 x1) (h2 : w.ownsRow b2 e2 s2 v2 n2 x2) (hne : e1 ≠ e2) : v1.ownBlock = none ∨ v1.ownBlock ≠ v2.ownBlock := by
  rcases h1.2 with ⟨rfl, _⟩ | ⟨g, cap, cur, rfl, _, hh, _⟩
  · exact .inl rfl
  · refine .inr fun e => ?_
    exact own_blk_ne h2 (show Blk w g e1 cur from hh) (fun e' => hne e'.symm) e.symm
theorem fr_snoc {wr w2 w3 : World} {lo : Nat} {v v3 : Value} {fs : List Fr} {bs : List Value} {f : Fr} {bv : Value} {o1 o2 : Obj} (hbl : bs.length = fs.length)
    (hrow : w2.ownsRow lo 42 2 v fs.length (frCells fs bs))
    (hbod : ∀ (i : Nat) (f : Fr) (b : Value), fs[i]? = some f → bs[i]? = some b → wr.ownsRow lo 5 1 b f.2.length (f.2.map B8) ∧ (∀ k, b.ownBlock = some k → k < wr.heap.size))
    (hb2 : Below wr.heap.size wr w2) (hown2 : w2.ownsRow lo 5 1 bv f.2.length (f.2.map B8))
    (hown3 : w3.ownsRow lo 42 2 v3 (fs.length + 1) (frCells fs bs ++ [.int .u8 (f.1.toNat : Int), bv])) (hg3 : ((w2.alloc o1).alloc o2).grownBy w3 v.ownBlock) :
    FrOwn w3 lo w3.heap.size v3 (fs ++ [f]) := by
  have keep : ∀ (b : Value) (n : Nat) (xs : List Value), w2.ownsRow lo 5 1 b n xs → w3.ownsRow lo 5 1 b n xs ∧ (∀ k, b.ownBlock = some k → k < w3.heap.size) := by
    intro b n xs h
    have h' := ((h.alloc o1).alloc o2).kept hg3 (own_own_ne ((h.alloc o1).alloc o2) ((hrow.alloc o1).alloc o2) (by decide))
    exact ⟨h', fun k hk => (h'.lt k hk).2⟩
  refine ⟨bs ++ [bv], by simp [hbl], ?_, fun k hk => (hown3.lt k hk).2, ?_⟩
  · rw [frCells_append fs bs f bv hbl, List.length_append]
    exact hown3
  · intro i f' b' hf hb
    by_cases hi : i < fs.length
    · rw [List.getElem?_append_left hi] at hf
      rw [List.getElem?_append_left (by omega)] at hb
      exact keep _ _ _ (own_below (hbod i f' b' hf hb).1 hb2)
    · have hi' : i = fs.length := by
        rcases Nat.lt_or_ge i (fs ++ [f]).length with h | h
        · simp at h; omega
        · rw [List.getElem?_eq_none h] at hf; cases hf
      subst hi'
      have e1 : (fs ++ [f])[fs.length]? = some f := by simp
      have e2 : (bs ++ [bv])[fs.length]? = some bv := by rw [← hbl]; simp
      rw [e1] at hf
      rw [e2] at hb
      injection hf with hf
      injection hb with hb
      subst hf hb
      exact keep _ _ _ hown2

def FeedPost (w : World) (R : Nat) (v : Value) (l : List UInt8) (e : Ending) (w' : World) : Prop :=
  ∃ vo v' mid, e = .returned (.tuple #[vo, .int .i64 (if (Wire.cut l).2.2 = true then 390 else 0)]) ∧ w.heap.size ≤ mid ∧ FrOwn w' w.heap.size mid vo (Wire.cut l).1 ∧ Rdr w' R mid v' (Wire.cut l).2.1 (Wire.cut l).2.2 ∧ Turned w w' R v

set_option maxHeartbeats 1600000 in
theorem feed_ok (R base : Nat) (v : Value) (l0 : List UInt8) (A : Option Addr) (n c : Nat) (b : List UInt8) (w : World) (hR : Rdr w R base v l0 false) (hb : Rb w w.heap.size A n b) (hn : l0.length + n ≤ 2097152) (hbase : base ≤ w.heap.size) :
    Calls Try.prog 9 #[.pointer (some ⟨R, 0, none⟩), .slice A n c] w (FeedPost w R v (l0 ++ b)) := by
  obtain ⟨hblk, hown⟩ := hR
  have h1 : w.cell? ⟨R, 1, none⟩ = some v := hblk.cell 1
  have h2 : w.cell? ⟨R, 2, none⟩ = some (.bool false) := hblk.cell 2
  have hRl := hblk.lt
  have HK := hide hblk
  have HO := hide hown
  have HL := hide hb
  clear hblk hown hb
  obtain ⟨Av, cv, rfl⟩ := own_sl HO.out
  go_enter Try.func9, Try.ntmps9
  go_wp2_with fail
  refine (made_yes R _ false _ HK.out).mono ?_
  rintro e w' ⟨rfl, rfl⟩
  go_wp2_with (at_builtin; refine wpList_app _ bt rfl (.tmp 21) (.tmp 22) rfl base _ _ l0 rfl HO.out _ A n c b rfl HL.out (by omega) hbase ?_; intro v1 w1 hown1 hb1 hg1; have HO1 : Hid (w1.ownsRow base 5 1 v1 (l0.length + n) ((l0 ++ b).map B8)) := (by first | exact hown1 | (rw [List.map_append]; exact hown1)); have HG1 := hide hg1; have HK1 := hide (HK.out.grown hg1 (fun e => own_blk_ne HO.out HK.out (by decide) e.symm)); have hsz1 := hg1.size; clear hown1 hb1 hg1)
  obtain ⟨T, hT⟩ : ∃ T, T = l0 ++ b := ⟨_, rfl⟩
  have hTl : T.length = l0.length + n := by rw [hT, List.length_append, HL.out.len]
  rw [← hT] at HO1
  rw [← hT]
  clear hT h1 h2
  have h1 := HK1.out.cell 1
  have hTR : Hid (Rb w1 w1.heap.size (match v1 with | .slice a _ _ => a | _ => none) T.length T) := by
    obtain ⟨A1, c1, hv⟩ := own_sl HO1.out
    subst hv
    rw [hTl]
    exact Rb.own HO1.out
  obtain ⟨A1, c1, rfl, _, hc1, hc1m⟩ := own_form HO1.out
  unfold maxLen at hc1m
  obtain ⟨iF, hiF, hzF0, hzF1, hzF2⟩ := info_parts infoF
  rw [← hTl]
  rw [← hTl] at hc1
  have hTm : T.length ≤ 2097152 := by omega
  have HTl := hide hTl
  clear h1 hTl
  go_wp2_with fail
  go_loopw [6, 7] (fun s o wr => ∃ (A' : Option Addr) (c' : Nat) (rest : List UInt8) (fs : List Fr), s = .slice A' rest.length c' ∧ rest.length ≤ c' ∧ c' ≤ 9223372036854775807 ∧ rest.length ≤ T.length ∧ Rb wr w1.heap.size A' rest.length rest ∧ FrOwn wr w1.heap.size wr.heap.size o fs ∧ 5 * fs.length + rest.length ≤ T.length ∧ Hid (Wire.cut T = (fs ++ (Wire.cut rest).1, (Wire.cut rest).2)) ∧ Below w1.heap.size w1 wr) (fun s _ _ => sliceLen s)
  case atStart => exact ⟨A1, c1, T, [], rfl, hc1, by omega, Nat.le_refl _, hTR.out, FrOwn.nil _ _ _, by simp, by simp [Hid], Below.refl _ _⟩
  case round =>
    obtain ⟨A', c', rest, fs, rfl, hrc, hcm, hrT, hRb, hFr, hfl, HC, hbel⟩ := hrel
    have HR := hide hRb
    have HF := hide hFr
    have HB := hide hbel
    have hsz := hbel.size
    clear hRb hFr hbel
    go_wp2_with fail
    refine (first_any A' rest.length c' rest _ (HR.out.more hsz) hrc (by unfold maxLen; omega)).mono ?_
    intro e w2 hpost
    rcases hpost with ⟨hf, rfl, hb2⟩ | ⟨hf, rfl, hb2⟩ | ⟨m, bv, hf, rfl, hown2, hb2⟩
    · have HB2 := hide hb2
      have HBB := hide (grow0 HB.out hsz hb2)
      have HK2 := hide (HK1.out.below HBB.out (by omega))
      have hR2 : R < w2.heap.size := HK2.out.lt
      have hc1' : w2.cell? ⟨R, 1, none⟩ = some _ := HK2.out.cell 1
      have hc2' : w2.cell? ⟨R, 2, none⟩ = some (.bool false) := HK2.out.cell 2
      have hf1' := HK2.out.frozen 1
      have hf2' := HK2.out.frozen 2
      have hcut := HC.out
      rw [Wire.cut_none hf, List.append_nil] at hcut
      have HCut := hide hcut
      obtain ⟨Ao, co, ho⟩ := HF.out.form
      subst ho
      clear hb2 hcut hf HC
      go_wp2_with fail
      go_ret2
      refine ⟨.slice Ao fs.length co, .slice none 0 0, w2.heap.size, ?_, ?_, ?_, ?_, ?_⟩
      · rw [HCut.out]; rfl
      · have := HB2.out.size; omega
      · rw [HCut.out]
        have h2 := HF.out.below HB2.out (Nat.le_refl _)
        refine ((h2.agree fun k h1 h2' => ?_).more HB2.out.size).low hsz1
        rw [Below.heap_alloc _ _ _ (by have := HB2.out.size; simp [World.setCell]; omega), Below.heap_setCell _ _ _ _ (by show k ≠ R; omega), Below.heap_setCell _ _ _ _ (by show k ≠ R; omega)]
      · rw [HCut.out]
        exact ⟨((HK2.out.put 1 _).put 2 _).alloc _, own_nil _ _ _ _⟩
      · exact (((Turned.of HG1.out HBB.out).put _).put _).trans ((Below.refl _ _).alloc (Nat.le_refl _) _)
    · have HB2 := hide hb2
      have HBB := hide (grow0 HB.out hsz hb2)
      have HK2 := hide (HK1.out.below HBB.out (by omega))
      have hR2 : R < w2.heap.size := HK2.out.lt
      have hcut := HC.out
      rw [Wire.cut_wait hf, List.append_nil] at hcut
      have HCut := hide hcut
      obtain ⟨Ao, co, ho⟩ := HF.out.form
      subst ho
      clear hb2 hcut hf HC
      have HR3 := hide fun o => ((HR.out.below HB2.out hsz).more (show w1.heap.size ≤ w2.heap.size by have := HB2.out.size; omega)).keep (w' := w2.alloc o) fun p hp => World.cell?_alloc_lt w2 o p hp
      go_wp2_with fail
      refine (clone_any A' rest.length c' rest _ ((HR3.out _).more (by simp)) (by omega)).mono ?_
      rintro e w3 ⟨v3, rfl, hown3, hb3⟩
      have HO3 := hide hown3
      have HB3 := hide hb3
      clear hown3 hb3
      have HK3 := hide ((HK2.out.alloc _).below HB3.out (by simp; omega))
      have hc1' : w3.cell? ⟨R, 1, none⟩ = some _ := HK3.out.cell 1
      have hf1' := HK3.out.frozen 1
      obtain ⟨A3, c3, rfl⟩ := own_sl HO3.out
      go_wp2_with fail
      go_ret2
      have hs2 := HB2.out.size
      have hs3 := HB3.out.size
      rw [World.size_alloc] at hs3
      refine ⟨.slice Ao fs.length co, .slice A3 rest.length c3, w2.heap.size + 1, ?_, ?_, ?_, ?_, ?_⟩
      · rw [HCut.out]; rfl
      · omega
      · rw [HCut.out]
        have h2 := HF.out.below HB2.out (Nat.le_refl _)
        refine ((h2.agree fun k h1 h2' => ?_).more (by omega)).low hsz1
        rw [Below.heap_setCell _ _ _ _ (by show k ≠ R; omega), HB3.out.block k (by simp; omega), Below.heap_alloc _ _ _ (by omega)]
      · rw [HCut.out]
        refine ⟨HK3.out.put 1 _, ?_⟩
        have h3 := HO3.out
        rw [World.size_alloc] at h3
        exact ownsRow_setCell_below h3 (by show R < _; omega) _
      · exact ((((Turned.of HG1.out HBB.out).trans ((Below.refl _ _).alloc (Nat.le_refl _) _)).trans HB3.out).put _)
    · have HB2 := hide hb2
      have HO2 := hide hown2
      have HBB := hide (grow0 HB.out hsz hb2)
      obtain ⟨e1, e2, e3, e4, e5⟩ := Wire.firstN_some rest m hf
      have hcut := HC.out
      rw [Wire.cut_more hf] at hcut
      have HCut := hide hcut
      obtain ⟨Ao, co, ho⟩ := HF.out.form
      subst ho
      have hml : m + 1 ≤ rest.length := by omega
      have hm5 : 5 ≤ m + 1 := by omega
      clear hb2 hown2 hcut hf HC e1 e2 e3 e4 e5
      have hs2 := HB2.out.size
      obtain ⟨bs, hbl, hrow, hrlt, hbod⟩ := HF.out
      have HRow := hide (own_below hrow HB2.out)
      have Hbl := hide hbl
      have Hbod := hide hbod
      have Hrlt := hide hrlt
      clear hbl hrow hrlt hbod
      have hml0 : ((((m + 1 : Nat) : Int)) == 0) = false := by simp; omega
      obtain ⟨Ab, cb, rfl⟩ := own_sl HO2.out
      have HRc := hide ((HR.out.below HB2.out hsz).cut hml hrc)
      have HNews : Hid (∀ u ∈ [Value.int .u8 ((Wire.frame rest).1.toNat : Int), .slice Ab (Wire.frame rest).2.length cb], u.oneCell' = true) := by
        intro u hu
        simp at hu
        rcases hu with rfl | rfl <;> rfl
      have HLit := hide fun o => Rd.litNAt (w2.alloc o) 42 2 1 [Value.int .u8 ((Wire.frame rest).1.toNat : Int), .slice Ab (Wire.frame rest).2.length cb] rfl (w2.heap.size + 1) (by simp)
      obtain ⟨bA, oA, rfl, _, _⟩ := HR.out.all (by omega)
      by_cases hcc : c' = m + 1
      · subst hcc
        have hRc := HRc.out
        rw [if_pos rfl] at hRc
        have HRc2 := hide hRc
        clear hRc HRc
        go_wp2_with (at_builtin; refine wpList_append_rd _ rfl (.tmp 47) (.tmp 49) _ rfl w1.heap.size 42 iF _ 2 32 Try.underlying26 hiF hzF0 hzF1 hzF2 rfl (by omega) _ fs.length (frCells fs bs) rfl ((HRow.out.alloc _).alloc _) _ _ 1 1 _ rfl (HLit.out _) HNews.out (by unfold maxLen; omega) (by omega) ?_ ?_; (simp; omega); intro v3 w3 hown3 hb3 hg3; have HO3 := hide hown3; have HB3 := hide hb3; have HG3 := hide hg3; clear hown3 hb3 hg3)
        go_roundw
        case rel =>
          have hbw : Below w1.heap.size w2 w3 := (((Below.refl _ _).alloc (by omega) _).alloc (by simp; omega) _).trans HB3.out
          refine ⟨some ⟨bA, oA, none⟩, 0, rest.drop (m + 1), fs ++ [Wire.frame rest], by rw [List.length_drop, show rest.length - (m + 1) = 0 by omega], by rw [List.length_drop]; omega, by omega, by rw [List.length_drop]; omega, ?_, ?_, ?_, ?_, HBB.out.trans hbw⟩
          · rw [List.length_drop]
            exact HRc2.out.below hbw (Nat.le_refl _)
          · exact fr_snoc Hbl.out HRow.out Hbod.out HB2.out (own_base HO2.out hsz) HO3.out HG3.out
          · rw [List.length_drop, List.length_append]
            simp only [List.length_cons, List.length_nil]
            omega
          · show Wire.cut T = _
            rw [HCut.out, List.append_assoc]
            rfl
        case measure => simp [sliceLen]; omega
      · have hRc := HRc.out
        rw [if_neg hcc, Option.map_some, addr_add] at hRc
        have HRc2 := hide hRc
        clear hRc HRc
        go_wp2_with (at_builtin; refine wpList_append_rd _ rfl (.tmp 47) (.tmp 49) _ rfl w1.heap.size 42 iF _ 2 32 Try.underlying26 hiF hzF0 hzF1 hzF2 rfl (by omega) _ fs.length (frCells fs bs) rfl ((HRow.out.alloc _).alloc _) _ _ 1 1 _ rfl (HLit.out _) HNews.out (by unfold maxLen; omega) (by omega) ?_ ?_; (simp; omega); intro v3 w3 hown3 hb3 hg3; have HO3 := hide hown3; have HB3 := hide hb3; have HG3 := hide hg3; clear hown3 hb3 hg3)
        go_roundw
        case rel =>
          have hbw : Below w1.heap.size w2 w3 := (((Below.refl _ _).alloc (by omega) _).alloc (by simp; omega) _).trans HB3.out
          refine ⟨some ⟨bA, oA + (m + 1), none⟩, c' - (m + 1), rest.drop (m + 1), fs ++ [Wire.frame rest], by rw [List.length_drop], by rw [List.length_drop]; omega, by omega, by rw [List.length_drop]; omega, ?_, ?_, ?_, ?_, HBB.out.trans hbw⟩
          · rw [List.length_drop]
            exact HRc2.out.below hbw (Nat.le_refl _)
          · exact fr_snoc Hbl.out HRow.out Hbod.out HB2.out (own_base HO2.out hsz) HO3.out HG3.out
          · rw [List.length_drop, List.length_append]
            simp only [List.length_cons, List.length_nil]
            omega
          · show Wire.cut T = _
            rw [HCut.out, List.append_assoc]
            rfl
        case measure => simp [sliceLen]; omega
end Go.Proofs.Ytnieenlnpnaamaa
