/-
  The walk of chanceryref29.Cut: it is Wire.cut. Conditions: at most 2^21 bytes.
-/
import Derived.Test.YtnieenlnpnaamaaFeeds
import Derived.Deep.RegionHeld3
namespace Go.Proofs.Ytnieenlnpnaamaa
open Go.RowKit

theorem kind_any (k : UInt8) (w : World) : Calls Try.prog 32 #[.int .u8 (k.toNat : Int)] w fun e w' => e = .returned (.bool (Wire.kindOk k)) ∧ w = w' := by
  have hk := k.toNat_lt
  by_cases h : 1 ≤ k.toNat
  · go_enter Try.func32, Try.ntmps32
    go_wp2
    all_goals
      go_ret
      refine ⟨?_, rfl⟩
      unfold Wire.kindOk
      exact congrArg (fun b => Ending.returned (.bool b)) (by rw [Bool.eq_iff_iff]; simp; omega)
  · go_enter Try.func32, Try.ntmps32
    go_wp2
    all_goals
      go_ret
      refine ⟨?_, rfl⟩
      unfold Wire.kindOk
      exact congrArg (fun b => Ending.returned (.bool b)) (by rw [Bool.eq_iff_iff]; simp; omega)

theorem Rb.atS {w : World} {B b off n k : Nat} {l : List UInt8} (h : Rb w B (some ⟨b, off, none⟩) n l) (hk : k < n) : ∃ c, l.getD k 0 = c ∧ w.cell? ⟨b, off + k, none⟩ = some (.int .u8 (c.toNat : Int)) := by
  obtain ⟨b', off', c, he, _, h1, h2⟩ := h.at hk
  injection he with he
  injection he with e1 e2
  subst e1 e2
  exact ⟨c, by simp [List.getD, h1], h2⟩

theorem fr_snocG {wr w2 w2' w3 : World} {lo : Nat} {v v3 : Value} {fs : List Fr} {bs : List Value} {f : Fr} {bv : Value} (hbl : bs.length = fs.length)
    (hrow : w2.ownsRow lo 42 2 v fs.length (frCells fs bs))
    (hbod : ∀ (i : Nat) (f : Fr) (b : Value), fs[i]? = some f → bs[i]? = some b → wr.ownsRow lo 5 1 b f.2.length (f.2.map B8) ∧ (∀ k, b.ownBlock = some k → k < wr.heap.size))
    (hb2 : Below wr.heap.size wr w2) (hown2 : w2.ownsRow lo 5 1 bv f.2.length (f.2.map B8))
    (hown3 : w3.ownsRow lo 42 2 v3 (fs.length + 1) (frCells fs bs ++ [.int .u8 (f.1.toNat : Int), bv])) (hb2' : Below w2.heap.size w2 w2') (hg3 : w2'.grownBy w3 v.ownBlock) :
    FrOwn w3 lo w3.heap.size v3 (fs ++ [f]) := by
  have keep : ∀ (b : Value) (n : Nat) (xs : List Value), w2.ownsRow lo 5 1 b n xs → w3.ownsRow lo 5 1 b n xs ∧ (∀ k, b.ownBlock = some k → k < w3.heap.size) := by
    intro b n xs h
    have h' := (own_below h hb2').kept hg3 (own_own_ne (own_below h hb2') (own_below hrow hb2') (by decide))
    exact ⟨h', fun k hk => (h'.lt k hk).2⟩
  refine ⟨bs ++ [bv], by simp [hbl], ?_, fun k hk => (hown3.lt k hk).2, ?_⟩
  · rw [frCells_append fs bs f bv hbl, List.length_append]
    exact hown3
  · intro i f' b' hf hb
    by_cases hi : i < fs.length
    · rw [List.getElem?_append_left hi] at hf
      rw [List.getElem?_append_left (by omega)] at hb
      exact keep _ _ _ (own_below (hbod i f' b' hf hb).1 hb2)
    · have hi' : i = fs.length := by
        rcases Nat.lt_or_ge i (fs ++ [f]).length with h | h
        · simp at h; omega
        · rw [List.getElem?_eq_none h] at hf; cases hf
      subst hi'
      have e1 : (fs ++ [f])[fs.length]? = some f := by simp
      have e2 : (bs ++ [bv])[fs.length]? = some bv := by rw [← hbl]; simp
      rw [e1] at hf
      rw [e2] at hb
      injection hf with hf
      injection hb with hb
      subst hf hb
      exact keep _ _ _ hown2

/-- A' lies in the block of A. -/
def SB (A A' : Option Addr) : Prop := ∀ a, A' = some a → A.map Addr.block = some a.block
theorem SB.nil (A : Option Addr) : SB A none := fun _ h => by cases h
theorem SB.refl (A : Option Addr) : SB A A := fun a h => by rw [h]; rfl
theorem SB.to {A : Option Addr} {b off off' : Nat} (h : SB A (some ⟨b, off, none⟩)) : SB A (some ⟨b, off', none⟩) := fun a e => by
  injection e with e
  subst e
  exact h ⟨b, off, none⟩ rfl
def CutPost (w : World) (A : Option Addr) (r : List Fr × List UInt8 × Bool) (e : Ending) (w' : World) : Prop :=
  ∃ vo Ar cr, e = .returned (.tuple #[vo, .slice Ar r.2.1.length cr, .bool r.2.2]) ∧ r.2.1.length ≤ cr ∧ cr ≤ maxLen ∧ FrOwn w' w.heap.size w'.heap.size vo r.1 ∧ Rb w' w.heap.size Ar r.2.1.length r.2.1 ∧ Below w.heap.size w w' ∧ SB A Ar
set_option maxRecDepth 8000 in
set_option maxHeartbeats 1600000 in
theorem cut_any (A : Option Addr) (n c : Nat) (l : List UInt8) (w : World) (hl : Rb w w.heap.size A n l) (hnc : n ≤ c) (hc : c ≤ maxLen) (hn : n ≤ 2097152) :
    Calls Try.prog 18 #[.slice A n c] w (CutPost w A (Wire.cut l)) := by
  unfold maxLen at hc
  have HL := hide hl
  have hln := hl.len
  clear hl
  obtain ⟨iF, hiF, hzF0, hzF1, hzF2⟩ := info_parts infoF
  subst hln
  go_enter Try.func18, Try.ntmps18
  go_wp2_with fail
  go_loopw [0, 5] (fun s o wr => ∃ (A' : Option Addr) (c' : Nat) (rest : List UInt8) (fs : List Fr), s = .slice A' rest.length c' ∧ rest.length ≤ c' ∧ c' ≤ 9223372036854775807 ∧ rest.length ≤ l.length ∧ Rb wr w.heap.size A' rest.length rest ∧ FrOwn wr w.heap.size wr.heap.size o fs ∧ 5 * fs.length + rest.length ≤ l.length ∧ Hid (Wire.cut l = (fs ++ (Wire.cut rest).1, (Wire.cut rest).2)) ∧ Below w.heap.size w wr ∧ SB A A') (fun s _ _ => sliceLen s)
  case atStart => exact ⟨A, c, l, [], rfl, hnc, hc, Nat.le_refl _, HL.out, FrOwn.nil _ _ _, by simp, by simp [Hid], Below.refl _ _, SB.refl _⟩
  case round =>
    obtain ⟨A', c', rest, fs, rfl, hrc, hcm, hrT, hRb, hFr, hfl, HC, hbel, HSB⟩ := hrel
    have HR := hide hRb
    have HF := hide hFr
    have HB := hide hbel
    have hsz := hbel.size
    clear hRb hFr hbel
    by_cases h4 : rest.length < 4
    · have hf : Wire.firstN rest = some 0 := by unfold Wire.firstN; rw [if_pos h4]
      have hcut := HC.out
      rw [Wire.cut_wait hf, List.append_nil] at hcut
      have HCut := hide hcut
      obtain ⟨Ao, co, ho⟩ := HF.out.form
      subst ho
      clear hcut hf HC
      go_wp2_with fail
      refine bodyPost_ret (v := .tuple #[.slice Ao fs.length co, .slice A' rest.length c', .bool false]) (by simp [results, Try.results18, go_sem]) rfl ?_
      rw [HCut.out]
      exact ⟨_, _, _, rfl, hrc, hcm, HF.out, HR.out, HB.out, HSB⟩
    · obtain ⟨b, off, rfl, hb, _⟩ := HR.out.all (by omega)
      obtain ⟨x0, e0, h0⟩ := HR.out.atS (show 0 < rest.length by omega)
      obtain ⟨x1, e1, h1⟩ := HR.out.atS (show 1 < rest.length by omega)
      obtain ⟨x2, e2, h2⟩ := HR.out.atS (show 2 < rest.length by omega)
      obtain ⟨x3, e3, h3⟩ := HR.out.atS (show 3 < rest.length by omega)
      have b0 := x0.toNat_lt
      have b1 := x1.toNat_lt
      have b2 := x2.toNat_lt
      have b3 := x3.toNat_lt
      obtain ⟨N, hN⟩ : ∃ N, N = Wire.be4 rest := ⟨_, rfl⟩
      have HE : Hid ((x0.toNat : Int) * 16777216 + x1.toNat * 65536 + x2.toNat * 256 + x3.toNat = (N : Int)) := by
        show _ = (N : Int)
        rw [hN]
        unfold Wire.be4
        rw [e0, e1, e2, e3]
        omega
      have hFN : Wire.firstN rest = (if N < 1 ∨ 8192 < N then none else if rest.length < 5 then some 0 else if Wire.kindOk (rest.getD 4 0) = false then none else if rest.length < 4 + N then some 0 else some (4 + N)) := by
        rw [hN]
        unfold Wire.firstN
        rw [if_neg h4]
      have HFN := hide hFN
      have HFr2 : Hid (Wire.frame rest = (rest.getD 4 0, (rest.drop 5).take (N - 1))) := by rw [hN]; rfl
      clear hFN hN e0 e1 e2 e3
      rw [Nat.add_zero] at h0
      have hn0 : (0 : Int) < (rest.length : Int) := by omega
      have hn1 : (1 : Int) < (rest.length : Int) := by omega
      have hn2 : (2 : Int) < (rest.length : Int) := by omega
      have hn3 : (3 : Int) < (rest.length : Int) := by omega
      go_wp2_with fail
      go_quiet (fail)
      rw [HE.out]
      clear h0 h1 h2 h3 b0 b1 b2 b3 hn0 hn1 hn2 hn3 HE
      obtain ⟨y0, hy0⟩ : ∃ y0, y0 = (x0.toNat : Int) * 16777216 := ⟨_, rfl⟩
      rw [← hy0]
      obtain ⟨y1, hy1⟩ : ∃ y1, y1 = (x1.toNat : Int) * 65536 := ⟨_, rfl⟩
      rw [← hy1]
      clear hy0 hy1
      have HBq := hide (below_drewN HB.out nq)
      have HRq := hide (HR.out.drewN nq)
      obtain ⟨Ao, co, ho⟩ := HF.out.form
      subst ho
      have HFq : Hid (FrOwn (wr.drewN nq) w.heap.size (wr.drewN nq).heap.size (.slice Ao fs.length co) fs) := HF.out.agree (fun _ _ _ => rfl)
      obtain ⟨wq, hwq⟩ : ∃ wq, wq = wr.drewN nq := ⟨_, rfl⟩
      rw [← hwq] at HBq HRq HFq
      rw [← hwq]
      have hszq := HBq.out.size
      clear hwq HR HF HB hsz
      by_cases hbad : N < 1 ∨ 8192 < N
      · have hf := HFN.out
        rw [if_pos hbad] at hf
        have hcut := HC.out
        rw [Wire.cut_none hf, List.append_nil] at hcut
        have HCut := hide hcut
        clear hcut hf HC
        have hret : CutPost w A (Wire.cut l) (.returned (.tuple #[.slice Ao fs.length co, .slice none 0 0, .bool true])) wq := by
          rw [HCut.out]
          exact ⟨_, none, 0, rfl, Nat.le_refl _, Nat.zero_le _, HFq.out, Rb.nil, HBq.out, SB.nil _⟩
        have HRet := hide hret
        clear hret
        by_cases hb1 : (N : Int) < 1
        · have t1 : decide ((N : Int) < 1) = true := by simpa using hb1
          go_wp2_with fail
          exact bodyPost_ret (v := .tuple #[.slice Ao fs.length co, .slice none 0 0, .bool true]) (by simp [results, Try.results18, go_sem]) rfl HRet.out
        · have t1 : decide ((N : Int) < 1) = false := by simpa using hb1
          have t2 : (8192 : Int) < (N : Int) := by omega
          have t3 : decide ((8192 : Int) < (N : Int)) = true := by simpa using t2
          go_wp2_with fail
          exact bodyPost_ret (v := .tuple #[.slice Ao fs.length co, .slice none 0 0, .bool true]) (by simp [results, Try.results18, go_sem]) rfl HRet.out
      · have hN1 : 1 ≤ N := by omega
        have hN2 : N ≤ 8192 := by omega
        have HBad := hide hbad
        clear hbad
        have u1 : ¬ ((N : Int) < 1) := by omega
        have t1 : decide ((N : Int) < 1) = false := by simpa using u1
        have u2 : ¬ ((8192 : Int) < (N : Int)) := by omega
        have t2 : decide ((8192 : Int) < (N : Int)) = false := by simpa using u2
        by_cases h5 : rest.length < 5
        · have hf := HFN.out
          rw [if_neg HBad.out, if_pos h5] at hf
          have hcut := HC.out
          rw [Wire.cut_wait hf, List.append_nil] at hcut
          have HCut := hide hcut
          clear hcut hf HC
          have hret : CutPost w A (Wire.cut l) (.returned (.tuple #[.slice Ao fs.length co, .slice (some ⟨b, off, none⟩) rest.length c', .bool false])) wq := by
            rw [HCut.out]
            exact ⟨_, _, _, rfl, hrc, hcm, HFq.out, HRq.out, HBq.out, HSB⟩
          have HRet := hide hret
          clear hret
          have u3 : ¬ ((5 : Int) ≤ (rest.length : Int)) := by omega
          have t3 : decide ((5 : Int) ≤ (rest.length : Int)) = false := by simpa using u3
          have u4 : (rest.length : Int) < 4 + (N : Int) := by omega
          have t4 : decide ((rest.length : Int) < 4 + (N : Int)) = true := by simpa using u4
          go_wp2_with fail
          exact bodyPost_ret (v := .tuple #[.slice Ao fs.length co, .slice (some ⟨b, off, none⟩) rest.length c', .bool false]) (by simp [results, Try.results18, go_sem]) rfl HRet.out
        · obtain ⟨kd, hkd, h4c⟩ := HRq.out.atS (show 4 < rest.length by omega)
          rw [hkd] at HFN HFr2
          clear hkd
          have u3 : (5 : Int) ≤ (rest.length : Int) := by omega
          have t3 : decide ((5 : Int) ≤ (rest.length : Int)) = true := by simpa using u3
          go_wp2_with fail
          refine (kind_any kd _).mono ?_
          rintro e w' ⟨rfl, rfl⟩
          by_cases hk : Wire.kindOk kd = false
          · have hf := HFN.out
            rw [if_neg HBad.out, if_neg h5, if_pos hk] at hf
            have hcut := HC.out
            rw [Wire.cut_none hf, List.append_nil] at hcut
            have hret : CutPost w A (Wire.cut l) (.returned (.tuple #[.slice Ao fs.length co, .slice none 0 0, .bool true])) wq := by
              rw [hcut]
              exact ⟨_, none, 0, rfl, Nat.le_refl _, Nat.zero_le _, HFq.out, Rb.nil, HBq.out, SB.nil _⟩
            have HRet := hide hret
            clear hret hcut hf HC
            go_wp2_with fail
            exact bodyPost_ret (v := .tuple #[.slice Ao fs.length co, .slice none 0 0, .bool true]) (by simp [results, Try.results18, go_sem]) rfl HRet.out
          · have hkt : Wire.kindOk kd = true := by simpa using hk
            have HK := hide hk
            clear hk
            by_cases hfit : rest.length < 4 + N
            · have hf := HFN.out
              rw [if_neg HBad.out, if_neg h5, if_neg HK.out, if_pos hfit] at hf
              have hcut := HC.out
              rw [Wire.cut_wait hf, List.append_nil] at hcut
              have hret : CutPost w A (Wire.cut l) (.returned (.tuple #[.slice Ao fs.length co, .slice (some ⟨b, off, none⟩) rest.length c', .bool false])) wq := by
                rw [hcut]
                exact ⟨_, _, _, rfl, hrc, hcm, HFq.out, HRq.out, HBq.out, HSB⟩
              have HRet := hide hret
              clear hret hcut hf HC
              have u4 : (rest.length : Int) < 4 + (N : Int) := by omega
              have t4 : decide ((rest.length : Int) < 4 + (N : Int)) = true := by simpa using u4
              go_wp2_with fail
              exact bodyPost_ret (v := .tuple #[.slice Ao fs.length co, .slice (some ⟨b, off, none⟩) rest.length c', .bool false]) (by simp [results, Try.results18, go_sem]) rfl HRet.out
            · have hf := HFN.out
              rw [if_neg HBad.out, if_neg h5, if_neg HK.out, if_neg hfit, show 4 + N = 3 + N + 1 by omega] at hf
              have hcut := HC.out
              rw [Wire.cut_more hf, HFr2.out] at hcut
              have HCut := hide hcut
              clear hcut hf HC HFr2 HFN
              have u4 : ¬ ((rest.length : Int) < 4 + (N : Int)) := by omega
              have t4 : decide ((rest.length : Int) < 4 + (N : Int)) = false := by simpa using u4
              have HS := hide (HRq.out.sub (i := 5) (j := 4 + N) (cap := c') (by omega) (by omega) hrc)
              have HD := hide (HRq.out.cut (k := 4 + N) (cap := c') (by omega) hrc)
              have u6 : (0 : Int) ≤ 4 + (N : Int) := by omega
              have u7 : (5 : Int) ≤ 4 + (N : Int) := by omega
              have u8 : (4 : Int) + (N : Int) ≤ (c' : Int) := by omega
              have u9 : (4 : Int) < (rest.length : Int) := by omega
              have u10 : (4 : Int) + (N : Int) ≤ (rest.length : Int) := by omega
              have hbq : b < wq.heap.size := by omega
              obtain ⟨bs, hbl, hrow, hrlt, hbod⟩ := HFq.out
              have HRow := hide hrow
              have Hbl := hide hbl
              have Hbod := hide hbod
              clear hbl hrow hrlt hbod
              have HLit := hide fun (w2 : World) (Ab : Option Addr) (cb : Nat) => Rd.litNAt w2 42 2 1 [Value.int .u8 (kd.toNat : Int), .slice Ab (4 + N - 5) cb] rfl w2.heap.size rfl
              have HNews : Hid (∀ (Ab : Option Addr) (cb : Nat), ∀ u ∈ [Value.int .u8 (kd.toNat : Int), .slice Ab (4 + N - 5) cb], u.oneCell' = true) := by
                intro Ab cb u hu
                simp at hu
                rcases hu with rfl | rfl <;> rfl
              go_wp2_with fail
              by_cases hc5 : c' = 5
              · have HN1 : Hid (N = 1) := by show N = 1; omega
                subst hc5
                have u11 : (4 : Int) + (N : Int) ≤ 5 := by omega
                have hS := HS.out
                rw [if_pos rfl] at hS
                have HS2 := hide (hS.more hszq)
                clear hS HS
                have v1 : IntKind.i64.wrap (4 + (N : Int)) = 4 + (N : Int) := IntWalk.i64_in _ (by omega)
                have v2 : (4 + (N : Int)).toNat = 4 + N := by omega
                go_region_held3 (fun w' => w'.cell? ⟨b, off + 4, none⟩ = some (.int .u8 (kd.toNat : Int))) (first | (exact (HB3.out.cell (p := ⟨b, off + 4, none⟩) hb).trans ((World.cell?_alloc_lt w2 _ ⟨b, off + 4, none⟩ (Nat.lt_of_lt_of_le hbq HB2.out.size)).trans ((HB2.out.cell (p := ⟨b, off + 4, none⟩) hbq).trans h4c))) | go_keep | (rw [HB2.out.cell (p := ⟨b, off + 4, none⟩) (by exact hbq)]; exact h4c)) ((first | (refine step_append_rd _ rfl (.tmp 56) (.tmp 66) 26 rfl w.heap.size 42 iF (Value.agg #[Value.int .u8 0, Value.slice none 0 0]) 2 32 Try.underlying26 hiF hzF0 hzF1 hzF2 rfl (by omega) (.slice Ao fs.length co) fs.length (frCells fs bs) (by simp [Act.eval]) (by exact (own_below HRow.out HB2.out).alloc _) (w2.heap.size + 1) (some ⟨w2.heap.size, 0, none⟩) 1 1 [Value.int .u8 (kd.toNat : Int), .slice Ab (4 + N - 5) cb] (by simp [Act.eval]) (by exact HLit.out w2 Ab cb) (HNews.out Ab cb) (by unfold maxLen; omega) (by omega) (by simp; have := HB2.out.size; omega) ?_; intro v3 w3 hown3 hb3 hg3; have HO3 := hide hown3; have HB3 := hide hb3; have HG3 := hide hg3; clear hown3 hb3 hg3) | (go_at_call 10; refine (copyBytes_any _ _ _ _ _ (by exact HS2.out.keep fun _ _ => rfl) (by omega)).mono ?_; rintro e w2 ⟨vb, rfl, hown2, hb2⟩; obtain ⟨Ab, cb, rfl⟩ := own_sl hown2; have HO2 := hide hown2; have HB2 : Hid (Below wq.heap.size wq w2) := ⟨hb2.os, hb2.tape, hb2.output, hb2.size, hb2.block⟩; clear hown2 hb2)))
                have HFS : Hid (FrOwn w3 w.heap.size w3.heap.size v3 (fs ++ [(kd, (rest.drop 5).take (N - 1))])) := by
                  refine fr_snocG Hbl.out (own_below HRow.out HB2.out) Hbod.out HB2.out ?_ HO3.out (w2' := w2.alloc _) ((Below.refl _ _).alloc (Nat.le_refl _) _) HG3.out
                  have := own_base HO2.out hszq
                  rw [show (List.take (4 + N) rest).drop 5 = (rest.drop 5).take (N - 1) by rw [List.drop_take]; congr 1; omega] at this
                  show w2.ownsRow w.heap.size 5 1 (Value.slice Ab (4 + N - 5) cb) ((rest.drop 5).take (N - 1)).length _
                  rw [show ((rest.drop 5).take (N - 1)).length = 4 + N - 5 by simp; omega]
                  exact this
                have HB4 : Hid (Below w.heap.size wq w3) := (((HB2.out.mono hszq).alloc (Nat.le_trans hszq HB2.out.size) _).trans HB3.out)
                clear v1 v2
                have hD := HD.out
                rw [if_pos (by rw [HN1.out])] at hD
                have HD2 := hide hD
                clear hD HD
                have hc4 : 4 + N = 5 := by rw [HN1.out]
                go_wp2_with fail
                clear t1 t2 t3 t4 u1 u2 u3 u4 u6 u7 u8 u9 u10 u11 hc hnc
                go_roundw
                case rel =>
                  exact ⟨some ⟨b, off, none⟩, 0, rest.drop (4 + N), fs ++ [(kd, (rest.drop 5).take (N - 1))], by rw [List.length_drop], by rw [List.length_drop]; omega, by omega, by rw [List.length_drop]; omega, by rw [List.length_drop]; exact HD2.out.below HB4.out (Nat.le_refl _), HFS.out, by rw [List.length_drop, List.length_append]; simp only [List.length_cons, List.length_nil]; omega, by show Wire.cut l = _; rw [HCut.out, List.append_assoc, show 3 + N + 1 = 4 + N by omega]; rfl, HBq.out.trans HB4.out, HSB.to⟩
                case measure => rw [sliceLen, sliceLen]; omega
              · have hS := HS.out
                rw [if_neg hc5, Option.map_some, addr_add] at hS
                have HS2 := hide (hS.more hszq)
                clear hS HS
                have v1 : IntKind.i64.wrap (4 + (N : Int)) = 4 + (N : Int) := IntWalk.i64_in _ (by omega)
                have v2 : (4 + (N : Int)).toNat = 4 + N := by omega
                go_region_held3 (fun w' => w'.cell? ⟨b, off + 4, none⟩ = some (.int .u8 (kd.toNat : Int))) (first | (exact (HB3.out.cell (p := ⟨b, off + 4, none⟩) hb).trans ((World.cell?_alloc_lt w2 _ ⟨b, off + 4, none⟩ (Nat.lt_of_lt_of_le hbq HB2.out.size)).trans ((HB2.out.cell (p := ⟨b, off + 4, none⟩) hbq).trans h4c))) | go_keep | (rw [HB2.out.cell (p := ⟨b, off + 4, none⟩) (by exact hbq)]; exact h4c)) ((first | (refine step_append_rd _ rfl (.tmp 56) (.tmp 66) 26 rfl w.heap.size 42 iF (Value.agg #[Value.int .u8 0, Value.slice none 0 0]) 2 32 Try.underlying26 hiF hzF0 hzF1 hzF2 rfl (by omega) (.slice Ao fs.length co) fs.length (frCells fs bs) (by simp [Act.eval]) (by exact (own_below HRow.out HB2.out).alloc _) (w2.heap.size + 1) (some ⟨w2.heap.size, 0, none⟩) 1 1 [Value.int .u8 (kd.toNat : Int), .slice Ab (4 + N - 5) cb] (by simp [Act.eval]) (by exact HLit.out w2 Ab cb) (HNews.out Ab cb) (by unfold maxLen; omega) (by omega) (by simp; have := HB2.out.size; omega) ?_; intro v3 w3 hown3 hb3 hg3; have HO3 := hide hown3; have HB3 := hide hb3; have HG3 := hide hg3; clear hown3 hb3 hg3) | (go_at_call 10; refine (copyBytes_any _ _ _ _ _ (by exact HS2.out.keep fun _ _ => rfl) (by omega)).mono ?_; rintro e w2 ⟨vb, rfl, hown2, hb2⟩; obtain ⟨Ab, cb, rfl⟩ := own_sl hown2; have HO2 := hide hown2; have HB2 : Hid (Below wq.heap.size wq w2) := ⟨hb2.os, hb2.tape, hb2.output, hb2.size, hb2.block⟩; clear hown2 hb2)))
                have HFS : Hid (FrOwn w3 w.heap.size w3.heap.size v3 (fs ++ [(kd, (rest.drop 5).take (N - 1))])) := by
                  refine fr_snocG Hbl.out (own_below HRow.out HB2.out) Hbod.out HB2.out ?_ HO3.out (w2' := w2.alloc _) ((Below.refl _ _).alloc (Nat.le_refl _) _) HG3.out
                  have := own_base HO2.out hszq
                  rw [show (List.take (4 + N) rest).drop 5 = (rest.drop 5).take (N - 1) by rw [List.drop_take]; congr 1; omega] at this
                  show w2.ownsRow w.heap.size 5 1 (Value.slice Ab (4 + N - 5) cb) ((rest.drop 5).take (N - 1)).length _
                  rw [show ((rest.drop 5).take (N - 1)).length = 4 + N - 5 by simp; omega]
                  exact this
                have HB4 : Hid (Below w.heap.size wq w3) := (((HB2.out.mono hszq).alloc (Nat.le_trans hszq HB2.out.size) _).trans HB3.out)
                clear v1 v2
                by_cases hc4 : c' = 4 + N
                · have hD := HD.out
                  rw [if_pos hc4] at hD
                  have HD2 := hide hD
                  clear hD
                  go_wp2_with fail
                  clear t1 t2 t3 t4 u1 u2 u3 u4 u6 u7 u8 u9 u10 hc hnc hc5
                  go_roundw
                  case rel =>
                    exact ⟨some ⟨b, off, none⟩, 0, rest.drop (4 + N), fs ++ [(kd, (rest.drop 5).take (N - 1))], by rw [List.length_drop, show rest.length - (4 + N) = 0 by omega], by rw [List.length_drop]; omega, by omega, by rw [List.length_drop]; omega, by rw [List.length_drop]; exact HD2.out.below HB4.out (Nat.le_refl _), HFS.out, by rw [List.length_drop, List.length_append]; simp only [List.length_cons, List.length_nil]; omega, by show Wire.cut l = _; rw [HCut.out, List.append_assoc, show 3 + N + 1 = 4 + N by omega]; rfl, HBq.out.trans HB4.out, HSB.to⟩
                  case measure => rw [sliceLen, sliceLen]; omega
                · have hD := HD.out
                  rw [if_neg hc4, Option.map_some, addr_add] at hD
                  have HD2 := hide hD
                  clear hD
                  go_wp2_with fail
                  clear t1 t2 t3 t4 u1 u2 u3 u4 u6 u7 u8 u9 u10 hc hnc hc5
                  go_roundw
                  case rel =>
                    exact ⟨some ⟨b, off + (4 + N), none⟩, c' - (4 + N), rest.drop (4 + N), fs ++ [(kd, (rest.drop 5).take (N - 1))], by rw [List.length_drop], by rw [List.length_drop]; omega, by omega, by rw [List.length_drop]; omega, by rw [List.length_drop]; exact HD2.out.below HB4.out (Nat.le_refl _), HFS.out, by rw [List.length_drop, List.length_append]; simp only [List.length_cons, List.length_nil]; omega, by show Wire.cut l = _; rw [HCut.out, List.append_assoc, show 3 + N + 1 = 4 + N by omega]; rfl, HBq.out.trans HB4.out, HSB.to⟩
                  case measure => rw [sliceLen, sliceLen]; omega
end Go.Proofs.Ytnieenlnpnaamaa
