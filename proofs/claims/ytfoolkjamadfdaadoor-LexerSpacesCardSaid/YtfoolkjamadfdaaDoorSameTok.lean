/-
  The walk of chancerylaw19.same. Conditions: the rows read as lists of tokens.
-/
import Derived.Test.YtfoolkjamadfdaaDoorAwake19
import Derived.Test.YtfoolkjamadfdaaDoorPartMath
namespace Go.Proofs.YtfoolkjamadfdaaDoor
open Go.RowKit

/-- A slice that reads as a list of tokens. -/
def Rk (w : World) (B : Nat) (A : Option Addr) (n : Nat) (ts : List Lex.Tok) : Prop := Rd w B 3 A n (tcells ts)
section
variable {w w' : World} {B n : Nat} {A : Option Addr} {ts : List Lex.Tok}
theorem Rk.len (h : Rk w B A n ts) : ts.length = n := by
  have := h.1
  rw [tcells_len] at this
  omega
theorem Rk.own {base c : Nat} (h : w.ownsRow base 32 3 (.slice A n c) n (tcells ts)) : Rk w w.heap.size A n ts := Rd.own h
theorem Rk.below {C : Nat} (h : Rk w B A n ts) (hb : Below C w w') (hC : B ≤ C) : Rk w' B A n ts := Rd.below h hb hC
theorem Rk.more {C : Nat} (h : Rk w B A n ts) (hC : B ≤ C) : Rk w C A n ts := Rd.more h hC
theorem Rk.drewE {q : Nat} (h : Rk w B A n ts) (e : w' = w.drewN q) : Rk w' B A n ts := by rw [e]; exact Rd.keep h fun _ _ => rfl
theorem Rk.at {k : Nat} (h : Rk w B A n ts) (hk : k < n) : ∃ b off kd s a, A = some ⟨b, off, none⟩ ∧ b < B ∧ ts[k]? = some (kd, s, a) ∧ w.cell? ⟨b, off + k * 3, none⟩ = some (.int .u8 (kd.toNat : Int)) ∧ w.cell? ⟨b, off + k * 3 + 1, none⟩ = some (.string ⟨s.toArray⟩) ∧ w.cell? ⟨b, off + k * 3 + 2, none⟩ = some (.int .i64 ((a : Nat) : Int)) := by
  obtain ⟨b, off, e, hb, hc⟩ := h.2 (by omega)
  have hl : k < ts.length := by rw [h.len]; exact hk
  obtain ⟨h1, h2, h3⟩ := tcells_at ts k ts[k] (List.getElem?_eq_getElem hl)
  refine ⟨b, off, ts[k].1, ts[k].2.1, ts[k].2.2, e, hb, List.getElem?_eq_getElem hl, hc _ _ h1, ?_, ?_⟩
  · rw [Nat.add_assoc]; exact hc _ _ h2
  · rw [Nat.add_assoc]; exact hc _ _ h3
end
/-- Tokens, places aside. -/
def skel (ts : List Lex.Tok) : List (UInt8 × List UInt8) := ts.map fun t => (t.1, t.2.1)
theorem skel_at {ts : List Lex.Tok} {k : Nat} {kd : UInt8} {s : List UInt8} {a : Nat} (h : ts[k]? = some (kd, s, a)) : (skel ts)[k]? = some (kd, s) := by
  unfold skel
  rw [List.getElem?_map, h]
  rfl
theorem skel_len (ts : List Lex.Tok) : (skel ts).length = ts.length := by simp [skel]
theorem stake_succ {α : Type} {l l' : List α} {k : Nat} {a : α} (h : l.take k = l'.take k) (h1 : l[k]? = some a) (h2 : l'[k]? = some a) : l.take (k + 1) = l'.take (k + 1) := by
  rw [List.take_add_one, List.take_add_one, h, h1, h2]
theorem skel_moved (d : Nat) (ts : List Lex.Tok) : skel (Lex.moved d ts) = skel ts := by
  unfold skel Lex.moved
  rw [List.map_map]
  rfl

set_option maxHeartbeats 1600000 in
theorem same_any (A A' : Option Addr) (n c n' c' : Nat) (ts ts' : List Lex.Tok) (w : World) (B B' : Nat) (hv : Rk w B A n ts) (hv' : Rk w B' A' n' ts') (hn : n ≤ 9223372036854775807) :
    Calls Tryd.prog 7 #[.slice A n c, .slice A' n' c'] w fun e w' => ∃ b, e = .returned (.bool b) ∧ (b = true ↔ skel ts = skel ts') ∧ ∃ q, w' = w.drewN q := by
  have HL := hide hv
  have HL' := hide hv'
  clear hv hv'
  by_cases hne : n = n'
  · subst hne
    have hb : ((n : Int) != (n : Int)) = false := by simp
    go_enter Tryd.func7, Tryd.ntmps7
    go_wp2_with fail
    go_loopw [5] (fun i wr => ∃ k q : Nat, k ≤ n ∧ i = .int .i64 (k : Nat) ∧ wr = w.drewN q ∧ Hid ((skel ts).take k = (skel ts').take k)) (fun i _ => n - (intOf i).toNat)
    case atStart => exact ⟨0, 0, Nat.zero_le _, rfl, rfl, rfl⟩
    case round =>
      obtain ⟨k, q, hk, rfl, rfl, HT⟩ := hrel
      by_cases hlt : k < n
      · obtain ⟨b, off, kd, ss, aa, rfl, _, hx, h0, h1, _⟩ := HL.out.at hlt
        obtain ⟨b', off', kd', ss', aa', rfl, _, hy, h0', h1', _⟩ := HL'.out.at hlt
        have hkI : (k : Int) < (n : Int) := by omega
        have HX := hide (skel_at hx)
        have HY := hide (skel_at hy)
        clear hx hy
        obtain ⟨s1, hs1⟩ : ∃ s : ByteArray, s = ⟨ss.toArray⟩ := ⟨_, rfl⟩
        obtain ⟨s2, hs2⟩ : ∃ s : ByteArray, s = ⟨ss'.toArray⟩ := ⟨_, rfl⟩
        rw [← hs1] at h1
        rw [← hs2] at h1'
        have HS1 := hide hs1
        have HS2 := hide hs2
        clear hs1 hs2
        by_cases hkd : kd = kd'
        · subst hkd
          have q1 : ((kd.toNat : Int) != (kd.toNat : Int)) = false := by simp
          by_cases hss : ss = ss'
          · have he : s1 = s2 := by rw [HS1.out, HS2.out, hss]
            rw [← hss] at HY
            have HN := hide (stake_succ HT.out HX.out HY.out)
            subst he
            clear hss
            go_wp2_with fail
            go_quiet (fail)
            go_wp2
            go_roundw
            case rel => exact ⟨k + 1, _, by omega, by go_num, rfl, HN.out⟩
            case measure => simp [intOf]; omega
          · have hne : ¬ s1.toList = s2.toList := by rw [HS1.out, HS2.out, ByteArray.toList_eq, ByteArray.toList_eq]; exact hss
            have q2 : (s1.toList == s2.toList) = false := by simpa using hne
            have q3 : (s1.toList != s2.toList) = true := by simpa using hne
            have HF : Hid (¬ skel ts = skel ts') := by
              intro h
              have h1 := HX.out
              rw [h, HY.out] at h1
              simp at h1
              exact hss h1.symm
            clear hss
            go_wp2_with fail
            go_quiet (fail)
            go_wp2
            go_ret
            exact ⟨false, rfl, ⟨fun h => (by cases h), fun h => absurd h HF.out⟩, _, World.drewN_drewN _ _ _⟩
        · have q1 : ((kd.toNat : Int) != (kd'.toNat : Int)) = true := by
            rw [bne_iff_ne]
            intro h
            exact hkd (UInt8.toNat_inj.1 (by omega))
          have HF : Hid (¬ skel ts = skel ts') := by
            intro h
            have h1 := HX.out
            rw [h, HY.out] at h1
            simp at h1
            exact hkd h1.1.symm
          clear hkd
          go_wp2_with fail
          go_quiet (fail)
          go_wp2
          go_ret
          exact ⟨false, rfl, ⟨fun h => (by cases h), fun h => absurd h HF.out⟩, _, World.drewN_drewN _ _ _⟩
      · obtain rfl : k = n := by omega
        have HF : Hid (skel ts = skel ts') := by
          have h := HT.out
          rw [List.take_of_length_le (by rw [skel_len, HL.out.len]; exact Nat.le_refl _), List.take_of_length_le (by rw [skel_len, HL'.out.len]; exact Nat.le_refl _)] at h
          exact h
        go_wp2
        go_ret
        exact ⟨true, rfl, ⟨fun _ => HF.out, fun _ => rfl⟩, q, rfl⟩
  · have hb : ((n : Int) != (n' : Int)) = true := by simp; omega
    have HF : Hid (¬ skel ts = skel ts') := by
      intro h
      have := congrArg List.length h
      rw [skel_len, skel_len, HL.out.len, HL'.out.len] at this
      exact hne this
    go_enter Tryd.func7, Tryd.ntmps7
    go_wp2_with fail
    go_ret
    exact ⟨false, rfl, ⟨fun h => (by cases h), fun h => absurd h HF.out⟩, 0, rfl⟩
end Go.Proofs.YtfoolkjamadfdaaDoor
