/-
  The walk of chanceryref17.Sub. Conditions: numbers within 64 bits. (printed by refsub.py)
-/
import Derived.Test.YticljmgcgjibpaaDoorRefG
import Derived.Test.YticljmgcgjibpaaDoorGrow
namespace Go.Proofs.YticljmgcgjibpaaDoor
open Go.RowKit

section
variable {w wr : World} {g b : Nat} {t : TypeId} {cs : Array Value}
theorem Blk.six {x0 x1 x2 x3 x4 x5 : Value} (h : Blk w g t #[x0, x1, x2, x3, x4, x5]) (u0 u1 u2 u3 u4 u5 : Value) : Blk ((((((w.setCell ⟨g, 0, none⟩ (u0)).setCell ⟨g, 1, none⟩ (u1)).setCell ⟨g, 2, none⟩ (u2)).setCell ⟨g, 3, none⟩ (u3)).setCell ⟨g, 4, none⟩ (u4)).setCell ⟨g, 5, none⟩ (u5)) g t #[u0, u1, u2, u3, u4, u5] :=
  (((((h.put 0 u0).put 1 u1).put 2 u2).put 3 u3).put 4 u4).put 5 u5
theorem Blk.sixFar (h : Blk w b t cs) (hne : b ≠ g) (u0 u1 u2 u3 u4 u5 : Value) : Blk ((((((w.setCell ⟨g, 0, none⟩ (u0)).setCell ⟨g, 1, none⟩ (u1)).setCell ⟨g, 2, none⟩ (u2)).setCell ⟨g, 3, none⟩ (u3)).setCell ⟨g, 4, none⟩ (u4)).setCell ⟨g, 5, none⟩ (u5)) b t cs :=
  (((((h.far (p := ⟨g, 0, none⟩) hne u0).far (p := ⟨g, 1, none⟩) hne u1).far (p := ⟨g, 2, none⟩) hne u2).far (p := ⟨g, 3, none⟩) hne u3).far (p := ⟨g, 4, none⟩) hne u4).far (p := ⟨g, 5, none⟩) hne u5
theorem V3.sixFar {k : UInt8} {n : Int} {s : ByteArray} {k' : UInt8} {n' : Int} {s' : ByteArray} (h : V3 w wr k n s k' n' s') (hg : w.heap.size + 1 + 1 < g) (u0 u1 u2 u3 u4 u5 : Value) : V3 w ((((((wr.setCell ⟨g, 0, none⟩ (u0)).setCell ⟨g, 1, none⟩ (u1)).setCell ⟨g, 2, none⟩ (u2)).setCell ⟨g, 3, none⟩ (u3)).setCell ⟨g, 4, none⟩ (u4)).setCell ⟨g, 5, none⟩ (u5)) k n s k' n' s' :=
  ⟨h.1.sixFar (by omega) _ _ _ _ _ _, h.2.1.sixFar (by omega) _ _ _ _ _ _, h.2.2.1.sixFar (by omega) _ _ _ _ _ _, below_six h.2.2.2 (by omega) _ _ _ _ _ _⟩
end
theorem V3.put1 {w wr : World} {g : Nat} {k : UInt8} {n : Int} {s : ByteArray} {k' : UInt8} {n' : Int} {s' : ByteArray} (h : V3 w wr k n s k' n' s') (hg : w.heap.size + 1 + 1 < g) (i : Nat) (u : Value) : V3 w (wr.setCell ⟨g, i, none⟩ u) k n s k' n' s' :=
  ⟨h.1.far (show _ ≠ g by omega) _, h.2.1.far (show _ ≠ g by omega) _, h.2.2.1.far (show _ ≠ g by omega) _, h.2.2.2.setCell (show _ ≤ g by omega) _⟩
theorem V3.lives (w : World) (k : UInt8) (n : Int) (s : ByteArray) (k' : UInt8) (n' : Int) (s' : ByteArray) : Lives (fun w' => V3 w w' k n s k' n' s') := fun _ _ h hb => h.below hb
section
variable {w wr w' : World} {k : UInt8} {n : Int} {s : ByteArray} {k' : UInt8} {n' : Int} {s' : ByteArray} {g g' : Nat} {cs cs' : Array Value}
end
end Go.Proofs.YticljmgcgjibpaaDoor
