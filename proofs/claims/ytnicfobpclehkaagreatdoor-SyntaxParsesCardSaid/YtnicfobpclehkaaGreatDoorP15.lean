import Derived.Below
import Derived.OneCell
import Derived.Test.YtnicfobpclehkaaGreatDoorP9
set_option maxHeartbeats 200000
set_option linter.unusedVariables false
set_option linter.unusedSimpArgs false
namespace Go.Proofs.YtnicfobpclehkaaGreatDoor
section
open Go Go.RowKit
section
variable{P:Program}{ops:Array Oper}{md:Region.Mode}{S:World→Prop}{h0:Nat}
def Made:=Nat→Option (Nat×Obj)
def Made.none:Made:=fun _=>Option.none
def Made.add(m:Made)(i g:Nat)(o:Obj):Made:=fun j=>if j=i then some (g,o)else m j
theorem Made.add_comm(m:Made){i j:Nat}(h:i≠j)(g g':Nat)(o o':Obj):(m.add i g o).add j g' o'=(m.add j g' o').add i g o:=by
 funext k;unfold Made.add;by_cases h1:k=j
 ·subst h1;rw[if_pos rfl,if_neg (Ne.symm h),if_pos rfl]
 ·rw[if_neg h1];by_cases h2:k=i
  ·subst h2;rw[if_pos rfl,if_pos rfl]
  ·rw[if_neg h2,if_neg h2,if_neg h1]
structure Grown (S:World→Prop) (h0:Nat) (m:Made) (w:World):Prop where
 s:S w
 big:h0≤w.heap.size
 lL:∀i g o,m i=some (g,o)→w.heap[g]?=some o∧h0≤g
 apart:∀i j g o o',m i=some (g,o)→m j=some (g,o')→i=j
def jy(S:World→Prop):Prop:=∀w w':World,S w→Below w.heap.size w w'→S w'
theorem Grown.below{m:Made}{w w':World}(hL:jy S)(h:Grown S h0 m w)(hb:Below w.heap.size w w'):Grown S h0 m w':=
 ⟨hL _ _ h.s hb,Nat.le_trans h.big hb.size,fun i g o hm=>by
  obtain⟨h1,h2⟩:=h.lL i g o hm
  exact⟨(hb.block g (lt_of_block h1)).trans h1,h2⟩,h.apart⟩
theorem Grown.made{m:Made}{w:World}{i:Nat}{o:Obj}(hL:jy S)(h:Grown S h0 m w):Grown S h0 (m.add i w.heap.size o) (w.alloc o):=by
 have hb:Below w.heap.size w (w.alloc o):=(Below.refl _ _).alloc (Nat.le_refl _) o;refine⟨hL _ _ h.s hb,by simp;have:=h.big;omega,fun j g o' hm=>?_,fun j k g o1 o2 hj hk=>?_⟩
 ·unfold Made.add at hm;split at hm
  ·injection hm with hm
   injection hm with h1 h2
   subst h1 h2;exact⟨heap_alloc_new w _,h.big⟩
  ·obtain⟨h1,h2⟩:=h.lL j g o' hm;exact⟨(hb.block g (lt_of_block h1)).trans h1,h2⟩
 ·unfold Made.add at hj hk;split at hj
  ·rename_i e1;split at hk
   ·rename_i e2;omega
   ·injection hj with hj
    injection hj with h1 _
    subst h1;have:=lt_of_block (h.lL k _ o2 hk).1;omega
  ·split at hk
   ·injection hk with hk
    injection hk with h1 _
    subst h1;have:=lt_of_block (h.lL j _ o1 hj).1;omega
   ·exact h.apart j k g o1 o2 hj hk
def Told:=FuncId→Array Value→Value→Prop
def Told.One(T:Told):Prop:=∀f args v v',T f args v→T f args v'→v=v'
def rH(P:Program)(T:Told)(w:World)(v:Value):Result Next→Prop
 | .ok (.value u) w'=>u=v∧Below w.heap.size w w'
 | .ok .skip w'=>v=undef∧Below w.heap.size w w'
 | .ok (.enter f args) w'=>T f args v∧w'=w∧Calls P f args w (fun e w''=>e=.returned v∧Below w.heap.size w w'')
 |_=>False
def jl(P:Program)(ops:Array Oper)(T:Told)(S:World→Prop)(o:Oper)(v:Value)(a:Act):Prop:=
 (Region.wanted o (yielded ops a.tmps)=true∧∀w,S w→rH P T w v ((execOp a.eval o).run P w))∨
 (Region.wanted o (yielded ops a.tmps)=false∧v=undef)
def dR:Option (Nat×Nat)→Nat→Value
 |none,g=>.pointer (some ⟨g,0,none⟩)
 |some (n,c),g=>.slice (some ⟨g,0,none⟩) n c
theorem wR{s s':Option (Nat×Nat)}{g g':Nat}(h:dR s g=dR s' g'):s=s'∧g=g':=by
 match s,s',h with
 |none,none,h=>simp[dR]at h;exact⟨rfl,h⟩
 |none,some (_,_),h=>simp[dR]at h
 |some (_,_),none,h=>simp[dR]at h
 |some (n,c),some (n',c'),h=>simp[dR]at h;obtain⟨h1,h2,h3⟩:=h;subst h2 h3;exact⟨rfl,h1⟩
def eN(P:Program)(ops:Array Oper)(S:World→Prop)(o:Oper)(V:Option (Nat×Nat))(b:Obj)(a:Act):Prop:=
 Region.wanted o (yielded ops a.tmps)=true∧∀w,S w→(execOp a.eval o).run P w=.ok (.value (dR V w.heap.size)) (w.alloc b)
theorem yq{w:World}{b b':Obj}(h:w.alloc b=w.alloc b'):b=b':=by
 have h1:(w.alloc b).heap[w.heap.size]?=some b:=heap_alloc_new w b;have h2:(w.alloc b').heap[w.heap.size]?=some b':=heap_alloc_new w b';rw[h,h2]at h1;injection h1 with h1
 exact h1.symm
theorem jl.one{T:Told}(hT:T.One){o:Oper}{v v':Value}{a:Act}{w0:World}(hS:S w0)(h:jl P ops T S o v a)(h':jl P ops T S o v' a):v=v':=by
 rcases h with⟨hw,h⟩|⟨hw,rfl⟩
 ·rcases h' with⟨_,h'⟩|⟨hw',_⟩
  ·have k:=h w0 hS;have k':=h' w0 hS;generalize (execOp a.eval o).run P w0=r at*;cases r with
   |ok n w'=>
    cases n<;>simp only[rH]at k k';case value u=>exact k.1.symm.trans k'.1
    case skip=>exact k.1.trans k'.1.symm
    case enter f args=>exact hT _ _ _ _ k.1 k'.1
   |halt x w'=>simp only[rH]at k
  ·rw[hw]at hw';cases hw'
 ·rcases h' with⟨hw',_⟩|⟨_,rfl⟩
  ·rw[hw]at hw';cases hw'
  ·rfl
theorem eN.one{o:Oper}{V V':Option (Nat×Nat)}{b b':Obj}{a:Act}{w0:World}(hS:S w0)(h:eN P ops S o V b a)(h':eN P ops S o V' b' a):V=V'∧b=b':=by
 have k:=(h.2 w0 hS).symm.trans (h'.2 w0 hS);injection k with k1 k2
 injection k1 with k1
 exact⟨(wR k1).1,yq k2⟩
theorem jl.of_same{T:Told}{o:Oper}{v:Value}{a a':Act}(hy:jl P ops T S o v a)(he:execOp a'.eval o=execOp a.eval o)
 (hw:Region.wanted o (yielded ops a'.tmps)=Region.wanted o (yielded ops a.tmps)):jl P ops T S o v a':=by
 unfold jl at*;rw[he,hw];exact hy
theorem eN.of_same{o:Oper}{V:Option (Nat×Nat)}{b:Obj}{a a':Act}(hy:eN P ops S o V b a)(he:execOp a'.eval o=execOp a.eval o)
 (hw:Region.wanted o (yielded ops a'.tmps)=Region.wanted o (yielded ops a.tmps)):eN P ops S o V b a':=by
 unfold eN at*;rw[he,hw];exact hy
variable{T:Told}
end
end
end Go.Proofs.YtnicfobpclehkaaGreatDoor
