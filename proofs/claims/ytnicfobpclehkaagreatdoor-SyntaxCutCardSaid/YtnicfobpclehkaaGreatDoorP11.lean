import Derived.StillTail
import Derived.OrdersHeld
import Derived.Below
import Derived.OneCell
import Derived.Lib.ItoaLen
import Derived.Lib.ItoaMem
import Derived.Lib.AppendIntMem
import Derived.Lib.Walk
import Derived.Test.YtnicfobpclehkaaGreatDoorP10
set_option maxHeartbeats 6400000
set_option linter.unusedVariables false
set_option linter.unusedSimpArgs false
namespace Go.Proofs.YtnicfobpclehkaaGreatDoor
open Go.RowKit
section
open Go
section
variable{P:Program}{ops:Array Oper}{md:Region.Mode}{S:World→Prop}
def qv(P:Program)(S:World→Prop)(v:Value):Result Next→Prop
 | .ok (.value u) w'=>u=v∧S w'
 | .ok .skip w'=>v=undef∧S w'
 | .ok (.enter f args) w'=>Calls P f args w' (fun e w''=>e=.returned v∧S w'')
 |_=>False
def gW(P:Program)(ops:Array Oper)(S:World→Prop)(o:Oper)(v:Value)(a:Act):Prop:=
 (Region.wanted o (yielded ops a.tmps)=true∧∀w,S w→qv P S v ((execOp a.eval o).run P w))∨
 (Region.wanted o (yielded ops a.tmps)=false∧v=undef)
theorem gW.of_same{o:Oper}{v:Value}{a a':Act}(hy:gW P ops S o v a)(he:execOp a'.eval o=execOp a.eval o)
 (hw:Region.wanted o (yielded ops a'.tmps)=Region.wanted o (yielded ops a.tmps)):gW P ops S o v a':=by
 unfold gW at*;rw[he,hw];exact hy
theorem gW.wpOp{Q:Exit→Act→World→Prop}{i:Nat}{o:Oper}{v:Value}{a:Act}(hi:ops[i]?=some o)(hy:gW P ops S o v a)
 {K:Act→World→Prop} {w:World} (hS:S w) (h:∀w',S w'→K (a.put o.dst v) w'):wpOp P ops Q i K a w:=by
 unfold Go.wpOp;simp only[hi];rcases hy with⟨hw,hv⟩|⟨hw,rfl⟩
 ·simp only[hw,bo];refine .inl ?_;have:=hv w hS;unfold Oper.wp;generalize (execOp a.eval o).run P w=r at*;cases r with
  |ok n w'=>
   cases n<;>simp only[qv]at this;case value u=>obtain⟨rfl,h2⟩:=this;exact h _ h2
   case skip=>obtain⟨rfl,h2⟩:=this;exact h _ h2
   case enter f args=>
    refine Calls.mono this fun e w'' he=>?_
    obtain⟨rfl,h2⟩:=he;exact h _ h2
  |halt x w'=>simp only[qv]at this
 ·simp only[hw,aO,bx];exact h _ hS
def jw(P:Program)(ops:Array Oper)(S:World→Prop)(Q:Act→Prop):List Oper→Act→Prop
 |[],a=>Q a
 |o::rest,a=>∃v,gW P ops S o v a∧jw P ops S Q rest (a.put o.dst v)
def sC(P:Program)(ops:Array Oper)(S:World→Prop)(i:Nat)(K:Act→Prop)(a:Act):Prop:=
 match ops[i]? with
 |none=>K a
 |some o=>∃v,gW P ops S o v a∧K (a.put o.dst v)
theorem Fk{j:Nat}{oi oj:Oper}{v:Value}(hj:ops[j]?=some oj)(hap:oi.apart ops oj=true)
 (hsi:∀cs b,oi.op≠ .select cs b) (hsj:∀cs b,oj.op≠ .select cs b) {K:Act→Prop} {a:Act}
 (hy:gW P ops S oi v a) (h:sC P ops S j K (a.put oi.dst v)):
 sC P ops S j (fun a'=>gW P ops S oi v a'∧K (a'.put oi.dst v)) a:=by
 obtain⟨h1,h2,h3⟩:=Oper.apart_spec hap;unfold sC at*;simp only[hj]at*;obtain⟨u,hu,hk⟩:=h;refine⟨u,hu.of_same (execOp_put oj hsj a oi.dst v h1).symm (wanted_put oj a oi.dst v h1).symm,hy.of_same (execOp_put oi hsi a oj.dst u h3) (wanted_put oi a oj.dst u h3),?_⟩;rw[←Act.put_comm a v u h2];exact hk
theorem Dq{i:Nat}{K K':Act→Prop}{a:Act}(h:∀a,K a→K' a)(hh:sC P ops S i K a):sC P ops S i K' a:=by
 unfold sC at*;split
 ·rename_i hi;simp only[hi]at hh;exact h _ hh
 ·rename_i o hi;simp only[hi]at hh;obtain⟨v,hv,hk⟩:=hh;exact⟨v,hv,h _ hk⟩
def qF(P:Program)(md:Region.Mode)(ops:Array Oper)(S:World→Prop)(n:Nat)(L:Array Bool→Act→Prop):Nat→Array Bool→Act→Prop
 |0,listed,a=>L listed a
 |f+1,listed,a=>
  Region.ready md ops listed≠[]∧∀i∈Region.ready md ops listed,i<n∧sC P ops S i (qF P md ops S n L f (listed.setIfInBounds i true)) a
theorem mU{n g:Nat}{L:Array Bool→Act→Prop}{Q':Exit→Act→World→Prop}(hL:∀listed a w,S w→L listed a→wpAny P md ops Q' g listed a w):
 ∀(f:Nat) (listed:Array Bool) (a:Act) (w:World),S w→qF P md ops S n L f listed a→wpAny P md ops Q' (f+g) listed a w
 |0,listed,a,w,hS,h=>by rw[aW];exact hL _ _ _ hS h
 |f+1,listed,a,w,hS,h=>by
  rw[show f+1+g=(f+g)+1 by omega]
  refine⟨fun h0=>absurd h0 h.1,fun i hi=>?_⟩
  have hf:=(h.2 i hi).2
  obtain⟨_,o,ho,_⟩:=mem_ready.1 hi
  unfold sC at hf
  simp only[ho]at hf
  obtain⟨v,hv,hk⟩:=hf
  exact hv.wpOp ho hS fun w' hS'=>mU hL f _ _ w' hS' hk
theorem uQ{n i:Nat}{oi:Oper}{v:Value}{L:Array Bool→Act→Prop}(hi:ops[i]?=some oi)(hsel:∀(j:Nat) (o:Oper) cs b,ops[j]?=some o→o.op≠ .select cs b)
 (hs:Region.sinkB md ops n=true) (hc:Region.chainB md ops n=true) (hn:n<ops.size) (hin:i<n)
 (hdone:∀listed a,L listed a→∀j∈Region.ready md ops listed,n≤j):
 ∀(f:Nat) (listed:Array Bool) (a:Act),HeadInv md ops n listed→
  (∀j oj,ops[j]?=some oj→j≠i→listed.getD j true=false→(∀e∈oj.after,Region.binds md e=true→e.on≠i)→oi.apart ops oj=true)→
  i∈Region.ready md ops listed→gW P ops S oi v a→
  qF P md ops S n L f (listed.setIfInBounds i true) (a.put oi.dst v)→qF P md ops S n L (f+1) listed a:=by
 have self:∀{K:Act→Prop} {a:Act},gW P ops S oi v a→K (a.put oi.dst v)→sC P ops S i K a:=fun hy hk=>by
  unfold sC
  simp only[hi]
  exact⟨v,hy,hk⟩
 intro f;induction f with
 |zero=>
  intro listed a inv _ hr hy H;have hun:=(mem_ready.1 hr).1;refine⟨fun h=>(by rw[h]at hr;cases hr),fun j hj=>?_⟩;have hjn:j<n:=by
   rcases cl j n with h|h
   ·exact h
   ·exact absurd hj (tail_waits hs hc hn inv _ i rfl hin hun j h)
  refine⟨hjn,?_⟩;by_cases hji:j=i
  ·subst hji;exact self hy H
  ·have:=hdone _ _ H j (ready_mono hj hji);omega
 |succ f ih=>
  intro listed a inv hfree hr hy H;have hun:=(mem_ready.1 hr).1;refine⟨fun h=>(by rw[h]at hr;cases hr),fun j hj=>?_⟩;have hjn:j<n:=by
   rcases cl j n with h|h
   ·exact h
   ·exact absurd hj (tail_waits hs hc hn inv _ i rfl hin hun j h)
  refine⟨hjn,?_⟩;by_cases hji:j=i
  ·subst hji;exact self hy H
  ·have h1:=(H.2 j (ready_mono hj hji)).2;obtain⟨hjun,oj,hoj,hall⟩:=mem_ready.1 hj;have hnot:∀e∈oj.after,Region.binds md e=true→e.on≠i:=fun e he hb heq=>by
    have h1:=hall e he hb
    rw[heq,getD_both hun]at h1
    cases h1
   have h2:=Fk hoj (hfree j oj hoj hji hjun hnot) (fun cs b=>hsel i oi cs b hi) (fun cs b=>hsel j oj cs b hoj) hy h1;have hfree':∀k ok,ops[k]?=some ok→k≠i→(listed.setIfInBounds j true).getD k true=false→
    (∀e∈ok.after,Region.binds md e=true→e.on≠i)→oi.apart ops ok=true:=fun k ok hk hki hun hno=>by
    refine hfree k ok hk hki ?_ hno
    by_cases hjk:j=k
    ·subst hjk;exact hjun
    ·rw[getD_set_ne true hjk]at hun;exact hun
   refine Dq (fun a' h3=>ih (listed.setIfInBounds j true) a' (inv.set hj hjn) hfree' (ready_mono hr (Ne.symm hji)) h3.1 ?_) h2;rw[Array.setIfInBounds_comm _ _ hji];exact h3.2
theorem r9{n g:Nat}{Lq:Act→Prop}(hsel:Region.noSelect ops=true)(hs:Region.sinkB md ops n=true)(hc:Region.chainB md ops n=true)(hn:n<ops.size):
 ∀(l:List Oper) (k:Nat) (listed:Array Bool) (a:Act),(∀j,j<l.length→l[j]?=ops[k+j]?)→k+l.length=n→HeadInv md ops n listed→
 Region.lexHead md ops g l.length k listed=true→jw P ops S Lq l a→
 qF P md ops S n (fun listed' a'=>Region.seqB md ops g n listed'=true∧Lq a') l.length listed a
 |[],k,listed,a,_,hk,_,hB,h=>by
  have:k=n:=by simpa using hk
  subst this
  exact⟨by simpa[Region.lexHead]using hB,h⟩
 |o::l,k,listed,a,hl,hk,inv,hB,h=>by
  have h0:ops[k]?=some o:=by simpa using(hl 0 (by simp)).symm
  simp only[ab,Region.lexHead,aN]at hB
  obtain⟨⟨hr,hf⟩,hB'⟩:=hB
  have hkn:k<n:=by simp only[ab]at hk;omega
  have hr':k∈Region.ready md ops listed:=by simpa using hr
  obtain⟨v,hy,hK⟩:=h
  exact uQ h0 (Region.noSelect_spec hsel) hs hc hn hkn (fun listed' a' hL=>seqB_ready hL.1) l.length listed a inv (Region.free_spec h0 hf) hr' hy
   (r9 hsel hs hc hn l (k+1) _ _ (fun j hj=>by have:=hl (j+1) (by simp;omega);simpa[cC,bY 1 j]using this) (by simp only[ab]at hk;omega) (inv.set hr' hkn) hB' hK)
theorem fF{id:Nat}{Q:Exit→Act→World→Prop}{a:Act}{w:World}{l:List Oper}(S:World→Prop)(n:Nat)(hm:P.follows .mixedOrders=true)(hB:Region.lexTailB .any l.toArray n=true)
 (hS:S {w with drawn:=w.drawn+1})
 (h:jw P l.toArray S (fun a'=>∀w',S w'→wpList P l.toArray Q (l.drop n) a' w') (l.take n) a):(Code.region id l.toArray true).wp P Q a w:=by
 simp only[Region.lexTailB,aN,aI]at hB;obtain⟨⟨⟨⟨hsel,hn⟩,hs⟩,hc⟩,hlex⟩:=hB;have hn':n<l.length:=by simpa using hn
 have htl:(l.take n).length=n:=by simp;omega
 have hdl:(l.drop n).length=l.toArray.size-n:=by simp
 have inv0:HeadInv .any l.toArray n (Array.replicate l.toArray.size false):=
  ⟨by simp,fun j oj _ hl=>(by rw[getD_replicate_false]at hl;cases hl),fun t _ ht=>getD_in (by simpa using ht) (getD_replicate_false _ _)⟩
 have H:=r9 (md:=.any) (g:=l.toArray.size-n) hsel hs hc hn (l.take n) 0 _ a (fun j hj=>by
  have hj':j<n:=by rw[htl]at hj;exact hj
  simp[hj']) (by simpa using htl) inv0 (by rw[htl];exact hlex) h
 refine wp_region_any hm ?_;have:=mU (Q':=Q) (g:=l.toArray.size-n) (fun listed a' w' hS' hL=>by
  have:=wpAny_of_seq (md:=.any) (Q':=Q) (l.drop n) n listed a' w' (fun j=>by simp[bQ]) (by rw[hdl];exact hL.1) (hL.2 w' hS')
  rwa [hdl]at this) _ _ _ _ hS H
 rw[htl,show n+(l.toArray.size-n)=l.toArray.size by omega]at this;exact this
theorem iQ{Q:Act→Prop}{a:Act}(h:Q a):jw P ops S Q [] a:=h
theorem pW{Q:Act→Prop}{a:Act}{o:Oper}{rest:List Oper}(v:Value)(hw:Region.wanted o (yielded ops a.tmps)=true)
 (h:∀w,S w→qv P S v ((execOp a.eval o).run P w)) (k:jw P ops S Q rest (a.put o.dst v)):jw P ops S Q (o::rest) a:=
 ⟨v,.inl ⟨hw,h⟩,k⟩
theorem cS{Q:Act→Prop}{a:Act}{o:Oper}{rest:List Oper}(v:Value)(hw:Region.wanted o (yielded ops a.tmps)=true)
 (h:∀w,S w→(execOp a.eval o).run P w=.ok (.value v) w) (k:jw P ops S Q rest (a.put o.dst v)):jw P ops S Q (o::rest) a:=
 pW v hw (fun w hS=>by rw[h w hS];exact⟨rfl,hS⟩) k
theorem jn{Q:Act→Prop}{a:Act}{o:Oper}{rest:List Oper}(v:Value)(f:FuncId)(args:Array Value)(hw:Region.wanted o (yielded ops a.tmps)=true)
 (h:∀w,S w→(execOp a.eval o).run P w=.ok (.enter f args) w) (hc:∀w,S w→Calls P f args w fun e w''=>e=.returned v∧S w'') (k:jw P ops S Q rest (a.put o.dst v)):jw P ops S Q (o::rest) a:=
 pW v hw (fun w hS=>by rw[h w hS];exact hc w hS) k
theorem ik{Q:Act→Prop}{a:Act}{o:Oper}{rest:List Oper}(hw:Region.wanted o (yielded ops a.tmps)=false)(k:jw P ops S Q rest (a.put o.dst undef)):jw P ops S Q (o::rest) a:=
 ⟨undef,.inr ⟨hw,rfl⟩,k⟩
end
end
section
open Go Go.RowKit
section
variable{P:Program}{ops:Array Oper}{md:Region.Mode}{S:World→Prop}{h0:Nat}
def Made:=Nat→Option (Nat×Obj)
def Made.none:Made:=fun _=>Option.none
def Made.add(m:Made)(i g:Nat)(o:Obj):Made:=fun j=>if j=i then some (g,o)else m j
theorem Made.add_comm(m:Made){i j:Nat}(h:i≠j)(g g':Nat)(o o':Obj):(m.add i g o).add j g' o'=(m.add j g' o').add i g o:=by
 funext k;unfold Made.add;by_cases h1:k=j
 ·subst h1;rw[if_pos rfl,if_neg (Ne.symm h),if_pos rfl]
 ·rw[if_neg h1];by_cases h2:k=i
  ·subst h2;rw[if_pos rfl,if_pos rfl]
  ·rw[if_neg h2,if_neg h2,if_neg h1]
structure Grown (S:World→Prop) (h0:Nat) (m:Made) (w:World):Prop where
 s:S w
 big:h0≤w.heap.size
 gh:∀i g o,m i=some (g,o)→w.heap[g]?=some o∧h0≤g
 apart:∀i j g o o',m i=some (g,o)→m j=some (g,o')→i=j
def iA(S:World→Prop):Prop:=∀w w':World,S w→Below w.heap.size w w'→S w'
theorem Grown.below{m:Made}{w w':World}(hL:iA S)(h:Grown S h0 m w)(hb:Below w.heap.size w w'):Grown S h0 m w':=
 ⟨hL _ _ h.s hb,aw h.big hb.size,fun i g o hm=>by
  obtain⟨h1,h2⟩:=h.gh i g o hm
  exact⟨(hb.block g (lt_of_block h1)).trans h1,h2⟩,h.apart⟩
theorem Grown.made{m:Made}{w:World}{i:Nat}{o:Obj}(hL:iA S)(h:Grown S h0 m w):Grown S h0 (m.add i w.heap.size o) (w.alloc o):=by
 have hb:Below w.heap.size w (w.alloc o):=(Below.refl _ _).alloc (aa _) o;refine⟨hL _ _ h.s hb,by simp;have:=h.big;omega,fun j g o' hm=>?_,fun j k g o1 o2 hj hk=>?_⟩
 ·unfold Made.add at hm;split at hm
  ·injection hm with hm
   injection hm with h1 h2
   subst h1 h2;exact⟨heap_alloc_new w _,h.big⟩
  ·obtain⟨h1,h2⟩:=h.gh j g o' hm;exact⟨(hb.block g (lt_of_block h1)).trans h1,h2⟩
 ·unfold Made.add at hj hk;split at hj
  ·rename_i e1;split at hk
   ·rename_i e2;omega
   ·injection hj with hj
    injection hj with h1 _
    subst h1;have:=lt_of_block (h.gh k _ o2 hk).1;omega
  ·split at hk
   ·injection hk with hk
    injection hk with h1 _
    subst h1;have:=lt_of_block (h.gh j _ o1 hj).1;omega
   ·exact h.apart j k g o1 o2 hj hk
def Told:=FuncId→Array Value→Value→Prop
def Told.One(T:Told):Prop:=∀f args v v',T f args v→T f args v'→v=v'
def mG(P:Program)(T:Told)(w:World)(v:Value):Result Next→Prop
 | .ok (.value u) w'=>u=v∧Below w.heap.size w w'
 | .ok .skip w'=>v=undef∧Below w.heap.size w w'
 | .ok (.enter f args) w'=>T f args v∧w'=w∧Calls P f args w (fun e w''=>e=.returned v∧Below w.heap.size w w'')
 |_=>False
def fX(P:Program)(ops:Array Oper)(T:Told)(S:World→Prop)(o:Oper)(v:Value)(a:Act):Prop:=
 (Region.wanted o (yielded ops a.tmps)=true∧∀w,S w→mG P T w v ((execOp a.eval o).run P w))∨
 (Region.wanted o (yielded ops a.tmps)=false∧v=undef)
def ej:Option (Nat×Nat)→Nat→Value
 |none,g=>.pointer (some ⟨g,0,none⟩)
 |some (n,c),g=>.slice (some ⟨g,0,none⟩) n c
theorem qU{s s':Option (Nat×Nat)}{g g':Nat}(h:ej s g=ej s' g'):s=s'∧g=g':=by
 match s,s',h with
 |none,none,h=>simp[ej]at h;exact⟨rfl,h⟩
 |none,some (_,_),h=>simp[ej]at h
 |some (_,_),none,h=>simp[ej]at h
 |some (n,c),some (n',c'),h=>simp[ej]at h;obtain⟨h1,h2,h3⟩:=h;subst h2 h3;exact⟨rfl,h1⟩
def fv(P:Program)(ops:Array Oper)(S:World→Prop)(o:Oper)(V:Option (Nat×Nat))(b:Obj)(a:Act):Prop:=
 Region.wanted o (yielded ops a.tmps)=true∧∀w,S w→(execOp a.eval o).run P w=.ok (.value (ej V w.heap.size)) (w.alloc b)
theorem Cu{w:World}{b b':Obj}(h:w.alloc b=w.alloc b'):b=b':=by
 have h1:(w.alloc b).heap[w.heap.size]?=some b:=heap_alloc_new w b;have h2:(w.alloc b').heap[w.heap.size]?=some b':=heap_alloc_new w b';rw[h,h2]at h1;injection h1 with h1
 exact h1.symm
theorem fX.one{T:Told}(hT:T.One){o:Oper}{v v':Value}{a:Act}{w0:World}(hS:S w0)(h:fX P ops T S o v a)(h':fX P ops T S o v' a):v=v':=by
 rcases h with⟨hw,h⟩|⟨hw,rfl⟩
 ·rcases h' with⟨_,h'⟩|⟨hw',_⟩
  ·have k:=h w0 hS;have k':=h' w0 hS;generalize (execOp a.eval o).run P w0=r at*;cases r with
   |ok n w'=>
    cases n<;>simp only[mG]at k k';case value u=>exact k.1.symm.trans k'.1
    case skip=>exact k.1.trans k'.1.symm
    case enter f args=>exact hT _ _ _ _ k.1 k'.1
   |halt x w'=>simp only[mG]at k
  ·rw[hw]at hw';cases hw'
 ·rcases h' with⟨hw',_⟩|⟨_,rfl⟩
  ·rw[hw]at hw';cases hw'
  ·rfl
theorem fv.one{o:Oper}{V V':Option (Nat×Nat)}{b b':Obj}{a:Act}{w0:World}(hS:S w0)(h:fv P ops S o V b a)(h':fv P ops S o V' b' a):V=V'∧b=b':=by
 have k:=(h.2 w0 hS).symm.trans (h'.2 w0 hS);injection k with k1 k2
 injection k1 with k1
 exact⟨(qU k1).1,Cu k2⟩
theorem oI{T:Told}{o:Oper}{v:Value}{V:Option (Nat×Nat)}{b:Obj}{a:Act}{w0:World}(hL:iA S)(hS:S w0)(h:fX P ops T S o v a)(h':fv P ops S o V b a):False:=by
 rcases h with⟨_,h⟩|⟨hw,_⟩
 ·have hS1:S (w0.alloc b):=hL _ _ hS ((Below.refl _ _).alloc (aa _) b);have k:=h w0 hS;have k1:=h (w0.alloc b) hS1;rw[h'.2 w0 hS]at k;rw[h'.2 _ hS1]at k1;simp only[mG]at k k1;have:=(qU (k.1.trans k1.1.symm)).2;simp at this
 ·rw[h'.1]at hw;cases hw
theorem fX.of_same{T:Told}{o:Oper}{v:Value}{a a':Act}(hy:fX P ops T S o v a)(he:execOp a'.eval o=execOp a.eval o)
 (hw:Region.wanted o (yielded ops a'.tmps)=Region.wanted o (yielded ops a.tmps)):fX P ops T S o v a':=by
 unfold fX at*;rw[he,hw];exact hy
theorem fv.of_same{o:Oper}{V:Option (Nat×Nat)}{b:Obj}{a a':Act}(hy:fv P ops S o V b a)(he:execOp a'.eval o=execOp a.eval o)
 (hw:Region.wanted o (yielded ops a'.tmps)=Region.wanted o (yielded ops a.tmps)):fv P ops S o V b a':=by
 unfold fv at*;rw[he,hw];exact hy
def stepG(P:Program)(ops:Array Oper)(T:Told)(S:World→Prop)(i:Nat)(o:Oper)(K:Act→Made→Prop)(a:Act)(m:Made):Prop:=
 (∃v,fX P ops T S o v a∧K (a.put o.dst v) m)∨(∃V b,fv P ops S o V b a∧∀g,K (a.put o.dst (ej V g)) (m.add i g b))
def rm(P:Program)(ops:Array Oper)(T:Told)(S:World→Prop)(i:Nat)(K:Act→Made→Prop)(a:Act)(m:Made):Prop:=
 match ops[i]? with
 |none=>K a m
 |some o=>stepG P ops T S i o K a m
theorem IU{T:Told}{Q:Exit→Act→World→Prop}(hL:iA S){i:Nat}{o:Oper}{a:Act}{m:Made}(hi:ops[i]?=some o){K:Act→Made→Prop}(h:stepG P ops T S i o K a m){w:World}(hS:Grown S h0 m w)
 {K':Act→World→Prop} (hK:∀a' m' w',Grown S h0 m' w'→K a' m'→K' a' w'):wpOp P ops Q i K' a w:=by
 unfold Go.wpOp;simp only[hi];rcases h with⟨v,hy,hk⟩|⟨V,b,⟨hw,hv⟩,hk⟩
 ·rcases hy with⟨hw,hv⟩|⟨hw,rfl⟩
  ·simp only[hw,bo];refine .inl ?_;have:=hv w hS.s;unfold Oper.wp;generalize (execOp a.eval o).run P w=r at*;cases r with
   |ok n w'=>
    cases n<;>simp only[mG]at this;case value u=>obtain⟨rfl,h2⟩:=this;exact hK _ _ _ (hS.below hL h2) hk
    case skip=>obtain⟨rfl,h2⟩:=this;exact hK _ _ _ (hS.below hL h2) hk
    case enter f args=>
     obtain⟨-,rfl,h2⟩:=this;refine Calls.mono h2 fun e w'' he=>?_
     obtain⟨rfl,h3⟩:=he;exact hK _ _ _ (hS.below hL h3) hk
   |halt x w'=>simp only[mG]at this
  ·simp only[hw,aO,bx];exact hK _ _ _ hS hk
 ·simp only[hw,bo];refine .inl ?_;unfold Oper.wp;rw[hv w hS.s];exact hK _ _ _ (hS.made hL) (hk _)
theorem Dc{T:Told}{i:Nat}{K K':Act→Made→Prop}{a:Act}{m:Made}(h:∀a m,K a m→K' a m)(hh:rm P ops T S i K a m):rm P ops T S i K' a m:=by
 unfold rm at*;split
 ·rename_i hi;simp only[hi]at hh;exact h _ _ hh
 ·rename_i o hi;simp only[hi]at hh;rcases hh with⟨v,hv,hk⟩|⟨V,b,hv,hk⟩
  ·exact .inl ⟨v,hv,h _ _ hk⟩
  ·exact .inr ⟨V,b,hv,fun g=>h _ _ (hk g)⟩
def nu(P:Program)(md:Region.Mode)(ops:Array Oper)(T:Told)(S:World→Prop)(n:Nat)(L:Array Bool→Act→Made→Prop):Nat→Array Bool→Act→Made→Prop
 |0,listed,a,m=>L listed a m
 |f+1,listed,a,m=>
  Region.ready md ops listed≠[]∧∀i∈Region.ready md ops listed,i<n∧rm P ops T S i (nu P md ops T S n L f (listed.setIfInBounds i true)) a m
theorem ng{T:Told}(Ra:iA S){n g:Nat}{L:Array Bool→Act→Made→Prop}{Q':Exit→Act→World→Prop}(hL:∀listed a m w,Grown S h0 m w→L listed a m→wpAny P md ops Q' g listed a w):
 ∀(f:Nat) (listed:Array Bool) (a:Act) (m:Made) (w:World),Grown S h0 m w→nu P md ops T S n L f listed a m→wpAny P md ops Q' (f+g) listed a w
 |0,listed,a,m,w,hS,h=>by rw[aW];exact hL _ _ _ _ hS h
 |f+1,listed,a,m,w,hS,h=>by
  rw[show f+1+g=(f+g)+1 by omega]
  refine⟨fun h0=>absurd h0 h.1,fun i hi=>?_⟩
  have hf:=(h.2 i hi).2
  obtain⟨_,o,ho,_⟩:=mem_ready.1 hi
  unfold rm at hf
  simp only[ho]at hf
  exact IU Ra ho hf hS fun a' m' w' hS' hk=>ng Ra hL f _ a' m' w' hS' hk
theorem Ee{T:Told}(hT:T.One)(hL:iA S){w0:World}(hS:S w0){i j:Nat}{oi oj:Oper}(hji:j≠i)(hj:ops[j]?=some oj)(hap:oi.apart ops oj=true)
 (hsi:∀cs b,oi.op≠ .select cs b) (hsj:∀cs b,oj.op≠ .select cs b) {K:Act→Made→Prop} {a:Act} {m:Made}
 (h:stepG P ops T S i oi (fun a' m'=>rm P ops T S j K a' m') a m):
 rm P ops T S j (fun a' m'=>stepG P ops T S i oi K a' m') a m:=by
 obtain⟨h1,h2,h3⟩:=Oper.apart_spec hap;unfold rm at*;simp only[hj]at*;have yj:∀{v u:Value},fX P ops T S oj u (a.put oi.dst v)→fX P ops T S oj u a:=fun{v u} hy=>hy.of_same (execOp_put oj hsj a oi.dst v h1).symm (wanted_put oj a oi.dst v h1).symm
 have mj:∀{v:Value} {V b},fv P ops S oj V b (a.put oi.dst v)→fv P ops S oj V b a:=fun{v V b} hy=>hy.of_same (execOp_put oj hsj a oi.dst v h1).symm (wanted_put oj a oi.dst v h1).symm
 have yi:∀{v u:Value},fX P ops T S oi v a→fX P ops T S oi v (a.put oj.dst u):=fun{v u} hy=>hy.of_same (execOp_put oi hsi a oj.dst u h3) (wanted_put oi a oj.dst u h3)
 have mi:∀{u:Value} {V b},fv P ops S oi V b a→fv P ops S oi V b (a.put oj.dst u):=fun{u V b} hy=>hy.of_same (execOp_put oi hsi a oj.dst u h3) (wanted_put oi a oj.dst u h3)
 rcases h with⟨v,hy,hk⟩|⟨V,b,hy,hk⟩
 ·rcases hk with⟨u,hu,hk⟩|⟨U,c,hu,hk⟩
  ·exact .inl ⟨u,yj hu,.inl ⟨v,yi hy,by rw[←Act.put_comm a v u h2];exact hk⟩⟩
  ·exact .inr ⟨U,c,mj hu,fun g=>.inl ⟨v,yi hy,by rw[←Act.put_comm a v (ej U g) h2];exact hk g⟩⟩
 ·rcases hk 0 with⟨u,hu,_⟩|⟨U,c,hu,_⟩
  ·refine .inl ⟨u,yj hu,.inr ⟨V,b,mi hy,fun g=>?_⟩⟩;rcases hk g with⟨u',hu',hk'⟩|⟨U',c',hu',_⟩
   ·obtain rfl:=fX.one hT hS (yj hu) (yj hu');rw[←Act.put_comm a (ej V g) u h2];exact hk'
   ·exact absurd (oI hL hS (yj hu) (mj hu')) id
  ·refine .inr ⟨U,c,mj hu,fun g'=>.inr ⟨V,b,mi hy,fun g=>?_⟩⟩;rcases hk g with⟨u',hu',_⟩|⟨U',c',hu',hk'⟩
   ·exact absurd (oI hL hS (yj hu') (mj hu)) id
   ·obtain⟨rfl,rfl⟩:=fv.one hS (mj hu) (mj hu');rw[←Act.put_comm a (ej V g) (ej U g') h2,←Made.add_comm m (Ne.symm hji)];exact hk' g'
theorem uh{T:Told}(hT:T.One)(Ra:iA S){w0:World}(hS:S w0){n i:Nat}{oi:Oper}{L:Array Bool→Act→Made→Prop}(hi:ops[i]?=some oi)(hsel:∀(j:Nat) (o:Oper) cs b,ops[j]?=some o→o.op≠ .select cs b)
 (hw:∀listed,HeadInv md ops n listed→listed.getD i true=false→∀j,n≤j→j ∉Region.ready md ops listed)
 (hdone:∀listed a m,L listed a m→∀j∈Region.ready md ops listed,n≤j):
 ∀(f:Nat) (listed:Array Bool) (a:Act) (m:Made),HeadInv md ops n listed→
  (∀j oj,ops[j]?=some oj→j≠i→listed.getD j true=false→(∀e∈oj.after,Region.binds md e=true→e.on≠i)→oi.apart ops oj=true)→
  i∈Region.ready md ops listed→
  stepG P ops T S i oi (nu P md ops T S n L f (listed.setIfInBounds i true)) a m→nu P md ops T S n L (f+1) listed a m:=by
 have self:∀{K:Act→Made→Prop} {a:Act} {m:Made},stepG P ops T S i oi K a m→rm P ops T S i K a m:=fun h=>by
  unfold rm
  simp only[hi]
  exact h
 intro f;induction f with
 |zero=>
  intro listed a m inv _ hr H;have hun:=(mem_ready.1 hr).1;refine⟨fun h=>(by rw[h]at hr;cases hr),fun j hj=>?_⟩;have hjn:j<n:=by
   rcases cl j n with h|h
   ·exact h
   ·exact absurd hj (hw _ inv hun j h)
  refine⟨hjn,?_⟩;by_cases hji:j=i
  ·subst hji;exact self H
  ·have:n≤j:=by
    rcases H with⟨v,_,hk⟩|⟨V,b,_,hk⟩
    ·exact hdone _ _ _ hk j (ready_mono hj hji)
    ·exact hdone _ _ _ (hk 0) j (ready_mono hj hji)
   omega
 |succ f ih=>
  intro listed a m inv hfree hr H;have hun:=(mem_ready.1 hr).1;refine⟨fun h=>(by rw[h]at hr;cases hr),fun j hj=>?_⟩;have hjn:j<n:=by
   rcases cl j n with h|h
   ·exact h
   ·exact absurd hj (hw _ inv hun j h)
  refine⟨hjn,?_⟩;by_cases hji:j=i
  ·subst hji;exact self H
  ·obtain⟨hjun,oj,hoj,hall⟩:=mem_ready.1 hj;have hnot:∀e∈oj.after,Region.binds md e=true→e.on≠i:=fun e he hb heq=>by
    have h1:=hall e he hb
    rw[heq,getD_both hun]at h1
    cases h1
   have h1:stepG P ops T S i oi (fun a' m'=>rm P ops T S j (nu P md ops T S n L f ((listed.setIfInBounds i true).setIfInBounds j true)) a' m') a m:=by
    rcases H with⟨v,hy,hk⟩|⟨V,b,hy,hk⟩
    ·exact .inl ⟨v,hy,(hk.2 j (ready_mono hj hji)).2⟩
    ·exact .inr ⟨V,b,hy,fun g=>((hk g).2 j (ready_mono hj hji)).2⟩
   have h2:=Ee hT Ra hS hji hoj (hfree j oj hoj hji hjun hnot) (fun cs b=>hsel i oi cs b hi) (fun cs b=>hsel j oj cs b hoj) h1;have hfree':∀k ok,ops[k]?=some ok→k≠i→(listed.setIfInBounds j true).getD k true=false→
    (∀e∈ok.after,Region.binds md e=true→e.on≠i)→oi.apart ops ok=true:=fun k ok hk hki hun hno=>by
    refine hfree k ok hk hki ?_ hno
    by_cases hjk:j=k
    ·subst hjk;exact hjun
    ·rw[getD_set_ne true hjk]at hun;exact hun
   refine Dc (fun a' m' h3=>ih (listed.setIfInBounds j true) a' m' (inv.set hj hjn) hfree' (ready_mono hr (Ne.symm hji)) ?_) h2;rw[Array.setIfInBounds_comm _ _ hji];exact h3
def ll(P:Program)(ops:Array Oper)(T:Told)(S:World→Prop)(Q:Act→Made→Prop):Nat→List Oper→Act→Made→Prop
 |_,[],a,m=>Q a m
 |i,o::rest,a,m=>stepG P ops T S i o (ll P ops T S Q (i+1) rest) a m
theorem qV{T:Told}(hT:T.One)(Ra:iA S){w0:World}(hS:S w0){n g:Nat}{Lq:Act→Made→Prop}(hsel:Region.noSelect ops=true)(hw:∀i,i<n→∀listed,HeadInv md ops n listed→listed.getD i true=false→∀j,n≤j→j ∉Region.ready md ops listed):
 ∀(l:List Oper) (k:Nat) (listed:Array Bool) (a:Act) (m:Made),(∀j,j<l.length→l[j]?=ops[k+j]?)→k+l.length=n→HeadInv md ops n listed→
 Region.lexHead md ops g l.length k listed=true→ll P ops T S Lq k l a m→
 nu P md ops T S n (fun listed' a' m'=>Region.seqB md ops g n listed'=true∧Lq a' m') l.length listed a m
 |[],k,listed,a,m,_,hk,_,hB,h=>by
  have:k=n:=by simpa using hk
  subst this
  exact⟨by simpa[Region.lexHead]using hB,h⟩
 |o::l,k,listed,a,m,hl,hk,inv,hB,h=>by
  have h0:ops[k]?=some o:=by simpa using(hl 0 (by simp)).symm
  simp only[ab,Region.lexHead,aN]at hB
  obtain⟨⟨hr,hf⟩,hB'⟩:=hB
  have hkn:k<n:=by simp only[ab]at hk;omega
  have hr':k∈Region.ready md ops listed:=by simpa using hr
  have next:∀a' m',ll P ops T S Lq (k+1) l a' m'→nu P md ops T S n (fun listed' a' m'=>Region.seqB md ops g n listed'=true∧Lq a' m') l.length (listed.setIfInBounds k true) a' m':=fun a' m' h'=>
   qV hT Ra hS hsel hw l (k+1) _ a' m' (fun j hj=>by have:=hl (j+1) (by simp;omega);simpa[cC,bY 1 j]using this) (by simp only[ab]at hk;omega) (inv.set hr' hkn) hB' h'
  refine uh hT Ra hS h0 (Region.noSelect_spec hsel) (hw k hkn) (fun listed' a' m' hL=>seqB_ready hL.1) l.length listed a m inv (Region.free_spec h0 hf) hr' ?_
  rcases h with⟨v,hy,hk⟩|⟨V,b,hy,hk⟩
  ·exact .inl ⟨v,hy,next _ _ hk⟩
  ·exact .inr ⟨V,b,hy,fun g=>next _ _ (hk g)⟩
theorem rO{id:Nat}{Q:Exit→Act→World→Prop}{a:Act}{w:World}{l:List Oper}(T:Told)(S:World→Prop)(h0 n:Nat)(hT:T.One)(Ra:iA S)(hm:P.follows .mixedOrders=true)(hB:Region.lexTailB .any l.toArray n=true)
 (hS:S {w with drawn:=w.drawn+1}) (hh:h0≤w.heap.size)
 (h:ll P l.toArray T S (fun a' m'=>∀w',Grown S h0 m' w'→wpList P l.toArray Q (l.drop n) a' w') 0 (l.take n) a Made.none):(Code.region id l.toArray true).wp P Q a w:=by
 simp only[Region.lexTailB,aN,aI]at hB;obtain⟨⟨⟨⟨hsel,hn⟩,hs⟩,hc⟩,hlex⟩:=hB;have hn':n<l.length:=by simpa using hn
 have htl:(l.take n).length=n:=by simp;omega
 have hdl:(l.drop n).length=l.toArray.size-n:=by simp
 have inv0:HeadInv .any l.toArray n (Array.replicate l.toArray.size false):=
  ⟨by simp,fun j oj _ hl=>(by rw[getD_replicate_false]at hl;cases hl),fun t _ ht=>getD_in (by simpa using ht) (getD_replicate_false _ _)⟩
 have H:=qV (md:=.any) hT Ra hS (g:=l.toArray.size-n) hsel (fun i hi listed inv hun j hj=>tail_waits hs hc hn inv _ i rfl hi hun j hj) (l.take n) 0 _ a Made.none (fun j hj=>by
  have hj':j<n:=by rw[htl]at hj;exact hj
  simp[hj']) (by simpa using htl) inv0 (by rw[htl];exact hlex) h
 refine wp_region_any hm ?_;have:=ng (h0:=h0) Ra (Q':=Q) (g:=l.toArray.size-n) (fun listed a' m' w' hS' hL=>by
  have:=wpAny_of_seq (md:=.any) (Q':=Q) (l.drop n) n listed a' w' (fun j=>by simp[bQ]) (by rw[hdl];exact hL.1) (hL.2 w' hS')
  rwa [hdl]at this) _ _ _ _ _ ⟨hS,hh,fun i g o hm=>(by cases hm),fun i j g o o' hm=>(by cases hm)⟩ H
 rw[htl,show n+(l.toArray.size-n)=l.toArray.size by omega]at this;exact this
variable{T:Told}
theorem zf{Q:Act→Made→Prop}{i:Nat}{a:Act}{m:Made}(h:Q a m):ll P ops T S Q i [] a m:=h
theorem fK{Q:Act→Made→Prop}{i:Nat}{a:Act}{m:Made}{o:Oper}{rest:List Oper}(v:Value)(hw:Region.wanted o (yielded ops a.tmps)=true)
 (h:∀w,S w→(execOp a.eval o).run P w=.ok (.value v) w) (k:ll P ops T S Q (i+1) rest (a.put o.dst v) m):ll P ops T S Q i (o::rest) a m:=
 .inl ⟨v,.inl ⟨hw,fun w hS=>by rw[h w hS];exact⟨rfl,Below.refl _ _⟩⟩,k⟩
theorem yh{Q:Act→Made→Prop}{i:Nat}{a:Act}{m:Made}{o:Oper}{rest:List Oper}(V:Option (Nat×Nat))(b:Obj)(hw:Region.wanted o (yielded ops a.tmps)=true)
 (h:∀w,S w→(execOp a.eval o).run P w=.ok (.value (ej V w.heap.size)) (w.alloc b)) (k:∀g,ll P ops T S Q (i+1) rest (a.put o.dst (ej V g)) (m.add i g b)):ll P ops T S Q i (o::rest) a m:=
 .inr ⟨V,b,⟨hw,h⟩,k⟩
end
end
section
set_option maxRecDepth 8000
theorem By{a:ByteArray}{l:List UInt8}(h:a.data.toList=l):a=⟨l.toArray⟩:=by
 subst h;simp
abbrev KZ:ByteArray:=⟨#[48,49,50,51,52,53,54,55,56,57,97,98,99,100,101,102]⟩
theorem hexb:∀x:Fin 16,(KZ[x.val]'(by have:=x.isLt;exact this)).toNat=(NF.iL x.val).toNat:=by decide
theorem wQ(x:Nat)(h:x<16)(hz:x<KZ.size):(KZ[x]'hz).toNat=(NF.iL x).toNat:=hexb ⟨x,h⟩
def noT:Told:=fun _ _ _=>False
theorem Ih:noT.One:=fun _ _ _ _ h=>h.elim
def UX(w wr:World)(v:Value)(n:Nat)(l:List UInt8):Prop:=wr.ownsRow w.heap.size 5 1 v n (l.map B8)∧Below w.heap.size w wr
theorem UX.dX(w:World)(v:Value)(n:Nat)(l:List UInt8):iA (fun w'=>UX w w' v n l):=fun _ _ h hb=>⟨sT h.1 hb,h.2.trans (hb.mono h.2.size)⟩
theorem UX.drew{w wr:World}{v:Value}{n:Nat}{l:List UInt8}(h:UX w wr v n l):UX w {wr with drawn:=wr.drawn+1} v n l:=⟨h.1,h.2.drew⟩
theorem Nb(c:UInt8):bits .and .u8 (c.toNat:Int) 15=((c.toNat%16:Nat):Int):=by
 have:∀x:Fin 256,bits .and .u8 ((x.val:Nat):Int) 15=((x.val%16:Nat):Int):=by decide +kernel
 exact this ⟨c.toNat,c.toNat_lt⟩
theorem Hh{w:World}{g:Nat}{t:TypeId}{m:Nat×Nat}{l:List UInt8}(h:w.heap[g]?=some (.cells (l.map B8).toArray t m)):Rb w w.heap.size (some ⟨g,0,none⟩) l.length l:=by
 refine⟨by simp,fun _=>⟨g,0,rfl,lt_of_block h,fun j u hu=>?_⟩⟩;rw[aW,cM w g j _ t m h];simpa using hu
theorem bt17:Bt Tryz.prog 101 5:=⟨Tryz.underlying101,by kernel_rfl⟩
theorem Dx(s:ByteArray)(w:World)(hs:s.size≤200):
 Calls Tryz.prog 223 #[.string s] w fun e w'=>e=.returned (.string ⟨(NF.gM s.data.toList).toArray⟩)∧Below w.heap.size w w':=by
 go_enter Tryz.func223,Tryz.ntmps223;go_wp2_with fail
 go_loopw [3,7] (fun v i wr=>∃k:Nat,i=.int .i64 (k:Nat)∧k≤s.size∧UX w wr v (2*k) (NF.gM (s.data.toList.take k))) (fun _ i _=>s.size-(intOf i).toNat);case atStart=>exact⟨0,rfl,ao _,lJ _ _ _ _,ax _ _⟩
 case round=>
  obtain⟨k,rfl,hk,hb⟩:=hrel;have HB:=cN hb;clear hb;by_cases hlt:k<s.size
  ·obtain⟨c,hc⟩:∃c,c=s[k]:=⟨_,rfl⟩;have hl:k<s.data.toList.length:=by rw[aK];exact hlt
   have HT:Hid (NF.gM (s.data.toList.take (k+1))=NF.gM (s.data.toList.take k)++[NF.iL (c.toNat/16),NF.iL (c.toNat%16)]):=by show _=_;rw[List.take_succ_eq_append_getElem hl,NF.Dz,hc];rfl
   have hcb:=c.toNat_lt;have HC:=cN hc;clear hc;obtain⟨x,hx⟩:∃x,x=c.toNat/16:=⟨_,rfl⟩;obtain⟨y,hy⟩:∃x,x=c.toNat%16:=⟨_,rfl⟩;have ex:(c.toNat:Int)/16=(x:Int):=by omega
   have ey:bits .and .u8 (c.toNat:Int) 15=(y:Int):=by rw[hy];exact Nb c
   have hx16:x<16:=by omega
   have hy16:y<16:=by omega
   have ix:(x:Int)<16:=by omega
   have iy:(y:Int)<16:=by omega
   have HX:=cN hx;have HY:=cN hy;rw[←hx,←hy]at HT;clear hx hy;go_wp2_with fail
   refine rO noT (fun w'=>UX w w' u3 (2*k) (NF.gM (s.data.toList.take k))) wr.heap.size 12 Ih (UX.dX _ _ _ _) (by kernel_rfl) (by kernel_rfl) HB.o.drew (aa _) ?_;simp only[List.take_succ_cons,List.take_zero,List.drop_succ_cons,List.drop_zero];iterate 3
    refine fK ?_ rfl (fun w' hS=>?_) ?_
    rotate_left
    ·go_simp;rfl
   refine fK (.int .u8 ((c.toNat:Nat):Int)) rfl (fun w' hS=>?_) ?_
   ·go_simp;rw[HC.o]
   refine fK (.int .u8 (x:Int)) rfl (fun w' hS=>?_) ?_
   ·go_simp
   refine fK (.int .u8 ((NF.iL x).toNat:Int)) rfl (fun w' hS=>?_) ?_
   ·go_simp;exact congrArg _ (wQ x hx16 _)
   iterate 2
    refine fK ?_ rfl (fun w' hS=>?_) ?_
    rotate_left
    ·go_simp;rfl
   refine fK (.int .u8 ((c.toNat:Nat):Int)) rfl (fun w' hS=>?_) ?_
   ·go_simp;rw[HC.o]
   refine fK (.int .u8 (y:Int)) rfl (fun w' hS=>?_) ?_
   ·go_simp
   refine fK (.int .u8 ((NF.iL y).toNat:Int)) rfl (fun w' hS=>?_) ?_
   ·go_simp;exact congrArg _ (wQ y hy16 _)
   refine yh (some (2,2)) (.cells #[.int .u8 ((NF.iL x).toNat:Int),.int .u8 ((NF.iL y).toNat:Int)] 5) rfl (fun w' hS=>?_) fun g=>?_
   ·go_simp;rfl
   refine zf fun w4 hG=>?_
   obtain⟨l11,h11⟩:=hG.gh 11 g _ rfl;have HS:=cN hG.s;have HL:=cN (Hh (l:=[NF.iL x,NF.iL y]) l11);clear hG l11;unfold ej;have UY:=HS.o.2.size;have hk2:2*k+2≤402:=by omega
   go_frame;go_wp2_with (at_builtin;refine sc _ bt17 rfl (.tmp 10) (.tmp 21) rfl w.heap.size _ (2*k) (NF.gM (s.data.toList.take k)) rfl HS.o.1 _ _ 2 2 [NF.iL x,NF.iL y] rfl HL.o (by omega) UY ?_;intro v1 w1 hown1 hb1 _;rw[←HT.o]at hown1;have Rj:=cN hown1;have HB1:=cN (HS.o.2.trans hb1);clear hown1 hb1)
   exact⟨⟨k+1,by go_num,hlt,Rj.o,HB1.o⟩,by simp[intOf];omega⟩
  ·obtain rfl:k=s.size:=by omega
   have HF:Hid (s.data.toList.take s.size=s.data.toList):=aS (by rw[aK];exact aa _);rw[HF.o]at HB;obtain⟨A,cap,rfl⟩:=Ft HB.o.1;have hrun:=(Rb.own HB.o.1).nF (P:=Tryz.prog) 101 5 9 cap Tryz.underlying101 Tryz.underlying5 Tryz.underlying9;clear hlt hk;go_wp2_with fail
   go_ret;exact⟨rfl,HB.o.2⟩
end
section
set_option maxRecDepth 100000
open Go.RowKit Go.Sort Go.Lib
theorem holds_zero0(w:World)(T:TypeId)(nd:Nat)(hs:nd≤24):Holds (fun(b:UInt8)=>Value.int .u8 (b.toNat:Int)) (w.alloc (.cells Lib.zeros24 T)) w.heap.size 0 (Array.replicate nd (0:UInt8)):=fun j hj=>by
 have hj':j<nd:=by simpa using hj
 refine⟨?_,World.frozen?_alloc_new _ _ _ _⟩
 rw[World.cell?_alloc_new,Lib.zeros24_at _ (by omega),getElem!_pos _ j hj]
 simp
theorem Fp(w:World)(o:Obj)(dk:Array UInt8)(k:Nat):∃os,(putRow (fun(b:UInt8)=>Value.int .u8 (b.toNat:Int)) (w.alloc o) w.heap.size 0 dk).drewN k=grow (w.drewN k) os:=by
 rw[alloc_eq_grow];obtain⟨os',_,e⟩:=putRow_grow_new (fun(b:UInt8)=>Value.int .u8 (b.toNat:Int)) w #[o] w.heap.size 0 dk (aa _);exact⟨os',by rw[e];rfl⟩
def Qr(w:World):Prop:=Lib.TabIs Tryz.prog w "internal/strconv.uint64pow10" .u64 Lib.pow10Tab
theorem Qr.alloc{w:World}(h:Qr w)(o:Obj):Lib.TabIs Tryz.prog (w.alloc o) "internal/strconv.uint64pow10" .u64 Lib.pow10Tab:=Lib.tabIs_alloc h o
theorem Qr.block{w:World}(h:Qr w):∃t m,w.heap[(3:Nat)]?=some (.cells (Lib.pow10Tab.map fun z=>Value.int .u64 z).toArray t m):=by
 unfold Qr Lib.TabIs World.var? at h;rw[show Tryz.prog.globalNamed "internal/strconv.uint64pow10" =some 3 from by kernel_rfl]at h;simp only[Option.bind_some]at h;split at h
 ·rename_i cs t m hg;injection h with h
  subst h;exact⟨t,m,hg⟩
 ·cases h
theorem Qr.below{w w':World}{C:Nat}(h:Qr w)(hb:Below C w w')(hC:w.heap.size≤C):Qr w':=by
 obtain⟨t,m,hg⟩:=h.block;have:=hb.block 3 (aB (lt_of_block hg) hC);unfold Qr Lib.TabIs World.var?;rw[show Tryz.prog.globalNamed "internal/strconv.uint64pow10" =some 3 from by kernel_rfl];simp only[Option.bind_some];rw[this,hg]
theorem CQ(u:Nat)(hu64:u<18446744073709551616)(w:World)(htab:Qr w):
 Calls Tryz.prog 255 #[.int .u64 (u:Int),.int .i64 10] w fun e w'=>e=.returned (.string ⟨(Lib.decDigits u).toArray⟩)∧Below w.heap.size w w':=by
 have HT:=cN htab;clear htab;by_cases hs:u<100
 ·have t1:decide ((u:Int)<100)=true:=by simp;omega
  have hw1:IntKind.i64.wrap (u:Int)=(u:Int):=by rw[IntKind.wrap_i64];omega
  go_enter Tryz.func255,Tryz.ntmps255;go_wp2_with fail
  with_reducible refine(Tryz.internal_strconv_small u hs w).mono ?_
  rintro e w' ⟨rfl,rfl⟩;go_wp2_with fail
  go_ret;exact⟨rfl,ax _ _⟩
 ·have t1:decide ((u:Int)<100)=false:=by simp;omega
  have hu1:1≤u:=by omega
  have hb3:=Lib.nDigits_le20 u hu64;have hal:Tryz.prog.arrayLen 258=24:=by kernel_rfl
  have hsl1:∀W,(Instr.sliceAt 258 (.pointer (some ⟨w.heap.size,0,none⟩)) none (some (.int .i64 (Lib.nDigits u:Int))) none).run Tryz.prog W=.ok (.slice (some ⟨w.heap.size,0,none⟩) (Lib.nDigits u) 24) W:=fun W=>by
   rw[run_sliceAt_array_h W 258 ⟨w.heap.size,0,none⟩ (by kernel_rfl) .i64 (Lib.nDigits u:Int) (by omega) (by rw[hal];omega)]
   go_simp
  have hH0:=holds_zero0 w 258 (Lib.nDigits u) (by omega);have hfmt:=Tryz.internal_strconv_formatBase10 w.heap.size 0 24 u (Array.replicate (Lib.nDigits u) 0) (w.alloc (.cells Lib.zeros24 258)) hH0 (by rw[cI];exact Lib.lt_pow_nDigits u) hu64 (by rw[cI];omega);rw[cI]at hfmt;have HH0:=Lib.hid hH0;have HF:=cN hfmt;clear hH0 hal hfmt;go_enter Tryz.func255,Tryz.ntmps255;go_wp2_with fail
  with_reducible refine(Tryz.internal_strconv_numDigits u hu1 hu64 _ (Qr.alloc HT.o _)).mono ?_
  rintro e w' ⟨rfl,rfl⟩;go_wp2_with fail
  refine HF.o.mono ?_;rintro e w' ⟨rfl,k,v',dk,rfl,hF⟩;have hcv:(convert 101 9 (.slice (some ⟨w.heap.size,0,none⟩) (Lib.nDigits u) 24)).run Tryz.prog ((putRow (fun(b:UInt8)=>Value.int .u8 (b.toNat:Int)) (w.alloc (.cells Lib.zeros24 258)) w.heap.size 0 dk).drewN k)=.ok (.string ⟨(Lib.decDigits u).toArray⟩) ((putRow (fun(b:UInt8)=>Value.int .u8 (b.toNat:Int)) (w.alloc (.cells Lib.zeros24 258)) w.heap.size 0 dk).drewN k):=by
   have h:=run_convert_bytes_back (P:=Tryz.prog) ((putRow (fun(b:UInt8)=>Value.int .u8 (b.toNat:Int)) (w.alloc (.cells Lib.zeros24 258)) w.heap.size 0 dk).drewN k) 101 9 5 ⟨w.heap.size,0,none⟩ 24 (Lib.decDigits u) Tryz.underlying101 Tryz.underlying5 Tryz.underlying9 (fun j hj=>by
    rw[Lib.row_is_numeral hF j hj,Lib.add_plain,World.cell?_drewN]
    exact cell?_putRow (fun(b:UInt8)=>Value.int .u8 (b.toNat:Int)) _ w.heap.size 0 _ dk HH0.o (by rw[hF.size,cI]) j (by rw[hF.size];rw[Lib.decDigits_length]at hj;exact hj))
   rw[Lib.decDigits_length]at h;exact h
  go_wp2;go_ret;obtain⟨os,eo⟩:=Fp w (.cells Lib.zeros24 258) dk k;refine⟨rfl,?_⟩;rw[eo];exact Lib.below_grow _ w (aa _) k os
theorem wj(u:Nat)(hu64:u<18446744073709551616)(w:World)(htab:Qr w):
 Calls Tryz.prog 244 #[.int .u64 (u:Int),.int .i64 10] w fun e w'=>e=.returned (.string ⟨(Lib.decDigits u).toArray⟩)∧Below w.heap.size w w':=by
 have HT:=cN htab;clear htab;go_enter Tryz.func244,Tryz.ntmps244;go_wp2_with fail
 with_reducible refine(CQ u hu64 w HT.o).mono ?_
 rintro e w' ⟨rfl,hb⟩;go_wp2_with fail
 go_ret;exact⟨rfl,hb⟩
theorem Gq(n:Int)(h0: -9223372036854775808≤n)(h1:n≤9223372036854775807)(w:World)(htab:Qr w):
 Calls Tryz.prog 221 #[.int .i64 n,.int .i64 10] w fun e w'=>e=.returned (.string ⟨(Lib.itoa n).toArray⟩)∧Below w.heap.size w w':=by
 refine(Tryz.strconv_FormatInt_10 n h0 h1 w htab).mono ?_;rintro e w' ⟨rfl,k,os,rfl⟩;exact⟨rfl,Lib.below_grow _ w (aa _) k os⟩
end
end Go.Proofs.YtnicfobpclehkaaGreatDoor
