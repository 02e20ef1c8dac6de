import Derived.Test.YtnicfobpclehkaaGreatDoorP15
set_option maxHeartbeats 200000
set_option linter.unusedVariables false
set_option linter.unusedSimpArgs false
namespace Go.Proofs.YtnicfobpclehkaaGreatDoor
section
open Go Go.RowKit
section
variable{P:Program}{ops:Array Oper}{md:Region.Mode}{S:World→Prop}{h0:Nat}{R:Nat→World→World→Prop}{Sh:Nat→Value→Prop}{mk:Bool}
abbrev Fact:=Value→World→Prop
structure Kq where
 bl:Made
 vl:Nat→Option Value
def Kq.none:Kq:=⟨Made.none,fun _=>Option.none⟩
def Kq.make(m:Kq)(i g:Nat)(o:Obj):Kq:=⟨m.bl.add i g o,m.vl⟩
def Kq.told(m:Kq)(i:Nat)(v:Value):Kq:=⟨m.bl,fun k=>if k=i then some v else m.vl k⟩
theorem Kq.zY(m:Kq){i j:Nat}(h:i≠j)(v u:Value):(m.told i v).told j u=(m.told j u).told i v:=by
 unfold Kq.told;congr 1;funext k;by_cases h1:k=j
 ·subst h1;simp[Ne.symm h]
 ·simp[h1]
theorem Kq.xY(m:Kq){i j:Nat}(h:i≠j)(g g':Nat)(o o':Obj):(m.make i g o).make j g' o'=(m.make j g' o').make i g o:=by
 unfold Kq.make;simp only[Made.add_comm m.bl h]
def il(T:Nat→Option Fact):Prop:=∀i Φ,T i=some Φ→∀(v:Value) (w w':World),Φ v w→Below w.heap.size w w'→Φ v w'
structure NL (mk:Bool) (R:Nat→World→World→Prop) (S:World→Prop) (h0:Nat) (T:Nat→Option Fact):Prop where
 s:∀i w w',S w→R i w w'→S w'
 size:∀i w w',R i w w'→w.heap.size≤w'.heap.size
 block:mk=true→∀i w w',R i w w'→∀g o,h0≤g→w.heap[g]?=some o→w'.heap[g]?=some o
 told:∀i k Φ,i≠k→T k=some Φ→∀v w w',Φ v w→R i w w'→Φ v w'
def Any:Nat→Value→Prop:=fun _ _=>True
theorem Any.some:∀i,∃v,Any i v:=fun _=>⟨undef,trivial⟩
def J0(n:Nat)(v:Value):Prop:=∃A c,v=.slice A n c
def Na:Nat→World→World→Prop:=fun _ w w'=>Below w.heap.size w w'
theorem Na.turns{S:World→Prop}{h0:Nat}{T:Nat→Option Fact}(hL:jy S)(hT:il T):NL true Na S h0 T:=
 ⟨fun _ w w' hs hb=>hL w w' hs hb,fun _ _ _ hb=>hb.size,fun _ _ _ _ hb _ _ _ ho=>(hb.block _ (lt_of_block ho)).trans ho,fun _ k Φ _ hk v w w' hv hb=>hT k Φ hk v w w' hv hb⟩
structure Holds (mk:Bool) (S:World→Prop) (h0:Nat) (T:Nat→Option Fact) (m:Kq) (w:World):Prop where
 s:S w
 big:h0≤w.heap.size
 lL:∀i g o,m.bl i=some (g,o)→w.heap[g]?=some o∧h0≤g
 told:∀i v Φ,m.vl i=some v→T i=some Φ→Φ v w
 Ub:mk=false→m.bl=Made.none
theorem Holds.below{T:Nat→Option Fact}{m:Kq}{w w':World}(hL:jy S)(hT:il T)(h:Holds mk S h0 T m w)(hb:Below w.heap.size w w'):Holds mk S h0 T m w':=
 ⟨hL _ _ h.s hb,Nat.le_trans h.big hb.size,fun i g o hm=>by
  obtain⟨h1,h2⟩:=h.lL i g o hm
  exact⟨(hb.block g (lt_of_block h1)).trans h1,h2⟩,fun i v Φ hv hΦ=>hT i Φ hΦ v _ _ (h.told i v Φ hv hΦ) hb,h.Ub⟩
theorem Holds.made{T:Nat→Option Fact}{m:Kq}{w:World}{i:Nat}{o:Obj}(hmk:mk=true)(hL:jy S)(hT:il T)(h:Holds mk S h0 T m w):Holds mk S h0 T (m.make i w.heap.size o) (w.alloc o):=by
 have hb:Below w.heap.size w (w.alloc o):=(Below.refl _ _).alloc (Nat.le_refl _) o;have h2:=h.below hL hT hb;refine⟨h2.s,h2.big,fun j g o' hm=>?_,h2.told,fun e=>by rw[hmk]at e;cases e⟩;unfold Kq.make Made.add at hm;simp only at hm;split at hm
 ·injection hm with hm
  injection hm with h1 h2
  subst h1 h2;exact⟨heap_alloc_new w _,h.big⟩
 ·exact h2.lL j g o' hm
def kj(md:Region.Mode)(ops:Array Oper):Nat→Nat→Nat→Bool
 |0,_,_=>false
 |f+1,j,k=>Region.waitsFor md ops j k||(List.range ops.size).any fun j'=>Region.waitsFor md ops j j'&&kj md ops f j' k
theorem zF{f j k:Nat}(h:kj md ops f j k=true):∃oj,ops[j]?=some oj:=by
 cases f with
 |zero=>cases h
 |succ f=>
  simp only[kj,Bool.or_eq_true]at h;rcases h with h|h
  ·obtain⟨oj,ho,_⟩:=Region.waitsFor_spec h;exact⟨oj,ho⟩
  ·obtain⟨j',_,h2⟩:=List.any_eq_true.1 h;simp only[Bool.and_eq_true]at h2;obtain⟨oj,ho,_⟩:=Region.waitsFor_spec h2.1;exact⟨oj,ho⟩
def rL(md:Region.Mode)(ops:Array Oper)(listed:Array Bool):Prop:=∀j oj,ops[j]?=some oj→listed.getD j false=true→∀e∈oj.after,Region.binds md e=true→listed.getD e.on false=true
theorem oU{listed:Array Bool}(hc:rL md ops listed){k:Nat}:∀(f j:Nat) (oj:Oper),ops[j]?=some oj→(∀e∈oj.after,Region.binds md e=true→listed.getD e.on false=true)→kj md ops f j k=true→listed.getD k false=true:=by
 intro f;induction f with
 |zero=>intro j oj _ _ h;cases h
 |succ f ih=>
  intro j oj ho hall h;simp only[kj,Bool.or_eq_true]at h;rcases h with h|h
  ·obtain⟨oj',ho',e,he,hb,hon⟩:=Region.waitsFor_spec h;have:oj'=oj:=Option.some.inj (ho'.symm.trans ho);subst this;rw[←hon];exact hall e he hb
  ·obtain⟨j',_,h2⟩:=List.any_eq_true.1 h;simp only[Bool.and_eq_true]at h2;obtain⟨oj',ho',e,he,hb,hon⟩:=Region.waitsFor_spec h2.1;have:oj'=oj:=Option.some.inj (ho'.symm.trans ho);subst this;have hl:=hall e he hb;rw[hon]at hl;obtain⟨ok,hok⟩:=zF h2.2;exact ih j' ok hok (fun e he hb=>hc j' ok hok hl e he hb) h2.2
def Seen(md:Region.Mode)(ops:Array Oper)(T:Nat→Option Fact)(h0 j:Nat)(m:Kq)(w:World):Prop:=
 (∀k v Φ,kj md ops ops.size j k=true→m.vl k=some v→T k=some Φ→Φ v w)∧(∀k g o,kj md ops ops.size j k=true→m.bl k=some (g,o)→w.heap[g]?=some o∧h0≤g)
def qY(P:Program)(R:World→World→Prop)(Φ:Fact)(w:World):Result Next→Prop
 | .ok (.value u) w'=>Φ u w'∧R w w'
 | .ok .skip w'=>Φ undef w'∧R w w'
 | .ok (.enter f args) w'=>Calls P f args w' (fun e w''=>∃u,e=.returned u∧Φ u w''∧R w w'')
 |_=>False
def fW(P:Program)(md:Region.Mode)(ops:Array Oper)(R:Nat→World→World→Prop)(Sh:Nat→Value→Prop)(T:Nat→Option Fact)(S:World→Prop)(h0 i:Nat)(o:Oper)(Φ:Fact)(a:Act)(m:Kq):Prop:=
 Region.wanted o (yielded ops a.tmps)=true∧∀w,S w→h0≤w.heap.size→Seen md ops T h0 i m w→qY P (R i) (fun u w'=>Sh i u∧Φ u w') w ((execOp a.eval o).run P w)
def j6(v:Value)(w:World):Result Next→Prop
 | .ok (.value u) w'=>u=v∧w'=w
 | .ok .skip w'=>v=undef∧w'=w
 |_=>False
def dF(P:Program)(ops:Array Oper)(S:World→Prop)(o:Oper)(v:Value)(a:Act):Prop:=
 (Region.wanted o (yielded ops a.tmps)=true∧∀w,S w→j6 v w ((execOp a.eval o).run P w))∨
 (Region.wanted o (yielded ops a.tmps)=false∧v=undef)
theorem dF.one{o:Oper}{v v':Value}{a:Act}{w0:World}(hS:S w0)(h:dF P ops S o v a)(h':dF P ops S o v' a):v=v':=by
 rcases h with⟨hw,h⟩|⟨hw,rfl⟩
 ·rcases h' with⟨_,h'⟩|⟨hw',_⟩
  ·have k:=h w0 hS;have k':=h' w0 hS;generalize (execOp a.eval o).run P w0=r at*;cases r with
   |ok n w'=>
    cases n<;>simp only[j6]at k k';case value u=>exact k.1.symm.trans k'.1
    case skip=>exact k.1.trans k'.1.symm
   |halt x w'=>simp only[j6]at k
  ·rw[hw]at hw';cases hw'
 ·rcases h' with⟨hw',_⟩|⟨_,rfl⟩
  ·rw[hw]at hw';cases hw'
  ·rfl
theorem fJ{o:Oper}{v:Value}{V:Option (Nat×Nat)}{b:Obj}{a:Act}{w0:World}(hS:S w0)(h:dF P ops S o v a)(h':eN P ops S o V b a):False:=by
 rcases h with⟨_,h⟩|⟨hw,_⟩
 ·have k:=h w0 hS;rw[h'.2 w0 hS]at k;simp only[j6]at k;have:=congrArg (fun w:World=>w.heap.size) k.2;simp at this
 ·rw[h'.1]at hw;cases hw
theorem dF.of_same{o:Oper}{v:Value}{a a':Act}(hy:dF P ops S o v a)(he:execOp a'.eval o=execOp a.eval o)
 (hw:Region.wanted o (yielded ops a'.tmps)=Region.wanted o (yielded ops a.tmps)):dF P ops S o v a':=by
 unfold dF at*;rw[he,hw];exact hy
theorem fW.of_same{T:Nat→Option Fact}{i:Nat}{o:Oper}{Φ:Fact}{a a':Act}{m m':Kq}(hy:fW P md ops R Sh T S h0 i o Φ a m)(he:execOp a'.eval o=execOp a.eval o)
 (hw:Region.wanted o (yielded ops a'.tmps)=Region.wanted o (yielded ops a.tmps)) (hm:∀k,kj md ops ops.size i k=true→m'.vl k=m.vl k∧m'.bl k=m.bl k):fW P md ops R Sh T S h0 i o Φ a' m':=by
 unfold fW at*;rw[he,hw];refine⟨hy.1,fun w hS hh hs=>hy.2 w hS hh ⟨fun k v Φ ha hv=>hs.1 k v Φ ha (by rw[(hm k ha).1];exact hv),fun k g o ha hg=>hs.2 k g o ha (by rw[(hm k ha).2];exact hg)⟩⟩
def stepT(P:Program)(md:Region.Mode)(ops:Array Oper)(mk:Bool)(R:Nat→World→World→Prop)(Sh:Nat→Value→Prop)(T:Nat→Option Fact)(S:World→Prop)(h0 i:Nat)(o:Oper)(K:Act→Kq→Prop)(a:Act)(m:Kq):Prop:=
 match T i with
 |some Φ=>fW P md ops R Sh T S h0 i o Φ a m∧∀v,Sh i v→K (a.put o.dst v) (m.told i v)
 |none=>(∃v,dF P ops S o v a∧K (a.put o.dst v) m)∨(mk=true∧∃V b,eN P ops S o V b a∧∀g,K (a.put o.dst (dR V g)) (m.make i g b))
theorem jn{T:Nat→Option Fact}{i:Nat}{o:Oper}{K K':Act→Kq→Prop}{a:Act}{m:Kq}(h:∀a m,K a m→K' a m)(hh:stepT P md ops mk R Sh T S h0 i o K a m):stepT P md ops mk R Sh T S h0 i o K' a m:=by
 unfold stepT at*;cases hT:T i with
 |some Φ=>
  simp only[hT]at hh⊢;exact⟨hh.1,fun v hv=>h _ _ (hh.2 v hv)⟩
 |none=>
  simp only[hT]at hh⊢;rcases hh with⟨v,hv,hk⟩|⟨hmk,V,b,hv,hk⟩
  ·exact .inl ⟨v,hv,h _ _ hk⟩
  ·exact .inr ⟨hmk,V,b,hv,fun g=>h _ _ (hk g)⟩
def QM(P:Program)(md:Region.Mode)(ops:Array Oper)(mk:Bool)(R:Nat→World→World→Prop)(Sh:Nat→Value→Prop)(T:Nat→Option Fact)(S:World→Prop)(h0 i:Nat)(K:Act→Kq→Prop)(a:Act)(m:Kq):Prop:=
 match ops[i]? with
 |none=>K a m
 |some o=>stepT P md ops mk R Sh T S h0 i o K a m
theorem AQ{T:Nat→Option Fact}{i:Nat}{K K':Act→Kq→Prop}{a:Act}{m:Kq}(h:∀a m,K a m→K' a m)(hh:QM P md ops mk R Sh T S h0 i K a m):QM P md ops mk R Sh T S h0 i K' a m:=by
 unfold QM at*;split
 ·rename_i hi;simp only[hi]at hh;exact h _ _ hh
 ·rename_i o hi;simp only[hi]at hh;exact jn h hh
theorem AT{T:Nat→Option Fact}{Q:Exit→Act→World→Prop}(hL:jy S)(hT:il T)(hR:NL mk R S h0 T){i:Nat}{o:Oper}{a:Act}{m:Kq}(hi:ops[i]?=some o){K:Act→Kq→Prop}(h:stepT P md ops mk R Sh T S h0 i o K a m){w:World}(hS:Holds mk S h0 T m w)
 {K':Act→World→Prop} (hK:∀a' m' w',Holds mk S h0 T m' w'→K a' m'→K' a' w'):wpOp P ops Q i K' a w:=by
 unfold Go.wpOp;simp only[hi];unfold stepT at h;cases S8:T i with
 |some Φ=>
  simp only[S8]at h;obtain⟨⟨hw,hv⟩,hk⟩:=h;simp only[hw,if_true];refine .inl ?_;have:=hv w hS.s hS.big ⟨fun k v Φ _ hv hΦ=>hS.told k v Φ hv hΦ,fun k g o _ hg=>hS.lL k g o hg⟩;have fin:∀u w',(Sh i u∧Φ u w')→R i w w'→K' (a.put o.dst u) w':=fun u w' ⟨hsu,hu⟩ hb=>by
   refine hK _ (m.told i u) _ ⟨hR.s i _ _ hS.s hb,Nat.le_trans hS.big (hR.size i _ _ hb),fun k g o hm=>?_,fun k v Ψ Pk hΨ=>?_,hS.Ub⟩ (hk u hsu)
   ·obtain⟨h1,h2⟩:=hS.lL k g o hm;cases hmk:mk with
    |true=>exact⟨hR.block hmk i _ _ hb g o h2 h1,h2⟩
    |false=>
     have e:m.bl=Made.none:=hS.Ub hmk;have hm':m.bl k=some (g,o):=hm;rw[e]at hm';cases hm'
   unfold Kq.told at Pk
   simp only at Pk
   split at Pk
   ·rename_i e;subst e;rw[S8]at hΨ;injection hΨ with hΨ
    injection Pk with Pk
    subst hΨ Pk;exact hu
   ·rename_i hne;exact hR.told i k Ψ (fun e=>hne e.symm) hΨ v _ _ (hS.told k v Ψ Pk hΨ) hb
  unfold Oper.wp;generalize (execOp a.eval o).run P w=r at*;cases r with
  |ok n w'=>
   cases n<;>simp only[qY]at this;case value u=>exact fin _ _ this.1 this.2
   case skip=>exact fin _ _ this.1 this.2
   case enter f args=>
    refine Calls.mono this fun e w'' he=>?_
    obtain⟨u,rfl,hu,hb⟩:=he;exact fin _ _ hu hb
  |halt x w'=>simp only[qY]at this
 |none=>
  simp only[S8]at h;rcases h with⟨v,hy,hk⟩|⟨hmk,V,b,⟨hw,hv⟩,hk⟩
  ·rcases hy with⟨hw,hv⟩|⟨hw,rfl⟩
   ·simp only[hw,if_true];refine .inl ?_;have:=hv w hS.s;unfold Oper.wp;generalize (execOp a.eval o).run P w=r at*;cases r with
    |ok n w'=>
     cases n<;>simp only[j6]at this;case value u=>obtain⟨rfl,rfl⟩:=this;exact hK _ _ _ hS hk
     case skip=>obtain⟨rfl,rfl⟩:=this;exact hK _ _ _ hS hk
    |halt x w'=>simp only[j6]at this
   ·simp only[hw,Bool.false_eq_true,if_false];exact hK _ _ _ hS hk
  ·simp only[hw,if_true];refine .inl ?_;unfold Oper.wp;rw[hv w hS.s];exact hK _ _ _ (hS.made hmk hL hT) (hk _)
theorem GV{T:Nat→Option Fact}(PY:∀i,∃v,Sh i v){w0:World}(hS:S w0){i j:Nat}{oi oj:Oper}(hji:j≠i)(hj:ops[j]?=some oj)(hap:oi.apart ops oj=true)(haj:kj md ops ops.size j i=false)(hai:kj md ops ops.size i j=false)
 (hsi:∀cs b,oi.op≠ .select cs b) (hsj:∀cs b,oj.op≠ .select cs b) {K:Act→Kq→Prop} {a:Act} {m:Kq}
 (h:stepT P md ops mk R Sh T S h0 i oi (fun a' m'=>QM P md ops mk R Sh T S h0 j K a' m') a m):
 QM P md ops mk R Sh T S h0 j (fun a' m'=>stepT P md ops mk R Sh T S h0 i oi K a' m') a m:=by
 obtain⟨h1,h2,h3⟩:=Oper.apart_spec hap;unfold QM at*;simp only[hj]at*;have yj:∀{v u:Value},dF P ops S oj u (a.put oi.dst v)→dF P ops S oj u a:=fun{v u} hy=>hy.of_same (execOp_put oj hsj a oi.dst v h1).symm (wanted_put oj a oi.dst v h1).symm
 have mj:∀{v:Value} {V b},eN P ops S oj V b (a.put oi.dst v)→eN P ops S oj V b a:=fun{v V b} hy=>hy.of_same (execOp_put oj hsj a oi.dst v h1).symm (wanted_put oj a oi.dst v h1).symm
 have yi:∀{v u:Value},dF P ops S oi v a→dF P ops S oi v (a.put oj.dst u):=fun{v u} hy=>hy.of_same (execOp_put oi hsi a oj.dst u h3) (wanted_put oi a oj.dst u h3)
 have mi:∀{u:Value} {V b},eN P ops S oi V b a→eN P ops S oi V b (a.put oj.dst u):=fun{u V b} hy=>hy.of_same (execOp_put oi hsi a oj.dst u h3) (wanted_put oi a oj.dst u h3)
 have nj:∀k,kj md ops ops.size j k=true→k≠i:=fun k hk e=>by subst e;rw[haj]at hk;cases hk
 have ni:∀k,kj md ops ops.size i k=true→k≠j:=fun k hk e=>by subst e;rw[hai]at hk;cases hk
 have djt:∀{v:Value} {Ψ:Fact},fW P md ops R Sh T S h0 j oj Ψ (a.put oi.dst v) (m.told i v)→fW P md ops R Sh T S h0 j oj Ψ a m:=fun{v Ψ} hy=>hy.of_same (execOp_put oj hsj a oi.dst v h1).symm (wanted_put oj a oi.dst v h1).symm fun k hk=>by simp[Kq.told,nj k hk]
 have djm:∀{v:Value} {g:Nat} {b:Obj} {Ψ:Fact},fW P md ops R Sh T S h0 j oj Ψ (a.put oi.dst v) (m.make i g b)→fW P md ops R Sh T S h0 j oj Ψ a m:=fun{v g b Ψ} hy=>hy.of_same (execOp_put oj hsj a oi.dst v h1).symm (wanted_put oj a oi.dst v h1).symm fun k hk=>by simp[Kq.make,Made.add,nj k hk]
 have djn:∀{v:Value} {Ψ:Fact},fW P md ops R Sh T S h0 j oj Ψ (a.put oi.dst v) m→fW P md ops R Sh T S h0 j oj Ψ a m:=fun{v Ψ} hy=>hy.of_same (execOp_put oj hsj a oi.dst v h1).symm (wanted_put oj a oi.dst v h1).symm fun k hk=>⟨rfl,rfl⟩
 have dit:∀{u:Value} {Φ:Fact},fW P md ops R Sh T S h0 i oi Φ a m→fW P md ops R Sh T S h0 i oi Φ (a.put oj.dst u) (m.told j u):=fun{u Φ} hy=>hy.of_same (execOp_put oi hsi a oj.dst u h3) (wanted_put oi a oj.dst u h3) fun k hk=>by simp[Kq.told,ni k hk]
 have dim:∀{u:Value} {g:Nat} {b:Obj} {Φ:Fact},fW P md ops R Sh T S h0 i oi Φ a m→fW P md ops R Sh T S h0 i oi Φ (a.put oj.dst u) (m.make j g b):=fun{u g b Φ} hy=>hy.of_same (execOp_put oi hsi a oj.dst u h3) (wanted_put oi a oj.dst u h3) fun k hk=>by simp[Kq.make,Made.add,ni k hk]
 have din:∀{u:Value} {Φ:Fact},fW P md ops R Sh T S h0 i oi Φ a m→fW P md ops R Sh T S h0 i oi Φ (a.put oj.dst u) m:=fun{u Φ} hy=>hy.of_same (execOp_put oi hsi a oj.dst u h3) (wanted_put oi a oj.dst u h3) fun k hk=>⟨rfl,rfl⟩
 unfold stepT at*;cases S8:T i with
 |some Φ=>
  cases hTj:T j with
  |some Ψ=>
   simp only[S8,hTj]at h⊢;obtain⟨hd,hk⟩:=h;obtain⟨v0,hv0⟩:=PY i;exact⟨djt (hk v0 hv0).1,fun u hu=>⟨dit hd,fun v hv=>by rw[←Act.put_comm a v u h2,←Kq.zY m (Ne.symm hji)];exact(hk v hv).2 u hu⟩⟩
  |none=>
   simp only[S8,hTj]at h⊢;obtain⟨hd,hk⟩:=h;obtain⟨v0,hv0⟩:=PY i;rcases hk v0 hv0 with⟨u,hu,_⟩|⟨hmk,U,c,hu,_⟩
   ·refine .inl ⟨u,yj hu,din hd,fun v hv=>?_⟩;rcases hk v hv with⟨u',hu',hk'⟩|⟨_,U',c',hu',_⟩
    ·obtain rfl:=dF.one hS (yj hu) (yj hu');rw[←Act.put_comm a v u h2];exact hk'
    ·exact absurd (fJ hS (yj hu) (mj hu')) id
   ·refine .inr ⟨hmk,U,c,mj hu,fun g'=>⟨dim hd,fun v hv=>?_⟩⟩;rcases hk v hv with⟨u',hu',_⟩|⟨_,U',c',hu',hk'⟩
    ·exact absurd (fJ hS (yj hu') (mj hu)) id
    ·obtain⟨rfl,rfl⟩:=eN.one hS (mj hu) (mj hu');rw[←Act.put_comm a v (dR U g') h2];exact hk' g'
 |none=>
  cases hTj:T j with
  |some Ψ=>
   simp only[S8,hTj]at h⊢;rcases h with⟨v,hy,hd,hk⟩|⟨hmk,V,b,hy,hk⟩
   ·exact⟨djn hd,fun u hu=>.inl ⟨v,yi hy,by rw[←Act.put_comm a v u h2];exact hk u hu⟩⟩
   ·exact⟨djm (hk 0).1,fun u hu=>.inr ⟨hmk,V,b,mi hy,fun g=>by rw[←Act.put_comm a (dR V g) u h2];exact(hk g).2 u hu⟩⟩
  |none=>
   simp only[S8,hTj]at h⊢;rcases h with⟨v,hy,hk⟩|⟨hmk,V,b,hy,hk⟩
   ·rcases hk with⟨u,hu,hk⟩|⟨hmk,U,c,hu,hk⟩
    ·exact .inl ⟨u,yj hu,.inl ⟨v,yi hy,by rw[←Act.put_comm a v u h2];exact hk⟩⟩
    ·exact .inr ⟨hmk,U,c,mj hu,fun g=>.inl ⟨v,yi hy,by rw[←Act.put_comm a v (dR U g) h2];exact hk g⟩⟩
   ·rcases hk 0 with⟨u,hu,_⟩|⟨_,U,c,hu,_⟩
    ·refine .inl ⟨u,yj hu,.inr ⟨hmk,V,b,mi hy,fun g=>?_⟩⟩;rcases hk g with⟨u',hu',hk'⟩|⟨_,U',c',hu',_⟩
     ·obtain rfl:=dF.one hS (yj hu) (yj hu');rw[←Act.put_comm a (dR V g) u h2];exact hk'
     ·exact absurd (fJ hS (yj hu) (mj hu')) id
    ·refine .inr ⟨hmk,U,c,mj hu,fun g'=>.inr ⟨hmk,V,b,mi hy,fun g=>?_⟩⟩;rcases hk g with⟨u',hu',_⟩|⟨_,U',c',hu',hk'⟩
     ·exact absurd (fJ hS (yj hu') (mj hu)) id
     ·obtain⟨rfl,rfl⟩:=eN.one hS (mj hu) (mj hu');rw[←Act.put_comm a (dR V g) (dR U g') h2,←Kq.xY m (Ne.symm hji)];exact hk' g'
structure Np (md:Region.Mode) (ops:Array Oper) (tl:List Nat) (listed:Array Bool):Prop where
 size:listed.size=ops.size
 closed:rL md ops listed
 tail:∀t∈tl,t<ops.size→listed.getD t true=false
theorem Np.set{tl:List Nat}{i:Nat}{listed:Array Bool}(inv:Np md ops tl listed)(hi:i∈Region.ready md ops listed)(hin:i ∉tl):Np md ops tl (listed.setIfInBounds i true):=by
 obtain⟨_,oi,hoi,hall⟩:=mem_ready.1 hi;refine⟨by simp[inv.size],fun j oj hj hl e he hb=>?_,fun t ht ht'=>by rw[getD_set_ne true (fun e=>hin (by rw[e];exact ht))];exact inv.tail t ht ht'⟩;by_cases hij:i=j
 ·subst hij;have:oj=oi:=Option.some.inj (hj.symm.trans hoi);subst this;exact getD_set_true (hall e he hb)
 ·rw[getD_set_ne false hij]at hl;exact getD_set_true (inv.closed j oj hj hl e he hb)
def xj(md:Region.Mode)(ops:Array Oper)(t0:Nat):List Nat→Bool
 |[]=>true
 |i::ys=>((ys++[t0]).any fun j=>Region.waitsFor md ops j i)&&xj md ops t0 ys
def ba(md:Region.Mode)(ops:Array Oper):List Nat→Bool
 |t::t'::ts=>Region.waitsFor md ops t' t&&ba md ops (t'::ts)
 |_=>true
theorem vm{t0:Nat}{listed:Array Bool}(ht:listed.getD t0 true=false)(inv:rL md ops listed)(hsz:listed.size=ops.size):∀(hl:List Nat),xj md ops t0 hl=true→∀i∈hl,i<ops.size→listed.getD i true=false→t0 ∉Region.ready md ops listed:=by
 intro hl;induction hl with
 |nil=>intro _ i hi;cases hi
 |cons x ys ih=>
  intro hs i hi hlt hun hr;simp only[xj,Bool.and_eq_true]at hs;rcases List.mem_cons.1 hi with rfl|hi
  ·obtain⟨j,hj,hj2⟩:=List.any_eq_true.1 hs.1;obtain⟨oj,hoj,e,he,hb,hon⟩:=Region.waitsFor_spec hj2;rcases List.mem_append.1 hj with hj|hj
   ·cases hl:listed.getD j false with
    |true=>
     have h2:=inv j oj hoj hl e he hb;rw[hon,getD_both hun]at h2;cases h2
    |false=>
     have hjs:j<ops.size:=(Array.getElem?_eq_some_iff.1 hoj).1;exact ih hs.2 j hj hjs (getD_in (by rw[hsz];exact hjs) hl) hr
   ·have:j=t0:=by simpa using hj
    subst this;obtain⟨_,ot,hot,hall⟩:=mem_ready.1 hr;have:oj=ot:=Option.some.inj (hoj.symm.trans hot);subst this;have h2:=hall e he hb;rw[hon,getD_both hun]at h2;cases h2
  ·exact ih hs.2 i hi hlt hun hr
theorem uw{listed:Array Bool}:∀(tl:List Nat),(∀t∈tl,listed.getD t true=false)→ba md ops tl=true→∀t∈tl.tail,t ∉Region.ready md ops listed:=by
 intro tl;induction tl with
 |nil=>intro _ _ t ht;cases ht
 |cons t ts ih=>
  intro ht hc;cases ts with
  |nil=>intro t ht;cases ht
  |cons t' ts=>
   simp only[ba,Bool.and_eq_true]at hc;intro u hu hr;rcases List.mem_cons.1 hu with rfl|hu
   ·obtain⟨oj,hoj,e,he,hb,hon⟩:=Region.waitsFor_spec hc.1;obtain⟨_,ot,hot,hall⟩:=mem_ready.1 hr;have:oj=ot:=Option.some.inj (hoj.symm.trans hot);subst this;have h2:=hall e he hb;rw[hon,getD_both (ht t List.mem_cons_self)]at h2;cases h2
   ·exact ih (fun x hx=>ht x (List.mem_cons_of_mem _ hx)) hc.2 u hu hr
def vK(md:Region.Mode)(ops:Array Oper)(hl tl:List Nat)(Li:Array Bool):Prop:=
 ∀listed,Np md ops tl listed→(∀j,Li.getD j true=true→listed.getD j true=true)→(∃i∈hl,i<ops.size∧listed.getD i true=false)→∀j∈Region.ready md ops listed,j∈hl∧j ∉tl
theorem ug{Li listed:Array Bool}{j:Nat}(h:∀k,Li.getD k true=true→listed.getD k true=true)(k:Nat)(hk:Li.getD k true=true):(listed.setIfInBounds j true).getD k true=true:=by
 by_cases hjk:j=k
 ·subst hjk;rcases Nat.lt_or_ge j listed.size with h'|h'
  ·simp[h']
  ·simp
 ·rw[getD_set_ne true hjk];exact h k hk
def mE(P:Program)(md:Region.Mode)(ops:Array Oper)(mk:Bool)(R:Nat→World→World→Prop)(Sh:Nat→Value→Prop)(T:Nat→Option Fact)(S:World→Prop)(h0:Nat)(hl tl:List Nat)(L:Array Bool→Act→Kq→Prop):Nat→Array Bool→Act→Kq→Prop
 |0,listed,a,m=>L listed a m
 |f+1,listed,a,m=>
  Region.ready md ops listed≠[]∧∀i∈Region.ready md ops listed,(i∈hl∧i ∉tl)∧QM P md ops mk R Sh T S h0 i (mE P md ops mk R Sh T S h0 hl tl L f (listed.setIfInBounds i true)) a m
theorem ku{T:Nat→Option Fact}(S9:jy S)(hT:il T)(hR:NL mk R S h0 T){hl tl:List Nat}{g:Nat}{L:Array Bool→Act→Kq→Prop}{Q':Exit→Act→World→Prop}(hL:∀listed a m w,Holds mk S h0 T m w→L listed a m→wpAny P md ops Q' g listed a w):
 ∀(f:Nat) (listed:Array Bool) (a:Act) (m:Kq) (w:World),Holds mk S h0 T m w→mE P md ops mk R Sh T S h0 hl tl L f listed a m→wpAny P md ops Q' (f+g) listed a w
 |0,listed,a,m,w,hS,h=>by rw[Nat.zero_add];exact hL _ _ _ _ hS h
 |f+1,listed,a,m,w,hS,h=>by
  rw[show f+1+g=(f+g)+1 by omega]
  refine⟨fun h0=>absurd h0 h.1,fun i hi=>?_⟩
  have hf:=(h.2 i hi).2
  obtain⟨_,o,ho,_⟩:=mem_ready.1 hi
  unfold QM at hf
  simp only[ho]at hf
  exact AT S9 hT hR ho hf hS fun a' m' w' hS' hk=>ku S9 hT hR hL f _ a' m' w' hS' hk
theorem qT{T:Nat→Option Fact}(PY:∀i,∃v,Sh i v){w0:World}(hS:S w0){hl tl:List Nat}{Li:Array Bool}{i:Nat}{oi:Oper}{L:Array Bool→Act→Kq→Prop}(hi:ops[i]?=some oi)(Wf:i∈hl)(hitl:i ∉tl)(hsel:∀(j:Nat) (o:Oper) cs b,ops[j]?=some o→o.op≠ .select cs b)
 (hw:vK md ops hl tl Li) (hdone:∀listed a m,L listed a m→∀j∈Region.ready md ops listed,j∈tl):
 ∀(f:Nat) (listed:Array Bool) (a:Act) (m:Kq),Np md ops tl listed→(∀j,Li.getD j true=true→listed.getD j true=true)→
  (∀j oj,ops[j]?=some oj→j≠i→listed.getD j true=false→(∀e∈oj.after,Region.binds md e=true→e.on≠i)→oi.apart ops oj=true)→
  i∈Region.ready md ops listed→
  stepT P md ops mk R Sh T S h0 i oi (mE P md ops mk R Sh T S h0 hl tl L f (listed.setIfInBounds i true)) a m→mE P md ops mk R Sh T S h0 hl tl L (f+1) listed a m:=by
 have self:∀{K:Act→Kq→Prop} {a:Act} {m:Kq},stepT P md ops mk R Sh T S h0 i oi K a m→QM P md ops mk R Sh T S h0 i K a m:=fun h=>by
  unfold QM
  simp only[hi]
  exact h
 have hilt:i<ops.size:=(Array.getElem?_eq_some_iff.1 hi).1;intro f;induction f with
 |zero=>
  intro listed a m inv hmore _ hr H;have hun:=(mem_ready.1 hr).1;refine⟨fun h=>(by rw[h]at hr;cases hr),fun j hj=>?_⟩;have hjn:=hw listed inv hmore ⟨i,Wf,hilt,hun⟩ j hj;refine⟨hjn,?_⟩;by_cases hji:j=i
  ·subst hji;exact self H
  ·exfalso;have:=ready_mono hj hji;unfold stepT at H;refine hjn.2 ?_;split at H
   ·obtain⟨v0,hv0⟩:=PY i;exact hdone _ _ _ (H.2 v0 hv0) j this
   ·rcases H with⟨v,_,hk⟩|⟨_,V,b,_,hk⟩
    ·exact hdone _ _ _ hk j this
    ·exact hdone _ _ _ (hk 0) j this
 |succ f ih=>
  intro listed a m inv hmore hfree hr H;obtain⟨hun,oi',Zf,Wg⟩:=mem_ready.1 hr;have hoe:oi'=oi:=Option.some.inj (Zf.symm.trans hi);subst hoe;refine⟨fun h=>(by rw[h]at hr;cases hr),fun j hj=>?_⟩;have hjn:=hw listed inv hmore ⟨i,Wf,hilt,hun⟩ j hj;refine⟨hjn,?_⟩;by_cases hji:j=i
  ·subst hji;exact self H
  ·obtain⟨hjun,oj,hoj,hall⟩:=mem_ready.1 hj;have hnot:∀e∈oj.after,Region.binds md e=true→e.on≠i:=fun e he hb heq=>by
    have h1:=hall e he hb
    rw[heq,getD_both hun]at h1
    cases h1
   have haj:kj md ops ops.size j i=false:=by
    cases h:kj md ops ops.size j i with
    |false=>rfl
    |true=>
     have:=oU inv.closed _ j oj hoj hall h;rw[getD_both hun]at this;cases this
   have hai:kj md ops ops.size i j=false:=by
    cases h:kj md ops ops.size i j with
    |false=>rfl
    |true=>
     have:=oU inv.closed _ i oi' hi Wg h;rw[getD_both hjun]at this;cases this
   have h1:stepT P md ops mk R Sh T S h0 i oi' (fun a' m'=>QM P md ops mk R Sh T S h0 j (mE P md ops mk R Sh T S h0 hl tl L f ((listed.setIfInBounds i true).setIfInBounds j true)) a' m') a m:=jn (fun a' m' h'=>(h'.2 j (ready_mono hj hji)).2) H;have h2:=GV PY hS hji hoj (hfree j oj hoj hji hjun hnot) haj hai (fun cs b=>hsel i oi' cs b hi) (fun cs b=>hsel j oj cs b hoj) h1;have hfree':∀k ok,ops[k]?=some ok→k≠i→(listed.setIfInBounds j true).getD k true=false→
    (∀e∈ok.after,Region.binds md e=true→e.on≠i)→oi'.apart ops ok=true:=fun k ok hk hki hun hno=>by
    refine hfree k ok hk hki ?_ hno
    by_cases hjk:j=k
    ·subst hjk;exact hjun
    ·rw[getD_set_ne true hjk]at hun;exact hun
   refine AQ (fun a' m' h3=>ih (listed.setIfInBounds j true) a' m' (inv.set hj hjn.2) (fun k hk=>ug hmore k hk) hfree' (ready_mono hr (Ne.symm hji)) ?_) h2;rw[Array.setIfInBounds_comm _ _ hji];exact h3
def kH(P:Program)(md:Region.Mode)(ops:Array Oper)(mk:Bool)(R:Nat→World→World→Prop)(Sh:Nat→Value→Prop)(T:Nat→Option Fact)(S:World→Prop)(h0:Nat)(Q:Act→Kq→Prop):List Nat→Act→Kq→Prop
 |[],a,m=>Q a m
 |i::rest,a,m=>match ops[i]? with
  |some o=>stepT P md ops mk R Sh T S h0 i o (kH P md ops mk R Sh T S h0 Q rest) a m
  |none=>False
def rS(md:Region.Mode)(ops:Array Oper):List Nat→Array Bool→Bool
 |[],listed=>(Region.ready md ops listed).isEmpty
 |t::ts,listed=>decide (Region.ready md ops listed=[t])&&rS md ops ts (listed.setIfInBounds t true)
def BI(md:Region.Mode)(ops:Array Oper)(tl:List Nat):List Nat→Array Bool→Bool
 |[],listed=>rS md ops tl listed
 |i::rest,listed=>(Region.ready md ops listed).contains i&&Region.free md ops listed i&&BI md ops tl rest (listed.setIfInBounds i true)
theorem kx{Q':Exit→Act→World→Prop}:∀(tl:List Nat) (listed:Array Bool) (a:Act) (w:World),
 rS md ops tl listed=true→wpList P ops Q' (tl.filterMap fun t=>ops[t]?) a w→wpAny P md ops Q' tl.length listed a w
 |[],_,_,_,hB,h=>⟨by simpa[rS]using hB,h⟩
 |t::ts,listed,a,w,hB,h=>by
  simp only[rS,Bool.and_eq_true,decide_eq_true_eq]at hB
  obtain⟨_,o,ho,_⟩:=mem_ready.1 (show t∈Region.ready md ops listed by rw[hB.1];exact List.mem_cons_self)
  refine⟨fun h1=>(by rw[hB.1]at h1;cases h1),fun i hi=>?_⟩
  rw[hB.1]at hi
  have hik:i=t:=by simpa using hi
  subst hik
  rw[List.filterMap_cons_some ho]at h
  have hw:wpOp P ops Q' i (wpList P ops Q' (ts.filterMap fun t=>ops[t]?)) a w:=by unfold wpOp;simp only[ho];exact h
  exact wpOp_mono (fun a' w' h'=>kx ts _ a' w' hB.2 h') hw
theorem we{tl:List Nat}{listed:Array Bool}(h:rS md ops tl listed=true):∀j∈Region.ready md ops listed,j∈tl:=by
 cases tl with
 |nil=>intro j hj;simp only[rS,List.isEmpty_iff]at h;rw[h]at hj;cases hj
 |cons t ts=>
  intro j hj;simp only[rS,Bool.and_eq_true,decide_eq_true_eq]at h;rw[h.1]at hj;have:j=t:=by simpa using hj
  rw[this];exact List.mem_cons_self
theorem pn{T:Nat→Option Fact}(PY:∀i,∃v,Sh i v){w0:World}(hS:S w0){hl tl:List Nat}{Li:Array Bool}{Lq:Act→Kq→Prop}(hsel:Region.noSelect ops=true)(hw:vK md ops hl tl Li)(QN:∀i∈hl,i ∉tl):
 ∀(l:List Nat) (listed:Array Bool) (a:Act) (m:Kq),(∀i∈l,i∈hl)→Np md ops tl listed→(∀j,Li.getD j true=true→listed.getD j true=true)→BI md ops tl l listed=true→kH P md ops mk R Sh T S h0 Lq l a m→
 mE P md ops mk R Sh T S h0 hl tl (fun listed' a' m'=>rS md ops tl listed'=true∧Lq a' m') l.length listed a m
 |[],listed,a,m,_,inv,_,hB,h=>⟨by simpa[BI]using hB,h⟩
 |i::l,listed,a,m,hsub,inv,hmore,hB,h=>by
  simp only[BI,Bool.and_eq_true]at hB
  obtain⟨⟨hr,hf⟩,hB'⟩:=hB
  have hr':i∈Region.ready md ops listed:=by simpa using hr
  obtain⟨_,o,ho,_⟩:=mem_ready.1 hr'
  simp only[kH,ho]at h
  have hi:=hsub i List.mem_cons_self
  exact qT PY hS ho hi (QN i hi) (Region.noSelect_spec hsel) hw (fun listed' a' m' hL=>we hL.1) l.length listed a m inv hmore (Region.free_spec ho hf) hr'
   (jn (fun a' m' h'=>pn PY hS hsel hw QN l _ a' m' (fun k hk=>hsub k (List.mem_cons_of_mem _ hk)) (inv.set hr' (QN i hi)) (fun k hk=>ug hmore k hk) hB' h') h)
def xw(md:Region.Mode)(ops:Array Oper)(listed:Array Bool):Bool:=
 (List.range ops.size).all fun j=>!listed.getD j false||((ops[j]?).map (·.after.all fun e=>!Region.binds md e||listed.getD e.on false)).getD true
theorem rB{listed:Array Bool}(h:xw md ops listed=true):rL md ops listed:=by
 intro j oj hj hl e he hb;have h1:=List.all_eq_true.1 h j (List.mem_range.2 (Array.getElem?_eq_some_iff.1 hj).1);simp only[hl,hj,Bool.not_true,Bool.false_or,Option.map_some,Option.getD_some]at h1;have h2:=Array.all_eq_true_iff_forall_mem.1 h1 e he;simp only[hb,Bool.not_true,Bool.false_or]at h2;exact h2
def xG(md:Region.Mode)(ops:Array Oper)(hl tl:List Nat)(listed:Array Bool):Bool:=
 Region.noSelect ops&&decide (listed.size=ops.size)&&xw md ops listed&&((List.range ops.size).all fun i=>listed.getD i true||hl.contains i||tl.contains i)&&(hl.all fun i=>!tl.contains i)&&
  (match tl with|t0::_=>xj md ops t0 hl|[]=>true)&&ba md ops tl&&(tl.all fun t=>decide (t<ops.size)&&!listed.getD t true)&&BI md ops tl hl listed
theorem uS{Q:Exit→Act→World→Prop}{a:Act}{w:World}{n:Nat}{listed:Array Bool}(T:Nat→Option Fact)(S:World→Prop)(h0:Nat)(hl tl:List Nat)(Sh:Nat→Value→Prop)(PY:∀i,∃v,Sh i v)(hT:il T)(S9:jy S)(R:Nat→World→World→Prop)(hR:NL mk R S h0 T)(hn:hl.length+tl.length=n)(hB:xG md ops hl tl listed=true)
 (hS:S w) (hh:h0≤w.heap.size)
 (h:kH P md ops mk R Sh T S h0 (fun a' m'=>∀w',Holds mk S h0 T m' w'→wpList P ops Q (tl.filterMap fun t=>ops[t]?) a' w') hl a Kq.none):wpAny P md ops Q n listed a w:=by
 simp only[xG,Bool.and_eq_true,decide_eq_true_eq]at hB;obtain⟨⟨⟨⟨⟨⟨⟨⟨hsel,hlen⟩,Zg⟩,Zh⟩,QN⟩,Ta⟩,QO⟩,htl⟩,hlex⟩:=hB;have Wh:∀i∈hl,i ∉tl:=fun i hi ht=>by
  have:=List.all_eq_true.1 QN i hi
  simp[ht]at this
 have Wi:∀t∈tl,t<ops.size∧listed.getD t true=false:=fun t ht=>by
  have:=List.all_eq_true.1 htl t ht
  simpa using this
 have inv0:Np md ops tl listed:=⟨hlen,rB Zg,fun t ht _=>(Wi t ht).2⟩;have hw:vK md ops hl tl listed:=by
  intro listed' inv hmore hex j hj;obtain⟨i,hi,hilt,hun⟩:=hex;obtain⟨hjun,oj,hoj,_⟩:=mem_ready.1 hj;have hjlt:j<ops.size:=(Array.getElem?_eq_some_iff.1 hoj).1;have hnt:j ∉tl:=by
   intro hjt;have hall:∀t∈tl,listed'.getD t true=false:=fun t ht=>inv.tail t ht (Wi t ht).1
   cases Wj:tl with
   |nil=>rw[Wj]at hjt;cases hjt
   |cons t0 ts=>
    rw[Wj]at hjt Ta QO hall;rcases List.mem_cons.1 hjt with rfl|hjt
    ·exact vm (hall j List.mem_cons_self) inv.closed inv.size hl Ta i hi hilt hun hj
    ·exact uw (t0::ts) hall QO j hjt hj
  refine⟨?_,hnt⟩;have:=List.all_eq_true.1 Zh j (List.mem_range.2 hjlt);simp only[Bool.or_eq_true,List.contains_iff_mem]at this;rcases this with(h|h)|h
  ·have:=hmore j h;rw[hjun]at this;cases this
  ·exact h
  ·exact absurd h hnt
 have H:=pn PY hS hsel hw Wh hl _ a Kq.none (fun i hi=>hi) inv0 (fun _ h=>h) hlex h;have:=ku (h0:=h0) S9 hT hR (Q':=Q) (g:=tl.length) (fun listed a' m' w' hS' hL=>kx tl listed a' w' hL.1 (hL.2 w' hS')) _ _ _ _ _ ⟨hS,hh,fun i g o hm=>(by cases hm),fun i v Φ hv _=>(by cases hv),fun _=>rfl⟩ H;rw[hn]at this;exact this
theorem oV{id:Nat}{Q:Exit→Act→World→Prop}{a:Act}{w:World}{l:List Oper}(T:Nat→Option Fact)(S:World→Prop)(h0:Nat)(hl tl:List Nat)(Sh:Nat→Value→Prop)(PY:∀i,∃v,Sh i v)(hT:il T)(S9:jy S)(R:Nat→World→World→Prop)(hR:NL mk R S h0 T)(hm:P.follows .mixedOrders=true)(hn:hl.length+tl.length=l.toArray.size)(hB:xG .any l.toArray hl tl (Array.replicate l.toArray.size false)=true)
 (hS:S {w with drawn:=w.drawn+1}) (hh:h0≤w.heap.size)
 (h:kH P .any l.toArray mk R Sh T S h0 (fun a' m'=>∀w',Holds mk S h0 T m' w'→wpList P l.toArray Q (tl.filterMap fun t=>l.toArray[t]?) a' w') hl a Kq.none):(Code.region id l.toArray true).wp P Q a w:=
 wp_region_any hm (uS T S h0 hl tl Sh PY hT S9 R hR hn hB hS hh h)
def Up(w0 w':World):Prop:=Below w0.heap.size w0 w'
theorem Up.ek(w0:World):jy (Up w0):=fun _ _ h hb=>Below.trans h (hb.mono h.size)
theorem Up.start(w0:World):Up w0 {w0 with drawn:=w0.drawn+1}:=(Below.refl w0.heap.size w0).drew
def xl(Φ:Fact):Prop:=∀(v:Value) (w w':World),Φ v w→Below w.heap.size w w'→Φ v w'
def tab(l:List (Nat×Fact)):Nat→Option Fact:=fun i=>(l.find? (·.1==i)).map (·.2)
theorem kG{l:List (Nat×Fact)}(h:∀p∈l,xl p.2):il (tab l):=by
 intro i Φ hi v w w' hv hb;unfold tab at hi;obtain⟨p,hp,rfl⟩:=Option.map_eq_some_iff.1 hi;exact h p (List.mem_of_find?_eq_some hp) v w w' hv hb
def Pl(l:List (Nat×(Value→Prop))):Nat→Value→Prop:=fun i v=>match l.find? (·.1==i)with
 |some p=>p.2 v
 |none=>True
theorem po{l:List (Nat×(Value→Prop))}(h:∀p∈l,∃v,p.2 v):∀i,∃v,Pl l i v:=by
 intro i;unfold Pl;split
 ·rename_i p hp;exact h p (List.mem_of_find?_eq_some hp)
 ·exact⟨undef,trivial⟩
theorem J0.some(n:Nat):∃v,J0 n v:=⟨.slice Option.none n 0,_,_,rfl⟩
def NS(c:Value)(v:Value):Prop:=v=c
theorem NS.some(c:Value):∃v,NS c v:=⟨c,rfl⟩
def NT:Fact:=fun _ _=>True
theorem NT.uO:xl NT:=fun _ _ _ _ _=>trivial
variable{T:Nat→Option Fact}
def ea(P:Program)(md:Region.Mode)(ops:Array Oper)(mk:Bool)(R:Nat→World→World→Prop)(Sh:Nat→Value→Prop)(T:Nat→Option Fact)(S:World→Prop)(h0:Nat)(Q:Act→Kq→Prop):Nat→List Oper→Act→Kq→Prop
 |_,[],a,m=>Q a m
 |i,o::rest,a,m=>stepT P md ops mk R Sh T S h0 i o (ea P md ops mk R Sh T S h0 Q (i+1) rest) a m
theorem jP{Q:Act→Kq→Prop}:∀(l:List Oper) (i:Nat) (a:Act) (m:Kq),(∀j,j<l.length→ops[i+j]?=l[j]?)→ea P md ops mk R Sh T S h0 Q i l a m→kH P md ops mk R Sh T S h0 Q (List.range' i l.length) a m
 |[],_,_,_,_,h=>h
 |o::l,i,a,m,hl,h=>by
  have h0:ops[i]?=some o:=by simpa using hl 0 (by simp)
  rw[List.length_cons,List.range'_succ]
  simp only[kH,h0]
  exact jn (fun a' m' h'=>jP l (i+1) a' m' (fun j hj=>by have:=hl (j+1) (by simp;omega);simpa[Nat.add_assoc,Nat.add_comm 1 j]using this) h') h
theorem pt(l:List Oper):∀(k n:Nat),n+k=l.length→((List.range' n k).filterMap fun t=>l.toArray[t]?)=l.drop n:=by
 intro k;induction k with
 |zero=>intro n h;rw[show n=l.length by omega];simp
 |succ k ih=>
  intro n h;rw[List.range'_succ];have hn:n<l.length:=by omega
  rw[List.filterMap_cons_some (b:=l[n]) (by simp[hn]),ih (n+1) (by omega)];exact(List.drop_eq_getElem_cons hn).symm
theorem bo{id:Nat}{Q:Exit→Act→World→Prop}{a:Act}{w:World}{l:List Oper}(T:Nat→Option Fact)(S:World→Prop)(h0 n:Nat)(Sh:Nat→Value→Prop)(PY:∀i,∃v,Sh i v)(hT:il T)(S9:jy S)(R:Nat→World→World→Prop)(hR:NL mk R S h0 T)(hm:P.follows .mixedOrders=true)(hB:(decide (n≤l.length)&&xG .any l.toArray (List.range' 0 n) (List.range' n (l.length-n)) (Array.replicate l.toArray.size false))=true)
 (hS:S {w with drawn:=w.drawn+1}) (hh:h0≤w.heap.size)
 (h:ea P .any l.toArray mk R Sh T S h0 (fun a' m'=>∀w',Holds mk S h0 T m' w'→wpList P l.toArray Q (l.drop n) a' w') 0 (l.take n) a Kq.none):(Code.region id l.toArray true).wp P Q a w:=by
 simp only[Bool.and_eq_true,decide_eq_true_eq]at hB;obtain⟨hn,hB⟩:=hB;refine oV T S h0 (List.range' 0 n) (List.range' n (l.length-n)) Sh PY hT S9 R hR hm (by simp;omega) hB hS hh ?_;have h1:=jP (ops:=l.toArray) (l.take n) 0 a Kq.none (fun j hj=>by rw[List.length_take]at hj;rw[Nat.zero_add,List.getElem?_toArray,List.getElem?_take,if_pos (by omega)]) h;rw[List.length_take,Nat.min_eq_left hn]at h1;rw[pt l (l.length-n) n (by omega)];exact h1
theorem cJ{Q:Act→Kq→Prop}{i:Nat}{a:Act}{m:Kq}(h:Q a m):ea P md ops mk R Sh T S h0 Q i [] a m:=h
theorem aw{Q:Act→Kq→Prop}{i:Nat}{a:Act}{m:Kq}{o:Oper}{rest:List Oper}(v:Value)(hT:T i=none)(hw:Region.wanted o (yielded ops a.tmps)=true)
 (h:∀w,S w→(execOp a.eval o).run P w=.ok (.value v) w) (k:ea P md ops mk R Sh T S h0 Q (i+1) rest (a.put o.dst v) m):ea P md ops mk R Sh T S h0 Q i (o::rest) a m:=by
 simp only[ea,stepT,hT];exact .inl ⟨v,.inl ⟨hw,fun w hS=>by rw[h w hS];exact⟨rfl,rfl⟩⟩,k⟩
theorem ng{R:Nat→World→World→Prop}{Q:Act→Kq→Prop}{i:Nat}{a:Act}{m:Kq}{o:Oper}{rest:List Oper}(V:Option (Nat×Nat))(b:Obj)(hT:T i=none)(hw:Region.wanted o (yielded ops a.tmps)=true)
 (h:∀w,S w→(execOp a.eval o).run P w=.ok (.value (dR V w.heap.size)) (w.alloc b)) (k:∀g,ea P md ops true R Sh T S h0 Q (i+1) rest (a.put o.dst (dR V g)) (m.make i g b)):ea P md ops true R Sh T S h0 Q i (o::rest) a m:=by
 simp only[ea,stepT,hT];exact .inr ⟨trivial,V,b,⟨hw,h⟩,k⟩
theorem cq{Q:Act→Kq→Prop}{i:Nat}{a:Act}{m:Kq}{o:Oper}{rest:List Oper}(Φ:Fact)(f:FuncId)(args:Array Value)(hT:T i=some Φ)(hw:Region.wanted o (yielded ops a.tmps)=true)
 (h:∀w,(execOp a.eval o).run P w=.ok (.enter f args) w) (hc:∀w,S w→h0≤w.heap.size→Seen md ops T h0 i m w→Calls P f args w fun e w''=>∃u,e=.returned u∧(Sh i u∧Φ u w'')∧R i w w'')
 (k:∀v,Sh i v→ea P md ops mk R Sh T S h0 Q (i+1) rest (a.put o.dst v) (m.told i v)):ea P md ops mk R Sh T S h0 Q i (o::rest) a m:=by
 simp only[ea,stepT,hT];exact⟨⟨hw,fun w hS hh hs=>by rw[h w];exact hc w hS hh hs⟩,k⟩
end
end
end Go.Proofs.YtnicfobpclehkaaGreatDoor
