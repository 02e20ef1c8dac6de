import Derived.Lib.ItoaMem
import Derived.Lib.Replace
import Derived.Test.YtnicfobpclehkaaGreatDoorP7
set_option maxHeartbeats 3200000
set_option linter.unusedVariables false
set_option linter.unusedSimpArgs false
namespace Go.Proofs.YtnicfobpclehkaaGreatDoor
open Go.RowKit
structure It where
 P:World→(Nat→Prop)→Prop
 aR:∀{w w':World} {P1 P2:Nat→Prop},(∀b,P1 b→P2 b)→(∀b,P1 b→w'.heap[b]?=w.heap[b]?)→P w P1→P w' P2
def It.el{α:Type}(E:El α)(cs:List Value)(x:α):It:=⟨fun w P=>E.R w P cs x,fun h1 h2 h=>El.hp h h1 h2⟩
def It.rr{α:Type}(E:El α)(v:Value)(xs:List α):It:=⟨fun w P=>Rr E w P v xs,fun h1 h2 h=>Rr.hp h h1 h2⟩
abbrev bO:=List (Nat×TypeId×Array Value)
def fq(lo:Nat)(own:bO)(w:World):Nat→Prop:=fun b=>lo≤b∧b<w.heap.size∧∀p∈own,p.1≠b
def lu(g:Nat)(Q:World→Prop)(w:World):Prop:=∀w':World,(∀b,b≤g→w'.heap[b]?=w.heap[b]?)→Q w'
theorem lu.at{g:Nat}{Q:World→Prop}{w:World}(h:lu g Q w):Q w:=h w fun _ _=>rfl
theorem lu.mv{g:Nat}{Q:World→Prop}{w w':World}(h:lu g Q w)(hk:∀b,b≤g→w'.heap[b]?=w.heap[b]?):lu g Q w':=fun w2 h2=>h w2 fun b hb=>(h2 b hb).trans (hk b hb)
theorem PS.aJ{C:RC}{st:I.St}{w:World}(h:PS C st w):lu C.g (PS C st) w:=fun w' hk=>by
 obtain⟨⟨k,h1,h2⟩,h3,h4⟩:=h
 exact⟨⟨k,(hk C.g (Nat.le_refl _)).trans h1,h2⟩,h3.aR fun p hp=>World.cell?_of_block (hk p.block (by omega)),h4.aR fun b o hb=>World.cell?_of_block (a:=⟨b,o,none⟩) (hk b (by have:=C.six;omega))⟩
structure Fr (g:Nat) (w0:World) (ow:bO) (its:List It) (Q:World→Prop) (w:World):Prop where
 lt:g<w0.heap.size
 ps:lu g Q w
 ch:Ch g w0.heap.size w0 w
 own:∀p∈ow,w0.heap.size≤p.1∧Kn w p.1 p.2.1 p.2.2
 nd:ow.Pairwise fun p q=>p.1≠q.1
 its:∀F∈its,F.P w (fq w0.heap.size ow w)
section
variable{g:Nat}{w0 w w':World}{own:bO}{its:List It}{Q Q':World→Prop}
theorem Fr.q(h:Fr g w0 own its Q w):Q w:=h.ps.at
theorem Fr.start(hg:g<w.heap.size)(h:lu g Q w):Fr g w [] [] Q w:=
 ⟨hg,h,Ch.refl _ _ _,fun p hp=>by simp at hp,List.Pairwise.nil,fun F hF=>by simp at hF⟩
theorem Fr.tmp(h:Fr g w0 own its Q w)(o:Obj):Fr g w0 own its Q (w.alloc o):=by
 have hs:=h.ch.size;have hl:=h.lt;refine⟨h.lt,h.ps.mv fun b hb=>Below.heap_alloc w o b (by omega),h.ch.alloc hs o,fun p hp=>⟨(h.own p hp).1,(h.own p hp).2.alloc o⟩,h.nd,fun F hF=>F.aR (fun b hb=>⟨hb.1,by have:=hb.2.1;simp;omega,hb.2.2⟩) (fun b hb=>Below.heap_alloc w o b hb.2.1) (h.its F hF)⟩
theorem Fr.new(h:Fr g w0 own its Q w)(t:TypeId)(cs:Array Value):Fr g w0 ((w.heap.size,t,cs)::own) its Q (w.alloc (.cells cs t)):=by
 have hs:=h.ch.size;have hl:=h.lt;refine⟨h.lt,h.ps.mv fun b hb=>Below.heap_alloc w _ b (by omega),h.ch.alloc hs _,fun p hp=>?_,?_,fun F hF=>F.aR (fun b hb=>⟨hb.1,by have:=hb.2.1;simp;omega,fun p hp=>?_⟩) (fun b hb=>Below.heap_alloc w _ b hb.2.1) (h.its F hF)⟩
 ·rcases List.mem_cons.1 hp with rfl|hp
  ·exact⟨hs,Kn.new w t cs⟩
  ·exact⟨(h.own p hp).1,(h.own p hp).2.alloc _⟩
 ·refine List.Pairwise.cons (fun p hp=>?_) h.nd;have:=(h.own p hp).2.lt;show w.heap.size≠p.1;omega
 ·rcases List.mem_cons.1 hp with rfl|hp
  ·show w.heap.size≠b;have:=hb.2.1;omega
  ·exact hb.2.2 p hp
theorem Fr.call(h:Fr g w0 own its Q w)(hq:lu g Q' w')(hc:Ch g w.heap.size w w'):Fr g w0 own its Q' w':=by
 have hs:=h.ch.size;have hl:=h.lt;refine⟨h.lt,hq,h.ch.trans hc hs,fun p hp=>⟨(h.own p hp).1,(h.own p hp).2.ch hc (h.own p hp).2.lt (by have:=(h.own p hp).1;omega)⟩,h.nd,fun F hF=>F.aR (fun b hb=>⟨hb.1,Nat.lt_of_lt_of_le hb.2.1 hc.size,hb.2.2⟩) (fun b hb=>hc.block b hb.2.1 (by have:=hb.1;omega)) (h.its F hF)⟩
theorem Fr.quiet(h:Fr g w0 own its Q w)(hc:Below w.heap.size w w'):Fr g w0 own its Q w':=by
 have hs:=h.ch.size;have hl:=h.lt;exact h.call (h.ps.mv fun b hb=>hc.block b (by omega)) ⟨hc.os,hc.tape,hc.output,hc.size,fun k hk _=>hc.block k hk⟩
theorem Fr.nS(h:Fr g w0 own its Q w)(F:It)(hq:lu g Q' w')(hc:Ch g w.heap.size w w')(hF:F.P w' (In w.heap.size w'.heap.size)):Fr g w0 own (F::its) Q' w':=by
 have h2:=h.call hq hc;refine⟨h2.lt,h2.ps,h2.ch,h2.own,h2.nd,fun G hG=>?_⟩;rcases List.mem_cons.1 hG with rfl|hG
 ·have hs:=h.ch.size;exact G.aR (fun b hb=>⟨Nat.le_trans hs hb.1,hb.2,fun p hp=>by have:=(h.own p hp).2.lt;have:=hb.1;omega⟩) (fun _ _=>rfl) hF
 ·exact h2.its G hG
theorem Fr.drew(h:Fr g w0 own its Q w)(n:Nat):Fr g w0 own its Q (w.drewN n):=
 ⟨h.lt,h.ps.mv fun _ _=>rfl,h.ch.drew n,h.own,h.nd,fun F hF=>F.aR (w:=w) (fun _ h=>h) (fun _ _=>rfl) (h.its F hF)⟩
theorem Fr.item(h:Fr g w0 own its Q w)(F:It)(hF:F.P w (fq w0.heap.size own w)):Fr g w0 own (F::its) Q w:=
 ⟨h.lt,h.ps,h.ch,h.own,h.nd,fun G hG=>by
  rcases List.mem_cons.1 hG with rfl|hG
  ·exact hF
  ·exact h.its G hG⟩
theorem Fr.ab{b:Nat}{t:TypeId}{cs:Array Value}(h:Fr g w0 ((b,t,cs)::own) its Q w):Kn w b t cs:=(h.own _ List.mem_cons_self).2
theorem Fr.ah{p:Nat×TypeId×Array Value}{b:Nat}{t:TypeId}{cs:Array Value}(h:Fr g w0 (p::(b,t,cs)::own) its Q w):Kn w b t cs:=(h.own (b,t,cs) (by simp)).2
theorem Fr.aS{p q:Nat×TypeId×Array Value}{b:Nat}{t:TypeId}{cs:Array Value}(h:Fr g w0 (p::q::(b,t,cs)::own) its Q w):Kn w b t cs:=(h.own (b,t,cs) (by simp)).2
theorem Fr.gu{b:Nat}{t:TypeId}{cs:Array Value}(h:Fr g w0 ((b,t,cs)::own) its Q w)(hc:Ch b w.heap.size w w'){cs':Array Value}(hb:Kn w' b t cs'):Fr g w0 ((b,t,cs')::own) its Q w':=by
 have hs:=h.ch.size;have hl:=h.lt;have h0:=h.own _ List.mem_cons_self;have hbl:=h0.2.lt;have hnd:=h.nd;rw[List.pairwise_cons]at hnd;have h01:w0.heap.size≤b:=h0.1;refine⟨h.lt,h.ps.mv fun k hk=>hc.block k (by omega) (by omega),⟨hc.os.trans h.ch.os,hc.tape.trans h.ch.tape,hc.output.trans h.ch.output,Nat.le_trans h.ch.size hc.size,fun k hk hg=>(hc.block k (by omega) (by omega)).trans (h.ch.block k hk hg)⟩,fun p hp=>?_,List.pairwise_cons.2 ⟨hnd.1,hnd.2⟩,fun F hF=>F.aR (fun k hk=>⟨hk.1,Nat.lt_of_lt_of_le hk.2.1 hc.size,fun p hp=>?_⟩) (fun k hk=>hc.block k hk.2.1 (hk.2.2 (b,t,cs) List.mem_cons_self).symm) (h.its F hF)⟩
 ·rcases List.mem_cons.1 hp with rfl|hp
  ·exact⟨h0.1,hb⟩
  ·have:=h.own p (List.mem_cons_of_mem _ hp);exact⟨this.1,this.2.ch hc this.2.lt (hnd.1 p hp).symm⟩
 ·rcases List.mem_cons.1 hp with rfl|hp
  ·exact hk.2.2 (b,t,cs) List.mem_cons_self
  ·exact hk.2.2 p (List.mem_cons_of_mem _ hp)
theorem Fr.swap{p q:Nat×TypeId×Array Value}(h:Fr g w0 (p::q::own) its Q w):Fr g w0 (q::p::own) its Q w:=by
 have hm:∀r,r∈q::p::own↔r∈p::q::own:=fun r=>by simp only[List.mem_cons];constructor<;>rintro(h|h|h)<;>simp[h]
 refine⟨h.lt,h.ps,h.ch,fun r hr=>h.own r ((hm r).1 hr),?_,fun F hF=>F.aR (fun b hb=>⟨hb.1,hb.2.1,fun r hr=>hb.2.2 r ((hm r).1 hr)⟩) (fun _ _=>rfl) (h.its F hF)⟩;have:=h.nd;simp only[List.pairwise_cons,List.mem_cons]at this⊢;exact⟨fun r hr=>by rcases hr with rfl|hr;exact(this.1 q (.inl rfl)).symm;exact this.2.1 r hr,fun r hr=>this.1 r (.inr hr),this.2.2⟩
theorem Fr.cN{p:Nat×TypeId×Array Value}{b:Nat}{t:TypeId}{cs:Array Value}(h:Fr g w0 (p::(b,t,cs)::own) its Q w)(hc:Ch b w.heap.size w w'){cs':Array Value}(hb:Kn w' b t cs'):Fr g w0 (p::(b,t,cs')::own) its Q w':=(h.swap.gu hc hb).swap
theorem Fr.aO{b:Nat}{t:TypeId}{cs:Array Value}(h:Fr g w0 ((b,t,cs)::own) its Q w)(i:Nat)(v:Value){cs':Array Value}(e:cs.setIfInBounds i v=cs'):Fr g w0 ((b,t,cs')::own) its Q (w.setCell ⟨b,i,none⟩ v):=
 h.gu ((Ch.refl b w.heap.size w).set (p:=⟨b,i,none⟩) (.inl rfl) v) (e▸h.ab.put i v)
theorem Fr.iq{p:Nat×TypeId×Array Value}{b:Nat}{t:TypeId}{cs:Array Value}(h:Fr g w0 (p::(b,t,cs)::own) its Q w)(i:Nat)(v:Value){cs':Array Value}(e:cs.setIfInBounds i v=cs'):Fr g w0 (p::(b,t,cs')::own) its Q (w.setCell ⟨b,i,none⟩ v):=(h.swap.aO i v e).swap
theorem Fr.Io{α:Type}{E:El α}{b n:Nat}{t:TypeId}{cells:Array Value}(h:Fr g w0 ((b,t,cells)::own) its Q w){css:List (List Value)}{xs:List α}(hcs:cells.toList=css.flatten)(hl:css.length=xs.length)(hR:∀(i:Nat) (cs:List Value) (x:α),css[i]?=some cs→xs[i]?=some x→E.R w (fq w0.heap.size ((b,t,cells)::own) w) cs x)(hn:n=xs.length)(hm:n≤9223372036854775807):Fr g w0 own (It.rr E (.slice (some ⟨b,0,none⟩) n n) xs::its) Q w:=by
 have hnd:=h.nd;rw[List.pairwise_cons]at hnd;have hM:∀k,fq w0.heap.size ((b,t,cells)::own) w k→fq w0.heap.size own w k:=fun k hk=>⟨hk.1,hk.2.1,fun p hp=>hk.2.2 p (List.mem_cons_of_mem _ hp)⟩
 refine⟨h.lt,h.ps,h.ch,fun p hp=>h.own p (List.mem_cons_of_mem _ hp),hnd.2,fun F hF=>?_⟩;rcases List.mem_cons.1 hF with rfl|hF
 ·exact Rr.blk (E:=E) h.ab hcs hl (fun i cs x hi hx=>El.hp (hR i cs x hi hx) hM fun _ _=>rfl) ⟨(h.own _ List.mem_cons_self).1,h.ab.lt,fun p hp=>(hnd.1 p hp).symm⟩ hn hm
 ·exact F.aR hM (fun _ _=>rfl) (h.its F hF)
theorem Fr.lit{α:Type}{E:El α}{b:Nat}{t:TypeId}{cells:Array Value}{x:α}(h:Fr g w0 ((b,t,cells)::own) (It.el E cells.toList x::its) Q w):Fr g w0 own (It.rr E (.slice (some ⟨b,0,none⟩) 1 1) [x]::It.el E cells.toList x::its) Q w:=
 h.Io (css:=[cells.toList]) (by simp) rfl (fun i cs y hi hy=>by
  have:i=0:=by
   have:=(List.getElem?_eq_some_iff.1 hi).1
   simp at this
   omega
  subst this
  simp at hi hy
  subst hi hy
  exact h.its _ List.mem_cons_self) rfl (by decide)
end
section
variable{g:Nat}{w0 w w':World}{own:bO}{its:List It}{Q Q':World→Prop}
theorem Fr.Kx{F:It}(h:Fr g w0 own (F::its) Q w):F.P w (fq w0.heap.size own w):=h.its F List.mem_cons_self
theorem Fr.Nz{F G:It}(h:Fr g w0 own (G::F::its) Q w):F.P w (fq w0.heap.size own w):=h.its F (by simp)
theorem Fr.PN{F G K:It}(h:Fr g w0 own (G::K::F::its) Q w):F.P w (fq w0.heap.size own w):=h.its F (by simp)
theorem Fr.only{VK:List It}(h:Fr g w0 own its Q w)(hs:∀F∈VK,F∈its):Fr g w0 own VK Q w:=⟨h.lt,h.ps,h.ch,h.own,h.nd,fun F hF=>h.its F (hs F hF)⟩
end
def EPost{α:Type}(E:El α)(C:RC)(w:World)(r:α×I.St)(e:Ending)(w':World):Prop:=∃cs,e=.returned (.agg cs.toArray)∧E.R w' (In w.heap.size w'.heap.size) cs r.1∧PS C r.2 w'∧Ch C.g w.heap.size w w'
theorem Fr.done{α:Type}{E:El α}{C:RC}{w0 w:World}{own:bO}{its:List It}{st:I.St}{cs:List Value}{x:α}(h:Fr C.g w0 own its (PS C st) w)(hx:E.R w (fq w0.heap.size own w) cs x):EPost E C w0 (x,st) (.returned (.agg cs.toArray)) w:=
 ⟨cs,rfl,El.hp hx (fun _ hb=>⟨hb.1,hb.2.1⟩) fun _ _=>rfl,h.q,h.ch⟩
theorem dZ{Pr:Program}{α:Type}{E:El α}{ops:Array Oper}{rest:List Oper}{o:Oper}{a:Act}{Q:Exit→Act→World→Prop}{w:World}(hI:E.Info Pr)(hgd:o.guard=none)(s x:Operand){T:TypeId}(hT:Pr.underlying T=some (.slice E.t))
 (ho:o.op=.call {callee:=.builtin .append,args:=#[s,x],argTypes:=#[T,T]})
 (lo:Nat) (v:Value) (xs:List α) (hs:a.eval s=v) (hF:Ro E w lo v xs) (g c:Nat) (cs:List Value) (y:α) (hx:a.eval x=.slice (some ⟨g,0,none⟩) 1 c) {t:TypeId} {mk:Nat×Nat} (hg:w.heap[g]?=some (.cells cs.toArray t mk)) (hy:E.R w (Pow w lo v) cs y) (hm:(xs.length+1)*E.by'≤140737488355328) (hn:xs.length+1≤maxLen) (hlo:lo≤w.heap.size)
 (h:∀v' w',Ro E w' lo v' (xs++[y])→w.grownBy w' v.ownBlock→Below lo w w'→wpList Pr ops Q rest (a.put o.dst v') w'):wpList Pr ops Q (o::rest) a w:=by
 obtain⟨css,h1,h2,h3⟩:=hF;obtain⟨i0,z0,hi,hz,hsz,hb,hzs⟩:=hI;have hcl:=E.len hy;have hr:Rd w (g+1) E.k (some ⟨g,0,none⟩) 1 cs:=by refine⟨by omega,fun _=>⟨g,0,rfl,by omega,fun j u hu=>?_⟩⟩;have:=cell_of_row w g j cs.toArray t mk hg;rw[Nat.zero_add,this];simpa using hu
 refine wpList_plain hgd fun _ hK=>jo w s x T ho lo E.t i0 z0 E.k E.by' hT hi hz hsz hb hzs E.pos v xs.length css.flatten hs h2 (g+1) (some ⟨g,0,none⟩) 1 c cs hx hr (E.one hy) hn hm hlo fun v' w' k1 k2 k3=>hK _ _ (h v' w' ?_ k2 ((Below.refl _ _).grown k2 hlo fun k hk=>(h2.lt k hk).1))
 have hP:∀g,Pow w lo v g→Pow w' lo v' g:=fun g hp=>⟨hp.1,Nat.lt_of_lt_of_le hp.2.1 k2.size,by
  rcases k3 with e|e
  ·rw[e];exact hp.2.2
  ·rw[e];intro q;injection q with q;have:=hp.2.1;omega⟩
 have hC:∀g,Pow w lo v g→w'.heap[g]?=w.heap[g]?:=fun g hp=>k2.block g hp.2.1 hp.2.2
 refine⟨css++[cs],by simp[h1],by rw[List.length_append,List.flatten_append];simpa using k1,fun i cs' x' hi hx'=>?_⟩;by_cases hlt:i<css.length
 ·rw[List.getElem?_append_left hlt]at hi;rw[List.getElem?_append_left (by omega)]at hx';exact E.aR hP hC (h3 i cs' x' hi hx')
 ·rw[List.getElem?_append_right (by omega)]at hi hx';have:i=css.length:=by have:=(List.getElem?_eq_some_iff.1 hi).1;simp at this;omega
  subst this;rw[h1]at hx';simp at hi hx';subst hi hx';exact E.aR hP hC hy
section
variable{α:Type}{E:El α}{w w':World}{lo g:Nat}{v:Value}{xs:List α}
theorem Ro.ch(h:Ro E w lo v xs)(hc:Ch g w.heap.size w w')(hg:g<lo):Ro E w' lo v xs:=
 h.grown (row:=some g) ⟨hc.os,hc.tape,hc.output,hc.size,fun k hk hn=>hc.block k hk fun e=>hn (by rw[e])⟩ fun k e=>by injection e with e;omega
theorem Ro.alloc(h:Ro E w lo v xs)(o:Obj):Ro E (w.alloc o) lo v xs:=h.below ((Below.refl w.heap.size w).alloc (Nat.le_refl _) o)
theorem Ro.pow{Q:Nat→Prop}{cs:List Value}{x:α}(h:Ro E w lo v xs)(hlo:lo≤w.heap.size)(hx:E.R w' Q cs x)(hQ:∀b,Q b→w.heap.size≤b∧b<w'.heap.size):E.R w' (Pow w' lo v) cs x:=by
 obtain⟨css,h1,h2,h3⟩:=h;refine El.hp hx (fun b hb=>?_) fun _ _=>rfl
 obtain⟨b1,b2⟩:=hQ b hb;refine⟨by omega,b2,fun e=>?_⟩;have:=(h2.lt b e.symm).2;omega
end
section
namespace XC
open Go.Lib (dg nDigits decDigits)
def low(u j:Nat):List UInt8:=(List.range j).map fun t=>dg u (j-1-t)
theorem DJ(u j:Nat):low u (j+1)=dg u j::low u j:=by
 unfold low;rw[List.range_succ_eq_map,List.map_cons,List.map_map];congr 1;apply List.map_congr_left;intro t _;show dg u (j+1-1-(t+1))=_;congr 1;omega
theorem Ff(u:Nat):decDigits u=low u (nDigits u):=Go.Lib.decDigits_eq u
theorem tc(u j:Nat):(dg u j).toNat=48+u/10^j%10:=by
 unfold dg;rw[UInt8.toNat_ofNat_of_lt' (by show _<256;omega)]
theorem vO{u j:Nat}(h:u<10^j)(hj:1≤j):nDigits u≤j:=by
 induction j generalizing u with
 |zero=>omega
 |succ j ih=>
  by_cases h1:u<10
  ·rw[Go.Lib.nDigits_small h1];omega
  ·rw[Go.Lib.nDigits_big h1];have hj1:1≤j:=by
    rcases Nat.eq_zero_or_pos j with e|e
    ·subst e;simp at h;omega
    ·exact e
   have:=ih (u:=u/10) (by rw[Nat.pow_succ]at h;omega) hj1;omega
def YM(u n:Nat):List UInt8:=low u (max n (nDigits u))
theorem four(f:Nat)(h:f<10000):(decDigits (f+10000)).drop 1=YM f 4:=by
 have h5:nDigits (f+10000)=5:=Go.Lib.nDigits_unique 4 _ (by omega) (by omega);have h4:nDigits f≤4:=vO (by omega) (by omega);unfold YM;rw[Ff,h5,Nat.max_eq_left h4,DJ,List.drop_one,List.tail_cons];unfold low;apply List.map_congr_left;intro t ht;have ht':t<4:=List.mem_range.1 ht;apply UInt8.toNat_inj.1;rw[tc,tc];obtain rfl|rfl|rfl|rfl:t=0∨t=1∨t=2∨t=3:=by omega
 ·show 48+(f+10000)/1000%10=48+f/1000%10;omega
 ·show 48+(f+10000)/100%10=48+f/100%10;omega
 ·show 48+(f+10000)/10%10=48+f/10%10;omega
 ·show 48+(f+10000)/1%10=48+f/1%10;omega
def minus(n:Int):List UInt8:=if n<0 then [45]else []
def Ia(n:Int):List UInt8:=minus n++decDigits (n.natAbs/10000)++[46]++YM (n.natAbs%10000) 4
def JQ(x:Nat):UInt8:=if x<10 then UInt8.ofNat (48+x)else UInt8.ofNat (87+x)
def YN(l:List UInt8):List UInt8:=l.flatMap fun c=>[JQ (c.toNat/16),JQ (c.toNat%16)]
def quo(l:List UInt8):List UInt8:=l.flatMap fun c=>if c.toNat=39 then [39,39]else [c]
def prt(v:Cell.Val):List UInt8:=
 if Cell.sa v=false then []
 else if v.k.toNat=0 then [110,117,108,108]
 else if v.k.toNat=1 then(if v.n=1 then [116,114,117,101]else [102,97,108,115,101])
 else if v.k.toNat=2 then Go.Lib.itoa v.n
 else if v.k.toNat=3 then Ia v.n
 else if v.k.toNat=4 then [39]++quo v.s.data.toList++[39]
 else [120,39]++YN v.s.data.toList++[39]
end XC
namespace XC
open Go
theorem drop_at{s r:List UInt8}{i:Nat}(h:s=s.take i++39::r)(hl:i+1+r.length=s.length):s.drop (i+[(39:UInt8)].length)=r:=by
 have ht:(s.take i).length=i:=by rw[List.length_take];omega
 conv=>lhs;rw[h]
 rw[List.drop_append,ht];simp;omega
end XC
end
section
namespace I
open Ev (Ex Hd)
structure Wr where
 p:List Bs
 n:Nat
 b:Bool
def fR(b:Bool)(w:Wr):Wr:={w with b:=w.b||b}
def cN(s:Bs)(w:Wr):Wr:=fR (decide (s=[])||decide (4097<w.n+(s.length+1))) ⟨w.p++[s],w.n+(s.length+1),w.b⟩
def put:List Bs→Wr→Wr
 |[],w=>w
 |s::l,w=>put l (cN s w)
def option(set:Bool)(l:List Bs)(w:Wr):Wr:=if set=true then put l w else w
def word(i:Int)(l:List Bs):Bs:=if i<0∨(l.length:Int)≤i then []else l.getD i.toNat []
def en(o:UInt8):Bs:=word ((o.toNat:Int)-3) [[45],[43],[45],[42],[61],[60,62],[60],[60,61],[62],[62,61],[97,110,100],[111,114],[110,111,116],[],[99,111,117,110,116],[115,117,109],[109,105,110],[109,97,120],[117,115,101,114]]
def kN(o:UInt8):Bool:=decide (3≤o.toNat)&&decide (o.toNat≤16)
def mc(o:UInt8)(n:Nat):Int:=
 if o.toNat=1∨o.toNat=2∨o.toNat=21 then 0
 else if o.toNat=3∨o.toNat=15∨o.toNat=16 then 1
 else if 3<o.toNat∧o.toNat<15 then 2
 else if o.toNat=17 then(min n 1:Nat)
 else if 17<o.toNat∧o.toNat≤20 then 1
 else -1
def De:Ex→UInt8
 | .mk h _=>h.o
def CZ(s:ByteArray):Bs:=s.data.toList
def AZ(o:UInt8)(k:Ex)(W:Wr→Wr)(w:Wr):Wr:=option (kN o&&kN (De k)) [[41]] (W (option (kN o&&kN (De k)) [[40]] w))
def within:Nat→Ex→Wr→Wr
 |d,.mk h [],w=>
  if(fR (decide (24<d)||decide ((0:Int)≠mc h.o 0)) w).b=true then fR (decide (24<d)||decide ((0:Int)≠mc h.o 0)) w
  else if h.o.toNat=1 then put [XC.prt h.v] w
  else if h.o.toNat=2 then put [CZ h.nm] (option (decide (CZ h.of≠[])) [CZ h.of,[46]] w)
  else if h.o.toNat=21 then put [en h.o] w
  else put [[41]] (put [[42]] (put [en h.o,[40]] w))
 |d,.mk h [a],w=>
  if(fR (decide (24<d)||decide ((1:Int)≠mc h.o 1)) w).b=true then fR (decide (24<d)||decide ((1:Int)≠mc h.o 1)) w
  else if h.o.toNat=3∨h.o.toNat=15 then AZ h.o a (within (d+1) a) (put [en h.o] w)
  else if h.o.toNat=16 then put [[105,115],[110,117,108,108]] (AZ h.o a (within (d+1) a) w)
  else put [[41]] (AZ h.o a (within (d+1) a) (put [en h.o,[40]] w))
 |d,.mk h [a,b],w=>
  if(fR (decide (24<d)||decide ((2:Int)≠mc h.o 2)) w).b=true then fR (decide (24<d)||decide ((2:Int)≠mc h.o 2)) w
  else AZ h.o b (within (d+1) b) (put [en h.o] (AZ h.o a (within (d+1) a) w))
 |_,.mk _ (_::_::_::_),w=>fR true w
def Kk(e:Ex)(w:Wr):Wr:=within 1 e w
def first(l:List Ex)(ws:List Bs)(w:Wr):Wr:=match l with
 |[]=>w
 |e::_=>Kk e (put ws w)
def iA(p:UInt8)(w:Wr):Wr:=put [word ((p.toNat:Int)-1) [[115,101,108,101,99,116],[105,110,115,101,114,116],[117,112,100,97,116,101],[100,101,108,101,116,101]]] w
def jS:List Bs→Bs
 |[]=>[]
 |[s]=>s
 |s::l=>s++32::jS l
end I
end
section
variable{w w':World}{P P':Nat→Prop}
end
def Sz(l:I.Bs):Prop:=l.length≤maxLen
def cS:El I.LL where
 t:=130
 k:=9
 by':=120
 R w P cs i:=∃ce,cs=ce++[.s (I.bs i.nm)]∧XR w P ce i.x∧Sz i.nm
 pos:=by decide
 len:=by rintro w P cs i ⟨ce,rfl,hx,_⟩;have:=Kr.len (w:=w) (P:=P) hx;simp[this];rfl
 one:=by
  rintro w P cs i ⟨ce,rfl,hx,_⟩ u hu;rcases List.mem_append.1 hu with hu|hu
  ·exact Kr.one (w:=w) (P:=P) hx u hu
  ·simp at hu;subst hu;rfl
 aR:=by rintro w w' P P' cs i hP hk ⟨ce,rfl,hx,h2⟩;exact⟨ce,rfl,Kr.aR hP hk hx,h2⟩
def dx:El I.Ord where
 t:=134
 k:=9
 by':=112
 R w P cs i:=∃ce,cs=ce++[.bool i.ds]∧XR w P ce i.x
 pos:=by decide
 len:=by rintro w P cs i ⟨ce,rfl,hx⟩;have:=Kr.len (w:=w) (P:=P) hx;simp[this];rfl
 one:=by
  rintro w P cs i ⟨ce,rfl,hx⟩ u hu;rcases List.mem_append.1 hu with hu|hu
  ·exact Kr.one (w:=w) (P:=P) hx u hu
  ·simp at hu;subst hu;rfl
 aR:=by rintro w w' P P' cs i hP hk ⟨ce,rfl,hx⟩;exact⟨ce,rfl,Kr.aR hP hk hx⟩
def dG:El I.La where
 t:=85
 k:=9
 by':=120
 R w P cs i:=∃ce,cs=.s (I.bs i.nm)::ce∧XR w P ce i.x∧Sz i.nm
 pos:=by decide
 len:=by rintro w P cs i ⟨ce,rfl,hx,_⟩;have:=Kr.len (w:=w) (P:=P) hx;simp[this];rfl
 one:=by
  rintro w P cs i ⟨ce,rfl,hx,_⟩ u hu;rcases List.mem_cons.1 hu with hu|hu
  ·subst hu;rfl
  ·exact Kr.one (w:=w) (P:=P) hx u hu
 aR:=by rintro w w' P P' cs i hP hk ⟨ce,rfl,hx,h2⟩;exact⟨ce,rfl,Kr.aR hP hk hx,h2⟩
def bV:El I.Src where
 t:=132
 k:=3
 by':=56
 R w P cs i:=∃v,cs=[.s (I.bs i.nm),.s (I.bs i.al),v]∧Rr Kr w P v i.on∧Sz i.nm∧Sz i.al
 pos:=by decide
 len:=by rintro w P cs i ⟨v,rfl,_⟩;rfl
 one:=by
  rintro w P cs i ⟨v,rfl,hv,_⟩ u hu;simp at hu;rcases hu with rfl|rfl|rfl
  ·rfl
  ·rfl
  ·exact hv.one
 aR:=by rintro w w' P P' cs i hP hk ⟨v,rfl,hv,h2⟩;exact⟨v,rfl,hv.aR hP hk,h2⟩
def dC:El I.Ky where
 t:=40
 k:=8
 by':=72
 R w P cs i:=∃v,cs=[.s (I.bs i.nm),.u (i.k.toNat:Int),.bool i.pr,.bool i.nn,.bool i.un,v,.s (I.bs i.rf),.u (i.ac.toNat:Int)]∧Rr Kr w P v i.ck∧Sz i.nm∧Sz i.rf
 pos:=by decide
 len:=by rintro w P cs i ⟨v,rfl,_⟩;rfl
 one:=by
  rintro w P cs i ⟨v,rfl,hv,_⟩ u hu;simp at hu;rcases hu with rfl|rfl|rfl|rfl|rfl|rfl|rfl|rfl
  all_goals first|rfl|exact hv.one
 aR:=by rintro w w' P P' cs i hP hk ⟨v,rfl,hv,h2⟩;exact⟨v,rfl,hv.aR hP hk,h2⟩
def dM:El (List Ev.Ex) where
 t:=27
 k:=1
 by':=24
 R w P cs l:=∃v,cs=[v]∧Rr Kr w P v l
 pos:=by decide
 len:=by rintro w P cs i ⟨v,rfl,_⟩;rfl
 one:=by rintro w P cs i ⟨v,rfl,hv⟩ u hu;simp at hu;subst hu;exact hv.one
 aR:=by rintro w w' P P' cs i hP hk ⟨v,rfl,hv⟩;exact⟨v,rfl,hv.aR hP hk⟩
def ik:El UInt8 where
 t:=51
 k:=1
 by':=1
 R _ _ cs p:=cs=[.u (p.toNat:Int)]
 pos:=by decide
 len:=by rintro w P cs i rfl;rfl
 one:=by rintro w P cs i rfl u hu;simp at hu;subst hu;rfl
 aR:=by rintro w w' P P' cs i hP hk rfl;rfl
def eB:El I.Kz where
 t:=45
 k:=7
 by':=136
 R w P cs q:=∃v1 v2 v3 v4 v5,cs=[.bool q.all,v1,v2,v3,v4,v5,.i q.lim]∧Rr cS w P v1 q.its∧Rr bV w P v2 q.fr∧Rr Kr w P v3 q.wh∧Rr Kr w P v4 q.gr∧Rr dx w P v5 q.od∧ -9223372036854775808≤q.lim∧q.lim≤9223372036854775807
 pos:=by decide
 len:=by rintro w P cs i ⟨v1,v2,v3,v4,v5,rfl,_⟩;rfl
 one:=by
  rintro w P cs i ⟨v1,v2,v3,v4,v5,rfl,h1,h2,h3,h4,h5,_⟩ u hu;simp at hu;rcases hu with rfl|rfl|rfl|rfl|rfl|rfl|rfl
  ·rfl
  ·exact h1.one
  ·exact h2.one
  ·exact h3.one
  ·exact h4.one
  ·exact h5.one
  ·rfl
 aR:=by rintro w w' P P' cs i hP hk ⟨v1,v2,v3,v4,v5,rfl,h1,h2,h3,h4,h5,h6⟩;exact⟨v1,v2,v3,v4,v5,rfl,h1.aR hP hk,h2.aR hP hk,h3.aR hP hk,h4.aR hP hk,h5.aR hP hk,h6⟩
def aB:El I.Km where
 t:=30
 k:=13
 by':=232
 R w P cs s:=∃v1 v2 v3 v4 v5 v6,cs=[.u (s.k.toNat:Int),.s (I.bs s.nm),.s (I.bs s.on),.s (I.bs s.aF),.u (s.ev.toNat:Int),v1,v2,v3,v4,v5,v6,.bool s.opt,.s (I.bs s.key)]∧Rr dC w P v1 s.Kv∧Rr eB w P v2 s.q∧Rr dM w P v3 s.vals∧Rr dG w P v4 s.bu∧Rr Kr w P v5 s.wh∧Rr ik w P v6 s.pv∧Sz s.nm∧Sz s.on∧Sz s.aF∧Sz s.key
 pos:=by decide
 len:=by rintro w P cs i ⟨v1,v2,v3,v4,v5,v6,rfl,_⟩;rfl
 one:=by
  rintro w P cs i ⟨v1,v2,v3,v4,v5,v6,rfl,h1,h2,h3,h4,h5,h6,_⟩ u hu;simp at hu;rcases hu with rfl|rfl|rfl|rfl|rfl|rfl|rfl|rfl|rfl|rfl|rfl|rfl|rfl
  ·rfl
  ·rfl
  ·rfl
  ·rfl
  ·rfl
  ·exact h1.one
  ·exact h2.one
  ·exact h3.one
  ·exact h4.one
  ·exact h5.one
  ·exact h6.one
  ·rfl
  ·rfl
 aR:=by rintro w w' P P' cs i hP hk ⟨v1,v2,v3,v4,v5,v6,rfl,h1,h2,h3,h4,h5,h6,h7⟩;exact⟨v1,v2,v3,v4,v5,v6,rfl,h1.aR hP hk,h2.aR hP hk,h3.aR hP hk,h4.aR hP hk,h5.aR hP hk,h6.aR hP hk,h7⟩
theorem El.gn{α:Type}{E:El α}{P:Program}(h:((P.info? E.t).bind fun i=>i.zero.map fun z=>(i.size,i.bytes,z.cells.size))=some (E.k,E.by',E.k)):E.Info P:=by
 obtain⟨i,hi,h⟩:=Option.bind_eq_some_iff.1 h;obtain⟨z,hz,h⟩:=Option.map_eq_some_iff.1 h;simp only[Prod.mk.injEq]at h;exact⟨i,z,hi,hz,h.1,h.2.1,h.2.2⟩
theorem re:Kr.Info Tryz.prog:=El.gn (by kernel_rfl)
theorem qw:cS.Info Tryz.prog:=El.gn (by kernel_rfl)
theorem pK:dx.Info Tryz.prog:=El.gn (by kernel_rfl)
theorem pd:dG.Info Tryz.prog:=El.gn (by kernel_rfl)
theorem pJ:bV.Info Tryz.prog:=El.gn (by kernel_rfl)
theorem qL:dC.Info Tryz.prog:=El.gn (by kernel_rfl)
theorem pL:dM.Info Tryz.prog:=El.gn (by kernel_rfl)
theorem nQ:ik.Info Tryz.prog:=El.gn (by kernel_rfl)
section
theorem D6:MP.Info Tryz.prog:=El.gn (by kernel_rfl)
section
open I (Wr)
structure WS (g:Nat) (w:World) (v:Value) (st:Wr):Prop where
 blk:Kn w g 94 #[v,.i (st.n:Int),.bool st.b]
 own:Ro MP w (g+1) v st.p
 np:st.n≤st.p.length*562949953421312
structure YO (g:Nat) (v:Value) (w w':World):Prop where
 os:w'.os=w.os
 tape:w'.tape=w.tape
 output:w'.output=w.output
 size:w.heap.size≤w'.heap.size
 block:∀k,k<w.heap.size→k≠g→v.ownBlock≠some k→w'.heap[k]?=w.heap[k]?
def Bk(v v':Value)(w:World):Prop:=v'.ownBlock=v.ownBlock∨∀k,v'.ownBlock=some k→w.heap.size≤k
def fu(g:Nat)(w:World)(v:Value)(st:Wr)(e:Ending)(w':World):Prop:=e=.returned (.tuple #[])∧∃v',WS g w' v' st∧YO g v w w'∧Bk v v' w
structure Fw (g:Nat) (w0:World) (v0:Value) (ow:bO) (st:Wr) (v:Value) (w:World):Prop where
 lt:g<w0.heap.size
 ws:WS g w v st
 ch:YO g v0 w0 w
 bk:Bk v0 v w0
 own:∀p∈ow,w0.heap.size≤p.1∧Kn w p.1 p.2.1 p.2.2∧v.ownBlock≠some p.1
 ob:∀k,v0.ownBlock=some k→g<k∧k<w0.heap.size
section
variable{g:Nat}{w0 w w':World}{v0 v:Value}{own:bO}{st st':Wr}
theorem Ki{α:Type}{E:El α}{lo:Nat}{xs:List α}(h:Ro E w lo v xs):∀k,v.ownBlock=some k→lo≤k∧k<w.heap.size:=by
 obtain⟨css,h1,h2,h3⟩:=h;exact fun k hk=>h2.lt k hk
theorem WS.ob(h:WS g w v st):∀k,v.ownBlock=some k→g<k∧k<w.heap.size:=fun k hk=>by have:=Ki h.own k hk;omega
theorem WS.below(h:WS g w v st)(hb:Below w.heap.size w w'):WS g w' v st:=⟨h.blk.below hb h.blk.lt,h.own.below hb,h.np⟩
theorem Fw.start(h:WS g w v st):Fw g w v [] st v w:=⟨h.blk.lt,h,⟨rfl,rfl,rfl,Nat.le_refl _,fun _ _ _ _=>rfl⟩,.inl rfl,fun p hp=>by simp at hp,h.ob⟩
theorem Fw.quiet(h:Fw g w0 v0 own st v w)(hb:Below w.heap.size w w'):Fw g w0 v0 own st v w':=by
 have hs:=h.ch.size;exact⟨h.lt,h.ws.below hb,⟨hb.os.trans h.ch.os,hb.tape.trans h.ch.tape,hb.output.trans h.ch.output,Nat.le_trans hs hb.size,fun k h1 h2 h3=>(hb.block k (by omega)).trans (h.ch.block k h1 h2 h3)⟩,h.bk,fun p hp=>⟨(h.own p hp).1,(h.own p hp).2.1.below hb (h.own p hp).2.1.lt,(h.own p hp).2.2⟩,h.ob⟩
theorem Fw.tmp(h:Fw g w0 v0 own st v w)(o:Obj):Fw g w0 v0 own st v (w.alloc o):=h.quiet ((Below.refl w.heap.size w).alloc (Nat.le_refl _) o)
theorem Fw.drew(h:Fw g w0 v0 own st v w)(n:Nat):Fw g w0 v0 own st v (w.drewN n):=h.quiet (below_drewN (Below.refl w.heap.size w) n)
theorem Fw.new(h:Fw g w0 v0 own st v w)(t:TypeId)(cs:Array Value):Fw g w0 v0 ((w.heap.size,t,cs)::own) st v (w.alloc (.cells cs t)):=by
 have h2:=h.tmp (.cells cs t);refine⟨h2.lt,h2.ws,h2.ch,h2.bk,fun p hp=>?_,h2.ob⟩;rcases List.mem_cons.1 hp with rfl|hp
 ·refine⟨h.ch.size,Kn.new w t cs,fun e=>?_⟩;have:=(h.ws.ob _ e).2;exact Nat.lt_irrefl _ this
 ·exact h2.own p hp
theorem Fw.call(h:Fw g w0 v0 own st v w){v':Value}(k1:WS g w' v' st')(k2:YO g v w w')(k3:Bk v v' w):Fw g w0 v0 own st' v' w':=by
 have hs:=h.ch.size;have hv:∀k,k<w0.heap.size→v0.ownBlock≠some k→v.ownBlock≠some k:=fun k hk h1 e=>by
  rcases h.bk with h2|h2
  ·exact h1 (h2.symm.trans e)
  ·have:=h2 k e;omega
 refine⟨h.lt,k1,⟨k2.os.trans h.ch.os,k2.tape.trans h.ch.tape,k2.output.trans h.ch.output,Nat.le_trans hs k2.size,fun k h1 h2 h3=>(k2.block k (by omega) h2 (hv k h1 h3)).trans (h.ch.block k h1 h2 h3)⟩,?_,fun p hp=>?_,h.ob⟩
 ·rcases k3 with e|e
  ·rcases h.bk with e2|e2
   ·exact .inl (e.trans e2)
   ·exact .inr fun k hk=>e2 k (e▸hk)
  ·exact .inr fun k hk=>by have:=e k hk;omega
 ·obtain⟨h1,h2,h3⟩:=h.own p hp;have hl:=h.lt;have h2l:=h2.lt;refine⟨h1,(k2.block p.1 h2.lt (by omega) h3).trans h2,fun e=>?_⟩;rcases k3 with e2|e2
  ·exact h3 (e2.symm.trans e)
  ·have:=e2 _ e;omega
theorem Fw.done(h:Fw g w0 v0 own st v w):fu g w0 v0 st (.returned (.tuple #[])) w:=⟨rfl,v,h.ws,h.ch,h.bk⟩
theorem Fw.sub(h:Fw g w0 v0 own st v w){f:FuncId}{args:Array Value}(c:Calls Tryz.prog f args w (fu g w v st')):Calls Tryz.prog f args w fun e w'=>∃v',e=.returned (.tuple #[])∧Fw g w0 v0 own st' v' w':=
 c.mono fun _ _ ⟨h1,v',h2,h3,h4⟩=>⟨v',h1,h.call h2 h3 h4⟩
theorem Fw.ab{b:Nat}{t:TypeId}{cs:Array Value}(h:Fw g w0 v0 ((b,t,cs)::own) st v w):Kn w b t cs:=(h.own _ List.mem_cons_self).2.1
theorem Fw.ah{p:Nat×TypeId×Array Value}{b:Nat}{t:TypeId}{cs:Array Value}(h:Fw g w0 v0 (p::(b,t,cs)::own) st v w):Kn w b t cs:=(h.own (b,t,cs) (by simp)).2.1
theorem Fw.aS{p q:Nat×TypeId×Array Value}{b:Nat}{t:TypeId}{cs:Array Value}(h:Fw g w0 v0 (p::q::(b,t,cs)::own) st v w):Kn w b t cs:=(h.own (b,t,cs) (by simp)).2.1
theorem Fw.low(h:Fw g w0 v0 own st v w){k:Nat}(hk:k<g):w.heap[k]?=w0.heap[k]?:=h.ch.block k (by have:=h.lt;omega) (by omega) fun e=>by have:=(h.ob k e).1;omega
theorem Fw.el{α:Type}{E:El α}{cs:List Value}{x:α}(h:Fw g w0 v0 own st v w)(hx:E.R w0 (fun k=>k<g) cs x):E.R w (fun k=>k<g) cs x:=El.hp hx (fun _ h=>h) fun _ hb=>h.low hb
theorem Fw.rr{α:Type}{E:El α}{u:Value}{xs:List α}(h:Fw g w0 v0 own st v w)(hx:Rr E w0 (fun k=>k<g) u xs):Rr E w (fun k=>k<g) u xs:=Rr.hp hx (fun _ h=>h) fun _ hb=>h.low hb
theorem Fw.Ka(h:Fw g w0 v0 own st v w){n:Nat}(hn:n≤st.p.length*562949953421312):Fw g w0 v0 own ⟨st.p,n,st.b⟩ v (w.setCell ⟨g,1,none⟩ (.i (n:Int))):=by
 have hs:=Below.heap_setCell w ⟨g,1,none⟩ (.i (n:Int));refine h.call (v':=v) ⟨h.ws.blk.put 1 _,h.ws.own.grown (row:=some g) ⟨rfl,rfl,rfl,by simp,fun k _ hk=>hs k fun e=>hk (by rw[e])⟩ (fun k e=>by injection e with e;omega),hn⟩ ⟨rfl,rfl,rfl,by simp,fun k _ hk _=>hs k hk⟩ (.inl rfl)
theorem Fw.GY(h:Fw g w0 v0 own st v w)(b:Bool):Fw g w0 v0 own ⟨st.p,st.n,b⟩ v (w.setCell ⟨g,2,none⟩ (.bool b)):=by
 have hs:=Below.heap_setCell w ⟨g,2,none⟩ (.bool b);refine h.call (v':=v) ⟨h.ws.blk.put 2 _,h.ws.own.grown (row:=some g) ⟨rfl,rfl,rfl,by simp,fun k _ hk=>hs k fun e=>hk (by rw[e])⟩ (fun k e=>by injection e with e;omega),h.ws.np⟩ ⟨rfl,rfl,rfl,by simp,fun k _ hk _=>hs k hk⟩ (.inl rfl)
theorem Gh{n m:Nat}{p:List I.Bs}{s:I.Bs}(h:n≤p.length*m):n≤(p++[s]).length*m:=Nat.le_trans h (Nat.mul_le_mul_right m (by simp))
theorem Fw.part(h:Fw g w0 v0 own st v w)(o:Obj){v7:Value}{s:I.Bs}{w6 w7:World}(h6:w6=w.alloc o)(ho:Ro MP w7 (g+1) v7 (st.p++[s]))(hg:w6.grownBy w7 v.ownBlock)(hk:v7.ownBlock=v.ownBlock∨v7.ownBlock=some w6.heap.size):Fw g w0 v0 own ⟨st.p++[s],st.n,st.b⟩ v7 (w7.setCell ⟨g,0,none⟩ v7):=by
 subst h6;have hs:=Below.heap_setCell w7 ⟨g,0,none⟩ v7;have h6:=h.tmp o;have hgb:Kn w7 g 94 #[v,.i (st.n:Int),.bool st.b]:=h6.ws.blk.grown hg fun e=>by have:=(h.ws.ob g e.symm).1;omega
 refine h6.call (v':=v7) ⟨hgb.put 0 v7,ho.grown (row:=some g) ⟨rfl,rfl,rfl,by simp,fun k _ hk=>hs k fun e=>hk (by rw[e])⟩ (fun k e=>by injection e with e;omega),?_⟩ ⟨hg.os,hg.tape,hg.output,by simpa using hg.size,fun k h1 h2 h3=>(hs k h2).trans (hg.block k h1 fun e=>h3 e.symm)⟩ ?_
 ·exact Gh h.ws.np
 ·rcases hk with e|e
  ·exact .inl e
  ·exact .inr fun k hk=>by rw[e]at hk;injection hk with hk;omega
end
end
theorem px{Pr:Program}{α:Type}{E:El α}{ops:Array Oper}{rest:List Oper}{o:Oper}{a:Act}{Q:Exit→Act→World→Prop}{w:World}(hI:E.Info Pr)(hgd:o.guard=none)(s x:Operand){T:TypeId}(hT:Pr.underlying T=some (.slice E.t))
 (ho:o.op=.call {callee:=.builtin .append,args:=#[s,x],argTypes:=#[T,T]})
 (lo:Nat) (v:Value) (xs:List α) (hs:a.eval s=v) (hF:Ro E w lo v xs) (g c:Nat) (cs:List Value) (y:α) (hx:a.eval x=.slice (some ⟨g,0,none⟩) 1 c) {t:TypeId} {mk:Nat×Nat} (hg:w.heap[g]?=some (.cells cs.toArray t mk)) (hy:E.R w (Pow w lo v) cs y) (hm:(xs.length+1)*E.by'≤140737488355328) (hn:xs.length+1≤maxLen) (hlo:lo≤w.heap.size)
 (h:∀v' w',Ro E w' lo v' (xs++[y])→w.grownBy w' v.ownBlock→(v'.ownBlock=v.ownBlock∨v'.ownBlock=some w.heap.size)→wpList Pr ops Q rest (a.put o.dst v') w'):wpList Pr ops Q (o::rest) a w:=by
 obtain⟨css,h1,h2,h3⟩:=hF;obtain⟨i0,z0,hi,hz,hsz,hb,hzs⟩:=hI;have hcl:=E.len hy;have hr:Rd w (g+1) E.k (some ⟨g,0,none⟩) 1 cs:=by refine⟨by omega,fun _=>⟨g,0,rfl,by omega,fun j u hu=>?_⟩⟩;have:=cell_of_row w g j cs.toArray t mk hg;rw[Nat.zero_add,this];simpa using hu
 refine wpList_plain hgd fun _ hK=>jo w s x T ho lo E.t i0 z0 E.k E.by' hT hi hz hsz hb hzs E.pos v xs.length css.flatten hs h2 (g+1) (some ⟨g,0,none⟩) 1 c cs hx hr (E.one hy) hn hm hlo fun v' w' k1 k2 k3=>hK _ _ (h v' w' ?_ k2 k3)
 have hP:∀g,Pow w lo v g→Pow w' lo v' g:=fun g hp=>⟨hp.1,Nat.lt_of_lt_of_le hp.2.1 k2.size,by
  rcases k3 with e|e
  ·rw[e];exact hp.2.2
  ·rw[e];intro q;injection q with q;have:=hp.2.1;omega⟩
 have hC:∀g,Pow w lo v g→w'.heap[g]?=w.heap[g]?:=fun g hp=>k2.block g hp.2.1 hp.2.2
 refine⟨css++[cs],by simp[h1],by rw[List.length_append,List.flatten_append];simpa using k1,fun i cs' x' hi hx'=>?_⟩;by_cases hlt:i<css.length
 ·rw[List.getElem?_append_left hlt]at hi;rw[List.getElem?_append_left (by omega)]at hx';exact E.aR hP hC (h3 i cs' x' hi hx')
 ·rw[List.getElem?_append_right (by omega)]at hi hx';have:i=css.length:=by have:=(List.getElem?_eq_some_iff.1 hi).1;simp at this;omega
  subst this;rw[h1]at hx';simp at hi hx';subst hi hx';exact E.aR hP hC hy
section
variable{g:Nat}{w:World}{v:Value}{st:I.Wr}
theorem lX(b:Bool)(hW:WS g w v st):Calls Tryz.prog 92 #[.p g,.bool b] w (fu g w v (I.fR b st)):=by
 have F:=aa (Fw.start hW);have c2:=hW.blk.cell 2;have f2:=hW.blk.frozen 2;simp at c2;obtain⟨p,n,q⟩:=st;clear hW;cases q with
 |true=>
  go_enter Tryz.func92,Tryz.ntmps92;go_wp2_with fail
  exact bodyPost_ret (v:=.tuple #[]) (results_none rfl _ _ _) rfl (F.o.GY true).done
 |false=>
  go_enter Tryz.func92,Tryz.ntmps92;go_wp2_with fail
  exact bodyPost_ret (v:=.tuple #[]) (results_none rfl _ _ _) rfl (F.o.GY b).done
end
end
section
set_option maxRecDepth 100000
namespace I
theorem BZ{ss:List Bs}{k:Nat}{s:Bs}(h:ss[k]?=some s)(st:Wr):put (ss.drop k) st=put (ss.drop (k+1)) (cN s st):=by
 obtain⟨hk,e⟩:=List.getElem?_eq_some_iff.1 h;rw[List.drop_eq_getElem_cons hk,e,put]
end I
abbrev Po (g:Nat) (v:Value) (w:World):Nat→Prop:=fun k=>k<w.heap.size∧k≠g∧v.ownBlock≠some k
theorem Fw.JS{g:Nat}{w0 w:World}{v0 v:Value}{own:bO}{st:I.Wr}(h:Fw g w0 v0 own st v w){α:Type}{E:El α}{u:Value}{xs:List α}(hx:Rr E w0 (Po g v0 w0) u xs):Rr E w (Po g v0 w0) u xs:=Rr.hp hx (fun _ h=>h) fun b hb=>h.ch.block b hb.1 hb.2.1 hb.2.2
theorem Hi(s:I.Bs):(I.bs s).size=s.length:=by simp[I.bs,ByteArray.size]
theorem tL(s:I.Bs):(I.bs s).toList.isEmpty=decide (s=[]):=by
 rw[ByteArray.toList_eq,cL];cases s<;>rfl
theorem rp(g:Nat)(u v:Value)(ss:List I.Bs)(st:I.Wr)(w:World)(h:WS g w v st)(hl:Rr MP w (Po g v w) u ss)(hz:∀s∈ss,s.length<562949953421311)(hp:st.p.length+ss.length≤9000):
 Calls Tryz.prog 82 #[.p g,u] w (fu g w v (I.put ss st)):=by
 obtain⟨A,c,rfl,hc1,hc2⟩:=hl.form;obtain⟨n,hn⟩:=aab ss.length;rw[←hn]at hl hc1 hp⊢;have HN:=aa hn;have F0:=aa (Fw.start h);have HL:=aa hl;have HZ:=aa hz;clear h hl hn hz;go_enter Tryz.func82,Tryz.ntmps82;go_wp2_with fail
 go_loopg [8] n (fun gg i wr=>∃(k:Nat) (s1:I.Wr) (v1:Value),k≤n∧gg=n-k∧i=.i (k:Nat)∧s1.p.length=st.p.length+k∧Hid (I.put ss st=I.put (ss.drop k) s1)∧Hid (Fw g w v [] s1 v1 wr));case atStart=>exact⟨0,st,v,Nat.zero_le _,rfl,rfl,rfl,aa rfl,F0⟩
 case round=>
  obtain⟨k,s1,v1,hk,rfl,rfl,hs1,HE,F1⟩:=hrel;obtain⟨w5,NH⟩:=aab wr;subst NH;obtain⟨sp,sn,sb⟩:=s1;by_cases hlt:k<n
  ·have QI:=aa (F1.o.JS HL.o);obtain⟨b,off,s,cs,rfl,hb,hsk,hcs,hcell⟩:=QI.o.at hlt;have e1:cs=[.s (I.bs s)]:=hcs;subst e1;have c0:=hcell 0 _ rfl;simp[MP]at c0;have HS:=aa (I.BZ hsk ⟨sp,sn,sb⟩);have q1:(k:Int)<(n:Int):=by omega
   have hz1:=HZ.o s (List.mem_of_getElem? hsk);clear hsk hcs hcell hb QI;have d0:=F1.o.ws.blk.cell 0;simp at d0;have hnp:=F1.o.ws.np;have hs1:sp.length=st.p.length+k:=hs1;have hnp:sn≤sp.length*562949953421312:=hnp;obtain⟨w6,Nl⟩:=aab (w5.alloc (.cells #[.s (I.bs s)] 9));have YP:=aa (show Kn w6 w5.heap.size 9 #[.s (I.bs s)] by rw[Nl];exact Kn.new w5 _ _);have Vc:=aa (show Ro MP w6 (g+1) v1 sp by rw[Nl];exact F1.o.ws.own.alloc _);have Qf:=aa (show MP.R w6 (Pow w6 (g+1) v1) ([.s (I.bs s)]) s from rfl);have VL:g+1≤w6.heap.size:=by have:=F1.o.lt;have:=F1.o.ch.size;rw[Nl];simp;omega
   have e8:(sp++[s]).length=st.p.length+k+1:=by simp;omega
   go_upto_region 4 with(at_builtin;rw[←Nl];refine px D6 rfl (.tmp 16) (.tmp 18) Tryz.underlying62 rfl (g+1) _ sp rfl Vc.o w5.heap.size 1 ([.s (I.bs s)]) s rfl YP.o Qf.o (by show(sp.length+1)*16≤140737488355328;omega) (by unfold maxLen;omega) VL ?_;intro v7 w7 Vd RF XD;obtain⟨A7,c7,rfl,_,_⟩:=Vd.form;have TI:=aa (F1.o.part _ Nl Vd RF XD);have TJ:Kn w7 g 94 #[v1,.i (sn:Int),.bool sb]:=(F1.o.tmp _).ws.blk.grown (by rw[Nl]at RF;exact RF) (fun e=>by have:=(F1.o.ws.ob g e.symm).1;omega);have d7:=TJ.cell 0;simp at d7;have f7:=TJ.frozen 0;rw[e8]at TI;clear TJ Vd RF XD)
   obtain⟨w8,hw8⟩:=aab (w7.setCell ⟨g,0,none⟩ (.slice A7 (st.p.length+k+1) c7));rw[←hw8]at TI⊢;have b1:=TI.o.ws.blk.cell 1;have z1:=TI.o.ws.blk.frozen 1;simp at b1;clear hw8 d7 f7;have q2:sn+(s.length+1)≤(sp++[s]).length*562949953421312:=by rw[e8];omega
   have e9:=Hi s;have Sd:=aa (TI.o.Ka q2);go_upto_region 5 with fail
   obtain⟨w9,RG⟩:=aab (w8.setCell ⟨g,1,none⟩ (.i ((sn:Int)+((s.length:Int)+1))));have e10:(((sn+(s.length+1):Nat)):Int)=(sn:Int)+((s.length:Int)+1):=by omega
   rw[e10,←RG]at Sd;rw[←RG];have b9:=Sd.o.ws.blk.cell 1;simp at b9;have HT:Hid (I.cN s ⟨sp,sn,sb⟩=I.fR (decide (s=[])||decide (4097<sn+(s.length+1))) ⟨sp++[s],sn+(s.length+1),sb⟩):=aa rfl;have HI:=aa (tL s);clear RG b1 z1 e10 e9;by_cases h0:s=[]
   ·have t1:(I.bs s).toList.isEmpty=true:=by rw[HI.o];exact decide_eq_true h0
    have HQ:Hid (I.cN s ⟨sp,sn,sb⟩=I.fR true ⟨sp++[s],sn+(s.length+1),sb⟩):=by show _=_;rw[HT.o,decide_eq_true h0,Bool.true_or]
    clear h0;go_wp2_with fail
    with_reducible refine(Sd.o.sub (lX _ Sd.o.ws)).mono ?_
    rintro e Lo ⟨v10,rfl,(KC:Hid _)⟩;have HE2:Hid (I.put ss st=I.put (ss.drop (k+1)) (I.fR true ⟨sp++[s],sn+(s.length+1),sb⟩)):=by show _=_;rw[HE.o,HS.o,HQ.o]
    go_wp2_with fail
    go_roundg (n-(k+1));case measure=>omega
    case rel=>exact⟨k+1,_,v10,by omega,rfl,by go_num,by simp[I.fR];omega,HE2,KC⟩
   ·have t1:(I.bs s).toList.isEmpty=false:=by rw[HI.o];exact decide_eq_false h0
    have HQ:Hid (I.cN s ⟨sp,sn,sb⟩=I.fR (decide ((4097:Int)<(sn:Int)+((s.length:Int)+1))) ⟨sp++[s],sn+(s.length+1),sb⟩):=by show _=_;rw[HT.o,decide_eq_false h0,Bool.false_or];congr 1;rw[Bool.eq_iff_iff,decide_eq_true_iff,decide_eq_true_iff];omega
    clear h0;go_wp2_with fail
    with_reducible refine(Sd.o.sub (lX _ Sd.o.ws)).mono ?_
    rintro e Lo ⟨v10,rfl,(KC:Hid _)⟩;have HE2:Hid (I.put ss st=I.put (ss.drop (k+1)) (I.fR (decide ((4097:Int)<(sn:Int)+((s.length:Int)+1))) ⟨sp++[s],sn+(s.length+1),sb⟩)):=by show _=_;rw[HE.o,HS.o,HQ.o]
    go_wp2_with fail
    go_roundg (n-(k+1));case measure=>omega
    case rel=>exact⟨k+1,_,v10,by omega,rfl,by go_num,by simp[I.fR];omega,HE2,KC⟩
  ·have hkn:k=n:=by omega
   have HE2:Hid (I.put ss st=⟨sp,sn,sb⟩):=by show _=_;rw[HE.o,hkn,HN.o,List.drop_length];rfl
   clear hkn;go_wp2_with fail
   go_end0;rw[HE2.o];exact F1.o.done
theorem uM(g:Nat)(b:Bool)(u v:Value)(ss:List I.Bs)(st:I.Wr)(w:World)(h:WS g w v st)(hl:Rr MP w (Po g v w) u ss)(hz:∀s∈ss,s.length<562949953421311)(hp:st.p.length+ss.length≤9000):
 Calls Tryz.prog 84 #[.p g,.bool b,u] w (fu g w v (I.option b ss st)):=by
 have F0:=aa (Fw.start h);have HL:=aa hl;have HZ:=aa hz;have hu:=hl.one;obtain⟨A,c,rfl,hc1,hc2⟩:=hl.form;clear h hl hz;cases b with
 |true=>
  go_enter Tryz.func84,Tryz.ntmps84;go_wp2_with fail
  with_reducible refine(rp g _ v ss st _ F0.o.ws HL.o HZ.o hp).mono ?_
  rintro e w2 ⟨rfl,hF⟩;go_wp2_with fail
  exact bodyPost_ret (v:=.tuple #[]) (results_none rfl _ _ _) rfl ⟨rfl,hF⟩
 |false=>
  go_enter Tryz.func84,Tryz.ntmps84;go_wp2_with fail
  exact bodyPost_ret (v:=.tuple #[]) (results_none rfl _ _ _) rfl F0.o.done
section
variable{g:Nat}{w0 w:World}{v0 v:Value}{own:bO}{st:I.Wr}
theorem uI(ss:List I.Bs):(ss.map fun s=>[Value.string (I.bs s)]).flatten=ss.map fun s=>Value.string (I.bs s):=by
 induction ss with
 |nil=>rfl
 |cons a r ih=>rw[List.map_cons,List.flatten_cons,ih];rfl
theorem lZ(F:Fw g w0 v0 own st v w){n:Nat}{t:TypeId}{cells:Array Value}{ss:List I.Bs}(hc:cells.toList=ss.map fun s=>Value.string (I.bs s))(hn:n=ss.length)(hm:n≤1000):Rr MP (w.alloc (.cells cells t)) (Po g v (w.alloc (.cells cells t))) (.slice (some ⟨w.heap.size,0,none⟩) n n) ss:=by
 have hl:=F.ws.blk.lt;refine Rr.blk (E:=MP) (css:=ss.map fun s=>[Value.string (I.bs s)]) (Kn.new w t cells) (by rw[hc,uI]) (by simp) (fun i cs x hi hx=>?_) ⟨by simp,by omega,fun e=>?_⟩ hn (by omega)
 ·rw[List.getElem?_map,hx]at hi;simp at hi;exact hi.symm
 ·have:=(F.ws.ob _ e).2;exact Nat.lt_irrefl _ this
end
end
end Go.Proofs.YtnicfobpclehkaaGreatDoor
