import Derived.Lib.ItoaMem
import Derived.Lib.Replace
import Derived.Test.YtnicfobpclehkaaGreatDoorP8
set_option maxHeartbeats 200000
set_option linter.unusedVariables false
set_option linter.unusedSimpArgs false
namespace Go.Proofs.YtnicfobpclehkaaGreatDoor
open Go.RowKit
structure It where
 P:World→(Nat→Prop)→Prop
 dH:∀{w w':World} {P1 P2:Nat→Prop},(∀b,P1 b→P2 b)→(∀b,P1 b→w'.heap[b]?=w.heap[b]?)→P w P1→P w' P2
def It.el{α:Type}(E:El α)(cs:List Value)(x:α):It:=⟨fun w P=>E.R w P cs x,fun h1 h2 h=>El.hp h h1 h2⟩
def It.rr{α:Type}(E:El α)(v:Value)(xs:List α):It:=⟨fun w P=>Rr E w P v xs,fun h1 h2 h=>Rr.hp h h1 h2⟩
abbrev eP:=List (Nat×TypeId×Array Value)
def ju(lo:Nat)(own:eP)(w:World):Nat→Prop:=fun b=>lo≤b∧b<w.heap.size∧∀p∈own,p.1≠b
def ph(g:Nat)(Q:World→Prop)(w:World):Prop:=∀w':World,(∀b,b≤g→w'.heap[b]?=w.heap[b]?)→Q w'
theorem ph.at{g:Nat}{Q:World→Prop}{w:World}(h:ph g Q w):Q w:=h w fun _ _=>rfl
theorem ph.mv{g:Nat}{Q:World→Prop}{w w':World}(h:ph g Q w)(hk:∀b,b≤g→w'.heap[b]?=w.heap[b]?):ph g Q w':=fun w2 h2=>h w2 fun b hb=>(h2 b hb).trans (hk b hb)
theorem PS.eU{C:RC}{st:I.St}{w:World}(h:PS C st w):ph C.g (PS C st) w:=fun w' hk=>by
 obtain⟨⟨k,h1,h2⟩,h3,h4⟩:=h
 exact⟨⟨k,(hk C.g (aa _)).trans h1,h2⟩,h3.dH fun p hp=>World.cell?_of_block (hk p.block (by omega)),h4.dH fun b o hb=>World.cell?_of_block (a:=⟨b,o,none⟩) (hk b (by have:=C.six;omega))⟩
structure Fr (g:Nat) (w0:World) (ow:eP) (its:List It) (Q:World→Prop) (w:World):Prop where
 lt:g<w0.heap.size
 ps:ph g Q w
 ch:Ch g w0.heap.size w0 w
 own:∀p∈ow,w0.heap.size≤p.1∧NA w p.1 p.2.1 p.2.2
 nd:ow.Pairwise fun p q=>p.1≠q.1
 its:∀F∈its,F.P w (ju w0.heap.size ow w)
section
variable{g:Nat}{w0 w w':World}{own:eP}{its:List It}{Q Q':World→Prop}
theorem Fr.q(h:Fr g w0 own its Q w):Q w:=h.ps.at
theorem Fr.start(hg:g<w.heap.size)(h:ph g Q w):Fr g w [] [] Q w:=
 ⟨hg,h,Ch.refl _ _ _,fun p hp=>by simp at hp,List.Pairwise.nil,fun F hF=>by simp at hF⟩
theorem Fr.tmp(h:Fr g w0 own its Q w)(o:Obj):Fr g w0 own its Q (w.alloc o):=by
 have hs:=h.ch.size;have hl:=h.lt;refine⟨h.lt,h.ps.mv fun b hb=>aL w o b (by omega),h.ch.alloc hs o,fun p hp=>⟨(h.own p hp).1,(h.own p hp).2.alloc o⟩,h.nd,fun F hF=>F.dH (fun b hb=>⟨hb.1,by have:=hb.2.1;simp;omega,hb.2.2⟩) (fun b hb=>aL w o b hb.2.1) (h.its F hF)⟩
theorem Fr.new(h:Fr g w0 own its Q w)(t:TypeId)(cs:Array Value):Fr g w0 ((w.heap.size,t,cs)::own) its Q (w.alloc (.cells cs t)):=by
 have hs:=h.ch.size;have hl:=h.lt;refine⟨h.lt,h.ps.mv fun b hb=>aL w _ b (by omega),h.ch.alloc hs _,fun p hp=>?_,?_,fun F hF=>F.dH (fun b hb=>⟨hb.1,by have:=hb.2.1;simp;omega,fun p hp=>?_⟩) (fun b hb=>aL w _ b hb.2.1) (h.its F hF)⟩
 ·rcases af.1 hp with rfl|hp
  ·exact⟨hs,NA.new w t cs⟩
  ·exact⟨(h.own p hp).1,(h.own p hp).2.alloc _⟩
 ·refine List.Pairwise.cons (fun p hp=>?_) h.nd;have:=(h.own p hp).2.lt;show w.heap.size≠p.1;omega
 ·rcases af.1 hp with rfl|hp
  ·show w.heap.size≠b;have:=hb.2.1;omega
  ·exact hb.2.2 p hp
theorem Fr.call(h:Fr g w0 own its Q w)(hq:ph g Q' w')(hc:Ch g w.heap.size w w'):Fr g w0 own its Q' w':=by
 have hs:=h.ch.size;have hl:=h.lt;refine⟨h.lt,hq,h.ch.trans hc hs,fun p hp=>⟨(h.own p hp).1,(h.own p hp).2.ch hc (h.own p hp).2.lt (by have:=(h.own p hp).1;omega)⟩,h.nd,fun F hF=>F.dH (fun b hb=>⟨hb.1,aB hb.2.1 hc.size,hb.2.2⟩) (fun b hb=>hc.block b hb.2.1 (by have:=hb.1;omega)) (h.its F hF)⟩
theorem Fr.quiet(h:Fr g w0 own its Q w)(hc:Below w.heap.size w w'):Fr g w0 own its Q w':=by
 have hs:=h.ch.size;have hl:=h.lt;exact h.call (h.ps.mv fun b hb=>hc.block b (by omega)) ⟨hc.os,hc.tape,hc.output,hc.size,fun k hk _=>hc.block k hk⟩
theorem Fr.BC(h:Fr g w0 own its Q w)(F:It)(hq:ph g Q' w')(hc:Ch g w.heap.size w w')(hF:F.P w' (In w.heap.size w'.heap.size)):Fr g w0 own (F::its) Q' w':=by
 have h2:=h.call hq hc;refine⟨h2.lt,h2.ps,h2.ch,h2.own,h2.nd,fun G hG=>?_⟩;rcases af.1 hG with rfl|hG
 ·have hs:=h.ch.size;exact G.dH (fun b hb=>⟨aw hs hb.1,hb.2,fun p hp=>by have:=(h.own p hp).2.lt;have:=hb.1;omega⟩) (fun _ _=>rfl) hF
 ·exact h2.its G hG
theorem Fr.drew(h:Fr g w0 own its Q w)(n:Nat):Fr g w0 own its Q (w.drewN n):=
 ⟨h.lt,h.ps.mv fun _ _=>rfl,h.ch.drew n,h.own,h.nd,fun F hF=>F.dH (w:=w) (fun _ h=>h) (fun _ _=>rfl) (h.its F hF)⟩
theorem Fr.item(h:Fr g w0 own its Q w)(F:It)(hF:F.P w (ju w0.heap.size own w)):Fr g w0 own (F::its) Q w:=
 ⟨h.lt,h.ps,h.ch,h.own,h.nd,fun G hG=>by
  rcases af.1 hG with rfl|hG
  ·exact hF
  ·exact h.its G hG⟩
theorem Fr.cQ{b:Nat}{t:TypeId}{cs:Array Value}(h:Fr g w0 ((b,t,cs)::own) its Q w):NA w b t cs:=(h.own _ ag).2
theorem Fr.cR{p:Nat×TypeId×Array Value}{b:Nat}{t:TypeId}{cs:Array Value}(h:Fr g w0 (p::(b,t,cs)::own) its Q w):NA w b t cs:=(h.own (b,t,cs) (by simp)).2
theorem Fr.dR{p q:Nat×TypeId×Array Value}{b:Nat}{t:TypeId}{cs:Array Value}(h:Fr g w0 (p::q::(b,t,cs)::own) its Q w):NA w b t cs:=(h.own (b,t,cs) (by simp)).2
theorem Fr.pj{b:Nat}{t:TypeId}{cs:Array Value}(h:Fr g w0 ((b,t,cs)::own) its Q w)(hc:Ch b w.heap.size w w'){cs':Array Value}(hb:NA w' b t cs'):Fr g w0 ((b,t,cs')::own) its Q w':=by
 have hs:=h.ch.size;have hl:=h.lt;have h0:=h.own _ ag;have hbl:=h0.2.lt;have hnd:=h.nd;rw[bW]at hnd;have h01:w0.heap.size≤b:=h0.1;refine⟨h.lt,h.ps.mv fun k hk=>hc.block k (by omega) (by omega),⟨hc.os.trans h.ch.os,hc.tape.trans h.ch.tape,hc.output.trans h.ch.output,aw h.ch.size hc.size,fun k hk hg=>(hc.block k (by omega) (by omega)).trans (h.ch.block k hk hg)⟩,fun p hp=>?_,bW.2 ⟨hnd.1,hnd.2⟩,fun F hF=>F.dH (fun k hk=>⟨hk.1,aB hk.2.1 hc.size,fun p hp=>?_⟩) (fun k hk=>hc.block k hk.2.1 (hk.2.2 (b,t,cs) ag).symm) (h.its F hF)⟩
 ·rcases af.1 hp with rfl|hp
  ·exact⟨h0.1,hb⟩
  ·have:=h.own p (au _ hp);exact⟨this.1,this.2.ch hc this.2.lt (hnd.1 p hp).symm⟩
 ·rcases af.1 hp with rfl|hp
  ·exact hk.2.2 (b,t,cs) ag
  ·exact hk.2.2 p (au _ hp)
theorem Fr.swap{p q:Nat×TypeId×Array Value}(h:Fr g w0 (p::q::own) its Q w):Fr g w0 (q::p::own) its Q w:=by
 have hm:∀r,r∈q::p::own↔r∈p::q::own:=fun r=>by simp only[af];constructor<;>rintro(h|h|h)<;>simp[h]
 refine⟨h.lt,h.ps,h.ch,fun r hr=>h.own r ((hm r).1 hr),?_,fun F hF=>F.dH (fun b hb=>⟨hb.1,hb.2.1,fun r hr=>hb.2.2 r ((hm r).1 hr)⟩) (fun _ _=>rfl) (h.its F hF)⟩;have:=h.nd;simp only[bW,af]at this⊢;exact⟨fun r hr=>by rcases hr with rfl|hr;exact(this.1 q (.inl rfl)).symm;exact this.2.1 r hr,fun r hr=>this.1 r (.inr hr),this.2.2⟩
theorem Fr.fA{p:Nat×TypeId×Array Value}{b:Nat}{t:TypeId}{cs:Array Value}(h:Fr g w0 (p::(b,t,cs)::own) its Q w)(hc:Ch b w.heap.size w w'){cs':Array Value}(hb:NA w' b t cs'):Fr g w0 (p::(b,t,cs')::own) its Q w':=(h.swap.pj hc hb).swap
theorem Fr.ew{b:Nat}{t:TypeId}{cs:Array Value}(h:Fr g w0 ((b,t,cs)::own) its Q w)(i:Nat)(v:Value){cs':Array Value}(e:cs.setIfInBounds i v=cs'):Fr g w0 ((b,t,cs')::own) its Q (w.setCell ⟨b,i,none⟩ v):=
 h.pj ((Ch.refl b w.heap.size w).set (p:=⟨b,i,none⟩) (.inl rfl) v) (e▸h.cQ.put i v)
theorem Fr.zB{p:Nat×TypeId×Array Value}{b:Nat}{t:TypeId}{cs:Array Value}(h:Fr g w0 (p::(b,t,cs)::own) its Q w)(i:Nat)(v:Value){cs':Array Value}(e:cs.setIfInBounds i v=cs'):Fr g w0 (p::(b,t,cs')::own) its Q (w.setCell ⟨b,i,none⟩ v):=(h.swap.ew i v e).swap
theorem Fr.Nx{α:Type}{E:El α}{b n:Nat}{t:TypeId}{cells:Array Value}(h:Fr g w0 ((b,t,cells)::own) its Q w){css:List (List Value)}{xs:List α}(hcs:cells.toList=css.flatten)(hl:css.length=xs.length)(hR:∀(i:Nat) (cs:List Value) (x:α),css[i]?=some cs→xs[i]?=some x→E.R w (ju w0.heap.size ((b,t,cells)::own) w) cs x)(hn:n=xs.length)(hm:n≤9223372036854775807):Fr g w0 own (It.rr E (.slice (some ⟨b,0,none⟩) n n) xs::its) Q w:=by
 have hnd:=h.nd;rw[bW]at hnd;have hM:∀k,ju w0.heap.size ((b,t,cells)::own) w k→ju w0.heap.size own w k:=fun k hk=>⟨hk.1,hk.2.1,fun p hp=>hk.2.2 p (au _ hp)⟩
 refine⟨h.lt,h.ps,h.ch,fun p hp=>h.own p (au _ hp),hnd.2,fun F hF=>?_⟩;rcases af.1 hF with rfl|hF
 ·exact Rr.blk (E:=E) h.cQ hcs hl (fun i cs x hi hx=>El.hp (hR i cs x hi hx) hM fun _ _=>rfl) ⟨(h.own _ ag).1,h.cQ.lt,fun p hp=>(hnd.1 p hp).symm⟩ hn hm
 ·exact F.dH hM (fun _ _=>rfl) (h.its F hF)
theorem Fr.lit{α:Type}{E:El α}{b:Nat}{t:TypeId}{cells:Array Value}{x:α}(h:Fr g w0 ((b,t,cells)::own) (It.el E cells.toList x::its) Q w):Fr g w0 own (It.rr E (.slice (some ⟨b,0,none⟩) 1 1) [x]::It.el E cells.toList x::its) Q w:=
 h.Nx (css:=[cells.toList]) (by simp) rfl (fun i cs y hi hy=>by
  have:i=0:=by
   have:=(ay.1 hi).1
   simp at this
   omega
  subst this
  simp at hi hy
  subst hi hy
  exact h.its _ ag) rfl (by decide)
end
section
variable{g:Nat}{w0 w w':World}{own:eP}{its:List It}{Q Q':World→Prop}
theorem Fr.N6{F:It}(h:Fr g w0 own (F::its) Q w):F.P w (ju w0.heap.size own w):=h.its F ag
theorem Fr.VF{F G:It}(h:Fr g w0 own (G::F::its) Q w):F.P w (ju w0.heap.size own w):=h.its F (by simp)
theorem Fr.UW{F G K:It}(h:Fr g w0 own (G::K::F::its) Q w):F.P w (ju w0.heap.size own w):=h.its F (by simp)
theorem Fr.only{SQ:List It}(h:Fr g w0 own its Q w)(hs:∀F∈SQ,F∈its):Fr g w0 own SQ Q w:=⟨h.lt,h.ps,h.ch,h.own,h.nd,fun F hF=>h.its F (hs F hF)⟩
end
def EPost{α:Type}(E:El α)(C:RC)(w:World)(r:α×I.St)(e:Ending)(w':World):Prop:=∃cs,e=.returned (.agg cs.toArray)∧E.R w' (In w.heap.size w'.heap.size) cs r.1∧PS C r.2 w'∧Ch C.g w.heap.size w w'
theorem Fr.done{α:Type}{E:El α}{C:RC}{w0 w:World}{own:eP}{its:List It}{st:I.St}{cs:List Value}{x:α}(h:Fr C.g w0 own its (PS C st) w)(hx:E.R w (ju w0.heap.size own w) cs x):EPost E C w0 (x,st) (.returned (.agg cs.toArray)) w:=
 ⟨cs,rfl,El.hp hx (fun _ hb=>⟨hb.1,hb.2.1⟩) fun _ _=>rfl,h.q,h.ch⟩
theorem eW{Pr:Program}{α:Type}{E:El α}{ops:Array Oper}{rest:List Oper}{o:Oper}{a:Act}{Q:Exit→Act→World→Prop}{w:World}(hI:E.Info Pr)(hgd:o.guard=none)(s x:Operand){T:TypeId}(hT:Pr.underlying T=some (.slice E.t))
 (ho:o.op=.call {callee:=.builtin .append,args:=#[s,x],argTypes:=#[T,T]})
 (lo:Nat) (v:Value) (xs:List α) (hs:a.eval s=v) (hF:Ro E w lo v xs) (g c:Nat) (cs:List Value) (y:α) (hx:a.eval x=.slice (some ⟨g,0,none⟩) 1 c) {t:TypeId} {mk:Nat×Nat} (hg:w.heap[g]?=some (.cells cs.toArray t mk)) (hy:E.R w (Pow w lo v) cs y) (hm:(xs.length+1)*E.by'≤140737488355328) (hn:xs.length+1≤maxLen) (hlo:lo≤w.heap.size)
 (h:∀v' w',Ro E w' lo v' (xs++[y])→w.grownBy w' v.ownBlock→Below lo w w'→wpList Pr ops Q rest (a.put o.dst v') w'):wpList Pr ops Q (o::rest) a w:=by
 obtain⟨css,h1,h2,h3⟩:=hF;obtain⟨i0,z0,hi,hz,hsz,hb,hzs⟩:=hI;have hcl:=E.len hy;have hr:Rd w (g+1) E.k (some ⟨g,0,none⟩) 1 cs:=by refine⟨by omega,fun _=>⟨g,0,rfl,by omega,fun j u hu=>?_⟩⟩;have:=cM w g j cs.toArray t mk hg;rw[aW,this];simpa using hu
 refine wpList_plain hgd fun _ hK=>jH w s x T ho lo E.t i0 z0 E.k E.by' hT hi hz hsz hb hzs E.pos v xs.length css.flatten hs h2 (g+1) (some ⟨g,0,none⟩) 1 c cs hx hr (E.one hy) hn hm hlo fun v' w' k1 k2 k3=>hK _ _ (h v' w' ?_ k2 ((ax _ _).grown k2 hlo fun k hk=>(h2.lt k hk).1))
 have hP:∀g,Pow w lo v g→Pow w' lo v' g:=fun g hp=>⟨hp.1,aB hp.2.1 k2.size,by
  rcases k3 with e|e
  ·rw[e];exact hp.2.2
  ·rw[e];intro q;injection q with q;have:=hp.2.1;omega⟩
 have hC:∀g o,Pow w lo v g→w'.cell? ⟨g,o,none⟩=w.cell? ⟨g,o,none⟩:=fun g o hp=>World.cell?_of_block (a:=⟨g,o,none⟩) (k2.block g hp.2.1 hp.2.2)
 refine⟨css++[cs],by simp[h1],by rw[ah,List.flatten_append];simpa using k1,fun i cs' x' hi hx'=>?_⟩;by_cases hlt:i<css.length
 ·rw[ba hlt]at hi;rw[ba (by omega)]at hx';exact E.dH hP hC (h3 i cs' x' hi hx')
 ·rw[bg (by omega)]at hi hx';have:i=css.length:=by have:=(ay.1 hi).1;simp at this;omega
  subst this;rw[h1]at hx';simp at hi hx';subst hi hx';exact E.dH hP hC hy
section
variable{α:Type}{E:El α}{w w':World}{lo g:Nat}{v:Value}{xs:List α}
theorem Ro.ch(h:Ro E w lo v xs)(hc:Ch g w.heap.size w w')(hg:g<lo):Ro E w' lo v xs:=
 h.grown (row:=some g) ⟨hc.os,hc.tape,hc.output,hc.size,fun k hk hn=>hc.block k hk fun e=>hn (by rw[e])⟩ fun k e=>by injection e with e;omega
theorem Ro.alloc(h:Ro E w lo v xs)(o:Obj):Ro E (w.alloc o) lo v xs:=h.below ((ax w.heap.size w).alloc (aa _) o)
theorem Ro.pow{Q:Nat→Prop}{cs:List Value}{x:α}(h:Ro E w lo v xs)(hlo:lo≤w.heap.size)(hx:E.R w' Q cs x)(hQ:∀b,Q b→w.heap.size≤b∧b<w'.heap.size):E.R w' (Pow w' lo v) cs x:=by
 obtain⟨css,h1,h2,h3⟩:=h;refine El.hp hx (fun b hb=>?_) fun _ _=>rfl
 obtain⟨b1,b2⟩:=hQ b hb;refine⟨by omega,b2,fun e=>?_⟩;have:=(h2.lt b e.symm).2;omega
end
section
namespace NF
open Go.Lib (dg nDigits decDigits)
def low(u j:Nat):List UInt8:=(List.range j).map fun t=>dg u (j-1-t)
theorem ub(u j:Nat):(low u j).length=j:=by simp[low]
theorem yc(u j:Nat):low u (j+1)=dg u j::low u j:=by
 unfold low;rw[List.range_succ_eq_map,List.map_cons,List.map_map];congr 1;apply cn;intro t _;show dg u (j+1-1-(t+1))=_;congr 1;omega
theorem mE(u:Nat):decDigits u=low u (nDigits u):=Go.Lib.decDigits_eq u
theorem lS(u j:Nat):(dg u j).toNat=48+u/10^j%10:=by
 unfold dg;rw[UInt8.toNat_ofNat_of_lt' (by show _<256;omega)]
theorem ke{u j:Nat}(h:u<10^j)(hj:1≤j):nDigits u≤j:=by
 induction j generalizing u with
 |zero=>omega
 |succ j ih=>
  by_cases h1:u<10
  ·rw[Go.Lib.nDigits_small h1];omega
  ·rw[Go.Lib.nDigits_big h1];have hj1:1≤j:=by
    rcases cu j with e|e
    ·subst e;simp at h;omega
    ·exact e
   have:=ih (u:=u/10) (by rw[Nat.pow_succ]at h;omega) hj1;omega
def SR(u n:Nat):List UInt8:=low u (max n (nDigits u))
theorem four(f:Nat)(h:f<10000):(decDigits (f+10000)).drop 1=SR f 4:=by
 have h5:nDigits (f+10000)=5:=Go.Lib.nDigits_unique 4 _ (by omega) (by omega);have h4:nDigits f≤4:=ke (by omega) (by omega);unfold SR;rw[mE,h5,Nat.max_eq_left h4,yc,List.drop_one,bI];unfold low;apply cn;intro t ht;have ht':t<4:=List.mem_range.1 ht;apply aF.1;rw[lS,lS];obtain rfl|rfl|rfl|rfl:t=0∨t=1∨t=2∨t=3:=by omega
 ·show 48+(f+10000)/1000%10=48+f/1000%10;omega
 ·show 48+(f+10000)/100%10=48+f/100%10;omega
 ·show 48+(f+10000)/10%10=48+f/10%10;omega
 ·show 48+(f+10000)/1%10=48+f/1%10;omega
def minus(n:Int):List UInt8:=if n<0 then [45]else []
theorem zM(n:Int):Go.Lib.itoa n=minus n++decDigits n.natAbs:=by
 unfold Go.Lib.itoa minus;split
 ·rfl
 ·rw[aZ];congr 1;omega
def kg(n:Int):List UInt8:=minus n++decDigits (n.natAbs/10000)++[46]++SR (n.natAbs%10000) 4
def iL(x:Nat):UInt8:=if x<10 then UInt8.ofNat (48+x)else UInt8.ofNat (87+x)
def gM(l:List UInt8):List UInt8:=l.flatMap fun c=>[iL (c.toNat/16),iL (c.toNat%16)]
def quo(l:List UInt8):List UInt8:=l.flatMap fun c=>if c.toNat=39 then [39,39]else [c]
theorem Dz(l:List UInt8)(c:UInt8):gM (l++[c])=gM l++[iL (c.toNat/16),iL (c.toNat%16)]:=by simp[gM]
theorem rZ(l:List UInt8):(gM l).length=2*l.length:=by
 induction l with
 |nil=>rfl
 |cons c l ih=>
  have:gM (c::l)=[iL (c.toNat/16),iL (c.toNat%16)]++gM l:=by simp[gM]
  rw[this,ah,ih];simp;omega
theorem Bh(l:List UInt8):(quo l).length≤2*l.length:=by
 induction l with
 |nil=>exact aa _
 |cons c l ih=>
  have:quo (c::l)=(if c.toNat=39 then [39,39]else [c])++quo l:=by simp[quo]
  rw[this,ah];have h2:(if c.toNat=39 then [39,39]else [c]:List UInt8).length≤2:=by split<;>simp
  simp only[ab];omega
def prt(v:Cell.Val):List UInt8:=
 if Cell.js v=false then []
 else if v.k.toNat=0 then [110,117,108,108]
 else if v.k.toNat=1 then(if v.n=1 then [116,114,117,101]else [102,97,108,115,101])
 else if v.k.toNat=2 then Go.Lib.itoa v.n
 else if v.k.toNat=3 then kg v.n
 else if v.k.toNat=4 then [39]++quo v.s.data.toList++[39]
 else [120,39]++gM v.s.data.toList++[39]
end NF
namespace NF
open Go
theorem Ec:∀s:List UInt8,(Lib.index s [39]= -1∧∀c∈s,c.toNat≠39)∨∃(i:Nat) (r:List UInt8),Lib.index s [39]=i∧s=s.take i++39::r∧i+1+r.length=s.length∧∀c∈s.take i,c.toNat≠39:=by
 intro s;induction s with
 |nil=>exact .inl ⟨rfl,fun c h=>by cases h⟩
 |cons b l ih=>
  by_cases hb:b=39
  ·subst hb;exact .inr ⟨0,l,by simp[Lib.index,List.isPrefixOf],by simp,by simp;omega,fun c h=>by simp at h⟩
  ·have hn:b.toNat≠39:=fun h=>hb (aF.1 h)
   have e:Lib.index (b::l) [39]=if Lib.index l [39]== -1 then -1 else Lib.index l [39]+1:=by
    conv=>lhs;unfold Lib.index
    rw[if_neg];simp[List.isPrefixOf];exact fun h=>hb h.symm
   rcases ih with⟨h1,h2⟩|⟨i,r,h1,h2,h3,h4⟩
   ·refine .inl ⟨by rw[e,h1];rfl,fun c hc=>?_⟩;rcases af.1 hc with rfl|hc
    ·exact hn
    ·exact h2 c hc
   ·refine .inr ⟨i+1,r,?_,?_,?_,fun c hc=>?_⟩
    ·rw[e,h1,if_neg (by simp)];omega
    ·rw[List.take_succ_cons,List.cons_append,←h2]
    ·simp;omega
    ·rw[List.take_succ_cons]at hc;rcases af.1 hc with rfl|hc
     ·exact hn
     ·exact h4 c hc
theorem tj:∀l:List UInt8,(∀c∈l,c.toNat≠39)→quo l=l:=by
 intro l;induction l with
 |nil=>intro _;rfl
 |cons c l ih=>
  intro h;have e:quo (c::l)=(if c.toNat=39 then [39,39]else [c])++quo l:=by simp[quo]
  rw[e,if_neg (h c (by simp)),ih (fun d hd=>h d (by simp[hd]))];rfl
theorem zr(l m:List UInt8):quo (l++m)=quo l++quo m:=by simp[quo]
theorem drop_at{s r:List UInt8}{i:Nat}(h:s=s.take i++39::r)(hl:i+1+r.length=s.length):s.drop (i+[(39:UInt8)].length)=r:=by
 have ht:(s.take i).length=i:=by rw[aP];omega
 conv=>lhs;rw[h]
 rw[List.drop_append,ht];simp;omega
theorem rN:∀(n:Nat) (s:List UInt8),s.length≤n→Lib.replaceK [39] [39,39] (Lib.count s [39]) s=quo s∧Lib.count s [39]≤s.length:=by
 intro n;induction n with
 |zero=>
  intro s h;obtain rfl:s=[]:=aC (by omega);rw[Lib.count_miss (by rfl)];exact⟨rfl,aa _⟩
 |succ n ih=>
  intro s h;rcases Ec s with⟨h1,h2⟩|⟨i,r,h1,h2,h3,h4⟩
  ·rw[Lib.count_miss h1];exact⟨(tj s h2).symm,ao _⟩
  ·obtain⟨i1,i2⟩:=ih r (by omega);rw[Lib.count_hit (by simp) h1,bY,drop_at h2 h3];refine⟨?_,by omega⟩;rw[Lib.replaceK_hit _ _ _ _ i h1,drop_at h2 h3,i1];conv=>rhs;rw[h2]
   have e:quo (39::r)=[39,39]++quo r:=by simp[quo]
   rw[zr,tj _ h4,e,aX]
theorem xA(s:List UInt8):Lib.replaceAll s [39] [39,39]=quo s:=by
 have e:Lib.replaceAll s [39] [39,39]=Lib.replaceK [39] [39,39] (Lib.count s [39]) s:=by unfold Lib.replaceAll Lib.replace Lib.replaceNum;rw[if_neg (by decide),if_pos (.inl (by omega))]
 rw[e];exact(rN _ s (aa _)).1
theorem GW(s:List UInt8):Lib.count s [39]≤s.length:=(rN _ s (aa _)).2
end NF
end
section
namespace I
open Ev (Ex Hd)
structure Wr where
 p:List Bs
 n:Nat
 b:Bool
def dx(b:Bool)(w:Wr):Wr:={w with b:=w.b||b}
def fA(s:Bs)(w:Wr):Wr:=dx (decide (s=[])||decide (4097<w.n+(s.length+1))) ⟨w.p++[s],w.n+(s.length+1),w.b⟩
def put:List Bs→Wr→Wr
 |[],w=>w
 |s::l,w=>put l (fA s w)
def option(set:Bool)(l:List Bs)(w:Wr):Wr:=if set=true then put l w else w
def fm{α:Type}(one:α→Wr→Wr):Bool→List α→Wr→Wr
 |_,[],w=>w
 |c,v::l,w=>if w.b=true then w else fm one true l (one v (option c [[44]] w))
def each{α:Type}(one:α→Wr→Wr)(l:List α)(w:Wr):Wr:=
 if(fm one false l w).b=true then fm one false l w else dx (decide (l.length=0)) (fm one false l w)
def word(i:Int)(l:List Bs):Bs:=if i<0∨(l.length:Int)≤i then []else l.getD i.toNat []
def dw(o:UInt8):Bs:=word ((o.toNat:Int)-3) [[45],[43],[45],[42],[61],[60,62],[60],[60,61],[62],[62,61],[97,110,100],[111,114],[110,111,116],[],[99,111,117,110,116],[115,117,109],[109,105,110],[109,97,120],[117,115,101,114]]
def gn(o:UInt8):Bool:=decide (3≤o.toNat)&&decide (o.toNat≤16)
def dv(o:UInt8)(n:Nat):Int:=
 if o.toNat=1∨o.toNat=2∨o.toNat=21 then 0
 else if o.toNat=3∨o.toNat=15∨o.toNat=16 then 1
 else if 3<o.toNat∧o.toNat<15 then 2
 else if o.toNat=17 then(min n 1:Nat)
 else if 17<o.toNat∧o.toNat≤20 then 1
 else -1
def qb:Ex→UInt8
 | .mk h _=>h.o
def fB(s:ByteArray):Bs:=s.data.toList
def im(o:UInt8)(k:Ex)(W:Wr→Wr)(w:Wr):Wr:=option (gn o&&gn (qb k)) [[41]] (W (option (gn o&&gn (qb k)) [[40]] w))
def within:Nat→Ex→Wr→Wr
 |d,.mk h [],w=>
  if(dx (decide (24<d)||decide ((0:Int)≠dv h.o 0)) w).b=true then dx (decide (24<d)||decide ((0:Int)≠dv h.o 0)) w
  else if h.o.toNat=1 then put [NF.prt h.v] w
  else if h.o.toNat=2 then put [fB h.nm] (option (decide (fB h.of≠[])) [fB h.of,[46]] w)
  else if h.o.toNat=21 then put [dw h.o] w
  else put [[41]] (put [[42]] (put [dw h.o,[40]] w))
 |d,.mk h [a],w=>
  if(dx (decide (24<d)||decide ((1:Int)≠dv h.o 1)) w).b=true then dx (decide (24<d)||decide ((1:Int)≠dv h.o 1)) w
  else if h.o.toNat=3∨h.o.toNat=15 then im h.o a (within (d+1) a) (put [dw h.o] w)
  else if h.o.toNat=16 then put [[105,115],[110,117,108,108]] (im h.o a (within (d+1) a) w)
  else put [[41]] (im h.o a (within (d+1) a) (put [dw h.o,[40]] w))
 |d,.mk h [a,b],w=>
  if(dx (decide (24<d)||decide ((2:Int)≠dv h.o 2)) w).b=true then dx (decide (24<d)||decide ((2:Int)≠dv h.o 2)) w
  else im h.o b (within (d+1) b) (put [dw h.o] (im h.o a (within (d+1) a) w))
 |_,.mk _ (_::_::_::_),w=>dx true w
def jy(e:Ex)(w:Wr):Wr:=within 1 e w
def first(l:List Ex)(ws:List Bs)(w:Wr):Wr:=match l with
 |[]=>w
 |e::_=>jy e (put ws w)
def jF(l:List Ex)(w:Wr):Wr:=put [[41]] (each jy l (put [[40]] w))
def gY(c:Oj)(w:Wr):Wr:=
 option (decide (c.ac.toNat=2)) [[111,110],[100,101,108,101,116,101],[115,101,116],[110,117,108,108]] (option (decide (c.ac.toNat=1)) [[111,110],[100,101,108,101,116,101],[99,97,115,99,97,100,101]] (option (decide (c.rf≠[])) [[114,101,102,101,114,101,110,99,101,115],c.rf]
  ((fun w=>if 0<c.ck.length then put [[41]] (first c.ck [[99,104,101,99,107],[40]] w)else w)
   (option c.un [[117,110,105,113,117,101]] (option c.nn [[110,111,116],[110,117,108,108]] (option c.pr [[112,114,105,109,97,114,121],[107,101,121]] (put [c.nm,word ((c.k.toNat:Int)-1) [[98,111,111,108],[105,110,116],[100,101,99],[116,101,120,116],[98,121,116,101,115]]] w)))))))
def iC(p:UInt8)(w:Wr):Wr:=put [word ((p.toNat:Int)-1) [[115,101,108,101,99,116],[105,110,115,101,114,116],[117,112,100,97,116,101],[100,101,108,101,116,101]]] w
def jx(l:List UInt8)(w:Wr):Wr:=each iC l w
def pY(i:Qq)(w:Wr):Wr:=option (decide (i.nm≠[])) [[97,115],i.nm] (jy i.x w)
def jJ(s:Src)(w:Wr):Wr:=first s.on [[111,110]] (option (decide (s.al≠[])) [[97,115],s.al] (put [s.nm] w))
def l9(o:Ord)(w:Wr):Wr:=option o.ds [[100,101,115,99]] (jy o.x w)
def sF(c:OI)(w:Wr):Wr:=jy c.x (put [c.nm,[61]] w)
def Rk:Wr:=⟨[],0,false⟩
def di:List Bs→Bs
 |[]=>[]
 |[s]=>s
 |s::l=>s++32::di l
end I
end
section
variable{w w':World}{P P':Nat→Prop}
end
def Sz(l:I.Bs):Prop:=l.length≤maxLen
def fL:El I.Qq where
 t:=130
 k:=9
 by':=120
 R w P cs i:=∃ce,cs=ce++[.string (I.bs i.nm)]∧XR w P ce i.x∧Sz i.nm
 pos:=by decide
 len:=by rintro w P cs i ⟨ce,rfl,hx,_⟩;have:=NI.len (w:=w) (P:=P) hx;simp[this];rfl
 one:=by
  rintro w P cs i ⟨ce,rfl,hx,_⟩ u hu;rcases aM.1 hu with hu|hu
  ·exact NI.one (w:=w) (P:=P) hx u hu
  ·simp at hu;subst hu;rfl
 dH:=by rintro w w' P P' cs i hP hk ⟨ce,rfl,hx,h2⟩;exact⟨ce,rfl,NI.dH hP hk hx,h2⟩
def fY:El I.Ord where
 t:=134
 k:=9
 by':=112
 R w P cs i:=∃ce,cs=ce++[.bool i.ds]∧XR w P ce i.x
 pos:=by decide
 len:=by rintro w P cs i ⟨ce,rfl,hx⟩;have:=NI.len (w:=w) (P:=P) hx;simp[this];rfl
 one:=by
  rintro w P cs i ⟨ce,rfl,hx⟩ u hu;rcases aM.1 hu with hu|hu
  ·exact NI.one (w:=w) (P:=P) hx u hu
  ·simp at hu;subst hu;rfl
 dH:=by rintro w w' P P' cs i hP hk ⟨ce,rfl,hx⟩;exact⟨ce,rfl,NI.dH hP hk hx⟩
def fG:El I.OI where
 t:=85
 k:=9
 by':=120
 R w P cs i:=∃ce,cs=.string (I.bs i.nm)::ce∧XR w P ce i.x∧Sz i.nm
 pos:=by decide
 len:=by rintro w P cs i ⟨ce,rfl,hx,_⟩;have:=NI.len (w:=w) (P:=P) hx;simp[this];rfl
 one:=by
  rintro w P cs i ⟨ce,rfl,hx,_⟩ u hu;rcases af.1 hu with hu|hu
  ·subst hu;rfl
  ·exact NI.one (w:=w) (P:=P) hx u hu
 dH:=by rintro w w' P P' cs i hP hk ⟨ce,rfl,hx,h2⟩;exact⟨ce,rfl,NI.dH hP hk hx,h2⟩
def ft:El I.Src where
 t:=132
 k:=3
 by':=56
 R w P cs i:=∃v,cs=[.string (I.bs i.nm),.string (I.bs i.al),v]∧Rr NI w P v i.on∧Sz i.nm∧Sz i.al
 pos:=by decide
 len:=by rintro w P cs i ⟨v,rfl,_⟩;rfl
 one:=by
  rintro w P cs i ⟨v,rfl,hv,_⟩ u hu;simp at hu;rcases hu with rfl|rfl|rfl
  ·rfl
  ·rfl
  ·exact hv.one
 dH:=by rintro w w' P P' cs i hP hk ⟨v,rfl,hv,h2⟩;exact⟨v,rfl,hv.dH hP hk,h2⟩
def eM:El I.Oj where
 t:=40
 k:=8
 by':=72
 R w P cs i:=∃v,cs=[.string (I.bs i.nm),.int .u8 (i.k.toNat:Int),.bool i.pr,.bool i.nn,.bool i.un,v,.string (I.bs i.rf),.int .u8 (i.ac.toNat:Int)]∧Rr NI w P v i.ck∧Sz i.nm∧Sz i.rf
 pos:=by decide
 len:=by rintro w P cs i ⟨v,rfl,_⟩;rfl
 one:=by
  rintro w P cs i ⟨v,rfl,hv,_⟩ u hu;simp at hu;rcases hu with rfl|rfl|rfl|rfl|rfl|rfl|rfl|rfl
  all_goals first|rfl|exact hv.one
 dH:=by rintro w w' P P' cs i hP hk ⟨v,rfl,hv,h2⟩;exact⟨v,rfl,hv.dH hP hk,h2⟩
def fO:El (List Ev.Ex) where
 t:=27
 k:=1
 by':=24
 R w P cs l:=∃v,cs=[v]∧Rr NI w P v l
 pos:=by decide
 len:=by rintro w P cs i ⟨v,rfl,_⟩;rfl
 one:=by rintro w P cs i ⟨v,rfl,hv⟩ u hu;simp at hu;subst hu;exact hv.one
 dH:=by rintro w w' P P' cs i hP hk ⟨v,rfl,hv⟩;exact⟨v,rfl,hv.dH hP hk⟩
def jZ:El UInt8 where
 t:=51
 k:=1
 by':=1
 R _ _ cs p:=cs=[.int .u8 (p.toNat:Int)]
 pos:=by decide
 len:=by rintro w P cs i rfl;rfl
 one:=by rintro w P cs i rfl u hu;simp at hu;subst hu;rfl
 dH:=by rintro w w' P P' cs i hP hk rfl;rfl
def fw:El I.NS where
 t:=45
 k:=7
 by':=136
 R w P cs q:=∃v1 v2 v3 v4 v5,cs=[.bool q.all,v1,v2,v3,v4,v5,.int .i64 q.lim]∧Rr fL w P v1 q.its∧Rr ft w P v2 q.fr∧Rr NI w P v3 q.wh∧Rr NI w P v4 q.gr∧Rr fY w P v5 q.od∧ -9223372036854775808≤q.lim∧q.lim≤9223372036854775807
 pos:=by decide
 len:=by rintro w P cs i ⟨v1,v2,v3,v4,v5,rfl,_⟩;rfl
 one:=by
  rintro w P cs i ⟨v1,v2,v3,v4,v5,rfl,h1,h2,h3,h4,h5,_⟩ u hu;simp at hu;rcases hu with rfl|rfl|rfl|rfl|rfl|rfl|rfl
  ·rfl
  ·exact h1.one
  ·exact h2.one
  ·exact h3.one
  ·exact h4.one
  ·exact h5.one
  ·rfl
 dH:=by rintro w w' P P' cs i hP hk ⟨v1,v2,v3,v4,v5,rfl,h1,h2,h3,h4,h5,h6⟩;exact⟨v1,v2,v3,v4,v5,rfl,h1.dH hP hk,h2.dH hP hk,h3.dH hP hk,h4.dH hP hk,h5.dH hP hk,h6⟩
def df:El I.NC where
 t:=30
 k:=13
 by':=232
 R w P cs s:=∃v1 v2 v3 v4 v5 v6,cs=[.int .u8 (s.k.toNat:Int),.string (I.bs s.nm),.string (I.bs s.on),.string (I.bs s.NG),.int .u8 (s.ev.toNat:Int),v1,v2,v3,v4,v5,v6,.bool s.opt,.string (I.bs s.key)]∧Rr eM w P v1 s.NH∧Rr fw w P v2 s.q∧Rr fO w P v3 s.vals∧Rr fG w P v4 s.dD∧Rr NI w P v5 s.wh∧Rr jZ w P v6 s.pv∧Sz s.nm∧Sz s.on∧Sz s.NG∧Sz s.key
 pos:=by decide
 len:=by rintro w P cs i ⟨v1,v2,v3,v4,v5,v6,rfl,_⟩;rfl
 one:=by
  rintro w P cs i ⟨v1,v2,v3,v4,v5,v6,rfl,h1,h2,h3,h4,h5,h6,_⟩ u hu;simp at hu;rcases hu with rfl|rfl|rfl|rfl|rfl|rfl|rfl|rfl|rfl|rfl|rfl|rfl|rfl
  ·rfl
  ·rfl
  ·rfl
  ·rfl
  ·rfl
  ·exact h1.one
  ·exact h2.one
  ·exact h3.one
  ·exact h4.one
  ·exact h5.one
  ·exact h6.one
  ·rfl
  ·rfl
 dH:=by rintro w w' P P' cs i hP hk ⟨v1,v2,v3,v4,v5,v6,rfl,h1,h2,h3,h4,h5,h6,h7⟩;exact⟨v1,v2,v3,v4,v5,v6,rfl,h1.dH hP hk,h2.dH hP hk,h3.dH hP hk,h4.dH hP hk,h5.dH hP hk,h6.dH hP hk,h7⟩
theorem El.ja{α:Type}{E:El α}{P:Program}(h:((P.info? E.t).bind fun i=>i.zero.map fun z=>(i.size,i.bytes,z.cells.size))=some (E.k,E.by',E.k)):E.Info P:=by
 obtain⟨i,hi,h⟩:=Option.bind_eq_some_iff.1 h;obtain⟨z,hz,h⟩:=cr.1 h;simp only[aT]at h;exact⟨i,z,hi,hz,h.1,h.2.1,h.2.2⟩
theorem Ba:NI.Info Tryz.prog:=El.ja (by kernel_rfl)
theorem sV:fL.Info Tryz.prog:=El.ja (by kernel_rfl)
theorem sQ:fY.Info Tryz.prog:=El.ja (by kernel_rfl)
theorem qO:fG.Info Tryz.prog:=El.ja (by kernel_rfl)
theorem tI:ft.Info Tryz.prog:=El.ja (by kernel_rfl)
theorem sZ:eM.Info Tryz.prog:=El.ja (by kernel_rfl)
theorem tJ:fO.Info Tryz.prog:=El.ja (by kernel_rfl)
theorem wi:jZ.Info Tryz.prog:=El.ja (by kernel_rfl)
theorem DR:fw.Info Tryz.prog:=El.ja (by kernel_rfl)
section
theorem IB:Ql.Info Tryz.prog:=El.ja (by kernel_rfl)
section
open I (Wr)
structure WS (g:Nat) (w:World) (v:Value) (st:Wr):Prop where
 blk:NA w g 94 #[v,.int .i64 (st.n:Int),.bool st.b]
 own:Ro Ql w (g+1) v st.p
 np:st.n≤st.p.length*562949953421312
structure ChW (g:Nat) (v:Value) (w w':World):Prop where
 os:w'.os=w.os
 tape:w'.tape=w.tape
 output:w'.output=w.output
 size:w.heap.size≤w'.heap.size
 block:∀k,k<w.heap.size→k≠g→v.ownBlock≠some k→w'.heap[k]?=w.heap[k]?
def Bk(v v':Value)(w:World):Prop:=v'.ownBlock=v.ownBlock∨∀k,v'.ownBlock=some k→w.heap.size≤k
def gm(g:Nat)(w:World)(v:Value)(st:Wr)(e:Ending)(w':World):Prop:=e=.returned (.tuple #[])∧∃v',WS g w' v' st∧ChW g v w w'∧Bk v v' w
structure Fw (g:Nat) (w0:World) (v0:Value) (ow:eP) (st:Wr) (v:Value) (w:World):Prop where
 lt:g<w0.heap.size
 ws:WS g w v st
 ch:ChW g v0 w0 w
 bk:Bk v0 v w0
 own:∀p∈ow,w0.heap.size≤p.1∧NA w p.1 p.2.1 p.2.2∧v.ownBlock≠some p.1
 ob:∀k,v0.ownBlock=some k→g<k∧k<w0.heap.size
section
variable{g:Nat}{w0 w w':World}{v0 v:Value}{own:eP}{st st':Wr}
theorem Ng{α:Type}{E:El α}{lo:Nat}{xs:List α}(h:Ro E w lo v xs):∀k,v.ownBlock=some k→lo≤k∧k<w.heap.size:=by
 obtain⟨css,h1,h2,h3⟩:=h;exact fun k hk=>h2.lt k hk
theorem WS.ob(h:WS g w v st):∀k,v.ownBlock=some k→g<k∧k<w.heap.size:=fun k hk=>by have:=Ng h.own k hk;omega
theorem WS.below(h:WS g w v st)(hb:Below w.heap.size w w'):WS g w' v st:=⟨h.blk.below hb h.blk.lt,h.own.below hb,h.np⟩
theorem Fw.start(h:WS g w v st):Fw g w v [] st v w:=⟨h.blk.lt,h,⟨rfl,rfl,rfl,aa _,fun _ _ _ _=>rfl⟩,.inl rfl,fun p hp=>by simp at hp,h.ob⟩
theorem Fw.quiet(h:Fw g w0 v0 own st v w)(hb:Below w.heap.size w w'):Fw g w0 v0 own st v w':=by
 have hs:=h.ch.size;exact⟨h.lt,h.ws.below hb,⟨hb.os.trans h.ch.os,hb.tape.trans h.ch.tape,hb.output.trans h.ch.output,aw hs hb.size,fun k h1 h2 h3=>(hb.block k (by omega)).trans (h.ch.block k h1 h2 h3)⟩,h.bk,fun p hp=>⟨(h.own p hp).1,(h.own p hp).2.1.below hb (h.own p hp).2.1.lt,(h.own p hp).2.2⟩,h.ob⟩
theorem Fw.tmp(h:Fw g w0 v0 own st v w)(o:Obj):Fw g w0 v0 own st v (w.alloc o):=h.quiet ((ax w.heap.size w).alloc (aa _) o)
theorem Fw.drew(h:Fw g w0 v0 own st v w)(n:Nat):Fw g w0 v0 own st v (w.drewN n):=h.quiet (below_drewN (ax w.heap.size w) n)
theorem Fw.new(h:Fw g w0 v0 own st v w)(t:TypeId)(cs:Array Value):Fw g w0 v0 ((w.heap.size,t,cs)::own) st v (w.alloc (.cells cs t)):=by
 have h2:=h.tmp (.cells cs t);refine⟨h2.lt,h2.ws,h2.ch,h2.bk,fun p hp=>?_,h2.ob⟩;rcases af.1 hp with rfl|hp
 ·refine⟨h.ch.size,NA.new w t cs,fun e=>?_⟩;have:=(h.ws.ob _ e).2;exact Nat.lt_irrefl _ this
 ·exact h2.own p hp
theorem Fw.call(h:Fw g w0 v0 own st v w){v':Value}(k1:WS g w' v' st')(k2:ChW g v w w')(k3:Bk v v' w):Fw g w0 v0 own st' v' w':=by
 have hs:=h.ch.size;have hv:∀k,k<w0.heap.size→v0.ownBlock≠some k→v.ownBlock≠some k:=fun k hk h1 e=>by
  rcases h.bk with h2|h2
  ·exact h1 (h2.symm.trans e)
  ·have:=h2 k e;omega
 refine⟨h.lt,k1,⟨k2.os.trans h.ch.os,k2.tape.trans h.ch.tape,k2.output.trans h.ch.output,aw hs k2.size,fun k h1 h2 h3=>(k2.block k (by omega) h2 (hv k h1 h3)).trans (h.ch.block k h1 h2 h3)⟩,?_,fun p hp=>?_,h.ob⟩
 ·rcases k3 with e|e
  ·rcases h.bk with e2|e2
   ·exact .inl (e.trans e2)
   ·exact .inr fun k hk=>e2 k (e▸hk)
  ·exact .inr fun k hk=>by have:=e k hk;omega
 ·obtain⟨h1,h2,h3⟩:=h.own p hp;have hl:=h.lt;have h2l:=h2.lt;refine⟨h1,(k2.block p.1 h2.lt (by omega) h3).trans h2,fun e=>?_⟩;rcases k3 with e2|e2
  ·exact h3 (e2.symm.trans e)
  ·have:=e2 _ e;omega
theorem Fw.done(h:Fw g w0 v0 own st v w):gm g w0 v0 st (.returned (.tuple #[])) w:=⟨rfl,v,h.ws,h.ch,h.bk⟩
theorem Fw.sub(h:Fw g w0 v0 own st v w){f:FuncId}{args:Array Value}(c:Calls Tryz.prog f args w (gm g w v st')):Calls Tryz.prog f args w fun e w'=>∃v',e=.returned (.tuple #[])∧Fw g w0 v0 own st' v' w':=
 c.mono fun _ _ ⟨h1,v',h2,h3,h4⟩=>⟨v',h1,h.call h2 h3 h4⟩
theorem Fw.cQ{b:Nat}{t:TypeId}{cs:Array Value}(h:Fw g w0 v0 ((b,t,cs)::own) st v w):NA w b t cs:=(h.own _ ag).2.1
theorem Fw.cR{p:Nat×TypeId×Array Value}{b:Nat}{t:TypeId}{cs:Array Value}(h:Fw g w0 v0 (p::(b,t,cs)::own) st v w):NA w b t cs:=(h.own (b,t,cs) (by simp)).2.1
theorem Fw.dR{p q:Nat×TypeId×Array Value}{b:Nat}{t:TypeId}{cs:Array Value}(h:Fw g w0 v0 (p::q::(b,t,cs)::own) st v w):NA w b t cs:=(h.own (b,t,cs) (by simp)).2.1
theorem Fw.low(h:Fw g w0 v0 own st v w){k:Nat}(hk:k<g):w.heap[k]?=w0.heap[k]?:=h.ch.block k (by have:=h.lt;omega) (by omega) fun e=>by have:=(h.ob k e).1;omega
theorem Fw.el{α:Type}{E:El α}{cs:List Value}{x:α}(h:Fw g w0 v0 own st v w)(hx:E.R w0 (fun k=>k<g) cs x):E.R w (fun k=>k<g) cs x:=El.hp hx (fun _ h=>h) fun _ hb=>h.low hb
theorem Fw.rr{α:Type}{E:El α}{u:Value}{xs:List α}(h:Fw g w0 v0 own st v w)(hx:Rr E w0 (fun k=>k<g) u xs):Rr E w (fun k=>k<g) u xs:=Rr.hp hx (fun _ h=>h) fun _ hb=>h.low hb
theorem Fw.M4(h:Fw g w0 v0 own st v w){n:Nat}(hn:n≤st.p.length*562949953421312):Fw g w0 v0 own ⟨st.p,n,st.b⟩ v (w.setCell ⟨g,1,none⟩ (.int .i64 (n:Int))):=by
 have hs:=aU w ⟨g,1,none⟩ (.int .i64 (n:Int));refine h.call (v':=v) ⟨h.ws.blk.put 1 _,h.ws.own.grown (row:=some g) ⟨rfl,rfl,rfl,by simp,fun k _ hk=>hs k fun e=>hk (by rw[e])⟩ (fun k e=>by injection e with e;omega),hn⟩ ⟨rfl,rfl,rfl,by simp,fun k _ hk _=>hs k hk⟩ (.inl rfl)
theorem Fw.KK(h:Fw g w0 v0 own st v w)(b:Bool):Fw g w0 v0 own ⟨st.p,st.n,b⟩ v (w.setCell ⟨g,2,none⟩ (.bool b)):=by
 have hs:=aU w ⟨g,2,none⟩ (.bool b);refine h.call (v':=v) ⟨h.ws.blk.put 2 _,h.ws.own.grown (row:=some g) ⟨rfl,rfl,rfl,by simp,fun k _ hk=>hs k fun e=>hk (by rw[e])⟩ (fun k e=>by injection e with e;omega),h.ws.np⟩ ⟨rfl,rfl,rfl,by simp,fun k _ hk _=>hs k hk⟩ (.inl rfl)
theorem JK{n m:Nat}{p:List I.Bs}{s:I.Bs}(h:n≤p.length*m):n≤(p++[s]).length*m:=aw h (Nat.mul_le_mul_right m (by simp))
theorem Fw.part(h:Fw g w0 v0 own st v w)(o:Obj){v7:Value}{s:I.Bs}{w6 w7:World}(h6:w6=w.alloc o)(ho:Ro Ql w7 (g+1) v7 (st.p++[s]))(hg:w6.grownBy w7 v.ownBlock)(hk:v7.ownBlock=v.ownBlock∨v7.ownBlock=some w6.heap.size):Fw g w0 v0 own ⟨st.p++[s],st.n,st.b⟩ v7 (w7.setCell ⟨g,0,none⟩ v7):=by
 subst h6;have hs:=aU w7 ⟨g,0,none⟩ v7;have h6:=h.tmp o;have hgb:NA w7 g 94 #[v,.int .i64 (st.n:Int),.bool st.b]:=h6.ws.blk.grown hg fun e=>by have:=(h.ws.ob g e.symm).1;omega
 refine h6.call (v':=v7) ⟨hgb.put 0 v7,ho.grown (row:=some g) ⟨rfl,rfl,rfl,by simp,fun k _ hk=>hs k fun e=>hk (by rw[e])⟩ (fun k e=>by injection e with e;omega),?_⟩ ⟨hg.os,hg.tape,hg.output,by simpa using hg.size,fun k h1 h2 h3=>(hs k h2).trans (hg.block k h1 fun e=>h3 e.symm)⟩ ?_
 ·exact JK h.ws.np
 ·rcases hk with e|e
  ·exact .inl e
  ·exact .inr fun k hk=>by rw[e]at hk;injection hk with hk;omega
end
end
theorem sD{Pr:Program}{α:Type}{E:El α}{ops:Array Oper}{rest:List Oper}{o:Oper}{a:Act}{Q:Exit→Act→World→Prop}{w:World}(hI:E.Info Pr)(hgd:o.guard=none)(s x:Operand){T:TypeId}(hT:Pr.underlying T=some (.slice E.t))
 (ho:o.op=.call {callee:=.builtin .append,args:=#[s,x],argTypes:=#[T,T]})
 (lo:Nat) (v:Value) (xs:List α) (hs:a.eval s=v) (hF:Ro E w lo v xs) (g c:Nat) (cs:List Value) (y:α) (hx:a.eval x=.slice (some ⟨g,0,none⟩) 1 c) {t:TypeId} {mk:Nat×Nat} (hg:w.heap[g]?=some (.cells cs.toArray t mk)) (hy:E.R w (Pow w lo v) cs y) (hm:(xs.length+1)*E.by'≤140737488355328) (hn:xs.length+1≤maxLen) (hlo:lo≤w.heap.size)
 (h:∀v' w',Ro E w' lo v' (xs++[y])→w.grownBy w' v.ownBlock→(v'.ownBlock=v.ownBlock∨v'.ownBlock=some w.heap.size)→wpList Pr ops Q rest (a.put o.dst v') w'):wpList Pr ops Q (o::rest) a w:=by
 obtain⟨css,h1,h2,h3⟩:=hF;obtain⟨i0,z0,hi,hz,hsz,hb,hzs⟩:=hI;have hcl:=E.len hy;have hr:Rd w (g+1) E.k (some ⟨g,0,none⟩) 1 cs:=by refine⟨by omega,fun _=>⟨g,0,rfl,by omega,fun j u hu=>?_⟩⟩;have:=cM w g j cs.toArray t mk hg;rw[aW,this];simpa using hu
 refine wpList_plain hgd fun _ hK=>jH w s x T ho lo E.t i0 z0 E.k E.by' hT hi hz hsz hb hzs E.pos v xs.length css.flatten hs h2 (g+1) (some ⟨g,0,none⟩) 1 c cs hx hr (E.one hy) hn hm hlo fun v' w' k1 k2 k3=>hK _ _ (h v' w' ?_ k2 k3)
 have hP:∀g,Pow w lo v g→Pow w' lo v' g:=fun g hp=>⟨hp.1,aB hp.2.1 k2.size,by
  rcases k3 with e|e
  ·rw[e];exact hp.2.2
  ·rw[e];intro q;injection q with q;have:=hp.2.1;omega⟩
 have hC:∀g o,Pow w lo v g→w'.cell? ⟨g,o,none⟩=w.cell? ⟨g,o,none⟩:=fun g o hp=>World.cell?_of_block (a:=⟨g,o,none⟩) (k2.block g hp.2.1 hp.2.2)
 refine⟨css++[cs],by simp[h1],by rw[ah,List.flatten_append];simpa using k1,fun i cs' x' hi hx'=>?_⟩;by_cases hlt:i<css.length
 ·rw[ba hlt]at hi;rw[ba (by omega)]at hx';exact E.dH hP hC (h3 i cs' x' hi hx')
 ·rw[bg (by omega)]at hi hx';have:i=css.length:=by have:=(ay.1 hi).1;simp at this;omega
  subst this;rw[h1]at hx';simp at hi hx';subst hi hx';exact E.dH hP hC hy
section
variable{g:Nat}{w:World}{v:Value}{st:I.Wr}
theorem o4(b:Bool)(hW:WS g w v st):Calls Tryz.prog 92 #[.pointer (some ⟨g,0,none⟩),.bool b] w (gm g w v (I.dx b st)):=by
 have F:=cN (Fw.start hW);have c2:=hW.blk.cell 2;have f2:=hW.blk.frozen 2;simp at c2;obtain⟨p,n,q⟩:=st;clear hW;cases q with
 |true=>
  go_enter Tryz.func92,Tryz.ntmps92;go_wp2_with fail
  exact ae (v:=.tuple #[]) (aA rfl _ _ _) rfl (F.o.KK true).done
 |false=>
  go_enter Tryz.func92,Tryz.ntmps92;go_wp2_with fail
  exact ae (v:=.tuple #[]) (aA rfl _ _ _) rfl (F.o.KK b).done
end
end
end Go.Proofs.YtnicfobpclehkaaGreatDoor
