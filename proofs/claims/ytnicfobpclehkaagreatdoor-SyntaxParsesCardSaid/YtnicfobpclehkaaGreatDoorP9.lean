import Derived.Lib.ItoaMem
import Derived.Lib.ItoaLen
import Derived.Lib.AppendIntMem
import Derived.Lib.Walk
import Derived.StillTail
import Derived.OrdersHeld
import Derived.Test.YtnicfobpclehkaaGreatDoorP8
set_option maxHeartbeats 3200000
set_option linter.unusedVariables false
set_option linter.unusedSimpArgs false
namespace Go.Proofs.YtnicfobpclehkaaGreatDoor
open Go.RowKit
section
set_option maxRecDepth 100000
theorem vC(i:Int)(u:Value)(ss:List I.Bs)(P:Nat→Prop)(w:World)(hl:Rr MP w P u ss):
 Calls Tryz.prog 159 #[.i i,u] w fun e w'=>e=.returned (.s (I.bs (I.word i ss)))∧w'=w:=by
 obtain⟨A,c,rfl,hc1,hc2⟩:=hl.form;obtain⟨n,hn⟩:=aab ss.length;rw[←hn]at hl hc1⊢;have HN:=aa hn;clear hn;by_cases h0:i<0
 ·have t1:decide (i<0)=true:=decide_eq_true h0;have HE:Hid (I.word i ss=[]):=if_pos (.inl h0);clear h0;go_enter Tryz.func159,Tryz.ntmps159;go_wp2_with fail
  go_ret;rw[HE.o];exact⟨rfl,rfl⟩
 ·have t1:decide (i<0)=false:=decide_eq_false h0;by_cases h1:(n:Int)≤i
  ·have t2:decide ((n:Int)≤i)=true:=decide_eq_true h1;have HE:Hid (I.word i ss=[]):=if_pos (.inr (by rw[←HN.o];exact h1));clear h0 h1;go_enter Tryz.func159,Tryz.ntmps159;go_wp2_with fail
   go_ret;rw[HE.o];exact⟨rfl,rfl⟩
  ·have t2:decide ((n:Int)≤i)=false:=decide_eq_false h1;obtain⟨k,rfl⟩:∃k:Nat,i=(k:Int):=⟨i.toNat,by omega⟩;have hk:k<n:=by omega
   obtain⟨b,off,s,cs,rfl,hb,hsk,hcs,hcell⟩:=hl.at hk;have e1:cs=[.s (I.bs s)]:=hcs;subst e1;have c0:=hcell 0 _ rfl;simp[MP]at c0;have q1:(k:Int)<(n:Int):=by omega
   have q0:(0:Int)≤(k:Int):=by omega
   have HE:Hid (I.word (k:Int) ss=s):=by show I.word (k:Int) ss=s;unfold I.word;rw[if_neg (by rw[←HN.o];omega),show((k:Int)).toNat=k by omega,List.getD_eq_getElem?_getD,hsk];rfl
   clear hsk hcs hcell hb hl h0 h1;go_enter Tryz.func159,Tryz.ntmps159;go_wp2_with fail
   go_ret;rw[HE.o];exact⟨rfl,rfl⟩
theorem GC(i:Int)(w:World){n:Nat}{t:TypeId}{cells:Array Value}(ss:List I.Bs)(hc:cells.toList=ss.map fun s=>Value.string (I.bs s))(hn:n=ss.length)(hm:n≤1000):
 Calls Tryz.prog 159 #[.i i,.slice (some ⟨w.heap.size,0,none⟩) n n] (w.alloc (.cells cells t)) fun e w'=>∃r,I.word i ss=r∧e=.returned (.s (I.bs r))∧w'=w.alloc (.cells cells t):=
 (vC i _ ss (fun _=>True) _ (Rr.blk (E:=MP) (css:=ss.map fun s=>[Value.string (I.bs s)]) (Kn.new w t cells) (by rw[hc,uI]) (by simp) (fun i cs x hi hx=>by
  rw[List.getElem?_map,hx]at hi
  simp at hi
  exact hi.symm) trivial hn (by omega))).mono fun _ _ ⟨h1,h2⟩=>⟨_,rfl,h1,h2⟩
theorem vE(o:UInt8)(w:World):Calls Tryz.prog 227 #[.u (o.toNat:Int)] w fun e w'=>e=.returned (.s (I.bs (I.en o)))∧Below w.heap.size w w':=by
 have ho:=o.toNat_lt;go_enter Tryz.func227,Tryz.ntmps227;go_wp2_with fail
 with_reducible refine(GC _ _ (n:=19) (cells:=#[.s ⟨#[45]⟩,.s ⟨#[43]⟩,.s ⟨#[45]⟩,.s ⟨#[42]⟩,.s ⟨#[61]⟩,.s ⟨#[60,62]⟩,.s ⟨#[60]⟩,.s ⟨#[60,61]⟩,.s ⟨#[62]⟩,.s ⟨#[62,61]⟩,.s ⟨#[97,110,100]⟩,.s ⟨#[111,114]⟩,.s ⟨#[110,111,116]⟩,.e,.s ⟨#[99,111,117,110,116]⟩,.s ⟨#[115,117,109]⟩,.s ⟨#[109,105,110]⟩,.s ⟨#[109,97,120]⟩,.s ⟨#[117,115,101,114]⟩]) [[45],[43],[45],[42],[61],[60,62],[60],[60,61],[62],[62,61],[97,110,100],[111,114],[110,111,116],[],[99,111,117,110,116],[115,117,109],[109,105,110],[109,97,120],[117,115,101,114]] rfl rfl (by decide)).mono ?_
 rintro e w2 ⟨r,hr,rfl,rfl⟩;have HR:=aa hr;clear hr;go_wp2_with fail
 go_ret;refine⟨by rw[←HR.o];rfl,(Below.refl w.heap.size w).alloc (Nat.le_refl _) _⟩
theorem sN(o:UInt8)(w:World):Calls Tryz.prog 226 #[.u (o.toNat:Int)] w fun e w'=>e=.returned (.bool (I.kN o))∧w'=w:=by
 by_cases h0:3≤o.toNat
 ·have t1:decide ((3:Int)≤(o.toNat:Int))=true:=decide_eq_true (by omega);by_cases h1:o.toNat≤16
  ·have t2:decide ((o.toNat:Int)≤16)=true:=decide_eq_true (by omega);have HE:Hid (I.kN o=true):=by show _=_;unfold I.kN;rw[decide_eq_true h0,decide_eq_true h1];rfl
   clear h0 h1;go_enter Tryz.func226,Tryz.ntmps226;go_wp2_with fail
   go_ret;rw[HE.o];exact⟨rfl,rfl⟩
  ·have t2:decide ((o.toNat:Int)≤16)=false:=decide_eq_false (by omega);have HE:Hid (I.kN o=false):=by show _=_;unfold I.kN;rw[decide_eq_false h1,Bool.and_false]
   clear h0 h1;go_enter Tryz.func226,Tryz.ntmps226;go_wp2_with fail
   go_ret;rw[HE.o];exact⟨rfl,rfl⟩
 ·have t1:decide ((3:Int)≤(o.toNat:Int))=false:=decide_eq_false (by omega);have HE:Hid (I.kN o=false):=by show _=_;unfold I.kN;rw[decide_eq_false h0,Bool.false_and]
  clear h0;go_enter Tryz.func226,Tryz.ntmps226;go_wp2_with fail
  go_ret;rw[HE.o];exact⟨rfl,rfl⟩
end
section
open Go.RowKit Go.Sort Go.Lib
def MT(w:World):Prop:=Lib.TabIs Tryz.prog w "internal/strconv.uint64pow10" .u64 Lib.pow10Tab
theorem MT.alloc{w:World}(h:MT w)(o:Obj):Lib.TabIs Tryz.prog (w.alloc o) "internal/strconv.uint64pow10" .u64 Lib.pow10Tab:=Lib.tabIs_alloc h o
theorem MT.block{w:World}(h:MT w):∃t m,w.heap[(3:Nat)]?=some (.cells (Lib.pow10Tab.map fun z=>Value.int .u64 z).toArray t m):=by
 unfold MT Lib.TabIs World.var? at h;rw[show Tryz.prog.globalNamed "internal/strconv.uint64pow10" =some 3 from by kernel_rfl]at h;simp only[Option.bind_some]at h;split at h
 ·rename_i cs t m hg;injection h with h
  subst h;exact⟨t,m,hg⟩
 ·cases h
theorem MT.below{w w':World}{C:Nat}(h:MT w)(hb:Below C w w')(hC:w.heap.size≤C):MT w':=by
 obtain⟨t,m,hg⟩:=h.block;have:=hb.block 3 (Nat.lt_of_lt_of_le (lt_of_block hg) hC);unfold MT Lib.TabIs World.var?;rw[show Tryz.prog.globalNamed "internal/strconv.uint64pow10" =some 3 from by kernel_rfl];simp only[Option.bind_some];rw[this,hg]
theorem Ck(n:Int)(h0: -9223372036854775808≤n)(h1:n≤9223372036854775807)(w:World)(htab:MT w):
 Calls Tryz.prog 221 #[.i n,.i 10] w fun e w'=>e=.returned (.s ⟨(Lib.itoa n).toArray⟩)∧Below w.heap.size w w':=by
 refine(Tryz.strconv_FormatInt_10 n h0 h1 w htab).mono ?_;rintro e w' ⟨rfl,k,os,rfl⟩;exact⟨rfl,Lib.below_grow _ w (Nat.le_refl _) k os⟩
end
structure Env (w:World) (m:Int):Prop where
 num:w.cell? ⟨(0:Nat),0,none⟩=some (.i m)
 pow:MT w
theorem Env.below{w w':World}{m:Int}{C:Nat}(h:Env w m)(hb:Below C w w')(hC:w.heap.size≤C):Env w' m:=by
 have h3:=World.block_lt_of_cell? w ⟨(0:Nat),0,none⟩ h.num;exact⟨(hb.cell (p:=⟨(0:Nat),0,none⟩) (Nat.lt_of_lt_of_le h3 hC)).trans h.num,h.pow.below hb hC⟩
theorem yr(n:Int)(w:World):Calls Tryz.prog 219 #[.agg #[.u 2,.i n,.e]] w fun e w'=>e=.returned (.bool true)∧Below w.heap.size w w':=by
 have HB:=aa ((Below.refl w.heap.size w).alloc (Nat.le_refl _) (.cells #[.u 2,.i n,.e] 48));go_enter Tryz.func219,Tryz.ntmps219;go_wp2_with fail
 go_ret;exact⟨rfl,HB.o⟩
theorem vi(n:Int)(h0: -9223372036854775808≤n)(h1:n≤9223372036854775807)(w:World)(hE:MT w):Calls Tryz.prog 160 #[.agg #[.u 2,.i n,.e]] w fun e w'=>e=.returned (.s ⟨(Lib.itoa n).toArray⟩)∧Below w.heap.size w w':=by
 have HE:=aa hE;have HN:=aa (show Kn (w.alloc (.cells #[.u 2,.i n,.e] 48)) w.heap.size 48 #[.u 2,.i n,.e]from Kn.new _ _ _);have HB:=aa ((Below.refl w.heap.size w).alloc (Nat.le_refl _) (.cells #[.u 2,.i n,.e] 48));clear hE;go_enter Tryz.func160,Tryz.ntmps160;go_wp2_with fail
 obtain⟨w0,hw0⟩:=aab (w.alloc (.cells #[.u 2,.i n,.e] 48));rw[←hw0]at HN HB⊢;clear hw0;with_reducible refine(yr n w0).mono ?_
 rintro e w1 ⟨rfl,hb1⟩;replace HB:=aa (HB.o.trans (hb1.mono HB.o.size));replace HN:=aa (HN.o.below hb1 HN.o.lt);replace HE:=aa (HE.o.below HB.o (Nat.le_refl _));clear hb1;have Ks:=HN.o.Y3;simp at Ks;go_wp2_with fail
 with_reducible refine(Ck n h0 h1 w1 HE.o).mono ?_
 rintro e w2 ⟨rfl,hb2⟩;go_wp2_with fail
 go_ret;exact⟨rfl,HB.o.trans (hb2.mono HB.o.size)⟩
section
namespace I
def lz:List Bs→Nat
 |[]=>0
 |s::l=>s.length+1+lz l
theorem cP(l r:List Bs):lz (l++r)=lz l+lz r:=by
 induction l with
 |nil=>simp[lz]
 |cons s l ih=>rw[List.cons_append,lz,lz,ih];omega
theorem mg(l:List Bs):l.length≤lz l:=by
 induction l with
 |nil=>simp
 |cons s l ih=>rw[List.length_cons,lz];omega
theorem wi{s:Bs}{l:List Bs}(h:s∈l):s.length<lz l:=by
 induction l with
 |nil=>cases h
 |cons a l ih=>
  rw[lz];rcases List.mem_cons.1 h with rfl|h
  ·omega
  ·have:=ih h;omega
abbrev Gw (p:List Bs):Wr:=⟨p,lz p,false⟩
theorem vU:∀(l p:List Bs),(∀s∈l,s≠[])→lz (p++l)≤4000→put l (Gw p)=Gw (p++l):=by
 intro l;induction l with
 |nil=>intro p _ _;rw[List.append_nil];rfl
 |cons s l ih=>
  intro p hn hz;have h1:lz (p++[s])=lz p+(s.length+1):=by rw[cP,lz,lz]
  have h2:p++s::l=(p++[s])++l:=by simp
  rw[h2]at hz⊢;have h3:=cP (p++[s]) l;have h4:cN s (Gw p)=Gw (p++[s]):=by unfold cN fR Gw;simp only[decide_eq_false (hn s List.mem_cons_self),decide_eq_false (show¬4097<lz p+(s.length+1) by omega),h1,Bool.or_self]
  rw[put,h4];exact ih _ (fun x hx=>hn x (List.mem_cons_of_mem _ hx)) hz
end I
open I (Gw lz)
def Sb(g:Nat)(Q:World→Prop)(w:World):Prop:=∀w',(∀b,b<g→w'.heap[b]?=w.heap[b]?)→Q w'
def Ju(w:World):Prop:=∃m,Env w m
section
variable{g b d m:Nat}{w0 w:World}{v0 v:Value}{own:bO}{st:I.Wr}{Q:World→Prop}{t:TypeId}{cs cells:Array Value}{p ss:List I.Bs}{n:Nat}{A:Option Addr}{ks:List Ev.Ex}
theorem Fw.sb(h:Fw g w0 v0 own st v w)(hq:Sb g Q w0):Sb g Q w:=fun w' hk=>hq w' fun b hb=>(hk b hb).trans (h.low hb)
theorem Sb.at(h:Sb g Q w):Q w:=h w fun _ _=>rfl
theorem Fw.oT(h:Fw g w0 v0 own st v w)(hb:Kn w0 b t cs)(hg:b≠g)(hv:v0.ownBlock≠some b):Kn w b t cs:=(h.ch.block b hb.lt hg hv).trans hb
theorem Fw.XE(h:Fw g w0 v0 own st v w)(hx:Mu w0 (fun k=>k<g) d A m ks):Mu w (fun k=>k<g) d A m ks:=Mu.aR (fun _ h=>h) (fun _ hb=>h.low hb) hx
theorem kq(F:Fw g w0 v0 own (Gw p) v w)(ss:List I.Bs)(hc:cells.toList=ss.map fun s=>Value.string (I.bs s))(hn:n=ss.length)(h0:∀s∈ss,s≠[])(hz:lz (p++ss)≤4000)(hm:n≤1000:=by decide):
 Calls Tryz.prog 82 #[.p g,.slice (some ⟨w.heap.size,0,none⟩) n n] (w.alloc (.cells cells t)) fun e w'=>∃v',e=.returned (.tuple #[])∧Fw g w0 v0 own (Gw (p++ss)) v' w':=by
 have h1:=I.cP p ss;have h2:=I.mg p;have h3:=I.mg ss;refine((rp g _ v ss (Gw p) _ (F.tmp (.cells cells t)).ws (lZ F hc hn hm) (fun s hs=>by have:=I.wi hs;omega) (by show p.length+ss.length≤9000;omega))).mono ?_;rintro e w' ⟨h1,v',h2,h3,h4⟩;rw[I.vU ss p h0 hz]at h2;exact⟨v',h1,(F.tmp _).call h2 h3 h4⟩
theorem G0(F:Fw g w0 v0 own (Gw p) v w){u:Value}(ss:List I.Bs)(hl:Rr MP w (Po g v w) u ss)(h0:∀s∈ss,s≠[])(hz:lz (p++ss)≤4000):
 Calls Tryz.prog 82 #[.p g,u] w fun e w'=>∃v',e=.returned (.tuple #[])∧Fw g w0 v0 own (Gw (p++ss)) v' w':=by
 have h1:=I.cP p ss;have h2:=I.mg p;have h3:=I.mg ss;refine(rp g _ v ss (Gw p) w F.ws hl (fun s hs=>by have:=I.wi hs;omega) (by show p.length+ss.length≤9000;omega)).mono ?_;rintro e w' ⟨h1,v',h2,h3,h4⟩;rw[I.vU ss p h0 hz]at h2;exact⟨v',h1,F.call h2 h3 h4⟩
theorem iK(F:Fw g w0 v0 own (Gw p) v w)(b:Bool)(ss:List I.Bs)(hc:cells.toList=ss.map fun s=>Value.string (I.bs s))(hn:n=ss.length)(h0:b=true→∀s∈ss,s≠[])(hm:n≤100)(hz0:lz ss≤4000)(hz:lz (p++if b=true then ss else [])≤4000):
 Calls Tryz.prog 84 #[.p g,.bool b,.slice (some ⟨w.heap.size,0,none⟩) n n] (w.alloc (.cells cells t)) fun e w'=>∃v',e=.returned (.tuple #[])∧Fw g w0 v0 own (Gw (p++if b=true then ss else [])) v' w':=by
 have h1:=I.mg p;have h2:=I.cP p (if b=true then ss else []);refine(uM g b _ v ss (Gw p) _ (F.tmp (.cells cells t)).ws (lZ F hc hn (by omega)) (fun s hs=>by have:=I.wi hs;omega) (by show p.length+ss.length≤9000;omega)).mono ?_;rintro e w' ⟨h1,v',h2,h3,h4⟩;have e:I.option b ss (Gw p)=Gw (p++if b=true then ss else []):=by
  cases b
  ·simp[I.option]
  ·simp only[if_true]at hz⊢;exact I.vU ss p (h0 rfl) hz
 rw[e]at h2;exact⟨v',h1,(F.tmp _).call h2 h3 h4⟩
theorem nz(F:Fw g w0 v0 own (Gw p) v w):Calls Tryz.prog 92 #[.p g,.f] w fun e w'=>∃v',e=.returned (.tuple #[])∧Fw g w0 v0 own (Gw p) v' w':=
 (lX false F.ws).mono fun _ _ ⟨h1,v',h2,h3,h4⟩=>⟨v',h1,F.call h2 h3 h4⟩
end
end
section
open Go
section
variable{P:Program}{ops:Array Oper}{md:Region.Mode}{S:World→Prop}
def nB(P:Program)(S:World→Prop)(v:Value):Result Next→Prop
 | .ok (.value u) w'=>u=v∧S w'
 | .ok .skip w'=>v=undef∧S w'
 | .ok (.enter f args) w'=>Calls P f args w' (fun e w''=>e=.returned v∧S w'')
 |_=>False
def eH(P:Program)(ops:Array Oper)(S:World→Prop)(o:Oper)(v:Value)(a:Act):Prop:=
 (Region.wanted o (yielded ops a.tmps)=true∧∀w,S w→nB P S v ((execOp a.eval o).run P w))∨
 (Region.wanted o (yielded ops a.tmps)=false∧v=undef)
theorem eH.of_same{o:Oper}{v:Value}{a a':Act}(hy:eH P ops S o v a)(he:execOp a'.eval o=execOp a.eval o)
 (hw:Region.wanted o (yielded ops a'.tmps)=Region.wanted o (yielded ops a.tmps)):eH P ops S o v a':=by
 unfold eH at*;rw[he,hw];exact hy
theorem eH.wpOp{Q:Exit→Act→World→Prop}{i:Nat}{o:Oper}{v:Value}{a:Act}(hi:ops[i]?=some o)(hy:eH P ops S o v a)
 {K:Act→World→Prop} {w:World} (hS:S w) (h:∀w',S w'→K (a.put o.dst v) w'):wpOp P ops Q i K a w:=by
 unfold Go.wpOp;simp only[hi];rcases hy with⟨hw,hv⟩|⟨hw,rfl⟩
 ·simp only[hw,if_true];refine .inl ?_;have:=hv w hS;unfold Oper.wp;generalize (execOp a.eval o).run P w=r at*;cases r with
  |ok n w'=>
   cases n<;>simp only[nB]at this;case value u=>obtain⟨rfl,h2⟩:=this;exact h _ h2
   case skip=>obtain⟨rfl,h2⟩:=this;exact h _ h2
   case enter f args=>
    refine Calls.mono this fun e w'' he=>?_
    obtain⟨rfl,h2⟩:=he;exact h _ h2
  |halt x w'=>simp only[nB]at this
 ·simp only[hw,Bool.false_eq_true,if_false];exact h _ hS
def iH(P:Program)(ops:Array Oper)(S:World→Prop)(Q:Act→Prop):List Oper→Act→Prop
 |[],a=>Q a
 |o::rest,a=>∃v,eH P ops S o v a∧iH P ops S Q rest (a.put o.dst v)
def pB(P:Program)(ops:Array Oper)(S:World→Prop)(i:Nat)(K:Act→Prop)(a:Act):Prop:=
 match ops[i]? with
 |none=>K a
 |some o=>∃v,eH P ops S o v a∧K (a.put o.dst v)
theorem Bw{j:Nat}{oi oj:Oper}{v:Value}(hj:ops[j]?=some oj)(hap:oi.apart ops oj=true)
 (hsi:∀cs b,oi.op≠ .select cs b) (hsj:∀cs b,oj.op≠ .select cs b) {K:Act→Prop} {a:Act}
 (hy:eH P ops S oi v a) (h:pB P ops S j K (a.put oi.dst v)):
 pB P ops S j (fun a'=>eH P ops S oi v a'∧K (a'.put oi.dst v)) a:=by
 obtain⟨h1,h2,h3⟩:=Oper.apart_spec hap;unfold pB at*;simp only[hj]at*;obtain⟨u,hu,hk⟩:=h;refine⟨u,hu.of_same (execOp_put oj hsj a oi.dst v h1).symm (wanted_put oj a oi.dst v h1).symm,hy.of_same (execOp_put oi hsi a oj.dst u h3) (wanted_put oi a oj.dst u h3),?_⟩;rw[←Act.put_comm a v u h2];exact hk
theorem zM{i:Nat}{K K':Act→Prop}{a:Act}(h:∀a,K a→K' a)(hh:pB P ops S i K a):pB P ops S i K' a:=by
 unfold pB at*;split
 ·rename_i hi;simp only[hi]at hh;exact h _ hh
 ·rename_i o hi;simp only[hi]at hh;obtain⟨v,hv,hk⟩:=hh;exact⟨v,hv,h _ hk⟩
def oA(P:Program)(md:Region.Mode)(ops:Array Oper)(S:World→Prop)(n:Nat)(L:Array Bool→Act→Prop):Nat→Array Bool→Act→Prop
 |0,listed,a=>L listed a
 |f+1,listed,a=>
  Region.ready md ops listed≠[]∧∀i∈Region.ready md ops listed,i<n∧pB P ops S i (oA P md ops S n L f (listed.setIfInBounds i true)) a
theorem km{n g:Nat}{L:Array Bool→Act→Prop}{Q':Exit→Act→World→Prop}(hL:∀listed a w,S w→L listed a→wpAny P md ops Q' g listed a w):
 ∀(f:Nat) (listed:Array Bool) (a:Act) (w:World),S w→oA P md ops S n L f listed a→wpAny P md ops Q' (f+g) listed a w
 |0,listed,a,w,hS,h=>by rw[Nat.zero_add];exact hL _ _ _ hS h
 |f+1,listed,a,w,hS,h=>by
  rw[show f+1+g=(f+g)+1 by omega]
  refine⟨fun h0=>absurd h0 h.1,fun i hi=>?_⟩
  have hf:=(h.2 i hi).2
  obtain⟨_,o,ho,_⟩:=mem_ready.1 hi
  unfold pB at hf
  simp only[ho]at hf
  obtain⟨v,hv,hk⟩:=hf
  exact hv.wpOp ho hS fun w' hS'=>km hL f _ _ w' hS' hk
theorem se{n i:Nat}{oi:Oper}{v:Value}{L:Array Bool→Act→Prop}(hi:ops[i]?=some oi)(hsel:∀(j:Nat) (o:Oper) cs b,ops[j]?=some o→o.op≠ .select cs b)
 (hs:Region.sinkB md ops n=true) (hc:Region.chainB md ops n=true) (hn:n<ops.size) (hin:i<n)
 (hdone:∀listed a,L listed a→∀j∈Region.ready md ops listed,n≤j):
 ∀(f:Nat) (listed:Array Bool) (a:Act),HeadInv md ops n listed→
  (∀j oj,ops[j]?=some oj→j≠i→listed.getD j true=false→(∀e∈oj.after,Region.binds md e=true→e.on≠i)→oi.apart ops oj=true)→
  i∈Region.ready md ops listed→eH P ops S oi v a→
  oA P md ops S n L f (listed.setIfInBounds i true) (a.put oi.dst v)→oA P md ops S n L (f+1) listed a:=by
 have self:∀{K:Act→Prop} {a:Act},eH P ops S oi v a→K (a.put oi.dst v)→pB P ops S i K a:=fun hy hk=>by
  unfold pB
  simp only[hi]
  exact⟨v,hy,hk⟩
 intro f;induction f with
 |zero=>
  intro listed a inv _ hr hy H;have hun:=(mem_ready.1 hr).1;refine⟨fun h=>(by rw[h]at hr;cases hr),fun j hj=>?_⟩;have hjn:j<n:=by
   rcases Nat.lt_or_ge j n with h|h
   ·exact h
   ·exact absurd hj (tail_waits hs hc hn inv _ i rfl hin hun j h)
  refine⟨hjn,?_⟩;by_cases hji:j=i
  ·subst hji;exact self hy H
  ·have:=hdone _ _ H j (ready_mono hj hji);omega
 |succ f ih=>
  intro listed a inv hfree hr hy H;have hun:=(mem_ready.1 hr).1;refine⟨fun h=>(by rw[h]at hr;cases hr),fun j hj=>?_⟩;have hjn:j<n:=by
   rcases Nat.lt_or_ge j n with h|h
   ·exact h
   ·exact absurd hj (tail_waits hs hc hn inv _ i rfl hin hun j h)
  refine⟨hjn,?_⟩;by_cases hji:j=i
  ·subst hji;exact self hy H
  ·have h1:=(H.2 j (ready_mono hj hji)).2;obtain⟨hjun,oj,hoj,hall⟩:=mem_ready.1 hj;have hnot:∀e∈oj.after,Region.binds md e=true→e.on≠i:=fun e he hb heq=>by
    have h1:=hall e he hb
    rw[heq,getD_both hun]at h1
    cases h1
   have h2:=Bw hoj (hfree j oj hoj hji hjun hnot) (fun cs b=>hsel i oi cs b hi) (fun cs b=>hsel j oj cs b hoj) hy h1;have hfree':∀k ok,ops[k]?=some ok→k≠i→(listed.setIfInBounds j true).getD k true=false→
    (∀e∈ok.after,Region.binds md e=true→e.on≠i)→oi.apart ops ok=true:=fun k ok hk hki hun hno=>by
    refine hfree k ok hk hki ?_ hno
    by_cases hjk:j=k
    ·subst hjk;exact hjun
    ·rw[getD_set_ne true hjk]at hun;exact hun
   refine zM (fun a' h3=>ih (listed.setIfInBounds j true) a' (inv.set hj hjn) hfree' (ready_mono hr (Ne.symm hji)) h3.1 ?_) h2;rw[Array.setIfInBounds_comm _ _ hji];exact h3.2
theorem oy{n g:Nat}{Lq:Act→Prop}(hsel:Region.noSelect ops=true)(hs:Region.sinkB md ops n=true)(hc:Region.chainB md ops n=true)(hn:n<ops.size):
 ∀(l:List Oper) (k:Nat) (listed:Array Bool) (a:Act),(∀j,j<l.length→l[j]?=ops[k+j]?)→k+l.length=n→HeadInv md ops n listed→
 Region.lexHead md ops g l.length k listed=true→iH P ops S Lq l a→
 oA P md ops S n (fun listed' a'=>Region.seqB md ops g n listed'=true∧Lq a') l.length listed a
 |[],k,listed,a,_,hk,_,hB,h=>by
  have:k=n:=by simpa using hk
  subst this
  exact⟨by simpa[Region.lexHead]using hB,h⟩
 |o::l,k,listed,a,hl,hk,inv,hB,h=>by
  have h0:ops[k]?=some o:=by simpa using(hl 0 (by simp)).symm
  simp only[List.length_cons,Region.lexHead,Bool.and_eq_true]at hB
  obtain⟨⟨hr,hf⟩,hB'⟩:=hB
  have hkn:k<n:=by simp only[List.length_cons]at hk;omega
  have hr':k∈Region.ready md ops listed:=by simpa using hr
  obtain⟨v,hy,hK⟩:=h
  exact se h0 (Region.noSelect_spec hsel) hs hc hn hkn (fun listed' a' hL=>seqB_ready hL.1) l.length listed a inv (Region.free_spec h0 hf) hr' hy
   (oy hsel hs hc hn l (k+1) _ _ (fun j hj=>by have:=hl (j+1) (by simp;omega);simpa[Nat.add_assoc,Nat.add_comm 1 j]using this) (by simp only[List.length_cons]at hk;omega) (inv.set hr' hkn) hB' hK)
theorem jG{id:Nat}{Q:Exit→Act→World→Prop}{a:Act}{w:World}{l:List Oper}(S:World→Prop)(n:Nat)(hm:P.follows .mixedOrders=true)(hB:Region.lexTailB .any l.toArray n=true)
 (hS:S {w with drawn:=w.drawn+1})
 (h:iH P l.toArray S (fun a'=>∀w',S w'→wpList P l.toArray Q (l.drop n) a' w') (l.take n) a):(Code.region id l.toArray true).wp P Q a w:=by
 simp only[Region.lexTailB,Bool.and_eq_true,decide_eq_true_eq]at hB;obtain⟨⟨⟨⟨hsel,hn⟩,hs⟩,hc⟩,hlex⟩:=hB;have hn':n<l.length:=by simpa using hn
 have htl:(l.take n).length=n:=by simp;omega
 have hdl:(l.drop n).length=l.toArray.size-n:=by simp
 have inv0:HeadInv .any l.toArray n (Array.replicate l.toArray.size false):=
  ⟨by simp,fun j oj _ hl=>(by rw[getD_replicate_false]at hl;cases hl),fun t _ ht=>getD_in (by simpa using ht) (getD_replicate_false _ _)⟩
 have H:=oy (md:=.any) (g:=l.toArray.size-n) hsel hs hc hn (l.take n) 0 _ a (fun j hj=>by
  have hj':j<n:=by rw[htl]at hj;exact hj
  simp[hj']) (by simpa using htl) inv0 (by rw[htl];exact hlex) h
 refine wp_region_any hm ?_;have:=km (Q':=Q) (g:=l.toArray.size-n) (fun listed a' w' hS' hL=>by
  have:=wpAny_of_seq (md:=.any) (Q':=Q) (l.drop n) n listed a' w' (fun j=>by simp[List.getElem?_drop]) (by rw[hdl];exact hL.1) (hL.2 w' hS')
  rwa [hdl]at this) _ _ _ _ hS H
 rw[htl,show n+(l.toArray.size-n)=l.toArray.size by omega]at this;exact this
theorem oO{Q:Act→Prop}{a:Act}(h:Q a):iH P ops S Q [] a:=h
theorem mS{Q:Act→Prop}{a:Act}{o:Oper}{rest:List Oper}(v:Value)(hw:Region.wanted o (yielded ops a.tmps)=true)
 (h:∀w,S w→nB P S v ((execOp a.eval o).run P w)) (k:iH P ops S Q rest (a.put o.dst v)):iH P ops S Q (o::rest) a:=
 ⟨v,.inl ⟨hw,h⟩,k⟩
theorem mL{Q:Act→Prop}{a:Act}{o:Oper}{rest:List Oper}(v:Value)(hw:Region.wanted o (yielded ops a.tmps)=true)
 (h:∀w,S w→(execOp a.eval o).run P w=.ok (.value v) w) (k:iH P ops S Q rest (a.put o.dst v)):iH P ops S Q (o::rest) a:=
 mS v hw (fun w hS=>by rw[h w hS];exact⟨rfl,hS⟩) k
theorem tm{Q:Act→Prop}{a:Act}{o:Oper}{rest:List Oper}(v:Value)(f:FuncId)(args:Array Value)(hw:Region.wanted o (yielded ops a.tmps)=true)
 (h:∀w,S w→(execOp a.eval o).run P w=.ok (.enter f args) w) (hc:∀w,S w→Calls P f args w fun e w''=>e=.returned v∧S w'') (k:iH P ops S Q rest (a.put o.dst v)):iH P ops S Q (o::rest) a:=
 mS v hw (fun w hS=>by rw[h w hS];exact hc w hS) k
end
end
section
set_option maxRecDepth 100000
theorem jX(C:RC)(N:FuncId)(hN:∀w:World,(callFunc N #[.p C.g]).run Tryz.prog w=.ok (.enter N #[.p C.g]) w)(kid:I.St→Ev.Ex×I.St)(hL:I.ct kid)(n:Nat)(hK:dy C N #[.p C.g] kid n)
 (v:Value) (l:List (I.Bs×UInt8)) (hl0:∀s∈l,s.2≠0) (st:I.St) (w:World) (hn:st.r.length≤n) (h:PS C st w) (hl:Rr FG w (Pg C w) v l):
 Calls Tryz.prog 238 #[.p C.g,.func (.func N) #[.p C.g] #[],v] w (eY C w (I.chain kid l st)):=by
 have Kt:=h.lt;have HP:=aa h;have HL:=aa hl;have HK:=aa hK;have M8:=aa hL;have HL0:=aa hl0;clear h hl hK hL hl0;go_enter Tryz.func238,Tryz.ntmps238;go_wp2_with fail
 with_reducible refine(HK.o.at st _ hn (HP.o.alloc _)).mono ?_
 rintro e w1 ⟨cs1,rfl,hx1,hp1,hc1⟩;have hs1:=hc1.size;rw[ay]at hs1;have TK:w.heap.size≤w1.heap.size:=by omega
 obtain⟨h1,A1,m1,c1,SW,rfl,hk1⟩:=aV hx1;have PO:=aa hx1;have KL:=aa hp1;have KJ:=aa (((Ch.refl C.g w.heap.size w).alloc (Nat.le_refl _) _).trans hc1 (by simp));have HR1:=aa ((Kn.new w _ _).ch hc1 (by simp) (by omega));have RH:=aa (M8.o st);clear hx1 hp1 hc1;unfold ai;go_wp2_with fail
 have hlt1:=KL.o.lt;with_reducible refine(nD C v l (kid st).2 _ (KL.o.alloc _) (HL.o.ch (KJ.o.alloc TK _))).mono ?_
 rintro e w2 ⟨rfl,hp2,hc2⟩;have hs2:=hc2.size;rw[ay]at hs2;have Ld:=aa hp2;have Ms:=aa ((KJ.o.alloc TK _).trans hc2 (by rw[ay];omega));have HR2:=aa ((HR1.o.alloc _).ch hc2 (by rw[ay];omega) (by omega));have HE2:=aa ((Kn.new w1 _ _).ch hc2 (by rw[ay];omega) (by omega));have NO:=aa (PO.o.hp (P':=fun b=>w.heap.size<b∧b<w2.heap.size∧b≠w1.heap.size) (w':=w2) (fun b hb=>by have h1:=hb.1;have h2:=hb.2;rw[ay]at h1;exact⟨by omega,by omega,by omega⟩) (fun b hb=>by
  have h1:=hb.1
  have h2:=hb.2
  rw[ay]at h1
  exact(hc2.block b (by rw[ay];omega) (by omega)).trans (Below.heap_alloc w1 _ b h2)))
 have LA:Hid (I.chain kid l st=I.ba kid l ((kid st).2.r.length+1) (kid st).1 (kid st).2):=rfl;clear hp2 hc2 PO KL KJ HR1;obtain⟨g7,RF⟩:=aab w1.heap.size;rw[←RF]at HE2 NO hs2⊢;have VM:w.heap.size<g7:=by omega
 clear RF;go_wp2_with fail
 go_loopg [8] (kid st).2.r.length (fun gg o wr=>∃(f:Nat) (e1:Ev.Ex) (s0:I.St) (cs:List Value),gg=s0.r.length∧s0.r.length≤n∧s0.r.length<f∧o=.u ((I.one l s0).1.toNat:Int)∧Hid (I.chain kid l st=I.ba kid l f e1 s0)∧Hid (XR wr (fun b=>w.heap.size<b∧b<wr.heap.size∧b≠g7) cs e1)∧Hid (Kn wr g7 50 cs.toArray)∧Hid (Kn wr w.heap.size 50 #[.b,.b,.o,.e,.e,.e,.o,.z])∧Hid (PS C (I.one l s0).2 wr)∧Hid (Ch C.g w.heap.size w wr));case atStart=>exact⟨_,_,_,_,rfl,Nat.le_trans RH.o hn,by omega,rfl,LA,NO,HE2,HR2,Ld,Ms⟩
 case round=>
  obtain⟨f,e1,s0,cs,rfl,hsn,Lu,rfl,HF,HX,HE,HR,VN,HC⟩:=hrel;obtain⟨w5,NH⟩:=aab wr;subst NH;have hs5:=HC.o.size;have VL:=VN.o.lt;have YQ:=HE.o.lt;clear LA NO HE2 HR2 Ld Ms;obtain⟨h1,A1,m1,c1,SW,rfl,hk1⟩:=aV HX.o;have hol:=I.gj l s0;by_cases h0:(I.one l s0).1=0
  ·have t0:(((I.one l s0).1.toNat:Int) !=0)=false:=by simp[h0]
   have Qg:=aa (HF.o.trans (I.kJ Lu h0));have HZ:=aa (I.oC l s0 HL0.o h0);obtain⟨x0,x1,x2,x3,x4,x5,x6,x7⟩:=HE.o.Y8;simp[ai]at x0 x1 x2 x3 x4 x5 x6 x7;have Ks:=HR.o.Y8;simp at Ks;obtain⟨f0,f1,f2,f3,f4,f5,f6,f7⟩:=HR.o.Z8;clear h0 hol;go_wp2_with fail
   refine bodyPost_ret (v:=.agg (ai h1 A1 m1 c1).toArray) (results_cell_row rfl _ _ w.heap.size 50 _ (0,0) _ rfl (aW HR.o _ _ _ _ _ _ _ _) eK rfl cD) rfl ⟨ai h1 A1 m1 c1,rfl,?_,?_,?_⟩
   ·rw[Qg.o];exact HX.o.hp (fun b hb=>⟨by have:=hb.1;omega,by simp;exact hb.2.1⟩) fun b hb=>(bd (Ch.refl w.heap.size w5.heap.size w5) (.inl rfl) _ _ _ _ _ _ _ _).block b hb.2.1 (by have:=hb.1;omega)
   ·rw[Qg.o,←HZ.o];exact eg VN.o Kt _ _ _ _ _ _ _ _
   ·exact bd HC.o (.inr (Nat.le_refl _)) _ _ _ _ _ _ _ _
  ·have t0:(((I.one l s0).1.toNat:Int) !=0)=true:=by simp;exact fun e=>h0 (UInt8.toNat_inj.1 (by simpa using e))
   go_wp2_with fail
   have hlo:=hol.2 h0;have HS:=aa (I.iD (kid:=kid) (e:=e1) Lu h0);have HKL:=aa (M8.o (I.one l s0).2);obtain⟨x0,x1,x2,x3,x4,x5,x6,x7⟩:=HE.o.Y8;simp[ai]at x0 x1 x2 x3 x4 x5 x6 x7;clear h0 hol;go_region_with ((with_reducible refine(HK.o.drew (I.one l s0).2 _ (by omega) VN.o).mono ?_);rintro e w6 ⟨XF,rfl,hx6,PQ,hc6⟩;obtain⟨h6,A6,m6,c6,YR,rfl,Ve⟩:=aV hx6;unfold ai;have Qf:=aa hx6;have Mp:=aa PQ;have MX:=aa hc6;have MI:=aa (HE.o.ch hc6 YQ (by omega));have hs6:=hc6.size;have VO:g7<w6.heap.size:=(by omega);clear hx6 PQ hc6;have y0:=MI.o.cell 0;have y1:=MI.o.cell 1;have y2:=MI.o.cell 2;have y3:=MI.o.cell 3;have y4:=MI.o.cell 4;have y5:=MI.o.cell 5;have y6:=MI.o.cell 6;have y7:=MI.o.cell 7;simp[ai]at y0 y1 y2 y3 y4 y5 y6 y7;have g0:=MI.o.frozen 0;have g1:=MI.o.frozen 1;have g2:=MI.o.frozen 2;have g3:=MI.o.frozen 3;have g4:=MI.o.frozen 4;have g5:=MI.o.frozen 5;have g6:=MI.o.frozen 6;have g7':=MI.o.frozen 7)
   all_goals
    go_wp2_with fail
    have hgC:C.g<g7:=by omega
    have HCt:=aa (HC.o.trans MX.o hs5)
    with_reducible refine(nD C v l (kid (I.one l s0).2).2 _ ((eg Mp.o hgC _ _ _ _ _ _ _ _).alloc _) (HL.o.ch ((bd HCt.o (.inr (Nat.le_of_lt VM)) _ _ _ _ _ _ _ _).alloc (by simp;omega) _))).mono ?_
    rintro e w7 ⟨rfl,SX,OU⟩
    have hs7:=OU.size
    simp at hs7
    have hsame:∀b,b<w6.heap.size→b≠C.g→b≠g7→w7.heap[b]?=w6.heap[b]?:=fun b h1 h2 h3=>(OU.block b (by simp;omega) h2).trans ((Below.heap_alloc _ _ b (by simp;omega)).trans ((bd (Ch.refl g7 w6.heap.size w6) (.inl rfl) _ _ _ _ _ _ _ _).block b h1 h3))
    have hbk:=(Kn.new _ _ _).ch OU (by simp) (by simp;omega)
    simp at hbk
    have Se:=((aW MI.o _ _ _ _ _ _ _ _).alloc _).ch OU (by simp;omega) (by omega)
    have HN:=aa (vT (P:=fun b=>w.heap.size<b∧b<w7.heap.size∧b≠g7) (I.one l s0).1 hbk rfl
     (HX.o.hp (fun b hb=>⟨hb.1,by have:=hb.2.1;omega,hb.2.2⟩) fun b hb=>(hsame b (by have:=hb.2.1;omega) (by have:=hb.1;omega) hb.2.2).trans (MX.o.block b hb.2.1 (by have:=hb.1;omega)))
     (Qf.o.hp (fun b hb=>⟨by have:=hb.1;omega,by have:=hb.2;omega,by have:=hb.1;omega⟩) fun b hb=>hsame b hb.2 (by have:=hb.1;omega) (by have:=hb.1;omega)) ⟨by omega,by omega,by omega⟩)
    have YS:=aa Se
    have Nk:=aa SX
    have K3:=HR.o.ch MX.o (show w.heap.size<w5.heap.size by omega) (by omega)
    have Qy:Hid (Kn w7 w.heap.size 50 #[.b,.b,.o,.e,.e,.e,.o,.z]):=aa ((hsame w.heap.size (by omega) (by omega) (by omega)).trans K3)
    have RI:=aa (((bd HCt.o (.inr (Nat.le_of_lt VM)) _ _ _ _ _ _ _ _).alloc (by simp;omega) _).trans OU (by simp;omega))
    have TI:=aa (HF.o.trans HS.o)
    have hlk:=HKL.o
    clear hbk Se SX OU hsame K3 x0 x1 x2 x3 x4 x5 x6 x7 y0 y1 y2 y3 y4 y5 y6 y7 g0 g1 g2 g3 g4 g5 g6 g7'
    go_wp2_with fail
    go_roundg (kid (I.one l s0).2).2.r.length
    case measure=>omega
    case rel=>exact⟨f-1,_,_,_,rfl,by omega,by omega,rfl,TI,HN,YS,Qy,Nk,RI⟩
end
section
namespace I
open Ev (Ex)
theorem aE(st:St):(next st).r.length≤st.r.length:=by unfold next;simp
theorem bx{s:Bs}{st:St}(h:ae s st=true):(next st).r.length<st.r.length:=by
 have:=fm h;cases hr:st.r with
 |nil=>exact absurd hr this
 |cons t r=>simp[next,hr]
theorem dt(T e:Nat)(st:St):(fail T e st).r.length≤st.r.length:=by unfold fail;split<;>simp
theorem bq(T e:Nat)(st:St):(fail T e st).r=[]:=by unfold fail;split<;>rfl
theorem av(T:Nat):∀(l:List Bs) (st:St),(expect T l st).r.length≤st.r.length:=by
 intro l;induction l with
 |nil=>intro st;exact Nat.le_refl _
 |cons s l ih=>
  intro st;unfold expect;split
  ·exact Nat.le_trans (ih _) (aE st)
  ·exact dt T 300 st
theorem iY(T:Nat):∀(l:List Bs) (i:Nat) (st:St),(choose T i l st).2.r.length≤st.r.length:=by
 intro l;induction l with
 |nil=>intro i st;exact dt T 300 st
 |cons s l ih=>
  intro i st;unfold choose;split
  ·exact aE st
  ·exact ih _ _
theorem dO(T:Nat):ct (name T):=by
 intro st;unfold name;split
 ·exact dt T 300 st
 ·split
  ·exact aE st
  ·exact dt T 300 st
theorem iB{α:Type}{T:Nat}{part:St→α×St}(h:ct part):ct (inside T part):=by
 intro st;unfold inside;exact Nat.le_trans (av T _ _) (Nat.le_trans (h _) (av T _ _))
theorem vR{kid:St→Ex×St}(h:ct kid)(l:List (Bs×UInt8)):∀(f:Nat) (e:Ex) (st:St),(ba kid l f e st).2.r.length≤st.r.length:=by
 intro f;induction f with
 |zero=>intro e st;exact Nat.le_refl _
 |succ f ih=>
  intro e st;unfold ba;split
  ·exact Nat.le_refl _
  ·exact Nat.le_trans (ih _ _) (Nat.le_trans (h _) (gj l st).1)
theorem jh{kid:St→Ex×St}(h:ct kid)(l:List (Bs×UInt8)):ct (chain kid l):=by
 intro st;unfold chain;exact Nat.le_trans (vR h l _ _ _) (h st)
theorem ph{s:Bs}{o:UInt8}{Y:St→Ex×St}(h:ct Y):∀(f:Nat),ct (again s o Y f):=by
 intro f;induction f with
 |zero=>exact h
 |succ f ih=>
  intro st;unfold again;split
  ·exact Nat.le_trans (ih _) (aE st)
  ·exact h st
theorem kV(T:Nat):ct (literal T):=by
 intro st;unfold literal;split
 ·exact aE st
 ·split
  ·exact aE st
  ·split
   ·split
    ·exact aE st
    ·exact Nat.le_trans (aE _) (dt T 271 st)
   ·exact aE st
theorem mU(T:Nat):ct (cm T):=by
 intro st;unfold cm;split
 ·exact Nat.le_trans (dO T _) (Nat.le_trans (aE _) (dO T st))
 ·exact dO T st
theorem zi{T:Nat}{X:St→Ex×St}(h:ct X)(op:UInt8):ct (fold T X op):=by
 unfold fold;refine iB fun st=>?_
 show(if _ then _ else _:Ex×St).2.r.length≤_;split
 ·exact aE st
 ·exact h st
theorem rK{T:Nat}{X:St→Ex×St}(h:ct X):ct (aD T X):=by
 intro st;unfold aD;repeat' split
 ·exact kV T st
 ·exact iB h st
 ·exact aE st
 ·exact aE st
 ·exact aE st
 ·exact aE st
 ·exact mU T st
 ·exact Nat.le_trans (zi h (one dd st).1 (one dd st).2) (gj dd st).1
theorem oN{T:Nat}{X:St→Ex×St}(h:ct X):ct (unary T X):=by
 intro st;unfold unary;exact ph (rK h) st.r.length st
theorem qD{T:Nat}{X:St→Ex×St}(h:ct X):ct (prod T X):=jh (oN h) _
theorem nR{T:Nat}{X:St→Ex×St}(h:ct X):ct (sum T X):=jh (qD h) _
theorem Cb(T:Nat)(e:Ex):ct (Ng T e):=by
 intro st;unfold Ng;split
 ·exact Nat.le_trans (av T _ _) (aE st)
 ·exact av T _ _
theorem DN{T:Nat}{X:St→Ex×St}(h:ct (sum T X))(e:Ex)(st:St):(fv T X e st).2.r.length≤st.r.length:=by
 unfold fv;by_cases h0:(one fF st).1=0
 ·rw[if_pos h0];by_cases h1:ae [105,115] st=true
  ·rw[if_pos h1];exact Nat.le_trans (Cb T e (next st)) (aE st)
  ·rw[if_neg h1];exact Nat.le_refl _
 ·rw[if_neg h0];exact Nat.le_trans (h (one fF st).2) (gj fF st).1
theorem AF{T:Nat}{X:St→Ex×St}(h:ct X):ct (cmp T X):=by
 intro st;have h1:=DN (T:=T) (X:=X) (nR h) (sum T X st).1 (sum T X st).2;have h2:=nR (T:=T) h st;unfold cmp;exact Nat.le_trans h1 h2
theorem tO{T:Nat}{X:St→Ex×St}(h:ct X):ct (dz T X):=by
 intro st;unfold dz;exact ph (AF h) st.r.length st
theorem uJ{T:Nat}{X:St→Ex×St}(h:ct X):ct (gz T X):=jh (tO h) _
theorem Ec{T:Nat}{X:St→Ex×St}(h:ct X):ct (PK T X):=jh (uJ h) _
theorem ua(T:Nat):∀n,ct (Lw T n):=by
 intro n;induction n with
 |zero=>
  intro st;rw[Lw];exact Nat.le_refl _
 |succ n ih=>
  intro st;rw[Lw];exact Ec ih st
theorem j1{s:Bs}{o:UInt8}{Y:St→Ex×St}{st:St}(h:ae s st=true):again s o Y st.r.length st=(un o (again s o Y (next st).r.length (next st)).1,(again s o Y (next st).r.length (next st)).2):=by
 have hp:=fm h;cases hr:st.r with
 |nil=>exact absurd hr hp
 |cons t r=>
  have e:(next st).r.length=r.length:=by simp[next,hr]
  rw[e,List.length_cons];rw[again];rw[if_pos h]
theorem lI{s:Bs}{o:UInt8}{Y:St→Ex×St}{st:St}(h:ae s st=false):again s o Y st.r.length st=Y st:=by
 cases hr:st.r.length with
 |zero=>rfl
 |succ n=>rw[again,if_neg (by rw[h];decide)]
end I
end
section
set_option maxRecDepth 100000
theorem Fy(C:RC)(X:I.St→Ev.Ex×I.St)(hX:I.ct X)(n:Nat)(hK:dy C 281 #[.p C.g] (I.unary C.text.size X) n):dy C 275 #[.p C.g] (I.prod C.text.size X) n:=by
 intro st w hn h;have Kt:=h.lt;have HP:=aa h;have HK:=aa hK;have HX:=aa hX;clear h hK hX;go_enter Tryz.func275,Tryz.ntmps275;go_wp2_with fail
 with_reducible refine(jX C 281 (fun w=>by simp[go_sem]) (I.unary C.text.size X) (I.oN HX.o) n HK.o _ [([42],6)] (by decide) st _ hn ((HP.o.alloc _).alloc _) (iS (C:=C) (n:=1) (cells:=#[.s ⟨#[42]⟩,.u 6]) (Kn.mD _ _ _ _) rfl (by omega) rfl (by decide))).mono ?_
 rintro e w1 ⟨cs1,rfl,hx1,hp1,hc1⟩;have hs1:=hc1.size;simp at hs1;obtain⟨h1,A1,m1,c1,SW,rfl,hk1⟩:=aV hx1;have PO:=aa hx1;have KL:=aa hp1;have KJ:=aa ((((Ch.refl C.g w.heap.size w).alloc (Nat.le_refl _) _).alloc (by simp) _).trans hc1 (by simp;omega));have HR1:=aa (((Kn.new w _ _).alloc _).ch hc1 (by simp;omega) (by omega));clear hx1 hp1 hc1;unfold ai;have Ks:=HR1.o.Y8;simp at Ks;obtain⟨f0,f1,f2,f3,f4,f5,f6,f7⟩:=HR1.o.Z8;go_wp2_with fail
 refine bodyPost_ret (v:=.agg (ai h1 A1 m1 c1).toArray) (results_cell_row rfl _ _ w.heap.size 50 _ (0,0) _ rfl (aW HR1.o _ _ _ _ _ _ _ _) eK rfl cD) rfl ⟨ai h1 A1 m1 c1,rfl,?_,eg KL.o Kt _ _ _ _ _ _ _ _,bd KJ.o (.inr (Nat.le_refl _)) _ _ _ _ _ _ _ _⟩;exact PO.o.hp (fun b hb=>⟨by have:=hb.1;simp at this;omega,by simp;exact hb.2⟩) fun b hb=>(bd (Ch.refl w.heap.size w1.heap.size w1) (.inl rfl) _ _ _ _ _ _ _ _).block b hb.2 (by have:=hb.1;simp at this;omega)
theorem Jm(C:RC)(X:I.St→Ev.Ex×I.St)(hX:I.ct X)(n:Nat)(hK:dy C 275 #[.p C.g] (I.prod C.text.size X) n):dy C 266 #[.p C.g] (I.sum C.text.size X) n:=by
 intro st w hn h;have Kt:=h.lt;have HP:=aa h;have HK:=aa hK;have HX:=aa hX;clear h hK hX;go_enter Tryz.func266,Tryz.ntmps266;go_wp2_with fail
 with_reducible refine(jX C 275 (fun w=>by simp[go_sem]) (I.prod C.text.size X) (I.qD HX.o) n HK.o _ [([43],4),([45],5)] (by decide) st _ hn ((HP.o.alloc _).alloc _) (iS (C:=C) (n:=2) (cells:=#[.s ⟨#[43]⟩,.u 4,.s ⟨#[45]⟩,.u 5]) (Kn.mD _ _ _ _) rfl (by omega) rfl (by decide))).mono ?_
 rintro e w1 ⟨cs1,rfl,hx1,hp1,hc1⟩;have hs1:=hc1.size;simp at hs1;obtain⟨h1,A1,m1,c1,SW,rfl,hk1⟩:=aV hx1;have PO:=aa hx1;have KL:=aa hp1;have KJ:=aa ((((Ch.refl C.g w.heap.size w).alloc (Nat.le_refl _) _).alloc (by simp) _).trans hc1 (by simp;omega));have HR1:=aa (((Kn.new w _ _).alloc _).ch hc1 (by simp;omega) (by omega));clear hx1 hp1 hc1;unfold ai;have Ks:=HR1.o.Y8;simp at Ks;obtain⟨f0,f1,f2,f3,f4,f5,f6,f7⟩:=HR1.o.Z8;go_wp2_with fail
 refine bodyPost_ret (v:=.agg (ai h1 A1 m1 c1).toArray) (results_cell_row rfl _ _ w.heap.size 50 _ (0,0) _ rfl (aW HR1.o _ _ _ _ _ _ _ _) eK rfl cD) rfl ⟨ai h1 A1 m1 c1,rfl,?_,eg KL.o Kt _ _ _ _ _ _ _ _,bd KJ.o (.inr (Nat.le_refl _)) _ _ _ _ _ _ _ _⟩;exact PO.o.hp (fun b hb=>⟨by have:=hb.1;simp at this;omega,by simp;exact hb.2⟩) fun b hb=>(bd (Ch.refl w.heap.size w1.heap.size w1) (.inl rfl) _ _ _ _ _ _ _ _).block b hb.2 (by have:=hb.1;simp at this;omega)
theorem IF(C:RC)(X:I.St→Ev.Ex×I.St)(hX:I.ct X)(n:Nat)(hK:dy C 248 #[.p C.g] (I.dz C.text.size X) n):dy C 239 #[.p C.g] (I.gz C.text.size X) n:=by
 intro st w hn h;have Kt:=h.lt;have HP:=aa h;have HK:=aa hK;have HX:=aa hX;clear h hK hX;go_enter Tryz.func239,Tryz.ntmps239;go_wp2_with fail
 with_reducible refine(jX C 248 (fun w=>by simp[go_sem]) (I.dz C.text.size X) (I.tO HX.o) n HK.o _ [([97,110,100],13)] (by decide) st _ hn ((HP.o.alloc _).alloc _) (iS (C:=C) (n:=1) (cells:=#[.s ⟨#[97,110,100]⟩,.u 13]) (Kn.mD _ _ _ _) rfl (by omega) rfl (by decide))).mono ?_
 rintro e w1 ⟨cs1,rfl,hx1,hp1,hc1⟩;have hs1:=hc1.size;simp at hs1;obtain⟨h1,A1,m1,c1,SW,rfl,hk1⟩:=aV hx1;have PO:=aa hx1;have KL:=aa hp1;have KJ:=aa ((((Ch.refl C.g w.heap.size w).alloc (Nat.le_refl _) _).alloc (by simp) _).trans hc1 (by simp;omega));have HR1:=aa (((Kn.new w _ _).alloc _).ch hc1 (by simp;omega) (by omega));clear hx1 hp1 hc1;unfold ai;have Ks:=HR1.o.Y8;simp at Ks;obtain⟨f0,f1,f2,f3,f4,f5,f6,f7⟩:=HR1.o.Z8;go_wp2_with fail
 refine bodyPost_ret (v:=.agg (ai h1 A1 m1 c1).toArray) (results_cell_row rfl _ _ w.heap.size 50 _ (0,0) _ rfl (aW HR1.o _ _ _ _ _ _ _ _) eK rfl cD) rfl ⟨ai h1 A1 m1 c1,rfl,?_,eg KL.o Kt _ _ _ _ _ _ _ _,bd KJ.o (.inr (Nat.le_refl _)) _ _ _ _ _ _ _ _⟩;exact PO.o.hp (fun b hb=>⟨by have:=hb.1;simp at this;omega,by simp;exact hb.2⟩) fun b hb=>(bd (Ch.refl w.heap.size w1.heap.size w1) (.inl rfl) _ _ _ _ _ _ _ _).block b hb.2 (by have:=hb.1;simp at this;omega)
theorem JO(C:RC)(X:I.St→Ev.Ex×I.St)(hX:I.ct X)(n:Nat)(hK:dy C 239 #[.p C.g] (I.gz C.text.size X) n):dy C 206 #[.p C.g] (I.PK C.text.size X) n:=by
 intro st w hn h;have Kt:=h.lt;have HP:=aa h;have HK:=aa hK;have HX:=aa hX;clear h hK hX;go_enter Tryz.func206,Tryz.ntmps206;go_wp2_with fail
 with_reducible refine(jX C 239 (fun w=>by simp[go_sem]) (I.gz C.text.size X) (I.uJ HX.o) n HK.o _ [([111,114],14)] (by decide) st _ hn ((HP.o.alloc _).alloc _) (iS (C:=C) (n:=1) (cells:=#[.s ⟨#[111,114]⟩,.u 14]) (Kn.mD _ _ _ _) rfl (by omega) rfl (by decide))).mono ?_
 rintro e w1 ⟨cs1,rfl,hx1,hp1,hc1⟩;have hs1:=hc1.size;simp at hs1;obtain⟨h1,A1,m1,c1,SW,rfl,hk1⟩:=aV hx1;have PO:=aa hx1;have KL:=aa hp1;have KJ:=aa ((((Ch.refl C.g w.heap.size w).alloc (Nat.le_refl _) _).alloc (by simp) _).trans hc1 (by simp;omega));have HR1:=aa (((Kn.new w _ _).alloc _).ch hc1 (by simp;omega) (by omega));clear hx1 hp1 hc1;unfold ai;have Ks:=HR1.o.Y8;simp at Ks;obtain⟨f0,f1,f2,f3,f4,f5,f6,f7⟩:=HR1.o.Z8;go_wp2_with fail
 refine bodyPost_ret (v:=.agg (ai h1 A1 m1 c1).toArray) (results_cell_row rfl _ _ w.heap.size 50 _ (0,0) _ rfl (aW HR1.o _ _ _ _ _ _ _ _) eK rfl cD) rfl ⟨ai h1 A1 m1 c1,rfl,?_,eg KL.o Kt _ _ _ _ _ _ _ _,bd KJ.o (.inr (Nat.le_refl _)) _ _ _ _ _ _ _ _⟩;exact PO.o.hp (fun b hb=>⟨by have:=hb.1;simp at this;omega,by simp;exact hb.2⟩) fun b hb=>(bd (Ch.refl w.heap.size w1.heap.size w1) (.inl rfl) _ _ _ _ _ _ _ _).block b hb.2 (by have:=hb.1;simp at this;omega)
end
end Go.Proofs.YtnicfobpclehkaaGreatDoor
