import Derived.Deep.RegionHeld3
import Derived.Test.YtnicfobpclehkaaGreatDoorP10
set_option maxHeartbeats 6400000
set_option linter.unusedVariables false
set_option linter.unusedSimpArgs false
namespace Go.Proofs.YtnicfobpclehkaaGreatDoor
open Go.RowKit
section
set_option maxRecDepth 100000
section
variable{w:World}{P:Nat→Prop}{cs:List Value}
theorem lr{x:I.LL}(h:cS.R w P cs x):∃h A m c n,cs=ai h A m c++[.s n]:=by
 obtain⟨ce,rfl,hx,_⟩:=h;obtain⟨h,A,m,c,ks,rfl,_⟩:=aV hx;exact⟨h,A,m,c,_,rfl⟩
theorem ln{x:I.Ord}(h:dx.R w P cs x):∃h A m c n,cs=ai h A m c++[.bool n]:=by
 obtain⟨ce,rfl,hx⟩:=h;obtain⟨h,A,m,c,ks,rfl,_⟩:=aV hx;exact⟨h,A,m,c,_,rfl⟩
theorem kh{x:I.La}(h:dG.R w P cs x):∃h A m c n,cs=.s n::ai h A m c:=by
 obtain⟨ce,rfl,hx,_⟩:=h;obtain⟨h,A,m,c,ks,rfl,_⟩:=aV hx;exact⟨h,A,m,c,_,rfl⟩
theorem ar{α:Type}{E:El α}{v:Value}{xs:List α}(h:Rr E w P v xs):∃A m c,v=.slice A m c:=by
 obtain⟨A,c,rfl,_⟩:=h.form;exact⟨A,_,c,rfl⟩
theorem lK{x:I.Ky}(h:dC.R w P cs x):∃n k a b u A m c f y,cs=[.s n,.u k,.bool a,.bool b,.bool u,.slice A m c,.s f,.u y]:=by
 obtain⟨v,rfl,hv,_⟩:=h;obtain⟨A,m,c,rfl⟩:=ar hv;exact⟨_,_,_,_,_,_,_,_,_,_,rfl⟩
end
def ft(cs:List Value):Value:=.agg cs.toArray
def vq(cs:List Value):Value:=cs.headD undef
def KP{α:Type}(E:El α)(val:List Value→Value)(C:RC)(w:World)(r:α×I.St)(e:Ending)(w':World):Prop:=∃cs,e=.returned (val cs)∧E.R w' (In w.heap.size w'.heap.size) cs r.1∧PS C r.2 w'∧Ch C.g w.heap.size w w'
abbrev fg {α:Type} (E:El α) (Post:RC→World→α×I.St→Ending→World→Prop) (f:FuncId):Prop:=∀(C:RC) (N:FuncId) (bs cs args:Array Value) (_:∀w:World,(callFunc N (bs++cs)).run Tryz.prog w=.ok (.enter N args) w) (L:List (Nat×Obj)) (_:∀p∈L,p.1≠C.g) (most:Nat) (mo:Int) (_:mo=(most:Int)) (_:most≤1000) (_:1≤most) (kid:I.St→α×I.St) (_:I.ct kid) (n:Nat) (_:gM C N args L Post kid n) (st:I.St) (w:World) (_:st.r.length≤n) (_:PS C st w) (_:ey L w),Calls Tryz.prog f #[.p C.g,.i mo,.func (.func N) bs cs] w (iC E C w (I.list C.text.size most kid st))
theorem MJ{P:Program}{s:Code}{Q:Exit→Act→World→Prop}{a:Act}{w:World}(h:∀w',w'=w→s.wp P Q a w'):s.wp P Q a w:=h w rfl
theorem YW{P:Program}{ops:Array Oper}{l:List Oper}{Q:Exit→Act→World→Prop}{a:Act}{w:World}(h:∀w',w'=w→wpList P ops Q l a w'):wpList P ops Q l a w:=h w rfl
section
variable{α:Type}{E:El α}{w w1 w2 w4 w5 w6:World}{v:Value}{xs:List α}{cs:List Value}{x:α}{arr:Array Value}{lo:Nat}
theorem Ro.YX(h:w2=w1.alloc (.cells arr E.t))(ha:arr=cs.toArray)(hs:w.heap.size≤w1.heap.size)(hx:E.R w1 (In w.heap.size w1.heap.size) cs x):Ro E w2 w.heap.size (.slice (some ⟨w1.heap.size,0,none⟩) 1 1) [x]:=by
 subst h ha;exact Ro.lit (Kn.new w1 _ _) hs (El.hp hx (fun b hb=>⟨by have:=hb.1;omega,by have:=hb.2;simp;omega,by have:=hb.2;omega⟩) fun b hb=>Below.heap_alloc w1 _ b hb.2)
theorem YY(h:w6=w5.alloc (.cells arr E.t))(ha:arr=cs.toArray)(hO:Ro E w4 lo v xs)(hlo:lo≤w4.heap.size)(hO5:Ro E w5 lo v xs)(hx:E.R w5 (In w4.heap.size w5.heap.size) cs x):Hid (Ro E w6 lo v xs)∧Hid (E.R w6 (Pow w6 lo v) cs x)∧Hid (Kn w6 w5.heap.size E.t cs.toArray):=by
 subst h ha;exact⟨aa (hO5.alloc _),aa (hO.pow hlo (El.hp hx (fun b hb=>hb) fun b hb=>Below.heap_alloc w5 _ b hb.2) fun b hb=>⟨by have:=hb.1;omega,by have:=hb.2;simp;omega⟩),aa (Kn.new w5 _ _)⟩
end
def si(C:RC)(w:World)(r:UInt8×I.St)(e:Ending)(w':World):Prop:=e=.returned (.u (r.1.toNat:Int))∧PS C r.2 w'∧Ch C.g w.heap.size w w'
theorem I.zZ{α:Type}{T most f:Nat}{one:I.St→α×I.St}{l:List α}{st:I.St}(hf:st.r.length<f)(ha:I.ae [44] st=true)(hl:l.length=most):I.more T most one f l st=(l,I.br T (I.next st)):=by
 obtain⟨f,rfl⟩:∃k,f=k+1:=⟨f-1,by omega⟩;simp only[I.more,if_pos ha,if_pos hl]
theorem I.zu{α:Type}{T most f:Nat}{one:I.St→α×I.St}{l:List α}{st:I.St}(hf:st.r.length<f)(ha:I.ae [44] st=true)(hl:l.length≠most):I.more T most one f l st=I.more T most one (f-1) (l++[(one (I.next st)).1]) (one (I.next st)).2:=by
 obtain⟨f,rfl⟩:∃k,f=k+1:=⟨f-1,by omega⟩;simp only[I.more,if_pos ha,if_neg hl,Nat.add_sub_cancel]
theorem I.Dd{α:Type}{T most f:Nat}{one:I.St→α×I.St}{l:List α}{st:I.St}(hf:st.r.length<f)(ha:I.ae [44] st=false):I.more T most one f l st=(l,st):=by
 obtain⟨f,rfl⟩:∃k,f=k+1:=⟨f-1,by omega⟩;simp only[I.more,if_neg (show¬I.ae [44] st=true by rw[ha];decide)]
theorem sv{w:World}{P:Nat→Prop}{cs:List Value}{x:List Ev.Ex}(h:dM.R w P cs x):∃A m c,cs=[.slice A m c]:=by
 obtain⟨v,rfl,hv⟩:=h;obtain⟨A,m,c,rfl⟩:=ar hv;exact⟨A,m,c,rfl⟩
theorem xB{w:World}{P:Nat→Prop}{cs:List Value}{x:UInt8}(h:ik.R w P cs x):cs=[.u (x.toNat:Int)]:=h
abbrev Iq {α:Type} {E:El α} {val:List Value→Value} {C:RC} {N:FuncId} {args:Array Value} {L:List (Nat×Obj)} {kid:I.St→α×I.St} {n:Nat} (_:Hid (gM C N args L (KP E val) kid n)):El α:=E
theorem fC:fg Kr (KP Kr ft) 205∧fg cS (KP cS ft) 207∧fg dx (KP dx ft) 210∧fg dG (KP dG ft) 136∧fg dC (KP dC ft) 197∧fg dM (KP dM vq) 134∧fg ik (KP ik vq) 236:=by
 refine⟨?_,?_,?_,?_,?_,?_,?_⟩;all_goals
  intro C N bs cs args hN L NR most mo hme hmo hm0 kid Vh n hK st w hn h hL
  subst hme
  have Kt:=h.lt
  have HP:=aa h
  have HK:=aa hK
  have M8:=aa Vh
  have HL:=aa hL
  have HLi:=aa (hL.YV NR)
  clear h hK Vh hL NR
  first|go_enter Tryz.func205,Tryz.ntmps205|go_enter Tryz.func207,Tryz.ntmps207|go_enter Tryz.func210,Tryz.ntmps210|go_enter Tryz.func136,Tryz.ntmps136|go_enter Tryz.func197,Tryz.ntmps197|go_enter Tryz.func134,Tryz.ntmps134|go_enter Tryz.func236,Tryz.ntmps236
  go_wp2_with fail
  with_reducible refine(HK.o.at st _ hn HP.o HL.o).mono ?_
  rintro e w1 ⟨cs1,rfl,hx1,hp1,hc1⟩
  obtain⟨r1,hr1⟩:=aab (kid st)
  obtain⟨x1,s1⟩:=r1
  rw[←hr1]at hp1 hx1
  simp only at hp1 hx1
  first|(obtain⟨h1,A1,m1,c1,SW,rfl,hk1⟩:=aV hx1;clear hk1)|obtain⟨h1,A1,m1,c1,n1,rfl⟩:=lr hx1|obtain⟨h1,A1,m1,c1,n1,rfl⟩:=ln hx1|obtain⟨h1,A1,m1,c1,n1,rfl⟩:=kh hx1|obtain⟨n1,k1,a1,b1,u1,A1,m1,c1,f1,y1,rfl⟩:=lK hx1|obtain⟨A1,m1,c1,rfl⟩:=sv hx1|obtain rfl:=xB hx1
  simp only[ft,vq,ai,List.cons_append,List.nil_append,List.headD_cons]
  have VT:=M8.o st
  rw[←hr1]at VT
  simp only at VT
  have hs1:=hc1.size
  obtain⟨v0,hv0⟩:=aab (Value.slice (some ⟨w1.heap.size,0,none⟩) 1 1)
  have HF:Hid (I.list C.text.size most kid st=I.more C.text.size most kid (s1.r.length+1) [x1] s1):=by show _=_;unfold I.list;rw[←hr1]
  clear hr1
  go_wp2_with fail
  refine MJ fun w2 hw2=>?_
  have LY:=aa (Ro.YX (E:=Iq HK) hw2 rfl hs1 hx1)
  have Ld:=aa (show PS C s1 w2 by rw[hw2];exact hp1.alloc _)
  have Ms:=aa (show Ch C.g w.heap.size w w2 by rw[hw2];exact hc1.alloc hs1 _)
  rw[←hv0]at LY⊢
  clear hw2 hv0 hx1 hp1 hc1
  go_loopg [7] s1.r.length (fun gg v wr=>∃(f:Nat) (xs:List _) (s0:I.St),gg=s0.r.length∧s0.r.length≤n∧s0.r.length<f∧1≤xs.length∧xs.length≤most∧Hid (I.list C.text.size most kid st=I.more C.text.size most kid f xs s0)∧Hid (Ro (Iq HK) wr w.heap.size v xs)∧Hid (PS C s0 wr)∧Hid (Ch C.g w.heap.size w wr))
  case atStart=>exact⟨_,_,_,rfl,by omega,by omega,by simp,by simpa using hm0,HF,LY,Ld,Ms⟩
  case round=>
   obtain⟨f,xs,s0,rfl,hsn,Lu,hx0,hxm,HF,HO,VN,HC⟩:=hrel
   obtain⟨w3,hw3⟩:=aab wr
   subst hw3
   clear LY Ld Ms
   obtain⟨A,c,rfl,hc1,hc2⟩:=HO.o.form
   have hs3:=HC.o.size
   go_wp2_with fail
   with_reducible refine(bK C ⟨#[44]⟩ s0 _ VN.o).mono ?_
   rintro e w4 ⟨rfl,OV,hc4⟩
   rw[show(⟨#[44]⟩:ByteArray).data.toList=[44]from rfl]at OV⊢
   have hs4:=hc4.size
   have Tv:=aa (HO.o.ch hc4 Kt)
   have Oi:=aa (HC.o.trans hc4 hs3)
   have HL4:=aa (HL.o.ch HLi.o Oi.o)
   have Vi:=aa OV
   clear OV hc4
   cases ha:I.ae [44] s0 with
   |false=>
    have NA:Hid (PS C s0 w4):=by have:=Vi.o;rw[I.dT ha]at this;exact this
    have HZ:=aa (HF.o.trans (I.Dd Lu ha))
    clear ha
    go_wp2_with fail
    go_ret
    exact⟨_,rfl,by rw[HZ.o];exact Tv.o.rr,by rw[HZ.o];exact NA.o,Oi.o⟩
   |true=>
    have NA:Hid (PS C (I.next s0) w4):=by have:=Vi.o;rw[I.di ha]at this;exact this
    have hlen:=I.bx ha
    by_cases hm:xs.length=most
    ·have HZ:=aa (HF.o.trans (I.zZ Lu ha hm));have t1:((xs.length:Int)==(most:Int))=true:=by simp[hm]
     clear ha hm;go_wp2_with fail
     with_reducible refine(mV C (I.next s0) _ NA.o).mono ?_
     rintro e w5 ⟨rfl,Nw,Mk⟩;have PT:=aa Nw;have YZ:=aa (Tv.o.ch Mk Kt);have Qz:=aa (Oi.o.trans Mk (by omega));clear Nw Mk;go_wp2_with fail
     go_ret;exact⟨_,rfl,by rw[HZ.o];exact YZ.o.rr,by rw[HZ.o];exact PT.o,Qz.o⟩
    ·have HS:=aa (I.zu (one:=kid) (T:=C.text.size) Lu ha hm);have t1:((xs.length:Int)==(most:Int))=false:=beq_eq_false_iff_ne.2 (by omega);have hxlt:xs.length<most:=by omega
     have VU:=M8.o (I.next s0);clear ha hm;go_wp2_with fail
     with_reducible refine(HK.o.at (I.next s0) _ (by omega) NA.o HL4.o).mono ?_
     rintro e w5 ⟨cs5,rfl,hx5,Nw,Mk⟩;obtain⟨r5,XH⟩:=aab (kid (I.next s0));obtain⟨x5,s5⟩:=r5;rw[←XH]at Nw hx5;simp only at Nw hx5;first|(obtain⟨h5,A5,m5,c5,ks5,rfl,hk5⟩:=aV hx5;clear hk5)|obtain⟨h5,A5,m5,c5,n5,rfl⟩:=lr hx5|obtain⟨h5,A5,m5,c5,n5,rfl⟩:=ln hx5|obtain⟨h5,A5,m5,c5,n5,rfl⟩:=kh hx5|obtain⟨n5,k5,a5,b5,u5,A5,m5,c5,f5,y5,rfl⟩:=lK hx5|obtain⟨A5,m5,c5,rfl⟩:=sv hx5|obtain rfl:=xB hx5
     simp only[ft,vq,ai,List.cons_append,List.nil_append,List.headD_cons];rw[←XH]at VU;simp only at VU;have TR:Hid (I.list C.text.size most kid st=I.more C.text.size most kid (f-1) (xs++[x5]) s5):=by show _=_;rw[HF.o,HS.o,←XH]
     have hs5:=Mk.size;have YZ:=aa (Tv.o.ch Mk Kt);have Qz:=aa (Oi.o.trans Mk (by omega));have Y0:=aa hx5;have PT:=aa Nw;clear hx5 Nw Mk XH Vi;go_wp2_with (at_builtin;refine YW fun w6 Nl=>?_;obtain⟨Vc,Qf,YP⟩:=YY (E:=Iq HK) Nl rfl Tv.o (by omega) YZ.o Y0.o;have Mp:=aa (show PS C s5 w6 by rw[Nl];exact PT.o.alloc _);have MX:=aa (show Ch C.g w.heap.size w w6 by rw[Nl];exact Qz.o.alloc (by omega) _);have VO:w.heap.size≤w6.heap.size:=(by rw[Nl];simp;omega);clear Nl;refine dZ (by first|exact re|exact qw|exact pK|exact pd|exact qL|exact pL|exact nQ) rfl (.tmp 20) (.tmp 23) (by first|exact Tryz.underlying27|exact Tryz.underlying41|exact Tryz.underlying43|exact Tryz.underlying26|exact Tryz.underlying23|exact Tryz.underlying25|exact Tryz.underlying28) rfl w.heap.size _ xs rfl Vc.o w5.heap.size 1 _ x5 rfl YP.o Qf.o (by first|(show(xs.length+1)*1≤140737488355328;omega)|(show(xs.length+1)*24≤140737488355328;omega)|(show(xs.length+1)*72≤140737488355328;omega)|(show(xs.length+1)*104≤140737488355328;omega)|(show(xs.length+1)*112≤140737488355328;omega)|(show(xs.length+1)*120≤140737488355328;omega)) (by unfold maxLen;omega) VO ?_;intro v7 w7 Vd RF Se;have XI:=aa Vd;have Nk:=aa (Mp.o.below Se Kt);have RI:=aa (MX.o.below Se (Nat.le_refl _));clear Vd RF Se)
     go_roundg s5.r.length;case measure=>omega
     case rel=>exact⟨f-1,xs++[x5],s5,rfl,by omega,by omega,by simp,by simp;omega,TR,XI,Nk,RI⟩
theorem pP:fg Kr eY 205:=fC.1
theorem uA:fg cS (EPost cS) 207:=fC.2.1
theorem sA:fg dx (EPost dx) 210:=fC.2.2.1
theorem rF:fg dG (EPost dG) 136:=fC.2.2.2.1
theorem tM:fg dC (EPost dC) 197:=fC.2.2.2.2.1
theorem tT:fg dM (iC Kr) 134:=fun C N bs cs args hN L NR most mo hme hmo hm0 kid Vh n hK=>fC.2.2.2.2.2.1 C N bs cs args hN L NR most mo hme hmo hm0 kid Vh n fun st w hn h hL=>(hK st w hn h hL).mono fun _ _ ⟨v,e,hv,hp,hc⟩=>⟨[v],e,⟨v,rfl,hv⟩,hp,hc⟩
theorem wo:fg ik si 236:=fun C N bs cs args hN L NR most mo hme hmo hm0 kid Vh n hK=>fC.2.2.2.2.2.2 C N bs cs args hN L NR most mo hme hmo hm0 kid Vh n fun st w hn h hL=>(hK st w hn h hL).mono fun _ _ ⟨e,hp,hc⟩=>⟨[_],e,rfl,hp,hc⟩
end
section
set_option maxRecDepth 100000
theorem I.jQ{ks:List Ev.Ex}{k:Nat}{h:Ev.Hd}{ks':List Ev.Ex}(hk:ks[k]?=some (.mk h ks')):I.bj (ks.take (k+1))=max (I.bj (ks.take k)) (I.bj ks'+1):=by
 induction ks generalizing k with
 |nil=>simp at hk
 |cons a r ih=>
  cases k with
  |zero=>
   simp at hk;subst hk;simp[I.bj,I.depth]
  |succ k=>
   simp at hk;rw[List.take_succ_cons,List.take_succ_cons,I.bj,I.bj,ih hk];omega
theorem I.mw{ks:List Ev.Ex}{k:Nat}:I.bj (ks.take k)≤I.bj ks:=by
 induction ks generalizing k with
 |nil=>simp
 |cons a r ih=>
  cases k with
  |zero=>simp[I.bj]
  |succ k=>
   rw[List.take_succ_cons,I.bj,I.bj];have:=ih (k:=k);omega
theorem I.vP{ks:List Ev.Ex}{k:Nat}{h:Ev.Hd}{ks':List Ev.Ex}(hk:ks[k]?=some (.mk h ks')):I.bj ks'+1≤I.bj ks:=by
 have h1:=I.jQ hk;have h2:=I.mw (ks:=ks) (k:=k+1);omega
theorem qg:∀(d:Nat) (h:Ev.Hd) (A:Option Addr) (m c:Nat) (ks:List Ev.Ex) (w:World),Mu w (· <w.heap.size) d A m ks→I.bj ks≤1000000000000000000→m≤c→c≤9223372036854775807→
 Calls Tryz.prog 15 #[.agg #[.u (h.o.toNat:Int),.u (h.v.k.toNat:Int),.i h.v.n,.s h.v.s,.s h.nm,.s h.of,.i h.n,.slice A m c]] w fun e w'=>e=.returned (.i ((I.bj ks+1:Nat):Int))∧Below w.heap.size w w':=by
 intro d;induction d using Nat.strongRecOn with
 |_ d ih=>
  intro h A m c ks w hk hd hmc hcc;obtain⟨hm,hm2⟩:=hk.len;subst hm;have HK:=aa hk;have HI:=aa ih;have HD:=aa hd;clear hk ih hd;go_enter Tryz.func15,Tryz.ntmps15;have HB0:=aa ((Below.refl w.heap.size w).alloc (Nat.le_refl _) (.cells #[.u (h.o.toNat:Int),.u (h.v.k.toNat:Int),.i h.v.n,.s h.v.s,.s h.nm,.s h.of,.i h.n,.slice A ks.length c] 50));go_wp2_with fail
  go_loopg [3,9] ks.length (fun gg mo ix wr=>∃k:Nat,k≤ks.length∧gg=ks.length-k∧ix=.i (k:Int)∧mo=.i ((I.bj (ks.take k):Nat):Int)∧Hid (Below w.heap.size w wr));case atStart=>exact⟨0,by omega,by omega,rfl,rfl,HB0⟩
  case round=>
   obtain⟨k,hkl,rfl,rfl,rfl,HB⟩:=hrel;obtain⟨w1,hw1⟩:=aab wr;subst hw1;clear HB0;have hs1:=HB.o.size;have RL:=aa (HK.o.next HB.o);by_cases hlt:k<ks.length
   ·obtain⟨d',g,off,hd',ks',A',c',rfl,rfl,hg,hi,e0,e1,e2,e3,e4,e5,e6,e7,l1,l2,l3,l4⟩:=RL.o.at hlt;have HT:=aa (I.jQ hi);have hD1:=I.vP hi;have hD2:=HD.o;have hle:=I.mw (ks:=ks) (k:=k);have t1:decide ((k:Int)<(ks.length:Int))=true:=decide_eq_true (by omega);have q2:(k:Int)<(ks.length:Int):=by omega
    have L4:=aa l4;have L3:=aa l3;clear hi l3 l4;obtain⟨w2,hw2⟩:=aab (w1.alloc (.cells #[.u (hd'.o.toNat:Int),.u (hd'.v.k.toNat:Int),.i hd'.v.n,.s hd'.v.s,.s hd'.nm,.s hd'.of,.i hd'.n,.slice A' ks'.length c'] 50));have HB2:=aa (show Below w.heap.size w w2 by rw[hw2];exact HB.o.alloc hs1 _);have NO:=aa (show Kn w2 w1.heap.size 50 _ by rw[hw2];exact Kn.new w1 _ _);have hz2:w2.heap.size=w1.heap.size+1:=by rw[hw2];simp
    have HL2:=aa (show Mu w2 (· <w2.heap.size) d' A' ks'.length ks' by rw[hw2];exact L4.o.next ((Below.refl w1.heap.size w1).alloc (Nat.le_refl _) _));go_upto_region 5 with fail
    rw[←hw2];clear hw2 e0 e1 e2 e3 e4 e5 e6 e7;have Ks:=NO.o.Y8;simp at Ks;have hz3:w1.heap.size<w2.heap.size:=by omega
    have VV:w.heap.size≤w2.heap.size:=by omega
    obtain⟨D0,hD0⟩:=aab (I.bj (ks.take k));obtain⟨D1,TS⟩:=aab (I.bj ks');rw[←hD0]at HT hle⊢;rw[←TS]at HT hD1;have HD1:=aa TS;clear hz2 hD0 TS;go_wp2_with fail
    with_reducible refine(HI.o d' (by omega) hd' A' ks'.length c' ks' _ HL2.o (by rw[←HD1.o];omega) l1 l2).mono ?_
    rintro e w3 ⟨rfl,hb3⟩;rw[←HD1.o];have HB3:=aa (HB2.o.trans (hb3.mono VV));clear hb3;go_wp2_with fail
    all_goals
     go_roundg (ks.length-(k+1))
     case measure=>omega
     case rel=>exact⟨k+1,by omega,rfl,by go_num,by rw[HT.o,Nat.max_def];congr 1;split<;>first|omega|(split<;>omega)|(simp only[Nat.max_def];split<;>omega),HB3⟩
   ·have hk2:k=ks.length:=by omega
    have HE:=aa (show I.bj (ks.take k)=I.bj ks by rw[hk2,List.take_length]);have t1:decide ((k:Int)<(ks.length:Int))=false:=decide_eq_false (by omega);have q2:¬(k:Int)<(ks.length:Int):=by omega
    have hD2:=HD.o;rw[HE.o];clear hk2;go_wp2_with fail
    go_ret;exact⟨by go_num,HB.o⟩
end
section
namespace I
open Ev (Ex)
theorem kX(o:UInt8)(a:Ex):depth (un o a)=depth a+1:=by simp[un,depth,bj]
theorem pQ(o:UInt8)(a b:Ex):depth (bin o a b)=max (depth a) (depth b)+1:=by simp[bin,depth,bj]
theorem gN(h:Ev.Hd):depth (.mk h [])=1:=by simp[depth,bj]
theorem mu(v:Cell.Val):depth (lit v)=1:=by simp[lit,depth,bj]
theorem ei(e:Ex):1≤depth e:=by
 cases e with
 |mk h ks=>rw[depth];omega
def M3(k:St→Ex×St):Prop:=∀st,depth (k st).1+(k st).2.r.length≤st.r.length+1
theorem uQ{kid:St→Ex×St}(h:M3 kid)(l:List (Bs×UInt8))(M:Nat):∀(f:Nat) (e:Ex) (st:St),depth e+st.r.length≤M+1→st.r.length≤M→depth (ba kid l f e st).1+(ba kid l f e st).2.r.length≤M+1:=by
 intro f;induction f with
 |zero=>intro e st h1 _;exact h1
 |succ f ih=>
  intro e st h1 h2;unfold ba;by_cases h0:(one l st).1=0
  ·rw[if_pos h0];exact h1
  ·rw[if_neg h0];have ho:=(gj l st).2 h0;have hk:=h (one l st).2;have hp:=ei (kid (one l st).2).1;have hp2:=ei e;refine ih _ _ ?_ (by omega);rw[pQ];omega
theorem kb{kid:St→Ex×St}(h:M3 kid)(l:List (Bs×UInt8)):M3 (chain kid l):=by
 intro st;unfold chain;have h1:=h st;have h2:=ei (kid st).1;exact uQ h l st.r.length _ _ _ h1 (by omega)
theorem qJ{s:Bs}{o:UInt8}{Y:St→Ex×St}(h:M3 Y):∀(f:Nat),M3 (again s o Y f):=by
 intro f;induction f with
 |zero=>exact h
 |succ f ih=>
  intro st;unfold again;by_cases ha:ae s st=true
  ·rw[if_pos ha];have:=ih (next st);have:=bx ha;rw[kX];simp only;omega
  ·rw[if_neg ha];exact h st
theorem tX(T:Nat):M3 (literal T):=by
 intro st;have hl:=kV T st;have hd:depth (literal T st).1=1:=by
  unfold literal;repeat' split
  all_goals exact mu _
 omega
theorem wu(T:Nat):M3 (cm T):=by
 intro st;have hl:=mU T st;have hd:depth (cm T st).1=1:=by unfold cm;split;all_goals exact gN _
 omega
theorem om{T:Nat}{k:St→Ex×St}{m:Nat}(h:∀st,depth (k st).1+(k st).2.r.length≤st.r.length+m)(st:St):depth (inside T k st).1+(inside T k st).2.r.length≤st.r.length+m:=by
 unfold inside;have h1:=h (expect T [[40]] st);have h2:=av T [[40]] st;have h3:=av T [[41]] (k (expect T [[40]] st)).2;simp only;omega
theorem CF{T:Nat}{X:St→Ex×St}(h:M3 X)(op:UInt8)(st:St):depth (fold T X op st).1+(fold T X op st).2.r.length≤st.r.length+2:=by
 unfold fold;refine om (fun st=>?_) st;show depth (if _ then _ else _:Ex×St).1+(if _ then _ else _:Ex×St).2.r.length≤_;split
 ·have:=aE st;simp only;rw[gN];omega
 ·have:=h st;simp only;rw[kX];omega
theorem th{T:Nat}{X:St→Ex×St}(h:M3 X):M3 (aD T X):=by
 intro st;have hn:=aE st;have hf:=CF (T:=T) h (one dd st).1 (one dd st).2;have ho:=(gj dd st).2;unfold aD;repeat' split
 ·exact tX T st
 ·exact om (m:=1) h st
 ·simp only[gN];omega
 ·simp only[mu];omega
 ·simp only[mu];omega
 ·simp only[gN];omega
 ·exact wu T st
 ·rename_i h0;have:=ho h0;omega
theorem yA{T:Nat}{X:St→Ex×St}(h:M3 X):M3 (unary T X):=by
 intro st;unfold unary;exact qJ (th h) st.r.length st
theorem AJ{T:Nat}{X:St→Ex×St}(h:M3 X):M3 (prod T X):=kb (yA h) _
theorem xi{T:Nat}{X:St→Ex×St}(h:M3 X):M3 (sum T X):=kb (AJ h) _
theorem Gb{T:Nat}{X:St→Ex×St}(h:M3 X):M3 (cmp T X):=by
 intro st;have h1:=xi (T:=T) h st;unfold cmp fv;have h2:=xi (T:=T) h (one fF (sum T X st).2).2;have ho:=(gj fF (sum T X st).2).2;have hp:=ei (sum T X (one fF (sum T X st).2).2).1;have hp2:=ei (sum T X st).1;by_cases h0:(one fF (sum T X st).2).1=0
 ·rw[if_pos h0];by_cases hi:ae [105,115] (sum T X st).2=true
  ·rw[if_pos hi];have hl:=bx hi;unfold Ng;by_cases hn:ae [110,111,116] (next (sum T X st).2)=true
   ·rw[if_pos hn];have:=bx hn;have:=av T [[110,117,108,108]] (next (next (sum T X st).2));simp only[kX];omega
   ·rw[if_neg hn];have:=av T [[110,117,108,108]] (next (sum T X st).2);simp only[kX];omega
  ·rw[if_neg hi];exact h1
 ·rw[if_neg h0];have:=ho h0;simp only[pQ];omega
theorem Ew{T:Nat}{X:St→Ex×St}(h:M3 X):M3 (dz T X):=by
 intro st;unfold dz;exact qJ (Gb h) st.r.length st
theorem Fu{T:Nat}{X:St→Ex×St}(h:M3 X):M3 (gz T X):=kb (Ew h) _
theorem ED{T:Nat}{X:St→Ex×St}(h:M3 X):M3 (PK T X):=kb (Fu h) _
theorem Gj(T:Nat):∀n,M3 (Lw T n):=by
 intro n;induction n with
 |zero=>
  intro st;show depth (.mk (hd 0) [])+_≤_;rw[gN];exact Nat.le_of_eq (Nat.add_comm _ _)
 |succ n ih=>
  intro st;exact ED ih st
theorem Cm(T:Nat)(st:St):depth (or T st).1≤st.r.length+1:=by
 have:=Gj T (st.r.length+1) st;unfold or;omega
theorem tU(T:Nat):ct (or T):=fun st=>ua T (st.r.length+1) st
theorem eh(T:Nat):ct (expr T):=by
 intro st;unfold expr;simp only;split
 ·exact tU T st
 ·exact tU T st
end I
end
section
set_option maxRecDepth 100000
theorem DU(w:World)(g:Nat)(u0 u1 u2 u3 u4 u5 u6 u7:Value)(t:TypeId)(cs:Array Value):Kn (((((((((w.setCell ⟨g,0,none⟩ u0).setCell ⟨g,1,none⟩ u1).setCell ⟨g,2,none⟩ u2).setCell ⟨g,3,none⟩ u3).setCell ⟨g,4,none⟩ u4).setCell ⟨g,5,none⟩ u5).setCell ⟨g,6,none⟩ u6).setCell ⟨g,7,none⟩ u7).alloc (.cells cs t)) w.heap.size t cs:=by
 have:=Kn.new ((((((((w.setCell ⟨g,0,none⟩ u0).setCell ⟨g,1,none⟩ u1).setCell ⟨g,2,none⟩ u2).setCell ⟨g,3,none⟩ u3).setCell ⟨g,4,none⟩ u4).setCell ⟨g,5,none⟩ u5).setCell ⟨g,6,none⟩ u6).setCell ⟨g,7,none⟩ u7) t cs;simpa using this
theorem nY(C:RC)(X:I.St→Ev.Ex×I.St)(n:Nat)(hK:dy C 283 #[.p C.g] (I.aD C.text.size X) n)(st:I.St)(w:World)(hn:st.r.length≤n)(h:PS C st w)(ih:∀(s1:I.St) (w1:World),s1.r.length<st.r.length→PS C s1 w1→Calls Tryz.prog 281 #[.p C.g] w1 (eY C w1 (I.unary C.text.size X s1))):
 Calls Tryz.prog 281 #[.p C.g] w (eY C w (I.unary C.text.size X st)):=by
 have Kt:=h.lt;have HP:=aa h;have HK:=aa hK;have IH:=aa ih;clear h hK ih;go_enter Tryz.func281,Tryz.ntmps281;go_wp2_with fail
 with_reducible refine(bK C ⟨#[45]⟩ st _ (HP.o.alloc _)).mono ?_
 rintro e w1 ⟨rfl,hp1,hc1⟩;have hs1:=hc1.size;rw[ay]at hs1;have KL:=aa hp1;have KJ:=aa (((Ch.refl C.g w.heap.size w).alloc (Nat.le_refl _) _).trans hc1 (by simp));have HR1:=aa ((Kn.new w _ _).ch hc1 (by simp) (by omega));clear hp1 hc1;show _;cases ha:I.ae [45] st with
 |true=>
  have HF:Hid (I.unary C.text.size X st=(I.un 3 (I.unary C.text.size X (I.next st)).1,(I.unary C.text.size X (I.next st)).2)):=by show _=_;unfold I.unary;exact I.j1 ha
  have hnl:=I.bx ha;have Ld:Hid (PS C (I.next st) w1):=by have:=KL.o;rw[show(⟨#[45]⟩:ByteArray).data.toList=[45]from rfl,I.di ha]at this;exact this
  clear ha;go_wp2_with fail
  with_reducible refine(IH.o (I.next st) _ hnl Ld.o).mono ?_
  rintro e w3 ⟨Oy,rfl,hx3,hp3,hc3⟩;have hs3:=hc3.size;obtain⟨h3,A3,m3,c3,Y1,rfl,hk3⟩:=aV hx3;have QA:=aa hx3;have Oh:=aa hp3;have Ov:=aa (KJ.o.trans hc3 (by omega));have HR3:=aa (HR1.o.ch hc3 (by omega) (by omega));clear hx3 hp3 hc3 hk3;unfold ai;obtain⟨w4,hw4⟩:=aac (w3.alloc (.cells #[.u (h3.o.toNat:Int),.u (h3.v.k.toNat:Int),.i h3.v.n,.s h3.v.s,.s h3.nm,.s h3.of,.i h3.n,.slice A3 m3 c3] 50));have HR4:=aa (show Kn w4 w.heap.size _ _ from hw4▸HR3.o.alloc _);have Y4:=aa (show Kn w4 w3.heap.size _ _ from hw4▸Kn.new w3 _ _);have NA:=aa (show PS C _ w4 from hw4▸Oh.o.alloc _);have Oi:=aa (show Ch C.g w.heap.size w w4 from hw4▸Ov.o.alloc (by omega) _);have VW:=aa (show XR w4 (In w1.heap.size w3.heap.size) _ _ from hw4▸QA.o.hp (fun _ h=>h) fun b hb=>Below.heap_alloc w3 _ b hb.2);have hs4:w4.heap.size=w3.heap.size+1:=by rw[←hw4,ay]
  have VV:w3.heap.size<w4.heap.size:=by omega
  clear hs4;have Ks:=HR4.o.Y8;simp at Ks;obtain⟨f0,f1,f2,f3,f4,f5,f6,f7⟩:=HR4.o.Z8;go_wp2_with fail
  refine bodyPost_ret (v:=.agg (ai (I.hd 3) (some ⟨w3.heap.size,0,none⟩) 1 1).toArray) (results_cell_row rfl _ _ w.heap.size 50 _ (0,0) _ rfl (aW HR4.o _ _ _ _ _ _ _ _) eK rfl cD) rfl ⟨_,rfl,?_,?_,?_⟩
  ·rw[HF.o];have hcs:=bd (Ch.refl w.heap.size w4.heap.size w4) (.inl rfl) (.u 3) .b .o .e .e .e .o (.slice (some ⟨w3.heap.size,0,none⟩) 1 1);refine qA (g:=w3.heap.size) (t:=50) (cells:=#[.u (h3.o.toNat:Int),.u (h3.v.k.toNat:Int),.i h3.v.n,.s h3.v.s,.s h3.nm,.s h3.of,.i h3.n,.slice A3 m3 c3]) 3 ((hcs.block _ VV (by omega)).trans Y4.o) rfl (VW.o.hp (fun b hb=>⟨by have:=hb.1;omega,by have:=hb.2;simp;omega⟩) fun b hb=>hcs.block b (by have:=hb.2;omega) (by have:=hb.1;omega)) ⟨by omega,by simp;omega⟩
  ·rw[HF.o];exact eg NA.o Kt _ _ _ _ _ _ _ _
  ·exact bd Oi.o (.inr (Nat.le_refl _)) _ _ _ _ _ _ _ _
 |false=>
  have HF:Hid (I.unary C.text.size X st=I.aD C.text.size X st):=by show _=_;unfold I.unary;exact I.lI ha
  have Ld:Hid (PS C st w1):=by have:=KL.o;rw[show(⟨#[45]⟩:ByteArray).data.toList=[45]from rfl,I.dT ha]at this;exact this
  clear ha;go_wp2_with fail
  with_reducible refine(HK.o.at st _ hn Ld.o).mono ?_
  rintro e w3 ⟨Oy,rfl,hx3,hp3,hc3⟩;have hs3:=hc3.size;obtain⟨h3,A3,m3,c3,Y1,rfl,hk3⟩:=aV hx3;have QA:=aa hx3;have Oh:=aa hp3;have Ov:=aa (KJ.o.trans hc3 (by omega));have HR3:=aa (HR1.o.ch hc3 (by omega) (by omega));clear hx3 hp3 hc3 hk3;unfold ai;have cj2:=HR3.o.Y8;simp at cj2;obtain⟨f0,f1,f2,f3,f4,f5,f6,f7⟩:=HR3.o.Z8;go_wp2_with fail
  refine bodyPost_ret (v:=.agg (ai h3 A3 m3 c3).toArray) (results_cell_row rfl _ _ w.heap.size 50 _ (0,0) _ rfl (aW HR3.o _ _ _ _ _ _ _ _) eK rfl cD) rfl ⟨_,rfl,?_,?_,?_⟩
  ·rw[HF.o];exact QA.o.hp (fun b hb=>⟨by have:=hb.1;omega,by simp;exact hb.2⟩) fun b hb=>(bd (Ch.refl w.heap.size w3.heap.size w3) (.inl rfl) _ _ _ _ _ _ _ _).block b hb.2 (by have:=hb.1;omega)
  ·rw[HF.o];exact eg Oh.o Kt _ _ _ _ _ _ _ _
  ·exact bd Ov.o (.inr (Nat.le_refl _)) _ _ _ _ _ _ _ _
theorem Cl(C:RC)(X:I.St→Ev.Ex×I.St)(n:Nat)(hK:dy C 283 #[.p C.g] (I.aD C.text.size X) n):dy C 281 #[.p C.g] (I.unary C.text.size X) n:=by
 have:∀(m:Nat) (st:I.St) (w:World),st.r.length≤m→st.r.length≤n→PS C st w→Calls Tryz.prog 281 #[.p C.g] w (eY C w (I.unary C.text.size X st)):=by
  intro m;induction m with
  |zero=>exact fun st w hm hn h=>nY C X n hK st w hn h fun s1 w1 hl _=>absurd hl (by omega)
  |succ m ih=>exact fun st w hm hn h=>nY C X n hK st w hn h fun s1 w1 hl h1=>ih s1 w1 (by omega) (by omega) h1
 exact fun st w hn h=>this _ st w (Nat.le_refl _) hn h
theorem tu(C:RC)(X:I.St→Ev.Ex×I.St)(n:Nat)(hK:dy C 256 #[.p C.g] (I.cmp C.text.size X) n)(st:I.St)(w:World)(hn:st.r.length≤n)(h:PS C st w)(ih:∀(s1:I.St) (w1:World),s1.r.length<st.r.length→PS C s1 w1→Calls Tryz.prog 248 #[.p C.g] w1 (eY C w1 (I.dz C.text.size X s1))):
 Calls Tryz.prog 248 #[.p C.g] w (eY C w (I.dz C.text.size X st)):=by
 have Kt:=h.lt;have HP:=aa h;have HK:=aa hK;have IH:=aa ih;clear h hK ih;go_enter Tryz.func248,Tryz.ntmps248;go_wp2_with fail
 with_reducible refine(bK C ⟨#[110,111,116]⟩ st _ (HP.o.alloc _)).mono ?_
 rintro e w1 ⟨rfl,hp1,hc1⟩;have hs1:=hc1.size;rw[ay]at hs1;have KL:=aa hp1;have KJ:=aa (((Ch.refl C.g w.heap.size w).alloc (Nat.le_refl _) _).trans hc1 (by simp));have HR1:=aa ((Kn.new w _ _).ch hc1 (by simp) (by omega));clear hp1 hc1;show _;cases ha:I.ae [110,111,116] st with
 |true=>
  have HF:Hid (I.dz C.text.size X st=(I.un 15 (I.dz C.text.size X (I.next st)).1,(I.dz C.text.size X (I.next st)).2)):=by show _=_;unfold I.dz;exact I.j1 ha
  have hnl:=I.bx ha;have Ld:Hid (PS C (I.next st) w1):=by have:=KL.o;rw[show(⟨#[110,111,116]⟩:ByteArray).data.toList=[110,111,116]from rfl,I.di ha]at this;exact this
  clear ha;go_wp2_with fail
  with_reducible refine(IH.o (I.next st) _ hnl Ld.o).mono ?_
  rintro e w3 ⟨Oy,rfl,hx3,hp3,hc3⟩;have hs3:=hc3.size;obtain⟨h3,A3,m3,c3,Y1,rfl,hk3⟩:=aV hx3;have QA:=aa hx3;have Oh:=aa hp3;have Ov:=aa (KJ.o.trans hc3 (by omega));have HR3:=aa (HR1.o.ch hc3 (by omega) (by omega));clear hx3 hp3 hc3 hk3;unfold ai;obtain⟨w4,hw4⟩:=aac (w3.alloc (.cells #[.u (h3.o.toNat:Int),.u (h3.v.k.toNat:Int),.i h3.v.n,.s h3.v.s,.s h3.nm,.s h3.of,.i h3.n,.slice A3 m3 c3] 50));have HR4:=aa (show Kn w4 w.heap.size _ _ from hw4▸HR3.o.alloc _);have Y4:=aa (show Kn w4 w3.heap.size _ _ from hw4▸Kn.new w3 _ _);have NA:=aa (show PS C _ w4 from hw4▸Oh.o.alloc _);have Oi:=aa (show Ch C.g w.heap.size w w4 from hw4▸Ov.o.alloc (by omega) _);have VW:=aa (show XR w4 (In w1.heap.size w3.heap.size) _ _ from hw4▸QA.o.hp (fun _ h=>h) fun b hb=>Below.heap_alloc w3 _ b hb.2);have hs4:w4.heap.size=w3.heap.size+1:=by rw[←hw4,ay]
  have VV:w3.heap.size<w4.heap.size:=by omega
  clear hs4;have Ks:=HR4.o.Y8;simp at Ks;obtain⟨f0,f1,f2,f3,f4,f5,f6,f7⟩:=HR4.o.Z8;go_wp2_with fail
  refine bodyPost_ret (v:=.agg (ai (I.hd 15) (some ⟨w3.heap.size,0,none⟩) 1 1).toArray) (results_cell_row rfl _ _ w.heap.size 50 _ (0,0) _ rfl (aW HR4.o _ _ _ _ _ _ _ _) eK rfl cD) rfl ⟨_,rfl,?_,?_,?_⟩
  ·rw[HF.o];have hcs:=bd (Ch.refl w.heap.size w4.heap.size w4) (.inl rfl) (.u 15) .b .o .e .e .e .o (.slice (some ⟨w3.heap.size,0,none⟩) 1 1);refine qA (g:=w3.heap.size) (t:=50) (cells:=#[.u (h3.o.toNat:Int),.u (h3.v.k.toNat:Int),.i h3.v.n,.s h3.v.s,.s h3.nm,.s h3.of,.i h3.n,.slice A3 m3 c3]) 15 ((hcs.block _ VV (by omega)).trans Y4.o) rfl (VW.o.hp (fun b hb=>⟨by have:=hb.1;omega,by have:=hb.2;simp;omega⟩) fun b hb=>hcs.block b (by have:=hb.2;omega) (by have:=hb.1;omega)) ⟨by omega,by simp;omega⟩
  ·rw[HF.o];exact eg NA.o Kt _ _ _ _ _ _ _ _
  ·exact bd Oi.o (.inr (Nat.le_refl _)) _ _ _ _ _ _ _ _
 |false=>
  have HF:Hid (I.dz C.text.size X st=I.cmp C.text.size X st):=by show _=_;unfold I.dz;exact I.lI ha
  have Ld:Hid (PS C st w1):=by have:=KL.o;rw[show(⟨#[110,111,116]⟩:ByteArray).data.toList=[110,111,116]from rfl,I.dT ha]at this;exact this
  clear ha;go_wp2_with fail
  with_reducible refine(HK.o.at st _ hn Ld.o).mono ?_
  rintro e w3 ⟨Oy,rfl,hx3,hp3,hc3⟩;have hs3:=hc3.size;obtain⟨h3,A3,m3,c3,Y1,rfl,hk3⟩:=aV hx3;have QA:=aa hx3;have Oh:=aa hp3;have Ov:=aa (KJ.o.trans hc3 (by omega));have HR3:=aa (HR1.o.ch hc3 (by omega) (by omega));clear hx3 hp3 hc3 hk3;unfold ai;have cj2:=HR3.o.Y8;simp at cj2;obtain⟨f0,f1,f2,f3,f4,f5,f6,f7⟩:=HR3.o.Z8;go_wp2_with fail
  refine bodyPost_ret (v:=.agg (ai h3 A3 m3 c3).toArray) (results_cell_row rfl _ _ w.heap.size 50 _ (0,0) _ rfl (aW HR3.o _ _ _ _ _ _ _ _) eK rfl cD) rfl ⟨_,rfl,?_,?_,?_⟩
  ·rw[HF.o];exact QA.o.hp (fun b hb=>⟨by have:=hb.1;omega,by simp;exact hb.2⟩) fun b hb=>(bd (Ch.refl w.heap.size w3.heap.size w3) (.inl rfl) _ _ _ _ _ _ _ _).block b hb.2 (by have:=hb.1;omega)
  ·rw[HF.o];exact eg Oh.o Kt _ _ _ _ _ _ _ _
  ·exact bd Ov.o (.inr (Nat.le_refl _)) _ _ _ _ _ _ _ _
theorem Ja(C:RC)(X:I.St→Ev.Ex×I.St)(n:Nat)(hK:dy C 256 #[.p C.g] (I.cmp C.text.size X) n):dy C 248 #[.p C.g] (I.dz C.text.size X) n:=by
 have:∀(m:Nat) (st:I.St) (w:World),st.r.length≤m→st.r.length≤n→PS C st w→Calls Tryz.prog 248 #[.p C.g] w (eY C w (I.dz C.text.size X st)):=by
  intro m;induction m with
  |zero=>exact fun st w hm hn h=>tu C X n hK st w hn h fun s1 w1 hl _=>absurd hl (by omega)
  |succ m ih=>exact fun st w hm hn h=>tu C X n hK st w hn h fun s1 w1 hl h1=>ih s1 w1 (by omega) (by omega) h1
 exact fun st w hn h=>this _ st w (Nat.le_refl _) hn h
end
end Go.Proofs.YtnicfobpclehkaaGreatDoor
