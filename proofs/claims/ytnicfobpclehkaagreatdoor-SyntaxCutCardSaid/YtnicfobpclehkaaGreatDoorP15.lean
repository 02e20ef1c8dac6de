import Derived.Lib.ParseIntB
import Derived.Lib.IndexMore
import Derived.Lib.ConvBytes
import Derived.Test.YtnicfobpclehkaaGreatDoorP8
set_option maxHeartbeats 3200000
set_option linter.unusedVariables false
set_option linter.unusedSimpArgs false
namespace Go.Proofs.YtnicfobpclehkaaGreatDoor
open Go.RowKit
section
set_option maxRecDepth 100000
theorem mL(C:RC)(N:FuncId)(hN:∀w:World,(callFunc N #[.pointer (some ⟨C.g,0,none⟩)]).run Tryz.prog w=.ok (.enter N #[.pointer (some ⟨C.g,0,none⟩)]) w)(kid:I.St→Ev.Ex×I.St)(hL:I.eZ kid)(n:Nat)(hK:fH C N #[.pointer (some ⟨C.g,0,none⟩)] kid n)
 (v:Value) (l:List (I.Bs×UInt8)) (hl0:∀s∈l,s.2≠0) (st:I.St) (w:World) (hn:st.r.length≤n) (h:PS C st w) (hl:Rr IP w (Pg C w) v l):
 Calls Tryz.prog 238 #[.pointer (some ⟨C.g,0,none⟩),.func (.func N) #[.pointer (some ⟨C.g,0,none⟩)] #[],v] w (ij C w (I.chain kid l st)):=by
 have NK:=h.lt;have HP:=cN h;have HL:=cN hl;have HK:=cN hK;have VL:=cN hL;have HL0:=cN hl0;clear h hl hK hL hl0;go_enter Tryz.func238,Tryz.ntmps238;go_wp2_with fail
 with_reducible refine(HK.o.at st _ hn (HP.o.alloc _)).mono ?_
 rintro e w1 ⟨cs1,rfl,hx1,hp1,hc1⟩;have hs1:=hc1.size;rw[dc]at hs1;have XN:w.heap.size≤w1.heap.size:=by omega
 obtain⟨h1,A1,m1,c1,UU,rfl,hk1⟩:=dC hx1;have Q0:=cN hx1;have Oa:=cN hp1;have Oh:=cN (((Ch.refl C.g w.heap.size w).alloc (aa _) _).trans hc1 (by simp));have HR1:=cN ((NA.new w _ _).ch hc1 (by simp) (by omega));have T5:=cN (VL.o st);clear hx1 hp1 hc1;unfold cT;go_wp2_with fail
 have hlt1:=Oa.o.lt;with_reducible refine(qk C v l (kid st).2 _ (Oa.o.alloc _) (HL.o.ch (Oh.o.alloc XN _))).mono ?_
 rintro e w2 ⟨rfl,hp2,hc2⟩;have hs2:=hc2.size;rw[dc]at hs2;have Ow:=cN hp2;have P7:=cN ((Oh.o.alloc XN _).trans hc2 (by rw[dc];omega));have HR2:=cN ((HR1.o.alloc _).ch hc2 (by rw[dc];omega) (by omega));have HE2:=cN ((NA.new w1 _ _).ch hc2 (by rw[dc];omega) (by omega));have Px:=cN (Q0.o.hp (P':=fun b=>w.heap.size<b∧b<w2.heap.size∧b≠w1.heap.size) (w':=w2) (fun b hb=>by have h1:=hb.1;have h2:=hb.2;rw[dc]at h1;exact⟨by omega,by omega,by omega⟩) (fun b hb=>by
  have h1:=hb.1
  have h2:=hb.2
  rw[dc]at h1
  exact(hc2.block b (by rw[dc];omega) (by omega)).trans (aL w1 _ b h2)))
 have Pf:Hid (I.chain kid l st=I.dy kid l ((kid st).2.r.length+1) (kid st).1 (kid st).2):=rfl;clear hp2 hc2 Q0 Oa Oh HR1;obtain⟨g7,T0⟩:∃g,g=w1.heap.size:=⟨_,rfl⟩;rw[←T0]at HE2 Px hs2⊢;have XO:w.heap.size<g7:=by omega
 clear T0;go_wp2_with fail
 go_loopg [8] (kid st).2.r.length (fun gg o wr=>∃(f:Nat) (e1:Ev.Ex) (s0:I.St) (cs:List Value),gg=s0.r.length∧s0.r.length≤n∧s0.r.length<f∧o=.int .u8 ((I.one l s0).1.toNat:Int)∧Hid (I.chain kid l st=I.dy kid l f e1 s0)∧Hid (XR wr (fun b=>w.heap.size<b∧b<wr.heap.size∧b≠g7) cs e1)∧Hid (NA wr g7 50 cs.toArray)∧Hid (NA wr w.heap.size 50 #[.int .u8 0,.int .u8 0,.int .i64 0,.string ⟨#[]⟩,.string ⟨#[]⟩,.string ⟨#[]⟩,.int .i64 0,.slice none 0 0])∧Hid (PS C (I.one l s0).2 wr)∧Hid (Ch C.g w.heap.size w wr));case atStart=>exact⟨_,_,_,_,rfl,aw T5.o hn,by omega,rfl,Pf,Px,HE2,HR2,Ow,P7⟩
 case round=>
  obtain⟨f,e1,s0,cs,rfl,hsn,T6,rfl,HF,HX,HE,HR,XP,HC⟩:=hrel;obtain⟨w5,Qc⟩:∃w5,w5=wr:=⟨_,rfl⟩;subst Qc;have hs5:=HC.o.size;have XA:=XP.o.lt;have hg75:=HE.o.lt;clear Pf Px HE2 HR2 Ow P7;obtain⟨h1,A1,m1,c1,UU,rfl,hk1⟩:=dC HX.o;have hol:=I.jz l s0;by_cases h0:(I.one l s0).1=0
  ·have t0:(((I.one l s0).1.toNat:Int) !=0)=false:=by simp[h0]
   have XQ:=cN (HF.o.trans (I.yU T6 h0));have HZ:=cN (I.rP l s0 HL0.o h0);obtain⟨x0,x1,x2,x3,x4,x5,x6,x7⟩:=HE.o.y8 0 1 2 3 4 5 6 7;simp[cT]at x0 x1 x2 x3 x4 x5 x6 x7;obtain⟨r0,r1,r2,r3,r4,r5,r6,r7⟩:=HR.o.y8 0 1 2 3 4 5 6 7;simp at r0 r1 r2 r3 r4 r5 r6 r7;obtain⟨f0,f1,f2,f3,f4,f5,f6,f7⟩:=HR.o.z8 0 1 2 3 4 5 6 7;clear h0 hol;go_wp2_with fail
   refine ae (v:=.agg (cT h1 A1 m1 c1).toArray) (av rfl _ _ w.heap.size 50 _ (0,0) _ rfl (eO HR.o _ _ _ _ _ _ _ _) hZ rfl fo) rfl ⟨cT h1 A1 m1 c1,rfl,?_,?_,?_⟩
   ·rw[XQ.o];exact HX.o.hp (fun b hb=>⟨by have:=hb.1;omega,by simp;exact hb.2.1⟩) fun b hb=>(ez (Ch.refl w.heap.size w5.heap.size w5) (.inl rfl) _ _ _ _ _ _ _ _).block b hb.2.1 (by have:=hb.1;omega)
   ·rw[XQ.o,←HZ.o];exact gz XP.o NK _ _ _ _ _ _ _ _
   ·exact ez HC.o (.inr (aa _)) _ _ _ _ _ _ _ _
  ·have t0:(((I.one l s0).1.toNat:Int) !=0)=true:=by simp;exact fun e=>h0 (aF.1 (by simpa using e))
   go_wp2_with fail
   have hlo:=hol.2 h0;have HS:=cN (I.xk (kid:=kid) (e:=e1) T6 h0);have HKL:=cN (VL.o (I.one l s0).2);obtain⟨x0,x1,x2,x3,x4,x5,x6,x7⟩:=HE.o.y8 0 1 2 3 4 5 6 7;simp[cT]at x0 x1 x2 x3 x4 x5 x6 x7;clear h0 hol;go_region_with ((with_reducible refine(HK.o.drew (I.one l s0).2 _ (by omega) XP.o).mono ?_);rintro e w6 ⟨Rc,rfl,hx6,SA,hc6⟩;obtain⟨h6,A6,m6,c6,ZC,rfl,U1⟩:=dC hx6;unfold cT;have RR:=cN hx6;have PE:=cN SA;have Qm:=cN hc6;have P6:=cN (HE.o.ch hc6 hg75 (by omega));have hs6:=hc6.size;have XT:g7<w6.heap.size:=(by omega);clear hx6 SA hc6;have y0:=P6.o.cell 0;have y1:=P6.o.cell 1;have y2:=P6.o.cell 2;have y3:=P6.o.cell 3;have y4:=P6.o.cell 4;have y5:=P6.o.cell 5;have y6:=P6.o.cell 6;have y7:=P6.o.cell 7;simp[cT]at y0 y1 y2 y3 y4 y5 y6 y7;have g0:=P6.o.frozen 0;have g1:=P6.o.frozen 1;have g2:=P6.o.frozen 2;have g3:=P6.o.frozen 3;have g4:=P6.o.frozen 4;have g5:=P6.o.frozen 5;have g6:=P6.o.frozen 6;have g7':=P6.o.frozen 7)
   all_goals
    go_wp2_with fail
    have hgC:C.g<g7:=by omega
    have HCt:=cN (HC.o.trans Qm.o hs5)
    with_reducible refine(qk C v l (kid (I.one l s0).2).2 _ ((gz PE.o hgC _ _ _ _ _ _ _ _).alloc _) (HL.o.ch ((ez HCt.o (.inr (Nat.le_of_lt XO)) _ _ _ _ _ _ _ _).alloc (by simp;omega) _))).mono ?_
    rintro e w7 ⟨rfl,U2,RG⟩
    have hs7:=RG.size
    simp at hs7
    have hsame:∀b,b<w6.heap.size→b≠C.g→b≠g7→w7.heap[b]?=w6.heap[b]?:=fun b h1 h2 h3=>(RG.block b (by simp;omega) h2).trans ((aL _ _ b (by simp;omega)).trans ((ez (Ch.refl g7 w6.heap.size w6) (.inl rfl) _ _ _ _ _ _ _ _).block b h1 h3))
    have hbk:=(NA.new _ _ _).ch RG (by simp) (by simp;omega)
    simp at hbk
    have S9:=((eO P6.o _ _ _ _ _ _ _ _).alloc _).ch RG (by simp;omega) (by omega)
    have HN:=cN (DZ (P:=fun b=>w.heap.size<b∧b<w7.heap.size∧b≠g7) (I.one l s0).1 hbk rfl
     (HX.o.hp (fun b hb=>⟨hb.1,by have:=hb.2.1;omega,hb.2.2⟩) fun b hb=>(hsame b (by have:=hb.2.1;omega) (by have:=hb.1;omega) hb.2.2).trans (Qm.o.block b hb.2.1 (by have:=hb.1;omega)))
     (RR.o.hp (fun b hb=>⟨by have:=hb.1;omega,by have:=hb.2;omega,by have:=hb.1;omega⟩) fun b hb=>hsame b hb.2 (by have:=hb.1;omega) (by have:=hb.1;omega)) ⟨by omega,by omega,by omega⟩)
    have U3:=cN S9
    have QA:=cN U2
    have Ob:=HR.o.ch Qm.o (show w.heap.size<w5.heap.size by omega) (by omega)
    have Ta:Hid (NA w7 w.heap.size 50 #[.int .u8 0,.int .u8 0,.int .i64 0,.string ⟨#[]⟩,.string ⟨#[]⟩,.string ⟨#[]⟩,.int .i64 0,.slice none 0 0]):=cN ((hsame w.heap.size (by omega) (by omega) (by omega)).trans Ob)
    have T8:=cN (((ez HCt.o (.inr (Nat.le_of_lt XO)) _ _ _ _ _ _ _ _).alloc (by simp;omega) _).trans RG (by simp;omega))
    have VG:=cN (HF.o.trans HS.o)
    have hlk:=HKL.o
    clear hbk S9 U2 RG hsame Ob x0 x1 x2 x3 x4 x5 x6 x7 y0 y1 y2 y3 y4 y5 y6 y7 g0 g1 g2 g3 g4 g5 g6 g7'
    go_wp2_with fail
    go_roundg (kid (I.one l s0).2).2.r.length
    case measure=>omega
    case rel=>exact⟨f-1,_,_,_,rfl,by omega,by omega,rfl,VG,HN,U3,Ta,QA,T8⟩
end
section
namespace I
open Ev (Ex)
theorem dq(st:St):(next st).r.length≤st.r.length:=by unfold next;simp
theorem gZ{s:Bs}{st:St}(h:dh s st=true):(next st).r.length<st.r.length:=by
 have:=oR h;cases hr:st.r with
 |nil=>exact absurd hr this
 |cons t r=>simp[next,hr]
theorem j6(T e:Nat)(st:St):(fail T e st).r.length≤st.r.length:=by unfold fail;split<;>simp
theorem iJ(T e:Nat)(st:St):(fail T e st).r=[]:=by unfold fail;split<;>rfl
theorem eH(T:Nat):∀(l:List Bs) (st:St),(expect T l st).r.length≤st.r.length:=by
 intro l;induction l with
 |nil=>intro st;exact aa _
 |cons s l ih=>
  intro st;unfold expect;split
  ·exact aw (ih _) (dq st)
  ·exact j6 T 300 st
theorem nT(T:Nat):∀(l:List Bs) (i:Nat) (st:St),(choose T i l st).2.r.length≤st.r.length:=by
 intro l;induction l with
 |nil=>intro i st;exact j6 T 300 st
 |cons s l ih=>
  intro i st;unfold choose;split
  ·exact dq st
  ·exact ih _ _
theorem gC(T:Nat):eZ (name T):=by
 intro st;unfold name;split
 ·exact j6 T 300 st
 ·split
  ·exact dq st
  ·exact j6 T 300 st
theorem ko{α:Type}{T:Nat}{part:St→α×St}(h:eZ part):eZ (inside T part):=by
 intro st;unfold inside;exact aw (eH T _ _) (aw (h _) (eH T _ _))
theorem zb{kid:St→Ex×St}(h:eZ kid)(l:List (Bs×UInt8)):∀(f:Nat) (e:Ex) (st:St),(dy kid l f e st).2.r.length≤st.r.length:=by
 intro f;induction f with
 |zero=>intro e st;exact aa _
 |succ f ih=>
  intro e st;unfold dy;split
  ·exact aa _
  ·exact aw (ih _ _) (aw (h _) (jz l st).1)
theorem ln{kid:St→Ex×St}(h:eZ kid)(l:List (Bs×UInt8)):eZ (chain kid l):=by
 intro st;unfold chain;exact aw (zb h l _ _ _) (h st)
theorem sj{s:Bs}{o:UInt8}{Y:St→Ex×St}(h:eZ Y):∀(f:Nat),eZ (again s o Y f):=by
 intro f;induction f with
 |zero=>exact h
 |succ f ih=>
  intro st;unfold again;split
  ·exact aw (ih _) (dq st)
  ·exact h st
theorem oa(T:Nat):eZ (literal T):=by
 intro st;unfold literal;split
 ·exact dq st
 ·split
  ·exact dq st
  ·split
   ·split
    ·exact dq st
    ·exact aw (dq _) (j6 T 271 st)
   ·exact dq st
theorem p0(T:Nat):eZ (dT T):=by
 intro st;unfold dT;split
 ·exact aw (gC T _) (aw (dq _) (gC T st))
 ·exact gC T st
theorem Dn{T:Nat}{X:St→Ex×St}(h:eZ X)(op:UInt8):eZ (fold T X op):=by
 unfold fold;refine ko fun st=>?_
 show(if _ then _ else _:Ex×St).2.r.length≤_;split
 ·exact dq st
 ·exact h st
theorem vn{T:Nat}{X:St→Ex×St}(h:eZ X):eZ (dm T X):=by
 intro st;unfold dm;repeat' split
 ·exact oa T st
 ·exact ko h st
 ·exact dq st
 ·exact dq st
 ·exact dq st
 ·exact dq st
 ·exact p0 T st
 ·exact aw (Dn h (one iN st).1 (one iN st).2) (jz iN st).1
theorem rC{T:Nat}{X:St→Ex×St}(h:eZ X):eZ (unary T X):=by
 intro st;unfold unary;exact sj (vn h) st.r.length st
theorem tD{T:Nat}{X:St→Ex×St}(h:eZ X):eZ (prod T X):=ln (rC h) _
theorem ra{T:Nat}{X:St→Ex×St}(h:eZ X):eZ (sum T X):=ln (tD h) _
theorem Ez(T:Nat)(e:Ex):eZ (RP T e):=by
 intro st;unfold RP;split
 ·exact aw (eH T _ _) (dq st)
 ·exact eH T _ _
theorem Et{T:Nat}{X:St→Ex×St}(h:eZ (sum T X))(e:Ex)(st:St):(j4 T X e st).2.r.length≤st.r.length:=by
 unfold j4;by_cases h0:(one il st).1=0
 ·rw[if_pos h0];by_cases h1:dh [105,115] st=true
  ·rw[if_pos h1];exact aw (Ez T e (next st)) (dq st)
  ·rw[if_neg h1];exact aa _
 ·rw[if_neg h0];exact aw (h (one il st).2) (jz il st).1
theorem Hw{T:Nat}{X:St→Ex×St}(h:eZ X):eZ (cmp T X):=by
 intro st;have h1:=Et (T:=T) (X:=X) (ra h) (sum T X st).1 (sum T X st).2;have h2:=ra (T:=T) h st;unfold cmp;exact aw h1 h2
theorem wC{T:Nat}{X:St→Ex×St}(h:eZ X):eZ (jt T X):=by
 intro st;unfold jt;exact sj (Hw h) st.r.length st
theorem xL{T:Nat}{X:St→Ex×St}(h:eZ X):eZ (oo T X):=ln (wC h) _
theorem I8{T:Nat}{X:St→Ex×St}(h:eZ X):eZ (Sw T X):=ln (xL h) _
theorem wv(T:Nat):∀n,eZ (Pw T n):=by
 intro n;induction n with
 |zero=>
  intro st;rw[Pw];exact aa _
 |succ n ih=>
  intro st;rw[Pw];exact I8 ih st
theorem tR{s:Bs}{o:UInt8}{Y:St→Ex×St}{st:St}(h:dh s st=true):again s o Y st.r.length st=(un o (again s o Y (next st).r.length (next st)).1,(again s o Y (next st).r.length (next st)).2):=by
 have hp:=oR h;cases hr:st.r with
 |nil=>exact absurd hr hp
 |cons t r=>
  have e:(next st).r.length=r.length:=by simp[next,hr]
  rw[e,ab];rw[again];rw[if_pos h]
theorem xW{s:Bs}{o:UInt8}{Y:St→Ex×St}{st:St}(h:dh s st=false):again s o Y st.r.length st=Y st:=by
 cases hr:st.r.length with
 |zero=>rfl
 |succ n=>rw[again,if_neg (by rw[h];decide)]
end I
end
section
set_option maxRecDepth 100000
theorem Kq(C:RC)(X:I.St→Ev.Ex×I.St)(hX:I.eZ X)(n:Nat)(hK:fH C 281 #[.pointer (some ⟨C.g,0,none⟩)] (I.unary C.text.size X) n):fH C 275 #[.pointer (some ⟨C.g,0,none⟩)] (I.prod C.text.size X) n:=by
 intro st w hn h;have NK:=h.lt;have HP:=cN h;have HK:=cN hK;have HX:=cN hX;clear h hK hX;go_enter Tryz.func275,Tryz.ntmps275;go_wp2_with fail
 with_reducible refine(mL C 281 (fun w=>by simp[go_sem]) (I.unary C.text.size X) (I.rC HX.o) n HK.o _ [([42],6)] (by decide) st _ hn ((HP.o.alloc _).alloc _) (kK (C:=C) (n:=1) (cells:=#[.string ⟨#[42]⟩,.int .u8 6]) (NA.oK _ _ _ _) rfl (by omega) rfl (by decide))).mono ?_
 rintro e w1 ⟨cs1,rfl,hx1,hp1,hc1⟩;have hs1:=hc1.size;simp at hs1;obtain⟨h1,A1,m1,c1,UU,rfl,hk1⟩:=dC hx1;have Q0:=cN hx1;have Oa:=cN hp1;have Oh:=cN ((((Ch.refl C.g w.heap.size w).alloc (aa _) _).alloc (by simp) _).trans hc1 (by simp;omega));have HR1:=cN (((NA.new w _ _).alloc _).ch hc1 (by simp;omega) (by omega));clear hx1 hp1 hc1;unfold cT;obtain⟨r0,r1,r2,r3,r4,r5,r6,r7⟩:=HR1.o.y8 0 1 2 3 4 5 6 7;simp at r0 r1 r2 r3 r4 r5 r6 r7;obtain⟨f0,f1,f2,f3,f4,f5,f6,f7⟩:=HR1.o.z8 0 1 2 3 4 5 6 7;go_wp2_with fail
 refine ae (v:=.agg (cT h1 A1 m1 c1).toArray) (av rfl _ _ w.heap.size 50 _ (0,0) _ rfl (eO HR1.o _ _ _ _ _ _ _ _) hZ rfl fo) rfl ⟨cT h1 A1 m1 c1,rfl,?_,gz Oa.o NK _ _ _ _ _ _ _ _,ez Oh.o (.inr (aa _)) _ _ _ _ _ _ _ _⟩;exact Q0.o.hp (fun b hb=>⟨by have:=hb.1;simp at this;omega,by simp;exact hb.2⟩) fun b hb=>(ez (Ch.refl w.heap.size w1.heap.size w1) (.inl rfl) _ _ _ _ _ _ _ _).block b hb.2 (by have:=hb.1;simp at this;omega)
theorem KQ(C:RC)(X:I.St→Ev.Ex×I.St)(hX:I.eZ X)(n:Nat)(hK:fH C 275 #[.pointer (some ⟨C.g,0,none⟩)] (I.prod C.text.size X) n):fH C 266 #[.pointer (some ⟨C.g,0,none⟩)] (I.sum C.text.size X) n:=by
 intro st w hn h;have NK:=h.lt;have HP:=cN h;have HK:=cN hK;have HX:=cN hX;clear h hK hX;go_enter Tryz.func266,Tryz.ntmps266;go_wp2_with fail
 with_reducible refine(mL C 275 (fun w=>by simp[go_sem]) (I.prod C.text.size X) (I.tD HX.o) n HK.o _ [([43],4),([45],5)] (by decide) st _ hn ((HP.o.alloc _).alloc _) (kK (C:=C) (n:=2) (cells:=#[.string ⟨#[43]⟩,.int .u8 4,.string ⟨#[45]⟩,.int .u8 5]) (NA.oK _ _ _ _) rfl (by omega) rfl (by decide))).mono ?_
 rintro e w1 ⟨cs1,rfl,hx1,hp1,hc1⟩;have hs1:=hc1.size;simp at hs1;obtain⟨h1,A1,m1,c1,UU,rfl,hk1⟩:=dC hx1;have Q0:=cN hx1;have Oa:=cN hp1;have Oh:=cN ((((Ch.refl C.g w.heap.size w).alloc (aa _) _).alloc (by simp) _).trans hc1 (by simp;omega));have HR1:=cN (((NA.new w _ _).alloc _).ch hc1 (by simp;omega) (by omega));clear hx1 hp1 hc1;unfold cT;obtain⟨r0,r1,r2,r3,r4,r5,r6,r7⟩:=HR1.o.y8 0 1 2 3 4 5 6 7;simp at r0 r1 r2 r3 r4 r5 r6 r7;obtain⟨f0,f1,f2,f3,f4,f5,f6,f7⟩:=HR1.o.z8 0 1 2 3 4 5 6 7;go_wp2_with fail
 refine ae (v:=.agg (cT h1 A1 m1 c1).toArray) (av rfl _ _ w.heap.size 50 _ (0,0) _ rfl (eO HR1.o _ _ _ _ _ _ _ _) hZ rfl fo) rfl ⟨cT h1 A1 m1 c1,rfl,?_,gz Oa.o NK _ _ _ _ _ _ _ _,ez Oh.o (.inr (aa _)) _ _ _ _ _ _ _ _⟩;exact Q0.o.hp (fun b hb=>⟨by have:=hb.1;simp at this;omega,by simp;exact hb.2⟩) fun b hb=>(ez (Ch.refl w.heap.size w1.heap.size w1) (.inl rfl) _ _ _ _ _ _ _ _).block b hb.2 (by have:=hb.1;simp at this;omega)
theorem LB(C:RC)(X:I.St→Ev.Ex×I.St)(hX:I.eZ X)(n:Nat)(hK:fH C 248 #[.pointer (some ⟨C.g,0,none⟩)] (I.jt C.text.size X) n):fH C 239 #[.pointer (some ⟨C.g,0,none⟩)] (I.oo C.text.size X) n:=by
 intro st w hn h;have NK:=h.lt;have HP:=cN h;have HK:=cN hK;have HX:=cN hX;clear h hK hX;go_enter Tryz.func239,Tryz.ntmps239;go_wp2_with fail
 with_reducible refine(mL C 248 (fun w=>by simp[go_sem]) (I.jt C.text.size X) (I.wC HX.o) n HK.o _ [([97,110,100],13)] (by decide) st _ hn ((HP.o.alloc _).alloc _) (kK (C:=C) (n:=1) (cells:=#[.string ⟨#[97,110,100]⟩,.int .u8 13]) (NA.oK _ _ _ _) rfl (by omega) rfl (by decide))).mono ?_
 rintro e w1 ⟨cs1,rfl,hx1,hp1,hc1⟩;have hs1:=hc1.size;simp at hs1;obtain⟨h1,A1,m1,c1,UU,rfl,hk1⟩:=dC hx1;have Q0:=cN hx1;have Oa:=cN hp1;have Oh:=cN ((((Ch.refl C.g w.heap.size w).alloc (aa _) _).alloc (by simp) _).trans hc1 (by simp;omega));have HR1:=cN (((NA.new w _ _).alloc _).ch hc1 (by simp;omega) (by omega));clear hx1 hp1 hc1;unfold cT;obtain⟨r0,r1,r2,r3,r4,r5,r6,r7⟩:=HR1.o.y8 0 1 2 3 4 5 6 7;simp at r0 r1 r2 r3 r4 r5 r6 r7;obtain⟨f0,f1,f2,f3,f4,f5,f6,f7⟩:=HR1.o.z8 0 1 2 3 4 5 6 7;go_wp2_with fail
 refine ae (v:=.agg (cT h1 A1 m1 c1).toArray) (av rfl _ _ w.heap.size 50 _ (0,0) _ rfl (eO HR1.o _ _ _ _ _ _ _ _) hZ rfl fo) rfl ⟨cT h1 A1 m1 c1,rfl,?_,gz Oa.o NK _ _ _ _ _ _ _ _,ez Oh.o (.inr (aa _)) _ _ _ _ _ _ _ _⟩;exact Q0.o.hp (fun b hb=>⟨by have:=hb.1;simp at this;omega,by simp;exact hb.2⟩) fun b hb=>(ez (Ch.refl w.heap.size w1.heap.size w1) (.inl rfl) _ _ _ _ _ _ _ _).block b hb.2 (by have:=hb.1;simp at this;omega)
theorem Np(C:RC)(X:I.St→Ev.Ex×I.St)(hX:I.eZ X)(n:Nat)(hK:fH C 239 #[.pointer (some ⟨C.g,0,none⟩)] (I.oo C.text.size X) n):fH C 206 #[.pointer (some ⟨C.g,0,none⟩)] (I.Sw C.text.size X) n:=by
 intro st w hn h;have NK:=h.lt;have HP:=cN h;have HK:=cN hK;have HX:=cN hX;clear h hK hX;go_enter Tryz.func206,Tryz.ntmps206;go_wp2_with fail
 with_reducible refine(mL C 239 (fun w=>by simp[go_sem]) (I.oo C.text.size X) (I.xL HX.o) n HK.o _ [([111,114],14)] (by decide) st _ hn ((HP.o.alloc _).alloc _) (kK (C:=C) (n:=1) (cells:=#[.string ⟨#[111,114]⟩,.int .u8 14]) (NA.oK _ _ _ _) rfl (by omega) rfl (by decide))).mono ?_
 rintro e w1 ⟨cs1,rfl,hx1,hp1,hc1⟩;have hs1:=hc1.size;simp at hs1;obtain⟨h1,A1,m1,c1,UU,rfl,hk1⟩:=dC hx1;have Q0:=cN hx1;have Oa:=cN hp1;have Oh:=cN ((((Ch.refl C.g w.heap.size w).alloc (aa _) _).alloc (by simp) _).trans hc1 (by simp;omega));have HR1:=cN (((NA.new w _ _).alloc _).ch hc1 (by simp;omega) (by omega));clear hx1 hp1 hc1;unfold cT;obtain⟨r0,r1,r2,r3,r4,r5,r6,r7⟩:=HR1.o.y8 0 1 2 3 4 5 6 7;simp at r0 r1 r2 r3 r4 r5 r6 r7;obtain⟨f0,f1,f2,f3,f4,f5,f6,f7⟩:=HR1.o.z8 0 1 2 3 4 5 6 7;go_wp2_with fail
 refine ae (v:=.agg (cT h1 A1 m1 c1).toArray) (av rfl _ _ w.heap.size 50 _ (0,0) _ rfl (eO HR1.o _ _ _ _ _ _ _ _) hZ rfl fo) rfl ⟨cT h1 A1 m1 c1,rfl,?_,gz Oa.o NK _ _ _ _ _ _ _ _,ez Oh.o (.inr (aa _)) _ _ _ _ _ _ _ _⟩;exact Q0.o.hp (fun b hb=>⟨by have:=hb.1;simp at this;omega,by simp;exact hb.2⟩) fun b hb=>(ez (Ch.refl w.heap.size w1.heap.size w1) (.inl rfl) _ _ _ _ _ _ _ _).block b hb.2 (by have:=hb.1;simp at this;omega)
end
section
namespace I
open Go
def wf(n:Nat)(l:Bs):Nat:=l.foldl (fun n c=>n*10+(c.toNat-48)) n
theorem MR:∀(l:Bs) (n:Nat),n≤wf n l:=by
 intro l;induction l with
 |nil=>intro n;exact aa _
 |cons c l ih=>
  intro n;have:=ih (n*10+(c.toNat-48));show n≤wf (n*10+(c.toNat-48)) l;omega
theorem Lu:∀(l:Bs) (n:Nat),(∀c∈l,Lex.digit c=true)→n≤18446744073709551615→Lib.parseUintM 18446744073709551615 n l=if wf n l≤18446744073709551615 then .ok (wf n l)else .range:=by
 intro l;induction l with
 |nil=>intro n _ h;rw[Lib.parseUintM,if_pos (by exact h)];rfl
 |cons c l ih=>
  intro n hd hn;have hc:48≤c.toNat∧c.toNat≤57:=by simpa[Lex.digit]using hd c ag
  rw[Lib.parseUintM,if_pos hc];have hge:=MR l (n*10+(c.toNat-48));have e:wf n (c::l)=wf (n*10+(c.toNat-48)) l:=rfl;rw[e];by_cases h1:1844674407370955162≤n
  ·rw[if_pos h1,if_neg (by omega)]
  ·rw[if_neg h1];by_cases h2:18446744073709551615<n*10+(c.toNat-48)
   ·rw[if_pos h2,if_neg (by omega)]
   ·rw[if_neg h2];exact ih _ (fun c hc=>hd c (au _ hc)) (by omega)
theorem zT:∀(l:Bs) (n:Nat),(46:UInt8)∈l→∀u,Lib.parseUintM 18446744073709551615 n l≠ .ok u:=by
 intro l;induction l with
 |nil=>intro n h;cases h
 |cons c l ih=>
  intro n h u;rw[Lib.parseUintM];by_cases hc:48≤c.toNat∧c.toNat≤57
  ·rw[if_pos hc];have hne:c≠46:=fun e=>by rw[e]at hc;exact absurd hc (by decide)
   have hm:(46:UInt8)∈l:=by
    rcases af.1 h with e|e
    ·exact absurd e.symm hne
    ·exact e
   split
   ·simp
   ·split
    ·simp
    ·exact ih _ hm u
  ·rw[if_neg hc];simp
def oA(l:Bs):Int×Nat:=match Lib.parseIntB 64 l with
 | .ok v=>(v,0)
 |_=>(0,271)
theorem pX{l:Bs}(h0:l≠[])(hd:∀c∈l,Lex.digit c=true):oA l=fR l:=by
 cases l with
 |nil=>exact absurd rfl h0
 |cons c r=>
  have hc:48≤c.toNat∧c.toNat≤57:=by simpa[Lex.digit]using hd c ag
  unfold oA fR Lib.parseIntB;simp only;rw[if_neg (by omega)];unfold Lib.parseUintB;rw[if_neg (by simp),show 2^64-1=18446744073709551615 from rfl,Lu _ 0 hd (by omega)];have e:wf 0 (c::r)=ef (c::r):=rfl;rw[e];by_cases h1:ef (c::r)≤18446744073709551615
  ·rw[if_pos h1];simp only;by_cases h2:ef (c::r)≤9223372036854775807
   ·rw[if_neg (by rintro⟨-,h⟩;rw[show 2^(64-1)=9223372036854775808 from rfl]at h;omega),if_neg (by rintro⟨h,-⟩;omega),if_neg (by omega),if_pos h2]
   ·rw[if_pos ⟨by omega,by rw[show 2^(64-1)=9223372036854775808 from rfl];omega⟩,if_neg h2]
  ·rw[if_neg h1,if_neg (by omega)]
theorem Hz{l:Bs}(h0:∃c r,l=c::r∧Lex.digit c=true)(hd:(46:UInt8)∈l):oA l=(0,271):=by
 obtain⟨c,r,rfl,hc⟩:=h0;have hc':48≤c.toNat∧c.toNat≤57:=by simpa[Lex.digit]using hc
 unfold oA Lib.parseIntB;simp only;rw[if_neg (by omega)];unfold Lib.parseUintB;rw[if_neg (by simp),show 2^64-1=18446744073709551615 from rfl];have:=zT (c::r) 0 hd;cases hp:Lib.parseUintM 18446744073709551615 0 (c::r)with
 |ok u=>exact absurd hp (this u)
 |_=>rfl
theorem Gk:∀l:Bs,(Lib.index l [46]= -1∧cut l=(l,none))∨∃i:Nat,Lib.index l [46]=i∧cut l=(l.take i,some (l.drop (i+1))):=by
 intro l;induction l with
 |nil=>exact .inl ⟨by rfl,rfl⟩
 |cons b l ih=>
  by_cases hb:b=46
  ·subst hb;exact .inr ⟨0,by simp[Lib.index,List.isPrefixOf],by simp[cut]⟩
  ·have e:Lib.index (b::l) [46]=if Lib.index l [46]== -1 then -1 else Lib.index l [46]+1:=by
    conv=>lhs;unfold Lib.index
    rw[if_neg];simp[List.isPrefixOf];exact fun h=>hb h.symm
   rcases ih with⟨h1,h2⟩|⟨i,h1,h2⟩
   ·refine .inl ⟨by rw[e,h1];rfl,?_⟩;simp only[cut];rw[if_neg hb,h2]
   ·refine .inr ⟨i+1,?_,?_⟩
    ·rw[e,h1,if_neg (by simp)];omega
    ·simp only[cut];rw[if_neg hb,h2];simp
theorem Mc(l:Bs):Lib.cut l [46]=((cut l).1,((cut l).2).getD [],((cut l).2).isSome):=by
 unfold Lib.cut;rcases Gk l with⟨h1,h2⟩|⟨i,h1,h2⟩
 ·rw[h1,if_neg (by omega),h2];rfl
 ·rw[h1,if_pos (by omega),h2];simp
theorem sK{l:Bs}(h:∀c∈l,Lex.digit c=true):cut l=(l,none):=by
 induction l with
 |nil=>rfl
 |cons c l ih=>
  have hc:=h c ag;simp only[cut];rw[if_neg (fun e=>by rw[e]at hc;exact absurd hc (by decide)),ih fun c hc=>h c (au _ hc)]
theorem tY{a b:Bs}(h:∀c∈a,Lex.digit c=true):cut (a++46::b)=(a,some b):=by
 induction a with
 |nil=>simp[cut]
 |cons c a ih=>
  have hc:=h c ag;simp only[List.cons_append,cut];rw[if_neg (fun e=>by rw[e]at hc;exact absurd hc (by decide)),ih fun c hc=>h c (au _ hc)]
theorem wV{s:Bs}(h:Lex.mq s):(fq s).1≠[]∧(∀c∈(fq s).1,Lex.digit c=true)∧(∀b,(cut s).2=some b→1≤b.length∧b.length≤4):=by
 obtain⟨a,b,ha,QC,U4,⟨rfl,rfl⟩|⟨rfl,h1,h2⟩⟩:=h
 ·unfold fq;rw[sK QC];exact⟨ha,QC,fun b h=>by cases h⟩
 ·unfold fq;rw[tY QC];refine⟨by simp[ha],fun c hc=>?_,fun b' h=>by injection h with h;rw[←h];exact⟨h1,h2⟩⟩;rcases aM.1 hc with hc|hc
  ·exact QC c hc
  ·have:=List.mem_of_mem_take hc;rcases aM.1 this with hc|hc
   ·exact U4 c hc
   ·simp at hc;rcases hc with rfl
    decide
theorem J8{s:Bs}(h:Lex.mq s):oA s=kh s:=by
 obtain⟨a,b,ha,QC,U4,⟨rfl,rfl⟩|⟨rfl,h1,h2⟩⟩:=h
 ·unfold kh;rw[sK QC,if_pos rfl];exact pX ha QC
 ·unfold kh;rw[tY QC,if_neg (by simp)];refine Hz ?_ (by simp);cases a with
  |nil=>exact absurd rfl ha
  |cons c a=>exact⟨c,_,rfl,QC c ag⟩
end I
end
section
set_option maxRecDepth 100000
def qj(C:RC)(w:World)(l:I.Bs)(st:I.St)(e:Ending)(w':World):Prop:=e=.returned (.int .i64 (I.oA l).1)∧PS C (if(I.oA l).2=0 then st else I.fail C.text.size 271 st) w'∧Ch C.g w.heap.size w w'∧((I.oA l).2≠0→PB C (I.fail C.text.size 271 st) w' C.ts.length)
theorem mg(C:RC)(s:ByteArray)(st:I.St)(w:World)(h:PS C st w)(hs:s.size≤281474976710656):
 Calls Tryz.prog 240 #[.pointer (some ⟨C.g,0,none⟩),.string s] w (qj C w s.data.toList st):=by
 have NK:=h.lt;have HP:=cN h;obtain⟨m,te,pe,tf,pf,hm,h4,h5⟩:=h.2.2;have H4:=cN h4;have H5:=cN h5;clear h hm h4 h5;go_enter Tryz.func240,Tryz.ntmps240;go_wp2_with fail
 cases hq:Lib.parseIntB 64 s.data.toList with
 |ok v=>
  have HI:Hid (I.oA s.data.toList=(v,0)):=by show _=_;unfold I.oA;rw[hq]
  have HQ:=cN hq;clear hq;with_reducible refine(Tryz.strconv_ParseInt_10_at64_ok s (by omega) v HQ.o _).mono ?_
  rintro e w1 ⟨rfl,hw⟩;have hb:Below w.heap.size w w1:=by
   rcases hw with rfl|⟨t,rfl⟩
   ·exact ax _ _
   ·exact Lib.bytesWorld_below _ _ _
  have Oa:=cN (HP.o.below hb NK);have Oh:=cN ((Ch.refl C.g w.heap.size w).below hb (aa _));clear hw hb;go_wp2_with fail
  go_ret;unfold qj;exact⟨by rw[HI.o]<;>rfl,by rw[HI.o];exact Oa.o,Oh.o,fun h=>absurd (by rw[HI.o]) h⟩
 |_=>
  have HI:Hid (I.oA s.data.toList=(0,271)):=by show _=_;unfold I.oA;rw[hq]
  have HQ:=cN hq;clear hq;first
   |(with_reducible refine(Tryz.strconv_ParseInt_10_at64_syntax s hs HQ.o _ _ H4.o (.inr ⟨_,_,rfl⟩)).mono ?_)
   |(with_reducible refine(Tryz.strconv_ParseInt_10_at64_range s hs HQ.o _ _ H5.o (.inr ⟨_,_,rfl⟩)).mono ?_)
  rintro e w1 ⟨N,rfl,hN,hblk,hb⟩;have Oa:=cN (HP.o.below hb NK);have Oh:=cN ((Ch.refl C.g w.heap.size w).below hb (aa _));have hs1:=hb.size;clear hN hblk hb;go_wp2_with fail
  with_reducible refine(uD C 271 271 st _ Oa.o rfl).mono ?_
  rintro e w2 ⟨rfl,hp,hc,hpb⟩;have HB2:=cN hpb;have Ow:=cN hp;have P7:=cN (Oh.o.trans hc hs1);clear hp hc hpb;go_wp2_with fail
  go_ret;unfold qj;exact⟨by rw[HI.o]<;>rfl,by rw[HI.o,if_neg (by decide)];exact Ow.o,P7.o,fun _=>HB2.o⟩
end
end Go.Proofs.YtnicfobpclehkaaGreatDoor
