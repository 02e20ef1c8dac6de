import Derived.Deep.MidRow
import Derived.Test.YtnicfobpclehkaaGreatDoorP12
set_option maxHeartbeats 3200000
set_option linter.unusedVariables false
set_option linter.unusedSimpArgs false
namespace Go.Proofs.YtnicfobpclehkaaGreatDoor
open Go.RowKit
section
set_option maxRecDepth 100000
theorem IT(C:RC)(X:I.St→Ev.Ex×I.St)(hX:I.ct X)(n:Nat)(hK:dy C 266 #[.p C.g] (I.sum C.text.size X) n):dy C 256 #[.p C.g] (I.cmp C.text.size X) n:=by
 intro st w hn h;have Kt:=h.lt;have HP:=aa h;have HK:=aa hK;have hsl:=I.nR (T:=C.text.size) hX st;clear h hK hX;go_enter Tryz.func256,Tryz.ntmps256;go_wp2_with fail
 with_reducible refine(HK.o.at st _ hn (HP.o.alloc _)).mono ?_
 rintro e w1 ⟨cs1,rfl,hx1,hp1,hc1⟩;rw[ay]at hx1;have hs1:=hc1.size;rw[ay]at hs1;obtain⟨h1,A1,m1,c1,SW,rfl,hk1⟩:=aV hx1;obtain⟨r1,hr1⟩:=aab (I.sum C.text.size X st);obtain⟨xe,s1⟩:=r1;rw[←hr1]at hx1 hp1 hsl;have NC:=aa hr1;simp only at hx1 hp1 hsl;have PO:=aa hx1;have KL:=aa hp1;have KJ:=aa (((Ch.refl C.g w.heap.size w).alloc (Nat.le_refl _) _).trans hc1 (by simp));have HR1:=aa ((Kn.new w _ _).ch hc1 (by simp) (by omega));clear hx1 hp1 hc1 hk1 hr1;unfold ai;go_wp2_with fail
 have hlt1:=KL.o.lt;with_reducible refine(nD C _ [([61],7),([60,62],8),([60],9),([60,61],10),([62],11),([62,61],12)] s1 _ ((KL.o.alloc _).alloc _) (iS (C:=C) (n:=6) (cells:=#[.s ⟨#[61]⟩,.u 7,.s ⟨#[60,62]⟩,.u 8,.s ⟨#[60]⟩,.u 9,.s ⟨#[60,61]⟩,.u 10,.s ⟨#[62]⟩,.u 11,.s ⟨#[62,61]⟩,.u 12]) (Kn.mD _ _ _ _) rfl (by omega) rfl (by decide))).mono ?_
 rintro e w2 ⟨rfl,hp2,hc2⟩;have hs2:=hc2.size;simp at hs2;have Ld:=aa hp2;have Ms:=aa (((KJ.o.alloc (by omega) _).alloc (by simp;omega) _).trans hc2 (by simp;omega));have HR2:=aa (((HR1.o.alloc _).alloc _).ch hc2 (by simp;omega) (by omega));have HE2:=aa (((Kn.new w1 _ _).alloc _).ch hc2 (by simp;omega) (by omega));have NO:=aa (PO.o.hp (w':=w2) (fun _ h=>h) (fun b hb=>by
  have h1:=hb.1
  have h2:=hb.2
  exact(hc2.block b (by simp;omega) (by omega)).trans ((Below.heap_alloc _ _ b (by simp;omega)).trans (Below.heap_alloc w1 _ b h2))))
 clear hp2 hc2;obtain⟨g3,hg3⟩:=aab w1.heap.size;rw[←hg3]at HE2 NO hs2⊢;have YU:w.heap.size<g3:=by omega
 have Zc:g3<w2.heap.size:=by omega
 clear hg3;have hol:=I.gj [([61],7),([60,62],8),([60],9),([60,61],10),([62],11),([62,61],12)] s1;by_cases h0:(I.one [([61],7),([60,62],8),([60],9),([60,61],10),([62],11),([62,61],12)] s1).1=0
 ·have HZ:Hid (I.one [([61],7),([60,62],8),([60],9),([60,61],10),([62],11),([62,61],12)] s1=(0,s1)):=by have h2:=I.oC [([61],7),([60,62],8),([60],9),([60,61],10),([62],11),([62,61],12)] s1 (by decide) h0;exact aa (Prod.ext h0 h2)
  rw[HZ.o]at Ld⊢;simp only at Ld⊢;have LA:Hid (I.cmp C.text.size X st=(if I.ae [105,115] s1=true then I.Ng C.text.size xe (I.next s1)else(xe,s1))):=by show _=_;unfold I.cmp I.fv I.fF;rw[←NC.o];simp only;rw[if_pos h0]
  clear h0 hol;go_wp2_with fail
  with_reducible refine(bK C ⟨#[105,115]⟩ s1 _ Ld.o).mono ?_
  rintro e w3 ⟨rfl,hp3,hc3⟩;have hs3:=hc3.size;have Oh:=aa hp3;have Ov:=aa (Ms.o.trans hc3 (by omega));have HR3:=aa (HR2.o.ch hc3 (by omega) (by omega));have XG:=aa (HE2.o.ch hc3 (by omega) (by omega));have QA:=aa (NO.o.ch hc3 (by omega) (by omega));clear hp3 hc3;cases ha:I.ae [105,115] s1 with
  |false=>
   have NA:Hid (PS C s1 w3):=by have:=Oh.o;rw[show(⟨#[105,115]⟩:ByteArray).data.toList=[105,115]from rfl,I.dT ha]at this;exact this
   have Ny:Hid (I.cmp C.text.size X st=(xe,s1)):=by show _=_;rw[LA.o,if_neg (by rw[ha];decide)]
   clear ha;have Ks:=XG.o.Y8;simp at Ks;have cj2:=HR3.o.Y8;simp at cj2;obtain⟨f0,f1,f2,f3,f4,f5,f6,f7⟩:=HR3.o.Z8;go_wp2_with fail
   refine bodyPost_ret (v:=.agg (ai h1 A1 m1 c1).toArray) (results_cell_row rfl _ _ w.heap.size 50 _ (0,0) _ rfl (aW HR3.o _ _ _ _ _ _ _ _) eK rfl cD) rfl ⟨_,rfl,?_,?_,?_⟩
   ·rw[Ny.o];exact QA.o.hp (fun b hb=>⟨by have:=hb.1;omega,by have:=hb.2;simp;omega⟩) fun b hb=>(bd (Ch.refl w.heap.size w3.heap.size w3) (.inl rfl) _ _ _ _ _ _ _ _).block b (by have:=hb.2;omega) (by have:=hb.1;omega)
   ·rw[Ny.o];exact eg NA.o Kt _ _ _ _ _ _ _ _
   ·exact bd Ov.o (.inr (Nat.le_refl _)) _ _ _ _ _ _ _ _
  |true=>
   have NA:Hid (PS C (I.next s1) w3):=by have:=Oh.o;rw[show(⟨#[105,115]⟩:ByteArray).data.toList=[105,115]from rfl,I.di ha]at this;exact this
   have Ny:Hid (I.cmp C.text.size X st=I.Ng C.text.size xe (I.next s1)):=by show _=_;rw[LA.o,if_pos ha]
   clear ha;go_wp2_with fail
   with_reducible refine(bK C ⟨#[110,111,116]⟩ (I.next s1) _ NA.o).mono ?_
   rintro e w4 ⟨rfl,OV,hc4⟩;have hs4:=hc4.size;obtain⟨b,hb⟩:=aab (I.ae [110,111,116] (I.next s1));obtain⟨s2,T6⟩:=aab (I.acc [110,111,116] (I.next s1));have OZ:Hid (I.Ng C.text.size xe (I.next s1)=(if b=true then I.un 15 (I.un 16 xe)else I.un 16 xe,I.expect C.text.size [[110,117,108,108]] s2)):=by show _=_;unfold I.Ng;rw[hb,T6];unfold I.acc;split<;>rfl
   rw[show(⟨#[110,111,116]⟩:ByteArray).data.toList=[110,111,116]from rfl,←T6]at OV;rw[show(⟨#[110,111,116]⟩:ByteArray).data.toList=[110,111,116]from rfl,←hb];have PT:=aa OV;have Oi:=aa (Ov.o.trans hc4 (by omega));have HR4:=aa (HR3.o.ch hc4 (by omega) (by omega));have HE4:=aa (XG.o.ch hc4 (by omega) (by omega));have VW:=aa (QA.o.ch hc4 (by omega) (by omega));clear OV hc4 hb T6;go_wp2_with fail
   have hlt4:=PT.o.lt;with_reducible refine(iW C _ [[110,117,108,108]] s2 _ (PT.o.alloc _) (jK (C:=C) (n:=1) (cells:=#[.s ⟨#[110,117,108,108]⟩]) (Kn.new _ _ _) rfl (by omega) rfl (by decide))).mono ?_
   rintro e w5 ⟨rfl,Nw,Mk⟩;have hs5:=Mk.size;rw[ay]at hs5;have Mp:=aa Nw;have Qz:=aa ((Oi.o.alloc (by omega) _).trans Mk (by simp;omega));have PU:=aa ((HR4.o.alloc _).ch Mk (by simp;omega) (by omega));have HE5:=aa ((HE4.o.alloc _).ch Mk (by simp;omega) (by omega));have Y0:=aa ((VW.o.hp (w':=w4.alloc _) (fun _ h=>h) fun b hb=>Below.heap_alloc w4 _ b (by have:=hb.2;omega)).ch Mk (by simp;omega) (by omega));clear Nw Mk;obtain⟨w6,Nl⟩:=aac (w5.alloc (.cells #[.u (h1.o.toNat:Int),.u (h1.v.k.toNat:Int),.i h1.v.n,.s h1.v.s,.s h1.nm,.s h1.of,.i h1.n,.slice A1 m1 c1] 50));have K3:=aa (show Kn w6 w.heap.size _ _ from Nl▸PU.o.alloc _);have MI:=aa (show Kn w6 g3 _ _ from Nl▸HE5.o.alloc _);have YJ:=aa (show Kn w6 w5.heap.size _ _ from Nl▸Kn.new w5 _ _);have Nk:=aa (show PS C _ w6 from Nl▸Mp.o.alloc _);have MX:=aa (show Ch C.g w.heap.size w w6 from Nl▸Qz.o.alloc (by omega) _);have Qf:=aa (show XR w6 (In (w.heap.size+1) g3) _ _ from Nl▸Y0.o.hp (fun _ h=>h) fun b hb=>Below.heap_alloc w5 _ b (by have:=hb.2;omega));have hs6:w6.heap.size=w5.heap.size+1:=by rw[←Nl,ay]
   have VO:w5.heap.size<w6.heap.size:=by omega
   have hg5:g3<w5.heap.size:=by omega
   clear hs6;obtain⟨w7,hw7⟩:=aab (((((((((w6.setCell ⟨g3,0,none⟩ (.u 16)).setCell ⟨g3,1,none⟩ .b).setCell ⟨g3,2,none⟩ .o).setCell ⟨g3,3,none⟩ .e).setCell ⟨g3,4,none⟩ .e).setCell ⟨g3,5,none⟩ .e).setCell ⟨g3,6,none⟩ .o).setCell ⟨g3,7,none⟩ (.slice (some ⟨w5.heap.size,0,none⟩) 1 1)));have S6:=bd (Ch.refl g3 w6.heap.size w6) (.inl rfl) (.u 16) .b .o .e .e .e .o (.slice (some ⟨w5.heap.size,0,none⟩) 1 1);rw[←hw7]at S6;have Qy:=aa (show Kn w7 w.heap.size _ _ from(S6.block _ (by omega) (by omega)).trans K3.o);have XL:Hid (Kn w7 g3 50 #[.u 16,.b,.o,.e,.e,.e,.o,.slice (some ⟨w5.heap.size,0,none⟩) 1 1]):=aa (by rw[hw7];exact aW MI.o _ _ _ _ _ _ _ _);have PM:=aa (show PS C (I.expect C.text.size [[110,117,108,108]] s2) w7 by rw[hw7];exact eg Nk.o (by omega) _ _ _ _ _ _ _ _);have RI:=aa (show Ch C.g w.heap.size w w7 by rw[hw7];exact bd MX.o (.inr (by omega)) _ _ _ _ _ _ _ _);have XK:=aa (show XR w7 (fun b=>w.heap.size<b∧b<w7.heap.size∧b≠g3) (ai (I.hd 16) (some ⟨w5.heap.size,0,none⟩) 1 1) (I.un 16 xe)from
    qA (g:=w5.heap.size) (t:=50) (cells:=#[.u (h1.o.toNat:Int),.u (h1.v.k.toNat:Int),.i h1.v.n,.s h1.v.s,.s h1.nm,.s h1.of,.i h1.n,.slice A1 m1 c1]) 16 ((S6.block _ VO (by omega)).trans YJ.o) rfl (Qf.o.hp (fun b hb=>⟨by have:=hb.1;omega,by have:=hb.2;have:=S6.size;omega,by have:=hb.2;omega⟩) fun b hb=>S6.block b (by have:=hb.2;omega) (by have:=hb.2;omega)) ⟨by omega,by have:=S6.size;omega,by omega⟩)
   have hs7:=S6.size;clear S6;have K0:=HE5.o.Y8;simp at K0;have Le:=MI.o.Y8;simp at Le;obtain⟨z0,z1,z2,z3,z4,z5,z6,z7⟩:=MI.o.Z8;go_upto_region 10 with fail
   rw[←hw7];clear hw7 Nl K0 Le z0 z1 z2 z3 z4 z5 z6 z7;have Ly:=XL.o.Y8;simp at Ly;have Mj:=XL.o.Z8;have MY:=Qy.o.Y8;simp at MY;obtain⟨f0,f1,f2,f3,f4,f5,f6,f7⟩:=Qy.o.Z8;cases b with
   |false=>
    have TR:Hid (I.cmp C.text.size X st=(I.un 16 xe,I.expect C.text.size [[110,117,108,108]] s2)):=by show _=_;rw[Ny.o,OZ.o];rfl
    go_wp2_with fail
    refine bodyPost_ret (v:=.agg (ai (I.hd 16) (some ⟨w5.heap.size,0,none⟩) 1 1).toArray) (results_cell_row rfl _ _ w.heap.size 50 _ (0,0) _ rfl (aW Qy.o _ _ _ _ _ _ _ _) eK rfl cD) rfl ⟨_,rfl,?_,?_,?_⟩
    ·rw[TR.o];exact XK.o.hp (fun b hb=>⟨by have:=hb.1;omega,by have:=hb.2.1;simp;omega⟩) fun b hb=>(bd (Ch.refl w.heap.size w7.heap.size w7) (.inl rfl) _ _ _ _ _ _ _ _).block b hb.2.1 (by have:=hb.1;omega)
    ·rw[TR.o];exact eg PM.o Kt _ _ _ _ _ _ _ _
    ·exact bd RI.o (.inr (Nat.le_refl _)) _ _ _ _ _ _ _ _
   |true=>
    have TR:Hid (I.cmp C.text.size X st=(I.un 15 (I.un 16 xe),I.expect C.text.size [[110,117,108,108]] s2)):=by show _=_;rw[Ny.o,OZ.o];rfl
    have RF:=XL.o.lt;obtain⟨w8,hw8⟩:=aac (w7.alloc (.cells #[.u 16,.b,.o,.e,.e,.e,.o,.slice (some ⟨w5.heap.size,0,none⟩) 1 1] 50));have Si:=aa (show Kn w8 w.heap.size _ _ from hw8▸Qy.o.alloc _);have Sk:=aa (show Kn w8 g3 _ _ from hw8▸XL.o.alloc _);have TY:=aa (show Kn w8 w7.heap.size _ _ from hw8▸Kn.new w7 _ _);have Vq:=aa (show PS C _ w8 from hw8▸PM.o.alloc _);have Qe:=aa (show Ch C.g w.heap.size w w8 from hw8▸RI.o.alloc (by omega) _);have TZ:=aa (show XR w8 (fun b=>w.heap.size<b∧b<w7.heap.size∧b≠g3) _ _ from hw8▸XK.o.hp (fun _ h=>h) fun b hb=>Below.heap_alloc w7 _ b hb.2.1);have QL:w8.heap.size=w7.heap.size+1:=by rw[←hw8,ay]
    have S1:w7.heap.size<w8.heap.size:=by omega
    clear QL;obtain⟨w9,RG⟩:=aab (((((((((w8.setCell ⟨g3,0,none⟩ (.u 15)).setCell ⟨g3,1,none⟩ .b).setCell ⟨g3,2,none⟩ .o).setCell ⟨g3,3,none⟩ .e).setCell ⟨g3,4,none⟩ .e).setCell ⟨g3,5,none⟩ .e).setCell ⟨g3,6,none⟩ .o).setCell ⟨g3,7,none⟩ (.slice (some ⟨w7.heap.size,0,none⟩) 1 1)));have Vr:=bd (Ch.refl g3 w8.heap.size w8) (.inl rfl) (.u 15) .b .o .e .e .e .o (.slice (some ⟨w7.heap.size,0,none⟩) 1 1);rw[←RG]at Vr;have S5:=aa (show Kn w9 w.heap.size _ _ from(Vr.block _ (by omega) (by omega)).trans Si.o);have Vo:Hid (Kn w9 g3 50 #[.u 15,.b,.o,.e,.e,.e,.o,.slice (some ⟨w7.heap.size,0,none⟩) 1 1]):=aa (by rw[RG];exact aW Sk.o _ _ _ _ _ _ _ _);have Sn:=aa (show PS C (I.expect C.text.size [[110,117,108,108]] s2) w9 by rw[RG];exact eg Vq.o (by omega) _ _ _ _ _ _ _ _);have S2:=aa (show Ch C.g w.heap.size w w9 by rw[RG];exact bd Qe.o (.inr (by omega)) _ _ _ _ _ _ _ _);have T0:=Vr.size;have HX9:=aa (show XR w9 (fun b=>w.heap.size<b∧b<w9.heap.size∧b≠g3) (ai (I.hd 15) (some ⟨w7.heap.size,0,none⟩) 1 1) (I.un 15 (I.un 16 xe))from
     qA (g:=w7.heap.size) (t:=50) (cells:=#[.u 16,.b,.o,.e,.e,.e,.o,.slice (some ⟨w5.heap.size,0,none⟩) 1 1]) 15 ((Vr.block _ S1 (by omega)).trans TY.o) rfl (TZ.o.hp (fun b hb=>⟨hb.1,by have:=hb.2.1;omega,hb.2.2⟩) fun b hb=>Vr.block b (by have:=hb.2.1;omega) hb.2.2) ⟨by omega,by omega,by omega⟩)
    clear Vr;clear MY f0 f1 f2 f3 f4 f5 f6 f7;obtain⟨y0,y1,y2,y3,y4,y5,y6,y7⟩:=Sk.o.Y8;simp at y0 y1 y2 y3 y4 y5 y6 y7;clear Mj;obtain⟨z0,z1,z2,z3,z4,z5,z6,z7⟩:=Sk.o.Z8;go_upto_region 12 with fail
    rw[←RG];clear RG hw8 y0 y1 y2 y3 y4 y5 y6 y7 Ly z0 z1 z2 z3 z4 z5 z6 z7;have NP:=Vo.o.Y8;simp at NP;obtain⟨r0,r1,r2,r3,r4,r5,r6,r7⟩:=S5.o.Y8;simp at r0 r1 r2 r3 r4 r5 r6 r7;obtain⟨f0,f1,f2,f3,f4,f5,f6,f7⟩:=S5.o.Z8;go_wp2_with fail
    refine bodyPost_ret (v:=.agg (ai (I.hd 15) (some ⟨w7.heap.size,0,none⟩) 1 1).toArray) (results_cell_row rfl _ _ w.heap.size 50 _ (0,0) _ rfl (aW S5.o _ _ _ _ _ _ _ _) eK rfl cD) rfl ⟨_,rfl,?_,?_,?_⟩
    ·rw[TR.o];exact HX9.o.hp (fun b hb=>⟨by have:=hb.1;omega,by have:=hb.2.1;simp;omega⟩) fun b hb=>(bd (Ch.refl w.heap.size w9.heap.size w9) (.inl rfl) _ _ _ _ _ _ _ _).block b hb.2.1 (by have:=hb.1;omega)
    ·rw[TR.o];exact eg Sn.o Kt _ _ _ _ _ _ _ _
    ·exact bd S2.o (.inr (Nat.le_refl _)) _ _ _ _ _ _ _ _
 ·have t0:(((I.one [([61],7),([60,62],8),([60],9),([60,61],10),([62],11),([62,61],12)] s1).1.toNat:Int) !=0)=true:=by simp;exact fun e=>h0 (UInt8.toNat_inj.1 (by simpa using e))
  obtain⟨ro,hro⟩:=aab (I.one [([61],7),([60,62],8),([60],9),([60,61],10),([62],11),([62,61],12)] s1);obtain⟨op,s2⟩:=ro;have LA:Hid (I.cmp C.text.size X st=(I.bin op xe (I.sum C.text.size X s2).1,(I.sum C.text.size X s2).2)):=by show _=_;unfold I.cmp I.fv I.fF;rw[←NC.o];simp only;rw[if_neg h0,←hro]
  have hlo:=hol.1;rw[←hro]at Ld hlo t0⊢;simp only at Ld hlo t0⊢;clear h0 hol hro;have NQ:=HE2.o.Y8;simp at NQ;go_wp2_with fail
  go_region_with ((with_reducible refine(HK.o.drew s2 _ (by omega) Ld.o).mono ?_);rintro e w6 ⟨XF,rfl,hx6,PQ,hc6⟩;obtain⟨h6,A6,m6,c6,YR,rfl,Ve⟩:=aV hx6;unfold ai;have Qf:=aa hx6;have Mp:=aa PQ;have MX:=aa (Ms.o.trans hc6 (by omega));have MI:=aa (HE2.o.ch hc6 Zc (by omega));have K3:=aa (HR2.o.ch hc6 (by omega) (by omega));have HY6:=aa (NO.o.ch hc6 (by omega) (by omega));have hs6:=hc6.size;have VO:g3<w6.heap.size:=(by omega);have Vk:w.heap.size<w6.heap.size:=(by omega);clear hx6 PQ hc6 Ve;have y0:=MI.o.cell 0;have y1:=MI.o.cell 1;have y2:=MI.o.cell 2;have y3:=MI.o.cell 3;have y4:=MI.o.cell 4;have y5:=MI.o.cell 5;have y6:=MI.o.cell 6;have y7:=MI.o.cell 7;simp at y0 y1 y2 y3 y4 y5 y6 y7;have r0:=K3.o.cell 0;have r1:=K3.o.cell 1;have r2:=K3.o.cell 2;have r3:=K3.o.cell 3;have r4:=K3.o.cell 4;have r5:=K3.o.cell 5;have r6:=K3.o.cell 6;have r7:=K3.o.cell 7;simp at r0 r1 r2 r3 r4 r5 r6 r7;have f0:=K3.o.frozen 0;have f1:=K3.o.frozen 1;have f2:=K3.o.frozen 2;have f3:=K3.o.frozen 3;have f4:=K3.o.frozen 4;have f5:=K3.o.frozen 5;have f6:=K3.o.frozen 6;have f7:=K3.o.frozen 7)
  all_goals
   obtain⟨w8,hw8⟩:=aab (World.alloc ((((((((w6.setCell ⟨w.heap.size,0,none⟩ (.u (op.toNat:Int))).setCell ⟨w.heap.size,1,none⟩ .b).setCell ⟨w.heap.size,2,none⟩ .o).setCell ⟨w.heap.size,3,none⟩ .e).setCell ⟨w.heap.size,4,none⟩ .e).setCell ⟨w.heap.size,5,none⟩ .e).setCell ⟨w.heap.size,6,none⟩ .o).setCell ⟨w.heap.size,7,none⟩ (.slice (some ⟨w6.heap.size,0,none⟩) 2 2)) (.cells #[.u (h1.o.toNat:Int),.u (h1.v.k.toNat:Int),.i h1.v.n,.s h1.v.s,.s h1.nm,.s h1.of,.i h1.n,.slice A1 m1 c1,.u (h6.o.toNat:Int),.u (h6.v.k.toNat:Int),.i h6.v.n,.s h6.v.s,.s h6.nm,.s h6.of,.i h6.n,.slice A6 m6 c6] 50))
   rw[←hw8]
   have hsame:∀b,b<w6.heap.size→b≠w.heap.size→w8.heap[b]?=w6.heap[b]?:=fun b h1 h2=>by rw[hw8];exact(Below.heap_alloc _ _ b (by simp;omega)).trans ((bd (Ch.refl w.heap.size w6.heap.size w6) (.inl rfl) _ _ _ _ _ _ _ _).block b h1 h2)
   have S1:w8.heap.size=w6.heap.size+1:=by rw[hw8];simp
   have TY:=aa (show Kn w8 w6.heap.size _ _ by rw[hw8];exact DU w6 w.heap.size _ _ _ _ _ _ _ _ _ _)
   have Si:=aa (show Kn w8 w.heap.size 50 (ai (I.hd op) (some ⟨w6.heap.size,0,none⟩) 2 2).toArray by rw[hw8];exact(aW K3.o _ _ _ _ _ _ _ _).alloc _)
   have PM:=aa (show PS C (I.sum C.text.size X s2).2 w8 by rw[hw8];exact(eg Mp.o Kt _ _ _ _ _ _ _ _).alloc _)
   have Qe:=aa (show Ch C.g w.heap.size w w8 by rw[hw8];exact(bd MX.o (.inr (Nat.le_refl _)) _ _ _ _ _ _ _ _).alloc (by simp;omega) _)
   have TZ:=aa (show XR w8 (In w.heap.size w8.heap.size) (ai (I.hd op) (some ⟨w6.heap.size,0,none⟩) 2 2) (I.bin op xe (I.sum C.text.size X s2).1)from
    vT op TY.o rfl (HY6.o.hp (fun b hb=>⟨by have:=hb.1;omega,by have:=hb.2;omega⟩) fun b hb=>hsame b (by have:=hb.2;omega) (by have:=hb.1;omega)) (Qf.o.hp (fun b hb=>⟨by have:=hb.1;omega,by have:=hb.2;omega⟩) fun b hb=>hsame b hb.2 (by have:=hb.1;omega)) ⟨by omega,by omega⟩)
   clear hsame S1 hw8
   go_wp2_with fail
   exact bodyPost_ret (v:=.agg (ai (I.hd op) (some ⟨w6.heap.size,0,none⟩) 2 2).toArray) (results_cell_row rfl _ _ w.heap.size 50 _ (0,0) _ rfl Si.o eK rfl cD) rfl ⟨_,rfl,by rw[LA.o];exact TZ.o,by rw[LA.o];exact PM.o,Qe.o⟩
end
section
set_option maxRecDepth 100000
theorem Kl(C:RC):∀(M m:Nat),m<M→dy C 206 #[.p C.g] (I.Lw C.text.size M) m:=by
 intro M;induction M with
 |zero=>intro m h;omega
 |succ M ih=>
  intro m hm;have hX:I.ct (I.Lw C.text.size M):=I.ua _ M;have h1:=vM C (I.Lw C.text.size M) m fun k hk=>ih k (by omega)
  have h2:=Cl C (I.Lw C.text.size M) m h1;have h3:=Fy C (I.Lw C.text.size M) hX m h2;have h4:=Jm C (I.Lw C.text.size M) hX m h3;have h5:=IT C (I.Lw C.text.size M) hX m h4;have h6:=Ja C (I.Lw C.text.size M) m h5;have h7:=IF C (I.Lw C.text.size M) hX m h6;exact JO C (I.Lw C.text.size M) hX m h7
theorem Jd(C:RC)(st:I.St)(w:World)(h:PS C st w):Calls Tryz.prog 206 #[.p C.g] w (eY C w (I.or C.text.size st)):=Kl C (st.r.length+1) st.r.length (by omega) st w (Nat.le_refl _) h
theorem Ac{h h':Ev.Hd}{A A':Option Addr}{m m' c c':Nat}(e:ai h A m c=ai h' A' m' c'):h=h'∧A=A'∧m=m'∧c=c':=by
 obtain⟨o,⟨k,n,s⟩,nm,of,i⟩:=h;obtain⟨o',⟨k',n',s'⟩,nm',of',i'⟩:=h';simp only[ai,List.cons.injEq,Value.int.injEq,Value.string.injEq,Value.slice.injEq,and_true,true_and]at e;obtain⟨e1,e2,e3,e4,e5,e6,e7,e8,e9,e10⟩:=e;have f1:o=o':=UInt8.toNat_inj.1 (by exact_mod_cast e1);have f2:k=k':=UInt8.toNat_inj.1 (by exact_mod_cast e2);subst f1 f2 e3 e4 e5 e6 e7 e8 e9 e10;exact⟨rfl,rfl,rfl,rfl⟩
theorem PS.len{C:RC}{st:I.St}{w:World}(h:PS C st w):st.r.length≤4096:=by
 obtain⟨⟨k,_,e,_⟩,_⟩:=h;have:=C.ok.len;have:=C.small;rw[e,List.length_drop];omega
theorem PS.deep{C:RC}{st:I.St}{w:World}(h:PS C st w):PS C {st with d:=true} (w.setCell ⟨C.g,5,none⟩ (.bool true)):=by
 obtain⟨⟨k,hb,h2⟩,h3,h4⟩:=h;exact PS.put ⟨⟨k,hb,h2⟩,h3,h4⟩ ((Ch.refl C.g (C.g+1) w).set (p:=⟨C.g,5,none⟩) (.inl rfl) _) (k':=k) ⟨by simpa using hb.put 5 (.bool true),h2⟩
section
variable{C:RC}{w0 w:World}{own:bO}{its:List It}{st:I.St}{Q:World→Prop}{g:Nat}
theorem EG{h:Ev.Hd}{A:Option Addr}{m c:Nat}{x:Ev.Ex}(F:Fr g w0 own (It.el Kr (ai h A m c) x::its) Q w)(hd:I.depth x≤1000000000000000000):Calls Tryz.prog 15 #[.agg #[.u (h.o.toNat:Int),.u (h.v.k.toNat:Int),.i h.v.n,.s h.v.s,.s h.nm,.s h.of,.i h.n,.slice A m c]] w fun e w'=>∃D:Nat,I.depth x=D∧e=.returned (.i (D:Int))∧Fr g w0 own (It.el Kr (ai h A m c) x::its) Q w':=by
 obtain⟨h',A',m',c',ks,d,e1,rfl,h3,h4,h5,h6⟩:=F.Kx;obtain⟨rfl,rfl,rfl,rfl⟩:=Ac e1;refine(qg d h A m c ks w (Mu.aR (fun b hb=>hb.2.1) (fun _ _=>rfl) h6) (by rw[I.depth]at hd;omega) h3 h4).mono fun e w' ⟨r1,r2⟩=>⟨_,rfl,?_,F.quiet r2⟩
 rw[r1,I.depth]
theorem Fr.deep(F:Fr C.g w0 own its (PS C st) w):Fr C.g w0 own its (PS C {st with d:=true}) (w.setCell ⟨C.g,5,none⟩ (.bool true)):=
 F.call F.q.deep.aJ ((Ch.refl C.g w.heap.size w).set (p:=⟨C.g,5,none⟩) (.inl rfl) _)
end
theorem ao:Tryz.prog.underlying 50=some (.struct (Tryz.prog.fieldsOf 50)):=by kernel_rfl
theorem aj:(Tryz.prog.info? 50).map (·.size)=some 8:=by kernel_rfl
theorem fh(C:RC)(st:I.St)(w:World)(h:PS C st w):
 Calls Tryz.prog 138 #[.p C.g] w (eY C w (I.expr C.text.size st)):=by
 have F0:=aa (Fr.start h.lt h.aJ);clear h;go_enter Tryz.func138,Tryz.ntmps138;have K8:=aa (F0.o.new 50 #[.b,.b,.o,.e,.e,.e,.o,.z]);have hlen:=(F0.o.q).len;go_wp2_with fail
 with_reducible refine(Fr.ux K8.o (Jd C st _ K8.o.q)).mono ?_
 rintro e w1 ⟨h1,A1,m1,c1,x1,s1,(X1:Hid _),rfl,(F1:Hid _)⟩;have hdx:I.depth x1≤1000000000000000000:=by have:=I.Cm C.text.size st;rw[X1.o]at this;simp only at this;omega
 clear hlen;go_upto_region 2 with fail
 have F2:=aa (F1.o.new 50 #[.u (h1.o.toNat:Int),.u (h1.v.k.toNat:Int),.i h1.v.n,.s h1.v.s,.s h1.nm,.s h1.of,.i h1.n,.slice A1 m1 c1]);obtain⟨w2,hw⟩:=aab (w1.alloc (.cells #[.u (h1.o.toNat:Int),.u (h1.v.k.toNat:Int),.i h1.v.n,.s h1.v.s,.s h1.nm,.s h1.of,.i h1.n,.slice A1 m1 c1] 50));obtain⟨g2,hg⟩:=aab w1.heap.size;rw[←hw,←hg]at F2;rw[←hw,←hg];clear hw hg;have Ks:=F2.o.ab.Y8;simp at Ks;go_wp2_with fail
 with_reducible refine(EG F2.o hdx).mono ?_
 rintro e w3 ⟨D1,(E1:Hid _),rfl,(F3:Hid _)⟩;clear hdx;clear Ks;by_cases hd:24<D1
 ·have t1:decide ((24:Int)<(D1:Int))=true:=decide_eq_true (by omega);have HD:=aa hd;clear hd;obtain⟨⟨k,hB,_⟩,_⟩:=F3.o.q;have b5:=hB.cell 5;simp at b5;have z5:=hB.frozen 5;clear hB;go_upto_region 4 with fail
  have F4:=aa F3.o.deep;obtain⟨w4,hw⟩:=aab (w3.setCell ⟨C.g,5,none⟩ (.bool true));rw[←hw]at F4⊢;clear hw b5 z5;have cj2:=F4.o.ab.Y8;simp at cj2;have K0:=F4.o.ah.Y8;simp at K0;obtain⟨f0,f1,f2,f3,f4,f5,f6,f7⟩:=F4.o.ah.Z8;go_wp2_with fail
  have FZ:=aa (F4.o.cN (bd (Ch.refl _ _ _) (.inl rfl) _ _ _ _ _ _ _ _) (aW F4.o.ah (.u (h1.o.toNat:Int)) (.u (h1.v.k.toNat:Int)) (.i h1.v.n) (.s h1.v.s) (.s h1.nm) (.s h1.of) (.i h1.n) (.slice A1 m1 c1)));have HS:Hid (I.expr C.text.size st=(x1,{s1 with d:=true})):=by show _=_;simp only[I.expr,X1.o,E1.o,if_pos HD.o]
  refine bodyPost_ret (results_cell_row rfl _ _ w.heap.size 50 _ (0,0) _ rfl FZ.o.ah ao rfl aj) rfl ?_;rw[HS.o];exact FZ.o.done (E:=Kr) (cs:=[.u (h1.o.toNat:Int),.u (h1.v.k.toNat:Int),.i h1.v.n,.s h1.v.s,.s h1.nm,.s h1.of,.i h1.n,.slice A1 m1 c1]) FZ.o.Kx
 ·have t1:decide ((24:Int)<(D1:Int))=false:=decide_eq_false (by omega);have HD:=aa hd;clear hd;have Le:=F3.o.ab.Y8;simp at Le;have Ly:=F3.o.ah.Y8;simp at Ly;obtain⟨f0,f1,f2,f3,f4,f5,f6,f7⟩:=F3.o.ah.Z8;go_wp2_with fail
  have FZ:=aa (F3.o.cN (bd (Ch.refl _ _ _) (.inl rfl) _ _ _ _ _ _ _ _) (aW F3.o.ah (.u (h1.o.toNat:Int)) (.u (h1.v.k.toNat:Int)) (.i h1.v.n) (.s h1.v.s) (.s h1.nm) (.s h1.of) (.i h1.n) (.slice A1 m1 c1)));have HS:Hid (I.expr C.text.size st=(x1,s1)):=by show _=_;simp only[I.expr,X1.o,E1.o,if_neg HD.o]
  refine bodyPost_ret (results_cell_row rfl _ _ w.heap.size 50 _ (0,0) _ rfl FZ.o.ah ao rfl aj) rfl ?_;rw[HS.o];exact FZ.o.done (E:=Kr) (cs:=[.u (h1.o.toNat:Int),.u (h1.v.k.toNat:Int),.i h1.v.n,.s h1.v.s,.s h1.nm,.s h1.of,.i h1.n,.slice A1 m1 c1]) FZ.o.Kx
end
section
set_option maxRecDepth 100000
theorem fl:Tryz.prog.underlying 132=some (.struct (Tryz.prog.fieldsOf 132)):=by kernel_rfl
theorem eJ:(Tryz.prog.info? 132).map (·.size)=some 3:=by kernel_rfl
theorem o9(C:RC)(st:I.St)(w:World)(h:PS C st w):
 Calls Tryz.prog 209 #[.p C.g] w (EPost bV C w (I.source C.text.size st)):=by
 have F0:=aa (Fr.start h.lt h.aJ);clear h;go_enter Tryz.func209,Tryz.ntmps209;have K8:=aa (F0.o.new 132 #[.e,.e,.z]);go_wp2_with fail
 with_reducible refine(cG K8.o).mono ?_
 rintro e w1 ⟨n1,s1,(N1:Hid _),(Z1:Hid _),rfl,(F1:Hid _)⟩;go_upto_region 2 with fail
 have F2:=aa (F1.o.new 132 #[.s (I.bs n1),.e,.z]);obtain⟨w2,hw⟩:=aab (w1.alloc (.cells #[.s (I.bs n1),.e,.z] 132));obtain⟨g2,hg⟩:=aab w1.heap.size;rw[←hw,←hg]at F2;rw[←hw,←hg];clear hw hg;go_wp2_with fail
 with_reducible refine(bF ⟨#[97,115]⟩ [97,115] rfl F2.o).mono ?_
 rintro e w3 ⟨b,hb,rfl,hF⟩;cases b with
 |true=>
  have Ku:=aa hb;have F3:Hid (Fr C.g w _ _ (PS C (I.next s1)) w3):=hF;clear hF hb;go_wp2_with fail
  with_reducible refine(cG F3.o).mono ?_
  rintro e w4 ⟨n2,s2,(N2:Hid _),(Z2:Hid _),rfl,hF⟩;have F4:=aa hF;clear hF;have M5:=F4.o.ab.cell 1;simp at M5;have M9:=F4.o.ab.frozen 1;go_upto_region 4 with fail
  have F5:=aa (F4.o.aO 1 (.s (I.bs n2)) (cs':=#[.s (I.bs n1),.s (I.bs n2),.z]) rfl);obtain⟨w5,hw⟩:=aab (w4.setCell ⟨g2,1,none⟩ (.s (I.bs n2)));rw[←hw]at F5⊢;clear hw M5 M9;have Ks:=F5.o.ab.Y3;simp at Ks;have cj2:=F5.o.ah.Y3;simp at cj2;obtain⟨KQ,KS,KT⟩:=F5.o.ah.Z3;go_wp2_with fail
  have FZ:=aa (F5.o.cN (sL (Ch.refl _ _ _) (.inl rfl) _ _ _) (fS F5.o.ah (.s (I.bs n1)) (.s (I.bs n2)) .z));have HS:Hid (I.source C.text.size st=((⟨n1,n2,[]⟩:I.Src),s2)):=by show _=_;simp only[I.source,N1.o,Ku.o,N2.o,if_true]
  refine bodyPost_ret (results_cell_row rfl _ _ w.heap.size 132 _ (0,0) _ rfl FZ.o.ah fl rfl eJ) rfl ?_;rw[HS.o];exact FZ.o.done (⟨_,rfl,Rr.nil _ _ _,Sz.of Z1.o,Sz.of Z2.o⟩)
 |false=>
  have Ku:=aa hb;have F3:Hid (Fr C.g w _ _ (PS C s1) w3):=hF;clear hF hb;have K0:=F3.o.ab.Y3;simp at K0;have Le:=F3.o.ah.Y3;simp at Le;obtain⟨KQ,KS,KT⟩:=F3.o.ah.Z3;go_wp2_with fail
  have FZ:=aa (F3.o.cN (sL (Ch.refl _ _ _) (.inl rfl) _ _ _) (fS F3.o.ah (.s (I.bs n1)) .e .z));have HS:Hid (I.source C.text.size st=((⟨n1,[],[]⟩:I.Src),s1)):=by show _=_;simp only[I.source,N1.o,Ku.o,Bool.false_eq_true,if_false]
  refine bodyPost_ret (results_cell_row rfl _ _ w.heap.size 132 _ (0,0) _ rfl FZ.o.ah fl rfl eJ) rfl ?_;rw[HS.o];exact FZ.o.done (⟨_,rfl,Rr.nil _ _ _,Sz.of Z1.o,Sz.of (Nat.zero_le _)⟩)
end
section
variable{g:Nat}{w0 w w':World}{own:bO}{its:List It}{Q Q':World→Prop}
theorem Fr.old{b:Nat}{t:TypeId}{cs:Array Value}(h:Fr g w0 own its Q w)(hb:Kn w0 b t cs)(hl:b<w0.heap.size)(hg:b≠g):Kn w b t cs:=(h.ch.block b hl hg).trans hb
theorem Fr.lL{L:List (Nat×Obj)}(h:Fr g w0 own its Q w)(hL:ey L w0)(hg:∀p∈L,p.1≠g):ey L w:=hL.ch (hL.YV hg) h.ch
theorem Fr.nk{α:Type}{E:El α}{C:RC}{st:I.St}{v:Value}{xs:List α}(h:Fr C.g w0 own (It.rr E v xs::its) (PS C st) w):iC E C w0 (xs,st) (.returned v) w:=
 ⟨v,rfl,(h.Kx:Rr E w _ v xs).hp (fun _ hb=>⟨hb.1,hb.2.1⟩) fun _ _=>rfl,h.q,h.ch⟩
theorem Fr.JR{α:Type}{E:El α}{C:RC}{st:I.St}(h:Fr C.g w0 own its (PS C st) w):iC E C w0 ([],st) (.returned .z) w:=
 ⟨_,rfl,Rr.nil _ _ _,h.q,h.ch⟩
theorem Fr.ff{α:Type}{E:El α}{cs:List Value}{x:α}(h:Fr g w0 own (It.el E cs x::its) Q w)(t:TypeId):Fr g w0 own (It.rr E (.slice (some ⟨w.heap.size,0,none⟩) 1 1) [x]::It.el E cs x::its) Q (w.alloc (.cells cs.toArray t)):=
 Fr.lit (cells:=cs.toArray) (h.new t cs.toArray)
theorem Fr.gL{α:Type}{E:El α}{cs:List Value}{x:α}{b:Nat}{t:TypeId}{cells:Array Value}(h:Fr g w0 ((b,t,cells)::own) (It.el E cs x::its) Q w)(t':TypeId)(i:Nat){cells':Array Value}(e:cells.setIfInBounds i (.slice (some ⟨w.heap.size,0,none⟩) 1 1)=cells'):
 Fr g w0 ((b,t,cells')::own) (It.rr E (.slice (some ⟨w.heap.size,0,none⟩) 1 1) [x]::It.el E cs x::its) Q ((w.setCell ⟨b,i,none⟩ (.slice (some ⟨w.heap.size,0,none⟩) 1 1)).alloc (.cells cs.toArray t')):=by
 have h2:=(h.aO i (.slice (some ⟨w.heap.size,0,none⟩) 1 1) e).ff t';have hs:(w.setCell ⟨b,i,none⟩ (.slice (some ⟨w.heap.size,0,none⟩) 1 1)).heap.size=w.heap.size:=by simp
 rw[hs]at h2;exact h2
end
theorem I.yO(T:Nat):∀(l:List I.Bs) (k:Nat) (st:I.St),(I.choose T k l st).1<k+l.length∨(I.choose T k l st).1=0:=by
 intro l;induction l with
 |nil=>intro k st;exact .inr rfl
 |cons s l ih=>
  intro k st;unfold I.choose;split
  ·left;show k<_;simp
  ·rcases ih (k+1) st with h|h
   ·left;simp;omega
   ·exact .inr h
def Pf(C:RC)(st:I.St)(w:World):Prop:=PS C st w∧∃k,PB C st w k∧k≤C.ts.length
theorem Pf.aJ{C:RC}{st:I.St}{w:World}(h:Pf C st w):lu C.g (Pf C st) w:=fun w' hk=>by
 obtain⟨h1,k,h2,h3⟩:=h
 exact⟨h1.aJ w' hk,k,⟨(hk C.g (Nat.le_refl _)).trans h2.1,h2.2⟩,h3⟩
theorem PS.n{C:RC}{st:I.St}{w:World}(h:PS C st w)(hr:st.r≠[]):Pf C st w:=by
 obtain⟨⟨k,h1⟩,h2⟩:=h;refine⟨⟨⟨k,h1⟩,h2⟩,k,h1,?_⟩;by_cases hk:k≤C.ts.length
 ·exact hk
 ·refine absurd ?_ hr;rw[h1.2.1];exact List.drop_of_length_le (by omega)
theorem Pf.next{C:RC}{st:I.St}{w:World}{x:Int}(h:Pf C st w)(hx:w.cell? ⟨C.g,2,none⟩=some (.i x)):PS C (I.next st) (w.setCell ⟨C.g,2,none⟩ (.i (x+1))):=by
 obtain⟨h1,k,h2,h3⟩:=h;have e:=h2.1.cell 2;rw[hx]at e;simp at e;subst e;exact PS.put h1 ((Ch.refl C.g (C.g+1) w).set (p:=⟨C.g,2,none⟩) (.inl rfl) _) (k':=k+1) (h2.next h3)
theorem Pf.cell{C:RC}{st:I.St}{w:World}(h:Pf C st w):∃k:Nat,w.cell? ⟨C.g,2,none⟩=some (.i (k:Int))∧w.frozen? ⟨C.g,2,none⟩=false∧k≤4096:=by
 obtain⟨h1,k,h2,h3⟩:=h;have e:=h2.1.cell 2;simp at e;have:=C.ok.len;have:=C.small;exact⟨k,e,h2.1.frozen 2,by omega⟩
section
variable{C:RC}{w0 w:World}{own:bO}{its:List It}{st:I.St}{Q:World→Prop}
theorem Fr.n(F:Fr C.g w0 own its (PS C st) w)(hr:st.r≠[]):Fr C.g w0 own its (Pf C st) w:=⟨F.lt,(F.q.n hr).aJ,F.ch,F.own,F.nd,F.its⟩
theorem Fr.un(F:Fr C.g w0 own its (Pf C st) w):Fr C.g w0 own its (PS C st) w:=⟨F.lt,F.q.1.aJ,F.ch,F.own,F.nd,F.its⟩
theorem Fr.next{x:Int}(F:Fr C.g w0 own its (Pf C st) w)(hx:w.cell? ⟨C.g,2,none⟩=some (.i x)):Fr C.g w0 own its (PS C (I.next st)) (w.setCell ⟨C.g,2,none⟩ (.i (x+1))):=
 F.call (F.q.next hx).aJ ((Ch.refl C.g w.heap.size w).set (p:=⟨C.g,2,none⟩) (.inl rfl) _)
theorem GS(x:Int)(n:Nat)(hx:x=(n:Int))(F:Fr C.g w0 own its (PS C st) w):Calls Tryz.prog 26 #[.p C.g,.i x] w fun e w'=>∃s,I.fail C.text.size n st=s∧e=.returned (.tuple #[])∧Fr C.g w0 own its (Pf C s) w':=
 (ru C x n st w F.q hx).mono fun _ _ ⟨h1,h2,h3,h4⟩=>⟨_,rfl,h1,F.call (Pf.aJ ⟨h2,_,h4,Nat.le_refl _⟩) h3⟩
theorem jz(F:Fr C.g w0 own its (PS C st) w){n:Nat}{t:TypeId}{cells:Array Value}(ss:List I.Bs)(hc:cells.toList=ss.map fun s=>Value.string (I.bs s))(hn:n=ss.length)(hm:n≤1000)(hp:0<n):
 Calls Tryz.prog 130 #[.p C.g,.slice (some ⟨w.heap.size,0,none⟩) n n] (w.alloc (.cells cells t)) fun e w'=>∃(i:Nat) (s:I.St),I.choose C.text.size 0 ss st=(i,s)∧i<n∧e=.returned (.i (i:Int))∧Fr C.g w0 own its (PS C s) w':=by
 refine(DK F ss hc hn hm).mono fun e w' ⟨i,s,h1,h2,h3⟩=>⟨i,s,h1,?_,h2,h3⟩
 have:=I.yO C.text.size ss 0 st;rw[h1]at this;simp only at this;omega
theorem kZ{b:Nat}{t:TypeId}{cs:Array Value}(h:Kn w b t cs):ey [(b,.cells cs t (0,0))] w:=fun p hp=>by
 rw[List.mem_singleton.1 hp]
 exact h
theorem qU{g b:Nat}{o:Obj}(h:b≠g):∀p∈[(b,o)],p.1≠g:=fun p hp=>by
 rw[List.mem_singleton.1 hp]
 exact h
theorem iy{g:Nat}:∀p∈([]:List (Nat×Obj)),p.1≠g:=fun p hp=>by cases hp
theorem sS{α:Type}{N:FuncId}{args:Array Value}{Post:RC→World→α×I.St→Ending→World→Prop}{kid:I.St→α×I.St}{n b:Nat}{t:TypeId}{cs:Array Value}(h:∀(st:I.St) (w:World),PS C st w→Kn w b t cs→Calls Tryz.prog N args w (Post C w (kid st))):gM C N args [(b,.cells cs t (0,0))] Post kid n:=
 fun st w _ hp hL=>h st w hp (hL _ List.mem_cons_self)
theorem eU{α:Type}{N:FuncId}{args:Array Value}{Post:RC→World→α×I.St→Ending→World→Prop}{kid:I.St→α×I.St}{n:Nat}(h:∀(st:I.St) (w:World),PS C st w→Calls Tryz.prog N args w (Post C w (kid st))):gM C N args [] Post kid n:=
 fun st w _ hp _=>h st w hp
theorem rI(l:I.Bs):0≤(I.fU l).1∧(I.fU l).1≤9223372036854775807:=by
 unfold I.fU;split
 ·exact rn l
 ·exact⟨Int.le_refl _,by decide⟩
theorem xV(s:ByteArray)(l:I.Bs)(hl:s.data.toList=l)(hs:l.length≤4096)(hn:Lex.jt l)(hr:st.r≠[])(F:Fr C.g w0 own its (PS C st) w):Calls Tryz.prog 240 #[.p C.g,.s s] w fun e w'=>∃(n:Int) (er:Nat) (s':I.St),I.fU l=(n,er)∧(if er=0 then st else I.fail C.text.size 271 st)=s'∧(0≤n∧n≤9223372036854775807)∧e=.returned (.i n)∧Fr C.g w0 own its (Pf C s') w':=by
 subst hl;have hsz:s.size≤281474976710656:=by have:=aH s;omega
 refine(jB C s st w F.q hsz).mono fun e w' h=>?_
 unfold nI at h;rw[I.Em hn]at h;obtain⟨h1,h2,h3,h4⟩:=h;refine⟨(I.fU s.data.toList).1,(I.fU s.data.toList).2,_,rfl,rfl,rI _,h1,F.call (Pf.aJ ?_) h3⟩;by_cases he:(I.fU s.data.toList).2=0
 ·rw[if_pos he]at h2⊢;exact h2.n hr
 ·rw[if_neg he]at h2⊢;exact⟨h2,_,h4 he,Nat.le_refl _⟩
end
section
variable{w w' w0:World}{g b:Nat}{t:TypeId}{cs:Array Value}{own:bO}{its:List It}{Q:World→Prop}
theorem Kn.there(h:Kn w g t cs){n:Nat}(hn:n=cs.size):w.there g 0 n:=fun j hj=>by
 subst hn
 have h1:=h.cell j
 have h2:=h.frozen j
 rw[Nat.zero_add]
 refine⟨?_,h2⟩
 rw[h1]
 simp[hj]
theorem Kn.range(h:Kn w g t cs):w.rangeAt g 0 cs.toList:=fun j v hv=>by
 rw[Nat.zero_add,h.cell j]
 simpa using hv
theorem Kn.bu:∀(vs:List Value) (o:Nat) {w:World} {cs:Array Value},Kn w g t cs→o+vs.length≤cs.size→∃cs':Array Value,Kn (w.setCells g o vs) g t cs'∧cs'.size=cs.size∧(∀j,j<o→cs'[j]?=cs[j]?)∧(∀j,j<vs.length→cs'[o+j]?=vs[j]?)∧(∀j,o+vs.length≤j→cs'[j]?=cs[j]?):=by
 intro vs;induction vs with
 |nil=>intro o w cs h _;exact⟨cs,h,rfl,fun _ _=>rfl,fun j hj=>by simp at hj,fun _ _=>rfl⟩
 |cons v vs ih=>
  intro o w cs h hl;rw[List.length_cons]at hl;obtain⟨cs',h1,h2,h3,h4,h5⟩:=ih (o+1) (h.put o v) (by simp;omega);refine⟨cs',h1,by simpa using h2,fun j hj=>?_,fun j hj=>?_,fun j hj=>?_⟩
  ·rw[h3 j (by omega)];simp[show o≠j by omega]
  ·cases j with
   |zero=>
    have:=h3 o (by omega);rw[Nat.add_zero,this,Array.getElem?_setIfInBounds_self_of_lt (by omega)];rfl
   |succ j=>
    have:=h4 j (by simp at hj;omega);rw[show o+(j+1)=o+1+j by omega,this];simp
  ·rw[List.length_cons]at hj;rw[h5 j (by omega)];simp[show o≠j by omega]
theorem Kn.l8(h:Kn w g t cs)(vs:List Value)(hl:vs.length=cs.size):Kn (w.setCells g 0 vs) g t vs.toArray:=by
 obtain⟨cs',h1,h2,_,h4,_⟩:=Kn.bu vs 0 h (by omega);have:cs'=vs.toArray:=by
  apply Array.ext_getElem?;intro j;by_cases hj:j<vs.length
  ·have:=h4 j hj;rw[Nat.zero_add]at this;rw[this];simp
  ·rw[Array.getElem?_eq_none (by omega),Array.getElem?_eq_none (by simp;omega)]
 rw[←this];exact h1
theorem Ch.bu{r B:Nat}:∀(vs:List Value) (o:Nat) {w:World},Ch r B w0 w→(g=r∨B≤g)→Ch r B w0 (w.setCells g o vs):=by
 intro vs;induction vs with
 |nil=>intro o w h _;exact h
 |cons v vs ih=>intro o w h hg;exact ih (o+1) (h.set (p:=⟨g,o,none⟩) hg v) hg
theorem Fr.mR(h:Fr g w0 ((b,t,cs)::own) its Q w)(vs:List Value)(hl:vs.length=cs.size):Fr g w0 ((b,t,vs.toArray)::own) its Q (w.setCells b 0 vs):=
 h.gu (Ch.bu vs 0 (Ch.refl b w.heap.size w) (.inl rfl)) (h.ab.l8 vs hl)
theorem Fr.bS{p:Nat×TypeId×Array Value}(h:Fr g w0 (p::(b,t,cs)::own) its Q w)(vs:List Value)(hl:vs.length=cs.size):Fr g w0 (p::(b,t,vs.toArray)::own) its Q (w.setCells b 0 vs):=(h.swap.mR vs hl).swap
end
noncomputable def PV {α:Type} (x y:α):Bool:= @decide (x=y) (Classical.propDecidable _)
theorem bH{α:Type}{x y:α}(h:x=y):PV x y=true:= @decide_eq_true _ (Classical.propDecidable _) h
theorem ep{α:Type}{x y:α}(h:x≠y):PV x y=false:= @decide_eq_false _ (Classical.propDecidable _) h
theorem Bo{α:Type}{x y:α}(h:PV x y=true):x=y:= @of_decide_eq_true _ (Classical.propDecidable _) h
theorem xW{α:Type}{x y:α}(h:PV x y=false):x≠y:= @of_decide_eq_false _ (Classical.propDecidable _) h
theorem CW{α:Type}(x:α):PV x x=true:=bH rfl
theorem FV{α:Type}{xs ys:List α}(h:xs.length≠ys.length):PV xs ys=false:=ep fun e=>h (by rw[e])
theorem wP{α:Type}{xs ys:List α}{k:Nat}{x y:α}(h1:xs[k]?=some x)(h2:ys[k]?=some y)(h:PV x y=false):PV xs ys=false:=ep fun e=>by
 rw[e,h2]at h1
 injection h1 with h1
 exact xW h h1.symm
theorem qS{α:Type}{xs ys:List α}{k:Nat}{x y:α}(ht:xs.take k=ys.take k)(h1:xs[k]?=some x)(h2:ys[k]?=some y)(h:PV x y=true):xs.take (k+1)=ys.take (k+1):=by
 have e:=Bo h;subst e;rw[List.take_add_one,List.take_add_one,ht,h1,h2]
theorem ra{α:Type}{xs ys:List α}{k:Nat}(ht:xs.take k=ys.take k)(h1:xs.length=k)(h2:ys.length=k):PV xs ys=true:=by
 rw[List.take_of_length_le (by omega),List.take_of_length_le (by omega)]at ht;exact bH ht
def PW{α:Type}(E:El α)(N:FuncId)(val:List Value→Value)(p:α→Prop):Prop:=∀(w:World) (cs cs':List Value) (x y:α),p x→E.R w (fun b=>b<w.heap.size) cs x→E.R w (fun b=>b<w.heap.size) cs' y→Calls Tryz.prog N #[val cs,val cs'] w fun e w'=>e=.returned (.bool (PV x y))∧Below w.heap.size w w'
def Vs{α:Type}(E:El α)(N:FuncId)(args:Array Value)(p:α→Prop):Prop:=∀(w:World) (v v':Value) (xs ys:List α),(∀x∈xs,p x)→Rr E w (fun b=>b<w.heap.size) v xs→Rr E w (fun b=>b<w.heap.size) v' ys→Calls Tryz.prog N (#[v,v']++args) w fun e w'=>e=.returned (.bool (PV xs ys))∧Below w.heap.size w w'
def Sp(N:FuncId):Prop:=∀(w:World) (a b:Value),(callFunc N #[a,b]).run Tryz.prog w=.ok (.enter N #[a,b]) w
theorem Bg{w w':World}{b:Nat}(h:Below w.heap.size w w')(hb:b<w.heap.size):b<w'.heap.size:=Nat.lt_of_lt_of_le hb h.size
theorem Rr.up{α:Type}{E:El α}{w w':World}{v:Value}{xs:List α}(h:Rr E w (fun b=>b<w.heap.size) v xs)(hb:Below w.heap.size w w'):Rr E w' (fun b=>b<w'.heap.size) v xs:=h.hp (fun _ hg=>Bg hb hg) fun b hg=>hb.block b hg
theorem El.up{α:Type}{E:El α}{w w':World}{cs:List Value}{x:α}(h:E.R w (fun b=>b<w.heap.size) cs x)(hb:Below w.heap.size w w'):E.R w' (fun b=>b<w'.heap.size) cs x:=El.hp h (fun _ hg=>Bg hb hg) fun b hg=>hb.block b hg
theorem Rr.range{α:Type}{E:El α}{w:World}{v:Value}{xs:List α}{i:Nat}(h:Rr E w (fun b=>b<w.heap.size) v xs)(hi:i<xs.length):∃g off c x cs,v=.slice (some ⟨g,off,none⟩) xs.length c∧xs.length≤c∧c≤9223372036854775807∧g<w.heap.size∧xs[i]?=some x∧E.R w (fun b=>b<w.heap.size) cs x∧cs.length=E.k∧w.rangeAt g (off+i*E.k) cs:=by
 obtain⟨A,c,rfl,h1,h2,h3⟩:=h;obtain⟨g,off,rfl,hg,_,hc⟩:=h3 (by omega);obtain⟨cs,hr,hcell⟩:=hc i xs[i] (List.getElem?_eq_getElem hi);exact⟨g,off,c,xs[i],cs,rfl,h1,h2,hg,List.getElem?_eq_getElem hi,hr,E.len hr,fun j u hu=>hcell j u hu⟩
theorem rangeAt.up{w w':World}{g o:Nat}{cs:List Value}(h:w.rangeAt g o cs)(hg:g<w.heap.size)(hb:Below w.heap.size w w'):w'.rangeAt g o cs:=fun j v hv=>(hb.cell (p:=⟨g,o+j,none⟩) hg).trans (h j v hv)
theorem Ch.toBelow{g B:Nat}{w w':World}(h:Ch g B w w')(hg:B≤g):Below B w w':=⟨h.os,h.tape,h.output,h.size,fun k hk=>h.block k hk (by omega)⟩
theorem Ch.lh{g B:Nat}{w w':World}(h:Below B w w'):Ch g B w w':=⟨h.os,h.tape,h.output,h.size,fun k hk _=>h.block k hk⟩
end Go.Proofs.YtnicfobpclehkaaGreatDoor
