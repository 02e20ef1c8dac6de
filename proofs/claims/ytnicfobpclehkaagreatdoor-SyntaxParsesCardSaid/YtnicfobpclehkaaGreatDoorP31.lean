import Derived.Test.YtnicfobpclehkaaGreatDoorP30
set_option maxHeartbeats 3200000
set_option linter.unusedVariables false
set_option linter.unusedSimpArgs false
namespace Go.Proofs.YtnicfobpclehkaaGreatDoor
open Go.RowKit
section
set_option maxRecDepth 100000
theorem I.nF{t:Lex.Tok}{r:List Lex.Tok}{st:I.St}(hr:st.r=t::r)(s:I.Bs):I.ae s st=((decide (t.1=1)||decide (t.1=5))&&decide (t.2.1=s)):=by unfold I.ae I.hit;rw[hr]
theorem I.aA(s:I.Bs)(o:UInt8)(l:List (I.Bs×UInt8))(st:I.St):I.one ((s,o)::l) st=if I.ae s st=true then(o,I.next st)else I.one l st:=rfl
theorem Co{C:RC}{st:I.St}{w:World}(h:RS C st w):I.one I.fF st=if(I.dV st).1=5∧I.et (I.dV st).2.1≠0 then(I.et (I.dV st).2.1,I.next st)else(0,st):=by
 cases hr:st.r with
 |nil=>
  have:I.dV st=(0,[],0):=by unfold I.dV;rw[hr]
  rw[this,if_neg (fun q=>absurd q.1 (by decide)),I.ny hr]
 |cons t r=>
  have hT:I.dV st=t:=by unfold I.dV;rw[hr]
  have hok:=h.tok hr;have ha:=fun s=>I.nF (st:=st) hr s
  rw[hT];obtain⟨tk,tx,ta⟩:=t;simp only at ha hok⊢;unfold I.fF;by_cases h5:tk=5
  ·subst h5;have hy:∀s,tx=s→I.ae s st=true:=fun s e=>by rw[ha,e];simp
   have hn:∀s,¬tx=s→I.ae s st=false:=fun s e=>by rw[ha];simp[e]
   by_cases q0:tx=[61]
   ·rw[I.aA,if_pos (hy _ q0)];subst q0;rw[if_pos ⟨rfl,by decide⟩];rfl
   by_cases q1:tx=[60,62]
   ·rw[I.aA,if_neg (by rw[hn _ q0];decide),I.aA,if_pos (hy _ q1)];subst q1;rw[if_pos ⟨rfl,by decide⟩];rfl
   by_cases q2:tx=[60]
   ·rw[I.aA,if_neg (by rw[hn _ q0];decide),I.aA,if_neg (by rw[hn _ q1];decide),I.aA,if_pos (hy _ q2)];subst q2;rw[if_pos ⟨rfl,by decide⟩];rfl
   by_cases q3:tx=[60,61]
   ·rw[I.aA,if_neg (by rw[hn _ q0];decide),I.aA,if_neg (by rw[hn _ q1];decide),I.aA,if_neg (by rw[hn _ q2];decide),I.aA,if_pos (hy _ q3)];subst q3;rw[if_pos ⟨rfl,by decide⟩];rfl
   by_cases q4:tx=[62]
   ·rw[I.aA,if_neg (by rw[hn _ q0];decide),I.aA,if_neg (by rw[hn _ q1];decide),I.aA,if_neg (by rw[hn _ q2];decide),I.aA,if_neg (by rw[hn _ q3];decide),I.aA,if_pos (hy _ q4)];subst q4;rw[if_pos ⟨rfl,by decide⟩];rfl
   by_cases q5:tx=[62,61]
   ·rw[I.aA,if_neg (by rw[hn _ q0];decide),I.aA,if_neg (by rw[hn _ q1];decide),I.aA,if_neg (by rw[hn _ q2];decide),I.aA,if_neg (by rw[hn _ q3];decide),I.aA,if_neg (by rw[hn _ q4];decide),I.aA,if_pos (hy _ q5)];subst q5;rw[if_pos ⟨rfl,by decide⟩];rfl
   rw[I.aA,if_neg (by rw[hn _ q0];decide),I.aA,if_neg (by rw[hn _ q1];decide),I.aA,if_neg (by rw[hn _ q2];decide),I.aA,if_neg (by rw[hn _ q3];decide),I.aA,if_neg (by rw[hn _ q4];decide),I.aA,if_neg (by rw[hn _ q5];decide)];rw[if_neg]
   ·rfl
   ·rintro⟨_,q⟩;apply q;unfold I.et;rw[if_neg q0,if_neg q1,if_neg q2,if_neg q3,if_neg q4,if_neg q5]
  ·have hno:∀s∈([[61],[60,62],[60],[60,61],[62],[62,61]]:List I.Bs),I.ae s st=false:=fun s hs=>by
    rw[ha]
    by_cases h1:tk=1
    ·have hw:=hok.2.2.2.1 h1;rw[Bool.and_eq_false_iff];right;refine decide_eq_false fun e=>?_
     rw[e]at hw;simp only[List.mem_cons,List.not_mem_nil,or_false]at hs;rcases hs with rfl|rfl|rfl|rfl|rfl|rfl<;>exact absurd hw (by decide)
    ·simp[h1,h5]
   rw[if_neg (fun q=>h5 q.1)];simp only[I.one,hno [61] (by simp),hno [60,62] (by simp),hno [60] (by simp),hno [60,61] (by simp),hno [62] (by simp),hno [62,61] (by simp),Bool.false_eq_true,if_false]
theorem nU(C:RC)(X:I.St→Ev.Ex×I.St)(hX:Rp.NF X)(n:Nat)(hK:ig C 259 #[.p C.g] (Rp.sum C.text.size X) n)(st:I.St)(w:World)(h:RS C st w)(hn:st.r.length≤n):
 Calls Tryz.prog 250 #[.p C.g] w (ER Kr C w (Rp.cmp C.text.size X st)):=by
 have HK:=aa hK;have HX:=aa hX;clear hK hX;have F0:=aa (Fr.start h.lt h.aJ);clear h;go_enter Tryz.func250,Tryz.ntmps250;have K8:=aa (F0.o.new 50 #[.b,.b,.o,.e,.e,.e,.o,.z]);go_wp2_with fail
 with_reducible refine(HK.o.f K8.o hn).mono ?_
 rintro e w1 ⟨h1,A1,m1,c1,x1,s1,(X1:Hid _),rfl,(F1:Hid _)⟩;have hl1:=(Rp.I7 (T:=C.text.size) HX.o).aF F0.o.q.inv;rw[X1.o]at hl1;simp only at hl1;replace hl1:=hl1.1;go_upto_region 2 with fail
 have F2:=aa (F1.o.new 50 #[.u (h1.o.toNat:Int),.u (h1.v.k.toNat:Int),.i h1.v.n,.s h1.v.s,.s h1.nm,.s h1.of,.i h1.n,.slice A1 m1 c1]);obtain⟨w2,hw⟩:=aab (w1.alloc (.cells #[.u (h1.o.toNat:Int),.u (h1.v.k.toNat:Int),.i h1.v.n,.s h1.v.s,.s h1.nm,.s h1.of,.i h1.n,.slice A1 m1 c1] 50));obtain⟨g2,hg⟩:=aab w1.heap.size;rw[←hw,←hg]at F2;rw[←hw,←hg];clear hw hg;go_wp2_with fail
 with_reducible refine(gZ F2.o).mono ?_
 rintro e w3 ⟨t3,Rl,rfl,hF⟩;have T3:=aa Rl;have F3:=aa hF;clear hF Rl;obtain⟨tk,tx,ta⟩:=t3;unfold gd;simp only;go_upto_region 3 with fail
 have F4:=aa (F3.o.new 113 #[.u (tk.toNat:Int),.s ⟨tx.toArray⟩,.i (ta:Int)]);obtain⟨w4,hw⟩:=aab (w3.alloc (.cells #[.u (tk.toNat:Int),.s ⟨tx.toArray⟩,.i (ta:Int)] 113));obtain⟨g4,hg⟩:=aab w3.heap.size;rw[←hw,←hg]at F4;rw[←hw,←hg];clear hw hg;obtain⟨c0,c1,c2⟩:=F4.o.ab.Y3;simp at c0 c1 c2;have HC:=aa (Co F4.o.q);rw[T3.o]at HC;simp only at HC;obtain⟨o,ho⟩:=aab (I.et tx);rw[←ho]at HC;have HO:=aa ho;clear ho;go_wp2_with fail
 with_reducible refine(yl ⟨tx.toArray⟩ _).mono ?_
 rintro e w5 ⟨rfl,rfl⟩;rw[show(⟨tx.toArray⟩:ByteArray).data.toList=tx by simp,←HO.o];by_cases hk:tk=5∧o≠0
 ·have k5:((tk.toNat:Int)==5)=true:=by rw[hk.1];decide
  have k0:((o.toNat:Int) !=0)=true:=iz (b:=0) hk.2;have KJ:=aa (HC.o.trans (if_pos hk));have hne:s1.r≠[]:=by
   intro e;have h2:=T3.o;unfold I.dV at h2;rw[e]at h2;simp only at h2;injection h2 with e1 _
   rw[hk.1]at e1;exact absurd e1 (by decide)
  clear hk;obtain⟨pk,hpk,hpz,hpl⟩:=F4.o.q.cell;have hb0:=(F4.o.own _ List.mem_cons_self).1;have hb1:=(F4.o.own _ (List.mem_cons_of_mem _ List.mem_cons_self)).1;have hbl:=F4.o.lt;simp only at hb0 hb1;have n1:¬C.g=g4:=by omega
  have n2:¬g4=C.g:=by omega
  have n3:¬C.g=g2:=by omega
  have n4:¬g2=C.g:=by omega
  clear hb0 hb1 hbl;go_upto_region 6 with fail
  have F5:=aa (F4.o.fj hne hpk);obtain⟨w5,hw⟩:=aab (w4.setCell ⟨C.g,1,none⟩ (.i ((pk:Int)+1)));rw[←hw]at F5⊢;clear hw hpk hpz hpl n1 n2 n3 n4;clear hne c0 c1 c2;have hlen:=I.aE s1;have Ks:=F5.o.ah.Y8;simp at Ks;go_wp2_with fail
  go_region_with ((with_reducible refine(HK.o.fd F5.o (by omega)).mono ?_);rintro e w6 ⟨h7,A7,m7,c7,x7,s7,Rj,rfl,hF⟩;have X7:=aa Rj;have F6:=aa hF;have Vk:=hF.aS.lt;have S1:=hF.ah.lt;clear Rj hF;have u0:=F6.o.ah.cell 0;have u1:=F6.o.ah.cell 1;have u2:=F6.o.ah.cell 2;have u3:=F6.o.ah.cell 3;have u4:=F6.o.ah.cell 4;have u5:=F6.o.ah.cell 5;have u6:=F6.o.ah.cell 6;have u7:=F6.o.ah.cell 7;simp at u0 u1 u2 u3 u4 u5 u6 u7;have y0:=F6.o.aS.cell 0;have y1:=F6.o.aS.cell 1;have y2:=F6.o.aS.cell 2;have y3:=F6.o.aS.cell 3;have y4:=F6.o.aS.cell 4;have y5:=F6.o.aS.cell 5;have y6:=F6.o.aS.cell 6;have y7:=F6.o.aS.cell 7;simp at y0 y1 y2 y3 y4 y5 y6 y7;have z0:=F6.o.aS.frozen 0;have z1:=F6.o.aS.frozen 1;have z2:=F6.o.aS.frozen 2;have z3:=F6.o.aS.frozen 3;have z4:=F6.o.aS.frozen 4;have z5:=F6.o.aS.frozen 5;have z6:=F6.o.aS.frozen 6;have z7:=F6.o.aS.frozen 7)
  all_goals
   have FB:=aa (Fr.bin o F6.o.rot (bd (Ch.refl _ _ _) (.inl rfl) _ _ _ _ _ _ _ _) (aW F6.o.aS _ _ _ _ _ _ _ _) (by simp) (t':=50))
   have HS:Hid (Rp.cmp C.text.size X st=(I.bin o x1 x7,s7)):=by show _=_;unfold Rp.cmp Rp.fv;rw[X1.o];simp only;rw[KJ.o];simp only;rw[if_neg (show¬o=0 from fun e=>by rw[e]at k0;exact absurd k0 (by decide)),X7.o]
   clear F6 F5 Ks u0 u1 u2 u3 u4 u5 u6 u7 y0 y1 y2 y3 y4 y5 y6 y7 z0 z1 z2 z3 z4 z5 z6 z7 KJ HC
   obtain⟨w8,hw⟩:=aab (((((((((w6.setCell ⟨w.heap.size,0,none⟩ (.u (o.toNat:Int))).setCell ⟨w.heap.size,1,none⟩ .b).setCell ⟨w.heap.size,2,none⟩ .o).setCell ⟨w.heap.size,3,none⟩ .e).setCell ⟨w.heap.size,4,none⟩ .e).setCell ⟨w.heap.size,5,none⟩ .e).setCell ⟨w.heap.size,6,none⟩ .o).setCell ⟨w.heap.size,7,none⟩ (.slice (some ⟨w6.heap.size,0,none⟩) 2 2)).alloc (.cells #[.u (h1.o.toNat:Int),.u (h1.v.k.toNat:Int),.i h1.v.n,.s h1.v.s,.s h1.nm,.s h1.of,.i h1.n,.slice A1 m1 c1,.u (h7.o.toNat:Int),.u (h7.v.k.toNat:Int),.i h7.v.n,.s h7.v.s,.s h7.nm,.s h7.of,.i h7.n,.slice A7 m7 c7] 50))
   have FB8:Hid (Fr C.g w _ _ _ w8):=hw▸FB
   rw[←hw]
   clear hw FB
   go_wp2_with fail
   refine bodyPost_ret (v:=.agg #[.u (o.toNat:Int),.b,.o,.e,.e,.e,.o,.slice (some ⟨w6.heap.size,0,none⟩) 2 2]) (results_cell_row rfl _ _ w.heap.size 50 _ (0,0) _ rfl FB8.o.ab ao rfl aj) rfl ?_
   rw[HS.o]
   exact FB8.o.aK (E:=Kr) FB8.o.Kx
 ·have KJ:=aa (HC.o.trans (if_neg hk));have kk:(((tk.toNat:Int)==5)=false)∨(((tk.toNat:Int)==5)=true∧((o.toNat:Int) !=0)=false):=by
   by_cases h5:tk=5
   ·right;refine⟨by rw[h5];decide,?_⟩;have:o=0:=by
     by_cases h0:o=0
     ·exact h0
     ·exact absurd ⟨h5,h0⟩ hk
    rw[this];decide
   ·left;refine beq_eq_false_iff_ne.2 fun e=>h5 (UInt8.toNat_inj.1 ?_)
    show tk.toNat=5;omega
  clear hk;rcases kk with k5|⟨k5,k0⟩
  ·skip;go_wp2_with fail
   with_reducible refine(aG ⟨#[105,115]⟩ [105,115] rfl F4.o).mono ?_
   rintro e w5 ⟨b,hb,rfl,hF⟩;cases b with
   |true=>
    have Ku:=aa hb;have F5:Hid (Fr C.g w _ _ (RS C (I.next s1)) w5):=hF;clear hF hb;clear c0 c1 c2;go_wp2_with fail
    with_reducible refine(aG ⟨#[110,111,116]⟩ [110,111,116] rfl F5.o).mono ?_
    rintro e w6 ⟨b,hb,rfl,hF⟩;obtain⟨s2,hs2⟩:∃s,s=(if b=true then I.next (I.next s1)else I.next s1):=⟨_,rfl⟩;rw[←hs2]at hF;have F6:=aa hF;have HB:=aa hb;have Xe:=aa hs2;clear hF hb hs2;go_wp2_with fail
    with_reducible refine(aN F6.o (n:=1) (cells:=#[.s ⟨#[110,117,108,108]⟩]) [[110,117,108,108]] rfl rfl (by decide)).mono ?_
    rintro e w7 ⟨s3,(E3:Hid _),rfl,hF⟩;have F7:=aa hF;clear hF;have cj2:=F7.o.ah.Y8;simp at cj2;obtain⟨w8,hw⟩:=aac (w7.alloc (.cells #[.u (h1.o.toNat:Int),.u (h1.v.k.toNat:Int),.i h1.v.n,.s h1.v.s,.s h1.nm,.s h1.of,.i h1.n,.slice A1 m1 c1] 50));have F8:=hw▸aa (Fr.ff (E:=Kr) (cs:=[.u (h1.o.toNat:Int),.u (h1.v.k.toNat:Int),.i h1.v.n,.s h1.v.s,.s h1.nm,.s h1.of,.i h1.n,.slice A1 m1 c1]) F7.o 50);have K0:=F8.o.ah.Y8;simp at K0;obtain⟨Qk,M9,Mb,Mt,Oj,Ph,OB,NK⟩:=F8.o.ah.Z8;have hzz:=F8.o.ah.lt;go_upto_region 12 with fail
    have SH:=aa ((((((((F8.o.iq 0 (.u 16) (cs':=#[.u 16,.u (h1.v.k.toNat:Int),.i h1.v.n,.s h1.v.s,.s h1.nm,.s h1.of,.i h1.n,.slice A1 m1 c1]) rfl).iq 1 .b (cs':=#[.u 16,.b,.i h1.v.n,.s h1.v.s,.s h1.nm,.s h1.of,.i h1.n,.slice A1 m1 c1]) rfl).iq 2 .o (cs':=#[.u 16,.b,.o,.s h1.v.s,.s h1.nm,.s h1.of,.i h1.n,.slice A1 m1 c1]) rfl).iq 3 .e (cs':=#[.u 16,.b,.o,.e,.s h1.nm,.s h1.of,.i h1.n,.slice A1 m1 c1]) rfl).iq 4 .e (cs':=#[.u 16,.b,.o,.e,.e,.s h1.of,.i h1.n,.slice A1 m1 c1]) rfl).iq 5 .e (cs':=#[.u 16,.b,.o,.e,.e,.e,.i h1.n,.slice A1 m1 c1]) rfl).iq 6 .o (cs':=#[.u 16,.b,.o,.e,.e,.e,.o,.slice A1 m1 c1]) rfl).iq 7 (.slice (some ⟨w7.heap.size,0,none⟩) 1 1) (cs':=#[.u 16,.b,.o,.e,.e,.e,.o,.slice (some ⟨w7.heap.size,0,none⟩) 1 1]) rfl);obtain⟨w9,hw2⟩:=aab (((((((((w8.setCell ⟨g2,0,none⟩ (.u 16)).setCell ⟨g2,1,none⟩ .b).setCell ⟨g2,2,none⟩ .o).setCell ⟨g2,3,none⟩ .e).setCell ⟨g2,4,none⟩ .e).setCell ⟨g2,5,none⟩ .e).setCell ⟨g2,6,none⟩ .o).setCell ⟨g2,7,none⟩ (.slice (some ⟨w7.heap.size,0,none⟩) 1 1)));rw[←hw2]at SH⊢;have F9:=aa (SH.o.item (It.el Kr [.u 16,.b,.o,.e,.e,.e,.o,.slice (some ⟨w7.heap.size,0,none⟩) 1 1] (I.un 16 x1)) (Fr.RV 16 rfl SH.o));clear SH hw2 hw K0 Qk M9 Mb Mt Oj Ph OB NK;cases b with
    |false=>
     have Lf:Hid (Rp.cmp C.text.size X st=(I.un 16 x1,s3)):=by show _=_;unfold Rp.cmp Rp.fv;rw[X1.o];simp only;rw[KJ.o];simp only[if_true,Ku.o];unfold I.Ng;rw[HB.o];have e3:=E3.o;have e2:=Xe.o;simp only[Bool.false_eq_true,if_false]at e2⊢;rw[←e3,e2]
     have Le:=F9.o.ah.Y8;simp at Le;have Ly:=F9.o.aS.Y8;simp at Ly;obtain⟨KQ,KS,KT,K4,K5,K6,K7,K9⟩:=F9.o.aS.Z8;go_wp2_with fail
     have FZ:=aa (F9.o.lq (bd (Ch.refl _ _ _) (.inl rfl) (.u 16) .b .o .e .e .e .o (.slice (some ⟨w7.heap.size,0,none⟩) 1 1)) (aW F9.o.aS (.u 16) .b .o .e .e .e .o (.slice (some ⟨w7.heap.size,0,none⟩) 1 1)));refine bodyPost_ret (v:=.agg #[.u 16,.b,.o,.e,.e,.e,.o,.slice (some ⟨w7.heap.size,0,none⟩) 1 1]) (results_cell_row rfl _ _ w.heap.size 50 _ (0,0) _ rfl FZ.o.aS ao rfl aj) rfl ?_;rw[Lf.o];exact FZ.o.aK (E:=Kr) (cs:=[.u 16,.b,.o,.e,.e,.e,.o,.slice (some ⟨w7.heap.size,0,none⟩) 1 1]) (FZ.o.Kx)
    |true=>
     have Lf:Hid (Rp.cmp C.text.size X st=(I.un 15 (I.un 16 x1),s3)):=by show _=_;unfold Rp.cmp Rp.fv;rw[X1.o];simp only;rw[KJ.o];simp only[if_true,Ku.o];unfold I.Ng;rw[HB.o];have e3:=E3.o;have e2:=Xe.o;simp only[if_true]at e2⊢;rw[←e3,e2]
     have Mj:=F9.o.ah.Y8;simp at Mj;obtain⟨Lo,hw⟩:=aac (w9.alloc (.cells #[.u 16,.b,.o,.e,.e,.e,.o,.slice (some ⟨w7.heap.size,0,none⟩) 1 1] 50));have KC:=hw▸aa (Fr.ff (E:=Kr) (cs:=[.u 16,.b,.o,.e,.e,.e,.o,.slice (some ⟨w7.heap.size,0,none⟩) 1 1]) F9.o 50);have hzz2:=KC.o.aS.lt;have MY:=KC.o.aS.Y8;simp at MY;obtain⟨KQ,KS,KT,K4,K5,K6,K7,K9⟩:=KC.o.aS.Z8;go_wp2_with fail
     have FZ:=aa (KC.o.lq (bd (Ch.refl _ _ _) (.inl rfl) (.u 15) .b .o .e .e .e .o (.slice (some ⟨w9.heap.size,0,none⟩) 1 1)) (aW KC.o.aS (.u 15) .b .o .e .e .e .o (.slice (some ⟨w9.heap.size,0,none⟩) 1 1)));refine bodyPost_ret (v:=.agg #[.u 15,.b,.o,.e,.e,.e,.o,.slice (some ⟨w9.heap.size,0,none⟩) 1 1]) (results_cell_row rfl _ _ w.heap.size 50 _ (0,0) _ rfl FZ.o.aS ao rfl aj) rfl ?_;rw[Lf.o];exact FZ.o.aK (E:=Kr) (cs:=[.u 15,.b,.o,.e,.e,.e,.o,.slice (some ⟨w9.heap.size,0,none⟩) 1 1]) (Fr.RV 15 rfl FZ.o)
   |false=>
    have Ku:=aa hb;have F5:Hid (Fr C.g w _ _ (RS C s1) w5):=hF;clear hF hb;have Lf:Hid (Rp.cmp C.text.size X st=(x1,s1)):=by show _=_;unfold Rp.cmp Rp.fv;rw[X1.o];simp only;rw[KJ.o];simp only[if_true,Ku.o,Bool.false_eq_true,if_false]
    clear c0 c1 c2;have NP:=F5.o.ah.Y8;simp at NP;have NQ:=F5.o.aS.Y8;simp at NQ;obtain⟨KQ,KS,KT,K4,K5,K6,K7,K9⟩:=F5.o.aS.Z8;go_wp2_with fail
    have FZ:=aa (F5.o.lq (bd (Ch.refl _ _ _) (.inl rfl) (.u (h1.o.toNat:Int)) (.u (h1.v.k.toNat:Int)) (.i h1.v.n) (.s h1.v.s) (.s h1.nm) (.s h1.of) (.i h1.n) (.slice A1 m1 c1)) (aW F5.o.aS (.u (h1.o.toNat:Int)) (.u (h1.v.k.toNat:Int)) (.i h1.v.n) (.s h1.v.s) (.s h1.nm) (.s h1.of) (.i h1.n) (.slice A1 m1 c1)));refine bodyPost_ret (v:=.agg #[.u (h1.o.toNat:Int),.u (h1.v.k.toNat:Int),.i h1.v.n,.s h1.v.s,.s h1.nm,.s h1.of,.i h1.n,.slice A1 m1 c1]) (results_cell_row rfl _ _ w.heap.size 50 _ (0,0) _ rfl FZ.o.aS ao rfl aj) rfl ?_;rw[Lf.o];exact FZ.o.aK (E:=Kr) (cs:=[.u (h1.o.toNat:Int),.u (h1.v.k.toNat:Int),.i h1.v.n,.s h1.v.s,.s h1.nm,.s h1.of,.i h1.n,.slice A1 m1 c1]) (FZ.o.Kx)
  ·skip;go_wp2_with fail
   with_reducible refine(aG ⟨#[105,115]⟩ [105,115] rfl F4.o).mono ?_
   rintro e w5 ⟨b,hb,rfl,hF⟩;cases b with
   |true=>
    have Ku:=aa hb;have F5:Hid (Fr C.g w _ _ (RS C (I.next s1)) w5):=hF;clear hF hb;clear c0 c1 c2;go_wp2_with fail
    with_reducible refine(aG ⟨#[110,111,116]⟩ [110,111,116] rfl F5.o).mono ?_
    rintro e w6 ⟨b,hb,rfl,hF⟩;obtain⟨s2,hs2⟩:∃s,s=(if b=true then I.next (I.next s1)else I.next s1):=⟨_,rfl⟩;rw[←hs2]at hF;have F6:=aa hF;have HB:=aa hb;have Xe:=aa hs2;clear hF hb hs2;go_wp2_with fail
    with_reducible refine(aN F6.o (n:=1) (cells:=#[.s ⟨#[110,117,108,108]⟩]) [[110,117,108,108]] rfl rfl (by decide)).mono ?_
    rintro e w7 ⟨s3,(E3:Hid _),rfl,hF⟩;have F7:=aa hF;clear hF;have M1:=F7.o.ah.Y8;simp at M1;obtain⟨w8,hw⟩:=aac (w7.alloc (.cells #[.u (h1.o.toNat:Int),.u (h1.v.k.toNat:Int),.i h1.v.n,.s h1.v.s,.s h1.nm,.s h1.of,.i h1.n,.slice A1 m1 c1] 50));have F8:=hw▸aa (Fr.ff (E:=Kr) (cs:=[.u (h1.o.toNat:Int),.u (h1.v.k.toNat:Int),.i h1.v.n,.s h1.v.s,.s h1.nm,.s h1.of,.i h1.n,.slice A1 m1 c1]) F7.o 50);have NB:=F8.o.ah.Y8;simp at NB;obtain⟨Qk,M9,Mb,Mt,Oj,Ph,OB,NK⟩:=F8.o.ah.Z8;have hzz:=F8.o.ah.lt;go_upto_region 12 with fail
    have SH:=aa ((((((((F8.o.iq 0 (.u 16) (cs':=#[.u 16,.u (h1.v.k.toNat:Int),.i h1.v.n,.s h1.v.s,.s h1.nm,.s h1.of,.i h1.n,.slice A1 m1 c1]) rfl).iq 1 .b (cs':=#[.u 16,.b,.i h1.v.n,.s h1.v.s,.s h1.nm,.s h1.of,.i h1.n,.slice A1 m1 c1]) rfl).iq 2 .o (cs':=#[.u 16,.b,.o,.s h1.v.s,.s h1.nm,.s h1.of,.i h1.n,.slice A1 m1 c1]) rfl).iq 3 .e (cs':=#[.u 16,.b,.o,.e,.s h1.nm,.s h1.of,.i h1.n,.slice A1 m1 c1]) rfl).iq 4 .e (cs':=#[.u 16,.b,.o,.e,.e,.s h1.of,.i h1.n,.slice A1 m1 c1]) rfl).iq 5 .e (cs':=#[.u 16,.b,.o,.e,.e,.e,.i h1.n,.slice A1 m1 c1]) rfl).iq 6 .o (cs':=#[.u 16,.b,.o,.e,.e,.e,.o,.slice A1 m1 c1]) rfl).iq 7 (.slice (some ⟨w7.heap.size,0,none⟩) 1 1) (cs':=#[.u 16,.b,.o,.e,.e,.e,.o,.slice (some ⟨w7.heap.size,0,none⟩) 1 1]) rfl);obtain⟨w9,hw2⟩:=aab (((((((((w8.setCell ⟨g2,0,none⟩ (.u 16)).setCell ⟨g2,1,none⟩ .b).setCell ⟨g2,2,none⟩ .o).setCell ⟨g2,3,none⟩ .e).setCell ⟨g2,4,none⟩ .e).setCell ⟨g2,5,none⟩ .e).setCell ⟨g2,6,none⟩ .o).setCell ⟨g2,7,none⟩ (.slice (some ⟨w7.heap.size,0,none⟩) 1 1)));rw[←hw2]at SH⊢;have F9:=aa (SH.o.item (It.el Kr [.u 16,.b,.o,.e,.e,.e,.o,.slice (some ⟨w7.heap.size,0,none⟩) 1 1] (I.un 16 x1)) (Fr.RV 16 rfl SH.o));clear SH hw2 hw NB Qk M9 Mb Mt Oj Ph OB NK;cases b with
    |false=>
     have Lf:Hid (Rp.cmp C.text.size X st=(I.un 16 x1,s3)):=by show _=_;unfold Rp.cmp Rp.fv;rw[X1.o];simp only;rw[KJ.o];simp only[if_true,Ku.o];unfold I.Ng;rw[HB.o];have e3:=E3.o;have e2:=Xe.o;simp only[Bool.false_eq_true,if_false]at e2⊢;rw[←e3,e2]
     have Nn:=F9.o.ah.Y8;simp at Nn;have QK:=F9.o.aS.Y8;simp at QK;obtain⟨KQ,KS,KT,K4,K5,K6,K7,K9⟩:=F9.o.aS.Z8;go_wp2_with fail
     have FZ:=aa (F9.o.lq (bd (Ch.refl _ _ _) (.inl rfl) (.u 16) .b .o .e .e .e .o (.slice (some ⟨w7.heap.size,0,none⟩) 1 1)) (aW F9.o.aS (.u 16) .b .o .e .e .e .o (.slice (some ⟨w7.heap.size,0,none⟩) 1 1)));refine bodyPost_ret (v:=.agg #[.u 16,.b,.o,.e,.e,.e,.o,.slice (some ⟨w7.heap.size,0,none⟩) 1 1]) (results_cell_row rfl _ _ w.heap.size 50 _ (0,0) _ rfl FZ.o.aS ao rfl aj) rfl ?_;rw[Lf.o];exact FZ.o.aK (E:=Kr) (cs:=[.u 16,.b,.o,.e,.e,.e,.o,.slice (some ⟨w7.heap.size,0,none⟩) 1 1]) (FZ.o.Kx)
    |true=>
     have Lf:Hid (Rp.cmp C.text.size X st=(I.un 15 (I.un 16 x1),s3)):=by show _=_;unfold Rp.cmp Rp.fv;rw[X1.o];simp only;rw[KJ.o];simp only[if_true,Ku.o];unfold I.Ng;rw[HB.o];have e3:=E3.o;have e2:=Xe.o;simp only[if_true]at e2⊢;rw[←e3,e2]
     have Sg:=F9.o.ah.Y8;simp at Sg;obtain⟨Lo,hw⟩:=aac (w9.alloc (.cells #[.u 16,.b,.o,.e,.e,.e,.o,.slice (some ⟨w7.heap.size,0,none⟩) 1 1] 50));have KC:=hw▸aa (Fr.ff (E:=Kr) (cs:=[.u 16,.b,.o,.e,.e,.e,.o,.slice (some ⟨w7.heap.size,0,none⟩) 1 1]) F9.o 50);have hzz2:=KC.o.aS.lt;have TM:=KC.o.aS.Y8;simp at TM;obtain⟨KQ,KS,KT,K4,K5,K6,K7,K9⟩:=KC.o.aS.Z8;go_wp2_with fail
     have FZ:=aa (KC.o.lq (bd (Ch.refl _ _ _) (.inl rfl) (.u 15) .b .o .e .e .e .o (.slice (some ⟨w9.heap.size,0,none⟩) 1 1)) (aW KC.o.aS (.u 15) .b .o .e .e .e .o (.slice (some ⟨w9.heap.size,0,none⟩) 1 1)));refine bodyPost_ret (v:=.agg #[.u 15,.b,.o,.e,.e,.e,.o,.slice (some ⟨w9.heap.size,0,none⟩) 1 1]) (results_cell_row rfl _ _ w.heap.size 50 _ (0,0) _ rfl FZ.o.aS ao rfl aj) rfl ?_;rw[Lf.o];exact FZ.o.aK (E:=Kr) (cs:=[.u 15,.b,.o,.e,.e,.e,.o,.slice (some ⟨w9.heap.size,0,none⟩) 1 1]) (Fr.RV 15 rfl FZ.o)
   |false=>
    have Ku:=aa hb;have F5:Hid (Fr C.g w _ _ (RS C s1) w5):=hF;clear hF hb;have Lf:Hid (Rp.cmp C.text.size X st=(x1,s1)):=by show _=_;unfold Rp.cmp Rp.fv;rw[X1.o];simp only;rw[KJ.o];simp only[if_true,Ku.o,Bool.false_eq_true,if_false]
    clear c0 c1 c2;have VS:=F5.o.ah.Y8;simp at VS;have TN:=F5.o.aS.Y8;simp at TN;obtain⟨KQ,KS,KT,K4,K5,K6,K7,K9⟩:=F5.o.aS.Z8;go_wp2_with fail
    have FZ:=aa (F5.o.lq (bd (Ch.refl _ _ _) (.inl rfl) (.u (h1.o.toNat:Int)) (.u (h1.v.k.toNat:Int)) (.i h1.v.n) (.s h1.v.s) (.s h1.nm) (.s h1.of) (.i h1.n) (.slice A1 m1 c1)) (aW F5.o.aS (.u (h1.o.toNat:Int)) (.u (h1.v.k.toNat:Int)) (.i h1.v.n) (.s h1.v.s) (.s h1.nm) (.s h1.of) (.i h1.n) (.slice A1 m1 c1)));refine bodyPost_ret (v:=.agg #[.u (h1.o.toNat:Int),.u (h1.v.k.toNat:Int),.i h1.v.n,.s h1.v.s,.s h1.nm,.s h1.of,.i h1.n,.slice A1 m1 c1]) (results_cell_row rfl _ _ w.heap.size 50 _ (0,0) _ rfl FZ.o.aS ao rfl aj) rfl ?_;rw[Lf.o];exact FZ.o.aK (E:=Kr) (cs:=[.u (h1.o.toNat:Int),.u (h1.v.k.toNat:Int),.i h1.v.n,.s h1.v.s,.s h1.nm,.s h1.of,.i h1.n,.slice A1 m1 c1]) (FZ.o.Kx)
end
end Go.Proofs.YtnicfobpclehkaaGreatDoor
