import Derived.Test.YtnicfobpclehkaaGreatDoorP21
set_option maxHeartbeats 3200000
set_option linter.unusedVariables false
set_option linter.unusedSimpArgs false
namespace Go.Proofs.YtnicfobpclehkaaGreatDoor
open Go.RowKit
section
set_option maxRecDepth 100000
theorem Fr.fs{g:Nat}{w0 w:World}{own:bO}{its:List It}{Q:World→Prop}{v1 v2 v3 v4 v5:Value}{l1:List I.LL}{l2:List I.Src}{l3 l4:List Ev.Ex}{l5:List I.Ord}(h:Fr g w0 own its Q w)(h1:Rr cS w (fq w0.heap.size own w) v1 l1)(h2:Rr bV w (fq w0.heap.size own w) v2 l2)(h3:Rr Kr w (fq w0.heap.size own w) v3 l3)(h4:Rr Kr w (fq w0.heap.size own w) v4 l4)(h5:Rr dx w (fq w0.heap.size own w) v5 l5):
 Fr g w0 own [It.rr cS v1 l1,It.rr bV v2 l2,It.rr Kr v3 l3,It.rr Kr v4 l4,It.rr dx v5 l5] Q w:=by
 refine⟨h.lt,h.ps,h.ch,h.own,h.nd,fun F hF=>?_⟩;simp only[List.mem_cons,List.not_mem_nil,or_false]at hF;rcases hF with rfl|rfl|rfl|rfl|rfl
 ·exact h1
 ·exact h2
 ·exact h3
 ·exact h4
 ·exact h5
def PL(a lo b:Nat):Nat→Prop:=fun k=>a≤k∧k<lo∧b≠k∧a≠k
def o5(w:World)(P:Nat→Prop)(q:I.Kz)(v1 v3 v4 v5:Value):Prop:=Rr cS w P v1 q.its∧Rr Kr w P v3 q.wh∧Rr Kr w P v4 q.gr∧Rr dx w P v5 q.od
theorem o5.hp{w w':World}{P P':Nat→Prop}{q:I.Kz}{v1 v3 v4 v5:Value}(h:o5 w P q v1 v3 v4 v5)(hP:∀b,P b→P' b)(hc:∀b,P b→w'.heap[b]?=w.heap[b]?):o5 w' P' q v1 v3 v4 v5:=⟨h.1.hp hP hc,h.2.1.hp hP hc,h.2.2.1.hp hP hc,h.2.2.2.hp hP hc⟩
theorem Fr.low{g lo:Nat}{w0 w w':World}{own:bO}{Q:World→Prop}(h:Fr g w0 own [] Q w)(hb:Below lo w w')(hg:g<lo)(hw:w0.heap.size≤lo)(ho:∀p∈own,p.1<lo):Fr g w0 own [] Q w':=
 ⟨h.lt,h.ps.mv fun b hk=>hb.block b (by omega),h.ch.below hb hw,fun p hp=>⟨(h.own p hp).1,(h.own p hp).2.below hb (ho p hp)⟩,h.nd,fun F hF=>by simp at hF⟩
theorem Fr.none{g:Nat}{w0 w:World}{own:bO}{its:List It}{Q:World→Prop}(h:Fr g w0 own its Q w):Fr g w0 own [] Q w:=h.only fun F hF=>by simp at hF
theorem Fr.Sv{g:Nat}{w0 w:World}{own:bO}{its:List It}{Q:World→Prop}{F G K L M:It}(h:Fr g w0 own (G::K::L::M::F::its) Q w):F.P w (fq w0.heap.size own w):=h.its F (by simp)
theorem Fr.XU{g:Nat}{w0 w:World}{own:bO}{its:List It}{Q:World→Prop}{F G K L M N:It}(h:Fr g w0 own (G::K::L::M::N::F::its) Q w):F.P w (fq w0.heap.size own w):=h.its F (by simp)
theorem kr(C:RC)(st:I.St)(w:World)(h:PS C st w):
 Calls Tryz.prog 140 #[.p C.g] w (EPost eB C w (I.selection C.text.size st)):=by
 have F0:=aa (Fr.start h.lt h.aJ);clear h;go_enter Tryz.func140,Tryz.ntmps140;have F1:=aa (F0.o.new 45 #[.f,.z,.z,.z,.z,.z,.o]);obtain⟨w1,hw⟩:=aab (w.alloc (.cells #[.f,.z,.z,.z,.z,.z,.o] 45));go_upto_region 1 with fail
 rw[←hw]at F1⊢;clear hw;go_upto_region 2 with fail
 have F2:=aa (F1.o.new 45 #[.f,.z,.z,.z,.z,.z,.i (-1)]);obtain⟨w2,hw⟩:=aab (w1.alloc (.cells #[.f,.z,.z,.z,.z,.z,.i (-1)] 45));obtain⟨g2,hg⟩:=aab w1.heap.size;rw[←hw,←hg]at F2;rw[←hw,←hg];clear hw hg;go_wp2_with fail
 with_reducible refine(bF ⟨#[42]⟩ [42] rfl F2.o).mono ?_
 rintro e w3 ⟨b,hb,rfl,(F3:Hid _)⟩;have HB:=aa hb;clear hb;have OG:=F3.o.ab.cell 0;simp at OG;have Qk:=F3.o.ab.frozen 0;go_upto_if 11 with fail
 have F4:=aa (F3.o.aO 0 (.bool b) (cs':=#[.bool b,.z,.z,.z,.z,.z,.i (-1)]) rfl);obtain⟨w4,hw⟩:=aab (w3.setCell ⟨g2,0,none⟩ (.bool b));rw[←hw]at F4⊢;clear hw OG Qk;obtain⟨g2',hgg⟩:=aab g2;clear hgg g2';go_cut [] (fun wx=>Hid (tB C w g2 (I.cO C.text.size st) wx));case first=>
  cases b with
  |true=>
   have F5:Hid (Fr C.g w _ _ (PS C (I.next st)) w4):=F4.o;go_wp2_with fail
   go_meet;have e:I.cO C.text.size st=(⟨true,[],[],[],[],[],-1⟩,I.next st):=by simp only[I.cO,HB.o,if_true]
   rw[e];exact⟨none,0,0,none,0,0,none,0,0,none,0,0,none,0,0,F5.o.fs (Rr.nil _ _ _) (Rr.nil _ _ _) (Rr.nil _ _ _) (Rr.nil _ _ _) (Rr.nil _ _ _),by show(-9223372036854775808:Int)≤ -1;decide,by show(-1:Int)≤9223372036854775807;decide⟩
  |false=>
   obtain⟨w5,hw⟩:=aab w4;subst hw;have F5:Hid (Fr C.g w _ _ (PS C st) w5):=F4.o;clear F4;go_wp2_with fail
   with_reducible refine(Fr.jJ F5.o (uA C 208 #[.p C.g] #[] #[.p C.g] (fun w=>by simp[go_sem]) [] iy 16 16 rfl (by decide) (by decide) (I.item C.text.size) (I.zf _) st.r.length (eU fun st w hp=>Cs C st w hp) st _ (Nat.le_refl _) F5.o.q (ey.none _))).mono ?_
   rintro e w6 ⟨v6,ZE,s6,(X6:Hid _),rfl,(F6:Hid _)⟩;obtain⟨A6,m6,c6,rfl⟩:=ar F6.o.Kx;have M5:=F6.o.ab.cell 1;simp at M5;have M9:=F6.o.ab.frozen 1;go_wp2_with fail
   go_meet;have e:I.cO C.text.size st=(⟨false,ZE,[],[],[],[],-1⟩,s6):=by simp only[I.cO,HB.o,Bool.false_eq_true,if_false,X6.o]
   rw[e];have FM:=F6.o.aO 1 (.slice A6 m6 c6) rfl;exact⟨A6,m6,c6,none,0,0,none,0,0,none,0,0,none,0,0,FM.fs FM.Kx (Rr.nil _ _ _) (Rr.nil _ _ _) (Rr.nil _ _ _) (Rr.nil _ _ _),by show(-9223372036854775808:Int)≤ -1;decide,by show(-1:Int)≤9223372036854775807;decide⟩
 case rest=>
  clear F4 F3 HB;obtain⟨q0,hq⟩:=aab (I.cO C.text.size st);obtain⟨KU,Nb⟩:=q0;rw[←hq]at hcut;have RQ:=aa hq;obtain⟨Lo,hw⟩:=aab wc;subst hw;have HC:=aa hcut.o;clear hq hcut;obtain⟨A1,m1,c1,A2,m2,c2,A3,m3,c3,A4,m4,c4,A5,m5,c5,(KC:Hid _),hl1,hl2⟩:=HC.o;have Mw:=aa hl1;have Mx:=aa hl2;clear hl1 hl2 HC;unfold nr at KC;go_wp2_with fail
  with_reducible refine(aY KC.o (n:=1) (cells:=#[.s ⟨#[102,114,111,109]⟩]) [[102,114,111,109]] rfl rfl (by decide)).mono ?_
  rintro e Lh ⟨s11,(Un:Hid _),rfl,(K1:Hid _)⟩;have ZG:=K1.o.ch.size;have hq11:=K1.o.ab.lt;have hl11:=K1.o.lt;have WC:C.g<Lh.heap.size:=by omega
  obtain⟨lo,hlo⟩:=aab Lh.heap.size;have hlo1:lo≤Lh.heap.size:=by omega
  have hlo2:Lh.heap.size≤lo:=by omega
  clear hlo;have WD:Hid (o5 Lh (PL w.heap.size lo g2) KU (.slice A1 m1 c1) (.slice A3 m3 c3) (.slice A4 m4 c4) (.slice A5 m5 c5)):=by
   have hP:∀b,fq w.heap.size [(g2,45,#[.bool KU.all,.slice A1 m1 c1,.slice A2 m2 c2,.slice A3 m3 c3,.slice A4 m4 c4,.slice A5 m5 c5,.i KU.lim]),(w.heap.size,45,#[.f,.z,.z,.z,.z,.z,.o])] Lh b→PL w.heap.size lo g2 b:=fun b hb=>⟨hb.1,by have:=hb.2.1;omega,hb.2.2 (g2,45,#[.bool KU.all,.slice A1 m1 c1,.slice A2 m2 c2,.slice A3 m3 c3,.slice A4 m4 c4,.slice A5 m5 c5,.i KU.lim]) List.mem_cons_self,hb.2.2 (w.heap.size,45,#[.f,.z,.z,.z,.z,.z,.o]) (List.mem_cons_of_mem _ List.mem_cons_self)⟩
   exact⟨Rr.hp K1.o.Kx hP fun _ _=>rfl,Rr.hp K1.o.PN hP fun _ _=>rfl,Rr.hp K1.o.RP hP fun _ _=>rfl,Rr.hp K1.o.Sv hP fun _ _=>rfl⟩
  have hwg:w.heap.size≤g2:=(K1.o.own _ List.mem_cons_self).1;have hwg2:w.heap.size≠g2:=((List.pairwise_cons.1 K1.o.nd).1 _ List.mem_cons_self).symm;have FI:=aa (Fr.start (g:=C.g) WC K1.o.ps);go_wp2_with fail
  with_reducible refine(Fr.CB FI.o (o9 C _ _ FI.o.q)).mono ?_
  rintro e Mc ⟨Ax,mx,cx,Ml,s12,(WE:Hid _),rfl,(Ll:Hid _)⟩;have FO:=aa (K1.o.call Ll.o.ps Ll.o.ch);have Uo:=Ll.o.ch.size;have KK:=(FO.o.ab.alloc (.cells #[.s (I.bs Ml.nm),.s (I.bs Ml.al),.slice Ax mx cx] 132)).cell 2;have Mb:=(FO.o.ab.alloc (.cells #[.s (I.bs Ml.nm),.s (I.bs Ml.al),.slice Ax mx cx] 132)).frozen 2;have kl:=FO.o.ab.lt;simp at KK;obtain⟨PZ,hw⟩:=aab ((Mc.setCell ⟨g2,2,none⟩ (.slice (some ⟨Mc.heap.size,0,none⟩) 1 1)).alloc (.cells #[.s (I.bs Ml.nm),.s (I.bs Ml.al),.slice Ax mx cx] 132));have FN:=aa ((((FO.o.aO 2 (.slice (some ⟨Mc.heap.size,0,none⟩) 1 1) (cs':=#[.bool KU.all,.slice A1 m1 c1,.slice (some ⟨Mc.heap.size,0,none⟩) 1 1,.slice A3 m3 c3,.slice A4 m4 c4,.slice A5 m5 c5,.i KU.lim]) rfl)).tmp (.cells #[.s (I.bs Ml.nm),.s (I.bs Ml.al),.slice Ax mx cx] 132)).none);rw[←hw]at FN;have WG:Hid (o5 PZ (PL w.heap.size lo g2) KU (.slice A1 m1 c1) (.slice A3 m3 c3) (.slice A4 m4 c4) (.slice A5 m5 c5)):=WD.o.hp (fun _ h=>h) fun b hb=>by
   have h1:=hb.2.1
   have h2:=hb.2.2.1
   have h3:=hb.1
   rw[hw]
   exact(Below.heap_alloc _ _ b (by simp;omega)).trans ((Below.heap_setCell Mc ⟨g2,2,none⟩ _ b (by show b≠g2;omega)).trans (Ll.o.ch.block b (by omega) (by omega)))
  have HO:Hid (Ro bV PZ lo (.slice (some ⟨Mc.heap.size,0,none⟩) 1 1) [Ml]):=by
   show Ro bV PZ lo (.slice (some ⟨Mc.heap.size,0,none⟩) 1 1) [Ml];have hsz:(Mc.setCell ⟨g2,2,none⟩ (.slice (some ⟨Mc.heap.size,0,none⟩) 1 1)).heap.size=Mc.heap.size:=by simp
   have hbk:=Kn.new (Mc.setCell ⟨g2,2,none⟩ (.slice (some ⟨Mc.heap.size,0,none⟩) 1 1)) 132 #[.s (I.bs Ml.nm),.s (I.bs Ml.al),.slice Ax mx cx];rw[hsz,←hw]at hbk;have Uq:PZ.heap.size=Mc.heap.size+1:=by rw[hw];simp
   refine Ro.lit (cs:=[.s (I.bs Ml.nm),.s (I.bs Ml.al),.slice Ax mx cx]) hbk (by omega) (El.hp (E:=bV) Ll.o.Kx (fun b hb=>⟨by have:=hb.1;omega,by have:=hb.2.1;omega,by have:=hb.2.1;omega⟩) fun b hb=>?_);rw[hw];exact(Below.heap_alloc _ _ b (by have:=hb.2.1;simp;omega)).trans (Below.heap_setCell Mc ⟨g2,2,none⟩ _ b (by have:=hb.1;show b≠g2;omega))
  go_wp2_with fail
  rw[←hw];have Uq:lo≤PZ.heap.size:=by rw[hw];simp;omega
  clear hw KK Mb kl;have ZH:C.g<lo:=by omega
  have WH:g2<lo:=by omega
  have WI:w.heap.size≤lo:=by omega
  have HJ:Hid (I.aI C.text.size (s12.r.length+1) [Ml] s12=I.aI C.text.size (s12.r.length+1) [Ml] s12):=rfl;clear FI FO KC K1 Ll Uo WD WC hq11 ZG hlo1 hlo2;go_loopg [] s12.r.length (fun gg wr=>∃(f:Nat) (xs:List I.Src) (s0:I.St) (A:Option Addr) (c:Nat),gg=s0.r.length∧s0.r.length<f∧1≤xs.length∧xs.length≤17∧Hid (I.aI C.text.size (s12.r.length+1) [Ml] s12=I.aI C.text.size f xs s0)∧Hid (Fr C.g w [(g2,45,#[.bool KU.all,.slice A1 m1 c1,.slice A xs.length c,.slice A3 m3 c3,.slice A4 m4 c4,.slice A5 m5 c5,.i KU.lim]),(w.heap.size,45,#[.f,.z,.z,.z,.z,.z,.o])] [] (PS C s0) wr)∧Hid (Ro bV wr lo (.slice A xs.length c) xs)∧Hid (o5 wr (PL w.heap.size lo g2) KU (.slice A1 m1 c1) (.slice A3 m3 c3) (.slice A4 m4 c4) (.slice A5 m5 c5))∧lo≤wr.heap.size);case atStart=>exact⟨_,[Ml],s12,_,_,rfl,by omega,by simp,by simp,HJ,FN,HO,WG,Uq⟩
  case round=>
   obtain⟨f,xs,s0,A,c,rfl,Lu,hx0,hxm,HJ2,HF,LY,HS2,hlo20⟩:=hrel;obtain⟨NX,hw⟩:=aab wr;subst hw;clear HJ FN HO WG Uq;have hs20:=HF.o.ch.size;have ZI:=HF.o.ab.lt;have hr20:=HF.o.ah.lt;have WJ:C.g<NX.heap.size:=by omega
   have FI:=aa (Fr.start (g:=C.g) WJ HF.o.ps);go_wp2_with fail
   with_reducible refine(bF ⟨#[106,111,105,110]⟩ [106,111,105,110] rfl FI.o).mono ?_
   rintro e Nc ⟨b,hb,rfl,hF⟩;have HB:=aa hb;have WK:=hF.ch.size;cases b with
   |false=>
    have XV:=aa (LY.o.aR (fun b _ h2=>hF.ch.block b h2 (by omega)) WK);have FO:=aa (HF.o.call (Q':=PS C s0) hF.ps hF.ch);have HZ:=aa (HJ2.o.trans (I.lT Lu hb));have HR:Hid (Rr bV Nc (fq w.heap.size [(g2,45,#[.bool KU.all,.slice A1 m1 c1,.slice A xs.length c,.slice A3 m3 c3,.slice A4 m4 c4,.slice A5 m5 c5,.i KU.lim]),(w.heap.size,45,#[.f,.z,.z,.z,.z,.z,.o])] Nc) (.slice A xs.length c) xs):=XV.o.rr.hp (fun b hb=>⟨by have:=hb.1;omega,hb.2,fun p hp=>by
     have h1:=hb.1
     simp only[List.mem_cons,List.not_mem_nil,or_false]at hp
     rcases hp with rfl|rfl
     ·show g2≠b
      omega
     ·show w.heap.size≠b
      omega⟩) fun _ _=>rfl
    have Q7:=aa (HS2.o.hp (P':=fq w.heap.size [(g2,45,#[.bool KU.all,.slice A1 m1 c1,.slice A xs.length c,.slice A3 m3 c3,.slice A4 m4 c4,.slice A5 m5 c5,.i KU.lim]),(w.heap.size,45,#[.f,.z,.z,.z,.z,.z,.o])] Nc) (fun b hb=>⟨hb.1,by have:=hb.2.1;omega,fun p hp=>by
     simp only[List.mem_cons,List.not_mem_nil,or_false]at hp
     rcases hp with rfl|rfl
     ·exact hb.2.2.1
     ·exact hb.2.2.2⟩) fun b hb=>hF.ch.block b (by have:=hb.2.1;omega) (by have:=hb.1;omega))
    have ME:=aa (FO.o.fs Q7.o.1 HR.o Q7.o.2.1 Q7.o.2.2.1 Q7.o.2.2.2);clear hF hb HF LY HJ2 FI FO XV HR HB HS2 Q7;obtain⟨KO,hw⟩:=aab Nc;subst hw;go_wp2_with fail
    with_reducible refine(Fr.jJ ME.o (lW C _ _ ME.o.q)).mono ?_
    rintro e NM ⟨v23,Ur,NZ,(Ti:Hid _),rfl,(MM:Hid _)⟩;obtain⟨QD,m23,c23,rfl⟩:=ar MM.o.Kx;have LN:=MM.o.ab.cell 3;simp at LN;have Mt:=MM.o.ab.frozen 3;go_upto_region 16 with fail
    have Nd:=aa (MM.o.aO 3 (.slice QD m23 c23) (cs':=#[.bool KU.all,.slice A1 m1 c1,.slice A xs.length c,.slice QD m23 c23,.slice A4 m4 c4,.slice A5 m5 c5,.i KU.lim]) rfl);obtain⟨Mi,hw⟩:=aab (NM.setCell ⟨g2,3,none⟩ (.slice QD m23 c23));rw[←hw]at Nd⊢;clear hw LN Mt;obtain⟨Mq,hq2⟩:∃q:I.Kz,q={KU with fr:=xs,wh:=Ur}:=⟨_,rfl⟩;have HC:Hid (tB C w g2 (Mq,NZ) Mi):=⟨A1,m1,c1,A,xs.length,c,QD,m23,c23,A4,m4,c4,A5,m5,c5,by rw[hq2];exact Nd.o.fs Nd.o.Nz Nd.o.PN Nd.o.Kx Nd.o.Sv Nd.o.XU,by rw[hq2];exact Mw.o,by rw[hq2];exact Mx.o⟩;have Uj:=aa hq2;clear hq2 ME MM Nd Mw Mx;obtain⟨A1,m1,c1,A2,m2,c2,A3,m3,c3,A4,m4,c4,A5,m5,c5,(Nq:Hid _),hl1,hl2⟩:=HC.o;have Mw:=aa hl1;have Mx:=aa hl2;clear hl1 hl2 HC;unfold nr at Nq;go_wp2_with fail
    with_reducible refine(bF ⟨#[103,114,111,117,112]⟩ [103,114,111,117,112] rfl Nq.o).mono ?_
    rintro e Su ⟨b,hb,rfl,hF⟩;have FB:=aa hF;have Lm:=aa hb;clear hF hb Nq;go_upto_if 52 with fail
    go_cut [] (fun wx=>Hid (tB C w g2 (I.dH C.text.size Mq NZ) wx));case first=>
     cases b with
     |true=>
      obtain⟨Ln,hw⟩:=aab Su;subst hw;have Lc:Hid (Fr C.g w _ _ (PS C (I.next NZ)) Ln):=FB.o;clear FB;go_wp2_with fail
      with_reducible refine(aY Lc.o (n:=1) (cells:=#[.s ⟨#[98,121]⟩]) [[98,121]] rfl rfl (by decide)).mono ?_
      rintro e LP ⟨LB,(MD:Hid _),rfl,(KD:Hid _)⟩;go_wp2_with fail
      with_reducible refine(Fr.jJ KD.o (pP C 138 #[.p C.g] #[] #[.p C.g] (fun w=>by simp[go_sem]) [] iy 16 16 rfl (by decide) (by decide) (I.expr C.text.size) (I.eh _) LB.r.length (eU fun st w hp=>fh C st w hp) LB _ (Nat.le_refl _) KD.o.q (ey.none _))).mono ?_
      rintro e LF ⟨ZJ,Q8,N0,(Oa:Hid _),rfl,(Md:Hid _)⟩;obtain⟨A9,m9,c9,rfl⟩:=ar Md.o.Kx;have O2:=Md.o.ab.cell 4;simp at O2;have Oj:=Md.o.ab.frozen 4;go_wp2_with fail
      go_meet;have e:I.dH C.text.size Mq NZ=({Mq with gr:=Q8},N0):=by simp only[I.dH,Lm.o,if_true,MD.o,Oa.o]
      rw[e];have FM:=Md.o.aO 4 (.slice A9 m9 c9) rfl;exact⟨A1,m1,c1,A2,m2,c2,A3,m3,c3,A9,m9,c9,A5,m5,c5,FM.fs FM.Nz FM.PN FM.RP FM.Kx FM.XU,Mw.o,Mx.o⟩
     |false=>
      have FC:Hid (Fr C.g w _ _ (PS C NZ) Su):=FB.o;clear FB;go_wp2_with fail
      go_meet;have e:I.dH C.text.size Mq NZ=(Mq,NZ):=by simp only[I.dH,Lm.o,Bool.false_eq_true,if_false]
      rw[e];exact⟨A1,m1,c1,A2,m2,c2,A3,m3,c3,A4,m4,c4,A5,m5,c5,FC.o,Mw.o,Mx.o⟩
    case rest=>
     clear FB Mw Mx Lm;obtain⟨q3,hq⟩:=aab (I.dH C.text.size Mq NZ);obtain⟨Lk,LQ⟩:=q3;rw[←hq]at hcut;have Uk:=aa hq;obtain⟨wr3,hw⟩:=aab wc;subst hw;have HC:=aa hcut.o;clear hq hcut;obtain⟨A1,m1,c1,A2,m2,c2,A3,m3,c3,A4,m4,c4,A5,m5,c5,(Nq:Hid _),hl1,hl2⟩:=HC.o;have Mw:=aa hl1;have Mx:=aa hl2;clear hl1 hl2 HC;unfold nr at Nq;go_wp2_with fail
     with_reducible refine(bF ⟨#[111,114,100,101,114]⟩ [111,114,100,101,114] rfl Nq.o).mono ?_
     rintro e Q0 ⟨b,hb,rfl,hF⟩;have FB:=aa hF;have Lm:=aa hb;clear hF hb Nq;go_upto_if 62 with fail
     go_cut [] (fun wx=>Hid (tB C w g2 (I.dm C.text.size Lk LQ) wx));case first=>
      cases b with
      |true=>
       obtain⟨Ln,hw⟩:=aab Q0;subst hw;have Lc:Hid (Fr C.g w _ _ (PS C (I.next LQ)) Ln):=FB.o;clear FB;go_wp2_with fail
       with_reducible refine(aY Lc.o (n:=1) (cells:=#[.s ⟨#[98,121]⟩]) [[98,121]] rfl rfl (by decide)).mono ?_
       rintro e LP ⟨LB,(MD:Hid _),rfl,(KD:Hid _)⟩;go_wp2_with fail
       with_reducible refine(Fr.jJ KD.o (sA C 211 #[.p C.g] #[] #[.p C.g] (fun w=>by simp[go_sem]) [] iy 16 16 rfl (by decide) (by decide) (I.order C.text.size) (I.vt _) LB.r.length (eU fun st w hp=>zc C st w hp) LB _ (Nat.le_refl _) KD.o.q (ey.none _))).mono ?_
       rintro e LF ⟨ZJ,Q8,N0,(Oa:Hid _),rfl,(Md:Hid _)⟩;obtain⟨A9,m9,c9,rfl⟩:=ar Md.o.Kx;have QC:=Md.o.ab.cell 5;simp at QC;have Ph:=Md.o.ab.frozen 5;go_wp2_with fail
       go_meet;have e:I.dm C.text.size Lk LQ=({Lk with od:=Q8},N0):=by simp only[I.dm,Lm.o,if_true,MD.o,Oa.o]
       rw[e];have FM:=Md.o.aO 5 (.slice A9 m9 c9) rfl;exact⟨A1,m1,c1,A2,m2,c2,A3,m3,c3,A4,m4,c4,A9,m9,c9,FM.fs FM.Nz FM.PN FM.RP FM.Sv FM.Kx,Mw.o,Mx.o⟩
      |false=>
       have FC:Hid (Fr C.g w _ _ (PS C LQ) Q0):=FB.o;clear FB;go_wp2_with fail
       go_meet;have e:I.dm C.text.size Lk LQ=(Lk,LQ):=by simp only[I.dm,Lm.o,Bool.false_eq_true,if_false]
       rw[e];exact⟨A1,m1,c1,A2,m2,c2,A3,m3,c3,A4,m4,c4,A5,m5,c5,FC.o,Mw.o,Mx.o⟩
     case rest=>
      clear FB Mw Mx Lm;obtain⟨q4,hq⟩:=aab (I.dm C.text.size Lk LQ);obtain⟨KH,Mh⟩:=q4;rw[←hq]at hcut;have Ul:=aa hq;obtain⟨wr4,hw⟩:=aab wc;subst hw;have HC:=aa hcut.o;clear hq hcut;obtain⟨A1,m1,c1,A2,m2,c2,A3,m3,c3,A4,m4,c4,A5,m5,c5,(Nq:Hid _),hl1,hl2⟩:=HC.o;have Mw:=aa hl1;have Mx:=aa hl2;clear hl1 hl2 HC;unfold nr at Nq;go_wp2_with fail
      with_reducible refine(bF ⟨#[108,105,109,105,116]⟩ [108,105,109,105,116] rfl Nq.o).mono ?_
      rintro e Tf ⟨b,hb,rfl,hF⟩;have FB:=aa hF;have Lm:=aa hb;clear hF hb Nq;go_upto_if 72 with fail
      go_cut [] (fun wx=>Hid (tB C w g2 (I.db C.text.size KH Mh) wx));case first=>
       cases b with
       |true=>
        obtain⟨Ln,hw⟩:=aab Tf;subst hw;have Lc:Hid (Fr C.g w _ _ (PS C (I.next Mh)) Ln):=FB.o;clear FB;go_wp2_with fail
        with_reducible refine(Fr.Ze Lc.o (yR C _ _ Lc.o.q)).mono ?_
        rintro e LP ⟨n101,LB,(Q9:Hid _),rfl,(KD:Hid _)⟩;have Pq:=KD.o.ab.cell 6;simp at Pq;have OB:=KD.o.ab.frozen 6;have hlim:=I.pj C.text.size (I.next Mh);rw[Q9.o]at hlim;have Ra:=aa hlim;clear hlim;go_wp2_with fail
        go_meet;have e:I.db C.text.size KH Mh=({KH with lim:=n101},LB):=by simp only[I.db,Lm.o,if_true,Q9.o]
        rw[e];have FM:=KD.o.aO 6 (.i n101) rfl;exact⟨A1,m1,c1,A2,m2,c2,A3,m3,c3,A4,m4,c4,A5,m5,c5,FM.fs FM.Kx FM.Nz FM.PN FM.RP FM.Sv,by have h1:=Ra.o.1;simp only at h1⊢;omega,Ra.o.2⟩
       |false=>
        have FC:Hid (Fr C.g w _ _ (PS C Mh) Tf):=FB.o;clear FB;go_wp2_with fail
        go_meet;have e:I.db C.text.size KH Mh=(KH,Mh):=by simp only[I.db,Lm.o,Bool.false_eq_true,if_false]
        rw[e];exact⟨A1,m1,c1,A2,m2,c2,A3,m3,c3,A4,m4,c4,A5,m5,c5,FC.o,Mw.o,Mx.o⟩
      case rest=>
       clear FB Mw Mx Lm;obtain⟨q5,hq⟩:=aab (I.db C.text.size KH Mh);obtain⟨O6,Vu⟩:=q5;rw[←hq]at hcut;have WA:=aa hq;obtain⟨WB,hw⟩:=aab wc;subst hw;have HC:=aa hcut.o;clear hq hcut;obtain⟨A1,m1,c1,A2,m2,c2,A3,m3,c3,A4,m4,c4,A5,m5,c5,hF,hl1,hl2⟩:=HC.o;have LR:=aa hF;have Mw:=aa hl1;have Mx:=aa hl2;clear hF hl1 hl2 HC;unfold nr at LR;obtain⟨Q6,hw⟩:=aab WB;subst hw;have Ks:=LR.o.ab.Y7;simp at Ks;have cj2:=LR.o.ah.Y7;simp at cj2;obtain⟨KQ,KS,KT,K4,K5,K6,K7⟩:=LR.o.ah.Z7;go_wp2_with fail
       have FZ:=aa (LR.o.cN (J5 (Ch.refl _ _ _) (.inl rfl) _ _ _ _ _ _ _) (Hv LR.o.ah (.bool O6.all) (.slice A1 m1 c1) (.slice A2 m2 c2) (.slice A3 m3 c3) (.slice A4 m4 c4) (.slice A5 m5 c5) (.i O6.lim)));have HS:Hid (I.selection C.text.size st=(O6,Vu)):=by show _=_;unfold I.selection;rw[←RQ.o];simp only[Un.o,WE.o,HZ.o];unfold I.nu;simp only[Ti.o];rw[←Uj.o,←Uk.o];simp only;rw[←Ul.o];simp only;rw[←WA.o]
       refine bodyPost_ret (results_cell_row rfl _ _ w.heap.size 45 _ (0,0) _ rfl FZ.o.ah gK rfl ga) rfl ?_;rw[HS.o];exact FZ.o.done ⟨_,_,_,_,_,rfl,FZ.o.Kx,FZ.o.Nz,FZ.o.PN,FZ.o.RP,FZ.o.Sv,Mw.o,Mx.o⟩
   |true=>
    have hlen:=I.bx hb;have MU:Hid (Fr C.g NX [] [] (PS C (I.next s0)) Nc):=hF;have Sw:=aa ((HF.o.ab).ch hF.ch ZI (by omega));have KK:=Sw.o.cell 2;simp at KK;clear hF hb;by_cases h16:16<xs.length
    ·have HZ:=aa (HJ2.o.trans (I.vJ Lu HB.o h16));have t1:decide ((16:Int)<(xs.length:Int))=true:=decide_eq_true (by omega);have XV:=aa (LY.o.aR (fun b _ h2=>MU.o.ch.block b h2 (by omega)) WK);clear h16 hlen;go_wp2_with fail
     with_reducible refine(Al MU.o).mono ?_
     rintro e KO ⟨Lx,(WL:Hid _),rfl,(ME:Hid _)⟩;clear KK;have Ob:=ME.o.ch.size;have HOy:=aa (LY.o.aR (fun b _ h2=>ME.o.ch.block b h2 (by omega)) Ob);have FO:=aa (HF.o.call (Q':=PS C Lx) ME.o.ps ME.o.ch);have HR:Hid (Rr bV KO (fq w.heap.size [(g2,45,#[.bool KU.all,.slice A1 m1 c1,.slice A xs.length c,.slice A3 m3 c3,.slice A4 m4 c4,.slice A5 m5 c5,.i KU.lim]),(w.heap.size,45,#[.f,.z,.z,.z,.z,.z,.o])] KO) (.slice A xs.length c) xs):=HOy.o.rr.hp (fun b hb=>⟨by have:=hb.1;omega,hb.2,fun p hp=>by
      have h1:=hb.1
      simp only[List.mem_cons,List.not_mem_nil,or_false]at hp
      rcases hp with rfl|rfl
      ·show g2≠b
       omega
      ·show w.heap.size≠b
       omega⟩) fun _ _=>rfl
     have Q7:=aa (HS2.o.hp (P':=fq w.heap.size [(g2,45,#[.bool KU.all,.slice A1 m1 c1,.slice A xs.length c,.slice A3 m3 c3,.slice A4 m4 c4,.slice A5 m5 c5,.i KU.lim]),(w.heap.size,45,#[.f,.z,.z,.z,.z,.z,.o])] KO) (fun b hb=>⟨hb.1,by have:=hb.2.1;omega,fun p hp=>by
      simp only[List.mem_cons,List.not_mem_nil,or_false]at hp
      rcases hp with rfl|rfl
      ·exact hb.2.2.1
      ·exact hb.2.2.2⟩) fun b hb=>ME.o.ch.block b (by have:=hb.2.1;omega) (by have:=hb.1;omega))
     have MM:=aa (FO.o.fs Q7.o.1 HR.o Q7.o.2.1 Q7.o.2.2.1 Q7.o.2.2.2);clear ME FO HR HOy XV HF LY FI HS2 Q7;obtain⟨NM,hw⟩:=aab KO;subst hw;have K0:=MM.o.ab.Y7;simp at K0;have Le:=MM.o.ah.Y7;simp at Le;obtain⟨KQ,KS,KT,K4,K5,K6,K7⟩:=MM.o.ah.Z7;go_wp2_with fail
     have FZ:=aa (MM.o.cN (J5 (Ch.refl _ _ _) (.inl rfl) _ _ _ _ _ _ _) (Hv MM.o.ah (.bool KU.all) (.slice A1 m1 c1) (.slice A xs.length c) (.slice A3 m3 c3) (.slice A4 m4 c4) (.slice A5 m5 c5) (.i KU.lim)));have HS:Hid (I.selection C.text.size st=(({KU with fr:=xs}:I.Kz),Lx)):=by show _=_;unfold I.selection;rw[←RQ.o];simp only[Un.o,WE.o,HZ.o,WL.o]
     refine bodyPost_ret (results_cell_row rfl _ _ w.heap.size 45 _ (0,0) _ rfl FZ.o.ah gK rfl ga) rfl ?_;rw[HS.o];exact FZ.o.done ⟨_,_,_,_,_,rfl,FZ.o.Kx,FZ.o.Nz,FZ.o.PN,FZ.o.RP,FZ.o.Sv,Mw.o,Mx.o⟩
    ·have t1:decide ((16:Int)<(xs.length:Int))=false:=decide_eq_false (by omega);have H16:=aa h16;have hx16:xs.length≤16:=by omega
     clear h16;go_wp2_with fail
     with_reducible refine(Fr.CB MU.o (o9 C _ _ MU.o.q)).mono ?_
     rintro e KO ⟨Ay,my,cy,KW,Lx,(LD:Hid _),rfl,(ME:Hid _)⟩;clear KK;go_upto_region 12 with fail
     have MM:=aa (ME.o.new 132 #[.s (I.bs KW.nm),.s (I.bs KW.al),.slice Ay my cy]);obtain⟨NM,hw⟩:=aab (KO.alloc (.cells #[.s (I.bs KW.nm),.s (I.bs KW.al),.slice Ay my cy] 132));obtain⟨g23,hg⟩:=aab KO.heap.size;rw[←hw,←hg]at MM;rw[←hw,←hg];clear hw hg;go_wp2_with fail
     with_reducible refine(aY MM.o (n:=1) (cells:=#[.s ⟨#[111,110]⟩]) [[111,110]] rfl rfl (by decide)).mono ?_
     rintro e Mi ⟨s24,(E24:Hid _),rfl,(Nd:Hid _)⟩;go_wp2_with fail
     with_reducible refine(Fr.ux Nd.o (fh C _ _ Nd.o.q)).mono ?_
     rintro e Oc ⟨MQ,XW,XX,XY,x25,WM,(X25:Hid _),rfl,(Sy:Hid _)⟩;have KK:=(Sy.o.ab.alloc (.cells #[.u (MQ.o.toNat:Int),.u (MQ.v.k.toNat:Int),.i MQ.v.n,.s MQ.v.s,.s MQ.nm,.s MQ.of,.i MQ.n,.slice XW XX XY] 50)).cell 2;have Mb:=(Sy.o.ab.alloc (.cells #[.u (MQ.o.toNat:Int),.u (MQ.v.k.toNat:Int),.i MQ.v.n,.s MQ.v.s,.s MQ.nm,.s MQ.of,.i MQ.n,.slice XW XX XY] 50)).frozen 2;have kl:=Sy.o.ab.lt;simp at KK;go_upto_region 14 with fail
     have O7:=aa ((Sy.o).gL (E:=Kr) (cs:=[.u (MQ.o.toNat:Int),.u (MQ.v.k.toNat:Int),.i MQ.v.n,.s MQ.v.s,.s MQ.nm,.s MQ.of,.i MQ.n,.slice XW XX XY]) 50 2 (cells':=#[.s (I.bs KW.nm),.s (I.bs KW.al),.slice (some ⟨Oc.heap.size,0,none⟩) 1 1]) rfl);obtain⟨Qn,hw⟩:=aab (((Oc.setCell ⟨g23,2,none⟩ (.slice (some ⟨Oc.heap.size,0,none⟩) 1 1)).alloc (.cells #[.u (MQ.o.toNat:Int),.u (MQ.v.k.toNat:Int),.i MQ.v.n,.s MQ.v.s,.s MQ.nm,.s MQ.of,.i MQ.n,.slice XW XX XY] 50)));obtain⟨WN,hg⟩:=aab Oc.heap.size;rw[←hw,←hg]at O7;rw[←hw,←hg];clear hw hg KK Mb kl;have hsl:=I.pc C.text.size (I.next s0);rw[LD.o]at hsl;have hel:=I.av C.text.size [[111,110]] Lx;rw[E24.o]at hel;have hxl:=I.eh C.text.size s24;rw[X25.o]at hxl;simp only at hsl hxl;have WO:=aa (HJ2.o.trans (I.kU Lu HB.o H16.o LD.o E24.o X25.o));have WQ:=O7.o.ch.size;have FO:=aa (HF.o.call (Q':=PS C WM) O7.o.ps O7.o.ch);have Lb:=aa (LY.o.aR (fun b _ h2=>O7.o.ch.block b h2 (by omega)) WQ);obtain⟨SA,Ps⟩:∃y:I.Src,y={KW with on:=[x25]}:=⟨_,rfl⟩;have HY:Hid (bV.R Qn (In NX.heap.size Qn.heap.size) [.s (I.bs KW.nm),.s (I.bs KW.al),.slice (some ⟨WN,0,none⟩) 1 1] SA):=by obtain⟨v,he,h1,h2,h3⟩:=O7.o.PN;rw[Ps];exact⟨_,rfl,Rr.hp (O7.o.Kx:Rr Kr _ _ _ _) (fun b hb=>⟨hb.1,hb.2.1⟩) (fun _ _=>rfl),h2,h3⟩
     rw[←Ps]at WO;clear Ps;have Ly:=O7.o.ab.Y3;simp at Ly;have KK:=FO.o.ab.cell 2;simp at KK;obtain⟨O8,Pt⟩:=aab (Qn.alloc (.cells #[.s (I.bs KW.nm),.s (I.bs KW.al),.slice (some ⟨WN,0,none⟩) 1 1] 132));have ZK:=aa (show Kn O8 Qn.heap.size 132 #[.s (I.bs KW.nm),.s (I.bs KW.al),.slice (some ⟨WN,0,none⟩) 1 1] by rw[Pt];exact Kn.new Qn _ _);have ZL:=aa (show Ro bV O8 lo (.slice A xs.length c) xs by rw[Pt];exact Lb.o.alloc _);have ZM:=aa (show bV.R O8 (Pow O8 lo (.slice A xs.length c)) [.s (I.bs KW.nm),.s (I.bs KW.al),.slice (some ⟨WN,0,none⟩) 1 1] SA by
      rw[Pt]
      exact LY.o.pow (by omega) (El.hp (E:=bV) HY.o (P':=In NX.heap.size Qn.heap.size) (fun b hb=>hb) fun b hb=>Below.heap_alloc Qn _ b hb.2) fun b hb=>⟨by have:=hb.1;omega,by have:=hb.2;simp;omega⟩)
     have ZN:=aa (show Fr C.g w _ _ (PS C WM) O8 by rw[Pt];exact FO.o.tmp _);have ZO:lo≤O8.heap.size:=by rw[Pt];simp;omega
     have ZP:=aa (show o5 O8 (PL w.heap.size lo g2) KU (.slice A1 m1 c1) (.slice A3 m3 c3) (.slice A4 m4 c4) (.slice A5 m5 c5) by
      rw[Pt]
      exact HS2.o.hp (fun _ h=>h) fun b hb=>(Below.heap_alloc _ _ b (by have:=hb.2.1;omega)).trans (O7.o.ch.block b (by have:=hb.2.1;omega) (by have:=hb.1;omega)))
     have hown:∀p∈([(g2,45,#[.bool KU.all,.slice A1 m1 c1,.slice A xs.length c,.slice A3 m3 c3,.slice A4 m4 c4,.slice A5 m5 c5,.i KU.lim]),(w.heap.size,45,#[.f,.z,.z,.z,.z,.z,.o])]:bO),p.1<lo:=fun p hp=>by
      simp only[List.mem_cons,List.not_mem_nil,or_false]at hp
      rcases hp with rfl|rfl
      ·exact WH
      ·show w.heap.size<lo;omega
     have ZQ:=aa hown;clear hown HF LY HS2 FI O7 Lb FO HY;go_wp2_with (at_builtin;rw[←Pt];refine dZ pJ rfl (.tmp 43) (.tmp 45) Tryz.underlying42 rfl lo _ xs rfl ZL.o Qn.heap.size 1 [.s (I.bs KW.nm),.s (I.bs KW.al),.slice (some ⟨WN,0,none⟩) 1 1] SA rfl ZK.o ZM.o (by show(xs.length+1)*56≤140737488355328;omega) (by unfold maxLen;omega) ZO ?_;intro v28 XZ Pu SB Qo;obtain⟨Us,c28,hv28,hc28⟩:=Pu.form;rw[List.length_append,List.length_singleton]at hv28;subst hv28;have Ut:=aa Pu;have Uu:=aa (ZN.o.low Qo ZH WI ZQ.o);have ZR:=aa (ZP.o.hp (fun _ h=>h) fun b hb=>Qo.block b hb.2.1);have hs28:=SB.size;clear Pu SB Qo hc28 KK;have KK:=Uu.o.ab.cell 2;simp at KK;have Mb:=Uu.o.ab.frozen 2)
     go_roundg WM.r.length;case measure=>omega
     case rel=>exact⟨f-1,xs++[SA],WM,Us,c28,rfl,by omega,by simp,by simp;omega,WO,by rw[List.length_append,List.length_singleton];exact Uu.o.aO 2 (.slice Us (xs.length+1) c28) (cs':=#[.bool KU.all,.slice A1 m1 c1,.slice Us (xs.length+1) c28,.slice A3 m3 c3,.slice A4 m4 c4,.slice A5 m5 c5,.i KU.lim]) rfl,by rw[List.length_append,List.length_singleton];exact Ut.o.aR (fun b h1 _=>Below.heap_setCell XZ ⟨g2,2,none⟩ _ b (by show b≠g2;omega)) (by simp),ZR.o.hp (fun _ h=>h) (fun b hb=>Below.heap_setCell XZ ⟨g2,2,none⟩ _ b (by have:=hb.2.2.1;show b≠g2;omega)),by simp;omega⟩
end
end Go.Proofs.YtnicfobpclehkaaGreatDoor
