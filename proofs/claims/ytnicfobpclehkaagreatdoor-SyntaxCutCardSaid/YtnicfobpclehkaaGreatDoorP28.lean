import Derived.Test.YtnicfobpclehkaaGreatDoorP27
set_option maxHeartbeats 3200000
set_option linter.unusedVariables false
set_option linter.unusedSimpArgs false
namespace Go.Proofs.YtnicfobpclehkaaGreatDoor
open Go.RowKit
section
set_option maxRecDepth 100000
theorem Fr.yk{g:Nat}{w0 w:World}{own:eP}{its:List It}{Q:World→Prop}{v1 v2 v3 v4 v5:Value}{l1:List I.Qq}{l2:List I.Src}{l3 l4:List Ev.Ex}{l5:List I.Ord}(h:Fr g w0 own its Q w)(h1:Rr fL w (ju w0.heap.size own w) v1 l1)(h2:Rr ft w (ju w0.heap.size own w) v2 l2)(h3:Rr NI w (ju w0.heap.size own w) v3 l3)(h4:Rr NI w (ju w0.heap.size own w) v4 l4)(h5:Rr fY w (ju w0.heap.size own w) v5 l5):
 Fr g w0 own [It.rr fL v1 l1,It.rr ft v2 l2,It.rr NI v3 l3,It.rr NI v4 l4,It.rr fY v5 l5] Q w:=by
 refine⟨h.lt,h.ps,h.ch,h.own,h.nd,fun F hF=>?_⟩;simp only[af,aj,aH]at hF;rcases hF with rfl|rfl|rfl|rfl|rfl
 ·exact h1
 ·exact h2
 ·exact h3
 ·exact h4
 ·exact h5
def PL(a lo b:Nat):Nat→Prop:=fun k=>a≤k∧k<lo∧b≠k∧a≠k
def rV(w:World)(P:Nat→Prop)(q:I.NS)(v1 v3 v4 v5:Value):Prop:=Rr fL w P v1 q.its∧Rr NI w P v3 q.wh∧Rr NI w P v4 q.gr∧Rr fY w P v5 q.od
theorem rV.hp{w w':World}{P P':Nat→Prop}{q:I.NS}{v1 v3 v4 v5:Value}(h:rV w P q v1 v3 v4 v5)(hP:∀b,P b→P' b)(hc:∀b,P b→w'.heap[b]?=w.heap[b]?):rV w' P' q v1 v3 v4 v5:=⟨h.1.hp hP hc,h.2.1.hp hP hc,h.2.2.1.hp hP hc,h.2.2.2.hp hP hc⟩
theorem Fr.low{g lo:Nat}{w0 w w':World}{own:eP}{Q:World→Prop}(h:Fr g w0 own [] Q w)(hb:Below lo w w')(hg:g<lo)(hw:w0.heap.size≤lo)(ho:∀p∈own,p.1<lo):Fr g w0 own [] Q w':=
 ⟨h.lt,h.ps.mv fun b hk=>hb.block b (by omega),h.ch.below hb hw,fun p hp=>⟨(h.own p hp).1,(h.own p hp).2.below hb (ho p hp)⟩,h.nd,fun F hF=>by simp at hF⟩
theorem Fr.none{g:Nat}{w0 w:World}{own:eP}{its:List It}{Q:World→Prop}(h:Fr g w0 own its Q w):Fr g w0 own [] Q w:=h.only fun F hF=>by simp at hF
theorem Fr.Xg{g:Nat}{w0 w:World}{own:eP}{its:List It}{Q:World→Prop}{F G K L M:It}(h:Fr g w0 own (G::K::L::M::F::its) Q w):F.P w (ju w0.heap.size own w):=h.its F (by simp)
theorem Fr.it5{g:Nat}{w0 w:World}{own:eP}{its:List It}{Q:World→Prop}{F G K L M N:It}(h:Fr g w0 own (G::K::L::M::N::F::its) Q w):F.P w (ju w0.heap.size own w):=h.its F (by simp)
theorem na(C:RC)(st:I.St)(w:World)(h:PS C st w):
 Calls Tryz.prog 140 #[.pointer (some ⟨C.g,0,none⟩)] w (EPost fw C w (I.selection C.text.size st)):=by
 have F0:=cN (Fr.start h.lt h.eU);clear h;go_enter Tryz.func140,Tryz.ntmps140;have F1:=cN (F0.o.new 45 #[.bool false,.slice none 0 0,.slice none 0 0,.slice none 0 0,.slice none 0 0,.slice none 0 0,.int .i64 0]);obtain⟨w1,hw⟩:∃x,x=w.alloc (.cells #[.bool false,.slice none 0 0,.slice none 0 0,.slice none 0 0,.slice none 0 0,.slice none 0 0,.int .i64 0] 45):=⟨_,rfl⟩;go_upto_region 1 with fail
 rw[←hw]at F1;rw[←hw];clear hw;go_upto_region 2 with fail
 have F2:=cN (F1.o.new 45 #[.bool false,.slice none 0 0,.slice none 0 0,.slice none 0 0,.slice none 0 0,.slice none 0 0,.int .i64 (-1)]);obtain⟨w2,hw⟩:∃x,x=w1.alloc (.cells #[.bool false,.slice none 0 0,.slice none 0 0,.slice none 0 0,.slice none 0 0,.slice none 0 0,.int .i64 (-1)] 45):=⟨_,rfl⟩;obtain⟨g2,hg⟩:∃x,x=w1.heap.size:=⟨_,rfl⟩;rw[←hw,←hg]at F2;rw[←hw,←hg];clear hw hg;go_wp2_with fail
 with_reducible refine(eh ⟨#[42]⟩ [42] rfl F2.o).mono ?_
 rintro e w3 ⟨b,hb,rfl,hF⟩;have F3:=cN hF;have HB:=cN hb;clear hF hb;have Yz:=F3.o.cQ.cell 0;simp at Yz;have kz0:=F3.o.cQ.frozen 0;go_upto_if 11 with fail
 have F4:=cN (F3.o.ew 0 (.bool b) (cs':=#[.bool b,.slice none 0 0,.slice none 0 0,.slice none 0 0,.slice none 0 0,.slice none 0 0,.int .i64 (-1)]) rfl);obtain⟨w4,hw⟩:∃x,x=w3.setCell ⟨g2,0,none⟩ (.bool b):=⟨_,rfl⟩;rw[←hw]at F4;rw[←hw];clear hw Yz kz0;obtain⟨g2',hgg⟩:∃x,x=g2:=⟨_,rfl⟩;clear hgg g2';go_cut [] (fun wx=>Hid (wT C w g2 (I.px C.text.size st) wx));case first=>
  cases b with
  |true=>
   have F5:Hid (Fr C.g w _ _ (PS C (I.next st)) w4):=F4.o;go_wp2_with fail
   go_meet;have e:I.px C.text.size st=(⟨true,[],[],[],[],[],-1⟩,I.next st):=by simp only[I.px,HB.o,bo]
   rw[e];exact⟨none,0,0,none,0,0,none,0,0,none,0,0,none,0,0,F5.o.yk (Rr.nil _ _ _) (Rr.nil _ _ _) (Rr.nil _ _ _) (Rr.nil _ _ _) (Rr.nil _ _ _),by show(-9223372036854775808:Int)≤ -1;decide,by show(-1:Int)≤9223372036854775807;decide⟩
  |false=>
   obtain⟨w5,hw⟩:∃x,x=w4:=⟨_,rfl⟩;subst hw;have F5:Hid (Fr C.g w _ _ (PS C st) w5):=F4.o;clear F4;go_wp2_with fail
   with_reducible refine(Fr.mr F5.o (xx C 208 #[.pointer (some ⟨C.g,0,none⟩)] #[] #[.pointer (some ⟨C.g,0,none⟩)] (fun w=>by simp[go_sem]) [] km 16 16 rfl (by decide) (by decide) (I.item C.text.size) (I.DT _) st.r.length (ig fun st w hp=>Ep C st w hp) st _ (aa _) F5.o.q (iH.none _))).mono ?_
   rintro e w6 ⟨v6,xs6,s6,YI,rfl,hF⟩;have X6:=cN YI;have F6:=cN hF;clear hF YI;obtain⟨A6,m6,c6,rfl⟩:=dj F6.o.N6;have QT:=F6.o.cQ.cell 1;simp at QT;have SD:=F6.o.cQ.frozen 1;go_wp2_with fail
   go_meet;have e:I.px C.text.size st=(⟨false,xs6,[],[],[],[],-1⟩,s6):=by simp only[I.px,HB.o,aO,bx,X6.o]
   rw[e];have FM:=F6.o.ew 1 (.slice A6 m6 c6) rfl;exact⟨A6,m6,c6,none,0,0,none,0,0,none,0,0,none,0,0,FM.yk FM.N6 (Rr.nil _ _ _) (Rr.nil _ _ _) (Rr.nil _ _ _) (Rr.nil _ _ _),by show(-9223372036854775808:Int)≤ -1;decide,by show(-1:Int)≤9223372036854775807;decide⟩
 case rest=>
  clear F4 F3 HB;obtain⟨q0,hq⟩:∃q,q=I.px C.text.size st:=⟨_,rfl⟩;obtain⟨O3,TB⟩:=q0;rw[←hq]at hcut;have YM:=cN hq;obtain⟨RU,hw⟩:∃x,x=wc:=⟨_,rfl⟩;subst hw;have HC:=cN hcut.o;clear hq hcut;obtain⟨A1,m1,c1,A2,m2,c2,A3,m3,c3,A4,m4,c4,A5,m5,c5,hF,hl1,hl2⟩:=HC.o;have Pj:=cN hF;have RL:=cN hl1;have RM:=cN hl2;clear hF hl1 hl2 HC;unfold DD at Pj;go_wp2_with fail
  with_reducible refine(dE Pj.o (n:=1) (cells:=#[.string ⟨#[102,114,111,109]⟩]) [[102,114,111,109]] rfl rfl (by decide)).mono ?_
  rintro e PW ⟨s11,TH,rfl,hF⟩;have W4:=cN TH;have Pv:=cN hF;clear hF TH;have hg11:=Pv.o.ch.size;have hq11:=Pv.o.cQ.lt;have hl11:=Pv.o.lt;have hCg:C.g<PW.heap.size:=by omega
  obtain⟨lo,hlo⟩:∃x,x=PW.heap.size:=⟨_,rfl⟩;have hlo1:lo≤PW.heap.size:=by omega
  have hlo2:PW.heap.size≤lo:=by omega
  clear hlo;have YR:Hid (rV PW (PL w.heap.size lo g2) O3 (.slice A1 m1 c1) (.slice A3 m3 c3) (.slice A4 m4 c4) (.slice A5 m5 c5)):=by
   have hP:∀b,ju w.heap.size [(g2,45,#[.bool O3.all,.slice A1 m1 c1,.slice A2 m2 c2,.slice A3 m3 c3,.slice A4 m4 c4,.slice A5 m5 c5,.int .i64 O3.lim]),(w.heap.size,45,#[.bool false,.slice none 0 0,.slice none 0 0,.slice none 0 0,.slice none 0 0,.slice none 0 0,.int .i64 0])] PW b→PL w.heap.size lo g2 b:=fun b hb=>⟨hb.1,by have:=hb.2.1;omega,hb.2.2 (g2,45,#[.bool O3.all,.slice A1 m1 c1,.slice A2 m2 c2,.slice A3 m3 c3,.slice A4 m4 c4,.slice A5 m5 c5,.int .i64 O3.lim]) ag,hb.2.2 (w.heap.size,45,#[.bool false,.slice none 0 0,.slice none 0 0,.slice none 0 0,.slice none 0 0,.slice none 0 0,.int .i64 0]) (au _ ag)⟩
   exact⟨Rr.hp Pv.o.N6 hP fun _ _=>rfl,Rr.hp Pv.o.UW hP fun _ _=>rfl,Rr.hp Pv.o.Xf hP fun _ _=>rfl,Rr.hp Pv.o.Xg hP fun _ _=>rfl⟩
  have hwg:w.heap.size≤g2:=(Pv.o.own _ ag).1;have hwg2:w.heap.size≠g2:=((bW.1 Pv.o.nd).1 _ ag).symm;have FI:=cN (Fr.start (g:=C.g) hCg Pv.o.ps);go_wp2_with fail
  with_reducible refine(Fr.GJ FI.o (rk C _ _ FI.o.q)).mono ?_
  rintro e Qu ⟨Ax,mx,cx,OB,s12,YS,rfl,hF⟩;have X12:=cN YS;have PO:=cN hF;clear hF YS;have FO:=cN (Pv.o.call PO.o.ps PO.o.ch);have hs12:=PO.o.ch.size;have PZ:=(FO.o.cQ.alloc (.cells #[.string (I.bs OB.nm),.string (I.bs OB.al),.slice Ax mx cx] 132)).cell 2;have Sl:=(FO.o.cQ.alloc (.cells #[.string (I.bs OB.nm),.string (I.bs OB.al),.slice Ax mx cx] 132)).frozen 2;have kl:=FO.o.cQ.lt;simp at PZ;obtain⟨Uf,hw⟩:∃x,x=(Qu.setCell ⟨g2,2,none⟩ (.slice (some ⟨Qu.heap.size,0,none⟩) 1 1)).alloc (.cells #[.string (I.bs OB.nm),.string (I.bs OB.al),.slice Ax mx cx] 132):=⟨_,rfl⟩;have FN:=cN ((((FO.o.ew 2 (.slice (some ⟨Qu.heap.size,0,none⟩) 1 1) (cs':=#[.bool O3.all,.slice A1 m1 c1,.slice (some ⟨Qu.heap.size,0,none⟩) 1 1,.slice A3 m3 c3,.slice A4 m4 c4,.slice A5 m5 c5,.int .i64 O3.lim]) rfl)).tmp (.cells #[.string (I.bs OB.nm),.string (I.bs OB.al),.slice Ax mx cx] 132)).none);rw[←hw]at FN;have YT:Hid (rV Uf (PL w.heap.size lo g2) O3 (.slice A1 m1 c1) (.slice A3 m3 c3) (.slice A4 m4 c4) (.slice A5 m5 c5)):=YR.o.hp (fun _ h=>h) fun b hb=>by
   have h1:=hb.2.1
   have h2:=hb.2.2.1
   have h3:=hb.1
   rw[hw]
   exact(aL _ _ b (by simp;omega)).trans ((aU Qu ⟨g2,2,none⟩ _ b (by show b≠g2;omega)).trans (PO.o.ch.block b (by omega) (by omega)))
  have HO:Hid (Ro ft Uf lo (.slice (some ⟨Qu.heap.size,0,none⟩) 1 1) [OB]):=by
   show Ro ft Uf lo (.slice (some ⟨Qu.heap.size,0,none⟩) 1 1) [OB];have hsz:(Qu.setCell ⟨g2,2,none⟩ (.slice (some ⟨Qu.heap.size,0,none⟩) 1 1)).heap.size=Qu.heap.size:=by simp
   have hbk:=NA.new (Qu.setCell ⟨g2,2,none⟩ (.slice (some ⟨Qu.heap.size,0,none⟩) 1 1)) 132 #[.string (I.bs OB.nm),.string (I.bs OB.al),.slice Ax mx cx];rw[hsz,←hw]at hbk;have Wd:Uf.heap.size=Qu.heap.size+1:=by rw[hw];simp
   refine Ro.lit (cs:=[.string (I.bs OB.nm),.string (I.bs OB.al),.slice Ax mx cx]) hbk (by omega) (El.hp (E:=ft) PO.o.N6 (fun b hb=>⟨by have:=hb.1;omega,by have:=hb.2.1;omega,by have:=hb.2.1;omega⟩) fun b hb=>?_);rw[hw];exact(aL _ _ b (by have:=hb.2.1;simp;omega)).trans (aU Qu ⟨g2,2,none⟩ _ b (by have:=hb.1;show b≠g2;omega))
  go_wp2_with fail
  rw[←hw];have Wd:lo≤Uf.heap.size:=by rw[hw];simp;omega
  clear hw PZ Sl kl;have hCg':C.g<lo:=by omega
  have YU:g2<lo:=by omega
  have YV:w.heap.size≤lo:=by omega
  have HJ:Hid (I.ek C.text.size (s12.r.length+1) [OB] s12=I.ek C.text.size (s12.r.length+1) [OB] s12):=rfl;clear FI FO Pj Pv PO hs12 YR hCg hq11 hg11 hlo1 hlo2;go_loopg [] s12.r.length (fun gg wr=>∃(f:Nat) (xs:List I.Src) (s0:I.St) (A:Option Addr) (c:Nat),gg=s0.r.length∧s0.r.length<f∧1≤xs.length∧xs.length≤17∧Hid (I.ek C.text.size (s12.r.length+1) [OB] s12=I.ek C.text.size f xs s0)∧Hid (Fr C.g w [(g2,45,#[.bool O3.all,.slice A1 m1 c1,.slice A xs.length c,.slice A3 m3 c3,.slice A4 m4 c4,.slice A5 m5 c5,.int .i64 O3.lim]),(w.heap.size,45,#[.bool false,.slice none 0 0,.slice none 0 0,.slice none 0 0,.slice none 0 0,.slice none 0 0,.int .i64 0])] [] (PS C s0) wr)∧Hid (Ro ft wr lo (.slice A xs.length c) xs)∧Hid (rV wr (PL w.heap.size lo g2) O3 (.slice A1 m1 c1) (.slice A3 m3 c3) (.slice A4 m4 c4) (.slice A5 m5 c5))∧lo≤wr.heap.size);case atStart=>exact⟨_,[OB],s12,_,_,rfl,by omega,by simp,by simp,HJ,FN,HO,YT,Wd⟩
  case round=>
   obtain⟨f,xs,s0,A,c,rfl,T6,hx0,hxm,HJ2,HF,OD,HS2,hlo20⟩:=hrel;obtain⟨NN,hw⟩:∃x,x=wr:=⟨_,rfl⟩;subst hw;clear HJ FN HO YT Wd;have Pt:=HF.o.ch.size;have hq20:=HF.o.cQ.lt;have hr20:=HF.o.cR.lt;have YW:C.g<NN.heap.size:=by omega
   have FI:=cN (Fr.start (g:=C.g) YW HF.o.ps);go_wp2_with fail
   with_reducible refine(eh ⟨#[106,111,105,110]⟩ [106,111,105,110] rfl FI.o).mono ?_
   rintro e YX ⟨b,hb,rfl,hF⟩;have HB:=cN hb;have YY:=hF.ch.size;cases b with
   |false=>
    have ZU:=cN (OD.o.dH (fun b _ h2=>hF.ch.block b h2 (by omega)) YY);have FO:=cN (HF.o.call (Q':=PS C s0) hF.ps hF.ch);have HZ:=cN (HJ2.o.trans (I.Dv T6 hb));have HR:Hid (Rr ft YX (ju w.heap.size [(g2,45,#[.bool O3.all,.slice A1 m1 c1,.slice A xs.length c,.slice A3 m3 c3,.slice A4 m4 c4,.slice A5 m5 c5,.int .i64 O3.lim]),(w.heap.size,45,#[.bool false,.slice none 0 0,.slice none 0 0,.slice none 0 0,.slice none 0 0,.slice none 0 0,.int .i64 0])] YX) (.slice A xs.length c) xs):=ZU.o.rr.hp (fun b hb=>⟨by have:=hb.1;omega,hb.2,fun p hp=>by
     have h1:=hb.1
     simp only[af,aj,aH]at hp
     rcases hp with rfl|rfl
     ·show g2≠b
      omega
     ·show w.heap.size≠b
      omega⟩) fun _ _=>rfl
    have SW:=cN (HS2.o.hp (P':=ju w.heap.size [(g2,45,#[.bool O3.all,.slice A1 m1 c1,.slice A xs.length c,.slice A3 m3 c3,.slice A4 m4 c4,.slice A5 m5 c5,.int .i64 O3.lim]),(w.heap.size,45,#[.bool false,.slice none 0 0,.slice none 0 0,.slice none 0 0,.slice none 0 0,.slice none 0 0,.int .i64 0])] YX) (fun b hb=>⟨hb.1,by have:=hb.2.1;omega,fun p hp=>by
     simp only[af,aj,aH]at hp
     rcases hp with rfl|rfl
     ·exact hb.2.2.1
     ·exact hb.2.2.2⟩) fun b hb=>hF.ch.block b (by have:=hb.2.1;omega) (by have:=hb.1;omega))
    have Ti:=cN (FO.o.yk SW.o.1 HR.o SW.o.2.1 SW.o.2.2.1 SW.o.2.2.2);clear hF hb HF OD HJ2 FI FO ZU HR HB HS2 SW;obtain⟨Vn,hw⟩:∃x,x=YX:=⟨_,rfl⟩;subst hw;go_wp2_with fail
    with_reducible refine(Fr.mr Ti.o (oU C _ _ Ti.o.q)).mono ?_
    rintro e w23 ⟨v23,xs23,Vo,YZ,rfl,hF⟩;have X23:=cN YZ;have SK:=cN hF;clear hF YZ;obtain⟨ZV,m23,c23,rfl⟩:=dj SK.o.N6;have PF:=SK.o.cQ.cell 3;simp at PF;have QU:=SK.o.cQ.frozen 3;go_upto_region 16 with fail
    have RN:=cN (SK.o.ew 3 (.slice ZV m23 c23) (cs':=#[.bool O3.all,.slice A1 m1 c1,.slice A xs.length c,.slice ZV m23 c23,.slice A4 m4 c4,.slice A5 m5 c5,.int .i64 O3.lim]) rfl);obtain⟨QV,hw⟩:∃x,x=w23.setCell ⟨g2,3,none⟩ (.slice ZV m23 c23):=⟨_,rfl⟩;rw[←hw]at RN;rw[←hw];clear hw PF QU;obtain⟨TC,hq2⟩:∃q:I.NS,q={O3 with fr:=xs,wh:=xs23}:=⟨_,rfl⟩;have HC:Hid (wT C w g2 (TC,Vo) QV):=⟨A1,m1,c1,A,xs.length,c,ZV,m23,c23,A4,m4,c4,A5,m5,c5,by rw[hq2];exact RN.o.yk RN.o.VF RN.o.UW RN.o.N6 RN.o.Xg RN.o.it5,by rw[hq2];exact RL.o,by rw[hq2];exact RM.o⟩;have ZR:=cN hq2;clear hq2 Ti SK RN RL RM;obtain⟨A1,m1,c1,A2,m2,c2,A3,m3,c3,A4,m4,c4,A5,m5,c5,hF,hl1,hl2⟩:=HC.o;have Q7:=cN hF;have RL:=cN hl1;have RM:=cN hl2;clear hF hl1 hl2 HC;unfold DD at Q7;go_wp2_with fail
    with_reducible refine(eh ⟨#[103,114,111,117,112]⟩ [103,114,111,117,112] rfl Q7.o).mono ?_
    rintro e ZS ⟨b,hb,rfl,hF⟩;have FB:=cN hF;have Qg:=cN hb;clear hF hb Q7;go_upto_if 52 with fail
    go_cut [] (fun wx=>Hid (wT C w g2 (I.nR C.text.size TC Vo) wx));case first=>
     cases b with
     |true=>
      obtain⟨Qh,hw⟩:∃x,x=ZS:=⟨_,rfl⟩;subst hw;have P0:Hid (Fr C.g w _ _ (PS C (I.next Vo)) Qh):=FB.o;clear FB;go_wp2_with fail
      with_reducible refine(dE P0.o (n:=1) (cells:=#[.string ⟨#[98,121]⟩]) [[98,121]] rfl rfl (by decide)).mono ?_
      rintro e Sn ⟨QF,Pz,rfl,hF⟩;have Sq:=cN Pz;have OE:=cN hF;clear hF Pz;go_wp2_with fail
      with_reducible refine(Fr.mr OE.o (sM C 138 #[.pointer (some ⟨C.g,0,none⟩)] #[] #[.pointer (some ⟨C.g,0,none⟩)] (fun w=>by simp[go_sem]) [] km 16 16 rfl (by decide) (by decide) (I.expr C.text.size) (I.ie _) QF.r.length (ig fun st w hp=>iq C st w hp) QF _ (aa _) OE.o.q (iH.none _))).mono ?_
      rintro e YP ⟨v102,TI,We,Rz,rfl,hF⟩;have Wf:=cN Rz;have Qi:=cN hF;clear hF Rz;obtain⟨A9,m9,c9,rfl⟩:=dj Qi.o.N6;have Ug:=Qi.o.cQ.cell 4;simp at Ug;have Xb:=Qi.o.cQ.frozen 4;go_wp2_with fail
      go_meet;have e:I.nR C.text.size TC Vo=({TC with gr:=TI},We):=by simp only[I.nR,Qg.o,bo,Sq.o,Wf.o]
      rw[e];have FM:=Qi.o.ew 4 (.slice A9 m9 c9) rfl;exact⟨A1,m1,c1,A2,m2,c2,A3,m3,c3,A9,m9,c9,A5,m5,c5,FM.yk FM.VF FM.UW FM.Xf FM.N6 FM.it5,RL.o,RM.o⟩
     |false=>
      have FC:Hid (Fr C.g w _ _ (PS C Vo) ZS):=FB.o;clear FB;go_wp2_with fail
      go_meet;have e:I.nR C.text.size TC Vo=(TC,Vo):=by simp only[I.nR,Qg.o,aO,bx]
      rw[e];exact⟨A1,m1,c1,A2,m2,c2,A3,m3,c3,A4,m4,c4,A5,m5,c5,FC.o,RL.o,RM.o⟩
    case rest=>
     clear FB RL RM Qg;obtain⟨q3,hq⟩:∃q,q=I.nR C.text.size TC Vo:=⟨_,rfl⟩;obtain⟨RI,Rg⟩:=q3;rw[←hq]at hcut;have Hq3:=cN hq;obtain⟨wr3,hw⟩:∃x,x=wc:=⟨_,rfl⟩;subst hw;have HC:=cN hcut.o;clear hq hcut;obtain⟨A1,m1,c1,A2,m2,c2,A3,m3,c3,A4,m4,c4,A5,m5,c5,hF,hl1,hl2⟩:=HC.o;have Q7:=cN hF;have RL:=cN hl1;have RM:=cN hl2;clear hF hl1 hl2 HC;unfold DD at Q7;go_wp2_with fail
     with_reducible refine(eh ⟨#[111,114,100,101,114]⟩ [111,114,100,101,114] rfl Q7.o).mono ?_
     rintro e YN ⟨b,hb,rfl,hF⟩;have FB:=cN hF;have Qg:=cN hb;clear hF hb Q7;go_upto_if 62 with fail
     go_cut [] (fun wx=>Hid (wT C w g2 (I.nN C.text.size RI Rg) wx));case first=>
      cases b with
      |true=>
       obtain⟨Qh,hw⟩:∃x,x=YN:=⟨_,rfl⟩;subst hw;have P0:Hid (Fr C.g w _ _ (PS C (I.next Rg)) Qh):=FB.o;clear FB;go_wp2_with fail
       with_reducible refine(dE P0.o (n:=1) (cells:=#[.string ⟨#[98,121]⟩]) [[98,121]] rfl rfl (by decide)).mono ?_
       rintro e Sn ⟨QF,Pz,rfl,hF⟩;have Sq:=cN Pz;have OE:=cN hF;clear hF Pz;go_wp2_with fail
       with_reducible refine(Fr.mr OE.o (xY C 211 #[.pointer (some ⟨C.g,0,none⟩)] #[] #[.pointer (some ⟨C.g,0,none⟩)] (fun w=>by simp[go_sem]) [] km 16 16 rfl (by decide) (by decide) (I.order C.text.size) (I.zX _) QF.r.length (ig fun st w hp=>DW C st w hp) QF _ (aa _) OE.o.q (iH.none _))).mono ?_
       rintro e YP ⟨v102,TI,We,Rz,rfl,hF⟩;have Wf:=cN Rz;have Qi:=cN hF;clear hF Rz;obtain⟨A9,m9,c9,rfl⟩:=dj Qi.o.N6;have UF:=Qi.o.cQ.cell 5;simp at UF;have Yt:=Qi.o.cQ.frozen 5;go_wp2_with fail
       go_meet;have e:I.nN C.text.size RI Rg=({RI with od:=TI},We):=by simp only[I.nN,Qg.o,bo,Sq.o,Wf.o]
       rw[e];have FM:=Qi.o.ew 5 (.slice A9 m9 c9) rfl;exact⟨A1,m1,c1,A2,m2,c2,A3,m3,c3,A4,m4,c4,A9,m9,c9,FM.yk FM.VF FM.UW FM.Xf FM.Xg FM.N6,RL.o,RM.o⟩
      |false=>
       have FC:Hid (Fr C.g w _ _ (PS C Rg) YN):=FB.o;clear FB;go_wp2_with fail
       go_meet;have e:I.nN C.text.size RI Rg=(RI,Rg):=by simp only[I.nN,Qg.o,aO,bx]
       rw[e];exact⟨A1,m1,c1,A2,m2,c2,A3,m3,c3,A4,m4,c4,A5,m5,c5,FC.o,RL.o,RM.o⟩
     case rest=>
      clear FB RL RM Qg;obtain⟨q4,hq⟩:∃q,q=I.nN C.text.size RI Rg:=⟨_,rfl⟩;obtain⟨Rh,RJ⟩:=q4;rw[←hq]at hcut;have Hq4:=cN hq;obtain⟨wr4,hw⟩:∃x,x=wc:=⟨_,rfl⟩;subst hw;have HC:=cN hcut.o;clear hq hcut;obtain⟨A1,m1,c1,A2,m2,c2,A3,m3,c3,A4,m4,c4,A5,m5,c5,hF,hl1,hl2⟩:=HC.o;have Q7:=cN hF;have RL:=cN hl1;have RM:=cN hl2;clear hF hl1 hl2 HC;unfold DD at Q7;go_wp2_with fail
      with_reducible refine(eh ⟨#[108,105,109,105,116]⟩ [108,105,109,105,116] rfl Q7.o).mono ?_
      rintro e YO ⟨b,hb,rfl,hF⟩;have FB:=cN hF;have Qg:=cN hb;clear hF hb Q7;go_upto_if 72 with fail
      go_cut [] (fun wx=>Hid (wT C w g2 (I.nz C.text.size Rh RJ) wx));case first=>
       cases b with
       |true=>
        obtain⟨Qh,hw⟩:∃x,x=YO:=⟨_,rfl⟩;subst hw;have P0:Hid (Fr C.g w _ _ (PS C (I.next RJ)) Qh):=FB.o;clear FB;go_wp2_with fail
        with_reducible refine(Fr.subI P0.o (BS C _ _ P0.o.q)).mono ?_
        rintro e Sn ⟨n101,QF,Vp,rfl,hF⟩;have Y0:=cN Vp;have OE:=cN hF;clear hF Vp;have Uh:=OE.o.cQ.cell 6;simp at Uh;have Xc:=OE.o.cQ.frozen 6;have hlim:=I.DY C.text.size (I.next RJ);rw[Y0.o]at hlim;have Y1:=cN hlim;clear hlim;go_wp2_with fail
        go_meet;have e:I.nz C.text.size Rh RJ=({Rh with lim:=n101},QF):=by simp only[I.nz,Qg.o,bo,Y0.o]
        rw[e];have FM:=OE.o.ew 6 (.int .i64 n101) rfl;exact⟨A1,m1,c1,A2,m2,c2,A3,m3,c3,A4,m4,c4,A5,m5,c5,FM.yk FM.N6 FM.VF FM.UW FM.Xf FM.Xg,by have h1:=Y1.o.1;simp only at h1⊢;omega,Y1.o.2⟩
       |false=>
        have FC:Hid (Fr C.g w _ _ (PS C RJ) YO):=FB.o;clear FB;go_wp2_with fail
        go_meet;have e:I.nz C.text.size Rh RJ=(Rh,RJ):=by simp only[I.nz,Qg.o,aO,bx]
        rw[e];exact⟨A1,m1,c1,A2,m2,c2,A3,m3,c3,A4,m4,c4,A5,m5,c5,FC.o,RL.o,RM.o⟩
      case rest=>
       clear FB RL RM Qg;obtain⟨q5,hq⟩:∃q,q=I.nz C.text.size Rh RJ:=⟨_,rfl⟩;obtain⟨Th,ZT⟩:=q5;rw[←hq]at hcut;have Hq5:=cN hq;obtain⟨wr5,hw⟩:∃x,x=wc:=⟨_,rfl⟩;subst hw;have HC:=cN hcut.o;clear hq hcut;obtain⟨A1,m1,c1,A2,m2,c2,A3,m3,c3,A4,m4,c4,A5,m5,c5,hF,hl1,hl2⟩:=HC.o;have Qv:=cN hF;have RL:=cN hl1;have RM:=cN hl2;clear hF hl1 hl2 HC;unfold DD at Qv;obtain⟨Ry,hw⟩:∃x,x=wr5:=⟨_,rfl⟩;subst hw;obtain⟨Om,On,Oo,Ox,Oy,Oz,OA⟩:=Qv.o.cQ.y7 0 1 2 3 4 5 6;simp at Om On Oo Ox Oy Oz OA;obtain⟨NU,NV,NW,NY,NZ,N0,N3⟩:=Qv.o.cR.y7 0 1 2 3 4 5 6;simp at NU NV NW NY NZ N0 N3;obtain⟨O6,Pa,Pb,Pm,Pn,Pp,Pq⟩:=Qv.o.cR.z7 0 1 2 3 4 5 6;go_wp2_with fail
       have FZ:=cN (Qv.o.fA (JX (Ch.refl _ _ _) (.inl rfl) _ _ _ _ _ _ _) (AO Qv.o.cR (.bool Th.all) (.slice A1 m1 c1) (.slice A2 m2 c2) (.slice A3 m3 c3) (.slice A4 m4 c4) (.slice A5 m5 c5) (.int .i64 Th.lim)));have HS:Hid (I.selection C.text.size st=(Th,ZT)):=by show _=_;unfold I.selection;rw[←YM.o];simp only[W4.o,X12.o,HZ.o];unfold I.oS;simp only[X23.o];rw[←ZR.o,←Hq3.o];simp only;rw[←Hq4.o];simp only;rw[←Hq5.o]
       refine ae (av rfl _ _ w.heap.size 45 _ (0,0) _ rfl FZ.o.cR j9 rfl jv) rfl ?_;rw[HS.o];exact FZ.o.done ⟨_,_,_,_,_,rfl,FZ.o.N6,FZ.o.VF,FZ.o.UW,FZ.o.Xf,FZ.o.Xg,RL.o,RM.o⟩
   |true=>
    have hlen:=I.gZ hb;have ZW:Hid (Fr C.g NN [] [] (PS C (I.next s0)) YX):=hF;have hb21:=cN ((HF.o.cQ).ch hF.ch hq20 (by omega));have PZ:=hb21.o.cell 2;simp at PZ;clear hF hb;by_cases h16:16<xs.length
    ·have HZ:=cN (HJ2.o.trans (I.yu T6 HB.o h16));have t1:decide ((16:Int)<(xs.length:Int))=true:=aq (by omega);have ZU:=cN (OD.o.dH (fun b _ h2=>ZW.o.ch.block b h2 (by omega)) YY);clear h16 hlen;go_wp2_with fail
     with_reducible refine(BP ZW.o).mono ?_
     rintro e Vn ⟨ZX,Y2,rfl,hF⟩;have E22:=cN Y2;have Ti:=cN hF;clear hF Y2;clear PZ;have hs22:=Ti.o.ch.size;have HOy:=cN (OD.o.dH (fun b _ h2=>Ti.o.ch.block b h2 (by omega)) hs22);have FO:=cN (HF.o.call (Q':=PS C ZX) Ti.o.ps Ti.o.ch);have HR:Hid (Rr ft Vn (ju w.heap.size [(g2,45,#[.bool O3.all,.slice A1 m1 c1,.slice A xs.length c,.slice A3 m3 c3,.slice A4 m4 c4,.slice A5 m5 c5,.int .i64 O3.lim]),(w.heap.size,45,#[.bool false,.slice none 0 0,.slice none 0 0,.slice none 0 0,.slice none 0 0,.slice none 0 0,.int .i64 0])] Vn) (.slice A xs.length c) xs):=HOy.o.rr.hp (fun b hb=>⟨by have:=hb.1;omega,hb.2,fun p hp=>by
      have h1:=hb.1
      simp only[af,aj,aH]at hp
      rcases hp with rfl|rfl
      ·show g2≠b
       omega
      ·show w.heap.size≠b
       omega⟩) fun _ _=>rfl
     have SW:=cN (HS2.o.hp (P':=ju w.heap.size [(g2,45,#[.bool O3.all,.slice A1 m1 c1,.slice A xs.length c,.slice A3 m3 c3,.slice A4 m4 c4,.slice A5 m5 c5,.int .i64 O3.lim]),(w.heap.size,45,#[.bool false,.slice none 0 0,.slice none 0 0,.slice none 0 0,.slice none 0 0,.slice none 0 0,.int .i64 0])] Vn) (fun b hb=>⟨hb.1,by have:=hb.2.1;omega,fun p hp=>by
      simp only[af,aj,aH]at hp
      rcases hp with rfl|rfl
      ·exact hb.2.2.1
      ·exact hb.2.2.2⟩) fun b hb=>Ti.o.ch.block b (by have:=hb.2.1;omega) (by have:=hb.1;omega))
     have SK:=cN (FO.o.yk SW.o.1 HR.o SW.o.2.1 SW.o.2.2.1 SW.o.2.2.2);clear Ti FO HR HOy ZU HF OD FI HS2 SW;obtain⟨w23,hw⟩:∃x,x=Vn:=⟨_,rfl⟩;subst hw;obtain⟨Om,On,Oo,Ox,Oy,Oz,OA⟩:=SK.o.cQ.y7 0 1 2 3 4 5 6;simp at Om On Oo Ox Oy Oz OA;obtain⟨NU,NV,NW,NY,NZ,N0,N3⟩:=SK.o.cR.y7 0 1 2 3 4 5 6;simp at NU NV NW NY NZ N0 N3;obtain⟨O6,Pa,Pb,Pm,Pn,Pp,Pq⟩:=SK.o.cR.z7 0 1 2 3 4 5 6;go_wp2_with fail
     have FZ:=cN (SK.o.fA (JX (Ch.refl _ _ _) (.inl rfl) _ _ _ _ _ _ _) (AO SK.o.cR (.bool O3.all) (.slice A1 m1 c1) (.slice A xs.length c) (.slice A3 m3 c3) (.slice A4 m4 c4) (.slice A5 m5 c5) (.int .i64 O3.lim)));have HS:Hid (I.selection C.text.size st=(({O3 with fr:=xs}:I.NS),ZX)):=by show _=_;unfold I.selection;rw[←YM.o];simp only[W4.o,X12.o,HZ.o,E22.o]
     refine ae (av rfl _ _ w.heap.size 45 _ (0,0) _ rfl FZ.o.cR j9 rfl jv) rfl ?_;rw[HS.o];exact FZ.o.done ⟨_,_,_,_,_,rfl,FZ.o.N6,FZ.o.VF,FZ.o.UW,FZ.o.Xf,FZ.o.Xg,RL.o,RM.o⟩
    ·have t1:decide ((16:Int)<(xs.length:Int))=false:=ar (by omega);have H16:=cN h16;have hx16:xs.length≤16:=by omega
     clear h16;go_wp2_with fail
     with_reducible refine(Fr.GJ ZW.o (rk C _ _ ZW.o.q)).mono ?_
     rintro e Vn ⟨Ay,my,cy,RA,ZX,Y3,rfl,hF⟩;have X22:=cN Y3;have Ti:=cN hF;clear hF Y3;clear PZ;go_upto_region 12 with fail
     have SK:=cN (Ti.o.new 132 #[.string (I.bs RA.nm),.string (I.bs RA.al),.slice Ay my cy]);obtain⟨w23,hw⟩:∃x,x=Vn.alloc (.cells #[.string (I.bs RA.nm),.string (I.bs RA.al),.slice Ay my cy] 132):=⟨_,rfl⟩;obtain⟨g23,hg⟩:∃x,x=Vn.heap.size:=⟨_,rfl⟩;rw[←hw,←hg]at SK;rw[←hw,←hg];clear hw hg;go_wp2_with fail
     with_reducible refine(dE SK.o (n:=1) (cells:=#[.string ⟨#[111,110]⟩]) [[111,110]] rfl rfl (by decide)).mono ?_
     rintro e QV ⟨s24,Y4,rfl,hF⟩;have E24:=cN Y4;have RN:=cN hF;clear hF Y4;go_wp2_with fail
     with_reducible refine(Fr.xO RN.o (iq C _ _ RN.o.q)).mono ?_
     rintro e RD ⟨PG,ZY,ZZ,Z0,x25,Z3,Y5,rfl,hF⟩;have X25:=cN Y5;have TJ:=cN hF;clear hF Y5;have PZ:=(TJ.o.cQ.alloc (.cells #[.int .u8 (PG.o.toNat:Int),.int .u8 (PG.v.k.toNat:Int),.int .i64 PG.v.n,.string PG.v.s,.string PG.nm,.string PG.of,.int .i64 PG.n,.slice ZY ZZ Z0] 50)).cell 2;have Sl:=(TJ.o.cQ.alloc (.cells #[.int .u8 (PG.o.toNat:Int),.int .u8 (PG.v.k.toNat:Int),.int .i64 PG.v.n,.string PG.v.s,.string PG.nm,.string PG.of,.int .i64 PG.n,.slice ZY ZZ Z0] 50)).frozen 2;have kl:=TJ.o.cQ.lt;simp at PZ;go_upto_region 14 with fail
     have Uj:=cN ((TJ.o).sq (E:=NI) (cs:=[.int .u8 (PG.o.toNat:Int),.int .u8 (PG.v.k.toNat:Int),.int .i64 PG.v.n,.string PG.v.s,.string PG.nm,.string PG.of,.int .i64 PG.n,.slice ZY ZZ Z0]) 50 2 (cells':=#[.string (I.bs RA.nm),.string (I.bs RA.al),.slice (some ⟨RD.heap.size,0,none⟩) 1 1]) rfl);obtain⟨Vq,hw⟩:∃x,x=((RD.setCell ⟨g23,2,none⟩ (.slice (some ⟨RD.heap.size,0,none⟩) 1 1)).alloc (.cells #[.int .u8 (PG.o.toNat:Int),.int .u8 (PG.v.k.toNat:Int),.int .i64 PG.v.n,.string PG.v.s,.string PG.nm,.string PG.of,.int .i64 PG.n,.slice ZY ZZ Z0] 50)):=⟨_,rfl⟩;obtain⟨Y6,hg⟩:∃x,x=RD.heap.size:=⟨_,rfl⟩;rw[←hw,←hg]at Uj;rw[←hw,←hg];clear hw hg PZ Sl kl;have hsl:=I.yy C.text.size (I.next s0);rw[X22.o]at hsl;have hel:=I.eH C.text.size [[111,110]] ZX;rw[E24.o]at hel;have hxl:=I.ie C.text.size s24;rw[X25.o]at hxl;simp only at hsl hxl;have HJ3:=cN (HJ2.o.trans (I.zy T6 HB.o H16.o X22.o E24.o X25.o));have hs26:=Uj.o.ch.size;have FO:=cN (HF.o.call (Q':=PS C Z3) Uj.o.ps Uj.o.ch);have Qx:=cN (OD.o.dH (fun b _ h2=>Uj.o.ch.block b h2 (by omega)) hs26);obtain⟨Z6,Wg⟩:∃y:I.Src,y={RA with on:=[x25]}:=⟨_,rfl⟩;have HY:Hid (ft.R Vq (In NN.heap.size Vq.heap.size) [.string (I.bs RA.nm),.string (I.bs RA.al),.slice (some ⟨Y6,0,none⟩) 1 1] Z6):=by obtain⟨v,he,h1,h2,h3⟩:=Uj.o.UW;rw[Wg];exact⟨_,rfl,Rr.hp (Uj.o.N6:Rr NI _ _ _ _) (fun b hb=>⟨hb.1,hb.2.1⟩) (fun _ _=>rfl),h2,h3⟩
     rw[←Wg]at HJ3;clear Wg;obtain⟨xc0,xc1,xc2⟩:=Uj.o.cQ.y3 0 1 2;simp at xc0 xc1 xc2;have PZ:=FO.o.cQ.cell 2;simp at PZ;obtain⟨Wh,Sr⟩:∃x,x=Vq.alloc (.cells #[.string (I.bs RA.nm),.string (I.bs RA.al),.slice (some ⟨Y6,0,none⟩) 1 1] 132):=⟨_,rfl⟩;have HB27:=cN (show NA Wh Vq.heap.size 132 #[.string (I.bs RA.nm),.string (I.bs RA.al),.slice (some ⟨Y6,0,none⟩) 1 1] by rw[Sr];exact NA.new Vq _ _);have HO27:=cN (show Ro ft Wh lo (.slice A xs.length c) xs by rw[Sr];exact Qx.o.alloc _);have HX27:=cN (show ft.R Wh (Pow Wh lo (.slice A xs.length c)) [.string (I.bs RA.nm),.string (I.bs RA.al),.slice (some ⟨Y6,0,none⟩) 1 1] Z6 by
      rw[Sr]
      exact OD.o.pow (by omega) (El.hp (E:=ft) HY.o (P':=In NN.heap.size Vq.heap.size) (fun b hb=>hb) fun b hb=>aL Vq _ b hb.2) fun b hb=>⟨by have:=hb.1;omega,by have:=hb.2;simp;omega⟩)
     have FO27:=cN (show Fr C.g w _ _ (PS C Z3) Wh by rw[Sr];exact FO.o.tmp _);have hz27:lo≤Wh.heap.size:=by rw[Sr];simp;omega
     have HS27:=cN (show rV Wh (PL w.heap.size lo g2) O3 (.slice A1 m1 c1) (.slice A3 m3 c3) (.slice A4 m4 c4) (.slice A5 m5 c5) by
      rw[Sr]
      exact HS2.o.hp (fun _ h=>h) fun b hb=>(aL _ _ b (by have:=hb.2.1;omega)).trans (Uj.o.ch.block b (by have:=hb.2.1;omega) (by have:=hb.1;omega)))
     have hown:∀p∈([(g2,45,#[.bool O3.all,.slice A1 m1 c1,.slice A xs.length c,.slice A3 m3 c3,.slice A4 m4 c4,.slice A5 m5 c5,.int .i64 O3.lim]),(w.heap.size,45,#[.bool false,.slice none 0 0,.slice none 0 0,.slice none 0 0,.slice none 0 0,.slice none 0 0,.int .i64 0])]:eP),p.1<lo:=fun p hp=>by
      simp only[af,aj,aH]at hp
      rcases hp with rfl|rfl
      ·exact YU
      ·show w.heap.size<lo;omega
     have Hown:=cN hown;clear hown HF OD HS2 FI Uj Qx FO HY;go_wp2_with (at_builtin;rw[←Sr];refine eW tI rfl (.tmp 43) (.tmp 45) Tryz.underlying42 rfl lo _ xs rfl HO27.o Vq.heap.size 1 [.string (I.bs RA.nm),.string (I.bs RA.al),.slice (some ⟨Y6,0,none⟩) 1 1] Z6 rfl HB27.o HX27.o (by show(xs.length+1)*56≤140737488355328;omega) (by unfold maxLen;omega) hz27 ?_;intro v28 w28 Wi Y7 Wj;obtain⟨A28,c28,hv28,hc28⟩:=Wi.form;rw[ah,aD]at hv28;subst hv28;have HO28:=cN Wi;have Wk:=cN (FO27.o.low Wj hCg' YV Hown.o);have HS28:=cN (HS27.o.hp (fun _ h=>h) fun b hb=>Wj.block b hb.2.1);have hs28:=Y7.size;clear Wi Y7 Wj hc28 PZ;have PZ:=Wk.o.cQ.cell 2;simp at PZ;have Sl:=Wk.o.cQ.frozen 2)
     go_roundg Z3.r.length;case measure=>omega
     case rel=>exact⟨f-1,xs++[Z6],Z3,A28,c28,rfl,by omega,by simp,by simp;omega,HJ3,by rw[ah,aD];exact Wk.o.ew 2 (.slice A28 (xs.length+1) c28) (cs':=#[.bool O3.all,.slice A1 m1 c1,.slice A28 (xs.length+1) c28,.slice A3 m3 c3,.slice A4 m4 c4,.slice A5 m5 c5,.int .i64 O3.lim]) rfl,by rw[ah,aD];exact HO28.o.dH (fun b h1 _=>aU w28 ⟨g2,2,none⟩ _ b (by show b≠g2;omega)) (by simp),HS28.o.hp (fun _ h=>h) (fun b hb=>aU w28 ⟨g2,2,none⟩ _ b (by have:=hb.2.2.1;show b≠g2;omega)),by simp;omega⟩
end
end Go.Proofs.YtnicfobpclehkaaGreatDoor
