import Derived.Deep.DeepCutAuto
import Derived.Deep.RegionLaw
import Derived.Test.YtnicfobpclehkaaGreatDoorP36
set_option maxHeartbeats 3200000
set_option linter.unusedVariables false
set_option linter.unusedSimpArgs false
namespace Go.Proofs.YtnicfobpclehkaaGreatDoor
open Go.RowKit
section
set_option maxRecDepth 100000
def mF(C:RC)(w:World)(gc:Nat)(T:I.Ky×I.St)(wx:World):Prop:=∃A m k,Fr C.g w [(gc,40,cp T.1 A m k),(w.heap.size,40,#[.e,.b,.f,.f,.f,.z,.e,.b])] [It.rr Kr (.slice A m k) T.1.ck] (RS C T.2) wx∧T.1.nm.length≤4096∧T.1.rf.length≤4096∧T.1.ac=0
theorem Rp.qR(T:Nat)(st:I.St):(Rp.aC T st).1.un=false:=by
 rw[Rp.vu st (Prod.eta _).symm (Prod.eta _).symm]
theorem Rp.Ih{T:Nat}(c:I.Ky)(st:I.St){a:Ev.Ex}{s:I.St}(h:I.inside T (Rp.expr T) (I.next st)=(a,s)):Rp.cM T c st=if I.ae [99,104,101,99,107] st=true then({c with ck:=[a]},s)else(c,st):=by
 unfold Rp.cM;rewrite [h];rfl
theorem mW(C:RC)(st:I.St)(w:World)(h:RS C st w):
 Calls Tryz.prog 146 #[.p C.g] w (ER dC C w (Rp.column C.text.size st)):=by
 have F0:=aa (Fr.start h.lt h.aJ);clear h;go_enter Tryz.func146,Tryz.ntmps146;have K8:=aa (F0.o.new 40 #[.e,.b,.f,.f,.f,.z,.e,.b]);go_wp2_with fail
 with_reducible refine(bh K8.o).mono ?_
 rintro e w1 ⟨n1,s1,(N1:Hid _),(Z1:Hid _),rfl,(F1:Hid _)⟩;go_wp2_with fail
 with_reducible refine(Fr.BJ F1.o (zq C _ _ F1.o.q)).mono ?_
 rintro e w2 ⟨k2,s2,hK2,rfl,(F2:Hid _)⟩;have K2:=aa hK2;clear hK2;go_upto_region 2 with fail
 have F3:=aa (F2.o.new 40 #[.s (I.bs n1),.u (k2.toNat:Int),.f,.f,.f,.z,.e,.b]);obtain⟨w3,hw⟩:=aab (w2.alloc (.cells #[.s (I.bs n1),.u (k2.toNat:Int),.f,.f,.f,.z,.e,.b] 40));obtain⟨g3,hg⟩:=aab w2.heap.size;rw[←hw,←hg]at F3;rw[←hw,←hg];clear hw hg;obtain⟨q0,hq0⟩:=aab (Rp.aC C.text.size st);obtain⟨KU,Nb⟩:=q0;have HC:Hid (mF C w g3 (KU,Nb) w3):=by show mF C w g3 (KU,Nb) w3;rw[hq0,Rp.vu st N1.o K2.o];refine⟨none,0,0,?_,Z1.o,Nat.zero_le _,rfl⟩;exact(F3.o.item (It.rr Kr .z []) (Rr.nil _ _ _))
 have RQ:=aa hq0;clear hq0 N1 Z1 K2 K8 F1 F2 F3;obtain⟨A,m,k,hF,hn,hr,hac⟩:=HC.o;have FA:=aa hF;have Hn:=aa hn;have Hr:=aa hr;have OO:=aa hac;clear hF hn hr hac HC;unfold cp at FA;go_wp2_with fail
 with_reducible refine(aG ⟨#[112,114,105,109,97,114,121]⟩ [112,114,105,109,97,114,121] rfl FA.o).mono ?_
 rintro e Ww ⟨b,hb,rfl,hF⟩;have FB:=aa hF;have Lm:=aa hb;clear hF hb FA;go_upto_if 10 with fail
 go_cut [] (fun wx=>Hid (mF C w g3 (I.bc C.text.size KU Nb) wx));case first=>
  cases b with
  |true=>
   obtain⟨Ln,hw⟩:=aab Ww;subst hw;have Lc:Hid (Fr C.g w _ _ (RS C (I.next Nb)) Ln):=FB.o;clear FB;go_wp2_with fail
   with_reducible refine(aN Lc.o (n:=1) (cells:=#[.s ⟨#[107,101,121]⟩]) [[107,101,121]] rfl rfl (by decide)).mono ?_
   rintro e LP ⟨LB,(MD:Hid _),rfl,(KD:Hid _)⟩;have KK:=KD.o.ab.cell 2;simp at KK;have Mb:=KD.o.ab.frozen 2;go_wp2_with fail
   go_meet;have e:I.bc C.text.size KU Nb=({KU with pr:=true},LB):=by unfold I.bc;rw[if_pos Lm.o,MD.o]
   rw[e];exact⟨A,m,k,KD.o.aO 2 (.bool true) rfl,Hn.o,Hr.o,OO.o⟩
  |false=>
   have FC:Hid (Fr C.g w _ _ (RS C Nb) Ww):=FB.o;clear FB;go_wp2_with fail
   go_meet;have e:I.bc C.text.size KU Nb=(KU,Nb):=by unfold I.bc;rw[if_neg (by rw[Lm.o];decide)]
   rw[e];exact⟨A,m,k,FC.o,Hn.o,Hr.o,OO.o⟩
 case rest=>
  clear FB Hn Hr OO Lm;obtain⟨q1,hq⟩:=aab (I.bc C.text.size KU Nb);obtain⟨Pn,OI⟩:=q1;rw[←hq]at hcut;have Wx:=aa hq;obtain⟨wr1,hw⟩:=aab wc;subst hw;have HC:=aa hcut.o;clear hq hcut;obtain⟨A,m,k,hF,hn,hr,hac⟩:=HC.o;have FA:=aa hF;have Hn:=aa hn;have Hr:=aa hr;have OO:=aa hac;clear hF hn hr hac HC;unfold cp at FA;go_wp2_with fail
  with_reducible refine(aG ⟨#[110,111,116]⟩ [110,111,116] rfl FA.o).mono ?_
  rintro e Wy ⟨b,hb,rfl,hF⟩;have FB:=aa hF;have Lm:=aa hb;clear hF hb FA;go_upto_if 16 with fail
  go_cut [] (fun wx=>Hid (mF C w g3 (I.bY C.text.size Pn OI) wx));case first=>
   cases b with
   |true=>
    obtain⟨Ln,hw⟩:=aab Wy;subst hw;have Lc:Hid (Fr C.g w _ _ (RS C (I.next OI)) Ln):=FB.o;clear FB;go_wp2_with fail
    with_reducible refine(aN Lc.o (n:=1) (cells:=#[.s ⟨#[110,117,108,108]⟩]) [[110,117,108,108]] rfl rfl (by decide)).mono ?_
    rintro e LP ⟨LB,(MD:Hid _),rfl,(KD:Hid _)⟩;have LN:=KD.o.ab.cell 3;simp at LN;have Mt:=KD.o.ab.frozen 3;go_wp2_with fail
    go_meet;have e:I.bY C.text.size Pn OI=({Pn with nn:=true},LB):=by unfold I.bY;rw[if_pos Lm.o,MD.o]
    rw[e];exact⟨A,m,k,KD.o.aO 3 (.bool true) rfl,Hn.o,Hr.o,OO.o⟩
   |false=>
    have FC:Hid (Fr C.g w _ _ (RS C OI) Wy):=FB.o;clear FB;go_wp2_with fail
    go_meet;have e:I.bY C.text.size Pn OI=(Pn,OI):=by unfold I.bY;rw[if_neg (by rw[Lm.o];decide)]
    rw[e];exact⟨A,m,k,FC.o,Hn.o,Hr.o,OO.o⟩
  case rest=>
   clear FB Hn Hr OO Lm;obtain⟨q2,hq⟩:=aab (I.bY C.text.size Pn OI);obtain⟨Mq,Ui⟩:=q2;rw[←hq]at hcut;have Uj:=aa hq;obtain⟨wr2,hw⟩:=aab wc;subst hw;have HC:=aa hcut.o;clear hq hcut;obtain⟨A,m,k,hF,hn,hr,hac⟩:=HC.o;have FA:=aa hF;have Hn:=aa hn;have Hr:=aa hr;have OO:=aa hac;clear hF hn hr hac HC;unfold cp at FA;have hun:Mq.un=false:=by have h2:=I.xL C.text.size Pn OI;rw[←Uj.o]at h2;have h1:=I.xd C.text.size KU Nb;rw[←Wx.o]at h1;have h0:=Rp.qR C.text.size st;rw[←RQ.o]at h0;simp only at h0 h1 h2;rw[h2,h1,h0]
   have Wz:=aa hun;clear hun;go_wp2_with fail
   with_reducible refine(aG ⟨#[117,110,105,113,117,101]⟩ [117,110,105,113,117,101] rfl FA.o).mono ?_
   rintro e Su ⟨b,hb,rfl,hF⟩;obtain⟨LQ,Pp⟩:∃s,s=(if b=true then I.next Ui else Ui):=⟨_,rfl⟩;rw[←Pp]at hF;have FB:=aa hF;clear hF FA;obtain⟨Lk,ML⟩:∃c:I.Ky,c={Mq with un:=b}:=⟨_,rfl⟩;have Uk:Hid ((Lk,LQ)=I.cp Mq Ui):=by
    show _=_;rw[ML,Pp];unfold I.cp;rw[hb];cases b with
    |true=>rfl
    |false=>
     simp only[Bool.false_eq_true,if_false];rw[←Wz.o]
   clear Pp hb;have O2:=FB.o.ab.cell 4;simp at O2;have Oj:=FB.o.ab.frozen 4;go_upto_region 9 with fail
   have FD:=aa (FB.o.aO 4 (.bool b) (cs':=cp Lk A m k) (by rw[ML];rfl));obtain⟨wr3,hw⟩:=aab (Su.setCell ⟨g3,4,none⟩ (.bool b));rw[←hw]at FD⊢;have HC:Hid (mF C w g3 (Lk,LQ) wr3):=⟨A,m,k,by rw[ML]at FD⊢;exact FD.o,by rw[ML];exact Hn.o,by rw[ML];exact Hr.o,by rw[ML];exact OO.o⟩;clear hw O2 Oj FB FD Hn Hr OO ML Wz;obtain⟨A,m,k,hF,hn,hr,hac⟩:=HC.o;have FA:=aa hF;have Hn:=aa hn;have Hr:=aa hr;have OO:=aa hac;clear hF hn hr hac HC;unfold cp at FA;go_wp2_with fail
   with_reducible refine(aG ⟨#[99,104,101,99,107]⟩ [99,104,101,99,107] rfl FA.o).mono ?_
   rintro e Q0 ⟨b,hb,rfl,hF⟩;have FB:=aa hF;have Lm:=aa hb;clear hF hb FA;go_upto_if 25 with fail
   go_cut [] (fun wx=>Hid (mF C w g3 (Rp.cM C.text.size Lk LQ) wx));case first=>
    cases b with
    |true=>
     obtain⟨Ln,hw⟩:=aab Q0;subst hw;have Lc:Hid (Fr C.g w _ _ (RS C (I.next LQ)) Ln):=FB.o;clear FB;go_wp2_with fail
     with_reducible refine(aN Lc.o (n:=1) (cells:=#[.s ⟨#[40]⟩]) [[40]] rfl rfl (by decide)).mono ?_
     rintro e LP ⟨s110,(E110:Hid _),rfl,(KD:Hid _)⟩;go_wp2_with fail
     with_reducible refine(Fr.jD KD.o (dw C _ _ KD.o.q)).mono ?_
     rintro e LF ⟨h11,Ql,m11,c11,Om,s11,(Wu:Hid _),rfl,(Md:Hid _)⟩;have QC:=Md.o.ab.cell 5;simp at QC;have Ph:=Md.o.ab.frozen 5;have hzz:=Md.o.ab.lt;go_upto_region 12 with fail
     have Qm:=aa (Fr.gL (E:=Kr) (cs:=[.u (h11.o.toNat:Int),.u (h11.v.k.toNat:Int),.i h11.v.n,.s h11.v.s,.s h11.nm,.s h11.of,.i h11.n,.slice Ql m11 c11]) Md.o 50 5 (cells':=#[.s (I.bs Lk.nm),.u (Lk.k.toNat:Int),.bool Lk.pr,.bool Lk.nn,.bool Lk.un,.slice (some ⟨LF.heap.size,0,none⟩) 1 1,.s (I.bs Lk.rf),.u (Lk.ac.toNat:Int)]) rfl);obtain⟨Um,hw⟩:=aab ((LF.setCell ⟨g3,5,none⟩ (.slice (some ⟨LF.heap.size,0,none⟩) 1 1)).alloc (.cells #[.u (h11.o.toNat:Int),.u (h11.v.k.toNat:Int),.i h11.v.n,.s h11.v.s,.s h11.nm,.s h11.of,.i h11.n,.slice Ql m11 c11] 50));rw[show([.u (h11.o.toNat:Int),.u (h11.v.k.toNat:Int),.i h11.v.n,.s h11.v.s,.s h11.nm,.s h11.of,.i h11.n,.slice Ql m11 c11]:List Value).toArray=#[.u (h11.o.toNat:Int),.u (h11.v.k.toNat:Int),.i h11.v.n,.s h11.v.s,.s h11.nm,.s h11.of,.i h11.n,.slice Ql m11 c11]from rfl,←hw]at Qm;rw[←hw];clear hw QC Ph hzz;go_wp2_with fail
     with_reducible refine(aN Qm.o (n:=1) (cells:=#[.s ⟨#[41]⟩]) [[41]] rfl rfl (by decide)).mono ?_
     rintro e w104 ⟨s112,(E112:Hid _),rfl,hF⟩;have F104:=aa hF;clear hF;go_wp2_with fail
     go_meet;have e:Rp.cM C.text.size Lk LQ=({Lk with ck:=[Om]},s112):=by
      have h11:Rp.expr C.text.size (I.expect C.text.size [[40]] (I.next LQ))=(Om,s11):=by rw[E110.o];exact Wu.o
      rw[Rp.Ih Lk LQ (Rp.Cn h11),if_pos Lm.o,E112.o]
     rw[e];exact⟨_,1,1,F104.o.only (fun F hF=>by rw[List.mem_singleton.1 hF];exact List.mem_cons_self),Hn.o,Hr.o,OO.o⟩
    |false=>
     have FC:Hid (Fr C.g w _ _ (RS C LQ) Q0):=FB.o;clear FB;go_wp2_with fail
     go_meet;have e:Rp.cM C.text.size Lk LQ=(Lk,LQ):=by unfold Rp.cM;rw[if_neg (by rw[Lm.o];decide)]
     rw[e];exact⟨A,m,k,FC.o,Hn.o,Hr.o,OO.o⟩
   case rest=>
    clear FB Hn Hr OO Lm;obtain⟨q4,hq⟩:=aab (Rp.cM C.text.size Lk LQ);obtain⟨KH,Mh⟩:=q4;rw[←hq]at hcut;have Ul:=aa hq;obtain⟨wr4,hw⟩:=aab wc;subst hw;have HC:=aa hcut.o;clear hq hcut;obtain⟨A,m,k,hF,hn,hr,hac⟩:=HC.o;have FA:=aa hF;have Hn:=aa hn;have Hr:=aa hr;have OO:=aa hac;clear hF hn hr hac HC;unfold cp at FA;obtain⟨Q6,hw⟩:=aab wr4;subst hw;have LR:Hid (Fr C.g w [(g3,40,#[.s (I.bs KH.nm),.u (KH.k.toNat:Int),.bool KH.pr,.bool KH.nn,.bool KH.un,.slice A m k,.s (I.bs KH.rf),.u ((0:UInt8).toNat:Int)]),(w.heap.size,40,#[.e,.b,.f,.f,.f,.z,.e,.b])] [It.rr Kr (.slice A m k) KH.ck] (RS C Mh) Q6):=by have h1:=FA.o;rw[OO.o]at h1;exact h1
    clear FA;have HE:Hid (Rp.column C.text.size st=Rp.dK C.text.size KH Mh):=Rp.sO st RQ.o.symm Wx.o.symm Uj.o.symm Uk.o.symm Ul.o.symm;go_wp2_with fail
    with_reducible refine(aG ⟨#[114,101,102,101,114,101,110,99,101,115]⟩ [114,101,102,101,114,101,110,99,101,115] rfl LR.o).mono ?_
    rintro e Xh ⟨b,hb,rfl,hF⟩;cases b with
    |true=>
     have Ku:=aa hb;have Rt:Hid (Fr C.g w _ _ (RS C (I.next Mh)) Xh):=hF;clear hF hb;go_wp2_with fail
     with_reducible refine(bh Rt.o).mono ?_
     rintro e w202 ⟨n12,s12,(Tg:Hid _),(Th:Hid _),rfl,(UQ:Hid _)⟩;have Pq:=UQ.o.ab.cell 6;simp at Pq;have OB:=UQ.o.ab.frozen 6;go_upto_region 16 with fail
     have Xi:=aa (UQ.o.aO 6 (.s (I.bs n12)) (cs':=#[.s (I.bs KH.nm),.u (KH.k.toNat:Int),.bool KH.pr,.bool KH.nn,.bool KH.un,.slice A m k,.s (I.bs n12),.u ((0:UInt8).toNat:Int)]) rfl);obtain⟨w203,hw⟩:=aab (w202.setCell ⟨g3,6,none⟩ (.s (I.bs n12)));rw[←hw]at Xi⊢;clear hw Pq OB;go_wp2_with fail
     with_reducible refine(aG ⟨#[111,110]⟩ [111,110] rfl Xi.o).mono ?_
     rintro e Xj ⟨b,hb,rfl,hF⟩;cases b with
     |true=>
      have Lp:=aa hb;have Ru:Hid (Fr C.g w _ _ (RS C (I.next s12)) Xj):=hF;clear hF hb;go_wp2_with fail
      with_reducible refine(aN Ru.o (n:=1) (cells:=#[.s ⟨#[100,101,108,101,116,101]⟩]) [[100,101,108,101,116,101]] rfl rfl (by decide)).mono ?_
      rintro e w205 ⟨s13,(E13:Hid _),rfl,(F205:Hid _)⟩;go_wp2_with fail
      with_reducible refine(aG ⟨#[99,97,115,99,97,100,101]⟩ [99,97,115,99,97,100,101] rfl F205.o).mono ?_
      rintro e UR ⟨b,hb,rfl,hF⟩;cases b with
      |true=>
       have M7:=aa hb;have Rv:Hid (Fr C.g w _ _ (RS C (I.next s13)) UR):=hF;clear hF hb;have NY:=Rv.o.ab.cell 7;simp at NY;have NK:=Rv.o.ab.frozen 7;go_upto_region 25 with fail
       have OP:=aa (Rv.o.aO 7 (.u 1) (cs':=#[.s (I.bs KH.nm),.u (KH.k.toNat:Int),.bool KH.pr,.bool KH.nn,.bool KH.un,.slice A m k,.s (I.bs n12),.u 1]) rfl);obtain⟨US,hw⟩:=aab (UR.setCell ⟨g3,7,none⟩ (.u 1));rw[←hw]at OP⊢;clear hw NY NK;obtain⟨cz,hcz⟩:∃z:List Value,z=[.s (I.bs KH.nm),.u (KH.k.toNat:Int),.bool KH.pr,.bool KH.nn,.bool KH.un,.slice A m k,.s (I.bs n12),.u 1]:=⟨_,rfl⟩;rw[←hcz]at OP;obtain⟨RS,TH,LC,OC⟩:=OP.o.Mg (k:=8) (by rw[hcz];rfl) rfl (by rw[hcz];rfl);have KN:=aa hcz;clear hcz;go_wp2_with (first|refine aU rfl rfl rfl RS.o (by kernel_rfl) (by rw[LC.o];kernel_rfl) ?_|refine wpList_store_mid rfl _ _ _ rfl _ 0 cz.toArray rfl rfl TH.o (by rw[List.size_toArray,LC.o];kernel_rfl) OC.o ?_)
       have FZ:=aa (OP.o.bS cz (by rw[LC.o];rfl));have HS:Hid (Rp.column C.text.size st=(({KH with rf:=n12,ac:=1}:I.Ky),(I.next s13))):=by
        show _=_;rw[HE.o];rw[Rp.mz KH Mh Tg.o (a:=1) (s2:=I.next s13) (by
         rw[E13.o]
         unfold Rp.action
         rw[if_pos M7.o]),if_pos Ku.o,if_pos Lp.o]
       refine bodyPost_ret (v:=.agg cz.toArray) (results_cell_row rfl _ _ w.heap.size 40 _ (0,0) _ rfl FZ.o.ah dn rfl (by rw[List.size_toArray,LC.o];exact cQ)) rfl ?_;rw[HS.o];exact FZ.o.aK (cs:=cz) (El.cz KN.o (⟨_,rfl,FZ.o.Kx,Sz.of Hn.o,Sz.of Th.o⟩))
      |false=>
       have M7:=aa hb;have Rv:Hid (Fr C.g w _ _ (RS C s13) UR):=hF;clear hF hb;go_wp2_with fail
       with_reducible refine(aG ⟨#[115,101,116]⟩ [115,101,116] rfl Rv.o).mono ?_
       rintro e US ⟨b,hb,rfl,hF⟩;cases b with
       |true=>
        have Oo:=aa hb;have OP:Hid (Fr C.g w _ _ (RS C (I.next s13)) US):=hF;clear hF hb;go_wp2_with fail
        with_reducible refine(aN OP.o (n:=1) (cells:=#[.s ⟨#[110,117,108,108]⟩]) [[110,117,108,108]] rfl rfl (by decide)).mono ?_
        rintro e Xk ⟨ZS,(ZT:Hid _),rfl,hF⟩;have Pz:=aa hF;clear hF;have NY:=Pz.o.ab.cell 7;simp at NY;have NK:=Pz.o.ab.frozen 7;go_upto_region 25 with fail
        have SL:=aa (Pz.o.aO 7 (.u 2) (cs':=#[.s (I.bs KH.nm),.u (KH.k.toNat:Int),.bool KH.pr,.bool KH.nn,.bool KH.un,.slice A m k,.s (I.bs n12),.u 2]) rfl);obtain⟨w209,hw⟩:=aab (Xk.setCell ⟨g3,7,none⟩ (.u 2));rw[←hw]at SL⊢;clear hw NY NK;obtain⟨cz,hcz⟩:∃z:List Value,z=[.s (I.bs KH.nm),.u (KH.k.toNat:Int),.bool KH.pr,.bool KH.nn,.bool KH.un,.slice A m k,.s (I.bs n12),.u 2]:=⟨_,rfl⟩;rw[←hcz]at SL;obtain⟨RS,TH,LC,OC⟩:=SL.o.Mg (k:=8) (by rw[hcz];rfl) rfl (by rw[hcz];rfl);have KN:=aa hcz;clear hcz;go_wp2_with (first|refine aU rfl rfl rfl RS.o (by kernel_rfl) (by rw[LC.o];kernel_rfl) ?_|refine wpList_store_mid rfl _ _ _ rfl _ 0 cz.toArray rfl rfl TH.o (by rw[List.size_toArray,LC.o];kernel_rfl) OC.o ?_)
        have FZ:=aa (SL.o.bS cz (by rw[LC.o];rfl));have HS:Hid (Rp.column C.text.size st=(({KH with rf:=n12,ac:=2}:I.Ky),ZS)):=by
         show _=_;rw[HE.o];rw[Rp.mz KH Mh Tg.o (a:=2) (s2:=ZS) (by
          rw[E13.o]
          unfold Rp.action
          rw[if_neg (by rw[M7.o];decide),if_pos Oo.o,ZT.o]),if_pos Ku.o,if_pos Lp.o]
        refine bodyPost_ret (v:=.agg cz.toArray) (results_cell_row rfl _ _ w.heap.size 40 _ (0,0) _ rfl FZ.o.ah dn rfl (by rw[List.size_toArray,LC.o];exact cQ)) rfl ?_;rw[HS.o];exact FZ.o.aK (cs:=cz) (El.cz KN.o (⟨_,rfl,FZ.o.Kx,Sz.of Hn.o,Sz.of Th.o⟩))
       |false=>
        have Oo:=aa hb;have OP:Hid (Fr C.g w _ _ (RS C s13) US):=hF;clear hF hb;go_wp2_with fail
        with_reducible refine(aN OP.o (n:=1) (cells:=#[.s ⟨#[114,101,115,116,114,105,99,116]⟩]) [[114,101,115,116,114,105,99,116]] rfl rfl (by decide)).mono ?_
        rintro e Xk ⟨s15,(E15:Hid _),rfl,hF⟩;have Pz:=aa hF;clear hF;obtain⟨cz,hcz⟩:∃z:List Value,z=[.s (I.bs KH.nm),.u (KH.k.toNat:Int),.bool KH.pr,.bool KH.nn,.bool KH.un,.slice A m k,.s (I.bs n12),.u ((0:UInt8).toNat:Int)]:=⟨_,rfl⟩;rw[←hcz]at Pz;obtain⟨RS,TH,LC,OC⟩:=Pz.o.Mg (k:=8) (by rw[hcz];rfl) rfl (by rw[hcz];rfl);have KN:=aa hcz;clear hcz;go_wp2_with (first|refine aU rfl rfl rfl RS.o (by kernel_rfl) (by rw[LC.o];kernel_rfl) ?_|refine wpList_store_mid rfl _ _ _ rfl _ 0 cz.toArray rfl rfl TH.o (by rw[List.size_toArray,LC.o];kernel_rfl) OC.o ?_)
        have FZ:=aa (Pz.o.bS cz (by rw[LC.o];rfl));have HS:Hid (Rp.column C.text.size st=(({KH with rf:=n12,ac:=0}:I.Ky),s15)):=by
         show _=_;rw[HE.o];rw[Rp.mz KH Mh Tg.o (a:=0) (s2:=s15) (by
          rw[E13.o]
          unfold Rp.action
          rw[if_neg (by rw[M7.o];decide),if_neg (by rw[Oo.o];decide),E15.o]),if_pos Ku.o,if_pos Lp.o]
        refine bodyPost_ret (v:=.agg cz.toArray) (results_cell_row rfl _ _ w.heap.size 40 _ (0,0) _ rfl FZ.o.ah dn rfl (by rw[List.size_toArray,LC.o];exact cQ)) rfl ?_;rw[HS.o];exact FZ.o.aK (cs:=cz) (El.cz KN.o (⟨_,rfl,FZ.o.Kx,Sz.of Hn.o,Sz.of Th.o⟩))
     |false=>
      have Lp:=aa hb;have Ru:Hid (Fr C.g w _ _ (RS C s12) Xj):=hF;clear hF hb;obtain⟨cz,hcz⟩:∃z:List Value,z=[.s (I.bs KH.nm),.u (KH.k.toNat:Int),.bool KH.pr,.bool KH.nn,.bool KH.un,.slice A m k,.s (I.bs n12),.u ((0:UInt8).toNat:Int)]:=⟨_,rfl⟩;rw[←hcz]at Ru;obtain⟨RS,TH,LC,OC⟩:=Ru.o.Mg (k:=8) (by rw[hcz];rfl) rfl (by rw[hcz];rfl);have KN:=aa hcz;clear hcz;go_wp2_with (first|refine aU rfl rfl rfl RS.o (by kernel_rfl) (by rw[LC.o];kernel_rfl) ?_|refine wpList_store_mid rfl _ _ _ rfl _ 0 cz.toArray rfl rfl TH.o (by rw[List.size_toArray,LC.o];kernel_rfl) OC.o ?_)
      have FZ:=aa (Ru.o.bS cz (by rw[LC.o];rfl));have HS:Hid (Rp.column C.text.size st=(({KH with rf:=n12,ac:=0}:I.Ky),s12)):=by show _=_;rw[HE.o];rw[Rp.mz KH Mh Tg.o (Prod.eta _).symm,if_pos Ku.o,if_neg (by rw[Lp.o];decide)]
      refine bodyPost_ret (v:=.agg cz.toArray) (results_cell_row rfl _ _ w.heap.size 40 _ (0,0) _ rfl FZ.o.ah dn rfl (by rw[List.size_toArray,LC.o];exact cQ)) rfl ?_;rw[HS.o];exact FZ.o.aK (cs:=cz) (El.cz KN.o (⟨_,rfl,FZ.o.Kx,Sz.of Hn.o,Sz.of Th.o⟩))
    |false=>
     have Ku:=aa hb;have Rt:Hid (Fr C.g w _ _ (RS C Mh) Xh):=hF;clear hF hb;obtain⟨cz,hcz⟩:∃z:List Value,z=[.s (I.bs KH.nm),.u (KH.k.toNat:Int),.bool KH.pr,.bool KH.nn,.bool KH.un,.slice A m k,.s (I.bs KH.rf),.u ((0:UInt8).toNat:Int)]:=⟨_,rfl⟩;rw[←hcz]at Rt;obtain⟨RS,TH,LC,OC⟩:=Rt.o.Mg (k:=8) (by rw[hcz];rfl) rfl (by rw[hcz];rfl);have KN:=aa hcz;clear hcz;go_wp2_with (first|refine aU rfl rfl rfl RS.o (by kernel_rfl) (by rw[LC.o];kernel_rfl) ?_|refine wpList_store_mid rfl _ _ _ rfl _ 0 cz.toArray rfl rfl TH.o (by rw[List.size_toArray,LC.o];kernel_rfl) OC.o ?_)
     have FZ:=aa (Rt.o.bS cz (by rw[LC.o];rfl));have HS:Hid (Rp.column C.text.size st=(({KH with ac:=0}:I.Ky),Mh)):=by show _=_;rw[HE.o];rw[Rp.mz KH Mh (Prod.eta _).symm (Prod.eta _).symm,if_neg (by rw[Ku.o];decide),←OO.o]
     refine bodyPost_ret (v:=.agg cz.toArray) (results_cell_row rfl _ _ w.heap.size 40 _ (0,0) _ rfl FZ.o.ah dn rfl (by rw[List.size_toArray,LC.o];exact cQ)) rfl ?_;rw[HS.o];exact FZ.o.aK (cs:=cz) (El.cz KN.o (⟨_,rfl,FZ.o.Kx,Sz.of Hn.o,Sz.of Hr.o⟩))
end
section
set_option maxRecDepth 100000
theorem sI{T:Nat}{w:I.Bs}{s:I.St}{n2:I.Bs}{s2 s3:I.St}{n4:I.Bs}{s4:I.St}(h1:I.name T s=(n2,s2))(h2:I.expect T [w] s2=s3)(h3:I.name T s3=(n4,s4)):Rp.MN T w s=((n2,n4),s4):=by
 unfold Rp.MN;rw[h1];simp only;rw[h2,h3]
theorem ui(C:RC)(st:I.St)(w:World)(h:RS C st w):
 Calls Tryz.prog 67 #[.p C.g,.bool true] w (ER aB C w (Rp.dk C.text.size true st)):=by
 have F0:=aa (Fr.start h.lt h.aJ);clear h;go_enter Tryz.func67,Tryz.ntmps67;have K8:=aa (F0.o.new 30 #[.b,.e,.e,.e,.b,.z,.z,.z,.z,.z,.z,.f,.e]);go_wp2_with fail
 with_reducible refine(Fr.pH K8.o (oH C _ _ K8.o.q)).mono ?_
 rintro e w1 ⟨v1,M6,s1,(X1:Hid _),rfl,(F1:Hid _)⟩;obtain⟨A1,c1,rfl,hcc,hcm⟩:=(F1.o.Kx:Rr ik _ _ _ _).form;clear hcc hcm;by_cases hl:M6=[]
 ·have hl0:((M6.length:Int)==0)=true:=by rw[hl];rfl
  have Hl:=aa hl;clear hl;go_wp2_with fail
  with_reducible refine(bh F1.o).mono ?_
  rintro e w2 ⟨n2,s2,(N2:Hid _),(Z2:Hid _),rfl,(F2:Hid _)⟩;go_upto_region 7 with fail
  have F3:=aa (F2.o.new 30 #[.u 11,.s (I.bs n2),.e,.e,.b,.z,.z,.z,.z,.z,.z,.f,.e]);obtain⟨w3,hw⟩:=aab (w2.alloc (.cells #[.u 11,.s (I.bs n2),.e,.e,.b,.z,.z,.z,.z,.z,.z,.f,.e] 30));obtain⟨g3,hg⟩:=aab w2.heap.size;rw[←hw,←hg]at F3;rw[←hw,←hg];clear hw hg;have OG:=F3.o.ab.cell 0;simp at OG;have Qk:=F3.o.ab.frozen 0;go_upto_region 9 with fail
  have F4:=aa (F3.o.aO 0 (.u 10) (cs':=#[.u 10,.s (I.bs n2),.e,.e,.b,.z,.z,.z,.z,.z,.z,.f,.e]) rfl);obtain⟨w4,hw⟩:=aab (w3.setCell ⟨g3,0,none⟩ (.u 10));rw[←hw]at F4⊢;clear hw OG Qk;go_wp2_with fail
  with_reducible refine(aN F4.o (n:=1) (cells:=#[.s ⟨#[116,111]⟩]) [[116,111]] rfl rfl (by decide)).mono ?_
  rintro e w5 ⟨s3,(E3:Hid _),rfl,(F5:Hid _)⟩;go_wp2_with fail
  with_reducible refine(bh F5.o).mono ?_
  rintro e w6 ⟨n4,s4,(N4:Hid _),(Z4:Hid _),rfl,(F6:Hid _)⟩;have KK:=F6.o.ab.cell 2;simp at KK;have Mb:=F6.o.ab.frozen 2;go_upto_region 11 with fail
  have F7:=aa (F6.o.aO 2 (.s (I.bs n4)) (cs':=#[.u 10,.s (I.bs n2),.s (I.bs n4),.e,.b,.z,.z,.z,.z,.z,.z,.f,.e]) rfl);obtain⟨w7,hw⟩:=aab (w6.setCell ⟨g3,2,none⟩ (.s (I.bs n4)));rw[←hw]at F7⊢;clear hw KK Mb;obtain⟨cz,hcz⟩:∃z:List Value,z=[.u 10,.s (I.bs n2),.s (I.bs n4),.e,.b,.z,.z,.z,.z,.z,.z,.f,.e]:=⟨_,rfl⟩;rw[←hcz]at F7;obtain⟨RS,TH,LC,OC⟩:=F7.o.Mg (k:=13) (by rw[hcz];rfl) rfl (by rw[hcz];rfl);have KN:=aa hcz;clear hcz;go_wp2_with (first|refine aU rfl rfl rfl RS.o (by kernel_rfl) (by rw[LC.o];kernel_rfl) ?_|refine wpList_store_mid rfl _ _ _ rfl _ 0 cz.toArray rfl rfl TH.o (by rw[List.size_toArray,LC.o];kernel_rfl) OC.o ?_)
  have FZ:=aa (F7.o.bS cz (by rw[LC.o];rfl));have HS:Hid (Rp.dk C.text.size true st=(({I.Km.of 10 with nm:=n2,on:=n4}:I.Km),s4)):=by show _=_;rw[Rp.ie,X1.o];simp only[if_true];rw[if_pos Hl.o,sI N2.o E3.o N4.o]
  refine bodyPost_ret (v:=.agg cz.toArray) (results_cell_row rfl _ _ w.heap.size 30 _ (0,0) _ rfl FZ.o.ah ag rfl (by rw[List.size_toArray,LC.o];exact af)) rfl ?_;rw[HS.o];exact FZ.o.aK (cs:=cz) (El.cz KN.o (⟨_,_,_,_,_,_,rfl,Rr.nil _ _ _,Rr.nil _ _ _,Rr.nil _ _ _,Rr.nil _ _ _,Rr.nil _ _ _,Rr.nil _ _ _,Sz.of Z2.o,Sz.of Z4.o,Sz.of (Nat.zero_le _),Sz.of (Nat.zero_le _)⟩))
 ·have hl0:((M6.length:Int)==0)=false:=beq_eq_false_iff_ne.2 fun e=>hl (List.length_eq_zero_iff.1 (by omega))
  have Hl:=aa hl;clear hl;go_wp2_with fail
  with_reducible refine(aN F1.o (n:=1) (cells:=#[.s ⟨#[111,110]⟩]) [[111,110]] rfl rfl (by decide)).mono ?_
  rintro e w2 ⟨s2,(E2:Hid _),rfl,(F2:Hid _)⟩;go_wp2_with fail
  with_reducible refine(bh F2.o).mono ?_
  rintro e w3 ⟨n3,s3,(N3:Hid _),(Z3:Hid _),rfl,(F3:Hid _)⟩;go_upto_region 14 with fail
  have F4:=aa (F3.o.new 30 #[.u 13,.s (I.bs n3),.e,.e,.b,.z,.z,.z,.z,.z,.slice A1 M6.length c1,.f,.e]);obtain⟨w4,hw⟩:=aab (w3.alloc (.cells #[.u 13,.s (I.bs n3),.e,.e,.b,.z,.z,.z,.z,.z,.slice A1 M6.length c1,.f,.e] 30));obtain⟨g4,hg⟩:=aab w3.heap.size;rw[←hw,←hg]at F4;rw[←hw,←hg];clear hw hg;go_wp2_with fail
  with_reducible refine(aN F4.o (n:=1) (cells:=#[.s ⟨#[116,111]⟩]) [[116,111]] rfl rfl (by decide)).mono ?_
  rintro e w5 ⟨s4,(E4:Hid _),rfl,(F5:Hid _)⟩;go_wp2_with fail
  with_reducible refine(bh F5.o).mono ?_
  rintro e w6 ⟨n5,s5,(N5:Hid _),(Z5:Hid _),rfl,(F6:Hid _)⟩;have KK:=F6.o.ab.cell 2;simp at KK;have Mb:=F6.o.ab.frozen 2;go_upto_region 16 with fail
  have F7:=aa (F6.o.aO 2 (.s (I.bs n5)) (cs':=#[.u 13,.s (I.bs n3),.s (I.bs n5),.e,.b,.z,.z,.z,.z,.z,.slice A1 M6.length c1,.f,.e]) rfl);obtain⟨w7,hw⟩:=aab (w6.setCell ⟨g4,2,none⟩ (.s (I.bs n5)));rw[←hw]at F7⊢;clear hw KK Mb;have OG:=F7.o.ab.cell 0;simp at OG;have Qk:=F7.o.ab.frozen 0;go_upto_region 18 with fail
  have F8:=aa (F7.o.aO 0 (.u 12) (cs':=#[.u 12,.s (I.bs n3),.s (I.bs n5),.e,.b,.z,.z,.z,.z,.z,.slice A1 M6.length c1,.f,.e]) rfl);obtain⟨w8,hw⟩:=aab (w7.setCell ⟨g4,0,none⟩ (.u 12));rw[←hw]at F8⊢;clear hw OG Qk;go_wp2_with fail
  with_reducible refine(aG ⟨#[119,105,116,104]⟩ [119,105,116,104] rfl F8.o).mono ?_
  rintro e w9 ⟨b,hb,rfl,hF⟩;cases b with
  |true=>
   have RZ:=aa hb;have F9:Hid (Fr C.g w _ _ (RS C (I.next s5)) w9):=hF;clear hF hb;go_wp2_with fail
   with_reducible refine(aN F9.o (n:=2) (cells:=#[.s ⟨#[103,114,97,110,116]⟩,.s ⟨#[111,112,116,105,111,110]⟩]) [[103,114,97,110,116],[111,112,116,105,111,110]] rfl rfl (by decide)).mono ?_
   rintro e Lo ⟨s7,(E7:Hid _),rfl,hF⟩;have KC:=aa hF;clear hF;have QY:=KC.o.ab.cell 11;simp at QY;have Uh:=KC.o.ab.frozen 11;go_upto_region 21 with fail
   have K1:=aa (KC.o.aO 11 (.bool true) (cs':=#[.u 12,.s (I.bs n3),.s (I.bs n5),.e,.b,.z,.z,.z,.z,.z,.slice A1 M6.length c1,.bool true,.e]) rfl);obtain⟨Lh,hw⟩:=aab (Lo.setCell ⟨g4,11,none⟩ (.bool true));rw[←hw]at K1⊢;clear hw QY Uh;obtain⟨cz,hcz⟩:∃z:List Value,z=[.u 12,.s (I.bs n3),.s (I.bs n5),.e,.b,.z,.z,.z,.z,.z,.slice A1 M6.length c1,.bool true,.e]:=⟨_,rfl⟩;rw[←hcz]at K1;obtain⟨RS,TH,LC,OC⟩:=K1.o.Mg (k:=13) (by rw[hcz];rfl) rfl (by rw[hcz];rfl);have KN:=aa hcz;clear hcz;go_wp2_with (first|refine aU rfl rfl rfl RS.o (by kernel_rfl) (by rw[LC.o];kernel_rfl) ?_|refine wpList_store_mid rfl _ _ _ rfl _ 0 cz.toArray rfl rfl TH.o (by rw[List.size_toArray,LC.o];kernel_rfl) OC.o ?_)
   have FZ:=aa (K1.o.bS cz (by rw[LC.o];rfl));have HS:Hid (Rp.dk C.text.size true st=(({I.Km.of 12 with pv:=M6,nm:=n3,on:=n5,opt:=true}:I.Km),s7)):=by show _=_;rw[Rp.ie,X1.o];simp only[if_true];rw[if_neg Hl.o,E2.o,sI N3.o E4.o N5.o];simp only;rw[if_pos RZ.o,E7.o]
   refine bodyPost_ret (v:=.agg cz.toArray) (results_cell_row rfl _ _ w.heap.size 30 _ (0,0) _ rfl FZ.o.ah ag rfl (by rw[List.size_toArray,LC.o];exact af)) rfl ?_;rw[HS.o];exact FZ.o.aK (cs:=cz) (El.cz KN.o (⟨_,_,_,_,_,_,rfl,Rr.nil _ _ _,Rr.nil _ _ _,Rr.nil _ _ _,Rr.nil _ _ _,Rr.nil _ _ _,FZ.o.Kx,Sz.of Z3.o,Sz.of Z5.o,Sz.of (Nat.zero_le _),Sz.of (Nat.zero_le _)⟩))
  |false=>
   have RZ:=aa hb;have F9:Hid (Fr C.g w _ _ (RS C s5) w9):=hF;clear hF hb;obtain⟨cz,hcz⟩:∃z:List Value,z=[.u 12,.s (I.bs n3),.s (I.bs n5),.e,.b,.z,.z,.z,.z,.z,.slice A1 M6.length c1,.f,.e]:=⟨_,rfl⟩;rw[←hcz]at F9;obtain⟨RS,TH,LC,OC⟩:=F9.o.Mg (k:=13) (by rw[hcz];rfl) rfl (by rw[hcz];rfl);have KN:=aa hcz;clear hcz;go_wp2_with (first|refine aU rfl rfl rfl RS.o (by kernel_rfl) (by rw[LC.o];kernel_rfl) ?_|refine wpList_store_mid rfl _ _ _ rfl _ 0 cz.toArray rfl rfl TH.o (by rw[List.size_toArray,LC.o];kernel_rfl) OC.o ?_)
   have FZ:=aa (F9.o.bS cz (by rw[LC.o];rfl));have HS:Hid (Rp.dk C.text.size true st=(({I.Km.of 12 with pv:=M6,nm:=n3,on:=n5}:I.Km),s5)):=by show _=_;rw[Rp.ie,X1.o];simp only[if_true];rw[if_neg Hl.o,E2.o,sI N3.o E4.o N5.o];simp only;rw[if_neg (by rw[RZ.o];decide)]
   refine bodyPost_ret (v:=.agg cz.toArray) (results_cell_row rfl _ _ w.heap.size 30 _ (0,0) _ rfl FZ.o.ah ag rfl (by rw[List.size_toArray,LC.o];exact af)) rfl ?_;rw[HS.o];exact FZ.o.aK (cs:=cz) (El.cz KN.o (⟨_,_,_,_,_,_,rfl,Rr.nil _ _ _,Rr.nil _ _ _,Rr.nil _ _ _,Rr.nil _ _ _,Rr.nil _ _ _,FZ.o.Kx,Sz.of Z3.o,Sz.of Z5.o,Sz.of (Nat.zero_le _),Sz.of (Nat.zero_le _)⟩))
theorem qX(C:RC)(st:I.St)(w:World)(h:RS C st w):
 Calls Tryz.prog 67 #[.p C.g,.f] w (ER aB C w (Rp.dk C.text.size false st)):=by
 have F0:=aa (Fr.start h.lt h.aJ);clear h;go_enter Tryz.func67,Tryz.ntmps67;have K8:=aa (F0.o.new 30 #[.b,.e,.e,.e,.b,.z,.z,.z,.z,.z,.z,.f,.e]);go_wp2_with fail
 with_reducible refine(Fr.pH K8.o (oH C _ _ K8.o.q)).mono ?_
 rintro e w1 ⟨v1,M6,s1,(X1:Hid _),rfl,(F1:Hid _)⟩;obtain⟨A1,c1,rfl,hcc,hcm⟩:=(F1.o.Kx:Rr ik _ _ _ _).form;clear hcc hcm;by_cases hl:M6=[]
 ·have hl0:((M6.length:Int)==0)=true:=by rw[hl];rfl
  have Hl:=aa hl;clear hl;go_wp2_with fail
  with_reducible refine(bh F1.o).mono ?_
  rintro e w2 ⟨n2,s2,(N2:Hid _),(Z2:Hid _),rfl,(F2:Hid _)⟩;go_upto_region 7 with fail
  have F3:=aa (F2.o.new 30 #[.u 11,.s (I.bs n2),.e,.e,.b,.z,.z,.z,.z,.z,.z,.f,.e]);obtain⟨w3,hw⟩:=aab (w2.alloc (.cells #[.u 11,.s (I.bs n2),.e,.e,.b,.z,.z,.z,.z,.z,.z,.f,.e] 30));obtain⟨g3,hg⟩:=aab w2.heap.size;rw[←hw,←hg]at F3;rw[←hw,←hg];clear hw hg;go_wp2_with fail
  with_reducible refine(aN F3.o (n:=1) (cells:=#[.s ⟨#[102,114,111,109]⟩]) [[102,114,111,109]] rfl rfl (by decide)).mono ?_
  rintro e w4 ⟨s3,(E3:Hid _),rfl,(F4:Hid _)⟩;go_wp2_with fail
  with_reducible refine(bh F4.o).mono ?_
  rintro e w5 ⟨n4,s4,(N4:Hid _),(Z4:Hid _),rfl,(F5:Hid _)⟩;have KK:=F5.o.ab.cell 2;simp at KK;have Mb:=F5.o.ab.frozen 2;go_upto_region 11 with fail
  have F6:=aa (F5.o.aO 2 (.s (I.bs n4)) (cs':=#[.u 11,.s (I.bs n2),.s (I.bs n4),.e,.b,.z,.z,.z,.z,.z,.z,.f,.e]) rfl);obtain⟨w6,hw⟩:=aab (w5.setCell ⟨g3,2,none⟩ (.s (I.bs n4)));rw[←hw]at F6⊢;clear hw KK Mb;obtain⟨cz,hcz⟩:∃z:List Value,z=[.u 11,.s (I.bs n2),.s (I.bs n4),.e,.b,.z,.z,.z,.z,.z,.z,.f,.e]:=⟨_,rfl⟩;rw[←hcz]at F6;obtain⟨RS,TH,LC,OC⟩:=F6.o.Mg (k:=13) (by rw[hcz];rfl) rfl (by rw[hcz];rfl);have KN:=aa hcz;clear hcz;go_wp2_with (first|refine aU rfl rfl rfl RS.o (by kernel_rfl) (by rw[LC.o];kernel_rfl) ?_|refine wpList_store_mid rfl _ _ _ rfl _ 0 cz.toArray rfl rfl TH.o (by rw[List.size_toArray,LC.o];kernel_rfl) OC.o ?_)
  have FZ:=aa (F6.o.bS cz (by rw[LC.o];rfl));have HS:Hid (Rp.dk C.text.size false st=(({I.Km.of 11 with nm:=n2,on:=n4}:I.Km),s4)):=by show _=_;rw[Rp.ie,X1.o];simp only[Bool.false_eq_true,if_false];rw[if_pos Hl.o,sI N2.o E3.o N4.o]
  refine bodyPost_ret (v:=.agg cz.toArray) (results_cell_row rfl _ _ w.heap.size 30 _ (0,0) _ rfl FZ.o.ah ag rfl (by rw[List.size_toArray,LC.o];exact af)) rfl ?_;rw[HS.o];exact FZ.o.aK (cs:=cz) (El.cz KN.o (⟨_,_,_,_,_,_,rfl,Rr.nil _ _ _,Rr.nil _ _ _,Rr.nil _ _ _,Rr.nil _ _ _,Rr.nil _ _ _,Rr.nil _ _ _,Sz.of Z2.o,Sz.of Z4.o,Sz.of (Nat.zero_le _),Sz.of (Nat.zero_le _)⟩))
 ·have hl0:((M6.length:Int)==0)=false:=beq_eq_false_iff_ne.2 fun e=>hl (List.length_eq_zero_iff.1 (by omega))
  have Hl:=aa hl;clear hl;go_wp2_with fail
  with_reducible refine(aN F1.o (n:=1) (cells:=#[.s ⟨#[111,110]⟩]) [[111,110]] rfl rfl (by decide)).mono ?_
  rintro e w2 ⟨s2,(E2:Hid _),rfl,(F2:Hid _)⟩;go_wp2_with fail
  with_reducible refine(bh F2.o).mono ?_
  rintro e w3 ⟨n3,s3,(N3:Hid _),(Z3:Hid _),rfl,(F3:Hid _)⟩;go_upto_region 14 with fail
  have F4:=aa (F3.o.new 30 #[.u 13,.s (I.bs n3),.e,.e,.b,.z,.z,.z,.z,.z,.slice A1 M6.length c1,.f,.e]);obtain⟨w4,hw⟩:=aab (w3.alloc (.cells #[.u 13,.s (I.bs n3),.e,.e,.b,.z,.z,.z,.z,.z,.slice A1 M6.length c1,.f,.e] 30));obtain⟨g4,hg⟩:=aab w3.heap.size;rw[←hw,←hg]at F4;rw[←hw,←hg];clear hw hg;go_wp2_with fail
  with_reducible refine(aN F4.o (n:=1) (cells:=#[.s ⟨#[102,114,111,109]⟩]) [[102,114,111,109]] rfl rfl (by decide)).mono ?_
  rintro e w5 ⟨s4,(E4:Hid _),rfl,(F5:Hid _)⟩;go_wp2_with fail
  with_reducible refine(bh F5.o).mono ?_
  rintro e w6 ⟨n5,s5,(N5:Hid _),(Z5:Hid _),rfl,(F6:Hid _)⟩;have KK:=F6.o.ab.cell 2;simp at KK;have Mb:=F6.o.ab.frozen 2;go_upto_region 16 with fail
  have F7:=aa (F6.o.aO 2 (.s (I.bs n5)) (cs':=#[.u 13,.s (I.bs n3),.s (I.bs n5),.e,.b,.z,.z,.z,.z,.z,.slice A1 M6.length c1,.f,.e]) rfl);obtain⟨w7,hw⟩:=aab (w6.setCell ⟨g4,2,none⟩ (.s (I.bs n5)));rw[←hw]at F7⊢;clear hw KK Mb;obtain⟨cz,hcz⟩:∃z:List Value,z=[.u 13,.s (I.bs n3),.s (I.bs n5),.e,.b,.z,.z,.z,.z,.z,.slice A1 M6.length c1,.f,.e]:=⟨_,rfl⟩;rw[←hcz]at F7;obtain⟨RS,TH,LC,OC⟩:=F7.o.Mg (k:=13) (by rw[hcz];rfl) rfl (by rw[hcz];rfl);have KN:=aa hcz;clear hcz;go_wp2_with (first|refine aU rfl rfl rfl RS.o (by kernel_rfl) (by rw[LC.o];kernel_rfl) ?_|refine wpList_store_mid rfl _ _ _ rfl _ 0 cz.toArray rfl rfl TH.o (by rw[List.size_toArray,LC.o];kernel_rfl) OC.o ?_)
  have FZ:=aa (F7.o.bS cz (by rw[LC.o];rfl));have HS:Hid (Rp.dk C.text.size false st=(({I.Km.of 13 with pv:=M6,nm:=n3,on:=n5}:I.Km),s5)):=by show _=_;rw[Rp.ie,X1.o];simp only[Bool.false_eq_true,if_false];rw[if_neg Hl.o,E2.o,sI N3.o E4.o N5.o]
  refine bodyPost_ret (v:=.agg cz.toArray) (results_cell_row rfl _ _ w.heap.size 30 _ (0,0) _ rfl FZ.o.ah ag rfl (by rw[List.size_toArray,LC.o];exact af)) rfl ?_;rw[HS.o];exact FZ.o.aK (cs:=cz) (El.cz KN.o (⟨_,_,_,_,_,_,rfl,Rr.nil _ _ _,Rr.nil _ _ _,Rr.nil _ _ _,Rr.nil _ _ _,Rr.nil _ _ _,FZ.o.Kx,Sz.of Z3.o,Sz.of Z5.o,Sz.of (Nat.zero_le _),Sz.of (Nat.zero_le _)⟩))
end
theorem fD{P:Program}{ops:Array Oper}{o:Oper}{a:Act}{w:World}{K:Act→World→Prop}{Q:Exit→Act→World→Prop}{E:Prop}(hgd:o.guard=none)(N:FuncId)(x:Operand)(ty:TypeId)(ho:o.op=.call {callee:=.value (.func N),args:=#[x],argTypes:=#[ty]})(v:Value)(hx:a.eval x=v){Post:Ending→World→Prop}(hN:∀w:World,(callFunc N #[v]).run P w=.ok (.enter N #[v]) w)(hc:Calls P N #[v] w Post)(h:∀e w',Post e w'→∃u,e=.returned u∧K (a.put o.dst u) w'):
 if Region.wanted o (yielded ops a.tmps)=true then Oper.wp P o a w K Q else E:=by
 have hw:Region.wanted o (yielded ops a.tmps)=true:=by simp[Region.wanted,hgd]
 rw[if_pos hw];unfold Oper.wp;have key:(execOp a.eval o).run P w=(callFunc N #[a.eval x]).run P w:=by simp[execOp,ho,resolve,invoke,go_sem]
 rw[key,hx,hN,Oper.upon_enter];refine hc.mono fun e w' hp=>?_
 obtain⟨u,rfl,hk⟩:=h e w' hp;exact hk
theorem fA{Pr:Program}{α:Type}{E:El α}{ops:Array Oper}{o:Oper}{a:Act}{w:World}{K:Act→World→Prop}{Q:Exit→Act→World→Prop}{E0:Prop}(hI:E.Info Pr)(hgd:o.guard=none)(s x:Operand){T:TypeId}(hT:Pr.underlying T=some (.slice E.t))
 (ho:o.op=.call {callee:=.builtin .append,args:=#[s,x],argTypes:=#[T,T]})
 (lo:Nat) (v:Value) (xs:List α) (hs:a.eval s=v) (hF:Ro E w lo v xs) (g c:Nat) (cs:List Value) (y:α) (hx:a.eval x=.slice (some ⟨g,0,none⟩) 1 c) {t:TypeId} {mk:Nat×Nat} (hg:w.heap[g]?=some (.cells cs.toArray t mk)) (hy:E.R w (Pow w lo v) cs y) (hm:(xs.length+1)*E.by'≤140737488355328) (hn:xs.length+1≤maxLen) (hlo:lo≤w.heap.size)
 (h:∀v' w',Ro E w' lo v' (xs++[y])→w.grownBy w' v.ownBlock→Below lo w w'→K (a.put o.dst v') w'):
 if Region.wanted o (yielded ops a.tmps)=true then Oper.wp Pr o a w K Q else E0:=by
 have hw:Region.wanted o (yielded ops a.tmps)=true:=by simp[Region.wanted,hgd]
 rw[if_pos hw];obtain⟨v',w',hrun,h1,h2,h3⟩:=Ro.app (ty:=o.type) hI hT hF (c:=c) hg hy hm hn hlo;unfold Oper.wp;have key:(execOp a.eval o).run Pr w=((Builtin.append_ #[T,T] o.type #[a.eval s,a.eval x]).run Pr w).andThen fun u w'=>.ok (.value u) w':=by simp[execOp,ho,resolve,invoke,builtin,Result.andThen]
 rw[key,hs,hx,hrun];exact h v' w' h1 h2 h3
theorem Fl.drew{g lo:Nat}{w0 w:World}{own:bO}{its:List It}{Q:World→Prop}(h:Fl g w0 lo own its Q w):Fl g w0 lo own its Q w.drew:=
 ⟨h.fr.drew 1,h.l1,h.l2,h.lt,fun F hF=>F.aR (w:=w) (fun _ h=>h) (fun _ _=>rfl) (h.its F hF)⟩
theorem Fl.sJ{C:RC}{w0 w:World}{lo:Nat}{own:bO}{its:List It}{Q:World→Prop}{α:Type}{E:El α}{f:FuncId}{args:Array Value}{r:α×I.St}(F:Fl C.g w0 lo own its Q w)(h:Calls Tryz.prog f args w.drew (ER E C w.drew r)):Calls Tryz.prog f args w.drew fun e w'=>∃cs x s,r=(x,s)∧e=.returned (.agg cs.toArray)∧E.R w' (In w.heap.size w'.heap.size) cs x∧Ch C.g w.heap.size w w'∧Fl C.g w0 lo own its (RS C s) w':=
 (F.drew.jw h).mono fun _ _ ⟨cs,x,s,h1,h2,h3,h4,h5⟩=>⟨cs,x,s,h1,h2,h3,h4.sk,h5⟩
theorem Ro.kS{α:Type}{E:El α}{w1 w2:World}{lo:Nat}{cs:List Value}{x:α}{p:Addr}{v:Value}(hw:w2=(w1.setCell p v).alloc (.cells cs.toArray E.t))(hp:p.block<lo)(hl:lo≤w1.heap.size)(hx:E.R w1 (In lo w1.heap.size) cs x):Ro E w2 lo (.slice (some ⟨w1.heap.size,0,none⟩) 1 1) [x]:=by
 have h:=Ro.one (lo:=lo) (w1:=w1.setCell p v) hw (by simpa using hl) (El.hp hx (fun b hb=>⟨hb.1,by have:=hb.2;simpa using this⟩) fun b hb=>Below.heap_setCell w1 p v b (by have:=hb.1;omega));have hs:(w1.setCell p v).heap.size=w1.heap.size:=by simp
 rw[hs]at h;exact h
end Go.Proofs.YtnicfobpclehkaaGreatDoor
