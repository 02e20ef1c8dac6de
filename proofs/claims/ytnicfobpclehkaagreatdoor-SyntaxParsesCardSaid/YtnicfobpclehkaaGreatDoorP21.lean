import Derived.Deep.DeepCutAuto
import Derived.Test.YtnicfobpclehkaaGreatDoorP20
set_option maxHeartbeats 3200000
set_option linter.unusedVariables false
set_option linter.unusedSimpArgs false
namespace Go.Proofs.YtnicfobpclehkaaGreatDoor
open Go.RowKit
section
set_option maxRecDepth 100000
theorem dn:Tryz.prog.underlying 40=some (.struct (Tryz.prog.fieldsOf 40)):=by kernel_rfl
theorem cQ:(Tryz.prog.info? 40).map (·.size)=some 8:=by kernel_rfl
def cp(c:I.Ky)(A:Option Addr)(m k:Nat):Array Value:=#[.s (I.bs c.nm),.u (c.k.toNat:Int),.bool c.pr,.bool c.nn,.bool c.un,.slice A m k,.s (I.bs c.rf),.u (c.ac.toNat:Int)]
def o7(C:RC)(w:World)(gc:Nat)(T:I.Ky×I.St)(wx:World):Prop:=∃A m k,Fr C.g w [(gc,40,cp T.1 A m k),(w.heap.size,40,#[.e,.b,.f,.f,.f,.z,.e,.b])] [It.rr Kr (.slice A m k) T.1.ck] (PS C T.2) wx∧T.1.nm.length≤4096∧T.1.rf.length≤4096
theorem I.qR(T:Nat)(st:I.St):(I.aC T st).1.un=false:=rfl
theorem I.xd(T:Nat)(c:I.Ky)(st:I.St):(I.bc T c st).1.un=c.un:=by unfold I.bc;split<;>rfl
theorem I.xL(T:Nat)(c:I.Ky)(st:I.St):(I.bY T c st).1.un=c.un:=by unfold I.bY;split<;>rfl
theorem Fr.J4{C:RC}{w0 w:World}{own:bO}{its:List It}{st:I.St}{f:FuncId}{args:Array Value}{r:UInt8×I.St}(F:Fr C.g w0 own its (PS C st) w)(h:Calls Tryz.prog f args w (si C w r)):Calls Tryz.prog f args w fun e w'=>∃n s,r=(n,s)∧e=.returned (.u (n.toNat:Int))∧Fr C.g w0 own its (PS C s) w':=
 h.mono fun _ _ ⟨h1,h2,h3⟩=>⟨r.1,r.2,rfl,h1,F.call h2.aJ h3⟩
section
variable{g:Nat}{w0 w w':World}{own:bO}{its:List It}{Q:World→Prop}
theorem Fr.G8{p:Nat×TypeId×Array Value}(h:Fr g w0 (p::own) its Q w):Fr g w0 own its Q w:=
 ⟨h.lt,h.ps,h.ch,fun q hq=>h.own q (List.mem_cons_of_mem _ hq),(List.pairwise_cons.1 h.nd).2,fun F hF=>F.aR (fun _ hb=>⟨hb.1,hb.2.1,fun q hq=>hb.2.2 q (List.mem_cons_of_mem _ hq)⟩) (fun _ _=>rfl) (h.its F hF)⟩
end
theorem wK(C:RC)(st:I.St)(w:World)(h:PS C st w):
 Calls Tryz.prog 198 #[.p C.g] w (EPost dC C w (I.column C.text.size st)):=by
 have F0:=aa (Fr.start h.lt h.aJ);clear h;go_enter Tryz.func198,Tryz.ntmps198;have F1:=aa (F0.o.new 40 #[.e,.b,.f,.f,.f,.z,.e,.b]);obtain⟨w1,hw⟩:=aab (w.alloc (.cells #[.e,.b,.f,.f,.f,.z,.e,.b] 40));go_upto_region 1 with fail
 rw[←hw]at F1⊢;clear hw;go_wp2_with fail
 with_reducible refine(cG F1.o).mono ?_
 rintro e w2 ⟨n2,s2,(N2:Hid _),(Z2:Hid _),rfl,(F2:Hid _)⟩;go_upto_region 2 with fail
 have F3:=aa (F2.o.new 40 #[.s (I.bs n2),.b,.f,.f,.f,.z,.e,.b]);obtain⟨w3,hw⟩:=aab (w2.alloc (.cells #[.s (I.bs n2),.b,.f,.f,.f,.z,.e,.b] 40));obtain⟨g3,hg⟩:=aab w2.heap.size;rw[←hw,←hg]at F3;rw[←hw,←hg];clear hw hg;go_upto_region 3 with fail
 have F4:=aa (F3.o.new 245 #[.u 2,.u 3,.u 1,.u 4,.u 5]);obtain⟨w4,hw⟩:=aab (w3.alloc (.cells #[.u 2,.u 3,.u 1,.u 4,.u 5] 245));obtain⟨g4,hg⟩:=aab w3.heap.size;rw[←hw,←hg]at F4;rw[←hw,←hg];clear hw hg;go_wp2_with fail
 with_reducible refine(jz F4.o (n:=5) (cells:=#[.s ⟨#[105,110,116]⟩,.s ⟨#[100,101,99]⟩,.s ⟨#[98,111,111,108]⟩,.s ⟨#[116,101,120,116]⟩,.s ⟨#[98,121,116,101,115]⟩]) [[105,110,116],[100,101,99],[98,111,111,108],[116,101,120,116],[98,121,116,101,115]] rfl rfl (by decide) (by decide)).mono ?_
 rintro e w5 ⟨i5,s5,(E5:Hid _),hI5,rfl,(F5:Hid _)⟩;have I5:=aa hI5;clear hI5;obtain⟨Wv,Pk⟩:∃q:UInt8,q=([2,3,1,4,5]:List UInt8).getD i5 0:=⟨_,rfl⟩;have Sr:w5.cell? ⟨g4,i5,none⟩=some (.u (Wv.toNat:Int)):=by
  have hi:=I5.o;rw[F5.o.ab.cell i5,Pk];have:i5=0∨i5=1∨i5=2∨i5=3∨i5=4:=by omega
  rcases this with rfl|rfl|rfl|rfl|rfl<;>rfl
 have KV5:=aa Pk;clear Pk;have Ss:(i5:Int)<5:=by have:=I5.o;omega
 have M5:=F5.o.ah.cell 1;simp at M5;have M9:=F5.o.ah.frozen 1;go_upto_region 4 with fail
 have F6:=aa (F5.o.iq 1 (.u (Wv.toNat:Int)) (cs':=#[.s (I.bs n2),.u (Wv.toNat:Int),.f,.f,.f,.z,.e,.b]) rfl);obtain⟨w6,hw⟩:=aab (w5.setCell ⟨g3,1,none⟩ (.u (Wv.toNat:Int)));rw[←hw]at F6⊢;clear hw M5 M9;clear Sr Ss;obtain⟨q0,hq0⟩:=aab (I.aC C.text.size st);obtain⟨KU,Nb⟩:=q0;have HC:Hid (o7 C w g3 (KU,Nb) w6):=by
  show o7 C w g3 (KU,Nb) w6;have e:I.aC C.text.size st=(⟨n2,Wv,false,false,false,[],[],0⟩,s5):=by simp only[I.aC,N2.o,E5.o,I.kinds,KV5.o]
  rw[hq0,e];refine⟨none,0,0,?_,Z2.o,Nat.zero_le _⟩;have h1:=(F6.o.item (It.rr Kr .z []) (Rr.nil _ _ _));exact h1.G8
 have RQ:=aa hq0;clear hq0 N2 Z2 E5 I5 KV5 F0 F1 F2 F3 F4 F5 F6;obtain⟨A,m,k,hF,hn,hr⟩:=HC.o;have FA:=aa hF;have Hn:=aa hn;have Hr:=aa hr;clear hF hn hr HC;unfold cp at FA;go_wp2_with fail
 with_reducible refine(bF ⟨#[112,114,105,109,97,114,121]⟩ [112,114,105,109,97,114,121] rfl FA.o).mono ?_
 rintro e Ww ⟨b,hb,rfl,hF⟩;have FB:=aa hF;have Lm:=aa hb;clear hF hb FA;go_upto_if 16 with fail
 go_cut [] (fun wx=>Hid (o7 C w g3 (I.bc C.text.size KU Nb) wx));case first=>
  cases b with
  |true=>
   obtain⟨Ln,hw⟩:=aab Ww;subst hw;have Lc:Hid (Fr C.g w _ _ (PS C (I.next Nb)) Ln):=FB.o;clear FB;go_wp2_with fail
   with_reducible refine(aY Lc.o (n:=1) (cells:=#[.s ⟨#[107,101,121]⟩]) [[107,101,121]] rfl rfl (by decide)).mono ?_
   rintro e LP ⟨LB,(MD:Hid _),rfl,(KD:Hid _)⟩;have KK:=KD.o.ab.cell 2;simp at KK;have Mb:=KD.o.ab.frozen 2;go_wp2_with fail
   go_meet;have e:I.bc C.text.size KU Nb=({KU with pr:=true},LB):=by simp only[I.bc,Lm.o,if_true,MD.o]
   rw[e];exact⟨A,m,k,KD.o.aO 2 (.bool true) rfl,Hn.o,Hr.o⟩
  |false=>
   have FC:Hid (Fr C.g w _ _ (PS C Nb) Ww):=FB.o;clear FB;go_wp2_with fail
   go_meet;have e:I.bc C.text.size KU Nb=(KU,Nb):=by simp only[I.bc,Lm.o,Bool.false_eq_true,if_false]
   rw[e];exact⟨A,m,k,FC.o,Hn.o,Hr.o⟩
 case rest=>
  clear FB Hn Hr Lm;obtain⟨q1,hq⟩:=aab (I.bc C.text.size KU Nb);obtain⟨Pn,OI⟩:=q1;rw[←hq]at hcut;have Wx:=aa hq;obtain⟨wr1,hw⟩:=aab wc;subst hw;have HC:=aa hcut.o;clear hq hcut;obtain⟨A,m,k,hF,hn,hr⟩:=HC.o;have FA:=aa hF;have Hn:=aa hn;have Hr:=aa hr;clear hF hn hr HC;unfold cp at FA;go_wp2_with fail
  with_reducible refine(bF ⟨#[110,111,116]⟩ [110,111,116] rfl FA.o).mono ?_
  rintro e Wy ⟨b,hb,rfl,hF⟩;have FB:=aa hF;have Lm:=aa hb;clear hF hb FA;go_upto_if 22 with fail
  go_cut [] (fun wx=>Hid (o7 C w g3 (I.bY C.text.size Pn OI) wx));case first=>
   cases b with
   |true=>
    obtain⟨Ln,hw⟩:=aab Wy;subst hw;have Lc:Hid (Fr C.g w _ _ (PS C (I.next OI)) Ln):=FB.o;clear FB;go_wp2_with fail
    with_reducible refine(aY Lc.o (n:=1) (cells:=#[.s ⟨#[110,117,108,108]⟩]) [[110,117,108,108]] rfl rfl (by decide)).mono ?_
    rintro e LP ⟨LB,(MD:Hid _),rfl,(KD:Hid _)⟩;have LN:=KD.o.ab.cell 3;simp at LN;have Mt:=KD.o.ab.frozen 3;go_wp2_with fail
    go_meet;have e:I.bY C.text.size Pn OI=({Pn with nn:=true},LB):=by simp only[I.bY,Lm.o,if_true,MD.o]
    rw[e];exact⟨A,m,k,KD.o.aO 3 (.bool true) rfl,Hn.o,Hr.o⟩
   |false=>
    have FC:Hid (Fr C.g w _ _ (PS C OI) Wy):=FB.o;clear FB;go_wp2_with fail
    go_meet;have e:I.bY C.text.size Pn OI=(Pn,OI):=by simp only[I.bY,Lm.o,Bool.false_eq_true,if_false]
    rw[e];exact⟨A,m,k,FC.o,Hn.o,Hr.o⟩
  case rest=>
   clear FB Hn Hr Lm;obtain⟨q2,hq⟩:=aab (I.bY C.text.size Pn OI);obtain⟨Mq,Ui⟩:=q2;rw[←hq]at hcut;have Uj:=aa hq;obtain⟨wr2,hw⟩:=aab wc;subst hw;have HC:=aa hcut.o;clear hq hcut;obtain⟨A,m,k,hF,hn,hr⟩:=HC.o;have FA:=aa hF;have Hn:=aa hn;have Hr:=aa hr;clear hF hn hr HC;unfold cp at FA;have hun:Mq.un=false:=by have h2:=I.xL C.text.size Pn OI;rw[←Uj.o]at h2;have h1:=I.xd C.text.size KU Nb;rw[←Wx.o]at h1;have h0:=I.qR C.text.size st;rw[←RQ.o]at h0;simp only at h0 h1 h2;rw[h2,h1,h0]
   have Wz:=aa hun;clear hun;go_wp2_with fail
   with_reducible refine(bF ⟨#[117,110,105,113,117,101]⟩ [117,110,105,113,117,101] rfl FA.o).mono ?_
   rintro e Su ⟨b,hb,rfl,hF⟩;obtain⟨LQ,Pp⟩:∃s,s=(if b=true then I.next Ui else Ui):=⟨_,rfl⟩;rw[←Pp]at hF;have FB:=aa hF;clear hF FA;obtain⟨Lk,ML⟩:∃c:I.Ky,c={Mq with un:=b}:=⟨_,rfl⟩;have Uk:Hid ((Lk,LQ)=I.cp Mq Ui):=by
    show _=_;rw[ML,Pp];unfold I.cp;rw[hb];cases b with
    |true=>rfl
    |false=>
     simp only[Bool.false_eq_true,if_false];rw[←Wz.o]
   clear Pp hb;have O2:=FB.o.ab.cell 4;simp at O2;have Oj:=FB.o.ab.frozen 4;go_upto_region 11 with fail
   have FD:=aa (FB.o.aO 4 (.bool b) (cs':=cp Lk A m k) (by rw[ML];rfl));obtain⟨wr3,hw⟩:=aab (Su.setCell ⟨g3,4,none⟩ (.bool b));rw[←hw]at FD⊢;have HC:Hid (o7 C w g3 (Lk,LQ) wr3):=⟨A,m,k,by rw[ML]at FD⊢;exact FD.o,by rw[ML];exact Hn.o,by rw[ML];exact Hr.o⟩;clear hw O2 Oj FB FD Hn Hr ML Wz;obtain⟨A,m,k,hF,hn,hr⟩:=HC.o;have FA:=aa hF;have Hn:=aa hn;have Hr:=aa hr;clear hF hn hr HC;unfold cp at FA;go_wp2_with fail
   with_reducible refine(bF ⟨#[99,104,101,99,107]⟩ [99,104,101,99,107] rfl FA.o).mono ?_
   rintro e Q0 ⟨b,hb,rfl,hF⟩;have FB:=aa hF;have Lm:=aa hb;clear hF hb FA;go_upto_if 31 with fail
   go_cut [] (fun wx=>Hid (o7 C w g3 (I.cM C.text.size Lk LQ) wx));case first=>
    cases b with
    |true=>
     obtain⟨Ln,hw⟩:=aab Q0;subst hw;have Lc:Hid (Fr C.g w _ _ (PS C (I.next LQ)) Ln):=FB.o;clear FB;go_wp2_with fail
     with_reducible refine(Fr.ux Lc.o (ir C 138 #[.p C.g] #[] #[.p C.g] (fun w=>by simp[go_sem]) [] iy (I.expr C.text.size) (I.next LQ).r.length (eU fun st w hp=>fh C st w hp) (I.next LQ) _ (by omega) (.inl (Nat.le_refl _)) Lc.o.q (ey.none _))).mono ?_
     rintro e LP ⟨h11,Ql,m11,c11,Om,s11,(Wu:Hid _),rfl,hF⟩;have KD:=aa hF;clear hF;have QC:=(KD.o.ab.alloc (.cells #[.u (h11.o.toNat:Int),.u (h11.v.k.toNat:Int),.i h11.v.n,.s h11.v.s,.s h11.nm,.s h11.of,.i h11.n,.slice Ql m11 c11] 50)).cell 5;have Ph:=(KD.o.ab.alloc (.cells #[.u (h11.o.toNat:Int),.u (h11.v.k.toNat:Int),.i h11.v.n,.s h11.v.s,.s h11.nm,.s h11.of,.i h11.n,.slice Ql m11 c11] 50)).frozen 5;have kl:=KD.o.ab.lt;simp at QC;go_wp2_with fail
     go_meet;have e:I.cM C.text.size Lk LQ=({Lk with ck:=[Om]},s11):=by simp only[I.cM,Lm.o,if_true,Wu.o]
     rw[e];exact⟨_,1,1,(KD.o.gL (E:=Kr) (cs:=[.u (h11.o.toNat:Int),.u (h11.v.k.toNat:Int),.i h11.v.n,.s h11.v.s,.s h11.nm,.s h11.of,.i h11.n,.slice Ql m11 c11]) 50 5 rfl).only (fun F hF=>by rw[List.mem_singleton.1 hF];exact List.mem_cons_self),Hn.o,Hr.o⟩
    |false=>
     have FC:Hid (Fr C.g w _ _ (PS C LQ) Q0):=FB.o;clear FB;go_wp2_with fail
     go_meet;have e:I.cM C.text.size Lk LQ=(Lk,LQ):=by simp only[I.cM,Lm.o,Bool.false_eq_true,if_false]
     rw[e];exact⟨A,m,k,FC.o,Hn.o,Hr.o⟩
   case rest=>
    clear FB Hn Hr Lm;obtain⟨q4,hq⟩:=aab (I.cM C.text.size Lk LQ);obtain⟨KH,Mh⟩:=q4;rw[←hq]at hcut;have Ul:=aa hq;obtain⟨wr4,hw⟩:=aab wc;subst hw;have HC:=aa hcut.o;clear hq hcut;obtain⟨A,m,k,hF,hn,hr⟩:=HC.o;have FA:=aa hF;have Hn:=aa hn;have Hr:=aa hr;clear hF hn hr HC;unfold cp at FA;go_wp2_with fail
    with_reducible refine(bF ⟨#[114,101,102,101,114,101,110,99,101,115]⟩ [114,101,102,101,114,101,110,99,101,115] rfl FA.o).mono ?_
    rintro e Tf ⟨b,hb,rfl,hF⟩;have FB:=aa hF;have Lm:=aa hb;clear hF hb FA;go_upto_if 39 with fail
    go_cut [] (fun wx=>Hid (o7 C w g3 (I.dK C.text.size KH Mh) wx));case first=>
     cases b with
     |true=>
      obtain⟨Ln,hw⟩:=aab Tf;subst hw;have Lc:Hid (Fr C.g w _ _ (PS C (I.next Mh)) Ln):=FB.o;clear FB;go_wp2_with fail
      with_reducible refine(cG Lc.o).mono ?_
      rintro e LP ⟨n12,s12,(Tg:Hid _),(Th:Hid _),rfl,(KD:Hid _)⟩;have Pq:=KD.o.ab.cell 6;simp at Pq;have OB:=KD.o.ab.frozen 6;go_upto_region 15 with fail
      have Md:=aa (KD.o.aO 6 (.s (I.bs n12)) (cs':=#[.s (I.bs KH.nm),.u (KH.k.toNat:Int),.bool KH.pr,.bool KH.nn,.bool KH.un,.slice A m k,.s (I.bs n12),.u (KH.ac.toNat:Int)]) rfl);obtain⟨LF,hw⟩:=aab (LP.setCell ⟨g3,6,none⟩ (.s (I.bs n12)));rw[←hw]at Md⊢;clear hw Pq OB;go_wp2_with fail
      with_reducible refine(Fr.J4 Md.o (vV C _ _ Md.o.q)).mono ?_
      rintro e Um ⟨a13,s13,(X13:Hid _),rfl,(Qm:Hid _)⟩;have NY:=Qm.o.ab.cell 7;simp at NY;have NK:=Qm.o.ab.frozen 7;go_wp2_with fail
      go_meet;have e:I.dK C.text.size KH Mh=({KH with rf:=n12,ac:=a13},s13):=by simp only[I.dK,Lm.o,if_true,Tg.o,X13.o]
      rw[e];exact⟨A,m,k,Qm.o.aO 7 (.u (a13.toNat:Int)) rfl,Hn.o,Th.o⟩
     |false=>
      have FC:Hid (Fr C.g w _ _ (PS C Mh) Tf):=FB.o;clear FB;go_wp2_with fail
      go_meet;have e:I.dK C.text.size KH Mh=(KH,Mh):=by simp only[I.dK,Lm.o,Bool.false_eq_true,if_false]
      rw[e];exact⟨A,m,k,FC.o,Hn.o,Hr.o⟩
    case rest=>
     clear FB Hn Hr Lm;obtain⟨q5,hq⟩:=aab (I.dK C.text.size KH Mh);obtain⟨O6,Vu⟩:=q5;rw[←hq]at hcut;have WA:=aa hq;obtain⟨WB,hw⟩:=aab wc;subst hw;have HC:=aa hcut.o;clear hq hcut;obtain⟨A,m,k,hF,hn,hr⟩:=HC.o;have FA:=aa hF;have Hn:=aa hn;have Hr:=aa hr;clear hF hn hr HC;unfold cp at FA;obtain⟨Q6,hw⟩:=aab WB;subst hw;have LR:Hid (Fr C.g w _ _ (PS C Vu) Q6):=FA.o;clear FA;have Ks:=LR.o.ab.Y8;simp at Ks;have cj2:=LR.o.ah.Y8;simp at cj2;obtain⟨KQ,KS,KT,K4,K5,K6,K7,K9⟩:=LR.o.ah.Z8;go_wp2_with fail
     have FZ:=aa (LR.o.cN (bd (Ch.refl _ _ _) (.inl rfl) _ _ _ _ _ _ _ _) (aW LR.o.ah (.s (I.bs O6.nm)) (.u (O6.k.toNat:Int)) (.bool O6.pr) (.bool O6.nn) (.bool O6.un) (.slice A m k) (.s (I.bs O6.rf)) (.u (O6.ac.toNat:Int))));have HS:Hid (I.column C.text.size st=(O6,Vu)):=by show _=_;rw[I.kR,←RQ.o];simp only;rw[←Wx.o];simp only;rw[←Uj.o];simp only;rw[←Uk.o];simp only;rw[←Ul.o];simp only;rw[←WA.o]
     refine bodyPost_ret (results_cell_row rfl _ _ w.heap.size 40 _ (0,0) _ rfl FZ.o.ah dn rfl cQ) rfl ?_;rw[HS.o];exact FZ.o.done ⟨_,rfl,FZ.o.Kx,Sz.of Hn.o,Sz.of Hr.o⟩
end
section
set_option maxRecDepth 100000
theorem gK:Tryz.prog.underlying 45=some (.struct (Tryz.prog.fieldsOf 45)):=by kernel_rfl
theorem ga:(Tryz.prog.info? 45).map (·.size)=some 7:=by kernel_rfl
def nr(q:I.Kz)(v1 v2 v3 v4 v5:Value):Array Value:=#[.bool q.all,v1,v2,v3,v4,v5,.i q.lim]
def tB(C:RC)(w:World)(gq:Nat)(T:I.Kz×I.St)(wx:World):Prop:=∃A1 m1 c1 A2 m2 c2 A3 m3 c3 A4 m4 c4 A5 m5 c5,Fr C.g w [(gq,45,nr T.1 (.slice A1 m1 c1) (.slice A2 m2 c2) (.slice A3 m3 c3) (.slice A4 m4 c4) (.slice A5 m5 c5)),(w.heap.size,45,#[.f,.z,.z,.z,.z,.z,.o])] [It.rr cS (.slice A1 m1 c1) T.1.its,It.rr bV (.slice A2 m2 c2) T.1.fr,It.rr Kr (.slice A3 m3 c3) T.1.wh,It.rr Kr (.slice A4 m4 c4) T.1.gr,It.rr dx (.slice A5 m5 c5) T.1.od] (PS C T.2) wx∧ -9223372036854775808≤T.1.lim∧T.1.lim≤9223372036854775807
theorem I.pj(T:Nat)(st:I.St):0≤(I.bA T st).1∧(I.bA T st).1≤9223372036854775807:=by
 have h:=rI (I.Mv st);unfold I.bA;split
 ·split
  ·exact h
  ·exact⟨Int.le_refl _,by show(0:Int)≤9223372036854775807;decide⟩
 ·exact⟨Int.le_refl _,by show(0:Int)≤9223372036854775807;decide⟩
theorem Ro.aR{α:Type}{E:El α}{w w':World}{lo:Nat}{v:Value}{xs:List α}(h:Ro E w lo v xs)(hc:∀b,lo≤b→b<w.heap.size→w'.heap[b]?=w.heap[b]?)(hs:w.heap.size≤w'.heap.size):Ro E w' lo v xs:=by
 obtain⟨css,h1,h2,h3⟩:=h;refine⟨css,h1,⟨h2.1,?_⟩,fun i cs x hi hx=>El.hp (h3 i cs x hi hx) (fun b hb=>⟨hb.1,Nat.lt_of_lt_of_le hb.2.1 hs,hb.2.2⟩) fun b hb=>hc b hb.1 hb.2.1⟩;rcases h2.2 with e|⟨g,cap,cells,e1,e2,e3,e4⟩
 ·exact .inl e
 ·exact .inr ⟨g,cap,cells,e1,e2,(hc g e2 (h2.lt g (by rw[e1];rfl)).2).trans e3,e4⟩
theorem I.lT{T f:Nat}{l:List I.Src}{st:I.St}(hf:st.r.length<f)(ha:I.ae [106,111,105,110] st=false):I.aI T f l st=(l,st,false):=by
 obtain⟨f,rfl⟩:∃k,f=k+1:=⟨f-1,by omega⟩;simp only[I.aI,ha,Bool.false_eq_true,if_false]
theorem I.vJ{T f:Nat}{l:List I.Src}{st:I.St}(hf:st.r.length<f)(ha:I.ae [106,111,105,110] st=true)(hl:16<l.length):I.aI T f l st=(l,I.br T (I.next st),true):=by
 obtain⟨f,rfl⟩:∃k,f=k+1:=⟨f-1,by omega⟩;simp only[I.aI,ha,if_true,if_pos hl]
theorem I.kU{T f:Nat}{l:List I.Src}{st s1 s2 s3:I.St}{s:I.Src}{e:Ev.Ex}(hf:st.r.length<f)(ha:I.ae [106,111,105,110] st=true)(hl:¬16<l.length)(h1:I.source T (I.next st)=(s,s1))(h2:I.expect T [[111,110]] s1=s2)(h3:I.expr T s2=(e,s3)):I.aI T f l st=I.aI T (f-1) (l++[{s with on:=[e]}]) s3:=by
 obtain⟨f,rfl⟩:∃k,f=k+1:=⟨f-1,by omega⟩;simp only[I.aI,ha,if_true,if_neg hl,h1,h2,h3,Nat.add_sub_cancel]
theorem I.pc(T:Nat)(st:I.St):(I.source T st).2.r.length≤st.r.length:=by
 unfold I.source;have h1:=I.dO T st;revert h1;cases I.name T st with
 |mk e s=>
  intro h1;simp only at h1⊢;split
  ·exact Nat.le_trans (I.dO T _) (Nat.le_trans (I.aE s) h1)
  ·exact h1
theorem wA(C:RC)(gB:Nat)(hBg:gB≠C.g)(st:I.St)(w:World)(h:PS C st w)(hB:Kn w gB 70 #[.p C.g]):
 Calls Tryz.prog 196 #[.p gB] w (iC dC C w (I.list C.text.size 12 (I.column C.text.size) st)):=by
 have HB:=aa hB;have hBl:=lt_of_block hB;clear hB;have F0:=aa (Fr.start h.lt h.aJ);clear h;go_enter Tryz.func196,Tryz.ntmps196;have d0:=HB.o.cell 0;simp at d0;go_wp2_with fail
 with_reducible refine(Fr.jJ F0.o (tM C 198 #[.p C.g] #[] #[.p C.g] (fun w=>by simp[go_sem]) [] iy 12 12 rfl (by decide) (by decide) (I.column C.text.size) (I.C7 _) st.r.length (eU fun st w hp=>wK C st w hp) st _ (Nat.le_refl _) F0.o.q (ey.none _))).mono ?_
 rintro e w1 ⟨v1,M6,s1,(X1:Hid _),rfl,(F1:Hid _)⟩;clear d0;have HS:Hid (I.list C.text.size 12 (I.column C.text.size) st=(M6,s1)):=by show _=_;simp only[X1.o]
 go_wp2_with fail
 go_ret;rw[HS.o];exact F1.o.nk
theorem zz(C:RC)(st:I.St)(w:World)(h:PS C st w):
 Calls Tryz.prog 125 #[.p C.g] w (EPost aB C w (I.table C.text.size st)):=by
 have F0:=aa (Fr.start h.lt h.aJ);clear h;go_enter Tryz.func125,Tryz.ntmps125;have F1:Hid (Fr C.g w [(w.heap.size+1,30,#[.b,.e,.e,.e,.b,.z,.z,.z,.z,.z,.z,.f,.e]),(w.heap.size,70,#[.p C.g])] [] (PS C st) ((w.alloc (.cells #[.p C.g] 70)).alloc (.cells #[.b,.e,.e,.e,.b,.z,.z,.z,.z,.z,.z,.f,.e] 30))):=by have h1:=((F0.o.new 70 #[.p C.g]).new 30 #[.b,.e,.e,.e,.b,.z,.z,.z,.z,.z,.z,.f,.e]);rw[ay]at h1;exact h1
 obtain⟨w1,hw⟩:=aab ((w.alloc (.cells #[.p C.g] 70)).alloc (.cells #[.b,.e,.e,.e,.b,.z,.z,.z,.z,.z,.z,.f,.e] 30));go_upto_region 1 with fail
 rw[←hw]at F1⊢;clear hw;obtain⟨gX,RM⟩:=aab (w.heap.size+1);obtain⟨gB,hgB⟩:=aab w.heap.size;rw[←RM,←hgB]at F1;rw[←RM,←hgB];have hBg:gB≠C.g:=by have:=F1.o.lt;omega
 clear RM hgB;skip;have d0:=F1.o.ah.cell 0;simp at d0;go_wp2_with fail
 with_reducible refine(cG F1.o).mono ?_
 rintro e w2 ⟨n2,s2,(N2:Hid _),(Z2:Hid _),rfl,(F2:Hid _)⟩;clear d0;have d0:=F2.o.ah.cell 0;simp at d0;go_upto_region 2 with fail
 have F3:=aa (F2.o.new 30 #[.u 1,.s (I.bs n2),.e,.e,.b,.z,.z,.z,.z,.z,.z,.f,.e]);obtain⟨w3,hw⟩:=aab (w2.alloc (.cells #[.u 1,.s (I.bs n2),.e,.e,.b,.z,.z,.z,.z,.z,.z,.f,.e] 30));obtain⟨g3,hg⟩:=aab w2.heap.size;rw[←hw,←hg]at F3;rw[←hw,←hg];clear hw hg;clear d0;have d0:=F3.o.aS.cell 0;simp at d0;have HB:=aa F3.o.aS;go_wp2_with fail
 with_reducible refine(Fr.jJ F3.o (py C 196 #[] #[.p gB] #[.p gB] (fun w=>by simp[go_sem]) [(gB,.cells #[.p C.g] 70 (0,0))] (qU hBg) (I.list C.text.size 12 (I.column C.text.size)) (fun st2 w2 hp hL=>wA C gB hBg st2 w2 hp (qG hL)) s2 _ F3.o.q (kZ HB.o))).mono ?_
 rintro e w4 ⟨v4,xs4,s4,(X4:Hid _),rfl,(F4:Hid _)⟩;obtain⟨A4,m4,c4,rfl⟩:=ar F4.o.Kx;clear d0;have QC:=F4.o.ab.cell 5;simp at QC;have Ph:=F4.o.ab.frozen 5;go_upto_region 3 with fail
 have F5:=aa (F4.o.aO 5 (.slice A4 m4 c4) (cs':=#[.u 1,.s (I.bs n2),.e,.e,.b,.slice A4 m4 c4,.z,.z,.z,.z,.z,.f,.e]) rfl);obtain⟨w5,hw⟩:=aab (w4.setCell ⟨g3,5,none⟩ (.slice A4 m4 c4));rw[←hw]at F5⊢;clear hw QC Ph;have Ks:=F5.o.ab.KI;simp at Ks;have cj2:=F5.o.ah.KI;simp at cj2;obtain⟨KQ,KS,KT,K4,K5,K6,K7,K9,Ma,MC,KX,KY,KZ⟩:=F5.o.ah.LW;go_wp2_with fail
 have FZ:=aa (F5.o.cN (cC (Ch.refl _ _ _) (.inl rfl) _ _ _ _ _ _ _ _ _ _ _ _ _) (bC F5.o.ah (.u 1) (.s (I.bs n2)) .e .e .b (.slice A4 m4 c4) .z .z .z .z .z .f .e));have HS:Hid (I.table C.text.size st=(({I.Km.of 1 with nm:=n2,Kv:=xs4}:I.Km),s4)):=by show _=_;simp only[I.table,N2.o,X4.o]
 refine bodyPost_ret (results_cell_row rfl _ _ gX 30 _ (0,0) _ rfl FZ.o.ah ag rfl af) rfl ?_;rw[HS.o];exact FZ.o.done (⟨_,_,_,_,_,_,rfl,FZ.o.Kx,Rr.nil _ _ _,Rr.nil _ _ _,Rr.nil _ _ _,Rr.nil _ _ _,Rr.nil _ _ _,Sz.of Z2.o,Sz.of (Nat.zero_le _),Sz.of (Nat.zero_le _),Sz.of (Nat.zero_le _)⟩)
end
end Go.Proofs.YtnicfobpclehkaaGreatDoor
