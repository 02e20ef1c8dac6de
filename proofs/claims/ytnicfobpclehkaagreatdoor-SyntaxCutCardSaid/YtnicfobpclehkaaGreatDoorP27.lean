import Derived.Deep.DeepCutAuto
import Derived.Test.YtnicfobpclehkaaGreatDoorP26
set_option maxHeartbeats 3200000
set_option linter.unusedVariables false
set_option linter.unusedSimpArgs false
namespace Go.Proofs.YtnicfobpclehkaaGreatDoor
open Go.RowKit
section
set_option maxRecDepth 100000
theorem lR:Tryz.prog.underlying 40=some (.struct (Tryz.prog.fieldsOf 40)):=by kernel_rfl
theorem lP:(Tryz.prog.info? 40).map (·.size)=some 8:=by kernel_rfl
def iM(c:I.Oj)(A:Option Addr)(m k:Nat):Array Value:=#[.string (I.bs c.nm),.int .u8 (c.k.toNat:Int),.bool c.pr,.bool c.nn,.bool c.un,.slice A m k,.string (I.bs c.rf),.int .u8 (c.ac.toNat:Int)]
def qW(C:RC)(w:World)(gc:Nat)(T:I.Oj×I.St)(wx:World):Prop:=∃A m k,Fr C.g w [(gc,40,iM T.1 A m k),(w.heap.size,40,#[.string ⟨#[]⟩,.int .u8 0,.bool false,.bool false,.bool false,.slice none 0 0,.string ⟨#[]⟩,.int .u8 0])] [It.rr NI (.slice A m k) T.1.ck] (PS C T.2) wx∧T.1.nm.length≤4096∧T.1.rf.length≤4096
theorem I.Jf(T:Nat)(st:I.St):(I.fp T st).1.un=false:=rfl
theorem I.IJ(T:Nat)(c:I.Oj)(st:I.St):(I.fW T c st).1.un=c.un:=by unfold I.fW;split<;>rfl
theorem I.Iu(T:Nat)(c:I.Oj)(st:I.St):(I.iu T c st).1.un=c.un:=by unfold I.iu;split<;>rfl
theorem Fr.ME{C:RC}{w0 w:World}{own:eP}{its:List It}{st:I.St}{f:FuncId}{args:Array Value}{r:UInt8×I.St}(F:Fr C.g w0 own its (PS C st) w)(h:Calls Tryz.prog f args w (vj C w r)):Calls Tryz.prog f args w fun e w'=>∃n s,r=(n,s)∧e=.returned (.int .u8 (n.toNat:Int))∧Fr C.g w0 own its (PS C s) w':=
 h.mono fun _ _ ⟨h1,h2,h3⟩=>⟨r.1,r.2,rfl,h1,F.call h2.eU h3⟩
section
variable{g:Nat}{w0 w w':World}{own:eP}{its:List It}{Q:World→Prop}
theorem Fr.KG{p:Nat×TypeId×Array Value}(h:Fr g w0 (p::own) its Q w):Fr g w0 own its Q w:=
 ⟨h.lt,h.ps,h.ch,fun q hq=>h.own q (au _ hq),(bW.1 h.nd).2,fun F hF=>F.dH (fun _ hb=>⟨hb.1,hb.2.1,fun q hq=>hb.2.2 q (au _ hq)⟩) (fun _ _=>rfl) (h.its F hF)⟩
end
theorem Ap(C:RC)(st:I.St)(w:World)(h:PS C st w):
 Calls Tryz.prog 198 #[.pointer (some ⟨C.g,0,none⟩)] w (EPost eM C w (I.column C.text.size st)):=by
 have F0:=cN (Fr.start h.lt h.eU);clear h;go_enter Tryz.func198,Tryz.ntmps198;have F1:=cN (F0.o.new 40 #[.string ⟨#[]⟩,.int .u8 0,.bool false,.bool false,.bool false,.slice none 0 0,.string ⟨#[]⟩,.int .u8 0]);obtain⟨w1,hw⟩:∃x,x=w.alloc (.cells #[.string ⟨#[]⟩,.int .u8 0,.bool false,.bool false,.bool false,.slice none 0 0,.string ⟨#[]⟩,.int .u8 0] 40):=⟨_,rfl⟩;go_upto_region 1 with fail
 rw[←hw]at F1;rw[←hw];clear hw;go_wp2_with fail
 with_reducible refine(fk F1.o).mono ?_
 rintro e w2 ⟨n2,s2,Qn,hZ2,rfl,hF⟩;have N2:=cN Qn;have Z2:=cN hZ2;have F2:=cN hF;clear hF Qn hZ2;go_upto_region 2 with fail
 have F3:=cN (F2.o.new 40 #[.string (I.bs n2),.int .u8 0,.bool false,.bool false,.bool false,.slice none 0 0,.string ⟨#[]⟩,.int .u8 0]);obtain⟨w3,hw⟩:∃x,x=w2.alloc (.cells #[.string (I.bs n2),.int .u8 0,.bool false,.bool false,.bool false,.slice none 0 0,.string ⟨#[]⟩,.int .u8 0] 40):=⟨_,rfl⟩;obtain⟨g3,hg⟩:∃x,x=w2.heap.size:=⟨_,rfl⟩;rw[←hw,←hg]at F3;rw[←hw,←hg];clear hw hg;go_upto_region 3 with fail
 have F4:=cN (F3.o.new 245 #[.int .u8 2,.int .u8 3,.int .u8 1,.int .u8 4,.int .u8 5]);obtain⟨w4,hw⟩:∃x,x=w3.alloc (.cells #[.int .u8 2,.int .u8 3,.int .u8 1,.int .u8 4,.int .u8 5] 245):=⟨_,rfl⟩;obtain⟨g4,hg⟩:∃x,x=w3.heap.size:=⟨_,rfl⟩;rw[←hw,←hg]at F4;rw[←hw,←hg];clear hw hg;go_wp2_with fail
 with_reducible refine(gi F4.o (n:=5) (cells:=#[.string ⟨#[105,110,116]⟩,.string ⟨#[100,101,99]⟩,.string ⟨#[98,111,111,108]⟩,.string ⟨#[116,101,120,116]⟩,.string ⟨#[98,121,116,101,115]⟩]) [[105,110,116],[100,101,99],[98,111,111,108],[116,101,120,116],[98,121,116,101,115]] rfl rfl (by decide) (by decide)).mono ?_
 rintro e w5 ⟨i5,s5,Vd,hI5,rfl,hF⟩;have E5:=cN Vd;have I5:=cN hI5;have F5:=cN hF;clear hF Vd hI5;obtain⟨YL,RV⟩:∃q:UInt8,q=([2,3,1,4,5]:List UInt8).getD i5 0:=⟨_,rfl⟩;have UG:w5.cell? ⟨g4,i5,none⟩=some (.int .u8 (YL.toNat:Int)):=by
  have hi:=I5.o;rw[F5.o.cQ.cell i5,RV];have:i5=0∨i5=1∨i5=2∨i5=3∨i5=4:=by omega
  rcases this with rfl|rfl|rfl|rfl|rfl<;>rfl
 have KV5:=cN RV;clear RV;have UH:(i5:Int)<5:=by have:=I5.o;omega
 have QT:=F5.o.cR.cell 1;simp at QT;have SD:=F5.o.cR.frozen 1;go_upto_region 4 with fail
 have F6:=cN (F5.o.zB 1 (.int .u8 (YL.toNat:Int)) (cs':=#[.string (I.bs n2),.int .u8 (YL.toNat:Int),.bool false,.bool false,.bool false,.slice none 0 0,.string ⟨#[]⟩,.int .u8 0]) rfl);obtain⟨w6,hw⟩:∃x,x=w5.setCell ⟨g3,1,none⟩ (.int .u8 (YL.toNat:Int)):=⟨_,rfl⟩;rw[←hw]at F6;rw[←hw];clear hw QT SD;clear UG UH;obtain⟨q0,hq0⟩:∃q,q=I.fp C.text.size st:=⟨_,rfl⟩;obtain⟨O3,TB⟩:=q0;have HC:Hid (qW C w g3 (O3,TB) w6):=by
  show qW C w g3 (O3,TB) w6;have e:I.fp C.text.size st=(⟨n2,YL,false,false,false,[],[],0⟩,s5):=by simp only[I.fp,N2.o,E5.o,I.kinds,KV5.o]
  rw[hq0,e];refine⟨none,0,0,?_,Z2.o,ao _⟩;have h1:=(F6.o.item (It.rr NI (.slice none 0 0) []) (Rr.nil _ _ _));exact h1.KG
 have YM:=cN hq0;clear hq0 N2 Z2 E5 I5 KV5 F0 F1 F2 F3 F4 F5 F6;obtain⟨A,m,k,hF,hn,hr⟩:=HC.o;have FA:=cN hF;have Hn:=cN hn;have Hr:=cN hr;clear hF hn hr HC;unfold iM at FA;go_wp2_with fail
 with_reducible refine(eh ⟨#[112,114,105,109,97,114,121]⟩ [112,114,105,109,97,114,121] rfl FA.o).mono ?_
 rintro e wa1 ⟨b,hb,rfl,hF⟩;have FB:=cN hF;have Qg:=cN hb;clear hF hb FA;go_upto_if 16 with fail
 go_cut [] (fun wx=>Hid (qW C w g3 (I.fW C.text.size O3 TB) wx));case first=>
  cases b with
  |true=>
   obtain⟨Qh,hw⟩:∃x,x=wa1:=⟨_,rfl⟩;subst hw;have P0:Hid (Fr C.g w _ _ (PS C (I.next TB)) Qh):=FB.o;clear FB;go_wp2_with fail
   with_reducible refine(dE P0.o (n:=1) (cells:=#[.string ⟨#[107,101,121]⟩]) [[107,101,121]] rfl rfl (by decide)).mono ?_
   rintro e Sn ⟨QF,Pz,rfl,hF⟩;have Sq:=cN Pz;have OE:=cN hF;clear hF Pz;have PZ:=OE.o.cQ.cell 2;simp at PZ;have Sl:=OE.o.cQ.frozen 2;go_wp2_with fail
   go_meet;have e:I.fW C.text.size O3 TB=({O3 with pr:=true},QF):=by simp only[I.fW,Qg.o,bo,Sq.o]
   rw[e];exact⟨A,m,k,OE.o.ew 2 (.bool true) rfl,Hn.o,Hr.o⟩
  |false=>
   have FC:Hid (Fr C.g w _ _ (PS C TB) wa1):=FB.o;clear FB;go_wp2_with fail
   go_meet;have e:I.fW C.text.size O3 TB=(O3,TB):=by simp only[I.fW,Qg.o,aO,bx]
   rw[e];exact⟨A,m,k,FC.o,Hn.o,Hr.o⟩
 case rest=>
  clear FB Hn Hr Qg;obtain⟨q1,hq⟩:∃q,q=I.fW C.text.size O3 TB:=⟨_,rfl⟩;obtain⟨Wa,Vm⟩:=q1;rw[←hq]at hcut;have Hq1:=cN hq;obtain⟨wr1,hw⟩:∃x,x=wc:=⟨_,rfl⟩;subst hw;have HC:=cN hcut.o;clear hq hcut;obtain⟨A,m,k,hF,hn,hr⟩:=HC.o;have FA:=cN hF;have Hn:=cN hn;have Hr:=cN hr;clear hF hn hr HC;unfold iM at FA;go_wp2_with fail
  with_reducible refine(eh ⟨#[110,111,116]⟩ [110,111,116] rfl FA.o).mono ?_
  rintro e wa2 ⟨b,hb,rfl,hF⟩;have FB:=cN hF;have Qg:=cN hb;clear hF hb FA;go_upto_if 22 with fail
  go_cut [] (fun wx=>Hid (qW C w g3 (I.iu C.text.size Wa Vm) wx));case first=>
   cases b with
   |true=>
    obtain⟨Qh,hw⟩:∃x,x=wa2:=⟨_,rfl⟩;subst hw;have P0:Hid (Fr C.g w _ _ (PS C (I.next Vm)) Qh):=FB.o;clear FB;go_wp2_with fail
    with_reducible refine(dE P0.o (n:=1) (cells:=#[.string ⟨#[110,117,108,108]⟩]) [[110,117,108,108]] rfl rfl (by decide)).mono ?_
    rintro e Sn ⟨QF,Pz,rfl,hF⟩;have Sq:=cN Pz;have OE:=cN hF;clear hF Pz;have PF:=OE.o.cQ.cell 3;simp at PF;have QU:=OE.o.cQ.frozen 3;go_wp2_with fail
    go_meet;have e:I.iu C.text.size Wa Vm=({Wa with nn:=true},QF):=by simp only[I.iu,Qg.o,bo,Sq.o]
    rw[e];exact⟨A,m,k,OE.o.ew 3 (.bool true) rfl,Hn.o,Hr.o⟩
   |false=>
    have FC:Hid (Fr C.g w _ _ (PS C Vm) wa2):=FB.o;clear FB;go_wp2_with fail
    go_meet;have e:I.iu C.text.size Wa Vm=(Wa,Vm):=by simp only[I.iu,Qg.o,aO,bx]
    rw[e];exact⟨A,m,k,FC.o,Hn.o,Hr.o⟩
  case rest=>
   clear FB Hn Hr Qg;obtain⟨q2,hq⟩:∃q,q=I.iu C.text.size Wa Vm:=⟨_,rfl⟩;obtain⟨TC,q2s⟩:=q2;rw[←hq]at hcut;have ZR:=cN hq;obtain⟨wr2,hw⟩:∃x,x=wc:=⟨_,rfl⟩;subst hw;have HC:=cN hcut.o;clear hq hcut;obtain⟨A,m,k,hF,hn,hr⟩:=HC.o;have FA:=cN hF;have Hn:=cN hn;have Hr:=cN hr;clear hF hn hr HC;unfold iM at FA;have hun:TC.un=false:=by have h2:=I.Iu C.text.size Wa Vm;rw[←ZR.o]at h2;have h1:=I.IJ C.text.size O3 TB;rw[←Hq1.o]at h1;have h0:=I.Jf C.text.size st;rw[←YM.o]at h0;simp only at h0 h1 h2;rw[h2,h1,h0]
   have HUn:=cN hun;clear hun;go_wp2_with fail
   with_reducible refine(eh ⟨#[117,110,105,113,117,101]⟩ [117,110,105,113,117,101] rfl FA.o).mono ?_
   rintro e ZS ⟨b,hb,rfl,hF⟩;obtain⟨Rg,Wb⟩:∃s,s=(if b=true then I.next q2s else q2s):=⟨_,rfl⟩;rw[←Wb]at hF;have FB:=cN hF;clear hF FA;obtain⟨RI,SY⟩:∃c:I.Oj,c={TC with un:=b}:=⟨_,rfl⟩;have Hq3:Hid ((RI,Rg)=I.iM TC q2s):=by
    show _=_;rw[SY,Wb];unfold I.iM;rw[hb];cases b with
    |true=>rfl
    |false=>
     simp only[aO,bx];rw[←HUn.o]
   clear Wb hb;have Ug:=FB.o.cQ.cell 4;simp at Ug;have Xb:=FB.o.cQ.frozen 4;go_upto_region 11 with fail
   have FD:=cN (FB.o.ew 4 (.bool b) (cs':=iM RI A m k) (by rw[SY];rfl));obtain⟨wr3,hw⟩:∃x,x=ZS.setCell ⟨g3,4,none⟩ (.bool b):=⟨_,rfl⟩;rw[←hw]at FD;rw[←hw];have HC:Hid (qW C w g3 (RI,Rg) wr3):=⟨A,m,k,by rw[SY]at FD⊢;exact FD.o,by rw[SY];exact Hn.o,by rw[SY];exact Hr.o⟩;clear hw Ug Xb FB FD Hn Hr SY HUn;obtain⟨A,m,k,hF,hn,hr⟩:=HC.o;have FA:=cN hF;have Hn:=cN hn;have Hr:=cN hr;clear hF hn hr HC;unfold iM at FA;go_wp2_with fail
   with_reducible refine(eh ⟨#[99,104,101,99,107]⟩ [99,104,101,99,107] rfl FA.o).mono ?_
   rintro e YN ⟨b,hb,rfl,hF⟩;have FB:=cN hF;have Qg:=cN hb;clear hF hb FA;go_upto_if 31 with fail
   go_cut [] (fun wx=>Hid (qW C w g3 (I.kH C.text.size RI Rg) wx));case first=>
    cases b with
    |true=>
     obtain⟨Qh,hw⟩:∃x,x=YN:=⟨_,rfl⟩;subst hw;have P0:Hid (Fr C.g w _ _ (PS C (I.next Rg)) Qh):=FB.o;clear FB;go_wp2_with fail
     with_reducible refine(Fr.xO P0.o (kp C 138 #[.pointer (some ⟨C.g,0,none⟩)] #[] #[.pointer (some ⟨C.g,0,none⟩)] (fun w=>by simp[go_sem]) [] km (I.expr C.text.size) (I.next Rg).r.length (ig fun st w hp=>iq C st w hp) (I.next Rg) _ (by omega) (.inl (aa _)) P0.o.q (iH.none _))).mono ?_
     rintro e Sn ⟨h11,Vl,m11,c11,O1,s11,Tz,rfl,hF⟩;have X11:=cN Tz;have OE:=cN hF;clear hF Tz;have UF:=(OE.o.cQ.alloc (.cells #[.int .u8 (h11.o.toNat:Int),.int .u8 (h11.v.k.toNat:Int),.int .i64 h11.v.n,.string h11.v.s,.string h11.nm,.string h11.of,.int .i64 h11.n,.slice Vl m11 c11] 50)).cell 5;have Yt:=(OE.o.cQ.alloc (.cells #[.int .u8 (h11.o.toNat:Int),.int .u8 (h11.v.k.toNat:Int),.int .i64 h11.v.n,.string h11.v.s,.string h11.nm,.string h11.of,.int .i64 h11.n,.slice Vl m11 c11] 50)).frozen 5;have kl:=OE.o.cQ.lt;simp at UF;go_wp2_with fail
     go_meet;have e:I.kH C.text.size RI Rg=({RI with ck:=[O1]},s11):=by simp only[I.kH,Qg.o,bo,X11.o]
     rw[e];exact⟨_,1,1,(OE.o.sq (E:=NI) (cs:=[.int .u8 (h11.o.toNat:Int),.int .u8 (h11.v.k.toNat:Int),.int .i64 h11.v.n,.string h11.v.s,.string h11.nm,.string h11.of,.int .i64 h11.n,.slice Vl m11 c11]) 50 5 rfl).only (fun F hF=>by rw[List.mem_singleton.1 hF];exact ag),Hn.o,Hr.o⟩
    |false=>
     have FC:Hid (Fr C.g w _ _ (PS C Rg) YN):=FB.o;clear FB;go_wp2_with fail
     go_meet;have e:I.kH C.text.size RI Rg=(RI,Rg):=by simp only[I.kH,Qg.o,aO,bx]
     rw[e];exact⟨A,m,k,FC.o,Hn.o,Hr.o⟩
   case rest=>
    clear FB Hn Hr Qg;obtain⟨q4,hq⟩:∃q,q=I.kH C.text.size RI Rg:=⟨_,rfl⟩;obtain⟨Rh,RJ⟩:=q4;rw[←hq]at hcut;have Hq4:=cN hq;obtain⟨wr4,hw⟩:∃x,x=wc:=⟨_,rfl⟩;subst hw;have HC:=cN hcut.o;clear hq hcut;obtain⟨A,m,k,hF,hn,hr⟩:=HC.o;have FA:=cN hF;have Hn:=cN hn;have Hr:=cN hr;clear hF hn hr HC;unfold iM at FA;go_wp2_with fail
    with_reducible refine(eh ⟨#[114,101,102,101,114,101,110,99,101,115]⟩ [114,101,102,101,114,101,110,99,101,115] rfl FA.o).mono ?_
    rintro e YO ⟨b,hb,rfl,hF⟩;have FB:=cN hF;have Qg:=cN hb;clear hF hb FA;go_upto_if 39 with fail
    go_cut [] (fun wx=>Hid (qW C w g3 (I.lF C.text.size Rh RJ) wx));case first=>
     cases b with
     |true=>
      obtain⟨Qh,hw⟩:∃x,x=YO:=⟨_,rfl⟩;subst hw;have P0:Hid (Fr C.g w _ _ (PS C (I.next RJ)) Qh):=FB.o;clear FB;go_wp2_with fail
      with_reducible refine(fk P0.o).mono ?_
      rintro e Sn ⟨n12,s12,TD,TG,rfl,hF⟩;have N12:=cN TD;have Z12:=cN TG;have OE:=cN hF;clear hF TD TG;have Uh:=OE.o.cQ.cell 6;simp at Uh;have Xc:=OE.o.cQ.frozen 6;go_upto_region 15 with fail
      have Qi:=cN (OE.o.ew 6 (.string (I.bs n12)) (cs':=#[.string (I.bs Rh.nm),.int .u8 (Rh.k.toNat:Int),.bool Rh.pr,.bool Rh.nn,.bool Rh.un,.slice A m k,.string (I.bs n12),.int .u8 (Rh.ac.toNat:Int)]) rfl);obtain⟨YP,hw⟩:∃x,x=Sn.setCell ⟨g3,6,none⟩ (.string (I.bs n12)):=⟨_,rfl⟩;rw[←hw]at Qi;rw[←hw];clear hw Uh Xc;go_wp2_with fail
      with_reducible refine(Fr.ME Qi.o (zR C _ _ Qi.o.q)).mono ?_
      rintro e w103 ⟨a13,s13,YQ,rfl,hF⟩;have X13:=cN YQ;have Wc:=cN hF;clear hF YQ;have Ui:=Wc.o.cQ.cell 7;simp at Ui;have Xd:=Wc.o.cQ.frozen 7;go_wp2_with fail
      go_meet;have e:I.lF C.text.size Rh RJ=({Rh with rf:=n12,ac:=a13},s13):=by simp only[I.lF,Qg.o,bo,N12.o,X13.o]
      rw[e];exact⟨A,m,k,Wc.o.ew 7 (.int .u8 (a13.toNat:Int)) rfl,Hn.o,Z12.o⟩
     |false=>
      have FC:Hid (Fr C.g w _ _ (PS C RJ) YO):=FB.o;clear FB;go_wp2_with fail
      go_meet;have e:I.lF C.text.size Rh RJ=(Rh,RJ):=by simp only[I.lF,Qg.o,aO,bx]
      rw[e];exact⟨A,m,k,FC.o,Hn.o,Hr.o⟩
    case rest=>
     clear FB Hn Hr Qg;obtain⟨q5,hq⟩:∃q,q=I.lF C.text.size Rh RJ:=⟨_,rfl⟩;obtain⟨Th,ZT⟩:=q5;rw[←hq]at hcut;have Hq5:=cN hq;obtain⟨wr5,hw⟩:∃x,x=wc:=⟨_,rfl⟩;subst hw;have HC:=cN hcut.o;clear hq hcut;obtain⟨A,m,k,hF,hn,hr⟩:=HC.o;have FA:=cN hF;have Hn:=cN hn;have Hr:=cN hr;clear hF hn hr HC;unfold iM at FA;obtain⟨Ry,hw⟩:∃x,x=wr5:=⟨_,rfl⟩;subst hw;have Qv:Hid (Fr C.g w _ _ (PS C ZT) Ry):=FA.o;clear FA;obtain⟨Om,On,Oo,Ox,Oy,Oz,OA,OK⟩:=Qv.o.cQ.y8 0 1 2 3 4 5 6 7;simp at Om On Oo Ox Oy Oz OA OK;obtain⟨NU,NV,NW,NY,NZ,N0,N3,Og⟩:=Qv.o.cR.y8 0 1 2 3 4 5 6 7;simp at NU NV NW NY NZ N0 N3 Og;obtain⟨O6,Pa,Pb,Pm,Pn,Pp,Pq,PQ⟩:=Qv.o.cR.z8 0 1 2 3 4 5 6 7;go_wp2_with fail
     have FZ:=cN (Qv.o.fA (ez (Ch.refl _ _ _) (.inl rfl) _ _ _ _ _ _ _ _) (eO Qv.o.cR (.string (I.bs Th.nm)) (.int .u8 (Th.k.toNat:Int)) (.bool Th.pr) (.bool Th.nn) (.bool Th.un) (.slice A m k) (.string (I.bs Th.rf)) (.int .u8 (Th.ac.toNat:Int))));have HS:Hid (I.column C.text.size st=(Th,ZT)):=by show _=_;rw[I.Au,←YM.o];simp only;rw[←Hq1.o];simp only;rw[←ZR.o];simp only;rw[←Hq3.o];simp only;rw[←Hq4.o];simp only;rw[←Hq5.o]
     refine ae (av rfl _ _ w.heap.size 40 _ (0,0) _ rfl FZ.o.cR lR rfl lP) rfl ?_;rw[HS.o];exact FZ.o.done ⟨_,rfl,FZ.o.N6,Sz.of Hn.o,Sz.of Hr.o⟩
end
section
set_option maxRecDepth 100000
theorem j9:Tryz.prog.underlying 45=some (.struct (Tryz.prog.fieldsOf 45)):=by kernel_rfl
theorem jv:(Tryz.prog.info? 45).map (·.size)=some 7:=by kernel_rfl
def DD(q:I.NS)(v1 v2 v3 v4 v5:Value):Array Value:=#[.bool q.all,v1,v2,v3,v4,v5,.int .i64 q.lim]
def wT(C:RC)(w:World)(gq:Nat)(T:I.NS×I.St)(wx:World):Prop:=∃A1 m1 c1 A2 m2 c2 A3 m3 c3 A4 m4 c4 A5 m5 c5,Fr C.g w [(gq,45,DD T.1 (.slice A1 m1 c1) (.slice A2 m2 c2) (.slice A3 m3 c3) (.slice A4 m4 c4) (.slice A5 m5 c5)),(w.heap.size,45,#[.bool false,.slice none 0 0,.slice none 0 0,.slice none 0 0,.slice none 0 0,.slice none 0 0,.int .i64 0])] [It.rr fL (.slice A1 m1 c1) T.1.its,It.rr ft (.slice A2 m2 c2) T.1.fr,It.rr NI (.slice A3 m3 c3) T.1.wh,It.rr NI (.slice A4 m4 c4) T.1.gr,It.rr fY (.slice A5 m5 c5) T.1.od] (PS C T.2) wx∧ -9223372036854775808≤T.1.lim∧T.1.lim≤9223372036854775807
theorem I.DY(T:Nat)(st:I.St):0≤(I.fx T st).1∧(I.fx T st).1≤9223372036854775807:=by
 have h:=AP (I.QO st);unfold I.fx;split
 ·split
  ·exact h
  ·exact⟨Int.le_refl _,by show(0:Int)≤9223372036854775807;decide⟩
 ·exact⟨Int.le_refl _,by show(0:Int)≤9223372036854775807;decide⟩
theorem Ro.dH{α:Type}{E:El α}{w w':World}{lo:Nat}{v:Value}{xs:List α}(h:Ro E w lo v xs)(hc:∀b,lo≤b→b<w.heap.size→w'.heap[b]?=w.heap[b]?)(hs:w.heap.size≤w'.heap.size):Ro E w' lo v xs:=by
 obtain⟨css,h1,h2,h3⟩:=h;refine⟨css,h1,⟨h2.1,?_⟩,fun i cs x hi hx=>El.hp (h3 i cs x hi hx) (fun b hb=>⟨hb.1,aB hb.2.1 hs,hb.2.2⟩) fun b hb=>hc b hb.1 hb.2.1⟩;rcases h2.2 with e|⟨g,cap,cells,e1,e2,e3,e4⟩
 ·exact .inl e
 ·exact .inr ⟨g,cap,cells,e1,e2,(hc g e2 (h2.lt g (by rw[e1];rfl)).2).trans e3,e4⟩
theorem I.Dv{T f:Nat}{l:List I.Src}{st:I.St}(hf:st.r.length<f)(ha:I.dh [106,111,105,110] st=false):I.ek T f l st=(l,st,false):=by
 obtain⟨f,rfl⟩:∃k,f=k+1:=⟨f-1,by omega⟩;simp only[I.ek,ha,aO,bx]
theorem I.yu{T f:Nat}{l:List I.Src}{st:I.St}(hf:st.r.length<f)(ha:I.dh [106,111,105,110] st=true)(hl:16<l.length):I.ek T f l st=(l,I.fD T (I.next st),true):=by
 obtain⟨f,rfl⟩:∃k,f=k+1:=⟨f-1,by omega⟩;simp only[I.ek,ha,bo,if_pos hl]
theorem I.zy{T f:Nat}{l:List I.Src}{st s1 s2 s3:I.St}{s:I.Src}{e:Ev.Ex}(hf:st.r.length<f)(ha:I.dh [106,111,105,110] st=true)(hl:¬16<l.length)(h1:I.source T (I.next st)=(s,s1))(h2:I.expect T [[111,110]] s1=s2)(h3:I.expr T s2=(e,s3)):I.ek T f l st=I.ek T (f-1) (l++[{s with on:=[e]}]) s3:=by
 obtain⟨f,rfl⟩:∃k,f=k+1:=⟨f-1,by omega⟩;simp only[I.ek,ha,bo,if_neg hl,h1,h2,h3,Nat.add_sub_cancel]
theorem I.yy(T:Nat)(st:I.St):(I.source T st).2.r.length≤st.r.length:=by
 unfold I.source;have h1:=I.gC T st;revert h1;cases I.name T st with
 |mk e s=>
  intro h1;simp only at h1⊢;split
  ·exact aw (I.gC T _) (aw (I.dq s) h1)
  ·exact h1
theorem yS(C:RC)(gB:Nat)(hBg:gB≠C.g)(st:I.St)(w:World)(h:PS C st w)(hB:NA w gB 70 #[.pointer (some ⟨C.g,0,none⟩)]):
 Calls Tryz.prog 196 #[.pointer (some ⟨gB,0,none⟩)] w (kx eM C w (I.list C.text.size 12 (I.column C.text.size) st)):=by
 have HB:=cN hB;have hBl:=lt_of_block hB;clear hB;have F0:=cN (Fr.start h.lt h.eU);clear h;go_enter Tryz.func196,Tryz.ntmps196;have d0:=HB.o.cell 0;simp at d0;go_wp2_with fail
 with_reducible refine(Fr.mr F0.o (wP C 198 #[.pointer (some ⟨C.g,0,none⟩)] #[] #[.pointer (some ⟨C.g,0,none⟩)] (fun w=>by simp[go_sem]) [] km 12 12 rfl (by decide) (by decide) (I.column C.text.size) (I.G5 _) st.r.length (ig fun st w hp=>Ap C st w hp) st _ (aa _) F0.o.q (iH.none _))).mono ?_
 rintro e w1 ⟨v1,xs1,s1,hX1,rfl,hF⟩;have X1:=cN hX1;have F1:=cN hF;clear hF hX1;clear d0;have HS:Hid (I.list C.text.size 12 (I.column C.text.size) st=(xs1,s1)):=by show _=_;simp only[X1.o]
 go_wp2_with fail
 go_ret;rw[HS.o];exact F1.o.pZ
theorem CL(C:RC)(st:I.St)(w:World)(h:PS C st w):
 Calls Tryz.prog 125 #[.pointer (some ⟨C.g,0,none⟩)] w (EPost df C w (I.table C.text.size st)):=by
 have F0:=cN (Fr.start h.lt h.eU);clear h;go_enter Tryz.func125,Tryz.ntmps125;have F1:Hid (Fr C.g w [(w.heap.size+1,30,#[.int .u8 0,.string ⟨#[]⟩,.string ⟨#[]⟩,.string ⟨#[]⟩,.int .u8 0,.slice none 0 0,.slice none 0 0,.slice none 0 0,.slice none 0 0,.slice none 0 0,.slice none 0 0,.bool false,.string ⟨#[]⟩]),(w.heap.size,70,#[.pointer (some ⟨C.g,0,none⟩)])] [] (PS C st) ((w.alloc (.cells #[.pointer (some ⟨C.g,0,none⟩)] 70)).alloc (.cells #[.int .u8 0,.string ⟨#[]⟩,.string ⟨#[]⟩,.string ⟨#[]⟩,.int .u8 0,.slice none 0 0,.slice none 0 0,.slice none 0 0,.slice none 0 0,.slice none 0 0,.slice none 0 0,.bool false,.string ⟨#[]⟩] 30))):=by have h1:=((F0.o.new 70 #[.pointer (some ⟨C.g,0,none⟩)]).new 30 #[.int .u8 0,.string ⟨#[]⟩,.string ⟨#[]⟩,.string ⟨#[]⟩,.int .u8 0,.slice none 0 0,.slice none 0 0,.slice none 0 0,.slice none 0 0,.slice none 0 0,.slice none 0 0,.bool false,.string ⟨#[]⟩]);rw[dc]at h1;exact h1
 obtain⟨w1,hw⟩:∃x,x=(w.alloc (.cells #[.pointer (some ⟨C.g,0,none⟩)] 70)).alloc (.cells #[.int .u8 0,.string ⟨#[]⟩,.string ⟨#[]⟩,.string ⟨#[]⟩,.int .u8 0,.slice none 0 0,.slice none 0 0,.slice none 0 0,.slice none 0 0,.slice none 0 0,.slice none 0 0,.bool false,.string ⟨#[]⟩] 30):=⟨_,rfl⟩;go_upto_region 1 with fail
 rw[←hw]at F1;rw[←hw];clear hw;obtain⟨gX,Ph⟩:∃g,g=w.heap.size+1:=⟨_,rfl⟩;obtain⟨gB,hgB⟩:∃g,g=w.heap.size:=⟨_,rfl⟩;rw[←Ph,←hgB]at F1;rw[←Ph,←hgB];have hBg:gB≠C.g:=by have:=F1.o.lt;omega
 clear Ph hgB;skip;have d0:=F1.o.cR.cell 0;simp at d0;go_wp2_with fail
 with_reducible refine(fk F1.o).mono ?_
 rintro e w2 ⟨n2,s2,Qn,hZ2,rfl,hF⟩;have N2:=cN Qn;have Z2:=cN hZ2;have F2:=cN hF;clear hF Qn hZ2;clear d0;have d0:=F2.o.cR.cell 0;simp at d0;go_upto_region 2 with fail
 have F3:=cN (F2.o.new 30 #[.int .u8 1,.string (I.bs n2),.string ⟨#[]⟩,.string ⟨#[]⟩,.int .u8 0,.slice none 0 0,.slice none 0 0,.slice none 0 0,.slice none 0 0,.slice none 0 0,.slice none 0 0,.bool false,.string ⟨#[]⟩]);obtain⟨w3,hw⟩:∃x,x=w2.alloc (.cells #[.int .u8 1,.string (I.bs n2),.string ⟨#[]⟩,.string ⟨#[]⟩,.int .u8 0,.slice none 0 0,.slice none 0 0,.slice none 0 0,.slice none 0 0,.slice none 0 0,.slice none 0 0,.bool false,.string ⟨#[]⟩] 30):=⟨_,rfl⟩;obtain⟨g3,hg⟩:∃x,x=w2.heap.size:=⟨_,rfl⟩;rw[←hw,←hg]at F3;rw[←hw,←hg];clear hw hg;clear d0;have d0:=F3.o.dR.cell 0;simp at d0;have HB:=cN F3.o.dR;go_wp2_with fail
 with_reducible refine(Fr.mr F3.o (sr C 196 #[] #[.pointer (some ⟨gB,0,none⟩)] #[.pointer (some ⟨gB,0,none⟩)] (fun w=>by simp[go_sem]) [(gB,.cells #[.pointer (some ⟨C.g,0,none⟩)] 70 (0,0))] (uY hBg) (I.list C.text.size 12 (I.column C.text.size)) (fun st2 w2 hp hL=>yS C gB hBg st2 w2 hp (sW hL)) s2 _ F3.o.q (oP HB.o))).mono ?_
 rintro e w4 ⟨v4,xs4,s4,hX4,rfl,hF⟩;have X4:=cN hX4;have F4:=cN hF;clear hF hX4;obtain⟨A4,m4,c4,rfl⟩:=dj F4.o.N6;clear d0;have UF:=F4.o.cQ.cell 5;simp at UF;have Yt:=F4.o.cQ.frozen 5;go_upto_region 3 with fail
 have F5:=cN (F4.o.ew 5 (.slice A4 m4 c4) (cs':=#[.int .u8 1,.string (I.bs n2),.string ⟨#[]⟩,.string ⟨#[]⟩,.int .u8 0,.slice A4 m4 c4,.slice none 0 0,.slice none 0 0,.slice none 0 0,.slice none 0 0,.slice none 0 0,.bool false,.string ⟨#[]⟩]) rfl);obtain⟨w5,hw⟩:∃x,x=w4.setCell ⟨g3,5,none⟩ (.slice A4 m4 c4):=⟨_,rfl⟩;rw[←hw]at F5;rw[←hw];clear hw UF Yt;obtain⟨Om,On,Oo,Ox,Oy,Oz,OA,OK,OU,PI,Oc,Od,Oe⟩:=F5.o.cQ.y13 0 1 2 3 4 5 6 7 8 9 10 11 12;simp at Om On Oo Ox Oy Oz OA OK OU PI Oc Od Oe;obtain⟨NU,NV,NW,NY,NZ,N0,N3,Og,Ot,OP,NP,NQ,NR⟩:=F5.o.cR.y13 0 1 2 3 4 5 6 7 8 9 10 11 12;simp at NU NV NW NY NZ N0 N3 Og Ot OP NP NQ NR;obtain⟨O6,Pa,Pb,Pm,Pn,Pp,Pq,PQ,P9,QE,OQ,OR,OS⟩:=F5.o.cR.Qj 0 1 2 3 4 5 6 7 8 9 10 11 12;go_wp2_with fail
 have FZ:=cN (F5.o.fA (fZ (Ch.refl _ _ _) (.inl rfl) _ _ _ _ _ _ _ _ _ _ _ _ _) (fe F5.o.cR (.int .u8 1) (.string (I.bs n2)) (.string ⟨#[]⟩) (.string ⟨#[]⟩) (.int .u8 0) (.slice A4 m4 c4) (.slice none 0 0) (.slice none 0 0) (.slice none 0 0) (.slice none 0 0) (.slice none 0 0) (.bool false) (.string ⟨#[]⟩)));have HS:Hid (I.table C.text.size st=(({I.NC.of 1 with nm:=n2,NH:=xs4}:I.NC),s4)):=by show _=_;simp only[I.table,N2.o,X4.o]
 refine ae (av rfl _ _ gX 30 _ (0,0) _ rfl FZ.o.cR dd rfl cZ) rfl ?_;rw[HS.o];exact FZ.o.done (⟨_,_,_,_,_,_,rfl,FZ.o.N6,Rr.nil _ _ _,Rr.nil _ _ _,Rr.nil _ _ _,Rr.nil _ _ _,Rr.nil _ _ _,Sz.of Z2.o,Sz.of (ao _),Sz.of (ao _),Sz.of (ao _)⟩)
end
end Go.Proofs.YtnicfobpclehkaaGreatDoor
