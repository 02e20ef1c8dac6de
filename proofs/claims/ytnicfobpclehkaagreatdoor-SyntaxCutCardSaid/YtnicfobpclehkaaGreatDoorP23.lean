import Derived.Laws.StructEq
import Derived.Test.YtnicfobpclehkaaGreatDoorP22
set_option maxHeartbeats 40000000
set_option linter.unusedVariables false
set_option linter.unusedSimpArgs false
namespace Go.Proofs.YtnicfobpclehkaaGreatDoor
open Go.RowKit
section
set_option maxRecDepth 100000
theorem fP:Tryz.prog.underlying 30=some (.struct (Tryz.prog.fieldsOf 30)):=by kernel_rfl
theorem EN(g:Nat)(cs:List Value)(s:I.NC)(v:Value)(st:I.Wr)(w:World)(h0:Ps 4500 g v st w)(hx:df.R w (fun b=>b<g) cs s)(hsm:Py s):
 Calls Tryz.prog 40 #[.pointer (some ⟨g,0,none⟩),.agg cs.toArray] w (gm g w v (I.dO s st)):=by
 have F0:=cN (Fw.start h0.ws);have B1:Hid (I.Bd 4500 st):=cN h0.bd;have Ol:=cN h0.en;have HE:=cN hx;obtain⟨x1,x2,x3,x4,x5,x6,rfl,r1,r2,r3,r4,r5,r6,_,_,_,_⟩:=hx;obtain⟨A1,c1,rfl,_,_⟩:=r1.form;obtain⟨A2,c2,rfl,_,_⟩:=r2.form;obtain⟨A3,c3,rfl,_,_⟩:=r3.form;obtain⟨A4,c4,rfl,_,_⟩:=r4.form;obtain⟨A5,c5,rfl,_,_⟩:=r5.form;obtain⟨A6,c6,rfl,_,_⟩:=r6.form;have HR1:=cN r1;have HR2:=cN r2;have HR3:=cN r3;have HR4:=cN r4;have Q3:=cN r5;have Ob:=cN r6;have HM:=cN hsm;obtain⟨hnm,hon,hto,hkey,_,_,_,_,_⟩:=hsm;clear h0 r1 r2 r3 r4 r5 r6;have F1:Hid (Fw g w v [(w.heap.size+1,30,#[.int .u8 (s.k.toNat:Int),.string (I.bs s.nm),.string (I.bs s.on),.string (I.bs s.NG),.int .u8 (s.ev.toNat:Int),.slice A1 s.NH.length c1,.slice A2 s.q.length c2,.slice A3 s.vals.length c3,.slice A4 s.dD.length c4,.slice A5 s.wh.length c5,.slice A6 s.pv.length c6,.bool s.opt,.string (I.bs s.key)]),(w.heap.size,92,#[.pointer (some ⟨g,0,none⟩)])] st v ((w.alloc (.cells #[.pointer (some ⟨g,0,none⟩)] 92)).alloc (.cells #[.int .u8 (s.k.toNat:Int),.string (I.bs s.nm),.string (I.bs s.on),.string (I.bs s.NG),.int .u8 (s.ev.toNat:Int),.slice A1 s.NH.length c1,.slice A2 s.q.length c2,.slice A3 s.vals.length c3,.slice A4 s.dD.length c4,.slice A5 s.wh.length c5,.slice A6 s.pv.length c6,.bool s.opt,.string (I.bs s.key)] 30))):=by have h1:=(F0.o.new 92 #[.pointer (some ⟨g,0,none⟩)]).new 30 #[.int .u8 (s.k.toNat:Int),.string (I.bs s.nm),.string (I.bs s.on),.string (I.bs s.NG),.int .u8 (s.ev.toNat:Int),.slice A1 s.NH.length c1,.slice A2 s.q.length c2,.slice A3 s.vals.length c3,.slice A4 s.dD.length c4,.slice A5 s.wh.length c5,.slice A6 s.pv.length c6,.bool s.opt,.string (I.bs s.key)];simp only[dc]at h1;exact h1
 go_enter Tryz.func40,Tryz.ntmps40;go_upto_region 1 with fail
 obtain⟨w1,hw1⟩:∃W,W=(w.alloc (.cells #[.pointer (some ⟨g,0,none⟩)] 92)).alloc (.cells #[.int .u8 (s.k.toNat:Int),.string (I.bs s.nm),.string (I.bs s.on),.string (I.bs s.NG),.int .u8 (s.ev.toNat:Int),.slice A1 s.NH.length c1,.slice A2 s.q.length c2,.slice A3 s.vals.length c3,.slice A4 s.dD.length c4,.slice A5 s.wh.length c5,.slice A6 s.pv.length c6,.bool s.opt,.string (I.bs s.key)] 30):=⟨_,rfl⟩;rw[←hw1]at F1;rw[←hw1];obtain⟨gS,OO⟩:∃x,x=w.heap.size+1:=⟨_,rfl⟩;obtain⟨gB,hgB⟩:∃x,x=w.heap.size:=⟨_,rfl⟩;rw[←OO,←hgB]at F1;rw[←OO,←hgB];clear hw1 OO hgB F0;have cB:=F1.o.cR.cell 0;simp at cB;have q0:=F1.o.cQ.cell 0;simp at q0;have hd:(s.k.toNat=1∨s.k.toNat=3∨s.k.toNat=5∨s.k.toNat=7∨s.k.toNat=9)∨s.k.toNat=2∨s.k.toNat=4∨s.k.toNat=6∨s.k.toNat=8∨s.k.toNat=10∨s.k.toNat=11∨s.k.toNat=12∨s.k.toNat=13∨s.k.toNat=14∨s.k.toNat=15∨s.k.toNat=16∨s.k.toNat=17∨s.k.toNat=18∨s.k.toNat=19∨s.k.toNat=20∨(s.k.toNat=0∨20<s.k.toNat):=by omega
 rcases hd with h|h|h|h|h|h|h|h|h|h|h|h|h|h|h|h|h
 ·have hk9:=cN h;have HS:Hid (I.dO s st=I.eX s st):=by show _=_;unfold I.dO;rw[if_pos hk9.o]
  have ZQ:=F1;have hrg:=ZQ.o.cQ.range;have RX:=cN hrg;clear hrg;have IX:=cN (show(Tryz.prog.info? 30).map (·.size)=some ([.int .u8 (s.k.toNat:Int),.string (I.bs s.nm),.string (I.bs s.on),.string (I.bs s.NG),.int .u8 (s.ev.toNat:Int),.slice A1 s.NH.length c1,.slice A2 s.q.length c2,.slice A3 s.vals.length c3,.slice A4 s.dD.length c4,.slice A5 s.wh.length c5,.slice A6 s.pv.length c6,.bool s.opt,.string (I.bs s.key)]:List Value).length from by kernel_rfl);rcases h with h|h|h|h|h
  all_goals
   simp[h]at q0
   clear h
   go_wp2_with (refine wpList_load_mid rfl 30 (.tmp 3) rfl gS 0 rfl [.int .u8 (s.k.toNat:Int),.string (I.bs s.nm),.string (I.bs s.on),.string (I.bs s.NG),.int .u8 (s.ev.toNat:Int),.slice A1 s.NH.length c1,.slice A2 s.q.length c2,.slice A3 s.vals.length c3,.slice A4 s.dD.length c4,.slice A5 s.wh.length c5,.slice A6 s.pv.length c6,.bool s.opt,.string (I.bs s.key)] _ RX.o fP rfl IX.o ?_)
   with_reducible refine(ZQ.o.sub (xy g [.int .u8 (s.k.toNat:Int),.string (I.bs s.nm),.string (I.bs s.on),.string (I.bs s.NG),.int .u8 (s.ev.toNat:Int),.slice A1 s.NH.length c1,.slice A2 s.q.length c2,.slice A3 s.vals.length c3,.slice A4 s.dD.length c4,.slice A5 s.wh.length c5,.slice A6 s.pv.length c6,.bool s.opt,.string (I.bs s.key)] s _ _ _ (Ps.of ZQ.o B1.o Ol.o) (ZQ.o.el (E:=df) HE.o) HM.o hk9.o)).mono ?_
   rintro e w2 ⟨v2,rfl,hF⟩
   have F2:=cN hF
   clear hF
   go_wp2_with fail
   rw[HS.o]
   exact ae (v:=.tuple #[]) (aA rfl _ _ _) rfl F2.o.done
 ·simp[h]at q0;have PY:=cN h;clear h;have q1:=F1.o.cQ.cell 1;simp at q1;go_wp2_with fail
  with_reducible refine eK (M:=4503) (dL F1.o (n:=3) (cells:=#[.string ⟨#[100,114,111,112]⟩,.string ⟨#[116,97,98,108,101]⟩,.string (I.bs s.nm)]) [[100,114,111,112],[116,97,98,108,101],s.nm] rfl rfl (by decide) (by simp<;>omega) (by have:=B1.o.le;omega)) ?_ fun v2 s2 w2 E2 F2 B2=>?_
  ·exact I.Bd.mono (I.Bd.dM 3 B1.o (by rfl)) (by decide)
  clear cB;have cB:=F2.o.cR.cell 0;simp at cB;have HS:Hid (I.dO s st=s2):=by show _=_;have h:=PY.o;unfold I.dO;rw[if_neg (by omega),if_pos h,E2.o]
  go_wp2_with fail
  rw[HS.o];exact ae (v:=.tuple #[]) (aA rfl _ _ _) rfl F2.o.done
 ·simp[h]at q0;have PY:=cN h;clear h;have q1:=F1.o.cQ.cell 1;simp at q1;go_wp2_with fail
  with_reducible refine eK (M:=4503) (dL F1.o (n:=3) (cells:=#[.string ⟨#[100,114,111,112]⟩,.string ⟨#[118,105,101,119]⟩,.string (I.bs s.nm)]) [[100,114,111,112],[118,105,101,119],s.nm] rfl rfl (by decide) (by simp<;>omega) (by have:=B1.o.le;omega)) ?_ fun v2 s2 w2 E2 F2 B2=>?_
  ·exact I.Bd.mono (I.Bd.dM 3 B1.o (by rfl)) (by decide)
  clear cB;have cB:=F2.o.cR.cell 0;simp at cB;have HS:Hid (I.dO s st=s2):=by show _=_;have h:=PY.o;unfold I.dO;rw[if_neg (by omega),if_neg (by omega),if_pos h,E2.o]
  go_wp2_with fail
  rw[HS.o];exact ae (v:=.tuple #[]) (aA rfl _ _ _) rfl F2.o.done
 ·simp[h]at q0;have PY:=cN h;clear h;have q1:=F1.o.cQ.cell 1;simp at q1;go_wp2_with fail
  with_reducible refine eK (M:=4503) (dL F1.o (n:=3) (cells:=#[.string ⟨#[100,114,111,112]⟩,.string ⟨#[116,114,105,103,103,101,114]⟩,.string (I.bs s.nm)]) [[100,114,111,112],[116,114,105,103,103,101,114],s.nm] rfl rfl (by decide) (by simp<;>omega) (by have:=B1.o.le;omega)) ?_ fun v2 s2 w2 E2 F2 B2=>?_
  ·exact I.Bd.mono (I.Bd.dM 3 B1.o (by rfl)) (by decide)
  clear cB;have cB:=F2.o.cR.cell 0;simp at cB;have HS:Hid (I.dO s st=s2):=by show _=_;have h:=PY.o;unfold I.dO;rw[if_neg (by omega),if_neg (by omega),if_neg (by omega),if_pos h,E2.o]
  go_wp2_with fail
  rw[HS.o];exact ae (v:=.tuple #[]) (aA rfl _ _ _) rfl F2.o.done
 ·simp[h]at q0;have PY:=cN h;clear h;have q1:=F1.o.cQ.cell 1;simp at q1;go_wp2_with fail
  with_reducible refine eK (M:=4503) (dL F1.o (n:=3) (cells:=#[.string ⟨#[100,114,111,112]⟩,.string ⟨#[112,111,108,105,99,121]⟩,.string (I.bs s.nm)]) [[100,114,111,112],[112,111,108,105,99,121],s.nm] rfl rfl (by decide) (by simp<;>omega) (by have:=B1.o.le;omega)) ?_ fun v2 s2 w2 E2 F2 B2=>?_
  ·exact I.Bd.mono (I.Bd.dM 3 B1.o (by rfl)) (by decide)
  clear cB;have cB:=F2.o.cR.cell 0;simp at cB;have HS:Hid (I.dO s st=s2):=by show _=_;have h:=PY.o;unfold I.dO;rw[if_neg (by omega),if_neg (by omega),if_neg (by omega),if_neg (by omega),if_pos h,E2.o]
  go_wp2_with fail
  rw[HS.o];exact ae (v:=.tuple #[]) (aA rfl _ _ _) rfl F2.o.done
 ·simp[h]at q0;have PY:=cN h;clear h;have q1:=F1.o.cQ.cell 1;simp at q1;have q2:=F1.o.cQ.cell 2;simp at q2;go_wp2_with fail
  with_reducible refine eK (M:=4504) (dL F1.o (n:=4) (cells:=#[.string ⟨#[103,114,97,110,116]⟩,.string (I.bs s.nm),.string ⟨#[116,111]⟩,.string (I.bs s.on)]) [[103,114,97,110,116],s.nm,[116,111],s.on] rfl rfl (by decide) (by simp<;>omega) (by have:=B1.o.le;omega)) ?_ fun v2 s2 w2 E2 F2 B2=>?_
  ·exact I.Bd.mono (I.Bd.dM 4 B1.o (by rfl)) (by decide)
  clear cB;have cB:=F2.o.cR.cell 0;simp at cB;have HS:Hid (I.dO s st=s2):=by show _=_;have h:=PY.o;unfold I.dO;rw[if_neg (by omega),if_neg (by omega),if_neg (by omega),if_neg (by omega),if_neg (by omega),if_pos h,E2.o]
  go_wp2_with fail
  rw[HS.o];exact ae (v:=.tuple #[]) (aA rfl _ _ _) rfl F2.o.done
 ·simp[h]at q0;have PY:=cN h;clear h;have q1:=F1.o.cQ.cell 1;simp at q1;have q2:=F1.o.cQ.cell 2;simp at q2;go_wp2_with fail
  with_reducible refine eK (M:=4504) (dL F1.o (n:=4) (cells:=#[.string ⟨#[114,101,118,111,107,101]⟩,.string (I.bs s.nm),.string ⟨#[102,114,111,109]⟩,.string (I.bs s.on)]) [[114,101,118,111,107,101],s.nm,[102,114,111,109],s.on] rfl rfl (by decide) (by simp<;>omega) (by have:=B1.o.le;omega)) ?_ fun v2 s2 w2 E2 F2 B2=>?_
  ·exact I.Bd.mono (I.Bd.dM 4 B1.o (by rfl)) (by decide)
  clear cB;have cB:=F2.o.cR.cell 0;simp at cB;have HS:Hid (I.dO s st=s2):=by show _=_;have h:=PY.o;unfold I.dO;rw[if_neg (by omega),if_neg (by omega),if_neg (by omega),if_neg (by omega),if_neg (by omega),if_neg (by omega),if_pos h,E2.o]
  go_wp2_with fail
  rw[HS.o];exact ae (v:=.tuple #[]) (aA rfl _ _ _) rfl F2.o.done
 ·simp[h]at q0;have PY:=cN h;clear h;go_wp2_with fail
  with_reducible refine eK (M:=4501) (dL F1.o (n:=1) (cells:=#[.string ⟨#[103,114,97,110,116]⟩]) [[103,114,97,110,116]] rfl rfl (by decide) (by simp<;>omega) (by have:=B1.o.le;omega)) ?_ fun v2 s2 w2 E2 F2 B2=>?_
  ·exact I.Bd.mono (I.Bd.dM 1 B1.o (by rfl)) (by decide)
  clear cB;have cB:=F2.o.cR.cell 0;simp at cB;have Tf:=F2.o.cQ.cell 10;simp at Tf;go_wp2_with fail
  with_reducible refine kB (M:=4520) F2.o (qZ g _ _ s.pv _ _ (Ps.of F2.o B2.o Ol.o) (F2.o.rr Ob.o)) ?_ fun v3 s3 w3 E3 F3 B3=>?_
  ·exact(B2.o.fi s.pv).mono (by decide)
  clear cB;have cB:=F3.o.cR.cell 0;simp at cB;have q1:=F3.o.cQ.cell 1;simp at q1;have q2:=F3.o.cQ.cell 2;simp at q2;go_wp2_with fail
  with_reducible refine eK (M:=4524) (dL F3.o (n:=4) (cells:=#[.string ⟨#[111,110]⟩,.string (I.bs s.nm),.string ⟨#[116,111]⟩,.string (I.bs s.on)]) [[111,110],s.nm,[116,111],s.on] rfl rfl (by decide) (by simp<;>omega) (by have:=B3.o.le;omega)) ?_ fun v4 s4 w4 E4 F4 B4=>?_
  ·exact I.Bd.mono (I.Bd.dM 4 B3.o (by rfl)) (by decide)
  clear cB;have cB:=F4.o.cR.cell 0;simp at cB;have q11:=F4.o.cQ.cell 11;simp at q11;go_wp2_with fail
  with_reducible refine eK (M:=4527) (dS F4.o s.opt (n:=3) (cells:=#[.string ⟨#[119,105,116,104]⟩,.string ⟨#[103,114,97,110,116]⟩,.string ⟨#[111,112,116,105,111,110]⟩]) [[119,105,116,104],[103,114,97,110,116],[111,112,116,105,111,110]] rfl rfl (by decide) (by simp<;>omega) (by have:=B4.o.le;omega)) ?_ fun v5 s5 w5 E5 F5 B5=>?_
  ·exact I.Bd.mono (I.Bd.fQ 3 B4.o (by rfl)) (by decide)
  clear cB;have cB:=F5.o.cR.cell 0;simp at cB;have HS:Hid (I.dO s st=s5):=by show _=_;have h:=PY.o;unfold I.dO;rw[if_neg (by omega),if_neg (by omega),if_neg (by omega),if_neg (by omega),if_neg (by omega),if_neg (by omega),if_neg (by omega),if_pos h,E2.o,E3.o,E4.o,E5.o]
  go_wp2_with fail
  rw[HS.o];exact ae (v:=.tuple #[]) (aA rfl _ _ _) rfl F5.o.done
 ·simp[h]at q0;have PY:=cN h;clear h;go_wp2_with fail
  with_reducible refine eK (M:=4501) (dL F1.o (n:=1) (cells:=#[.string ⟨#[114,101,118,111,107,101]⟩]) [[114,101,118,111,107,101]] rfl rfl (by decide) (by simp<;>omega) (by have:=B1.o.le;omega)) ?_ fun v2 s2 w2 E2 F2 B2=>?_
  ·exact I.Bd.mono (I.Bd.dM 1 B1.o (by rfl)) (by decide)
  clear cB;have cB:=F2.o.cR.cell 0;simp at cB;have Tf:=F2.o.cQ.cell 10;simp at Tf;go_wp2_with fail
  with_reducible refine kB (M:=4520) F2.o (qZ g _ _ s.pv _ _ (Ps.of F2.o B2.o Ol.o) (F2.o.rr Ob.o)) ?_ fun v3 s3 w3 E3 F3 B3=>?_
  ·exact(B2.o.fi s.pv).mono (by decide)
  clear cB;have cB:=F3.o.cR.cell 0;simp at cB;have q1:=F3.o.cQ.cell 1;simp at q1;have q2:=F3.o.cQ.cell 2;simp at q2;go_wp2_with fail
  with_reducible refine eK (M:=4524) (dL F3.o (n:=4) (cells:=#[.string ⟨#[111,110]⟩,.string (I.bs s.nm),.string ⟨#[102,114,111,109]⟩,.string (I.bs s.on)]) [[111,110],s.nm,[102,114,111,109],s.on] rfl rfl (by decide) (by simp<;>omega) (by have:=B3.o.le;omega)) ?_ fun v4 s4 w4 E4 F4 B4=>?_
  ·exact I.Bd.mono (I.Bd.dM 4 B3.o (by rfl)) (by decide)
  clear cB;have cB:=F4.o.cR.cell 0;simp at cB;have HS:Hid (I.dO s st=s4):=by show _=_;have h:=PY.o;unfold I.dO;rw[if_neg (by omega),if_neg (by omega),if_neg (by omega),if_neg (by omega),if_neg (by omega),if_neg (by omega),if_neg (by omega),if_neg (by omega),if_pos h,E2.o,E3.o,E4.o]
  go_wp2_with fail
  rw[HS.o];exact ae (v:=.tuple #[]) (aA rfl _ _ _) rfl F4.o.done
 ·simp[h]at q0;have PY:=cN h;clear h;have q1:=F1.o.cQ.cell 1;simp at q1;go_wp2_with fail
  with_reducible refine eK (M:=4504) (dL F1.o (n:=4) (cells:=#[.string ⟨#[105,110,115,101,114,116]⟩,.string ⟨#[105,110,116,111]⟩,.string (I.bs s.nm),.string ⟨#[118,97,108,117,101,115]⟩]) [[105,110,115,101,114,116],[105,110,116,111],s.nm,[118,97,108,117,101,115]] rfl rfl (by decide) (by simp<;>omega) (by have:=B1.o.le;omega)) ?_ fun v2 s2 w2 E2 F2 B2=>?_
  ·exact I.Bd.mono (I.Bd.dM 4 B1.o (by rfl)) (by decide)
  clear cB;have cB:=F2.o.cR.cell 0;simp at cB;have q7:=F2.o.cQ.cell 7;simp at q7;go_wp2_with fail
  with_reducible refine kB (M:=4520) F2.o (uN g _ _ s.vals _ _ (Ps.of F2.o B2.o Ol.o) (F2.o.rr HR3.o) HM.o.vals) ?_ fun v3 s3 w3 E3 F3 B3=>?_
  ·exact(I.Bd.each (fun y _ _ hs=>(hs.row y).mono (by decide)) B2.o:I.Bd (max _ 4242) _).mono (by decide)
  clear cB;have cB:=F3.o.cR.cell 0;simp at cB;have HS:Hid (I.dO s st=s3):=by show _=_;have h:=PY.o;unfold I.dO;rw[if_neg (by omega),if_neg (by omega),if_neg (by omega),if_neg (by omega),if_neg (by omega),if_neg (by omega),if_neg (by omega),if_neg (by omega),if_neg (by omega),if_pos h,E2.o,E3.o]
  go_wp2_with fail
  rw[HS.o];exact ae (v:=.tuple #[]) (aA rfl _ _ _) rfl F3.o.done
 ·simp[h]at q0;have PY:=cN h;clear h;have q1:=F1.o.cQ.cell 1;simp at q1;go_wp2_with fail
  with_reducible refine eK (M:=4503) (dL F1.o (n:=3) (cells:=#[.string ⟨#[117,112,100,97,116,101]⟩,.string (I.bs s.nm),.string ⟨#[115,101,116]⟩]) [[117,112,100,97,116,101],s.nm,[115,101,116]] rfl rfl (by decide) (by simp<;>omega) (by have:=B1.o.le;omega)) ?_ fun v2 s2 w2 E2 F2 B2=>?_
  ·exact I.Bd.mono (I.Bd.dM 3 B1.o (by rfl)) (by decide)
  clear cB;have cB:=F2.o.cR.cell 0;simp at cB;have q8:=F2.o.cQ.cell 8;simp at q8;go_wp2_with fail
  with_reducible refine kB (M:=4520) F2.o (sB g _ _ s.dD _ _ (Ps.of F2.o B2.o Ol.o) (F2.o.rr HR4.o) HM.o.dD gB F2.o.cR F2.o.o1) ?_ fun v3 s3 w3 E3 F3 B3=>?_
  ·exact(I.Bd.each (fun y _ _ hs=>(hs.set y).mono (by decide)) B2.o:I.Bd (max _ 4300) _).mono (by decide)
  clear cB;have cB:=F3.o.cR.cell 0;simp at cB;have q9:=F3.o.cQ.cell 9;simp at q9;go_wp2_with fail
  with_reducible refine eK (M:=4600) (oz F3.o (B3.o.mono (by decide)) Ol.o s.wh Q3.o HM.o.wh (n:=1) (cells:=#[.string ⟨#[119,104,101,114,101]⟩]) [[119,104,101,114,101]] rfl rfl (by decide) (by simp<;>omega)) ?_ fun v4 s4 w4 E4 F4 B4=>?_
  ·exact(I.Bd.lC 1 B3.o (by rfl)).mono (by decide)
  clear cB;have cB:=F4.o.cR.cell 0;simp at cB;have HS:Hid (I.dO s st=s4):=by show _=_;have h:=PY.o;unfold I.dO;rw[if_neg (by omega),if_neg (by omega),if_neg (by omega),if_neg (by omega),if_neg (by omega),if_neg (by omega),if_neg (by omega),if_neg (by omega),if_neg (by omega),if_neg (by omega),if_pos h,E2.o,E3.o,E4.o]
  go_wp2_with fail
  rw[HS.o];exact ae (v:=.tuple #[]) (aA rfl _ _ _) rfl F4.o.done
 ·simp[h]at q0;have PY:=cN h;clear h;have q1:=F1.o.cQ.cell 1;simp at q1;go_wp2_with fail
  with_reducible refine eK (M:=4503) (dL F1.o (n:=3) (cells:=#[.string ⟨#[100,101,108,101,116,101]⟩,.string ⟨#[102,114,111,109]⟩,.string (I.bs s.nm)]) [[100,101,108,101,116,101],[102,114,111,109],s.nm] rfl rfl (by decide) (by simp<;>omega) (by have:=B1.o.le;omega)) ?_ fun v2 s2 w2 E2 F2 B2=>?_
  ·exact I.Bd.mono (I.Bd.dM 3 B1.o (by rfl)) (by decide)
  clear cB;have cB:=F2.o.cR.cell 0;simp at cB;have q9:=F2.o.cQ.cell 9;simp at q9;go_wp2_with fail
  with_reducible refine eK (M:=4600) (oz F2.o (B2.o.mono (by decide)) Ol.o s.wh Q3.o HM.o.wh (n:=1) (cells:=#[.string ⟨#[119,104,101,114,101]⟩]) [[119,104,101,114,101]] rfl rfl (by decide) (by simp<;>omega)) ?_ fun v3 s3 w3 E3 F3 B3=>?_
  ·exact(I.Bd.lC 1 B2.o (by rfl)).mono (by decide)
  clear cB;have cB:=F3.o.cR.cell 0;simp at cB;have HS:Hid (I.dO s st=s3):=by show _=_;have h:=PY.o;unfold I.dO;rw[if_neg (by omega),if_neg (by omega),if_neg (by omega),if_neg (by omega),if_neg (by omega),if_neg (by omega),if_neg (by omega),if_neg (by omega),if_neg (by omega),if_neg (by omega),if_neg (by omega),if_pos h,E2.o,E3.o]
  go_wp2_with fail
  rw[HS.o];exact ae (v:=.tuple #[]) (aA rfl _ _ _) rfl F3.o.done
 ·simp[h]at q0;have PY:=cN h;clear h;have q6:=F1.o.cQ.cell 6;simp at q6;go_wp2_with fail
  with_reducible refine kB (M:=4600) F1.o (qD g _ _ s.q _ _ (Ps.of F1.o B1.o Ol.o) (F1.o.rr HR2.o) HM.o.q) ?_ fun v2 s2 w2 E2 F2 B2=>?_
  ·exact(B1.o.ff s.q).mono (by decide)
  clear cB;have cB:=F2.o.cR.cell 0;simp at cB;have HS:Hid (I.dO s st=s2):=by show _=_;have h:=PY.o;unfold I.dO;rw[if_neg (by omega),if_neg (by omega),if_neg (by omega),if_neg (by omega),if_neg (by omega),if_neg (by omega),if_neg (by omega),if_neg (by omega),if_neg (by omega),if_neg (by omega),if_neg (by omega),if_neg (by omega),if_pos h,E2.o]
  go_wp2_with fail
  rw[HS.o];exact ae (v:=.tuple #[]) (aA rfl _ _ _) rfl F2.o.done
 ·simp[h]at q0;have PY:=cN h;clear h;go_wp2_with fail
  with_reducible refine eK (M:=4501) (dL F1.o (n:=1) (cells:=#[.string ⟨#[98,101,103,105,110]⟩]) [[98,101,103,105,110]] rfl rfl (by decide) (by simp<;>omega) (by have:=B1.o.le;omega)) ?_ fun v2 s2 w2 E2 F2 B2=>?_
  ·exact I.Bd.mono (I.Bd.dM 1 B1.o (by rfl)) (by decide)
  clear cB;have cB:=F2.o.cR.cell 0;simp at cB;have HS:Hid (I.dO s st=s2):=by show _=_;have h:=PY.o;unfold I.dO;rw[if_neg (by omega),if_neg (by omega),if_neg (by omega),if_neg (by omega),if_neg (by omega),if_neg (by omega),if_neg (by omega),if_neg (by omega),if_neg (by omega),if_neg (by omega),if_neg (by omega),if_neg (by omega),if_neg (by omega),if_pos h,E2.o]
  go_wp2_with fail
  rw[HS.o];exact ae (v:=.tuple #[]) (aA rfl _ _ _) rfl F2.o.done
 ·simp[h]at q0;have PY:=cN h;clear h;go_wp2_with fail
  with_reducible refine eK (M:=4501) (dL F1.o (n:=1) (cells:=#[.string ⟨#[99,111,109,109,105,116]⟩]) [[99,111,109,109,105,116]] rfl rfl (by decide) (by simp<;>omega) (by have:=B1.o.le;omega)) ?_ fun v2 s2 w2 E2 F2 B2=>?_
  ·exact I.Bd.mono (I.Bd.dM 1 B1.o (by rfl)) (by decide)
  clear cB;have cB:=F2.o.cR.cell 0;simp at cB;have HS:Hid (I.dO s st=s2):=by show _=_;have h:=PY.o;unfold I.dO;rw[if_neg (by omega),if_neg (by omega),if_neg (by omega),if_neg (by omega),if_neg (by omega),if_neg (by omega),if_neg (by omega),if_neg (by omega),if_neg (by omega),if_neg (by omega),if_neg (by omega),if_neg (by omega),if_neg (by omega),if_neg (by omega),if_pos h,E2.o]
  go_wp2_with fail
  rw[HS.o];exact ae (v:=.tuple #[]) (aA rfl _ _ _) rfl F2.o.done
 ·simp[h]at q0;have PY:=cN h;clear h;go_wp2_with fail
  with_reducible refine eK (M:=4501) (dL F1.o (n:=1) (cells:=#[.string ⟨#[114,111,108,108,98,97,99,107]⟩]) [[114,111,108,108,98,97,99,107]] rfl rfl (by decide) (by simp<;>omega) (by have:=B1.o.le;omega)) ?_ fun v2 s2 w2 E2 F2 B2=>?_
  ·exact I.Bd.mono (I.Bd.dM 1 B1.o (by rfl)) (by decide)
  clear cB;have cB:=F2.o.cR.cell 0;simp at cB;have HS:Hid (I.dO s st=s2):=by show _=_;have h:=PY.o;unfold I.dO;rw[if_neg (by omega),if_neg (by omega),if_neg (by omega),if_neg (by omega),if_neg (by omega),if_neg (by omega),if_neg (by omega),if_neg (by omega),if_neg (by omega),if_neg (by omega),if_neg (by omega),if_neg (by omega),if_neg (by omega),if_neg (by omega),if_neg (by omega),if_pos h,E2.o]
  go_wp2_with fail
  rw[HS.o];exact ae (v:=.tuple #[]) (aA rfl _ _ _) rfl F2.o.done
 ·have t1:=cO s.k 1 (by omega);have t3:=cO s.k 3 (by omega);have t5:=cO s.k 5 (by omega);have t7:=cO s.k 7 (by omega);have t9:=cO s.k 9 (by omega);have t2:=cO s.k 2 (by omega);have t4:=cO s.k 4 (by omega);have t6:=cO s.k 6 (by omega);have t8:=cO s.k 8 (by omega);have t10:=cO s.k 10 (by omega);have t11:=cO s.k 11 (by omega);have t12:=cO s.k 12 (by omega);have t13:=cO s.k 13 (by omega);have t14:=cO s.k 14 (by omega);have t15:=cO s.k 15 (by omega);have t16:=cO s.k 16 (by omega);have t17:=cO s.k 17 (by omega);have t18:=cO s.k 18 (by omega);have t19:=cO s.k 19 (by omega);have t20:=cO s.k 20 (by omega);have PY:=cN h;clear h;go_wp2_with fail
  with_reducible refine eK (M:=4500) (gw F1.o true) ?_ fun v2 s2 w2 E2 F2 B2=>?_
  ·exact I.Bd.dx B1.o _
  clear cB;have cB:=F2.o.cR.cell 0;simp at cB;have HS:Hid (I.dO s st=s2):=by show _=_;have h:=PY.o;unfold I.dO;rw[if_neg (by omega),if_neg (by omega),if_neg (by omega),if_neg (by omega),if_neg (by omega),if_neg (by omega),if_neg (by omega),if_neg (by omega),if_neg (by omega),if_neg (by omega),if_neg (by omega),if_neg (by omega),if_neg (by omega),if_neg (by omega),if_neg (by omega),if_neg (by omega),E2.o]
  go_wp2_with fail
  rw[HS.o];exact ae (v:=.tuple #[]) (aA rfl _ _ _) rfl F2.o.done
end
theorem Gl:Tryz.prog.eqGuardType Tryz.prog.depth 48=false:=by kernel_rfl
theorem Ln:Tryz.prog.stoodInHeld 48=false:=by kernel_rfl
theorem Ic:Tryz.prog.underlying 48=some (.struct (Tryz.prog.fieldsOf 48)):=by kernel_rfl
theorem Fq:(Tryz.prog.fieldsOf 48).toList.map (fun f=>(f.name,f.type,f.offset))=[("Kind",37,0),("N",2,1),("S",9,2)]:=by kernel_rfl
theorem LL{α:Type}{l:List α}{β:Type}{f:α→β}{a b c:β}(h:l.map f=[a,b,c]):∃x y z,l=[x,y,z]∧f x=a∧f y=b∧f z=c:=by
 match l,h with
 |[x,y,z],h=>simp at h;exact⟨x,y,z,rfl,h.1,h.2.1,h.2.2⟩
def zi(v v':Cell.Val):Bool:=((v.k.toNat:Int)==(v'.k.toNat:Int))&&((v.n==v'.n)&&(v.s.toList==v'.s.toList))
theorem sl(v v':Cell.Val):zi v v'=true↔v=v':=by
 unfold zi;simp only[aN,aV,ByteArray.toList_eq];constructor
 ·rintro⟨h1,h2,h3⟩;exact Cell.Val.ext' (aF.1 (by omega)) h2 h3
 ·rintro rfl;exact⟨rfl,rfl,rfl⟩
theorem LW(w:World)(v v':Cell.Val):(Op.equalIn 10000 48 (.agg #[.int .u8 (v.k.toNat:Int),.int .i64 v.n,.string v.s]) (.agg #[.int .u8 (v'.k.toNat:Int),.int .i64 v'.n,.string v'.s])).run Tryz.prog w=.ok (zi v v') w:=by
 rw[run_equalIn_agg w 9999 48 _ _ Ic Ln];obtain⟨x,y,z,hl,hx,hy,hz⟩:=LL Fq;rw[hl];obtain⟨xn,xt,xo⟩:=x;obtain⟨yn,yt,yo⟩:=y;obtain⟨zn,zt,zo⟩:=z;simp only[aT]at hx hy hz;obtain⟨rfl,rfl,rfl⟩:=hx;obtain⟨rfl,rfl,rfl⟩:=hy;obtain⟨rfl,rfl,rfl⟩:=hz;unfold zi;have p34:∀(cs:Array Value) (off:Nat) (u:Value),cs[off]?=some u→(part 37 cs off).run Tryz.prog w=.ok u w:=fun cs off u h=>by
  simp only[part,Sem.run_bind,isAgg,run_underlying Tryz.underlying37,Result.andThen_ok,Sem.run_pure]
  simp[h]
 have p2:∀(cs:Array Value) (off:Nat) (u:Value),cs[off]?=some u→(part 2 cs off).run Tryz.prog w=.ok u w:=fun cs off u h=>by
  simp only[part,Sem.run_bind,isAgg,run_underlying Tryz.underlying2,Result.andThen_ok,Sem.run_pure]
  simp[h]
 have p9:∀(cs:Array Value) (off:Nat) (u:Value),cs[off]?=some u→(part 9 cs off).run Tryz.prog w=.ok u w:=fun cs off u h=>by
  simp only[part,Sem.run_bind,isAgg,run_underlying Tryz.underlying9,Result.andThen_ok,Sem.run_pure]
  simp[h]
 simp only[Op.eqFields,Sem.run_bind,Sem.run_ite];rw[if_pos (by decide),p34 _ 0 (.int .u8 (v.k.toNat:Int)) rfl,Result.andThen_ok,p34 _ 0 (.int .u8 (v'.k.toNat:Int)) rfl,Result.andThen_ok,run_equalIn_int w 9998 37 .u8 .u8 _ _ Tryz.underlying37,Result.andThen_ok];cases ((v.k.toNat:Int)==(v'.k.toNat:Int))
 ·rfl
 rw[if_neg (by decide),if_pos (by decide),p2 _ 1 (.int .i64 v.n) rfl,Result.andThen_ok,p2 _ 1 (.int .i64 v'.n) rfl,Result.andThen_ok,run_equalIn_int w 9998 2 .i64 .i64 _ _ Tryz.underlying2,Result.andThen_ok];cases (v.n==v'.n)
 ·rfl
 rw[if_neg (by decide),if_pos (by decide),p9 _ 2 (.string v.s) rfl,Result.andThen_ok,p9 _ 2 (.string v'.s) rfl,Result.andThen_ok,run_equalIn_string w 9998 9 _ _ Tryz.underlying9,Result.andThen_ok];cases (v.s.toList==v'.s.toList)<;>rfl
theorem Ls(w:World)(v v':Cell.Val):(binOp .eql 48 (.agg #[.int .u8 (v.k.toNat:Int),.int .i64 v.n,.string v.s]) (.agg #[.int .u8 (v'.k.toNat:Int),.int .i64 v'.n,.string v'.s])).run Tryz.prog w=.ok (.bool (zi v v')) w:=by
 rw[run_eql_struct,LW,Result.andThen_ok]
theorem Eb(w:World)(op:BinOp)(x y:Operand)(xs ys:Array Value):(eqGuard op 48 x y (.agg xs) (.agg ys)).run Tryz.prog w=.ok () w:=run_eqGuard_agg w op _ x y xs ys Gl
end Go.Proofs.YtnicfobpclehkaaGreatDoor
