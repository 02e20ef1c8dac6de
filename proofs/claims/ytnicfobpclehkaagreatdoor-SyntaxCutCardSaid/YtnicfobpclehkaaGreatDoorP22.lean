import Derived.Test.YtnicfobpclehkaaGreatDoorP21
set_option maxHeartbeats 3200000
set_option linter.unusedVariables false
set_option linter.unusedSimpArgs false
namespace Go.Proofs.YtnicfobpclehkaaGreatDoor
open Go.RowKit
section
set_option maxRecDepth 100000
namespace I
theorem Bn(st:Wr):dx false st=st:=by
 obtain⟨p,n,b⟩:=st;unfold dx;rw[Bool.or_false]
theorem yX{t:Wr→Wr}{l:List Src}{k:Nat}{x:Src}(h:l[k]?=some x)(c:Bool)(w:Wr):jg t c (l.drop k) w=if w.b=true then w else jg t true (l.drop (k+1)) (jJ x (option c [[106,111,105,110]] w)):=by
 obtain⟨hk,e⟩:=ay.1 h;rw[aY hk,e,jg]
end I
structure SH (q:I.NS):Prop where
 its:∀i∈q.its,OJ i.x∧i.nm.length≤140737488355328
 fr:∀s∈q.fr,(∀y∈s.on,OJ y)∧s.nm.length≤140737488355328∧s.al.length≤140737488355328
 wh:∀y∈q.wh,OJ y
 gr:∀y∈q.gr,OJ y
 od:∀i∈q.od,OJ i.x
theorem Fw.Nh{g:Nat}{w0 w:World}{v0 v:Value}{own:eP}{p:Nat×TypeId×Array Value}{st:I.Wr}(F:Fw g w0 v0 (p::own) st v w):Fw g w0 v0 own st v w:=⟨F.lt,F.ws,F.ch,F.bk,fun q hq=>F.own q (au _ hq),F.ob⟩
theorem Fi(n:Int)(h0: -9223372036854775808≤n)(h1:n≤9223372036854775807)(w:World)(hE:sI w):Calls Tryz.prog 169 #[.int .i64 n] w fun e w'=>e=.returned (.string (I.bs (Go.Lib.itoa n)))∧Below w.heap.size w w':=by
 obtain⟨m,hm⟩:=hE;exact(Tryz.strconv_Itoa n h0 h1 w hm.pow).mono fun _ _ ⟨e,k,os,h⟩=>⟨e,by rw[h];exact Lib.below_grow _ w (aa _) k os⟩
theorem qZ(g:Nat)(u v:Value)(xs:List UInt8)(st:I.Wr)(w:World)(h:Ps 5000 g v st w)(hx:Rr jZ w (fun b=>b<g) u xs):
 Calls Tryz.prog 83 #[.pointer (some ⟨g,0,none⟩),u] w (gm g w v (I.jx xs st)):=by
 have F0:=cN (Fw.start h.ws);have B1:Hid (I.Bd 5000 st):=cN h.bd;have Ol:=cN h.en;have HR:=cN hx;obtain⟨A,c,rfl,hc1,hc2⟩:=hx.form;clear h hx;go_enter Tryz.func83,Tryz.ntmps83;go_upto_region 1 with fail
 obtain⟨w1,hw1⟩:∃W,W=w.alloc (.cells #[.pointer (some ⟨g,0,none⟩)] 92):=⟨_,rfl⟩;have F1:Hid (Fw g w v [(w.heap.size,92,#[.pointer (some ⟨g,0,none⟩)])] st v w1):=by show Fw _ _ _ _ _ _ _;rw[hw1];exact F0.o.new _ _
 rw[←hw1];obtain⟨gB,hgB⟩:∃x,x=w.heap.size:=⟨_,rfl⟩;rw[←hgB]at F1;rw[←hgB];clear hw1 hgB F0;have cB:=F1.o.cQ.cell 0;simp at cB;go_wp2_with fail
 with_reducible refine kB (M:=5001) F1.o (wZ g _ _ xs _ _ (Ps.of F1.o B1.o Ol.o) (F1.o.rr HR.o) (fun _ _=>trivial) gB F1.o.cQ F1.o.o0) ?_ fun v2 s2 w2 E2 F2 B2=>?_
 ·exact(I.Bd.each (fun y _ _ hs=>(hs.lH y).mono (by decide)) B1.o:I.Bd (max _ 4241) _).mono (by decide)
 have HS:Hid (I.jx xs st=s2):=by show _=_;unfold I.jx;rw[E2.o]
 go_wp2_with fail
 rw[HS.o];exact ae (v:=.tuple #[]) (aA rfl _ _ _) rfl F2.o.done
theorem qD(g:Nat)(u v:Value)(l:List I.NS)(st:I.Wr)(w:World)(h:Ps 5500 g v st w)(hl:Rr fw w (fun b=>b<g) u l)(hsm:∀q∈l,SH q):
 Calls Tryz.prog 91 #[.pointer (some ⟨g,0,none⟩),u] w (gm g w v (I.ff l st)):=by
 have F0:=cN (Fw.start h.ws);have QQ:=cN h.bd;have Ol:=cN h.en;have HL:=cN hl;have Qk:=cN hsm;obtain⟨A,c,rfl,hc1,hc2⟩:=hl.form;clear h hl hsm;go_enter Tryz.func91,Tryz.ntmps91;go_upto_region 1 with fail
 obtain⟨w1,hw1⟩:∃W,W=w.alloc (.cells #[.pointer (some ⟨g,0,none⟩)] 92):=⟨_,rfl⟩;have F1:Hid (Fw g w v [(w.heap.size,92,#[.pointer (some ⟨g,0,none⟩)])] st v w1):=by show Fw _ _ _ _ _ _ _;rw[hw1];exact F0.o.new _ _
 rw[←hw1];obtain⟨gB,hgB⟩:∃x,x=w.heap.size:=⟨_,rfl⟩;rw[←hgB]at F1;rw[←hgB];clear hw1 hgB F0;have cB:=F1.o.cQ.cell 0;simp at cB;rcases l with _|⟨q,_|⟨q2,r⟩⟩
 ·skip;go_wp2_with fail
  with_reducible refine(gw F1.o true).mono ?_
  rintro e w2 ⟨v2,s2,hs2,rfl,hF⟩;have F2:=cN hF;have hb2:s2.b=true:=by rw[←hs2];exact Bool.or_true _
  have HS:Hid (I.ff [] st=s2):=cN hs2;clear hF hs2;have cB2:=F2.o.cQ.cell 0;have cb:=F2.o.ws.blk.cell 2;simp at cB2 cb;rw[hb2]at cb;go_wp2_with fail
  rw[HS.o];exact ae (v:=.tuple #[]) (aA rfl _ _ _) rfl F2.o.done
 ·have HQ:=cN (Qk.o q ag);clear Qk;go_wp2_with fail
  with_reducible refine(gw F1.o false).mono ?_
  rintro e w2 ⟨v2,s2,hs2,rfl,hF⟩;obtain rfl:s2=st:=hs2.symm.trans (I.Bn st);have F2:=cN hF;clear hF hs2 F1 cB;have cB:=F2.o.cQ.cell 0;have cb:=F2.o.ws.blk.cell 2;simp at cB cb;cases hb:s2.b with
  |true=>
   rw[hb]at cb;have HS:Hid (I.ff [q] s2=s2):=by show _=_;unfold I.ff;exact if_pos hb
   clear hb;go_wp2_with fail
   rw[HS.o];exact ae (v:=.tuple #[]) (aA rfl _ _ _) rfl F2.o.done
  |false=>
   rw[hb]at cb;have HZ0:Hid (I.ff [q] s2=I.wa q s2):=by show _=_;unfold I.ff;exact if_neg (by rw[hb];decide)
   clear hb;have HL2:=cN (F2.o.rr HL.o);obtain⟨gk,off,c9,x,cs,hv,q3,q4,hg,hi,hr,hcl,hra⟩:=HL2.o.pc (i:=0) (by simp);have hi:some q=some x:=hi;injection hi with hi
   subst hi;injection hv with e1 e2 e3
   subst e1 e3;clear e2 q3 q4;rw[ct,bh]at hra;have OX:=cN (all_oneCell_toArray (fw.one hr));obtain⟨x1,x2,x3,x4,x5,rfl,r1,r2,r3,r4,r5,hl0,hl1⟩:=hr;obtain⟨A1,c1,rfl,_,_⟩:=r1.form;obtain⟨A2,c2,rfl,p2,p2'⟩:=r2.form;obtain⟨A3,c3,rfl,_,_⟩:=r3.form;obtain⟨A4,c4,rfl,_,_⟩:=r4.form;obtain⟨A5,c5,rfl,_,_⟩:=r5.form;have HR1:=cN (Rr.hp r1 (P':=fun b=>b<g) (w':=w) (fun _ h=>h) fun _ hb=>(F2.o.low hb).symm);have HR2:=cN (Rr.hp r2 (P':=fun b=>b<g) (w':=w) (fun _ h=>h) fun _ hb=>(F2.o.low hb).symm);have HR3:=cN (Rr.hp r3 (P':=fun b=>b<g) (w':=w) (fun _ h=>h) fun _ hb=>(F2.o.low hb).symm);have HR4:=cN (Rr.hp r4 (P':=fun b=>b<g) (w':=w) (fun _ h=>h) fun _ hb=>(F2.o.low hb).symm);have Q3:=cN (Rr.hp r5 (P':=fun b=>b<g) (w':=w) (fun _ h=>h) fun _ hb=>(F2.o.low hb).symm);have RH:=cN hra;have IX:=cN (show(Tryz.prog.info? 45).map (·.size)=some ([.bool q.all,.slice A1 q.its.length c1,.slice A2 q.fr.length c2,.slice A3 q.wh.length c3,.slice A4 q.gr.length c4,.slice A5 q.od.length c5,.int .i64 q.lim]:List Value).length from lM);clear r1 r2 r3 r4 r5 hra hg hcl HL2;obtain⟨w3,hw3⟩:∃W,W=(w2.alloc (.cells #[.bool false,.slice none 0 0,.slice none 0 0,.slice none 0 0,.slice none 0 0,.slice none 0 0,.int .i64 0] 45)).setCells w2.heap.size 0 [.bool q.all,.slice A1 q.its.length c1,.slice A2 q.fr.length c2,.slice A3 q.wh.length c3,.slice A4 q.gr.length c4,.slice A5 q.od.length c5,.int .i64 q.lim]:=⟨_,rfl⟩;have BX:=cN (show NA w3 w2.heap.size 45 ([.bool q.all,.slice A1 q.its.length c1,.slice A2 q.fr.length c2,.slice A3 q.wh.length c3,.slice A4 q.gr.length c4,.slice A5 q.od.length c5,.int .i64 q.lim]:List Value).toArray by rw[hw3];exact(NA.new w2 45 #[.bool false,.slice none 0 0,.slice none 0 0,.slice none 0 0,.slice none 0 0,.slice none 0 0,.int .i64 0]).lB [.bool q.all,.slice A1 q.its.length c1,.slice A2 q.fr.length c2,.slice A3 q.wh.length c3,.slice A4 q.gr.length c4,.slice A5 q.od.length c5,.int .i64 q.lim] rfl);have TX:=cN ((NA.new w2 45 #[.bool false,.slice none 0 0,.slice none 0 0,.slice none 0 0,.slice none 0 0,.slice none 0 0,.int .i64 0]).there (n:=([.bool q.all,.slice A1 q.its.length c1,.slice A2 q.fr.length c2,.slice A3 q.wh.length c3,.slice A4 q.gr.length c4,.slice A5 q.od.length c5,.int .i64 q.lim]:List Value).toArray.size) rfl);have HB3:=cN (show Below w2.heap.size w2 w3 by rw[hw3];exact((Ch.dD [.bool q.all,.slice A1 q.its.length c1,.slice A2 q.fr.length c2,.slice A3 q.wh.length c3,.slice A4 q.gr.length c4,.slice A5 q.od.length c5,.int .i64 q.lim] 0 (Ch.lL ((ax _ w2).alloc (aa _) _)) (.inr (aa _))).toBelow (g:=w2.heap.size) (aa _)));have F3:=cN (F2.o.My HB3.o BX.o);obtain⟨gQ,W6⟩:∃x,x=w2.heap.size:=⟨_,rfl⟩;rw[←W6]at F3;go_upto_region 4 with(first|refine wpList_load_mid rfl 45 (.tmp 17) rfl gk off rfl [.bool q.all,.slice A1 q.its.length c1,.slice A2 q.fr.length c2,.slice A3 q.wh.length c3,.slice A4 q.gr.length c4,.slice A5 q.od.length c5,.int .i64 q.lim] _ RH.o qA rfl IX.o ?_|refine wpList_store_mid rfl 45 (.tmp 4) (.tmp 18) rfl w2.heap.size 0 ([.bool q.all,.slice A1 q.its.length c1,.slice A2 q.fr.length c2,.slice A3 q.wh.length c3,.slice A4 q.gr.length c4,.slice A5 q.od.length c5,.int .i64 q.lim]:List Value).toArray rfl rfl TX.o IX.o OX.o ?_)
   rw[←hw3,←W6];clear hw3 BX TX W6 OX HB3 RH IX F2 cB cb;have B3:Hid (I.Bd 5500 s2):=QQ;have cB:=F3.o.cR.cell 0;simp at cB;go_wp2_with fail
   with_reducible refine(dL F3.o (n:=1) (cells:=#[.string ⟨#[115,101,108,101,99,116]⟩]) [[115,101,108,101,99,116]] rfl rfl (by decide) (by simp<;>omega) (by have:=B3.o.le;omega)).mono ?_
   rintro e w4 ⟨v4,s4,hs4,rfl,hF⟩;have F4:=cN hF;have E4:=cN hs4;have B4:Hid (I.Bd 5501 s4):=by show I.Bd 5501 s4;rw[←hs4];exact I.Bd.mono (I.Bd.dM 1 B3.o (by rfl)) (by decide)
   clear hF hs4 cB F3;have cB:=F4.o.cR.cell 0;have q0:=F4.o.cQ.cell 0;simp at cB q0;obtain⟨s15,V1⟩:∃W,W=I.gJ q s4:=⟨_,rfl⟩;have W8:=cN V1;have W9:Hid (I.Bd 5510 s15):=by show I.Bd 5510 s15;rw[V1];exact(B4.o.gJ q).mono (by decide)
   clear V1;go_upto_if 23 with fail
   go_cut [] (fun wx=>Hid (∃vx,Fw g w v [(gQ,45,([.bool q.all,.slice A1 q.its.length c1,.slice A2 q.fr.length c2,.slice A3 q.wh.length c3,.slice A4 q.gr.length c4,.slice A5 q.od.length c5,.int .i64 q.lim]:List Value).toArray),(gB,92,#[.pointer (some ⟨g,0,none⟩)])] s15 vx wx));case first=>
    cases ha:q.all with
    |true=>
     rw[ha]at q0;go_wp2_with fail
     with_reducible refine eK (M:=5502) (dL F4.o (n:=1) (cells:=#[.string ⟨#[42]⟩]) [[42]] rfl rfl (by decide) (by simp<;>omega) (by have:=B4.o.le;omega)) ?_ fun v5 s5 w5 E5 F5 B5=>?_
     ·exact I.Bd.mono (I.Bd.dM 1 B4.o (by rfl)) (by decide)
     clear cB;have cB:=F5.o.cR.cell 0;simp at cB;have HS:Hid (s15=s5):=by show _=_;rw[W8.o];unfold I.gJ;rw[if_pos ha,E5.o]
     go_wp2_with fail
     go_meet;exact cN ⟨_,by rw[HS.o];exact F5.o⟩
    |false=>
     rw[ha]at q0;have q1:=F4.o.cQ.cell 1;simp at q1;go_wp2_with fail
     with_reducible refine kB (M:=5510) F4.o (uT g _ _ q.its _ _ (Ps.of F4.o B4.o Ol.o) (F4.o.rr HR1.o) HQ.o.its gB F4.o.cR F4.o.o1) ?_ fun v5 s5 w5 E5 F5 B5=>?_
     ·exact(I.Bd.each (fun y _ _ hs=>(hs.item y).mono (by decide)) B4.o:I.Bd (max _ 4243) _).mono (by decide)
     clear cB;have cB:=F5.o.cR.cell 0;simp at cB;have HS:Hid (s15=s5):=by show _=_;rw[W8.o];unfold I.gJ;rw[if_neg (by rw[ha];decide),E5.o]
     go_wp2_with fail
     go_meet;exact cN ⟨_,by rw[HS.o];exact F5.o⟩
   case rest=>
    obtain⟨v15,hF⟩:=hcut.o;obtain⟨SX,hw⟩:∃W,W=wc:=⟨_,rfl⟩;subst hw;have Rx:=cN hF;clear hF hcut q0 cB F4;have cB:=Rx.o.cR.cell 0;simp at cB;go_wp2_with fail
    with_reducible refine eK (M:=5511) (dL Rx.o (n:=1) (cells:=#[.string ⟨#[102,114,111,109]⟩]) [[102,114,111,109]] rfl rfl (by decide) (by simp<;>omega) (by have:=W9.o.le;omega)) ?_ fun v16 s16 w16 ZM Ud ZN=>?_
    ·exact I.Bd.mono (I.Bd.dM 1 W9.o (by rfl)) (by decide)
    clear cB;have cB:=Ud.o.cR.cell 0;simp at cB;have q2:=Ud.o.cQ.cell 2;simp at q2;have t9:((q.fr.length:Int)==0)=decide (q.fr.length=0):=by rw[aG,aV,bX];omega
    have T9:=cN t9;clear t9;go_wp2_with fail
    rw[T9.o];with_reducible refine eK (M:=5511) (gw Ud.o (decide (q.fr.length=0))) ?_ fun v17 s17 w17 E17 Ue B17=>?_
    ·exact I.Bd.dx ZN.o _
    clear cB;have cB:=Ue.o.cR.cell 0;simp at cB;have q2:=Ue.o.cQ.cell 2;simp at q2;have HZ1:Hid (I.ff [q] s2=I.jg (I.kr q) (decide (0<0)) (q.fr.drop 0) s17):=by show _=_;rw[HZ0.o];unfold I.wa;rw[E4.o,←W8.o,ZM.o,E17.o];rfl
    go_wp2_with fail
    go_loopg [44] q.fr.length (fun gg i wr=>∃(k:Nat) (s1:I.Wr) (v1:Value),k≤q.fr.length∧gg=q.fr.length-k∧i=.int .i64 (k:Nat)∧Hid (I.ff [q] s2=I.jg (I.kr q) (decide (0<k)) (q.fr.drop k) s1)∧Hid (Fw g w v [(gQ,45,([.bool q.all,.slice A1 q.its.length c1,.slice A2 q.fr.length c2,.slice A3 q.wh.length c3,.slice A4 q.gr.length c4,.slice A5 q.od.length c5,.int .i64 q.lim]:List Value).toArray),(gB,92,#[.pointer (some ⟨g,0,none⟩)])] s1 v1 wr)∧Hid (I.Bd 5600 s1));case atStart=>exact⟨0,s17,v17,ao _,rfl,rfl,HZ1,Ue,cN (B17.o.mono (by decide))⟩
    case round=>
     obtain⟨k,s1,v1,hk,rfl,rfl,HE,F1,B1⟩:=hrel;obtain⟨w1,hw1⟩:∃W,W=wr:=⟨_,rfl⟩;subst hw1;clear Ue Ud Rx HZ1 HZ0 ZM E17 E4 W8 B17 ZN W9 B4 B3 cB q2;have cB:=F1.o.cR.cell 0;simp at cB;by_cases hlt:k<q.fr.length
     ·have Tx:=cN (F1.o.rr HR2.o);obtain⟨gk,off,c9,x,cs,hv,q3,q4,hg,hi,hr,hcl,hra⟩:=Tx.o.pc (i:=k) hlt;injection hv with e1 e2 e3
      subst e1 e3;clear e2 q3 q4;have q1:(k:Int)<(q.fr.length:Int):=by omega
      have q0:(0:Int)≤(k:Int):=by omega
      have HS:=cN (I.yX (t:=I.kr q) hi (decide (0<k)) s1);have HX:=cN (HQ.o.fr x (aR hi));have hxm:=HX.o.2;have RH:=cN hra;have OX:=cN (all_oneCell_toArray (ft.one hr));obtain⟨vo,rfl,hro,_,_⟩:=hr;obtain⟨Ao,co,rfl,_,_⟩:=hro.form;have HRx:=cN (Rr.hp hro (P':=fun b=>b<g) (w':=w) (fun _ h=>h) fun _ hb=>(F1.o.low hb).symm);have IX:=cN (show(Tryz.prog.info? 132).map (·.size)=some ([.string (I.bs x.nm),.string (I.bs x.al),.slice Ao x.on.length co]:List Value).length from yM);clear hi hg hra hcl Tx hro;obtain⟨w2,hw2⟩:∃W,W=(w1.alloc (.cells #[.string ⟨#[]⟩,.string ⟨#[]⟩,.slice none 0 0] 132)).setCells w1.heap.size 0 [.string (I.bs x.nm),.string (I.bs x.al),.slice Ao x.on.length co]:=⟨_,rfl⟩;have BX:=cN (show NA w2 w1.heap.size 132 ([.string (I.bs x.nm),.string (I.bs x.al),.slice Ao x.on.length co]:List Value).toArray by rw[hw2];exact(NA.new w1 132 #[.string ⟨#[]⟩,.string ⟨#[]⟩,.slice none 0 0]).lB [.string (I.bs x.nm),.string (I.bs x.al),.slice Ao x.on.length co] rfl);have TX:=cN ((NA.new w1 132 #[.string ⟨#[]⟩,.string ⟨#[]⟩,.slice none 0 0]).there (n:=([.string (I.bs x.nm),.string (I.bs x.al),.slice Ao x.on.length co]:List Value).toArray.size) rfl);have HB2:=cN (show Below w1.heap.size w1 w2 by rw[hw2];exact((Ch.dD [.string (I.bs x.nm),.string (I.bs x.al),.slice Ao x.on.length co] 0 (Ch.lL ((ax _ w1).alloc (aa _) _)) (.inr (aa _))).toBelow (g:=w1.heap.size) (aa _)));have F2:=cN (F1.o.My HB2.o BX.o);obtain⟨gS,OO⟩:∃z,z=w1.heap.size:=⟨_,rfl⟩;rw[←OO]at F2;go_upto_region 13 with(first|refine wpList_load_mid rfl 132 (.tmp 47) rfl gk (off+k*3) rfl [.string (I.bs x.nm),.string (I.bs x.al),.slice Ao x.on.length co] _ RH.o yW rfl IX.o ?_|refine wpList_store_mid rfl 132 (.tmp 6) (.tmp 48) rfl w1.heap.size 0 ([.string (I.bs x.nm),.string (I.bs x.al),.slice Ao x.on.length co]:List Value).toArray rfl rfl TX.o IX.o OX.o ?_)
      rw[←hw2,←OO];clear hw2 BX TX OO OX HB2 RH IX F1 cB;have cB:=F2.o.dR.cell 0;have cb:=F2.o.ws.blk.cell 2;simp at cB cb;cases hb:s1.b with
      |true=>
       rw[hb]at cb;have HZ:Hid (I.ff [q] s2=s1):=by show _=_;rw[HE.o,HS.o,if_pos hb]
       clear hb;go_wp2_with fail
       rw[HZ.o];exact ae (v:=.tuple #[]) (aA rfl _ _ _) rfl F2.o.done
      |false=>
       rw[hb]at cb;have HS2:Hid (I.jg (I.kr q) (decide (0<k)) (q.fr.drop k) s1=I.jg (I.kr q) (decide (0<k+1)) (q.fr.drop (k+1)) (I.jJ x (I.option (decide (0<k)) [[106,111,105,110]] s1))):=by show _=_;rw[HS.o,if_neg (by rw[hb];decide),aq (Nat.succ_pos k)]
       have B2:=cN (B1.o.small hb);clear hb HS;have PO:=F2;have B12:=B2;clear F2;clear cB;have cB:=PO.o.dR.cell 0;simp at cB;go_wp2_with fail
       with_reducible refine eK (M:=4098) (dS PO.o (decide (0<k)) (n:=1) (cells:=#[.string ⟨#[106,111,105,110]⟩]) [[106,111,105,110]] rfl rfl (by decide) (by simp<;>omega) (by have:=B12.o.le;omega)) ?_ fun v13 s13 Uf E13 Sj B13=>?_
       ·exact I.Bd.mono (I.Bd.fQ 1 B12.o (by rfl)) (by decide)
       clear cB;have cB:=Sj.o.dR.cell 0;simp at cB;have z0:=Sj.o.cQ.cell 0;simp at z0;go_wp2_with fail
       with_reducible refine eK (M:=4099) (dL Sj.o (n:=1) (cells:=#[.string (I.bs x.nm)]) [x.nm] rfl rfl (by decide) (by simp<;>omega) (by have:=B13.o.le;omega)) ?_ fun v14 s14 ZO E14 UD B14=>?_
       ·exact I.Bd.mono (I.Bd.dM 1 B13.o (by rfl)) (by decide)
       clear cB;have cB:=UD.o.dR.cell 0;simp at cB;have z1:=UD.o.cQ.cell 1;simp at z1;have HI:=cN (qJ x.al);go_wp2_with fail
       rw[HI.o];with_reducible refine eK (M:=4101) (dS UD.o (decide (x.al≠[])) (n:=2) (cells:=#[.string ⟨#[97,115]⟩,.string (I.bs x.al)]) [[97,115],x.al] rfl rfl (by decide) (by simp<;>omega) (by have:=B14.o.le;omega)) ?_ fun v15 s15 SX W8 Rx W9=>?_
       ·exact I.Bd.mono (I.Bd.fQ 2 B14.o (by rfl)) (by decide)
       clear cB;have cB:=Rx.o.dR.cell 0;simp at cB;have z2:=Rx.o.cQ.cell 2;simp at z2;go_wp2_with fail
       with_reducible refine eK (M:=5600) (oz Rx.o (W9.o.mono (by decide)) Ol.o x.on HRx.o HX.o.1 (n:=1) (cells:=#[.string ⟨#[111,110]⟩]) [[111,110]] rfl rfl (by decide) (by simp<;>omega)) ?_ fun v16 s16 w16 ZM Ud ZN=>?_
       ·exact(I.Bd.lC 1 W9.o (by rfl)).mono (by decide)
       clear cB;have cB:=Ud.o.dR.cell 0;simp at cB;have Uc:Hid (I.ff [q] s2=I.jg (I.kr q) (decide (0<k+1)) (q.fr.drop (k+1)) s16):=by show _=_;rw[HE.o,HS2.o,E13.o];unfold I.jJ;rw[E14.o,W8.o,ZM.o]
       go_wp2_with fail
       go_roundg (q.fr.length-(k+1));case measure=>omega
       case rel=>exact⟨k+1,_,_,by omega,rfl,by go_num,Uc,Ud.o.Nh,ZN⟩
     ·have hkn:k=q.fr.length:=by omega
      have HZ:Hid (I.ff [q] s2=I.kr q s1):=by show _=_;rw[HE.o,hkn,bT];rfl
      clear hkn;have F30:=F1;have B30:=B1;clear F1 B1;have cB:=F30.o.cR.cell 0;simp at cB;have q3:=F30.o.cQ.cell 3;simp at q3;go_wp2_with fail
      with_reducible refine eK (M:=5601) (oz F30.o (B30.o.mono (by decide)) Ol.o q.wh HR3.o HQ.o.wh (n:=1) (cells:=#[.string ⟨#[119,104,101,114,101]⟩]) [[119,104,101,114,101]] rfl rfl (by decide) (by simp<;>omega)) ?_ fun v31 s31 w31 E31 Yo B31=>?_
      ·exact(I.Bd.lC 1 B30.o (by rfl)).mono (by decide)
      clear cB;have cB:=Yo.o.cR.cell 0;simp at cB;have q4:=Yo.o.cQ.cell 4;simp at q4;obtain⟨V2,V3⟩:∃W,W=I.jP q s31:=⟨_,rfl⟩;have E40:=cN V3;have B40:Hid (I.Bd 5610 V2):=by show I.Bd 5610 V2;rw[V3];exact(B31.o.jP q).mono (by decide)
      clear V3;go_upto_if 85 with fail
      go_cut [] (fun wx=>Hid (∃vx,Fw g w v [(gQ,45,([.bool q.all,.slice A1 q.its.length c1,.slice A2 q.fr.length c2,.slice A3 q.wh.length c3,.slice A4 q.gr.length c4,.slice A5 q.od.length c5,.int .i64 q.lim]:List Value).toArray),(gB,92,#[.pointer (some ⟨g,0,none⟩)])] V2 vx wx));case first=>
       by_cases h4:0<q.gr.length
       ·have t0:decide (0<q.gr.length)=true:=aq h4;have t1:decide ((0:Int)<(q.gr.length:Int))=true:=aq (by omega);go_wp2_with fail
        with_reducible refine eK (M:=5603) (dL Yo.o (n:=2) (cells:=#[.string ⟨#[103,114,111,117,112]⟩,.string ⟨#[98,121]⟩]) [[103,114,111,117,112],[98,121]] rfl rfl (by decide) (by simp<;>omega) (by have:=B31.o.le;omega)) ?_ fun v32 s32 w32 E32 Yp B32=>?_
        ·exact I.Bd.mono (I.Bd.dM 2 B31.o (by rfl)) (by decide)
        clear cB;have cB:=Yp.o.cR.cell 0;simp at cB;have q4:=Yp.o.cQ.cell 4;simp at q4;go_wp2_with fail
        with_reducible refine kB (M:=5610) Yp.o (mS g _ _ q.gr _ _ (Ps.of Yp.o B32.o Ol.o) (Yp.o.rr HR4.o) HQ.o.gr) ?_ fun v33 s33 w33 E33 F33 B33=>?_
        ·exact(I.Bd.each (fun y _ _ hs=>(hs.expr y).mono (by decide)) B32.o:I.Bd (max _ 4241) _).mono (by decide)
        clear cB;have cB:=F33.o.cR.cell 0;simp at cB;have HS:Hid (V2=s33):=by show _=_;rw[E40.o];unfold I.jP;rw[if_pos h4,E32.o,E33.o]
        go_wp2_with fail
        go_meet;exact cN ⟨_,by rw[HS.o];exact F33.o⟩
       ·have t0:decide (0<q.gr.length)=false:=ar h4;have t1:decide ((0:Int)<(q.gr.length:Int))=false:=ar (by omega);have HS:Hid (V2=s31):=by show _=_;rw[E40.o];exact if_neg h4
        go_wp2_with fail
        go_meet;exact cN ⟨_,by rw[HS.o];exact Yo.o⟩
      case rest=>
       obtain⟨v40,hF⟩:=hcut.o;obtain⟨w40,hw⟩:∃W,W=wc:=⟨_,rfl⟩;subst hw;have Yq:=cN hF;clear hF hcut q3 q4 cB Yo;have cB:=Yq.o.cR.cell 0;simp at cB;have q5:=Yq.o.cQ.cell 5;simp at q5;obtain⟨Xa,V4⟩:∃W,W=I.lT q V2:=⟨_,rfl⟩;have E50:=cN V4;have B50:Hid (I.Bd 5620 Xa):=by show I.Bd 5620 Xa;rw[V4];exact(B40.o.lT q).mono (by decide)
       clear V4;go_upto_if 98 with fail
       go_cut [] (fun wx=>Hid (∃vx,Fw g w v [(gQ,45,([.bool q.all,.slice A1 q.its.length c1,.slice A2 q.fr.length c2,.slice A3 q.wh.length c3,.slice A4 q.gr.length c4,.slice A5 q.od.length c5,.int .i64 q.lim]:List Value).toArray),(gB,92,#[.pointer (some ⟨g,0,none⟩)])] Xa vx wx));case first=>
        by_cases h5:0<q.od.length
        ·have t0:decide (0<q.od.length)=true:=aq h5;have t1:decide ((0:Int)<(q.od.length:Int))=true:=aq (by omega);go_wp2_with fail
         with_reducible refine eK (M:=5612) (dL Yq.o (n:=2) (cells:=#[.string ⟨#[111,114,100,101,114]⟩,.string ⟨#[98,121]⟩]) [[111,114,100,101,114],[98,121]] rfl rfl (by decide) (by simp<;>omega) (by have:=B40.o.le;omega)) ?_ fun v41 s41 w41 E41 V5 B41=>?_
         ·exact I.Bd.mono (I.Bd.dM 2 B40.o (by rfl)) (by decide)
         clear cB;have cB:=V5.o.cR.cell 0;simp at cB;have q5:=V5.o.cQ.cell 5;simp at q5;go_wp2_with fail
         with_reducible refine kB (M:=5620) V5.o (uy g _ _ q.od _ _ (Ps.of V5.o B41.o Ol.o) (V5.o.rr Q3.o) HQ.o.od gB V5.o.cR V5.o.o1) ?_ fun v42 s42 w42 E42 F42 B42=>?_
         ·exact(I.Bd.each (fun y _ _ hs=>(hs.order y).mono (by decide)) B41.o:I.Bd (max _ 4242) _).mono (by decide)
         clear cB;have cB:=F42.o.cR.cell 0;simp at cB;have HS:Hid (Xa=s42):=by show _=_;rw[E50.o];unfold I.lT;rw[if_pos h5,E41.o,E42.o]
         go_wp2_with fail
         go_meet;exact cN ⟨_,by rw[HS.o];exact F42.o⟩
        ·have t0:decide (0<q.od.length)=false:=ar h5;have t1:decide ((0:Int)<(q.od.length:Int))=false:=ar (by omega);have HS:Hid (Xa=V2):=by show _=_;rw[E50.o];exact if_neg h5
         go_wp2_with fail
         go_meet;exact cN ⟨_,by rw[HS.o];exact Yq.o⟩
       case rest=>
        obtain⟨v50,hF⟩:=hcut.o;obtain⟨w50,hw⟩:∃W,W=wc:=⟨_,rfl⟩;subst hw;have Q7:=cN hF;clear hF hcut q5 cB Yq;have cB:=Q7.o.cR.cell 0;simp at cB;have q6:=Q7.o.cQ.cell 6;simp at q6;have hgB:=Q7.o.cR.lt;have W6:=Q7.o.cQ.lt;have hil:=Go.Lib.itoa_length_le q.lim hl0 hl1;obtain⟨fl,hfl⟩:∃f,f=decide (q.lim≠ -1):=⟨_,rfl⟩;have VK:=cN hfl;have tl:(q.lim== -1)=!fl:=by rw[hfl];rw[aG];simp
        have tl2:(q.lim != -1)=fl:=by rw[hfl];rw[aG];simp
        clear hfl;go_upto_region 26 with fail
        have hTs:=dZ (l:=[(6,PM)]) (fun p hp=>by
         simp only[af,aj,aH]at hp
         subst hp
         exact PM.mb)
        have OT:=eY (l:=[(6,PK (.string (I.bs (Go.Lib.itoa q.lim))))]) (fun p hp=>by
         simp only[af,aj,aH]at hp
         subst hp
         exact PK.some _)
        have OH:=cN hTs;have Pk:=cN OT;clear hTs OT;refine db (tab [(6,PM)]) (Up w50) (w50.heap.size) 8 (Qe [(6,PK (.string (I.bs (Go.Lib.itoa q.lim))))]) (Pk.o) (OH.o) (Up.dX _) OM (OM.turns (Up.dX _) (OH.o)) (by kernel_rfl) (by kernel_rfl) (Up.start _) (aa _) ?_;simp only[List.take_succ_cons,List.take_zero,List.drop_succ_cons,List.drop_zero];refine cP ?_ rfl rfl (fun w' hS=>?_) ?_;rotate_left
        ·have T4:=(hS.cell (p:=⟨gB,0,none⟩) hgB).trans cB;go_simp;rfl
        go_frame;refine cP ?_ rfl rfl (fun w' hS=>?_) ?_;rotate_left
        ·go_simp;rfl
        go_frame;refine cP ?_ rfl rfl (fun w' hS=>?_) ?_;rotate_left
        ·have q6':=(hS.cell (p:=⟨gQ,6,none⟩) W6).trans q6;go_simp;rfl
        go_frame;iterate 2 (refine cP ?_ rfl rfl (fun w' hS=>?_) ?_;rotate_left;go_simp;rfl;go_frame)
        refine cP ?_ rfl rfl (fun w' hS=>?_) ?_;rotate_left
        ·have q6':=(hS.cell (p:=⟨gQ,6,none⟩) W6).trans q6;go_simp;rfl
        go_frame;refine' du _ _ _ rfl rfl (fun w'=>?_) (fun w' hS hh hs=>?_) (fun v6 h6=>?_);rotate_left 2
        ·go_simp;constructor<;>rfl
        ·have XM:=(Q7.o.sb Ol.o) w' (fun b hb=>hS.block b (by have:=Q7.o.ws.blk.lt;omega));refine(Fi q.lim hl0 hl1 w' XM).mono ?_;rintro e w2 ⟨rfl,hb⟩;exact⟨_,rfl,⟨rfl,trivial⟩,hb⟩
        obtain rfl:=h6;go_frame;refine dJ (some (2,2)) (.cells #[.string ⟨#[108,105,109,105,116]⟩,.string (I.bs (Go.Lib.itoa q.lim))] 9) rfl rfl (fun w' hS=>?_) fun g7=>?_
        ·go_simp;rfl
        go_frame;refine dz fun w51 hH=>?_
        have F51:=cN (Q7.o.quiet hH.s);have hbk:=(hH.gh 7 _ _ rfl).1;have hbg:=(hH.gh 7 _ _ rfl).2;have HL:=cN (jQ (n:=2) (ss:=[[108,105,109,105,116],Go.Lib.itoa q.lim]) Q7.o hH.s hbk hbg rfl ⟨rfl,by decide⟩);clear hH hbk hbg cB;go_wp2_with fail
        simp only[ej];with_reducible refine(F51.o.sub (nk g fl _ _ [[108,105,109,105,116],Go.Lib.itoa q.lim] _ _ F51.o.ws HL.o (by simp<;>omega) (by have:=B50.o.le;simp only[ab,ai];omega))).mono ?_
        rintro e w52 ⟨v52,rfl,hF⟩;have F52:=cN hF;clear hF;have HS:Hid (I.ff [q] s2=I.option fl [[108,105,109,105,116],Go.Lib.itoa q.lim] Xa):=by show _=_;rw[HZ.o,E50.o,E40.o,←E31.o,VK.o];rfl
        go_wp2_with fail
        rw[HS.o];exact ae (v:=.tuple #[]) (aA rfl _ _ _) rfl F52.o.done
 ·have t1:(((q::q2::r).length:Int)==1)=false:=bm.2 (by simp only[ab];omega);go_wp2_with fail
  rw[show((r.length:Int)+1+1 !=1)=true from bne_iff_ne.2 (by omega)];with_reducible refine(gw F1.o true).mono ?_
  rintro e w2 ⟨v2,s2,hs2,rfl,hF⟩;have F2:=cN hF;have hb2:s2.b=true:=by rw[←hs2];exact Bool.or_true _
  have HS:Hid (I.ff (q::q2::r) st=s2):=cN hs2;clear hF hs2;have cB2:=F2.o.cQ.cell 0;have cb:=F2.o.ws.blk.cell 2;simp at cB2 cb;rw[hb2]at cb;go_wp2_with fail
  rw[HS.o];exact ae (v:=.tuple #[]) (aA rfl _ _ _) rfl F2.o.done
end
section
set_option maxRecDepth 100000
structure Py (s:I.NC):Prop where
 nmL:s.nm.length≤140737488355328
 onL:s.on.length≤140737488355328
 toL:s.NG.length≤140737488355328
 keyL:s.key.length≤140737488355328
 NH:∀x∈s.NH,(∀y∈x.ck,OJ y)∧x.nm.length≤140737488355328∧x.rf.length≤140737488355328
 q:∀x∈s.q,SH x
 vals:∀x∈s.vals,∀y∈x,OJ y
 dD:∀x∈s.dD,OJ x.x∧x.nm.length≤140737488355328
 wh:∀y∈s.wh,OJ y
theorem xc(a:UInt8):IntKind.i64.wrap (IntKind.i64.wrap (a.toNat:Int)-14)=(a.toNat:Int)-14:=by
 have:=a.toNat_lt;rw[IntKind.wrap_i64,IntKind.wrap_i64];omega
theorem xy(g:Nat)(cs:List Value)(s:I.NC)(v:Value)(st:I.Wr)(w:World)(h:Ps 4900 g v st w)(hx:df.R w (fun b=>b<g) cs s)(hsm:Py s)(hk:s.k.toNat=1∨s.k.toNat=3∨s.k.toNat=5∨s.k.toNat=7∨s.k.toNat=9):
 Calls Tryz.prog 81 #[.pointer (some ⟨g,0,none⟩),.agg cs.toArray] w (gm g w v (I.eX s st)):=by
 have F0:=cN (Fw.start h.ws);have B1:Hid (I.Bd 4900 st):=cN h.bd;have Ol:=cN h.en;obtain⟨x1,x2,x3,x4,x5,x6,rfl,r1,r2,r3,r4,r5,r6,_,_,_,_⟩:=hx;obtain⟨A1,c1,rfl,_,_⟩:=r1.form;obtain⟨A2,c2,rfl,_,_⟩:=r2.form;obtain⟨A3,c3,rfl,_,_⟩:=r3.form;obtain⟨A4,c4,rfl,_,_⟩:=r4.form;obtain⟨A5,c5,rfl,_,_⟩:=r5.form;obtain⟨A6,c6,rfl,_,_⟩:=r6.form;have HR1:=cN r1;have HR2:=cN r2;have HR3:=cN r3;have HR4:=cN r4;have Q3:=cN r5;have Ob:=cN r6;have HM:=cN hsm;obtain⟨hnm,hon,hto,hkey,_,_,_,_,_⟩:=hsm;clear h r1 r2 r3 r4 r5 r6;go_enter Tryz.func81,Tryz.ntmps81;go_upto_region 1 with fail
 obtain⟨w1,hw1⟩:∃W,W=w.alloc (.cells #[.int .u8 (s.k.toNat:Int),.string (I.bs s.nm),.string (I.bs s.on),.string (I.bs s.NG),.int .u8 (s.ev.toNat:Int),.slice A1 s.NH.length c1,.slice A2 s.q.length c2,.slice A3 s.vals.length c3,.slice A4 s.dD.length c4,.slice A5 s.wh.length c5,.slice A6 s.pv.length c6,.bool s.opt,.string (I.bs s.key)] 30):=⟨_,rfl⟩;have F1:Hid (Fw g w v [(w.heap.size,30,#[.int .u8 (s.k.toNat:Int),.string (I.bs s.nm),.string (I.bs s.on),.string (I.bs s.NG),.int .u8 (s.ev.toNat:Int),.slice A1 s.NH.length c1,.slice A2 s.q.length c2,.slice A3 s.vals.length c3,.slice A4 s.dD.length c4,.slice A5 s.wh.length c5,.slice A6 s.pv.length c6,.bool s.opt,.string (I.bs s.key)])] st v w1):=by show Fw _ _ _ _ _ _ _;rw[hw1];exact F0.o.new _ _
 rw[←hw1];obtain⟨gS,OO⟩:∃x,x=w.heap.size:=⟨_,rfl⟩;rw[←OO]at F1;rw[←OO];clear hw1 OO F0;rcases hk with h|h|h|h|h
 ·have t1:((s.k.toNat:Int)==1)=true:=aV.2 (by omega);have t3:=cO s.k 3 (by omega);have t5:=cO s.k 5 (by omega);have t7:=cO s.k 7 (by omega);have t9:=cO s.k 9 (by omega);go_wp2_with fail
  with_reducible refine eK (M:=4901) (dL F1.o (n:=1) (cells:=#[.string ⟨#[99,114,101,97,116,101]⟩]) [[99,114,101,97,116,101]] rfl rfl (by decide) (by simp<;>omega) (by have:=B1.o.le;omega)) ?_ fun v2 s2 w2 E2 F2 B2=>?_
  ·exact I.Bd.mono (I.Bd.dM 1 B1.o (by rfl)) (by decide)
  have q0:=F2.o.cQ.cell 0;simp at q0;have q1:=F2.o.cQ.cell 1;simp at q1;go_wp2_with fail
  with_reducible refine eK (M:=4904) (dL F2.o (n:=3) (cells:=#[.string ⟨#[116,97,98,108,101]⟩,.string (I.bs s.nm),.string ⟨#[40]⟩]) [[116,97,98,108,101],s.nm,[40]] rfl rfl (by decide) (by simp<;>omega) (by have:=B2.o.le;omega)) ?_ fun v3 s3 w3 E3 F3 B3=>?_
  ·exact I.Bd.mono (I.Bd.dM 3 B2.o (by rfl)) (by decide)
  have q5:=F3.o.cQ.cell 5;simp at q5;go_wp2_with fail
  with_reducible refine kB (M:=5010) F3.o (vu g _ _ s.NH _ _ (Ps.of F3.o B3.o Ol.o) (F3.o.rr HR1.o) HM.o.NH) ?_ fun v4 s4 w4 E4 F4 B4=>?_
  ·exact(I.Bd.each (fun y _ _ hs=>(hs.column y).mono (by decide)) B3.o:I.Bd (max _ 4260) _).mono (by decide)
  go_wp2_with fail
  with_reducible refine eK (M:=5011) (dL F4.o (n:=1) (cells:=#[.string ⟨#[41]⟩]) [[41]] rfl rfl (by decide) (by simp<;>omega) (by have:=B4.o.le;omega)) ?_ fun v5 s5 w5 E5 F5 B5=>?_
  ·exact I.Bd.mono (I.Bd.dM 1 B4.o (by rfl)) (by decide)
  have HS:Hid (I.eX s st=s5):=by show _=_;unfold I.eX;rw[if_pos h,E2.o,E3.o,E4.o,E5.o]
  go_wp2_with fail
  rw[HS.o];exact ae (v:=.tuple #[]) (aA rfl _ _ _) rfl F5.o.done
 ·have t1:=cO s.k 1 (by omega);have t3:((s.k.toNat:Int)==3)=true:=aV.2 (by omega);have t5:=cO s.k 5 (by omega);have t7:=cO s.k 7 (by omega);have t9:=cO s.k 9 (by omega);go_wp2_with fail
  with_reducible refine eK (M:=4901) (dL F1.o (n:=1) (cells:=#[.string ⟨#[99,114,101,97,116,101]⟩]) [[99,114,101,97,116,101]] rfl rfl (by decide) (by simp<;>omega) (by have:=B1.o.le;omega)) ?_ fun v2 s2 w2 E2 F2 B2=>?_
  ·exact I.Bd.mono (I.Bd.dM 1 B1.o (by rfl)) (by decide)
  have q0:=F2.o.cQ.cell 0;simp at q0;have q1:=F2.o.cQ.cell 1;simp at q1;go_wp2_with fail
  with_reducible refine eK (M:=4904) (dL F2.o (n:=3) (cells:=#[.string ⟨#[118,105,101,119]⟩,.string (I.bs s.nm),.string ⟨#[97,115]⟩]) [[118,105,101,119],s.nm,[97,115]] rfl rfl (by decide) (by simp<;>omega) (by have:=B2.o.le;omega)) ?_ fun v3 s3 w3 E3 F3 B3=>?_
  ·exact I.Bd.mono (I.Bd.dM 3 B2.o (by rfl)) (by decide)
  have q6:=F3.o.cQ.cell 6;simp at q6;go_wp2_with fail
  with_reducible refine kB (M:=5050) F3.o (qD g _ _ s.q _ _ (Ps.of F3.o B3.o Ol.o) (F3.o.rr HR2.o) HM.o.q) ?_ fun v4 s4 w4 E4 F4 B4=>?_
  ·exact(B3.o.ff s.q).mono (by decide)
  have HS:Hid (I.eX s st=s4):=by show _=_;unfold I.eX;rw[if_neg (by omega),if_pos h,E2.o,E3.o,E4.o]
  go_wp2_with fail
  rw[HS.o];exact ae (v:=.tuple #[]) (aA rfl _ _ _) rfl F4.o.done
 ·have t1:=cO s.k 1 (by omega);have t3:=cO s.k 3 (by omega);have t5:((s.k.toNat:Int)==5)=true:=aV.2 (by omega);have t7:=cO s.k 7 (by omega);have t9:=cO s.k 9 (by omega);go_wp2_with fail
  with_reducible refine eK (M:=4901) (dL F1.o (n:=1) (cells:=#[.string ⟨#[99,114,101,97,116,101]⟩]) [[99,114,101,97,116,101]] rfl rfl (by decide) (by simp<;>omega) (by have:=B1.o.le;omega)) ?_ fun v2 s2 w2 E2 F2 B2=>?_
  ·exact I.Bd.mono (I.Bd.dM 1 B1.o (by rfl)) (by decide)
  have q0:=F2.o.cQ.cell 0;simp at q0;have q1:=F2.o.cQ.cell 1;simp at q1;have q4:=F2.o.cQ.cell 4;simp at q4;have OO:=F2.o.cQ.lt;obtain⟨T,hT⟩:∃T,I.word ((s.ev.toNat:Int)-14) [[105,110,115,101,114,116],[117,112,100,97,116,101],[100,101,108,101,116,101]]=T:=⟨_,rfl⟩;have HT:=cN hT;have W3:Hid (IntKind.i64.wrap (IntKind.i64.wrap (s.ev.toNat:Int)-14)=(s.ev.toNat:Int)-14):=cN (xc s.ev);have To:T.length≤100:=by rw[←hT];exact vi (by decide)
  clear hT;go_upto_region 11 with fail
  have hTs:=dZ (l:=[(8,PM)]) (fun p hp=>by
   simp only[af,aj,aH]at hp
   subst hp
   exact PM.mb)
  have OT:=eY (l:=[(8,PK (.string (I.bs T)))]) (fun p hp=>by
   simp only[af,aj,aH]at hp
   subst hp
   exact PK.some _)
  have OH:=cN hTs;have Pk:=cN OT;clear hTs OT;refine db (tab [(8,PM)]) (Up w2) (w2.heap.size) 10 (Qe [(8,PK (.string (I.bs T)))]) (Pk.o) (OH.o) (Up.dX _) OM (OM.turns (Up.dX _) (OH.o)) (by kernel_rfl) (by kernel_rfl) (Up.start _) (aa _) ?_;simp only[List.take_succ_cons,List.take_zero,List.drop_succ_cons,List.drop_zero];iterate 2 (refine cP ?_ rfl rfl (fun w' hS=>?_) ?_;rotate_left;go_simp;rfl;go_frame)
  refine cP ?_ rfl rfl (fun w' hS=>?_) ?_;rotate_left
  ·have q1':=(hS.cell (p:=⟨gS,1,none⟩) OO).trans q1;go_simp;rfl
  go_frame;refine cP ?_ rfl rfl (fun w' hS=>?_) ?_;rotate_left
  ·go_simp;rfl
  go_frame;refine cP ?_ rfl rfl (fun w' hS=>?_) ?_;rotate_left
  ·have q4':=(hS.cell (p:=⟨gS,4,none⟩) OO).trans q4;go_simp;rfl
  go_frame;iterate 2 (refine cP ?_ rfl rfl (fun w' hS=>?_) ?_;rotate_left;go_simp;rfl;go_frame)
  refine dJ (some (3,3)) (.cells #[.string ⟨#[105,110,115,101,114,116]⟩,.string ⟨#[117,112,100,97,116,101]⟩,.string ⟨#[100,101,108,101,116,101]⟩] 9) rfl rfl (fun w' hS=>?_) fun g7=>?_
  ·go_simp;rfl
  go_frame;refine' du _ _ _ rfl rfl (fun w'=>?_) (fun w' hS hh hs=>?_) (fun v8 h8=>?_);rotate_left 2
  ·go_simp;constructor<;>rfl
  ·have hbk:=(hs.2 7 g7 _ (by kernel_rfl) rfl).1;refine(jU _ _ [[105,110,115,101,114,116],[117,112,100,97,116,101],[100,101,108,101,116,101]] (fun _=>True) w' (qy (n:=3) hbk rfl ⟨rfl,by decide⟩)).mono ?_;rintro e w2 ⟨rfl,rfl⟩;rw[W3.o,HT.o];exact⟨_,rfl,⟨rfl,trivial⟩,ax _ _⟩
  obtain rfl:=h8;go_frame;refine dJ (some (4,4)) (.cells #[.string ⟨#[116,114,105,103,103,101,114]⟩,.string (I.bs s.nm),.string ⟨#[97,102,116,101,114]⟩,.string (I.bs T)] 9) rfl rfl (fun w' hS=>?_) fun g9=>?_
  ·go_simp;rfl
  go_frame;refine dz fun w3 hH=>?_
  have F3:=cN (F2.o.quiet hH.s);have B3:=B2;have hbk:=(hH.gh 9 _ _ rfl).1;have hbg:=(hH.gh 9 _ _ rfl).2;have HL:=cN (jQ (n:=4) (ss:=[[116,114,105,103,103,101,114],s.nm,[97,102,116,101,114],T]) F2.o hH.s hbk hbg rfl ⟨rfl,by decide⟩);clear hH hbk hbg q1 q4;go_wp2_with fail
  simp only[ej];with_reducible refine kB (M:=4950) F3.o (kv g _ _ [[116,114,105,103,103,101,114],s.nm,[97,102,116,101,114],T] _ _ F3.o.ws HL.o (by simp<;>omega) (by have:=B3.o.le;simp only[ab,ai];omega)) ?_ fun v4 s4 w4 E4 F4 B4=>?_
  ·exact I.Bd.mono (I.Bd.dM 4 B3.o (by rfl)) (by decide)
  have q2:=F4.o.cQ.cell 2;simp at q2;have q3:=F4.o.cQ.cell 3;simp at q3;go_wp2_with fail
  with_reducible refine eK (M:=4956) (dL F4.o (n:=6) (cells:=#[.string ⟨#[111,110]⟩,.string (I.bs s.on),.string ⟨#[105,110,115,101,114,116]⟩,.string ⟨#[105,110,116,111]⟩,.string (I.bs s.NG),.string ⟨#[118,97,108,117,101,115]⟩]) [[111,110],s.on,[105,110,115,101,114,116],[105,110,116,111],s.NG,[118,97,108,117,101,115]] rfl rfl (by decide) (by simp<;>omega) (by have:=B4.o.le;omega)) ?_ fun v5 s5 w5 E5 F5 B5=>?_
  ·exact I.Bd.mono (I.Bd.dM 6 B4.o (by rfl)) (by decide)
  have q7:=F5.o.cQ.cell 7;simp at q7;have HZ:Hid (I.eX s st=I.sv s s5):=by show _=_;unfold I.eX;rw[if_neg (by omega),if_neg (by omega),if_pos h,HT.o,E2.o,E4.o,E5.o]
  rcases hvl:s.vals with _|⟨x,_|⟨y,r⟩⟩
  ·rw[hvl]at q7;go_wp2_with fail
   with_reducible refine(gw F5.o true).mono ?_
   rintro e w9 ⟨v9,s9,Se,rfl,hF⟩;have F9:=cN hF;have PH:s9.b=true:=by rw[←Se];exact Bool.or_true _
   have HS:Hid (I.eX s st=s9):=by show _=_;rw[HZ.o];unfold I.sv;rw[hvl];exact Se
   clear hF Se;have cb:=F9.o.ws.blk.cell 2;simp at cb;rw[PH]at cb;go_wp2_with fail
   rw[HS.o];exact ae (v:=.tuple #[]) (aA rfl _ _ _) rfl F9.o.done
  ·rw[hvl]at q7;go_wp2_with fail
   with_reducible refine(gw F5.o false).mono ?_
   rintro e w9 ⟨v9,s9,Se,rfl,hF⟩;obtain rfl:s9=s5:=Se.symm.trans (I.Bn s5);have F9:=cN hF;clear hF Se F5;have cb:=F9.o.ws.blk.cell 2;have q7:=F9.o.cQ.cell 7;simp at cb q7;rw[hvl]at q7;cases hb:s9.b with
   |true=>
    rw[hb]at cb;have HS:Hid (I.eX s st=s9):=by show _=_;rw[HZ.o];unfold I.sv;rw[hvl];exact if_pos hb
    clear hb;go_wp2_with fail
    rw[HS.o];exact ae (v:=.tuple #[]) (aA rfl _ _ _) rfl F9.o.done
   |false=>
    rw[hb]at cb;have HS:Hid (I.eX s st=I.jF x s9):=by show _=_;rw[HZ.o];unfold I.sv;rw[hvl];exact if_neg (by rw[hb];decide)
    clear hb;have HL2:=F9.o.rr HR3.o;rw[hvl]at HL2;obtain⟨gk,off,c9,y,cs,hv,p3,p4,hg,hi,hr,hcl,hra⟩:=HL2.pc (i:=0) (by simp);have hi:some x=some y:=hi;injection hi with hi
    subst hi;injection hv with e1 e2 e3
    subst e1 e3;clear e2 p3 p4;rw[ct,bh]at hra;obtain⟨vx,rfl,UC⟩:=we hr;obtain⟨Ax,cx,rfl,_,_⟩:=UC.form;have d0:=hra 0 _ rfl;rw[bh]at d0;have ZL:=cN UC;have HMx:=cN (HM.o.vals x (by rw[hvl];exact ag));clear hr hra UC hg hcl HL2;go_wp2_with fail
    with_reducible refine(F9.o.sub (vF g _ x _ _ _ (Ps.of F9.o B5.o Ol.o) ZL.o HMx.o)).mono ?_
    rintro e RU ⟨v10,rfl,hF⟩;have Pj:=cN hF;clear hF;go_wp2_with fail
    rw[HS.o];exact ae (v:=.tuple #[]) (aA rfl _ _ _) rfl Pj.o.done
  ·rw[hvl]at q7;go_wp2_with fail
   rw[show((r.length:Int)+1+1 !=1)=true from bne_iff_ne.2 (by omega)];with_reducible refine(gw F5.o true).mono ?_
   rintro e w9 ⟨v9,s9,Se,rfl,hF⟩;have F9:=cN hF;have PH:s9.b=true:=by rw[←Se];exact Bool.or_true _
   have HS:Hid (I.eX s st=s9):=by show _=_;rw[HZ.o];unfold I.sv;rw[hvl];exact Se
   clear hF Se;have cb:=F9.o.ws.blk.cell 2;simp at cb;rw[PH]at cb;go_wp2_with fail
   rw[HS.o];exact ae (v:=.tuple #[]) (aA rfl _ _ _) rfl F9.o.done
 ·have t1:=cO s.k 1 (by omega);have t3:=cO s.k 3 (by omega);have t5:=cO s.k 5 (by omega);have t7:((s.k.toNat:Int)==7)=true:=aV.2 (by omega);have t9:=cO s.k 9 (by omega);go_wp2_with fail
  with_reducible refine eK (M:=4901) (dL F1.o (n:=1) (cells:=#[.string ⟨#[99,114,101,97,116,101]⟩]) [[99,114,101,97,116,101]] rfl rfl (by decide) (by simp<;>omega) (by have:=B1.o.le;omega)) ?_ fun v2 s2 w2 E2 F2 B2=>?_
  ·exact I.Bd.mono (I.Bd.dM 1 B1.o (by rfl)) (by decide)
  have q0:=F2.o.cQ.cell 0;simp at q0;have q1:=F2.o.cQ.cell 1;simp at q1;have q2:=F2.o.cQ.cell 2;simp at q2;have q3:=F2.o.cQ.cell 3;simp at q3;go_wp2_with fail
  with_reducible refine eK (M:=4909) (dL F2.o (n:=8) (cells:=#[.string ⟨#[112,111,108,105,99,121]⟩,.string (I.bs s.nm),.string ⟨#[111,110]⟩,.string (I.bs s.on),.string ⟨#[116,111]⟩,.string (I.bs s.NG),.string ⟨#[117,115,105,110,103]⟩,.string ⟨#[40]⟩]) [[112,111,108,105,99,121],s.nm,[111,110],s.on,[116,111],s.NG,[117,115,105,110,103],[40]] rfl rfl (by decide) (by simp<;>omega) (by have:=B2.o.le;omega)) ?_ fun v3 s3 w3 E3 F3 B3=>?_
  ·exact I.Bd.mono (I.Bd.dM 8 B2.o (by rfl)) (by decide)
  have q9:=F3.o.cQ.cell 9;simp at q9;go_wp2_with fail
  with_reducible refine kB (M:=5010) F3.o (rT g _ _ _ s.wh [] _ _ (Ps.of F3.o B3.o Ol.o) (F3.o.rr Q3.o) HM.o.wh (Rr.nil _ _ _) (fun s hs=>by simp at hs) (by decide)) ?_ fun v4 s4 w4 E4 F4 B4=>?_
  ·exact(I.Bd.lC 0 B3.o (by rfl)).mono (by decide)
  go_wp2_with fail
  with_reducible refine eK (M:=5011) (dL F4.o (n:=1) (cells:=#[.string ⟨#[41]⟩]) [[41]] rfl rfl (by decide) (by simp<;>omega) (by have:=B4.o.le;omega)) ?_ fun v5 s5 w5 E5 F5 B5=>?_
  ·exact I.Bd.mono (I.Bd.dM 1 B4.o (by rfl)) (by decide)
  have HS:Hid (I.eX s st=s5):=by show _=_;unfold I.eX;rw[if_neg (by omega),if_neg (by omega),if_neg (by omega),if_pos h,E2.o,E3.o,E4.o,E5.o]
  go_wp2_with fail
  rw[HS.o];exact ae (v:=.tuple #[]) (aA rfl _ _ _) rfl F5.o.done
 ·have t1:=cO s.k 1 (by omega);have t3:=cO s.k 3 (by omega);have t5:=cO s.k 5 (by omega);have t7:=cO s.k 7 (by omega);have t9:((s.k.toNat:Int)==9)=true:=aV.2 (by omega);go_wp2_with fail
  with_reducible refine eK (M:=4901) (dL F1.o (n:=1) (cells:=#[.string ⟨#[99,114,101,97,116,101]⟩]) [[99,114,101,97,116,101]] rfl rfl (by decide) (by simp<;>omega) (by have:=B1.o.le;omega)) ?_ fun v2 s2 w2 E2 F2 B2=>?_
  ·exact I.Bd.mono (I.Bd.dM 1 B1.o (by rfl)) (by decide)
  have q0:=F2.o.cQ.cell 0;simp at q0;have q1:=F2.o.cQ.cell 1;simp at q1;go_wp2_with fail
  with_reducible refine eK (M:=4903) (dL F2.o (n:=2) (cells:=#[.string ⟨#[114,111,108,101]⟩,.string (I.bs s.nm)]) [[114,111,108,101],s.nm] rfl rfl (by decide) (by simp<;>omega) (by have:=B2.o.le;omega)) ?_ fun v3 s3 w3 E3 F3 B3=>?_
  ·exact I.Bd.mono (I.Bd.dM 2 B2.o (by rfl)) (by decide)
  have ZP:=F3.o.cQ.cell 12;simp at ZP;have OO:=F3.o.cQ.lt;have HI:=cN (qJ s.key);have hpl:=I.Fe (v:=⟨4,0,I.bs s.key⟩) (by show(-9223372036854775808:Int)≤0;decide) (by show(0:Int)≤9223372036854775807;decide);go_upto_region 22 with fail
  have hTs:=dZ (l:=[(7,PM)]) (fun p hp=>by
   simp only[af,aj,aH]at hp
   subst hp
   exact PM.mb)
  have OT:=eY (l:=[(7,PK (.string (I.bs (NF.prt ⟨4,0,I.bs s.key⟩))))]) (fun p hp=>by
   simp only[af,aj,aH]at hp
   subst hp
   exact PK.some _)
  have OH:=cN hTs;have Pk:=cN OT;clear hTs OT;refine db (tab [(7,PM)]) (Up w3) (w3.heap.size) 9 (Qe [(7,PK (.string (I.bs (NF.prt ⟨4,0,I.bs s.key⟩))))]) (Pk.o) (OH.o) (Up.dX _) OM (OM.turns (Up.dX _) (OH.o)) (by kernel_rfl) (by kernel_rfl) (Up.start _) (aa _) ?_;simp only[List.take_succ_cons,List.take_zero,List.drop_succ_cons,List.drop_zero];iterate 2 (refine cP ?_ rfl rfl (fun w' hS=>?_) ?_;rotate_left;go_simp;rfl;go_frame)
  refine cP ?_ rfl rfl (fun w' hS=>?_) ?_;rotate_left
  ·have q12':=(hS.cell (p:=⟨gS,12,none⟩) OO).trans ZP;go_simp;rfl
  go_frame;iterate 2 (refine cP ?_ rfl rfl (fun w' hS=>?_) ?_;rotate_left;go_simp;rfl;go_frame)
  refine cP ?_ rfl rfl (fun w' hS=>?_) ?_;rotate_left
  ·have q12':=(hS.cell (p:=⟨gS,12,none⟩) OO).trans ZP;go_simp;rfl
  go_frame;refine cP ?_ rfl rfl (fun w' hS=>?_) ?_;rotate_left
  ·go_simp;rfl
  go_frame;refine' du _ _ _ rfl rfl (fun w'=>?_) (fun w' hS hh hs=>?_) (fun v7 h7=>?_);rotate_left 2
  ·go_simp;constructor<;>rfl
  ·have XM:=(F3.o.sb Ol.o) w' (fun b hb=>hS.block b (by have:=F3.o.ws.blk.lt;omega));obtain⟨m0,hE0⟩:=XM;refine(rH 4 0 (I.bs s.key) m0 w' hE0 (by decide) (by decide)).mono ?_;rintro e w2 ⟨rfl,hb⟩;exact⟨_,rfl,⟨rfl,trivial⟩,hb⟩
  obtain rfl:=h7;go_frame;refine dJ (some (2,2)) (.cells #[.string ⟨#[107,101,121]⟩,.string (I.bs (NF.prt ⟨4,0,I.bs s.key⟩))] 9) rfl rfl (fun w' hS=>?_) fun g8=>?_
  ·go_simp;rfl
  go_frame;refine dz fun w4 hH=>?_
  have F4:=cN (F3.o.quiet hH.s);have B4:=B3;have hbk:=(hH.gh 8 _ _ rfl).1;have hbg:=(hH.gh 8 _ _ rfl).2;have HL:=cN (jQ (n:=2) (ss:=[[107,101,121],NF.prt ⟨4,0,I.bs s.key⟩]) F3.o hH.s hbk hbg rfl ⟨rfl,by decide⟩);clear hH hbk hbg ZP;go_wp2_with fail
  simp only[ej];rw[HI.o];with_reducible refine kB (M:=5020) F4.o (nk g (decide (s.key≠[])) _ _ [[107,101,121],NF.prt ⟨4,0,I.bs s.key⟩] _ _ F4.o.ws HL.o (by simp<;>omega) (by have:=B4.o.le;simp only[ab,ai];omega)) ?_ fun v5 s5 w5 E5 F5 B5=>?_
  ·exact I.Bd.mono (I.Bd.fQ 2 B4.o (by rfl)) (by decide)
  have HS:Hid (I.eX s st=s5):=by show _=_;unfold I.eX;rw[if_neg (by omega),if_neg (by omega),if_neg (by omega),if_neg (by omega),E2.o,E3.o,E5.o]
  go_wp2_with fail
  rw[HS.o];exact ae (v:=.tuple #[]) (aA rfl _ _ _) rfl F5.o.done
end
end Go.Proofs.YtnicfobpclehkaaGreatDoor
