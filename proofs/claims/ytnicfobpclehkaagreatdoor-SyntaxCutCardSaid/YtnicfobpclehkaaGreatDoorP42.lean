import Derived.Test.YtnicfobpclehkaaGreatDoorP41
set_option maxHeartbeats 25600000
set_option linter.unusedVariables false
set_option linter.unusedSimpArgs false
namespace Go.Proofs.YtnicfobpclehkaaGreatDoor
open Go.RowKit
section
set_option maxRecDepth 100000
theorem uK{ops:Array Oper}{rest:List Oper}{o:Oper}{a:Act}{Q:Exit→Act→World→Prop}{w:World}(hgd:o.guard=none)(s x:Operand)
 (ho:o.op=.call {callee:=.builtin .append,args:=#[s,x],argTypes:=#[28,28]})
 (A:Option Addr) (m c:Nat) (ps:List UInt8) (hs:a.eval s=.slice none 0 0) (hx:a.eval x=.slice A m c) (hr:Rr jZ w (fun b=>b<w.heap.size) (.slice A m c) ps) (hm:ps.length*1≤140737488355328)
 (h:∀A' c' w',Rr jZ w' (In w.heap.size w'.heap.size) (.slice A' ps.length c') ps→Below w.heap.size w w'→wpList Tryz.prog ops Q rest (a.put o.dst (.slice A' ps.length c')) w'):wpList Tryz.prog ops Q (o::rest) a w:=by
 obtain⟨i0,z0,hi,hz,hsz,hb,hzs⟩:=wi;have hl:m=ps.length:=by obtain⟨_,_,e,_⟩:=hr;injection e
 subst hl;have hrd:Rd w w.heap.size 1 A ps.length (ps.map fun p=>Value.int .u8 (p.toNat:Int)):=by
  refine⟨by simp,fun h0=>?_⟩;obtain⟨A',c',e,_,_,h3⟩:=hr;injection e with e1 e2 e3
  subst e1;obtain⟨g,off,rfl,hg,hc⟩:=h3 h0;refine⟨g,off,rfl,hg,fun j u hu=>?_⟩;rw[bf]at hu;obtain⟨p,hp,rfl⟩:=cr.1 hu;obtain⟨cs,hcs,hcell⟩:=hc j p hp;have hcs:cs=[.int .u8 (p.toNat:Int)]:=hcs;subst hcs;have:=hcell 0 _ rfl;rw[bh,show j*jZ.k=j from bZ j]at this;exact this
 have hown:w.ownsRow w.heap.size 51 1 (.slice none 0 0) 0 []:=lJ _ _ _ _;refine wpList_plain hgd fun _ hK=>jH w s x 28 ho w.heap.size 51 i0 z0 1 1 Tryz.underlying28 hi hz hsz hb hzs (by decide) (.slice none 0 0) 0 [] hs hown w.heap.size A ps.length c _ hx hrd (fun u hu=>by
  obtain⟨p,_,rfl⟩:=List.mem_map.1 hu
  rfl) (by unfold maxLen;omega) (by omega) (aa _) fun v' w' k1 k2 k3=>?_
 rw[aW,aZ]at k1;obtain⟨A',c',rfl,hA,c1,c2⟩:=kJ k1;have hb':Below w.heap.size w w':=(ax _ _).grown k2 (aa _) fun k hk=>by cases hk
 refine hK _ _ (h A' c' w' ?_ hb');refine⟨A',c',rfl,c1,by unfold maxLen at c2;omega,fun h0=>?_⟩;obtain⟨g,cap,e,hg1,hg2,_⟩:=BB k1 h0;injection e with e
 subst e;refine⟨g,0,rfl,⟨hg1,hg2⟩,fun i p hp=>⟨[.int .u8 (p.toNat:Int)],rfl,fun j u hu=>?_⟩⟩;have hj:j=0:=by have:=(ay.1 hu).1;simp at this;exact this
 subst hj;have:=k1.cells (g:=g) rfl i (.int .u8 (p.toNat:Int)) (by rw[bf,hp];rfl);rw[addr_add]at this;rw[bh,show i*jZ.k=i from bZ i];have e2:u=.int .u8 (p.toNat:Int):=by simpa using hu.symm
 rw[e2];exact this
theorem wD:Wx df 12 Qp:=by
 intro w cs q h0 hp hx;have HX0:=cN hx;have Qw:=cN hp;obtain⟨x1,x2,x3,x4,x5,x6,rfl,r1,r2,r3,r4,r5,r6,z1,z2,z3,z4⟩:=hx;obtain⟨A1,c1,rfl,_,_⟩:=r1.form;obtain⟨A2,c2,rfl,_,_⟩:=r2.form;obtain⟨A3,c3,rfl,_,_⟩:=r3.form;obtain⟨A4,c4,rfl,_,_⟩:=r4.form;obtain⟨A5,c5,rfl,_,_⟩:=r5.form;obtain⟨A6,c6,rfl,_,_⟩:=r6.form;have R1:=cN r1;have R2:=cN r2;have R3:=cN r3;have R4:=cN r4;have R5:=cN r5;have R6:=cN r6;have HZ:=cN (And.intro z1 (And.intro z2 (And.intro z3 z4)));clear hp r1 r2 r3 r4 r5 r6 z1 z2 z3 z4;show Calls Tryz.prog 12 #[.agg #[.int .u8 (q.k.toNat:Int),.string (I.bs q.nm),.string (I.bs q.on),.string (I.bs q.NG),.int .u8 (q.ev.toNat:Int),.slice A1 q.NH.length c1,.slice A2 q.q.length c2,.slice A3 q.vals.length c3,.slice A4 q.dD.length c4,.slice A5 q.wh.length c5,.slice A6 q.pv.length c6,.bool q.opt,.string (I.bs q.key)]] w _;have IX:Hid ((Tryz.prog.info? 30).map (·.size)=some 13):=cN (by kernel_rfl);have OX:=cN (all_oneCell_toArray (df.one HX0.o));have F0:=cN (Fr.start h0 (jD w));clear HX0;go_enter Tryz.func12,Tryz.ntmps12;go_upto_region 1 with fail
 refine P8 fun w1 hw=>?_
 have F1:=cN (F0.o.oK hw);clear hw;obtain⟨gX,Ph⟩:∃g,g=w.heap.size+1:=⟨_,rfl⟩;obtain⟨gB,hgB⟩:∃g,g=w.heap.size:=⟨_,rfl⟩;rw[←Ph,←hgB]at F1;rw[←Ph,←hgB];clear Ph hgB;have RB:=cN F1.o.cR.range;have F2:=cN (F1.o.new 30 #[.int .u8 0,.string ⟨#[]⟩,.string ⟨#[]⟩,.string ⟨#[]⟩,.int .u8 0,.slice none 0 0,.slice none 0 0,.slice none 0 0,.slice none 0 0,.slice none 0 0,.slice none 0 0,.bool false,.string ⟨#[]⟩]);have TX:=cN (F2.o.cQ.there (n:=13) rfl);go_upto_region 2 with(first|refine j0 rfl rfl rfl RB.o (by kernel_rfl) IX.o ?_|refine wpList_store_mid rfl 30 (.tmp 3) (.tmp 7) rfl w1.heap.size 0 _ rfl rfl TX.o (by rw[aQ];exact IX.o) OX.o ?_)
 refine P8 fun w2 hw=>?_
 have F3:=cN (F2.o.MW hw rfl);clear hw;obtain⟨gO,Qf⟩:∃g,g=w1.heap.size:=⟨_,rfl⟩;rw[←Qf]at F3;rw[←Qf];clear Qf F2 TX F1 RB OX IX;have hB2:=F3.o.dR.lt;have hs2:=F3.o.ch.size;have HB2:=cN F3.o.bel;obtain⟨d5,d9⟩:=F3.o.dR.y2 5 9;simp at d5 d9;obtain⟨BA,Xp⟩:∃a:Array Value,a=#[.int .u8 (q.k.toNat:Int),.string (I.bs q.nm),.string (I.bs q.on),.string (I.bs q.NG),.int .u8 (q.ev.toNat:Int),.slice A1 q.NH.length c1,.slice A2 q.q.length c2,.slice A3 q.vals.length c3,.slice A4 q.dD.length c4,.slice A5 q.wh.length c5,.slice A6 q.pv.length c6,.bool q.opt,.string (I.bs q.key)]:=⟨_,rfl⟩;have UP:=cN Xp;clear Xp;have R1':=cN (Rr.up R1.o HB2.o);have R5':=cN (Rr.up R5.o HB2.o);have hTs:=dZ (l:=[(2,(fun v w'=>w2.heap.size≤w'.heap.size∧Rr eM w' (In w2.heap.size w'.heap.size) v q.NH)),(5,(fun v w'=>w2.heap.size≤w'.heap.size∧Rr NI w' (In w2.heap.size w'.heap.size) v q.wh))]) (fun p hp=>by
  simp only[af,aj,aH]at hp
  rcases hp with rfl|rfl
  ·exact fun v w1' w2' h hb=>⟨aw h.1 hb.size,h.2.hp (fun b hk=>⟨hk.1,aB hk.2 hb.size⟩) fun b hk=>hb.block b hk.2⟩
  ·exact fun v w1' w2' h hb=>⟨aw h.1 hb.size,h.2.hp (fun b hk=>⟨hk.1,aB hk.2 hb.size⟩) fun b hk=>hb.block b hk.2⟩)
 have OT:=eY (l:=[(2,kU q.NH.length),(5,kU q.wh.length)]) (fun p hp=>by
  simp only[af,aj,aH]at hp
  rcases hp with rfl|rfl
  ·exact kU.some _
  ·exact kU.some _)
 have OH:=cN hTs;have Pk:=cN OT;clear hTs OT;refine db (tab [(2,(fun v w'=>w2.heap.size≤w'.heap.size∧Rr eM w' (In w2.heap.size w'.heap.size) v q.NH)),(5,(fun v w'=>w2.heap.size≤w'.heap.size∧Rr NI w' (In w2.heap.size w'.heap.size) v q.wh))]) (Up w2) (w2.heap.size) 7 (Qe [(2,kU q.NH.length),(5,kU q.wh.length)]) (Pk.o) (OH.o) (Up.dX _) OM (OM.turns (Up.dX _) (OH.o)) (by kernel_rfl) (by kernel_rfl) (Up.start _) (aa _) ?_;simp only[List.take_succ_cons,List.take_zero,List.drop_succ_cons,List.drop_zero];iterate 2 (refine cP ?_ rfl rfl (fun w' hS=>?_) ?_;rotate_left;(first|(go_simp;rfl)|(have l0:=(hS.cell (p:=⟨gB,5,none⟩) hB2).trans d5;go_simp;rfl));go_frame)
 refine' du _ _ _ rfl rfl (fun w'=>?_) (fun w' hS hh hs=>?_) (fun v2 h2=>?_);rotate_left 2
 ·go_simp;constructor<;>rfl
 ·refine(qe w' (.slice A1 q.NH.length c1) q.NH (by have:=hS.size;omega) Qw.o.NH Qw.o.ck (Rr.up R1'.o hS)).mono ?_;rintro e w9 ⟨v9,rfl,OL,PH⟩;obtain⟨A9,c9,rfl,_,_⟩:=OL.form;exact⟨_,rfl,⟨⟨A9,c9,rfl⟩,aw hh PH.size,Rr.hp OL (fun b hk=>⟨aw hh hk.1,hk.2⟩) fun _ _=>rfl⟩,PH⟩
 obtain⟨B1,QN,rfl⟩:=h2;go_frame;iterate 2 (refine cP ?_ rfl rfl (fun w' hS=>?_) ?_;rotate_left;(first|(go_simp;rfl)|(have l0:=(hS.cell (p:=⟨gB,9,none⟩) hB2).trans d9;go_simp;rfl));go_frame)
 refine' du _ _ _ rfl rfl (fun w'=>?_) (fun w' hS hh hs=>?_) (fun v5 h5=>?_);rotate_left 2
 ·go_simp;constructor<;>rfl
 ·refine(fS w' (.slice A5 q.wh.length c5) q.wh (by have:=hS.size;omega) Qw.o.wh (fun _ _=>trivial) (Rr.up R5'.o hS)).mono ?_;rintro e w9 ⟨v9,rfl,OL,PH⟩;obtain⟨A9,c9,rfl,_,_⟩:=OL.form;exact⟨_,rfl,⟨⟨A9,c9,rfl⟩,aw hh PH.size,Rr.hp OL (fun b hk=>⟨aw hh hk.1,hk.2⟩) fun _ _=>rfl⟩,PH⟩
 obtain⟨B5,QY,rfl⟩:=h5;go_frame;refine cP ?_ rfl rfl (fun w' hS=>?_) ?_;rotate_left
 ·go_simp;rfl
 go_frame;refine dz fun w3 hH=>?_
 have h2:=hH.told 2 _ _ rfl rfl;have h5:=hH.told 5 _ _ rfl rfl;have hup:Below w2.heap.size w2 w3:=hH.s;have QI:∀b,In w2.heap.size w3.heap.size b→ju w.heap.size _ w3 b:=fun b hb=>⟨aw hs2 hb.1,hb.2,fun p hp=>by
  have q1:=(F3.o.own p hp).2.lt
  have q2:=hb.1
  omega⟩
 have F4:=cN (((F3.o.quiet hup).item (It.rr eM (.slice B1 q.NH.length QN) q.NH) (Rr.hp h2.2 QI fun _ _=>rfl)).item (It.rr NI (.slice B5 q.wh.length QY) q.wh) (Rr.hp h5.2 QI fun _ _=>rfl));clear hH h2 h5 hup QI d5 d9 hB2 hs2 HB2 R1' R5' F3 OH Pk;obtain⟨u5,u9,u6,u7,u8,Ur⟩:=F4.o.cQ.y6 5 9 6 7 8 10;simp at u5 u9 u6 u7 u8 Ur;obtain⟨z5,z9,z6,z7,z8,Zu⟩:=F4.o.cQ.z6 5 9 6 7 8 10;go_upto_region 4 with fail
 have F5:=cN ((((((F4.o.ew 5 (.slice B1 q.NH.length QN) (cs':=#[.int .u8 (q.k.toNat:Int),.string (I.bs q.nm),.string (I.bs q.on),.string (I.bs q.NG),.int .u8 (q.ev.toNat:Int),.slice B1 q.NH.length QN,.slice A2 q.q.length c2,.slice A3 q.vals.length c3,.slice A4 q.dD.length c4,.slice A5 q.wh.length c5,.slice A6 q.pv.length c6,.bool q.opt,.string (I.bs q.key)]) rfl).ew 9 (.slice B5 q.wh.length QY) (cs':=#[.int .u8 (q.k.toNat:Int),.string (I.bs q.nm),.string (I.bs q.on),.string (I.bs q.NG),.int .u8 (q.ev.toNat:Int),.slice B1 q.NH.length QN,.slice A2 q.q.length c2,.slice A3 q.vals.length c3,.slice A4 q.dD.length c4,.slice B5 q.wh.length QY,.slice A6 q.pv.length c6,.bool q.opt,.string (I.bs q.key)]) rfl).ew 6 (.slice none 0 0) (cs':=#[.int .u8 (q.k.toNat:Int),.string (I.bs q.nm),.string (I.bs q.on),.string (I.bs q.NG),.int .u8 (q.ev.toNat:Int),.slice B1 q.NH.length QN,.slice none 0 0,.slice A3 q.vals.length c3,.slice A4 q.dD.length c4,.slice B5 q.wh.length QY,.slice A6 q.pv.length c6,.bool q.opt,.string (I.bs q.key)]) rfl).ew 7 (.slice none 0 0) (cs':=#[.int .u8 (q.k.toNat:Int),.string (I.bs q.nm),.string (I.bs q.on),.string (I.bs q.NG),.int .u8 (q.ev.toNat:Int),.slice B1 q.NH.length QN,.slice none 0 0,.slice none 0 0,.slice A4 q.dD.length c4,.slice B5 q.wh.length QY,.slice A6 q.pv.length c6,.bool q.opt,.string (I.bs q.key)]) rfl).ew 8 (.slice none 0 0) (cs':=#[.int .u8 (q.k.toNat:Int),.string (I.bs q.nm),.string (I.bs q.on),.string (I.bs q.NG),.int .u8 (q.ev.toNat:Int),.slice B1 q.NH.length QN,.slice none 0 0,.slice none 0 0,.slice none 0 0,.slice B5 q.wh.length QY,.slice A6 q.pv.length c6,.bool q.opt,.string (I.bs q.key)]) rfl).ew 10 (.slice none 0 0) (cs':=#[.int .u8 (q.k.toNat:Int),.string (I.bs q.nm),.string (I.bs q.on),.string (I.bs q.NG),.int .u8 (q.ev.toNat:Int),.slice B1 q.NH.length QN,.slice none 0 0,.slice none 0 0,.slice none 0 0,.slice B5 q.wh.length QY,.slice none 0 0,.bool q.opt,.string (I.bs q.key)]) rfl);obtain⟨w4,hw⟩:∃W,W=((((((w3.setCell ⟨gO,5,none⟩ (.slice B1 q.NH.length QN)).setCell ⟨gO,9,none⟩ (.slice B5 q.wh.length QY)).setCell ⟨gO,6,none⟩ (.slice none 0 0)).setCell ⟨gO,7,none⟩ (.slice none 0 0)).setCell ⟨gO,8,none⟩ (.slice none 0 0)).setCell ⟨gO,10,none⟩ (.slice none 0 0)):=⟨_,rfl⟩;rw[←hw]at F5;rw[←hw];clear hw F4 u5 u9 u6 u7 u8 Ur z5 z9 z6 z7 z8 Zu;rw[←UP.o]at F5;obtain⟨ZA,TU⟩:∃a:Array Value,a=#[.int .u8 0,.string ⟨#[]⟩,.string ⟨#[]⟩,.string ⟨#[]⟩,.int .u8 0,.slice none 0 0,.slice none 0 0,.slice none 0 0,.slice none 0 0,.slice none 0 0,.slice none 0 0,.bool false,.string ⟨#[]⟩]:=⟨_,rfl⟩;rw[←TU]at F5;have Zl:=cN TU;clear TU;go_wp2_with fail
 obtain⟨lo,hlo⟩:∃W,W=w4.heap.size:=⟨_,rfl⟩;have L0:=cN (Fl.start F5.o);rw[←hlo]at L0;have Qf:gO<lo:=L0.o.lt _ ag;have Ph:gX<lo:=L0.o.lt _ (au _ ag);have hgB:gB<lo:=L0.o.lt _ (au _ (au _ ag));have HT0:Hid (([]:List I.NS)=q.q.take 0):=rfl;have QG:=cN (Ro.nil fw w4 lo);clear hlo F5;go_loopg [4] q.q.length (fun gg i wr=>∃(ys:List I.NS) (A:Option Addr) (c:Nat),ys.length≤q.q.length∧gg=q.q.length-ys.length∧i=.int .i64 (ys.length:Int)∧Hid (ys=q.q.take ys.length)∧Hid (Ro fw wr lo (.slice A ys.length c) ys)∧Hid (Fl 0 w lo [(gO,30,#[.int .u8 (q.k.toNat:Int),.string (I.bs q.nm),.string (I.bs q.on),.string (I.bs q.NG),.int .u8 (q.ev.toNat:Int),.slice B1 q.NH.length QN,.slice A ys.length c,.slice none 0 0,.slice none 0 0,.slice B5 q.wh.length QY,.slice none 0 0,.bool q.opt,.string (I.bs q.key)]),(gX,30,ZA),(gB,30,BA)] [It.rr NI (.slice B5 q.wh.length QY) q.wh,It.rr eM (.slice B1 q.NH.length QN) q.NH] (Kp w) wr));case atStart=>exact⟨[],none,0,ao _,rfl,rfl,HT0,QG,L0⟩
 case round=>
  clear HT0 QG L0;obtain⟨ys,Qy,Qz,hk,rfl,rfl,HT,HO,HL⟩:=hrel;obtain⟨NN,hw⟩:∃W,W=wr:=⟨_,rfl⟩;subst hw;have Ou:=cN HL.o.fr.bel;have QJ:=HL.o.l2;have Pt:=Ou.o.size;have hcap:=HO.o.form;have e0:=HL.o.fr.cQ.cell 6;have d0:=HL.o.fr.dR.cell 6;rw[UP.o]at d0;simp at e0 d0;have OF:gO<NN.heap.size:=by omega
  have Ov:gB<NN.heap.size:=by omega
  by_cases hlt:ys.length<q.q.length
  ·obtain⟨g,off,c9,x,cs,hv,q1,q2,hg,hi,hr,hl2,hra⟩:=R2.o.range hlt;injection hv with e1 e2 e3
   subst e1 e3;clear e2 q1 q2;have hm:=aR hi;have HM:=cN hm;have HT1:Hid (ys++[x]=q.q.take (ys.length+1)):=by show _=_;rw[bq,hi,←HT.o];rfl
   have t1:decide ((ys.length:Int)<(q.q.length:Int))=true:=aq (by omega);have b1:(ys.length:Int)<(q.q.length:Int):=by omega
   have PJ:g<NN.heap.size:=by omega
   clear hi hm;have RX:=cN (rangeAt.up hra hg Ou.o);have IX:=cN (show(Tryz.prog.info? 45).map (·.size)=some cs.length by rw[hl2];exact lM);have HX:=cN (El.hp (E:=fw) hr (P':=fun b=>b<NN.heap.size) (fun b hb=>aB hb Pt) (fun b hb=>Ou.o.block b hb));have HQS:=cN (Qw.o.qs x HM.o);clear hra hr hl2;go_upto_region 7 with fail
   have hTs:=dZ (l:=[(7,(fun v w'=>NN.heap.size≤w'.heap.size∧∀cs',v=.agg cs'.toArray→fw.R w' (In NN.heap.size w'.heap.size) cs' x))]) (fun p hp=>by
    simp only[af,aj,aH]at hp
    subst hp
    exact fun v w1' w2' h hb=>⟨aw h.1 hb.size,fun cs' e=>El.hp (h.2 cs' e) (fun b hk=>⟨hk.1,aB hk.2 hb.size⟩) fun b hk=>hb.block b hk.2⟩)
   have OT:=eY (l:=[(7,fun v=>∃P1 p1 P2 p2 P3 p3 P4 p4 P5 p5,v=.agg #[.bool x.all,.slice P1 x.its.length p1,.slice P2 x.fr.length p2,.slice P3 x.wh.length p3,.slice P4 x.gr.length p4,.slice P5 x.od.length p5,.int .i64 x.lim])]) (fun p hp=>by
    simp only[af,aj,aH]at hp
    subst hp
    exact⟨_,none,0,none,0,none,0,none,0,none,0,rfl⟩)
   have OH:=cN hTs;have Pk:=cN OT;clear hTs OT;refine db (tab [(7,(fun v w'=>NN.heap.size≤w'.heap.size∧∀cs',v=.agg cs'.toArray→fw.R w' (In NN.heap.size w'.heap.size) cs' x))]) (Up NN) (NN.heap.size) 9 (Qe [(7,fun v=>∃P1 p1 P2 p2 P3 p3 P4 p4 P5 p5,v=.agg #[.bool x.all,.slice P1 x.its.length p1,.slice P2 x.fr.length p2,.slice P3 x.wh.length p3,.slice P4 x.gr.length p4,.slice P5 x.od.length p5,.int .i64 x.lim])]) (Pk.o) (OH.o) (Up.dX _) OM (OM.turns (Up.dX _) (OH.o)) (by kernel_rfl) (by kernel_rfl) (Up.start _) (aa _) ?_;simp only[List.take_succ_cons,List.take_zero,List.drop_succ_cons,List.drop_zero];iterate 7 (first|(refine cP (.agg (cs).toArray) rfl rfl (fun w' hS=>gK 45 (.tmp 32) rfl g (off+ys.length*7) rfl (cs) _ (rangeAt.up RX.o PJ hS) qA rfl IX.o) ?_;go_frame)|(refine cP ?_ rfl rfl (fun w' hS=>?_) ?_;rotate_left;(first|(go_simp;rfl)|(have l0:=(hS.cell (p:=⟨gO,6,none⟩) OF).trans e0;go_simp;rfl)|(have l0:=(hS.cell (p:=⟨gB,6,none⟩) Ov).trans d0;go_simp;rfl));go_frame))
   refine' du _ _ _ rfl rfl (fun w'=>?_) (fun w' hS hh hs=>?_) (fun v7 h7=>?_);rotate_left 2
   ·go_simp;constructor<;>rfl
   ·refine(wO w' cs x (by have:=hS.size;omega) HQS.o (El.hp (E:=fw) HX.o (P':=fun b=>b<w'.heap.size) (fun b hb=>aB hb hS.size) (fun b hb=>hS.block b hb))).mono ?_;rintro e w9 ⟨Zn,rfl,OL,PH⟩;obtain⟨P1,p1,P2,p2,P3,p3,P4,p4,P5,p5,rfl⟩:=LV OL;exact⟨_,rfl,⟨⟨P1,p1,P2,p2,P3,p3,P4,p4,P5,p5,rfl⟩,aw hh PH.size,fun cs' e=>by
     obtain rfl:=qw e
     exact El.hp (E:=fw) OL (fun b hk=>⟨aw hh hk.1,hk.2⟩) fun _ _=>rfl⟩,PH⟩
   obtain⟨P1,p1,P2,p2,P3,p3,P4,p4,P5,p5,rfl⟩:=h7;go_frame;refine dJ (some (1,1)) (.cells #[.bool x.all,.slice P1 x.its.length p1,.slice P2 x.fr.length p2,.slice P3 x.wh.length p3,.slice P4 x.gr.length p4,.slice P5 x.od.length p5,.int .i64 x.lim] 45) rfl rfl (fun w' hS=>?_) fun g8=>?_
   ·go_simp;rfl
   go_frame;refine dz fun w2 hH=>?_
   have h8:=hH.told 7 _ _ rfl rfl;have hG:w2.heap[g8]?=some (.cells #[.bool x.all,.slice P1 x.its.length p1,.slice P2 x.fr.length p2,.slice P3 x.wh.length p3,.slice P4 x.gr.length p4,.slice P5 x.od.length p5,.int .i64 x.lim] 45):=(hH.gh 8 _ _ rfl).1;have hup:Below NN.heap.size NN w2:=hH.s;have HG:=cN hG;have hs2:=hup.size;have L2:=cN (HL.o.pB hup);have OD:=cN (HO.o.below hup);have Px:=cN (show fw.R w2 (Pow w2 lo (.slice Qy ys.length Qz)) [.bool x.all,.slice P1 x.its.length p1,.slice P2 x.fr.length p2,.slice P3 x.wh.length p3,.slice P4 x.gr.length p4,.slice P5 x.od.length p5,.int .i64 x.lim] x from HO.o.pow (by omega) (Q:=In NN.heap.size w2.heap.size) (h8.2 _ rfl) fun b hb=>hb);have QH:=cN (show(ys.length+1)*136≤140737488355328 by have:=Qw.o.q;omega);have hz2:lo≤w2.heap.size:=by omega
   clear hH h8 hG hup HL HO e0 d0 OH Pk;go_wp2_with (at_builtin;refine eW DR rfl (.tmp 28) (.tmp 35) Tryz.underlying24 rfl lo _ ys rfl OD.o g8 1 [.bool x.all,.slice P1 x.its.length p1,.slice P2 x.fr.length p2,.slice P3 x.wh.length p3,.slice P4 x.gr.length p4,.slice P5 x.od.length p5,.int .i64 x.lim] x rfl HG.o Px.o QH.o (by have:=QH.o;unfold maxLen;omega) hz2 ?_;intro v24 QV OG QK O2;obtain⟨OW,c24,hv24,QL⟩:=OG.form;rw[ah,aD]at hv24;subst hv24;clear QL;have PC:=cN OG;have Qb:=cN (L2.o.low O2);clear OG QK O2;have PF:=Qb.o.cQ.cell 6;have QU:=Qb.o.cQ.frozen 6;simp at PF)
   obtain⟨RD,hw⟩:∃W,W=QV.setCell ⟨gO,6,none⟩ (.slice OW (ys.length+1) c24):=⟨_,rfl⟩;have RF:=cN (Qb.o.ew 6 (.slice OW (ys.length+1) c24) (cs':=#[.int .u8 (q.k.toNat:Int),.string (I.bs q.nm),.string (I.bs q.on),.string (I.bs q.NG),.int .u8 (q.ev.toNat:Int),.slice B1 q.NH.length QN,.slice OW (ys.length+1) c24,.slice none 0 0,.slice none 0 0,.slice B5 q.wh.length QY,.slice none 0 0,.bool q.opt,.string (I.bs q.key)]) rfl);have QM:Hid (Ro fw RD lo (.slice OW (ys.length+1) c24) (ys++[x])):=hw▸PC.o.dH (fun b h1 _=>aU QV ⟨gO,6,none⟩ _ b (by show b≠gO;omega)) (by simp);rw[←hw]at RF⊢;clear hw Qb PC L2 OD Px PF QU;go_wp2_with fail
   go_roundg (q.q.length-(ys.length+1));case measure=>omega
   case rel=>exact⟨ys++[x],OW,c24,by simp;omega,by simp,by simp,by rw[ah,aD];exact HT1,by rw[ah,aD];exact QM,by rw[ah,aD];exact RF⟩
  ·have hlen:ys.length=q.q.length:=by omega
   have t1:decide ((ys.length:Int)<(q.q.length:Int))=false:=ar (by omega);have HE:Hid (ys=q.q):=by have h1:=HT.o;rw[hlen,aS (aa _)]at h1;exact h1
   have F20:=cN (HL.o.done HO.o);rw[hlen,HE.o]at F20;clear hlen HE HT HO HL hcap hk OF Ov QJ Pt Ou Qf Ph hgB e0;obtain⟨Ry,hw⟩:∃W,W=NN:=⟨_,rfl⟩;subst hw;go_wp2_with fail
   obtain⟨lo,hlo⟩:∃W,W=Ry.heap.size:=⟨_,rfl⟩;have L0:=cN (Fl.start F20.o);rw[←hlo]at L0;have Qf:gO<lo:=L0.o.lt _ ag;have Ph:gX<lo:=L0.o.lt _ (au _ ag);have hgB:gB<lo:=L0.o.lt _ (au _ (au _ ag));have HT0:Hid (([]:List (List Ev.Ex))=q.vals.take 0):=rfl;have QG:=cN (Ro.nil fO Ry lo);clear hlo F20;go_loopg [5] q.vals.length (fun gg i wr=>∃(ys:List (List Ev.Ex)) (A:Option Addr) (c:Nat),ys.length≤q.vals.length∧gg=q.vals.length-ys.length∧i=.int .i64 (ys.length:Int)∧Hid (ys=q.vals.take ys.length)∧Hid (Ro fO wr lo (.slice A ys.length c) ys)∧Hid (Fl 0 w lo [(gO,30,#[.int .u8 (q.k.toNat:Int),.string (I.bs q.nm),.string (I.bs q.on),.string (I.bs q.NG),.int .u8 (q.ev.toNat:Int),.slice B1 q.NH.length QN,.slice Qy q.q.length Qz,.slice A ys.length c,.slice none 0 0,.slice B5 q.wh.length QY,.slice none 0 0,.bool q.opt,.string (I.bs q.key)]),(gX,30,ZA),(gB,30,BA)] [It.rr fw (.slice Qy q.q.length Qz) q.q,It.rr NI (.slice B5 q.wh.length QY) q.wh,It.rr eM (.slice B1 q.NH.length QN) q.NH] (Kp w) wr));case atStart=>exact⟨[],none,0,ao _,rfl,rfl,HT0,QG,L0⟩
   case round=>
    clear HT0 QG L0;obtain⟨ys,Rn,Rp,hk,rfl,rfl,HT,HO,HL⟩:=hrel;obtain⟨NN,hw⟩:∃W,W=wr:=⟨_,rfl⟩;subst hw;have Ou:=cN HL.o.fr.bel;have QJ:=HL.o.l2;have Pt:=Ou.o.size;have hcap:=HO.o.form;have e0:=HL.o.fr.cQ.cell 7;have d0:=HL.o.fr.dR.cell 7;rw[UP.o]at d0;simp at e0 d0;have OF:gO<NN.heap.size:=by omega
    have Ov:gB<NN.heap.size:=by omega
    by_cases hlt:ys.length<q.vals.length
    ·obtain⟨g,off,c9,x,cs,hv,q1,q2,hg,hi,hr,hl2,hra⟩:=R3.o.range hlt;injection hv with e1 e2 e3
     subst e1 e3;clear e2 q1 q2;have hm:=aR hi;have HM:=cN hm;have HT1:Hid (ys++[x]=q.vals.take (ys.length+1)):=by show _=_;rw[bq,hi,←HT.o];rfl
     have t1:decide ((ys.length:Int)<(q.vals.length:Int))=true:=aq (by omega);have b1:(ys.length:Int)<(q.vals.length:Int):=by omega
     have PJ:g<NN.heap.size:=by omega
     clear hi hm;obtain⟨v0,rfl,OL⟩:=hr;obtain⟨Ae,cE,rfl,_,_⟩:=OL.form;have HX:=cN (Rr.hp OL (P':=fun b=>b<NN.heap.size) (fun b hb=>aB hb Pt) (fun b hb=>Ou.o.block b hb));have Pc:=rangeAt.up hra hg Ou.o;have b0:NN.cell? ⟨g,off+ys.length,none⟩=some (.slice Ae x.length cE):=by have:=rangeAt.c Pc 0 rfl;rw[show fO.k=1 from rfl,bZ]at this;exact this
     have TV:=cN (Qw.o.vs x HM.o);have HON:=cN (show x.length*NI.by'≤140737488355328 from TV.o);clear hra Pc OL TV;go_upto_region 11 with fail
     have hTs:=dZ (l:=[(7,(fun v w'=>NN.heap.size≤w'.heap.size∧Rr NI w' (In NN.heap.size w'.heap.size) v x))]) (fun p hp=>by
      simp only[af,aj,aH]at hp
      subst hp
      exact fun v w1' w2' h hb=>⟨aw h.1 hb.size,h.2.hp (fun b hk=>⟨hk.1,aB hk.2 hb.size⟩) fun b hk=>hb.block b hk.2⟩)
     have OT:=eY (l:=[(7,kU x.length)]) (fun p hp=>by
      simp only[af,aj,aH]at hp
      subst hp
      exact kU.some _)
     have OH:=cN hTs;have Pk:=cN OT;clear hTs OT;refine db (tab [(7,(fun v w'=>NN.heap.size≤w'.heap.size∧Rr NI w' (In NN.heap.size w'.heap.size) v x))]) (Up NN) (NN.heap.size) 9 (Qe [(7,kU x.length)]) (Pk.o) (OH.o) (Up.dX _) OM (OM.turns (Up.dX _) (OH.o)) (by kernel_rfl) (by kernel_rfl) (Up.start _) (aa _) ?_;simp only[List.take_succ_cons,List.take_zero,List.drop_succ_cons,List.drop_zero];iterate 7 (refine cP ?_ rfl rfl (fun w' hS=>?_) ?_;rotate_left;(first|(go_simp;rfl)|(have l0:=(hS.cell (p:=⟨gO,7,none⟩) OF).trans e0;go_simp;rfl)|(have l0:=(hS.cell (p:=⟨gB,7,none⟩) Ov).trans d0;go_simp;rfl)|(have l0:=(hS.cell (p:=⟨g,off+ys.length,none⟩) PJ).trans b0;go_simp;rfl));go_frame)
     refine' du _ _ _ rfl rfl (fun w'=>?_) (fun w' hS hh hs=>?_) (fun v7 h7=>?_);rotate_left 2
     ·go_simp;constructor<;>rfl
     ·refine(fS w' (.slice Ae x.length cE) x (by have:=hS.size;omega) HON.o (fun _ _=>trivial) (Rr.up HX.o hS)).mono ?_;rintro e w9 ⟨v9,rfl,OL,PH⟩;obtain⟨A9,c9,rfl,_,_⟩:=OL.form;exact⟨_,rfl,⟨⟨A9,c9,rfl⟩,aw hh PH.size,Rr.hp OL (fun b hk=>⟨aw hh hk.1,hk.2⟩) fun _ _=>rfl⟩,PH⟩
     obtain⟨A8,c8,rfl⟩:=h7;go_frame;refine dJ (some (1,1)) (.cells #[.slice A8 x.length c8] 27) rfl rfl (fun w' hS=>?_) fun g8=>?_
     ·go_simp;rfl
     go_frame;refine dz fun w2 hH=>?_
     have h8:=hH.told 7 _ _ rfl rfl;have hG:w2.heap[g8]?=some (.cells #[.slice A8 x.length c8] 27):=(hH.gh 8 _ _ rfl).1;have hup:Below NN.heap.size NN w2:=hH.s;have HG:=cN hG;have hs2:=hup.size;have L2:=cN (HL.o.pB hup);have OD:=cN (HO.o.below hup);have Px:=cN (show fO.R w2 (Pow w2 lo (.slice Rn ys.length Rp)) [.slice A8 x.length c8] x from HO.o.pow (by omega) (Q:=In NN.heap.size w2.heap.size) (⟨_,rfl,h8.2⟩) fun b hb=>hb);have QH:=cN (show(ys.length+1)*24≤140737488355328 by have:=Qw.o.vals;omega);have hz2:lo≤w2.heap.size:=by omega
     clear hH h8 hG hup HL HO e0 d0 OH Pk;go_wp2_with (at_builtin;refine eW tJ rfl (.tmp 46) (.tmp 53) Tryz.underlying25 rfl lo _ ys rfl OD.o g8 1 [.slice A8 x.length c8] x rfl HG.o Px.o QH.o (by have:=QH.o;unfold maxLen;omega) hz2 ?_;intro v24 QV OG QK O2;obtain⟨OW,c24,hv24,QL⟩:=OG.form;rw[ah,aD]at hv24;subst hv24;clear QL;have PC:=cN OG;have Qb:=cN (L2.o.low O2);clear OG QK O2;have PF:=Qb.o.cQ.cell 7;have QU:=Qb.o.cQ.frozen 7;simp at PF)
     obtain⟨RD,hw⟩:∃W,W=QV.setCell ⟨gO,7,none⟩ (.slice OW (ys.length+1) c24):=⟨_,rfl⟩;have RF:=cN (Qb.o.ew 7 (.slice OW (ys.length+1) c24) (cs':=#[.int .u8 (q.k.toNat:Int),.string (I.bs q.nm),.string (I.bs q.on),.string (I.bs q.NG),.int .u8 (q.ev.toNat:Int),.slice B1 q.NH.length QN,.slice Qy q.q.length Qz,.slice OW (ys.length+1) c24,.slice none 0 0,.slice B5 q.wh.length QY,.slice none 0 0,.bool q.opt,.string (I.bs q.key)]) rfl);have QM:Hid (Ro fO RD lo (.slice OW (ys.length+1) c24) (ys++[x])):=hw▸PC.o.dH (fun b h1 _=>aU QV ⟨gO,7,none⟩ _ b (by show b≠gO;omega)) (by simp);rw[←hw]at RF⊢;clear hw Qb PC L2 OD Px PF QU;go_wp2_with fail
     go_roundg (q.vals.length-(ys.length+1));case measure=>omega
     case rel=>exact⟨ys++[x],OW,c24,by simp;omega,by simp,by simp,by rw[ah,aD];exact HT1,by rw[ah,aD];exact QM,by rw[ah,aD];exact RF⟩
    ·have hlen:ys.length=q.vals.length:=by omega
     have t1:decide ((ys.length:Int)<(q.vals.length:Int))=false:=ar (by omega);have HE:Hid (ys=q.vals):=by have h1:=HT.o;rw[hlen,aS (aa _)]at h1;exact h1
     have F20:=cN (HL.o.done HO.o);rw[hlen,HE.o]at F20;clear hlen HE HT HO HL hcap hk OF Ov QJ Pt Ou Qf Ph hgB e0;obtain⟨TW,hw⟩:∃W,W=NN:=⟨_,rfl⟩;subst hw;go_wp2_with fail
     obtain⟨lo,hlo⟩:∃W,W=TW.heap.size:=⟨_,rfl⟩;have L0:=cN (Fl.start F20.o);rw[←hlo]at L0;have Qf:gO<lo:=L0.o.lt _ ag;have Ph:gX<lo:=L0.o.lt _ (au _ ag);have hgB:gB<lo:=L0.o.lt _ (au _ (au _ ag));have HT0:Hid (([]:List I.OI)=q.dD.take 0):=rfl;have QG:=cN (Ro.nil fG TW lo);clear hlo F20;go_loopg [6] q.dD.length (fun gg i wr=>∃(ys:List I.OI) (A:Option Addr) (c:Nat),ys.length≤q.dD.length∧gg=q.dD.length-ys.length∧i=.int .i64 (ys.length:Int)∧Hid (ys=q.dD.take ys.length)∧Hid (Ro fG wr lo (.slice A ys.length c) ys)∧Hid (Fl 0 w lo [(gO,30,#[.int .u8 (q.k.toNat:Int),.string (I.bs q.nm),.string (I.bs q.on),.string (I.bs q.NG),.int .u8 (q.ev.toNat:Int),.slice B1 q.NH.length QN,.slice Qy q.q.length Qz,.slice Rn q.vals.length Rp,.slice A ys.length c,.slice B5 q.wh.length QY,.slice none 0 0,.bool q.opt,.string (I.bs q.key)]),(gX,30,ZA),(gB,30,BA)] [It.rr fO (.slice Rn q.vals.length Rp) q.vals,It.rr fw (.slice Qy q.q.length Qz) q.q,It.rr NI (.slice B5 q.wh.length QY) q.wh,It.rr eM (.slice B1 q.NH.length QN) q.NH] (Kp w) wr));case atStart=>exact⟨[],none,0,ao _,rfl,rfl,HT0,QG,L0⟩
     case round=>
      clear HT0 QG L0;obtain⟨ys,Tj,Tk,hk,rfl,rfl,HT,HO,HL⟩:=hrel;obtain⟨NN,hw⟩:∃W,W=wr:=⟨_,rfl⟩;subst hw;have Ou:=cN HL.o.fr.bel;have QJ:=HL.o.l2;have Pt:=Ou.o.size;have hcap:=HO.o.form;have e0:=HL.o.fr.cQ.cell 8;have d0:=HL.o.fr.dR.cell 8;rw[UP.o]at d0;simp at e0 d0;have OF:gO<NN.heap.size:=by omega
      have Ov:gB<NN.heap.size:=by omega
      by_cases hlt:ys.length<q.dD.length
      ·obtain⟨g,off,c9,x,cs,hv,q1,q2,hg,hi,hr,hl2,hra⟩:=R4.o.range hlt;injection hv with e1 e2 e3
       subst e1 e3;clear e2 q1 q2;have hm:=aR hi;have HM:=cN hm;have HT1:Hid (ys++[x]=q.dD.take (ys.length+1)):=by show _=_;rw[bq,hi,←HT.o];rfl
       have t1:decide ((ys.length:Int)<(q.dD.length:Int))=true:=aq (by omega);have b1:(ys.length:Int)<(q.dD.length:Int):=by omega
       have PJ:g<NN.heap.size:=by omega
       clear hi hm;obtain⟨ce,rfl,OL,Zm⟩:=hr;obtain⟨nm,⟨H,ks⟩⟩:=x;obtain⟨Ae,cE,rfl⟩:=rM OL;have HX:=cN (El.hp (E:=NI) OL (P':=fun b=>b<NN.heap.size) (fun b hb=>aB hb Pt) (fun b hb=>Ou.o.block b hb));have Pc:=rangeAt.up hra hg Ou.o;have RX:=cN (rangeAt.M5 Pc);have IX:=cN (show(Tryz.prog.info? 50).map (·.size)=some (cT H Ae ks.length cE).length from by kernel_rfl);have b0:NN.cell? ⟨g,off+ys.length*9,none⟩=some (.string (I.bs nm)):=rangeAt.c Pc 0 rfl;clear hra Pc OL;go_upto_region 15 with fail
       have hTs:=dZ (l:=[(14,(fun v w'=>NN.heap.size≤w'.heap.size∧∀cs',v=.agg cs'.toArray→NI.R w' (In NN.heap.size w'.heap.size) cs' (.mk H ks)))]) (fun p hp=>by
        simp only[af,aj,aH]at hp
        subst hp
        exact fun v w1' w2' h hb=>⟨aw h.1 hb.size,fun cs' e=>El.hp (h.2 cs' e) (fun b hk=>⟨hk.1,aB hk.2 hb.size⟩) fun b hk=>hb.block b hk.2⟩)
       have OT:=eY (l:=[(14,fun v=>∃A c,v=.agg #[.int .u8 (H.o.toNat:Int),.int .u8 (H.v.k.toNat:Int),.int .i64 H.v.n,.string H.v.s,.string H.nm,.string H.of,.int .i64 H.n,.slice A ks.length c])]) (fun p hp=>by
        simp only[af,aj,aH]at hp
        subst hp
        exact⟨_,none,0,rfl⟩)
       have OH:=cN hTs;have Pk:=cN OT;clear hTs OT;refine db (tab [(14,(fun v w'=>NN.heap.size≤w'.heap.size∧∀cs',v=.agg cs'.toArray→NI.R w' (In NN.heap.size w'.heap.size) cs' (.mk H ks)))]) (Up NN) (NN.heap.size) 17 (Qe [(14,fun v=>∃A c,v=.agg #[.int .u8 (H.o.toNat:Int),.int .u8 (H.v.k.toNat:Int),.int .i64 H.v.n,.string H.v.s,.string H.nm,.string H.of,.int .i64 H.n,.slice A ks.length c])]) (Pk.o) (OH.o) (Up.dX _) OM (OM.turns (Up.dX _) (OH.o)) (by kernel_rfl) (by kernel_rfl) (Up.start _) (aa _) ?_;simp only[List.take_succ_cons,List.take_zero,List.drop_succ_cons,List.drop_zero];iterate 14 (first|(refine cP (.agg (cT H Ae ks.length cE).toArray) rfl rfl (fun w' hS=>gK 50 (.tmp 75) rfl g (off+ys.length*9+1) rfl (cT H Ae ks.length cE) _ (rangeAt.up RX.o PJ hS) kP rfl IX.o) ?_;go_frame)|(refine cP ?_ rfl rfl (fun w' hS=>?_) ?_;rotate_left;(first|(go_simp;rfl)|(have l0:=(hS.cell (p:=⟨gO,8,none⟩) OF).trans e0;go_simp;rfl)|(have l0:=(hS.cell (p:=⟨gB,8,none⟩) Ov).trans d0;go_simp;rfl)|(have l0:=(hS.cell (p:=⟨g,off+ys.length*9,none⟩) PJ).trans b0;go_simp;rfl));go_frame))
       refine' du _ _ _ rfl rfl (fun w'=>?_) (fun w' hS hh hs=>?_) (fun v14 h14=>?_);rotate_left 2
       ·go_simp;constructor<;>rfl
       ·refine(lz w' (cT H Ae ks.length cE) (.mk H ks) (by have:=hS.size;omega) trivial (El.hp (E:=NI) HX.o (P':=fun b=>b<w'.heap.size) (fun b hb=>aB hb hS.size) (fun b hb=>hS.block b hb))).mono ?_;rintro e w9 ⟨Zn,rfl,OL,PH⟩;obtain⟨A9,c9,rfl⟩:=rM OL;exact⟨_,rfl,⟨⟨A9,c9,rfl⟩,aw hh PH.size,fun cs' e=>by
         obtain rfl:=qw e
         exact El.hp (E:=NI) OL (fun b hk=>⟨aw hh hk.1,hk.2⟩) fun _ _=>rfl⟩,PH⟩
       obtain⟨A8,c8,rfl⟩:=h14;go_frame;refine cP ?_ rfl rfl (fun w' hS=>?_) ?_;rotate_left
       ·go_simp;rfl
       go_frame;refine dJ (some (1,1)) (.cells #[.string (I.bs nm),.int .u8 (H.o.toNat:Int),.int .u8 (H.v.k.toNat:Int),.int .i64 H.v.n,.string H.v.s,.string H.nm,.string H.of,.int .i64 H.n,.slice A8 ks.length c8] 85) rfl rfl (fun w' hS=>?_) fun g16=>?_
       ·go_simp;rfl
       go_frame;refine dz fun w2 hH=>?_
       have h8:=hH.told 14 _ _ rfl rfl;have hG:w2.heap[g16]?=some (.cells #[.string (I.bs nm),.int .u8 (H.o.toNat:Int),.int .u8 (H.v.k.toNat:Int),.int .i64 H.v.n,.string H.v.s,.string H.nm,.string H.of,.int .i64 H.n,.slice A8 ks.length c8] 85):=(hH.gh 16 _ _ rfl).1;have hup:Below NN.heap.size NN w2:=hH.s;have HG:=cN hG;have hs2:=hup.size;have L2:=cN (HL.o.pB hup);have OD:=cN (HO.o.below hup);have Px:=cN (show fG.R w2 (Pow w2 lo (.slice Tj ys.length Tk)) [.string (I.bs nm),.int .u8 (H.o.toNat:Int),.int .u8 (H.v.k.toNat:Int),.int .i64 H.v.n,.string H.v.s,.string H.nm,.string H.of,.int .i64 H.n,.slice A8 ks.length c8] (⟨nm,.mk H ks⟩:I.OI)from HO.o.pow (by omega) (Q:=In NN.heap.size w2.heap.size) (⟨_,rfl,h8.2 _ rfl,Zm⟩) fun b hb=>hb);have QH:=cN (show(ys.length+1)*120≤140737488355328 by have:=Qw.o.dD;omega);have hz2:lo≤w2.heap.size:=by omega
       clear hH h8 hG hup HL HO e0 d0 OH Pk;go_wp2_with (at_builtin;refine eW qO rfl (.tmp 64) (.tmp 79) Tryz.underlying26 rfl lo _ ys rfl OD.o g16 1 [.string (I.bs nm),.int .u8 (H.o.toNat:Int),.int .u8 (H.v.k.toNat:Int),.int .i64 H.v.n,.string H.v.s,.string H.nm,.string H.of,.int .i64 H.n,.slice A8 ks.length c8] (⟨nm,.mk H ks⟩:I.OI) rfl HG.o Px.o QH.o (by have:=QH.o;unfold maxLen;omega) hz2 ?_;intro v24 QV OG QK O2;obtain⟨OW,c24,hv24,QL⟩:=OG.form;rw[ah,aD]at hv24;subst hv24;clear QL;have PC:=cN OG;have Qb:=cN (L2.o.low O2);clear OG QK O2;have PF:=Qb.o.cQ.cell 8;have QU:=Qb.o.cQ.frozen 8;simp at PF)
       obtain⟨RD,hw⟩:∃W,W=QV.setCell ⟨gO,8,none⟩ (.slice OW (ys.length+1) c24):=⟨_,rfl⟩;have RF:=cN (Qb.o.ew 8 (.slice OW (ys.length+1) c24) (cs':=#[.int .u8 (q.k.toNat:Int),.string (I.bs q.nm),.string (I.bs q.on),.string (I.bs q.NG),.int .u8 (q.ev.toNat:Int),.slice B1 q.NH.length QN,.slice Qy q.q.length Qz,.slice Rn q.vals.length Rp,.slice OW (ys.length+1) c24,.slice B5 q.wh.length QY,.slice none 0 0,.bool q.opt,.string (I.bs q.key)]) rfl);have QM:Hid (Ro fG RD lo (.slice OW (ys.length+1) c24) (ys++[(⟨nm,.mk H ks⟩:I.OI)])):=hw▸PC.o.dH (fun b h1 _=>aU QV ⟨gO,8,none⟩ _ b (by show b≠gO;omega)) (by simp);rw[←hw]at RF⊢;clear hw Qb PC L2 OD Px PF QU;go_wp2_with fail
       go_roundg (q.dD.length-(ys.length+1));case measure=>omega
       case rel=>exact⟨ys++[(⟨nm,.mk H ks⟩:I.OI)],OW,c24,by simp;omega,by simp,by simp,by rw[ah,aD];exact HT1,by rw[ah,aD];exact QM,by rw[ah,aD];exact RF⟩
      ·have hlen:ys.length=q.dD.length:=by omega
       have t1:decide ((ys.length:Int)<(q.dD.length:Int))=false:=ar (by omega);have HE:Hid (ys=q.dD):=by have h1:=HT.o;rw[hlen,aS (aa _)]at h1;exact h1
       have F20:=cN (HL.o.done HO.o);rw[hlen,HE.o]at F20;clear hlen HE HT HO HL hcap hk OF Ov QJ Pt Ou Qf Ph hgB e0;obtain⟨w220,hw⟩:∃W,W=NN:=⟨_,rfl⟩;subst hw;have HB9:=cN F20.o.bel;have hl9:=F20.o.ch.size;have O0:=F20.o.cQ.cell 10;have OZ:=F20.o.dR.cell 10;rw[UP.o]at OZ;simp at O0 OZ;have Zu:=F20.o.cQ.frozen 10;have ZG:=F20.o.cQ.lt;go_upto_region 17 with(at_builtin;refine uK rfl (.tmp 83) (.tmp 85) rfl A6 q.pv.length c6 q.pv rfl rfl (Rr.up R6.o HB9.o) Qw.o.pv ?_;intro OW c24 QV OG O2;have Zq:=cN OG;have RN:=cN (F20.o.quiet O2);clear OG O2;have PF:=RN.o.cQ.cell 10;have QU:=RN.o.cQ.frozen 10;simp at PF)
       have TJ:=cN (((RN.o.item (It.rr jZ (.slice OW q.pv.length c24) q.pv) (Rr.hp Zq.o (fun b hb=>⟨aw hl9 hb.1,hb.2,fun p hp=>by have q1:=(F20.o.own p hp).2.lt;have q2:=hb.1;omega⟩) fun _ _=>rfl)).ew 10 (.slice OW q.pv.length c24) (cs':=#[.int .u8 (q.k.toNat:Int),.string (I.bs q.nm),.string (I.bs q.on),.string (I.bs q.NG),.int .u8 (q.ev.toNat:Int),.slice B1 q.NH.length QN,.slice Qy q.q.length Qz,.slice Rn q.vals.length Rp,.slice Tj q.dD.length Tk,.slice B5 q.wh.length QY,.slice OW q.pv.length c24,.bool q.opt,.string (I.bs q.key)]) rfl));obtain⟨RD,hw⟩:∃W,W=QV.setCell ⟨gO,10,none⟩ (.slice OW q.pv.length c24):=⟨_,rfl⟩;rw[←hw]at TJ;rw[←hw];clear hw F20 RN Zq O0 OZ Zu PF QU HB9 hl9 ZG;have TU:=Zl.o;clear Zl;subst TU;obtain⟨Om,On,Oo,Ox,Oy,Oz,OA,OK,OU,PI,Oc,Od,Oe⟩:=TJ.o.cQ.y13 0 1 2 3 4 5 6 7 8 9 10 11 12;simp at Om On Oo Ox Oy Oz OA OK OU PI Oc Od Oe;obtain⟨NU,NV,NW,NY,NZ,N0,N3,Og,Ot,OP,NP,NQ,NR⟩:=TJ.o.cR.y13 0 1 2 3 4 5 6 7 8 9 10 11 12;simp at NU NV NW NY NZ N0 N3 Og Ot OP NP NQ NR;obtain⟨O6,Pa,Pb,Pm,Pn,Pp,Pq,PQ,P9,QE,OQ,OR,OS⟩:=TJ.o.cR.Qj 0 1 2 3 4 5 6 7 8 9 10 11 12;clear t1 d0 hlt;go_wp2_with fail
       have FZ:=cN (TJ.o.fA (fZ (Ch.refl _ _ _) (.inl rfl) (.int .u8 (q.k.toNat:Int)) (.string (I.bs q.nm)) (.string (I.bs q.on)) (.string (I.bs q.NG)) (.int .u8 (q.ev.toNat:Int)) (.slice B1 q.NH.length QN) (.slice Qy q.q.length Qz) (.slice Rn q.vals.length Rp) (.slice Tj q.dD.length Tk) (.slice B5 q.wh.length QY) (.slice OW q.pv.length c24) (.bool q.opt) (.string (I.bs q.key))) (fe TJ.o.cR (.int .u8 (q.k.toNat:Int)) (.string (I.bs q.nm)) (.string (I.bs q.on)) (.string (I.bs q.NG)) (.int .u8 (q.ev.toNat:Int)) (.slice B1 q.NH.length QN) (.slice Qy q.q.length Qz) (.slice Rn q.vals.length Rp) (.slice Tj q.dD.length Tk) (.slice B5 q.wh.length QY) (.slice OW q.pv.length c24) (.bool q.opt) (.string (I.bs q.key))));refine ae (v:=.agg #[.int .u8 (q.k.toNat:Int),.string (I.bs q.nm),.string (I.bs q.on),.string (I.bs q.NG),.int .u8 (q.ev.toNat:Int),.slice B1 q.NH.length QN,.slice Qy q.q.length Qz,.slice Rn q.vals.length Rp,.slice Tj q.dD.length Tk,.slice B5 q.wh.length QY,.slice OW q.pv.length c24,.bool q.opt,.string (I.bs q.key)]) (av rfl _ _ gX 30 _ (0,0) _ rfl FZ.o.cR dd rfl cZ) rfl ?_;refine⟨[.int .u8 (q.k.toNat:Int),.string (I.bs q.nm),.string (I.bs q.on),.string (I.bs q.NG),.int .u8 (q.ev.toNat:Int),.slice B1 q.NH.length QN,.slice Qy q.q.length Qz,.slice Rn q.vals.length Rp,.slice Tj q.dD.length Tk,.slice B5 q.wh.length QY,.slice OW q.pv.length c24,.bool q.opt,.string (I.bs q.key)],rfl,?_,FZ.o.bel⟩;exact⟨_,_,_,_,_,_,rfl,FZ.o.TT (by simp only[af,bM,bO]),FZ.o.TT (by simp only[af,bM,bO]),FZ.o.TT (by simp only[af,bM,bO]),FZ.o.TT (by simp only[af,bM,bO]),FZ.o.TT (by simp only[af,bM,bO]),FZ.o.TT (by simp only[af,bM,bO]),HZ.o.1,HZ.o.2.1,HZ.o.2.2.1,HZ.o.2.2.2⟩
end
section
variable{w0 w:World}{own:eP}{its:List It}
theorem Fr.copy(F:Fr 0 w0 own its (Kp w0) w){cs:List Value}{s:I.NC}(hx:df.R w (fun b=>b<w.heap.size) cs s)(hl:Qp s):Calls Tryz.prog 12 #[.agg cs.toArray] w fun e w'=>∃cs',e=.returned (.agg cs'.toArray)∧Fr 0 w0 own (It.el df cs' s::its) (Kp w0) w':=by
 refine(wD w cs s (aB F.lt F.ch.size) hl hx).mono ?_;rintro e w' ⟨cs',rfl,hR,hb⟩;exact⟨cs',rfl,F.make (It.el df cs' s) hb hR⟩
theorem Fr.same(F:Fr 0 w0 own its (Kp w0) w){cs cs':List Value}{x y:I.NC}(hx:df.R w (fun b=>b<w.heap.size) cs x)(hy:df.R w (fun b=>b<w.heap.size) cs' y)(h:x=y):Calls Tryz.prog 10 #[.agg cs.toArray,.agg cs'.toArray] w fun e w'=>e=.returned (.bool true)∧Fr 0 w0 own its (Kp w0) w':=by
 subst h;refine(kStm w cs cs' x trivial hx hy).mono ?_;rintro e w' ⟨rfl,hb⟩;exact⟨rfl,F.quiet hb⟩
theorem Fr.kO(F:Fr 0 w0 own its (Kp w0) w)(hE:PD w0):Calls Tryz.prog 11 #[] w fun e w'=>e=.returned (.bool true)∧Fr 0 w0 own its (Kp w0) w':=by
 obtain⟨h1,h2,h3⟩:=hE.at F;refine(Ci w ⟨h1,h2,h3⟩).mono ?_;rintro e w' ⟨rfl,hb⟩;exact⟨rfl,F.quiet hb⟩
theorem Fr.again(h0:0<w0.heap.size)(hb:Below w0.heap.size w0 w):Fr 0 w0 [] [] (Kp w0) w:=
 ⟨h0,(jD w0).mv fun b hk=>hb.block b (by omega),⟨hb.os,hb.tape,hb.output,hb.size,fun k hk _=>hb.block k hk⟩,fun p hp=>by simp at hp,List.Pairwise.nil,fun F hF=>by simp at hF⟩
end
section
variable{w0 w w':World}{own:eP}{its:List It}
theorem iP{z:Array Value}{t:TypeId}{o:Obj}{n:Nat}(h:n=z.size):((w.alloc (.cells z t)).alloc o).there w.heap.size 0 n:=((NA.new w t z).alloc o).there h
theorem iU{o:Obj}{z:Array Value}{t:TypeId}{cs:List Value}{n:Nat}(h:n=z.size):(((w.alloc o).alloc (.cells z t)).setCells w.heap.size 0 cs).there (w.heap.size+1) 0 n:=by
 have h1:=NA.oK w o t z;have h2:=Ch.dD cs 0 (Ch.refl w.heap.size ((w.alloc o).alloc (.cells z t)).heap.size ((w.alloc o).alloc (.cells z t))) (.inl rfl);exact NA.there (t:=t) (cs:=z) ((h2.block (w.heap.size+1) (by simp) (by omega)).trans h1) h
theorem Fr.nP(F:Fr 0 w0 own its (Kp w0) w){z z2:Array Value}{t t2:TypeId}{cs vs:List Value}(hw:w'=(((w.alloc (.cells z t)).alloc (.cells z2 t2)).setCells w.heap.size 0 cs).setCells (w.heap.size+1) 0 vs)(h1:cs.length=z.size)(h2:vs.length=z2.size):Fr 0 w0 ((w.heap.size+1,t2,vs.toArray)::(w.heap.size,t,cs.toArray)::own) its (Kp w0) w':=by
 subst hw;have a:=(F.new t z).new t2 z2;rw[dc]at a;exact(a.BE cs h1).AT vs h2
theorem Fr.jc(F:Fr 0 w0 own its (Kp w0) w){b:Nat}{t:TypeId}{cs:List Value}(hm:(b,t,cs.toArray)∈own):w.rangeAt b 0 cs:=by
 have:=(F.sN hm).range;rwa [bV]at this
end
theorem nQ{w:World}{P:Nat→Prop}{cs:List Value}{s:I.NC}(h:df.R w P cs s):cs.toArray.all (·.oneCell')=true:=all_oneCell_toArray (df.one h)
theorem Wz(x y:Int):(#[Value.int .i64 x,Value.int .i64 y]).all (·.oneCell')=true:=all_oneCell_toArray (cs:=[_,_]) fun v hv=>by
 simp only[af,aj,aH]at hv
 rcases hv with rfl|rfl<;>rfl
end Go.Proofs.YtnicfobpclehkaaGreatDoor
