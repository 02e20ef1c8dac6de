import Derived.Test.YtnicfobpclehkaaGreatDoorP39
set_option maxHeartbeats 25600000
set_option linter.unusedVariables false
set_option linter.unusedSimpArgs false
namespace Go.Proofs.YtnicfobpclehkaaGreatDoor
open Go.RowKit
section
set_option maxRecDepth 100000
theorem Fr.MW{g:Nat}{w0 w w':World}{own:eP}{its:List It}{Q:World→Prop}{b:Nat}{t:TypeId}{cs:Array Value}{vs:List Value}(F:Fr g w0 ((b,t,cs)::own) its Q w)(h:w'=w.setCells b 0 vs)(hl:vs.length=cs.size):Fr g w0 ((b,t,vs.toArray)::own) its Q w':=by
 subst h;exact F.AT vs hl
theorem Fr.oK{g:Nat}{w0 w w1:World}{own:eP}{its:List It}{Q:World→Prop}{a b:Array Value}{t t':TypeId}(F:Fr g w0 own its Q w)(h:w1=(w.alloc (.cells a t)).alloc (.cells b t')):Fr g w0 ((w.heap.size+1,t',b)::(w.heap.size,t,a)::own) its Q w1:=by
 subst h;have h1:=(F.new t a).new t' b;rw[dc]at h1;exact h1
theorem Fr.TT{g:Nat}{w0 w:World}{own:eP}{its:List It}{Q:World→Prop}(h:Fr g w0 own its Q w){α:Type}{E:El α}{v:Value}{xs:List α}(hm:It.rr E v xs∈its):Rr E w (In w0.heap.size w.heap.size) v xs:=Rr.hp (h.its _ hm:Rr E w _ v xs) (fun _ hb=>⟨hb.1,hb.2.1⟩) fun _ _=>rfl
theorem qw{a b:List Value}(h:Value.agg a.toArray=Value.agg b.toArray):b=a:=by
 injection h with h
 have:=congrArg Array.toList h;simpa using this.symm
theorem rM{w:World}{P:Nat→Prop}{cs:List Value}{H:Ev.Hd}{ks:List Ev.Ex}(h:XR w P cs (.mk H ks)):∃A c,cs=cT H A ks.length c:=by
 obtain⟨h',A,m,c,ks',d,rfl,e,_,_,_,hk⟩:=h;injection e with e1 e2
 subst e1 e2;have:=hk.len.1;subst this;exact⟨A,c,rfl⟩
theorem LV{w:World}{P:Nat→Prop}{cs:List Value}{x:I.NS}(h:fw.R w P cs x):∃A1 c1 A2 c2 A3 c3 A4 c4 A5 c5,cs=[.bool x.all,.slice A1 x.its.length c1,.slice A2 x.fr.length c2,.slice A3 x.wh.length c3,.slice A4 x.gr.length c4,.slice A5 x.od.length c5,.int .i64 x.lim]:=by
 obtain⟨v1,v2,v3,v4,v5,rfl,r1,r2,r3,r4,r5,_⟩:=h;obtain⟨A1,c1,rfl,_⟩:=r1.form;obtain⟨A2,c2,rfl,_⟩:=r2.form;obtain⟨A3,c3,rfl,_⟩:=r3.form;obtain⟨A4,c4,rfl,_⟩:=r4.form;obtain⟨A5,c5,rfl,_⟩:=r5.form;exact⟨A1,c1,A2,c2,A3,c3,A4,c4,A5,c5,rfl⟩
theorem rangeAt.M5{w:World}{g o:Nat}{u:Value}{b:List Value}(h:w.rangeAt g o (u::b)):w.rangeAt g (o+1) b:=fun j v hv=>by
 have:=h (j+1) v (by simpa using hv)
 rw[show o+1+j=o+(j+1) by omega]
 exact this
theorem rangeAt.head{w:World}{g o:Nat}{a b:List Value}(h:w.rangeAt g o (a++b)):w.rangeAt g o a:=fun j v hv=>by
 obtain⟨hj,_⟩:=ay.1 hv
 exact h j v (by rw[ba hj];exact hv)
theorem rangeAt.c{w:World}{g o:Nat}{cs:List Value}(h:w.rangeAt g o cs)(j:Nat){v:Value}(hv:cs[j]?=some v):w.cell? ⟨g,o+j,none⟩=some v:=h j v hv
theorem Fl.pB{g lo:Nat}{w0 w w':World}{own:eP}{its:List It}{Q:World→Prop}(h:Fl g w0 lo own its Q w)(hb:Below w.heap.size w w'):Fl g w0 lo own its Q w':=by
 have hl:=h.fr.lt;have hs:=h.fr.ch.size;exact h.call (h.fr.ps.mv fun b hk=>hb.block b (by omega)) ⟨hb.os,hb.tape,hb.output,hb.size,fun k hk _=>hb.block k hk⟩
theorem O5.ne{w:World}{P:Nat→Prop}{k:Nat}(hk:∀(o:Nat) (n:Int),w.cell? ⟨k,o,none⟩≠some (.int .u8 n)):∀{d:Nat} {A:Option Addr} {m:Nat} {ks:List Ev.Ex},O5 w P d A m ks→O5 w (fun b=>P b∧b≠k) d A m ks:=by
 intro d;induction d with
 |zero=>intro A m ks h;exact h
 |succ d ih=>
  intro A m ks h;obtain⟨h1,h2,h3⟩:=h;refine⟨h1,h2,fun h0=>?_⟩;obtain⟨g,off,e,hg,hc⟩:=h3 h0;refine⟨g,off,e,⟨hg,?_⟩,fun i h ks' hi=>?_⟩
  ·rintro rfl;cases hq:ks[0]'(by omega)with
   |mk hd ks'=>
    obtain⟨_,_,c0,_⟩:=hc 0 hd ks' (by rw[aE (by omega),hq]);exact hk _ _ c0
  ·obtain⟨A',c',c0,c1,c2,c3,c4,c5,c6,c7,e1,e2,e3,e4⟩:=hc i h ks' hi;exact⟨A',c',c0,c1,c2,c3,c4,c5,c6,c7,e1,e2,e3,ih e4⟩
theorem Fj{w:World}{P:Nat→Prop}{k:Nat}(hk:∀(o:Nat) (n:Int),w.cell? ⟨k,o,none⟩≠some (.int .u8 n)){A:Option Addr}{n c:Nat}{xs:List Ev.Ex}(h:Rr NI w P (.slice A n c) xs)(hn:n*104≤140737488355328):Rr NI w (fun b=>P b∧b≠k) (.slice A n c) xs:=by
 obtain⟨d,hd⟩:=oX h hn;obtain⟨A',c',e,h1,h2,_⟩:=h;injection e with e1 e2 e3
 subst e2 e3;exact jK (hd.ne hk) h1 h2
theorem Fr.M3{g:Nat}{w0 w1 w:World}{own:eP}{its SQ:List It}{Q:World→Prop}(h1:Fr g w0 own its Q w1)(h:Fr g w0 own its Q w){b:Nat}{t:TypeId}{cs:Array Value}(hb:NA w b t cs)(hlo:w1.heap.size≤b)(hi:∀F∈SQ,F.P w (ju w0.heap.size ((b,t,cs)::own) w)):Fr g w0 ((b,t,cs)::own) SQ Q w:=by
 refine⟨h.lt,h.ps,h.ch,fun p hp=>?_,bW.2 ⟨fun p hp=>?_,h.nd⟩,hi⟩
 ·rcases af.1 hp with rfl|hp
  ·exact⟨aw h1.ch.size hlo,hb⟩
  ·exact h.own p hp
 ·have:=(h1.own p hp).2.lt;show b≠p.1;omega
def Lx(l:List Ev.Ex):Prop:=l.length*104≤140737488355328
structure SN (q:I.NS):Prop where
 its:q.its.length*120≤140737488355328
 fr:q.fr.length*56≤140737488355328
 on:∀s∈q.fr,Lx s.on
 wh:Lx q.wh
 gr:Lx q.gr
 od:q.od.length*112≤140737488355328
structure Qp (s:I.NC):Prop where
 NH:s.NH.length*72≤140737488355328
 ck:∀c∈s.NH,Lx c.ck
 q:s.q.length*136≤140737488355328
 qs:∀q∈s.q,SN q
 vals:s.vals.length*24≤140737488355328
 vs:∀l∈s.vals,Lx l
 dD:s.dD.length*120≤140737488355328
 wh:Lx s.wh
 pv:s.pv.length*1≤140737488355328
theorem wO:Wx fw 38 SN:=by
 intro w cs q h0 hp hx;have Qw:=cN hp;obtain⟨x1,x2,x3,x4,x5,rfl,r1,r2,r3,r4,r5,z1,z2⟩:=hx;obtain⟨A1,c1,rfl,_,_⟩:=r1.form;obtain⟨A2,c2,rfl,_,_⟩:=r2.form;obtain⟨A3,c3,rfl,_,_⟩:=r3.form;obtain⟨A4,c4,rfl,_,_⟩:=r4.form;obtain⟨A5,c5,rfl,_,_⟩:=r5.form;have R1:=cN r1;have R2:=cN r2;have R3:=cN r3;have R4:=cN r4;have R5:=cN r5;have HZ:=cN (And.intro z1 z2);clear hp r1 r2 r3 r4 r5 z1 z2;show Calls Tryz.prog 38 #[.agg #[.bool q.all,.slice A1 q.its.length c1,.slice A2 q.fr.length c2,.slice A3 q.wh.length c3,.slice A4 q.gr.length c4,.slice A5 q.od.length c5,.int .i64 q.lim]] w _;have F0:=cN (Fr.start h0 (jD w));go_enter Tryz.func38,Tryz.ntmps38;go_upto_region 1 with fail
 refine P8 fun w1 hw=>?_
 have F1:=cN (F0.o.oK hw);clear hw;obtain⟨gX,Ph⟩:∃g,g=w.heap.size+1:=⟨_,rfl⟩;obtain⟨gB,hgB⟩:∃g,g=w.heap.size:=⟨_,rfl⟩;rw[←Ph,←hgB]at F1;rw[←Ph,←hgB];clear Ph hgB;have hB1:=F1.o.cR.lt;have hs1:=F1.o.ch.size;have HB1:=cN F1.o.bel;obtain⟨d0,d3,d4,d6⟩:=F1.o.cR.y4 0 3 4 6;simp at d0 d3 d4 d6;obtain⟨BA,Xp⟩:∃a:Array Value,a=#[.bool q.all,.slice A1 q.its.length c1,.slice A2 q.fr.length c2,.slice A3 q.wh.length c3,.slice A4 q.gr.length c4,.slice A5 q.od.length c5,.int .i64 q.lim]:=⟨_,rfl⟩;rw[←Xp]at F1;have UP:=cN Xp;clear Xp;have R3':=cN (Rr.up R3.o HB1.o);have R4':=cN (Rr.up R4.o HB1.o);have hTs:=dZ (l:=[(6,(fun v w'=>w1.heap.size≤w'.heap.size∧Rr NI w' (In w1.heap.size w'.heap.size) v q.wh)),(9,(fun v w'=>w1.heap.size≤w'.heap.size∧Rr NI w' (In w1.heap.size w'.heap.size) v q.gr))]) (fun p hp=>by
  simp only[af,aj,aH]at hp
  rcases hp with rfl|rfl
  ·exact fun v w1' w2' h hb=>⟨aw h.1 hb.size,h.2.hp (fun b hk=>⟨hk.1,aB hk.2 hb.size⟩) fun b hk=>hb.block b hk.2⟩
  ·exact fun v w1' w2' h hb=>⟨aw h.1 hb.size,h.2.hp (fun b hk=>⟨hk.1,aB hk.2 hb.size⟩) fun b hk=>hb.block b hk.2⟩)
 have OT:=eY (l:=[(6,kU q.wh.length),(9,kU q.gr.length)]) (fun p hp=>by
  simp only[af,aj,aH]at hp
  rcases hp with rfl|rfl
  ·exact kU.some _
  ·exact kU.some _)
 have OH:=cN hTs;have Pk:=cN OT;clear hTs OT;refine db (tab [(6,(fun v w'=>w1.heap.size≤w'.heap.size∧Rr NI w' (In w1.heap.size w'.heap.size) v q.wh)),(9,(fun v w'=>w1.heap.size≤w'.heap.size∧Rr NI w' (In w1.heap.size w'.heap.size) v q.gr))]) (Up w1) (w1.heap.size) 12 (Qe [(6,kU q.wh.length),(9,kU q.gr.length)]) (Pk.o) (OH.o) (Up.dX _) OM (OM.turns (Up.dX _) (OH.o)) (by kernel_rfl) (by kernel_rfl) (Up.start _) (aa _) ?_;simp only[List.take_succ_cons,List.take_zero,List.drop_succ_cons,List.drop_zero];iterate 6 (refine cP ?_ rfl rfl (fun w' hS=>?_) ?_;rotate_left;(first|(go_simp;rfl)|(have l0:=(hS.cell (p:=⟨gB,0,none⟩) hB1).trans d0;go_simp;rfl)|(have l0:=(hS.cell (p:=⟨gB,6,none⟩) hB1).trans d6;go_simp;rfl)|(have l0:=(hS.cell (p:=⟨gB,3,none⟩) hB1).trans d3;go_simp;rfl));go_frame)
 refine' du _ _ _ rfl rfl (fun w'=>?_) (fun w' hS hh hs=>?_) (fun v6 h6=>?_);rotate_left 2
 ·go_simp;constructor<;>rfl
 ·refine(fS w' (.slice A3 q.wh.length c3) q.wh (by have:=hS.size;omega) Qw.o.wh (fun _ _=>trivial) (Rr.up R3'.o hS)).mono ?_;rintro e w9 ⟨v9,rfl,OL,PH⟩;obtain⟨A9,c9,rfl,_,_⟩:=OL.form;exact⟨_,rfl,⟨⟨A9,c9,rfl⟩,aw hh PH.size,Rr.hp OL (fun b hk=>⟨aw hh hk.1,hk.2⟩) fun _ _=>rfl⟩,PH⟩
 obtain⟨B3,b3,rfl⟩:=h6;go_frame;iterate 2 (refine cP ?_ rfl rfl (fun w' hS=>?_) ?_;rotate_left;(first|(go_simp;rfl)|(have l0:=(hS.cell (p:=⟨gB,4,none⟩) hB1).trans d4;go_simp;rfl));go_frame)
 refine' du _ _ _ rfl rfl (fun w'=>?_) (fun w' hS hh hs=>?_) (fun v9 h9=>?_);rotate_left 2
 ·go_simp;constructor<;>rfl
 ·refine(fS w' (.slice A4 q.gr.length c4) q.gr (by have:=hS.size;omega) Qw.o.gr (fun _ _=>trivial) (Rr.up R4'.o hS)).mono ?_;rintro e w9 ⟨v9,rfl,OL,PH⟩;obtain⟨A9,c9,rfl,_,_⟩:=OL.form;exact⟨_,rfl,⟨⟨A9,c9,rfl⟩,aw hh PH.size,Rr.hp OL (fun b hk=>⟨aw hh hk.1,hk.2⟩) fun _ _=>rfl⟩,PH⟩
 obtain⟨B4,b4,rfl⟩:=h9;go_frame;refine cP ?_ rfl rfl (fun w' hS=>?_) ?_;rotate_left
 ·go_simp;rfl
 go_frame;refine dJ (none) (.cells #[.bool false,.slice none 0 0,.slice none 0 0,.slice none 0 0,.slice none 0 0,.slice none 0 0,.int .i64 0] 45) rfl rfl (fun w' hS=>?_) fun g11=>?_
 ·go_simp;rfl
 go_frame;refine dz fun w2 hH=>?_
 have h6:=hH.told 6 _ _ rfl rfl;have h9:=hH.told 9 _ _ rfl rfl;have hG:w2.heap[g11]?=some (.cells #[.bool false,.slice none 0 0,.slice none 0 0,.slice none 0 0,.slice none 0 0,.slice none 0 0,.int .i64 0] 45):=(hH.gh 11 _ _ rfl).1;have hGl:w1.heap.size≤g11:=(hH.gh 11 _ _ rfl).2;have hup:Below w1.heap.size w1 w2:=hH.s;have hBG:NA w2 g11 45 #[.bool false,.slice none 0 0,.slice none 0 0,.slice none 0 0,.slice none 0 0,.slice none 0 0,.int .i64 0]:=hG;have hne:∀(o:Nat) (n:Int),w2.cell? ⟨g11,o,none⟩≠some (.int .u8 n):=fun o n=>by
  rw[hBG.cell o]
  match o with
  |0|1|2|3|4|5|6=>simp
  |o+7=>simp
 have k3:=Fj hne h6.2 Qw.o.wh;have k4:=Fj hne h9.2 Qw.o.gr;have QI:∀b,(In w1.heap.size w2.heap.size b∧b≠g11)→ju w.heap.size [(g11,45,#[.bool false,.slice none 0 0,.slice none 0 0,.slice none 0 0,.slice none 0 0,.slice none 0 0,.int .i64 0]),(gX,45,#[.bool false,.slice none 0 0,.slice none 0 0,.slice none 0 0,.slice none 0 0,.slice none 0 0,.int .i64 0]),(gB,45,BA)] w2 b:=fun b hb=>⟨aw hs1 hb.1.1,hb.1.2,fun p hp=>by
  have q1:=F1.o.cQ.lt
  have q2:=hb.1.1
  simp only[af,aj,aH]at hp
  rcases hp with rfl|rfl|rfl
  ·exact fun e=>hb.2 e.symm
  ·show gX≠b;omega
  ·show gB≠b;omega⟩
 have F2:=cN (Fr.M3 (SQ:=[It.rr NI (.slice B3 q.wh.length b3) q.wh,It.rr NI (.slice B4 q.gr.length b4) q.gr]) F1.o (F1.o.quiet hup) hBG hGl fun F hF=>by
  simp only[af,aj,aH]at hF
  rcases hF with rfl|rfl
  ·exact Rr.hp k3 QI fun _ _=>rfl
  ·exact Rr.hp k4 QI fun _ _=>rfl)
 obtain⟨gO,Qf⟩:∃g,g=g11:=⟨_,rfl⟩;rw[←Qf]at F2;rw[←Qf];clear Qf hH h6 h9 hG hGl hup hBG hne k3 k4 QI d0 d3 d4 d6 hB1 hs1 HB1 R3' R4' F1 OH Pk;obtain⟨NU,NV,NW,NY,NZ,N0,N3⟩:=F2.o.cQ.y7 0 1 2 3 4 5 6;simp at NU NV NW NY NZ N0 N3;obtain⟨O6,Pa,Pb,Pm,Pn,Pp,Pq⟩:=F2.o.cQ.z7 0 1 2 3 4 5 6;simp only[ej];go_upto_region 2 with fail
 have F3:=cN (F2.o.pj (JX (Ch.refl _ _ _) (.inl rfl) (.bool q.all) (.slice none 0 0) (.slice none 0 0) (.slice B3 q.wh.length b3) (.slice B4 q.gr.length b4) (.slice none 0 0) (.int .i64 q.lim)) (AO F2.o.cQ (.bool q.all) (.slice none 0 0) (.slice none 0 0) (.slice B3 q.wh.length b3) (.slice B4 q.gr.length b4) (.slice none 0 0) (.int .i64 q.lim)));obtain⟨w3,hw⟩:∃W,W=((((((w2.setCell ⟨gO,0,none⟩ (.bool q.all)).setCell ⟨gO,1,none⟩ (.slice none 0 0)).setCell ⟨gO,2,none⟩ (.slice none 0 0)).setCell ⟨gO,3,none⟩ (.slice B3 q.wh.length b3)).setCell ⟨gO,4,none⟩ (.slice B4 q.gr.length b4)).setCell ⟨gO,5,none⟩ (.slice none 0 0)).setCell ⟨gO,6,none⟩ (.int .i64 q.lim):=⟨_,rfl⟩;rw[←hw]at F3;rw[←hw];clear hw F2 NU O6 NV Pa NW Pb NY Pm NZ Pn N0 Pp N3 Pq;obtain⟨ZA,TU⟩:∃a:Array Value,a=#[.bool false,.slice none 0 0,.slice none 0 0,.slice none 0 0,.slice none 0 0,.slice none 0 0,.int .i64 0]:=⟨_,rfl⟩;rw[←TU]at F3;have Zl:=cN TU;clear TU;go_wp2_with fail
 obtain⟨lo,hlo⟩:∃W,W=w3.heap.size:=⟨_,rfl⟩;have L0:=cN (Fl.start F3.o);rw[←hlo]at L0;have Qf:gO<lo:=L0.o.lt _ ag;have Ph:gX<lo:=L0.o.lt _ (au _ ag);have hgB:gB<lo:=L0.o.lt _ (au _ (au _ ag));have HT0:Hid (([]:List I.Qq)=q.its.take 0):=rfl;have QG:=cN (Ro.nil fL w3 lo);clear hlo F3;go_loopg [4] q.its.length (fun gg i wr=>∃(ys:List I.Qq) (A:Option Addr) (c:Nat),ys.length≤q.its.length∧gg=q.its.length-ys.length∧i=.int .i64 (ys.length:Int)∧Hid (ys=q.its.take ys.length)∧Hid (Ro fL wr lo (.slice A ys.length c) ys)∧Hid (Fl 0 w lo [(gO,45,#[.bool q.all,.slice A ys.length c,.slice none 0 0,.slice B3 q.wh.length b3,.slice B4 q.gr.length b4,.slice none 0 0,.int .i64 q.lim]),(gX,45,ZA),(gB,45,BA)] [It.rr NI (.slice B3 q.wh.length b3) q.wh,It.rr NI (.slice B4 q.gr.length b4) q.gr] (Kp w) wr));case atStart=>exact⟨[],none,0,ao _,rfl,rfl,HT0,QG,L0⟩
 case round=>
  clear HT0 QG L0;obtain⟨ys,Qy,Qz,hk,rfl,rfl,HT,HO,HL⟩:=hrel;obtain⟨NN,hw⟩:∃W,W=wr:=⟨_,rfl⟩;subst hw;have Ou:=cN HL.o.fr.bel;have QJ:=HL.o.l2;have Pt:=Ou.o.size;have hcap:=HO.o.form;have e0:=HL.o.fr.cQ.cell 1;have d0:=HL.o.fr.dR.cell 1;rw[UP.o]at d0;simp at e0 d0;have OF:gO<NN.heap.size:=by omega
  have Ov:gB<NN.heap.size:=by omega
  by_cases hlt:ys.length<q.its.length
  ·obtain⟨g,off,c9,x,cs,hv,q1,q2,hg,hi,hr,hl2,hra⟩:=R1.o.range hlt;injection hv with e1 e2 e3
   subst e1 e3;clear e2 q1 q2;have hm:=aR hi;have HM:=cN hm;have HT1:Hid (ys++[x]=q.its.take (ys.length+1)):=by show _=_;rw[bq,hi,←HT.o];rfl
   have t1:decide ((ys.length:Int)<(q.its.length:Int))=true:=aq (by omega);have b1:(ys.length:Int)<(q.its.length:Int):=by omega
   have PJ:g<NN.heap.size:=by omega
   clear hi hm;obtain⟨ce,rfl,OL,Zm⟩:=hr;obtain⟨⟨H,ks⟩,nm⟩:=x;obtain⟨Ae,cE,rfl⟩:=rM OL;have HX:=cN (El.hp (E:=NI) OL (P':=fun b=>b<NN.heap.size) (fun b hb=>aB hb Pt) (fun b hb=>Ou.o.block b hb));have Pc:=rangeAt.up hra hg Ou.o;have RX:=cN (rangeAt.head Pc);have IX:=cN (show(Tryz.prog.info? 50).map (·.size)=some (cT H Ae ks.length cE).length from by kernel_rfl);have b0:NN.cell? ⟨g,off+ys.length*9+8,none⟩=some (.string (I.bs nm)):=rangeAt.c Pc 8 rfl;clear hra Pc OL;go_upto_region 5 with fail
   have hTs:=dZ (l:=[(8,(fun v w'=>NN.heap.size≤w'.heap.size∧∀cs',v=.agg cs'.toArray→NI.R w' (In NN.heap.size w'.heap.size) cs' (.mk H ks)))]) (fun p hp=>by
    simp only[af,aj,aH]at hp
    subst hp
    exact fun v w1' w2' h hb=>⟨aw h.1 hb.size,fun cs' e=>El.hp (h.2 cs' e) (fun b hk=>⟨hk.1,aB hk.2 hb.size⟩) fun b hk=>hb.block b hk.2⟩)
   have OT:=eY (l:=[(8,fun v=>∃A c,v=.agg #[.int .u8 (H.o.toNat:Int),.int .u8 (H.v.k.toNat:Int),.int .i64 H.v.n,.string H.v.s,.string H.nm,.string H.of,.int .i64 H.n,.slice A ks.length c])]) (fun p hp=>by
    simp only[af,aj,aH]at hp
    subst hp
    exact⟨_,none,0,rfl⟩)
   have OH:=cN hTs;have Pk:=cN OT;clear hTs OT;refine db (tab [(8,(fun v w'=>NN.heap.size≤w'.heap.size∧∀cs',v=.agg cs'.toArray→NI.R w' (In NN.heap.size w'.heap.size) cs' (.mk H ks)))]) (Up NN) (NN.heap.size) 17 (Qe [(8,fun v=>∃A c,v=.agg #[.int .u8 (H.o.toNat:Int),.int .u8 (H.v.k.toNat:Int),.int .i64 H.v.n,.string H.v.s,.string H.nm,.string H.of,.int .i64 H.n,.slice A ks.length c])]) (Pk.o) (OH.o) (Up.dX _) OM (OM.turns (Up.dX _) (OH.o)) (by kernel_rfl) (by kernel_rfl) (Up.start _) (aa _) ?_;simp only[List.take_succ_cons,List.take_zero,List.drop_succ_cons,List.drop_zero];iterate 8 (first|(refine cP (.agg (cT H Ae ks.length cE).toArray) rfl rfl (fun w' hS=>gK 50 (.tmp 31) rfl g (off+ys.length*9) rfl (cT H Ae ks.length cE) _ (rangeAt.up RX.o PJ hS) kP rfl IX.o) ?_;go_frame)|(refine cP ?_ rfl rfl (fun w' hS=>?_) ?_;rotate_left;(first|(go_simp;rfl)|(have l0:=(hS.cell (p:=⟨gO,1,none⟩) OF).trans e0;go_simp;rfl)|(have l0:=(hS.cell (p:=⟨gB,1,none⟩) Ov).trans d0;go_simp;rfl));go_frame))
   refine' du _ _ _ rfl rfl (fun w'=>?_) (fun w' hS hh hs=>?_) (fun v8 h8=>?_);rotate_left 2
   ·go_simp;constructor<;>rfl
   ·refine(lz w' (cT H Ae ks.length cE) (.mk H ks) (by have:=hS.size;omega) trivial (El.hp (E:=NI) HX.o (P':=fun b=>b<w'.heap.size) (fun b hb=>aB hb hS.size) (fun b hb=>hS.block b hb))).mono ?_;rintro e w9 ⟨Zn,rfl,OL,PH⟩;obtain⟨A9,c9,rfl⟩:=rM OL;exact⟨_,rfl,⟨⟨A9,c9,rfl⟩,aw hh PH.size,fun cs' e=>by
     obtain rfl:=qw e
     exact El.hp (E:=NI) OL (fun b hk=>⟨aw hh hk.1,hk.2⟩) fun _ _=>rfl⟩,PH⟩
   obtain⟨A8,c8,rfl⟩:=h8;go_frame;iterate 7 (refine cP ?_ rfl rfl (fun w' hS=>?_) ?_;rotate_left;(first|(go_simp;rfl)|(have l0:=(hS.cell (p:=⟨gB,1,none⟩) Ov).trans d0;go_simp;rfl)|(have l0:=(hS.cell (p:=⟨g,off+ys.length*9+8,none⟩) PJ).trans b0;go_simp;rfl));go_frame)
   refine dJ (some (1,1)) (.cells #[.int .u8 (H.o.toNat:Int),.int .u8 (H.v.k.toNat:Int),.int .i64 H.v.n,.string H.v.s,.string H.nm,.string H.of,.int .i64 H.n,.slice A8 ks.length c8,.string (I.bs nm)] 130) rfl rfl (fun w' hS=>?_) fun g16=>?_
   ·go_simp;rfl
   go_frame;refine dz fun w2 hH=>?_
   have h8:=hH.told 8 _ _ rfl rfl;have hG:w2.heap[g16]?=some (.cells #[.int .u8 (H.o.toNat:Int),.int .u8 (H.v.k.toNat:Int),.int .i64 H.v.n,.string H.v.s,.string H.nm,.string H.of,.int .i64 H.n,.slice A8 ks.length c8,.string (I.bs nm)] 130):=(hH.gh 16 _ _ rfl).1;have hup:Below NN.heap.size NN w2:=hH.s;have HG:=cN hG;have hs2:=hup.size;have L2:=cN (HL.o.pB hup);have OD:=cN (HO.o.below hup);have Px:=cN (show fL.R w2 (Pow w2 lo (.slice Qy ys.length Qz)) [.int .u8 (H.o.toNat:Int),.int .u8 (H.v.k.toNat:Int),.int .i64 H.v.n,.string H.v.s,.string H.nm,.string H.of,.int .i64 H.n,.slice A8 ks.length c8,.string (I.bs nm)] (⟨.mk H ks,nm⟩:I.Qq)from HO.o.pow (by omega) (Q:=In NN.heap.size w2.heap.size) (⟨_,rfl,h8.2 _ rfl,Zm⟩) fun b hb=>hb);have QH:=cN (show(ys.length+1)*120≤140737488355328 by have:=Qw.o.its;omega);have hz2:lo≤w2.heap.size:=by omega
   clear hH h8 hG hup HL HO e0 d0 OH Pk;go_wp2_with (at_builtin;refine eW sV rfl (.tmp 26) (.tmp 41) Tryz.underlying41 rfl lo _ ys rfl OD.o g16 1 [.int .u8 (H.o.toNat:Int),.int .u8 (H.v.k.toNat:Int),.int .i64 H.v.n,.string H.v.s,.string H.nm,.string H.of,.int .i64 H.n,.slice A8 ks.length c8,.string (I.bs nm)] (⟨.mk H ks,nm⟩:I.Qq) rfl HG.o Px.o QH.o (by have:=QH.o;unfold maxLen;omega) hz2 ?_;intro v24 QV OG QK O2;obtain⟨OW,c24,hv24,QL⟩:=OG.form;rw[ah,aD]at hv24;subst hv24;clear QL;have PC:=cN OG;have Qb:=cN (L2.o.low O2);clear OG QK O2;have PF:=Qb.o.cQ.cell 1;have QU:=Qb.o.cQ.frozen 1;simp at PF)
   obtain⟨RD,hw⟩:∃W,W=QV.setCell ⟨gO,1,none⟩ (.slice OW (ys.length+1) c24):=⟨_,rfl⟩;have RF:=cN (Qb.o.ew 1 (.slice OW (ys.length+1) c24) (cs':=#[.bool q.all,.slice OW (ys.length+1) c24,.slice none 0 0,.slice B3 q.wh.length b3,.slice B4 q.gr.length b4,.slice none 0 0,.int .i64 q.lim]) rfl);have QM:Hid (Ro fL RD lo (.slice OW (ys.length+1) c24) (ys++[(⟨.mk H ks,nm⟩:I.Qq)])):=hw▸PC.o.dH (fun b h1 _=>aU QV ⟨gO,1,none⟩ _ b (by show b≠gO;omega)) (by simp);rw[←hw]at RF⊢;clear hw Qb PC L2 OD Px PF QU;go_wp2_with fail
   go_roundg (q.its.length-(ys.length+1));case measure=>omega
   case rel=>exact⟨ys++[(⟨.mk H ks,nm⟩:I.Qq)],OW,c24,by simp;omega,by simp,by simp,by rw[ah,aD];exact HT1,by rw[ah,aD];exact QM,by rw[ah,aD];exact RF⟩
  ·have hlen:ys.length=q.its.length:=by omega
   have t1:decide ((ys.length:Int)<(q.its.length:Int))=false:=ar (by omega);have HE:Hid (ys=q.its):=by have h1:=HT.o;rw[hlen,aS (aa _)]at h1;exact h1
   have F20:=cN (HL.o.done HO.o);rw[hlen,HE.o]at F20;clear hlen HE HT HO HL hcap hk OF Ov QJ Pt Ou Qf Ph hgB e0;obtain⟨Ry,hw⟩:∃W,W=NN:=⟨_,rfl⟩;subst hw;go_wp2_with fail
   obtain⟨lo,hlo⟩:∃W,W=Ry.heap.size:=⟨_,rfl⟩;have L0:=cN (Fl.start F20.o);rw[←hlo]at L0;have Qf:gO<lo:=L0.o.lt _ ag;have Ph:gX<lo:=L0.o.lt _ (au _ ag);have hgB:gB<lo:=L0.o.lt _ (au _ (au _ ag));have HT0:Hid (([]:List I.Src)=q.fr.take 0):=rfl;have QG:=cN (Ro.nil ft Ry lo);clear hlo F20;go_loopg [5] q.fr.length (fun gg i wr=>∃(ys:List I.Src) (A:Option Addr) (c:Nat),ys.length≤q.fr.length∧gg=q.fr.length-ys.length∧i=.int .i64 (ys.length:Int)∧Hid (ys=q.fr.take ys.length)∧Hid (Ro ft wr lo (.slice A ys.length c) ys)∧Hid (Fl 0 w lo [(gO,45,#[.bool q.all,.slice Qy q.its.length Qz,.slice A ys.length c,.slice B3 q.wh.length b3,.slice B4 q.gr.length b4,.slice none 0 0,.int .i64 q.lim]),(gX,45,ZA),(gB,45,BA)] [It.rr fL (.slice Qy q.its.length Qz) q.its,It.rr NI (.slice B3 q.wh.length b3) q.wh,It.rr NI (.slice B4 q.gr.length b4) q.gr] (Kp w) wr));case atStart=>exact⟨[],none,0,ao _,rfl,rfl,HT0,QG,L0⟩
   case round=>
    clear HT0 QG L0;obtain⟨ys,Rn,Rp,hk,rfl,rfl,HT,HO,HL⟩:=hrel;obtain⟨NN,hw⟩:∃W,W=wr:=⟨_,rfl⟩;subst hw;have Ou:=cN HL.o.fr.bel;have QJ:=HL.o.l2;have Pt:=Ou.o.size;have hcap:=HO.o.form;have e0:=HL.o.fr.cQ.cell 2;have d0:=HL.o.fr.dR.cell 2;rw[UP.o]at d0;simp at e0 d0;have OF:gO<NN.heap.size:=by omega
    have Ov:gB<NN.heap.size:=by omega
    by_cases hlt:ys.length<q.fr.length
    ·obtain⟨g,off,c9,x,cs,hv,q1,q2,hg,hi,hr,hl2,hra⟩:=R2.o.range hlt;injection hv with e1 e2 e3
     subst e1 e3;clear e2 q1 q2;have hm:=aR hi;have HM:=cN hm;have HT1:Hid (ys++[x]=q.fr.take (ys.length+1)):=by show _=_;rw[bq,hi,←HT.o];rfl
     have t1:decide ((ys.length:Int)<(q.fr.length:Int))=true:=aq (by omega);have b1:(ys.length:Int)<(q.fr.length:Int):=by omega
     have PJ:g<NN.heap.size:=by omega
     clear hi hm;obtain⟨v0,rfl,OL,Zm,Uv⟩:=hr;have TV:=cN (Qw.o.on x HM.o);obtain⟨nm,al,on⟩:=x;have HON:=cN (show on.length*NI.by'≤140737488355328 from TV.o);clear TV;obtain⟨Ae,cE,rfl,_,_⟩:=OL.form;have HX:=cN (Rr.hp OL (P':=fun b=>b<NN.heap.size) (fun b hb=>aB hb Pt) (fun b hb=>Ou.o.block b hb));have Pc:=rangeAt.up hra hg Ou.o;have b0:NN.cell? ⟨g,off+ys.length*3,none⟩=some (.string (I.bs nm)):=rangeAt.c Pc 0 rfl;have b1':NN.cell? ⟨g,off+ys.length*3+1,none⟩=some (.string (I.bs al)):=rangeAt.c Pc 1 rfl;have b2:NN.cell? ⟨g,off+ys.length*3+2,none⟩=some (.slice Ae on.length cE):=rangeAt.c Pc 2 rfl;clear hra Pc OL;go_upto_region 9 with fail
     have hTs:=dZ (l:=[(20,(fun v w'=>NN.heap.size≤w'.heap.size∧Rr NI w' (In NN.heap.size w'.heap.size) v on))]) (fun p hp=>by
      simp only[af,aj,aH]at hp
      subst hp
      exact fun v w1' w2' h hb=>⟨aw h.1 hb.size,h.2.hp (fun b hk=>⟨hk.1,aB hk.2 hb.size⟩) fun b hk=>hb.block b hk.2⟩)
     have OT:=eY (l:=[(20,kU on.length)]) (fun p hp=>by
      simp only[af,aj,aH]at hp
      subst hp
      exact kU.some _)
     have OH:=cN hTs;have Pk:=cN OT;clear hTs OT;refine db (tab [(20,(fun v w'=>NN.heap.size≤w'.heap.size∧Rr NI w' (In NN.heap.size w'.heap.size) v on))]) (Up NN) (NN.heap.size) 23 (Qe [(20,kU on.length)]) (Pk.o) (OH.o) (Up.dX _) OM (OM.turns (Up.dX _) (OH.o)) (by kernel_rfl) (by kernel_rfl) (Up.start _) (aa _) ?_;simp only[List.take_succ_cons,List.take_zero,List.drop_succ_cons,List.drop_zero];iterate 20 (refine cP ?_ rfl rfl (fun w' hS=>?_) ?_;rotate_left;(first|(go_simp;rfl)|(have l0:=(hS.cell (p:=⟨gO,2,none⟩) OF).trans e0;go_simp;rfl)|(have l0:=(hS.cell (p:=⟨gB,2,none⟩) Ov).trans d0;go_simp;rfl)|(have l0:=(hS.cell (p:=⟨g,off+ys.length*3,none⟩) PJ).trans b0;go_simp;rfl)|(have l0:=(hS.cell (p:=⟨g,off+ys.length*3+1,none⟩) PJ).trans b1';go_simp;rfl)|(have l0:=(hS.cell (p:=⟨g,off+ys.length*3+2,none⟩) PJ).trans b2;go_simp;rfl));go_frame)
     refine' du _ _ _ rfl rfl (fun w'=>?_) (fun w' hS hh hs=>?_) (fun v20 h20=>?_);rotate_left 2
     ·go_simp;constructor<;>rfl
     ·refine(fS w' (.slice Ae on.length cE) on (by have:=hS.size;omega) HON.o (fun _ _=>trivial) (Rr.up HX.o hS)).mono ?_;rintro e w9 ⟨v9,rfl,OL,PH⟩;obtain⟨A9,c9,rfl,_,_⟩:=OL.form;exact⟨_,rfl,⟨⟨A9,c9,rfl⟩,aw hh PH.size,Rr.hp OL (fun b hk=>⟨aw hh hk.1,hk.2⟩) fun _ _=>rfl⟩,PH⟩
     obtain⟨A8,c8,rfl⟩:=h20;go_frame;refine cP ?_ rfl rfl (fun w' hS=>?_) ?_;rotate_left
     ·go_simp;rfl
     go_frame;refine dJ (some (1,1)) (.cells #[.string (I.bs nm),.string (I.bs al),.slice A8 on.length c8] 132) rfl rfl (fun w' hS=>?_) fun g22=>?_
     ·go_simp;rfl
     go_frame;refine dz fun w2 hH=>?_
     have h8:=hH.told 20 _ _ rfl rfl;have hG:w2.heap[g22]?=some (.cells #[.string (I.bs nm),.string (I.bs al),.slice A8 on.length c8] 132):=(hH.gh 22 _ _ rfl).1;have hup:Below NN.heap.size NN w2:=hH.s;have HG:=cN hG;have hs2:=hup.size;have L2:=cN (HL.o.pB hup);have OD:=cN (HO.o.below hup);have Px:=cN (show ft.R w2 (Pow w2 lo (.slice Rn ys.length Rp)) [.string (I.bs nm),.string (I.bs al),.slice A8 on.length c8] (⟨nm,al,on⟩:I.Src)from HO.o.pow (by omega) (Q:=In NN.heap.size w2.heap.size) (⟨_,rfl,h8.2,Zm,Uv⟩) fun b hb=>hb);have QH:=cN (show(ys.length+1)*56≤140737488355328 by have:=Qw.o.fr;omega);have hz2:lo≤w2.heap.size:=by omega
     clear hH h8 hG hup HL HO e0 d0 OH Pk;go_wp2_with (at_builtin;refine eW tI rfl (.tmp 52) (.tmp 73) Tryz.underlying42 rfl lo _ ys rfl OD.o g22 1 [.string (I.bs nm),.string (I.bs al),.slice A8 on.length c8] (⟨nm,al,on⟩:I.Src) rfl HG.o Px.o QH.o (by have:=QH.o;unfold maxLen;omega) hz2 ?_;intro v24 QV OG QK O2;obtain⟨OW,c24,hv24,QL⟩:=OG.form;rw[ah,aD]at hv24;subst hv24;clear QL;have PC:=cN OG;have Qb:=cN (L2.o.low O2);clear OG QK O2;have PF:=Qb.o.cQ.cell 2;have QU:=Qb.o.cQ.frozen 2;simp at PF)
     obtain⟨RD,hw⟩:∃W,W=QV.setCell ⟨gO,2,none⟩ (.slice OW (ys.length+1) c24):=⟨_,rfl⟩;have RF:=cN (Qb.o.ew 2 (.slice OW (ys.length+1) c24) (cs':=#[.bool q.all,.slice Qy q.its.length Qz,.slice OW (ys.length+1) c24,.slice B3 q.wh.length b3,.slice B4 q.gr.length b4,.slice none 0 0,.int .i64 q.lim]) rfl);have QM:Hid (Ro ft RD lo (.slice OW (ys.length+1) c24) (ys++[(⟨nm,al,on⟩:I.Src)])):=hw▸PC.o.dH (fun b h1 _=>aU QV ⟨gO,2,none⟩ _ b (by show b≠gO;omega)) (by simp);rw[←hw]at RF⊢;clear hw Qb PC L2 OD Px PF QU;go_wp2_with fail
     go_roundg (q.fr.length-(ys.length+1));case measure=>omega
     case rel=>exact⟨ys++[(⟨nm,al,on⟩:I.Src)],OW,c24,by simp;omega,by simp,by simp,by rw[ah,aD];exact HT1,by rw[ah,aD];exact QM,by rw[ah,aD];exact RF⟩
    ·have hlen:ys.length=q.fr.length:=by omega
     have t1:decide ((ys.length:Int)<(q.fr.length:Int))=false:=ar (by omega);have HE:Hid (ys=q.fr):=by have h1:=HT.o;rw[hlen,aS (aa _)]at h1;exact h1
     have F20:=cN (HL.o.done HO.o);rw[hlen,HE.o]at F20;clear hlen HE HT HO HL hcap hk OF Ov QJ Pt Ou Qf Ph hgB e0;obtain⟨TW,hw⟩:∃W,W=NN:=⟨_,rfl⟩;subst hw;go_wp2_with fail
     obtain⟨lo,hlo⟩:∃W,W=TW.heap.size:=⟨_,rfl⟩;have L0:=cN (Fl.start F20.o);rw[←hlo]at L0;have Qf:gO<lo:=L0.o.lt _ ag;have Ph:gX<lo:=L0.o.lt _ (au _ ag);have hgB:gB<lo:=L0.o.lt _ (au _ (au _ ag));have HT0:Hid (([]:List I.Ord)=q.od.take 0):=rfl;have QG:=cN (Ro.nil fY TW lo);clear hlo F20;go_loopg [6] q.od.length (fun gg i wr=>∃(ys:List I.Ord) (A:Option Addr) (c:Nat),ys.length≤q.od.length∧gg=q.od.length-ys.length∧i=.int .i64 (ys.length:Int)∧Hid (ys=q.od.take ys.length)∧Hid (Ro fY wr lo (.slice A ys.length c) ys)∧Hid (Fl 0 w lo [(gO,45,#[.bool q.all,.slice Qy q.its.length Qz,.slice Rn q.fr.length Rp,.slice B3 q.wh.length b3,.slice B4 q.gr.length b4,.slice A ys.length c,.int .i64 q.lim]),(gX,45,ZA),(gB,45,BA)] [It.rr ft (.slice Rn q.fr.length Rp) q.fr,It.rr fL (.slice Qy q.its.length Qz) q.its,It.rr NI (.slice B3 q.wh.length b3) q.wh,It.rr NI (.slice B4 q.gr.length b4) q.gr] (Kp w) wr));case atStart=>exact⟨[],none,0,ao _,rfl,rfl,HT0,QG,L0⟩
     case round=>
      clear HT0 QG L0;obtain⟨ys,Tj,Tk,hk,rfl,rfl,HT,HO,HL⟩:=hrel;obtain⟨NN,hw⟩:∃W,W=wr:=⟨_,rfl⟩;subst hw;have Ou:=cN HL.o.fr.bel;have QJ:=HL.o.l2;have Pt:=Ou.o.size;have hcap:=HO.o.form;have e0:=HL.o.fr.cQ.cell 5;have d0:=HL.o.fr.dR.cell 5;rw[UP.o]at d0;simp at e0 d0;have OF:gO<NN.heap.size:=by omega
      have Ov:gB<NN.heap.size:=by omega
      by_cases hlt:ys.length<q.od.length
      ·obtain⟨g,off,c9,x,cs,hv,q1,q2,hg,hi,hr,hl2,hra⟩:=R5.o.range hlt;injection hv with e1 e2 e3
       subst e1 e3;clear e2 q1 q2;have hm:=aR hi;have HM:=cN hm;have HT1:Hid (ys++[x]=q.od.take (ys.length+1)):=by show _=_;rw[bq,hi,←HT.o];rfl
       have t1:decide ((ys.length:Int)<(q.od.length:Int))=true:=aq (by omega);have b1:(ys.length:Int)<(q.od.length:Int):=by omega
       have PJ:g<NN.heap.size:=by omega
       clear hi hm;obtain⟨ce,rfl,OL⟩:=hr;obtain⟨⟨H,ks⟩,ds⟩:=x;obtain⟨Ae,cE,rfl⟩:=rM OL;have HX:=cN (El.hp (E:=NI) OL (P':=fun b=>b<NN.heap.size) (fun b hb=>aB hb Pt) (fun b hb=>Ou.o.block b hb));have Pc:=rangeAt.up hra hg Ou.o;have RX:=cN (rangeAt.head Pc);have IX:=cN (show(Tryz.prog.info? 50).map (·.size)=some (cT H Ae ks.length cE).length from by kernel_rfl);have b0:NN.cell? ⟨g,off+ys.length*9+8,none⟩=some (.bool ds):=rangeAt.c Pc 8 rfl;clear hra Pc OL;go_upto_region 13 with fail
       have hTs:=dZ (l:=[(8,(fun v w'=>NN.heap.size≤w'.heap.size∧∀cs',v=.agg cs'.toArray→NI.R w' (In NN.heap.size w'.heap.size) cs' (.mk H ks)))]) (fun p hp=>by
        simp only[af,aj,aH]at hp
        subst hp
        exact fun v w1' w2' h hb=>⟨aw h.1 hb.size,fun cs' e=>El.hp (h.2 cs' e) (fun b hk=>⟨hk.1,aB hk.2 hb.size⟩) fun b hk=>hb.block b hk.2⟩)
       have OT:=eY (l:=[(8,fun v=>∃A c,v=.agg #[.int .u8 (H.o.toNat:Int),.int .u8 (H.v.k.toNat:Int),.int .i64 H.v.n,.string H.v.s,.string H.nm,.string H.of,.int .i64 H.n,.slice A ks.length c])]) (fun p hp=>by
        simp only[af,aj,aH]at hp
        subst hp
        exact⟨_,none,0,rfl⟩)
       have OH:=cN hTs;have Pk:=cN OT;clear hTs OT;refine db (tab [(8,(fun v w'=>NN.heap.size≤w'.heap.size∧∀cs',v=.agg cs'.toArray→NI.R w' (In NN.heap.size w'.heap.size) cs' (.mk H ks)))]) (Up NN) (NN.heap.size) 17 (Qe [(8,fun v=>∃A c,v=.agg #[.int .u8 (H.o.toNat:Int),.int .u8 (H.v.k.toNat:Int),.int .i64 H.v.n,.string H.v.s,.string H.nm,.string H.of,.int .i64 H.n,.slice A ks.length c])]) (Pk.o) (OH.o) (Up.dX _) OM (OM.turns (Up.dX _) (OH.o)) (by kernel_rfl) (by kernel_rfl) (Up.start _) (aa _) ?_;simp only[List.take_succ_cons,List.take_zero,List.drop_succ_cons,List.drop_zero];iterate 8 (first|(refine cP (.agg (cT H Ae ks.length cE).toArray) rfl rfl (fun w' hS=>gK 50 (.tmp 89) rfl g (off+ys.length*9) rfl (cT H Ae ks.length cE) _ (rangeAt.up RX.o PJ hS) kP rfl IX.o) ?_;go_frame)|(refine cP ?_ rfl rfl (fun w' hS=>?_) ?_;rotate_left;(first|(go_simp;rfl)|(have l0:=(hS.cell (p:=⟨gO,5,none⟩) OF).trans e0;go_simp;rfl)|(have l0:=(hS.cell (p:=⟨gB,5,none⟩) Ov).trans d0;go_simp;rfl));go_frame))
       refine' du _ _ _ rfl rfl (fun w'=>?_) (fun w' hS hh hs=>?_) (fun v8 h8=>?_);rotate_left 2
       ·go_simp;constructor<;>rfl
       ·refine(lz w' (cT H Ae ks.length cE) (.mk H ks) (by have:=hS.size;omega) trivial (El.hp (E:=NI) HX.o (P':=fun b=>b<w'.heap.size) (fun b hb=>aB hb hS.size) (fun b hb=>hS.block b hb))).mono ?_;rintro e w9 ⟨Zn,rfl,OL,PH⟩;obtain⟨A9,c9,rfl⟩:=rM OL;exact⟨_,rfl,⟨⟨A9,c9,rfl⟩,aw hh PH.size,fun cs' e=>by
         obtain rfl:=qw e
         exact El.hp (E:=NI) OL (fun b hk=>⟨aw hh hk.1,hk.2⟩) fun _ _=>rfl⟩,PH⟩
       obtain⟨A8,c8,rfl⟩:=h8;go_frame;iterate 7 (refine cP ?_ rfl rfl (fun w' hS=>?_) ?_;rotate_left;(first|(go_simp;rfl)|(have l0:=(hS.cell (p:=⟨gB,5,none⟩) Ov).trans d0;go_simp;rfl)|(have l0:=(hS.cell (p:=⟨g,off+ys.length*9+8,none⟩) PJ).trans b0;go_simp;rfl));go_frame)
       refine dJ (some (1,1)) (.cells #[.int .u8 (H.o.toNat:Int),.int .u8 (H.v.k.toNat:Int),.int .i64 H.v.n,.string H.v.s,.string H.nm,.string H.of,.int .i64 H.n,.slice A8 ks.length c8,.bool ds] 134) rfl rfl (fun w' hS=>?_) fun g16=>?_
       ·go_simp;rfl
       go_frame;refine dz fun w2 hH=>?_
       have h8:=hH.told 8 _ _ rfl rfl;have hG:w2.heap[g16]?=some (.cells #[.int .u8 (H.o.toNat:Int),.int .u8 (H.v.k.toNat:Int),.int .i64 H.v.n,.string H.v.s,.string H.nm,.string H.of,.int .i64 H.n,.slice A8 ks.length c8,.bool ds] 134):=(hH.gh 16 _ _ rfl).1;have hup:Below NN.heap.size NN w2:=hH.s;have HG:=cN hG;have hs2:=hup.size;have L2:=cN (HL.o.pB hup);have OD:=cN (HO.o.below hup);have Px:=cN (show fY.R w2 (Pow w2 lo (.slice Tj ys.length Tk)) [.int .u8 (H.o.toNat:Int),.int .u8 (H.v.k.toNat:Int),.int .i64 H.v.n,.string H.v.s,.string H.nm,.string H.of,.int .i64 H.n,.slice A8 ks.length c8,.bool ds] (⟨.mk H ks,ds⟩:I.Ord)from HO.o.pow (by omega) (Q:=In NN.heap.size w2.heap.size) (⟨_,rfl,h8.2 _ rfl⟩) fun b hb=>hb);have QH:=cN (show(ys.length+1)*112≤140737488355328 by have:=Qw.o.od;omega);have hz2:lo≤w2.heap.size:=by omega
       clear hH h8 hG hup HL HO e0 d0 OH Pk;go_wp2_with (at_builtin;refine eW sQ rfl (.tmp 84) (.tmp 99) Tryz.underlying43 rfl lo _ ys rfl OD.o g16 1 [.int .u8 (H.o.toNat:Int),.int .u8 (H.v.k.toNat:Int),.int .i64 H.v.n,.string H.v.s,.string H.nm,.string H.of,.int .i64 H.n,.slice A8 ks.length c8,.bool ds] (⟨.mk H ks,ds⟩:I.Ord) rfl HG.o Px.o QH.o (by have:=QH.o;unfold maxLen;omega) hz2 ?_;intro v24 QV OG QK O2;obtain⟨OW,c24,hv24,QL⟩:=OG.form;rw[ah,aD]at hv24;subst hv24;clear QL;have PC:=cN OG;have Qb:=cN (L2.o.low O2);clear OG QK O2;have PF:=Qb.o.cQ.cell 5;have QU:=Qb.o.cQ.frozen 5;simp at PF)
       obtain⟨RD,hw⟩:∃W,W=QV.setCell ⟨gO,5,none⟩ (.slice OW (ys.length+1) c24):=⟨_,rfl⟩;have RF:=cN (Qb.o.ew 5 (.slice OW (ys.length+1) c24) (cs':=#[.bool q.all,.slice Qy q.its.length Qz,.slice Rn q.fr.length Rp,.slice B3 q.wh.length b3,.slice B4 q.gr.length b4,.slice OW (ys.length+1) c24,.int .i64 q.lim]) rfl);have QM:Hid (Ro fY RD lo (.slice OW (ys.length+1) c24) (ys++[(⟨.mk H ks,ds⟩:I.Ord)])):=hw▸PC.o.dH (fun b h1 _=>aU QV ⟨gO,5,none⟩ _ b (by show b≠gO;omega)) (by simp);rw[←hw]at RF⊢;clear hw Qb PC L2 OD Px PF QU;go_wp2_with fail
       go_roundg (q.od.length-(ys.length+1));case measure=>omega
       case rel=>exact⟨ys++[(⟨.mk H ks,ds⟩:I.Ord)],OW,c24,by simp;omega,by simp,by simp,by rw[ah,aD];exact HT1,by rw[ah,aD];exact QM,by rw[ah,aD];exact RF⟩
      ·have hlen:ys.length=q.od.length:=by omega
       have t1:decide ((ys.length:Int)<(q.od.length:Int))=false:=ar (by omega);have HE:Hid (ys=q.od):=by have h1:=HT.o;rw[hlen,aS (aa _)]at h1;exact h1
       have F20:=cN (HL.o.done HO.o);rw[hlen,HE.o]at F20;clear hlen HE HT HO HL hcap hk OF Ov QJ Pt Ou Qf Ph hgB e0;obtain⟨w220,hw⟩:∃W,W=NN:=⟨_,rfl⟩;subst hw;have TU:=Zl.o;clear Zl;subst TU;obtain⟨Om,On,Oo,Ox,Oy,Oz,OA⟩:=F20.o.cQ.y7 0 1 2 3 4 5 6;simp at Om On Oo Ox Oy Oz OA;obtain⟨NU,NV,NW,NY,NZ,N0,N3⟩:=F20.o.cR.y7 0 1 2 3 4 5 6;simp at NU NV NW NY NZ N0 N3;obtain⟨O6,Pa,Pb,Pm,Pn,Pp,Pq⟩:=F20.o.cR.z7 0 1 2 3 4 5 6;go_wp2_with fail
       have FZ:=cN (F20.o.fA (JX (Ch.refl _ _ _) (.inl rfl) (.bool q.all) (.slice Qy q.its.length Qz) (.slice Rn q.fr.length Rp) (.slice B3 q.wh.length b3) (.slice B4 q.gr.length b4) (.slice Tj q.od.length Tk) (.int .i64 q.lim)) (AO F20.o.cR (.bool q.all) (.slice Qy q.its.length Qz) (.slice Rn q.fr.length Rp) (.slice B3 q.wh.length b3) (.slice B4 q.gr.length b4) (.slice Tj q.od.length Tk) (.int .i64 q.lim)));refine ae (v:=.agg #[.bool q.all,.slice Qy q.its.length Qz,.slice Rn q.fr.length Rp,.slice B3 q.wh.length b3,.slice B4 q.gr.length b4,.slice Tj q.od.length Tk,.int .i64 q.lim]) (av rfl _ _ gX 45 _ (0,0) _ rfl FZ.o.cR j9 rfl jv) rfl ?_;refine⟨[.bool q.all,.slice Qy q.its.length Qz,.slice Rn q.fr.length Rp,.slice B3 q.wh.length b3,.slice B4 q.gr.length b4,.slice Tj q.od.length Tk,.int .i64 q.lim],rfl,?_,FZ.o.bel⟩;exact⟨_,_,_,_,_,rfl,FZ.o.TT (by simp only[af,bM,bO]),FZ.o.TT (by simp only[af,bM,bO]),FZ.o.TT (by simp only[af,bM,bO]),FZ.o.TT (by simp only[af,bM,bO]),FZ.o.TT (by simp only[af,bM,bO]),HZ.o.1,HZ.o.2⟩
end
end Go.Proofs.YtnicfobpclehkaaGreatDoor
