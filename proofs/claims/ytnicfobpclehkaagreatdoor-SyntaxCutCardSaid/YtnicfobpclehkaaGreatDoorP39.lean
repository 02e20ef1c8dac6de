import Derived.Test.YtnicfobpclehkaaGreatDoorP38
set_option maxHeartbeats 6400000
set_option linter.unusedVariables false
set_option linter.unusedSimpArgs false
namespace Go.Proofs.YtnicfobpclehkaaGreatDoor
open Go.RowKit
section
set_option maxRecDepth 100000
def Wx{α:Type}(E:El α)(f:FuncId)(p:α→Prop):Prop:=∀(w:World) (cs:List Value) (x:α),0<w.heap.size→p x→E.R w (fun b=>b<w.heap.size) cs x→Calls Tryz.prog f #[.agg cs.toArray] w fun e w'=>∃cs',e=.returned (.agg cs'.toArray)∧E.R w' (In w.heap.size w'.heap.size) cs' x∧Below w.heap.size w w'
def Xo{α:Type}(E:El α)(f:FuncId)(p:α→Prop):Prop:=∀(w:World) (v:Value) (xs:List α),0<w.heap.size→xs.length*E.by'≤140737488355328→(∀x∈xs,p x)→Rr E w (fun b=>b<w.heap.size) v xs→Calls Tryz.prog f #[v] w fun e w'=>∃v',e=.returned v'∧Rr E w' (In w.heap.size w'.heap.size) v' xs∧Below w.heap.size w w'
def Kp(w0:World)(w:World):Prop:=w.heap[0]?=w0.heap[0]?
theorem jD(w:World):ph 0 (Kp w) w:=fun _ hk=>hk 0 (aa _)
theorem Fr.bel{w0 w:World}{own:eP}{its:List It}(h:Fr 0 w0 own its (Kp w0) w):Below w0.heap.size w0 w:=⟨h.ch.os,h.ch.tape,h.ch.output,h.ch.size,fun k hk=>by
 by_cases h0:k=0
 ·subst h0
  exact h.q
 ·exact h.ch.block k hk h0⟩
theorem Fr.make{g:Nat}{w0 w w':World}{own:eP}{its:List It}{Q:World→Prop}(h:Fr g w0 own its Q w)(F:It)(hb:Below w.heap.size w w')(hF:F.P w' (In w.heap.size w'.heap.size)):Fr g w0 own (F::its) Q w':=by
 have hl:=h.lt;have hs:=h.ch.size;exact h.BC F (h.ps.mv fun b hk=>hb.block b (by omega)) ⟨hb.os,hb.tape,hb.output,hb.size,fun k hk _=>hb.block k hk⟩ hF
theorem nX(p:Ev.Ex→Prop)(hc:Wx NI 39 p):Xo NI 37 p:=by
 intro w v xs h0 hn hp hl;have HL:=cN hl;have HC:=cN hc;have HP:=cN hp;obtain⟨A,c,rfl,hc1,hc2⟩:=hl.form;have HN:=cN (show xs.length*104≤140737488355328 from hn);clear hl hc hp hn;go_enter Tryz.func37,Tryz.ntmps37;go_wp2_with fail
 have HT0:Hid (([]:List Ev.Ex)=xs.take 0):=rfl;have QG:=cN (Ro.nil NI w w.heap.size);have HB0:=cN (ax w.heap.size w);go_loopg [3,4] xs.length (fun gg v i wr=>∃ys:List Ev.Ex,ys.length≤xs.length∧gg=xs.length-ys.length∧i=.int .i64 (ys.length:Int)∧Hid (ys=xs.take ys.length)∧Hid (Ro NI wr w.heap.size v ys)∧Hid (Below w.heap.size w wr));case atStart=>exact⟨[],ao _,rfl,rfl,HT0,QG,HB0⟩
 case round=>
  clear HT0 QG HB0;obtain⟨ys,hk,rfl,rfl,HT,HO,HB⟩:=hrel;obtain⟨w5,hw⟩:∃W,W=wr:=⟨_,rfl⟩;subst hw;have hs5:=HB.o.size;obtain⟨A5,c5,rfl,hcp1,hcp2⟩:=HO.o.form;by_cases hlt:ys.length<xs.length
  ·obtain⟨g,off,c2,x,cs,hv,q1,q2,hg,hi,hr,hl2,hra⟩:=HL.o.range hlt;injection hv with e1 e2 e3
   subst e1 e3;clear e2 q1 q2;have RX:=cN (rangeAt.up hra hg HB.o);have IX:=cN (show(Tryz.prog.info? 50).map (·.size)=some cs.length by rw[hl2];exact ji);have HX:=cN (El.hp (E:=NI) hr (P':=fun b=>b<w5.heap.size) (fun b hb=>aB hb hs5) (fun b hb=>HB.o.block b hb));have CC:=cN (HC.o w5 cs x (by omega) (HP.o x (aR hi)) HX.o);have HT1:Hid (ys++[x]=xs.take (ys.length+1)):=by show _=_;rw[bq,hi,←HT.o];rfl
   have t1:decide ((ys.length:Int)<(xs.length:Int))=true:=aq (by omega);have b1:(ys.length:Int)<(xs.length:Int):=by omega
   clear hr hra hi hl2;go_wp2_with (refine wpList_load_mid rfl 50 (.tmp 14) rfl g (off+ys.length*8) rfl cs _ RX.o kP rfl IX.o ?_)
   with_reducible refine CC.o.mono ?_
   rintro e w6 ⟨Rc,rfl,hx6,hb6⟩;obtain⟨h6,A6,m6,c6,ZC,rfl,U1⟩:=dC hx6;clear U1;try unfold cT
   have hs6:=hb6.size;obtain⟨w7,hw⟩:∃W,W=w6.alloc (.cells #[.int .u8 (h6.o.toNat:Int),.int .u8 (h6.v.k.toNat:Int),.int .i64 h6.v.n,.string h6.v.s,.string h6.nm,.string h6.of,.int .i64 h6.n,.slice A6 m6 c6] 50):=⟨_,rfl⟩;have U3:=cN (show NA w7 w6.heap.size 50 #[.int .u8 (h6.o.toNat:Int),.int .u8 (h6.v.k.toNat:Int),.int .i64 h6.v.n,.string h6.v.s,.string h6.nm,.string h6.of,.int .i64 h6.n,.slice A6 m6 c6] by rw[hw];exact NA.new w6 _ _);have XZ:=cN (show Ro NI w7 w.heap.size (.slice A5 ys.length c5) ys by rw[hw];exact(HO.o.below hb6).alloc _);have U9:=cN (show NI.R w7 (Pow w7 w.heap.size (.slice A5 ys.length c5)) [.int .u8 (h6.o.toNat:Int),.int .u8 (h6.v.k.toNat:Int),.int .i64 h6.v.n,.string h6.v.s,.string h6.nm,.string h6.of,.int .i64 h6.n,.slice A6 m6 c6] x by
    rw[hw]
    exact HO.o.pow hs5 (El.hp (E:=NI) hx6 (P':=In w5.heap.size w6.heap.size) (fun b hb=>hb) fun b hb=>aL w6 _ b hb.2) fun b hb=>⟨hb.1,by have:=hb.2;simp;omega⟩)
   have TR:=cN (show Below w.heap.size w w7 by rw[hw];exact(HB.o.trans (hb6.mono hs5)).alloc (by omega) _);have WM:=TR.o.size;have hyn:(ys.length+1)*104≤140737488355328:=by have:=HN.o;omega
   have QH:=cN hyn;clear hx6 hb6 CC HX RX hyn;go_wp2_with (at_builtin;rw[←hw];refine eW Ba rfl (.tmp 11) (.tmp 17) Tryz.underlying27 rfl w.heap.size _ ys rfl XZ.o w6.heap.size 1 [.int .u8 (h6.o.toNat:Int),.int .u8 (h6.v.k.toNat:Int),.int .i64 h6.v.n,.string h6.v.s,.string h6.nm,.string h6.of,.int .i64 h6.n,.slice A6 m6 c6] x rfl U3.o U9.o QH.o (by have:=QH.o;unfold maxLen;omega) WM ?_;intro v8 w8 Zk hg8 Wv;have HO8:=cN Zk;have HB8:=cN (TR.o.trans Wv);clear Zk hg8 Wv)
   go_roundg (xs.length-(ys.length+1));case measure=>omega
   case rel=>exact⟨ys++[x],by simp;omega,by simp,by simp,by rw[ah,aD];exact HT1,HO8,HB8⟩
  ·have he:ys.length=xs.length:=by omega
   have HE:Hid (ys=xs):=by have h1:=HT.o;rw[he,aS (aa _)]at h1;exact h1
   have t1:decide ((ys.length:Int)<(xs.length:Int))=false:=ar (by omega);clear he;go_wp2_with fail
   go_ret;refine⟨_,rfl,?_,HB.o⟩;have h2:=HO.o.rr;rw[HE.o]at h2⊢;exact h2
theorem pO(n:Nat)(hl:Xo NI 37 fun x=>I.depth x≤n):Wx NI 39 fun x=>I.depth x≤n+1:=by
 intro w cs x h0 hp hx;have HL:=cN hl;have HP:=cN hp;obtain⟨H,A,m,c,ks,d,rfl,rfl,h1,h2,hh,h3⟩:=hx;obtain⟨hm,hm2⟩:=h3.len;subst hm;have L:=cN (jK h3 h1 h2);have HM:=cN (show ks.length*NI.by'≤140737488355328 from hm2);have HH:=cN hh;clear hl hp h1 h2 hh h3 hm2;show Calls Tryz.prog 39 #[.agg #[.int .u8 (H.o.toNat:Int),.int .u8 (H.v.k.toNat:Int),.int .i64 H.v.n,.string H.v.s,.string H.nm,.string H.of,.int .i64 H.n,.slice A ks.length c]] w _;have F0:=cN (Fr.start h0 (jD w));have F1:Hid (Fr 0 w [(w.heap.size+1,50,#[.int .u8 0,.int .u8 0,.int .i64 0,.string ⟨#[]⟩,.string ⟨#[]⟩,.string ⟨#[]⟩,.int .i64 0,.slice none 0 0]),(w.heap.size,50,#[.int .u8 (H.o.toNat:Int),.int .u8 (H.v.k.toNat:Int),.int .i64 H.v.n,.string H.v.s,.string H.nm,.string H.of,.int .i64 H.n,.slice A ks.length c])] [] (Kp w) ((w.alloc (.cells #[.int .u8 (H.o.toNat:Int),.int .u8 (H.v.k.toNat:Int),.int .i64 H.v.n,.string H.v.s,.string H.nm,.string H.of,.int .i64 H.n,.slice A ks.length c] 50)).alloc (.cells #[.int .u8 0,.int .u8 0,.int .i64 0,.string ⟨#[]⟩,.string ⟨#[]⟩,.string ⟨#[]⟩,.int .i64 0,.slice none 0 0] 50))):=by have h1:=(F0.o.new 50 #[.int .u8 (H.o.toNat:Int),.int .u8 (H.v.k.toNat:Int),.int .i64 H.v.n,.string H.v.s,.string H.nm,.string H.of,.int .i64 H.n,.slice A ks.length c]).new 50 #[.int .u8 0,.int .u8 0,.int .i64 0,.string ⟨#[]⟩,.string ⟨#[]⟩,.string ⟨#[]⟩,.int .i64 0,.slice none 0 0];rw[dc]at h1;exact h1
 go_enter Tryz.func39,Tryz.ntmps39;obtain⟨w1,hw⟩:∃W,W=(w.alloc (.cells #[.int .u8 (H.o.toNat:Int),.int .u8 (H.v.k.toNat:Int),.int .i64 H.v.n,.string H.v.s,.string H.nm,.string H.of,.int .i64 H.n,.slice A ks.length c] 50)).alloc (.cells #[.int .u8 0,.int .u8 0,.int .i64 0,.string ⟨#[]⟩,.string ⟨#[]⟩,.string ⟨#[]⟩,.int .i64 0,.slice none 0 0] 50):=⟨_,rfl⟩;go_upto_region 1 with fail
 rw[←hw]at F1;rw[←hw];clear hw;obtain⟨gX,Ph⟩:∃g,g=w.heap.size+1:=⟨_,rfl⟩;obtain⟨gB,hgB⟩:∃g,g=w.heap.size:=⟨_,rfl⟩;rw[←Ph,←hgB]at F1;rw[←Ph,←hgB];have hBX:gB≠gX:=by omega
 have hXB:gX≠gB:=by omega
 clear Ph hgB;have d0:=F1.o.cR.cell 7;simp at d0;have CC:=cN (HL.o w1 (.slice A ks.length c) ks (by have:=F1.o.ch.size;omega) HM.o (fun k hk=>mu HP.o hk) (Rr.up L.o F1.o.bel));go_wp2_with fail
 with_reducible refine CC.o.mono ?_
 rintro e w2 ⟨v2,rfl,hr2,hb2⟩;obtain⟨A2,c2,rfl,k1,k2⟩:=hr2.form;have F2:=cN (F1.o.make (It.rr NI _ _) hb2 hr2);clear CC hr2 hb2 d0 F1;have d1:=F2.o.cR.cell 7;have f1:=F2.o.cR.frozen 7;simp at d1;go_upto_region 2 with fail
 have F4:=cN (F2.o.zB 7 (.slice A2 ks.length c2) (cs':=#[.int .u8 (H.o.toNat:Int),.int .u8 (H.v.k.toNat:Int),.int .i64 H.v.n,.string H.v.s,.string H.nm,.string H.of,.int .i64 H.n,.slice A2 ks.length c2]) rfl);obtain⟨w4,hw⟩:∃W,W=w2.setCell ⟨gB,7,none⟩ (.slice A2 ks.length c2):=⟨_,rfl⟩;rw[←hw]at F4;rw[←hw];clear hw d1 f1 F2;obtain⟨Om,On,Oo,Ox,Oy,Oz,OA,OK⟩:=F4.o.cR.y8 0 1 2 3 4 5 6 7;simp at Om On Oo Ox Oy Oz OA OK;obtain⟨NU,NV,NW,NY,NZ,N0,N3,Og⟩:=F4.o.cQ.y8 0 1 2 3 4 5 6 7;simp at NU NV NW NY NZ N0 N3 Og;obtain⟨O6,Pa,Pb,Pm,Pn,Pp,Pq,PQ⟩:=F4.o.cQ.z8 0 1 2 3 4 5 6 7;go_wp2_with fail
 have FZ:=cN (F4.o.pj (ez (Ch.refl _ _ _) (.inl rfl) _ _ _ _ _ _ _ _) (eO F4.o.cQ (.int .u8 (H.o.toNat:Int)) (.int .u8 (H.v.k.toNat:Int)) (.int .i64 H.v.n) (.string H.v.s) (.string H.nm) (.string H.of) (.int .i64 H.n) (.slice A2 ks.length c2)));refine ae (av rfl _ _ gX 50 _ (0,0) _ rfl FZ.o.cQ lD rfl kF) rfl ?_;refine⟨[.int .u8 (H.o.toNat:Int),.int .u8 (H.v.k.toNat:Int),.int .i64 H.v.n,.string H.v.s,.string H.nm,.string H.of,.int .i64 H.n,.slice A2 ks.length c2],rfl,?_,FZ.o.bel⟩;have hr:=FZ.o.N6;obtain⟨d2,hd2⟩:=oX hr HM.o;exact⟨H,A2,ks.length,c2,ks,d2,rfl,rfl,k1,k2,HH.o,O5.dH (fun b hb=>⟨hb.1,hb.2.1⟩) (fun _ _ _=>rfl) hd2⟩
theorem mW:∀n:Nat,Xo NI 37 fun x=>I.depth x≤n:=by
 intro n;induction n with
 |zero=>
  refine nX _ fun w cs x _ hp _=>?_
  exfalso;obtain⟨h,ks⟩:=x;have h1:I.depth (.mk h ks)≤0:=hp;unfold I.depth at h1;omega
 |succ n ih=>exact nX _ (pO n ih)
theorem fS:Xo NI 37 fun _=>True:=fun w v xs h0 hn _ hl=>mW (I.dI xs) w v xs h0 hn (fun x hx=>mu (h:=I.hd 0) (ks:=xs) (by unfold I.depth;exact aa _) hx) hl
theorem lz:Wx NI 39 fun _=>True:=fun w cs x h0 _ hx=>pO (I.depth x) (mW _) w cs x h0 (Nat.le_succ _) hx
theorem rh:Wx eM 80 fun x=>x.ck.length*104≤140737488355328:=by
 intro w cs x h0 hp hx;have HL:=cN fS;have HP:=cN hp;obtain⟨v,rfl,hr,z1,z2⟩:=hx;obtain⟨A,c,rfl,_,_⟩:=hr.form;have L:=cN hr;have HZ:=cN (And.intro z1 z2);clear hp hr z1 z2;show Calls Tryz.prog 80 #[.agg #[.string (I.bs x.nm),.int .u8 (x.k.toNat:Int),.bool x.pr,.bool x.nn,.bool x.un,.slice A x.ck.length c,.string (I.bs x.rf),.int .u8 (x.ac.toNat:Int)]] w _;have F0:=cN (Fr.start h0 (jD w));have F1:Hid (Fr 0 w [(w.heap.size+1,40,#[.string ⟨#[]⟩,.int .u8 0,.bool false,.bool false,.bool false,.slice none 0 0,.string ⟨#[]⟩,.int .u8 0]),(w.heap.size,40,#[.string (I.bs x.nm),.int .u8 (x.k.toNat:Int),.bool x.pr,.bool x.nn,.bool x.un,.slice A x.ck.length c,.string (I.bs x.rf),.int .u8 (x.ac.toNat:Int)])] [] (Kp w) ((w.alloc (.cells #[.string (I.bs x.nm),.int .u8 (x.k.toNat:Int),.bool x.pr,.bool x.nn,.bool x.un,.slice A x.ck.length c,.string (I.bs x.rf),.int .u8 (x.ac.toNat:Int)] 40)).alloc (.cells #[.string ⟨#[]⟩,.int .u8 0,.bool false,.bool false,.bool false,.slice none 0 0,.string ⟨#[]⟩,.int .u8 0] 40))):=by have h1:=(F0.o.new 40 #[.string (I.bs x.nm),.int .u8 (x.k.toNat:Int),.bool x.pr,.bool x.nn,.bool x.un,.slice A x.ck.length c,.string (I.bs x.rf),.int .u8 (x.ac.toNat:Int)]).new 40 #[.string ⟨#[]⟩,.int .u8 0,.bool false,.bool false,.bool false,.slice none 0 0,.string ⟨#[]⟩,.int .u8 0];rw[dc]at h1;exact h1
 go_enter Tryz.func80,Tryz.ntmps80;obtain⟨w1,hw⟩:∃W,W=(w.alloc (.cells #[.string (I.bs x.nm),.int .u8 (x.k.toNat:Int),.bool x.pr,.bool x.nn,.bool x.un,.slice A x.ck.length c,.string (I.bs x.rf),.int .u8 (x.ac.toNat:Int)] 40)).alloc (.cells #[.string ⟨#[]⟩,.int .u8 0,.bool false,.bool false,.bool false,.slice none 0 0,.string ⟨#[]⟩,.int .u8 0] 40):=⟨_,rfl⟩;go_upto_region 1 with fail
 rw[←hw]at F1;rw[←hw];clear hw;obtain⟨gX,Ph⟩:∃g,g=w.heap.size+1:=⟨_,rfl⟩;obtain⟨gB,hgB⟩:∃g,g=w.heap.size:=⟨_,rfl⟩;rw[←Ph,←hgB]at F1;rw[←Ph,←hgB];have hBX:gB≠gX:=by omega
 have hXB:gX≠gB:=by omega
 clear Ph hgB;have d0:=F1.o.cR.cell 5;simp at d0;have CC:=cN (HL.o w1 (.slice A x.ck.length c) x.ck (by have:=F1.o.ch.size;omega) HP.o (fun _ _=>trivial) (Rr.up L.o F1.o.bel));go_wp2_with fail
 with_reducible refine CC.o.mono ?_
 rintro e w2 ⟨v2,rfl,hr2,hb2⟩;obtain⟨A2,c2,rfl,k1,k2⟩:=hr2.form;have F2:=cN (F1.o.make (It.rr NI _ _) hb2 hr2);clear CC hr2 hb2 d0 F1;have d1:=F2.o.cR.cell 5;have f1:=F2.o.cR.frozen 5;simp at d1;go_upto_region 2 with fail
 have F4:=cN (F2.o.zB 5 (.slice A2 x.ck.length c2) (cs':=#[.string (I.bs x.nm),.int .u8 (x.k.toNat:Int),.bool x.pr,.bool x.nn,.bool x.un,.slice A2 x.ck.length c2,.string (I.bs x.rf),.int .u8 (x.ac.toNat:Int)]) rfl);obtain⟨w4,hw⟩:∃W,W=w2.setCell ⟨gB,5,none⟩ (.slice A2 x.ck.length c2):=⟨_,rfl⟩;rw[←hw]at F4;rw[←hw];clear hw d1 f1 F2;obtain⟨Om,On,Oo,Ox,Oy,Oz,OA,OK⟩:=F4.o.cR.y8 0 1 2 3 4 5 6 7;simp at Om On Oo Ox Oy Oz OA OK;obtain⟨NU,NV,NW,NY,NZ,N0,N3,Og⟩:=F4.o.cQ.y8 0 1 2 3 4 5 6 7;simp at NU NV NW NY NZ N0 N3 Og;obtain⟨O6,Pa,Pb,Pm,Pn,Pp,Pq,PQ⟩:=F4.o.cQ.z8 0 1 2 3 4 5 6 7;go_wp2_with fail
 have FZ:=cN (F4.o.pj (ez (Ch.refl _ _ _) (.inl rfl) _ _ _ _ _ _ _ _) (eO F4.o.cQ (.string (I.bs x.nm)) (.int .u8 (x.k.toNat:Int)) (.bool x.pr) (.bool x.nn) (.bool x.un) (.slice A2 x.ck.length c2) (.string (I.bs x.rf)) (.int .u8 (x.ac.toNat:Int))));refine ae (av rfl _ _ gX 40 _ (0,0) _ rfl FZ.o.cQ lR rfl lP) rfl ?_;refine⟨[.string (I.bs x.nm),.int .u8 (x.k.toNat:Int),.bool x.pr,.bool x.nn,.bool x.un,.slice A2 x.ck.length c2,.string (I.bs x.rf),.int .u8 (x.ac.toNat:Int)],rfl,?_,FZ.o.bel⟩;exact⟨_,rfl,Rr.hp (FZ.o.N6:Rr NI _ _ _ _) (fun b hb=>⟨hb.1,hb.2.1⟩) (fun _ _=>rfl),HZ.o.1,HZ.o.2⟩
theorem r8(p:I.Oj→Prop)(hc:Wx eM 80 p):Xo eM 36 p:=by
 intro w v xs h0 hn hp hl;have HL:=cN hl;have HC:=cN hc;have HP:=cN hp;obtain⟨A,c,rfl,hc1,hc2⟩:=hl.form;have HN:=cN (show xs.length*72≤140737488355328 from hn);clear hl hc hp hn;go_enter Tryz.func36,Tryz.ntmps36;go_wp2_with fail
 have HT0:Hid (([]:List I.Oj)=xs.take 0):=rfl;have QG:=cN (Ro.nil eM w w.heap.size);have HB0:=cN (ax w.heap.size w);go_loopg [3,4] xs.length (fun gg v i wr=>∃ys:List I.Oj,ys.length≤xs.length∧gg=xs.length-ys.length∧i=.int .i64 (ys.length:Int)∧Hid (ys=xs.take ys.length)∧Hid (Ro eM wr w.heap.size v ys)∧Hid (Below w.heap.size w wr));case atStart=>exact⟨[],ao _,rfl,rfl,HT0,QG,HB0⟩
 case round=>
  clear HT0 QG HB0;obtain⟨ys,hk,rfl,rfl,HT,HO,HB⟩:=hrel;obtain⟨w5,hw⟩:∃W,W=wr:=⟨_,rfl⟩;subst hw;have hs5:=HB.o.size;obtain⟨A5,c5,rfl,hcp1,hcp2⟩:=HO.o.form;by_cases hlt:ys.length<xs.length
  ·obtain⟨g,off,c2,x,cs,hv,q1,q2,hg,hi,hr,hl2,hra⟩:=HL.o.range hlt;injection hv with e1 e2 e3
   subst e1 e3;clear e2 q1 q2;have RX:=cN (rangeAt.up hra hg HB.o);have IX:=cN (show(Tryz.prog.info? 40).map (·.size)=some cs.length by rw[hl2];exact zc);have HX:=cN (El.hp (E:=eM) hr (P':=fun b=>b<w5.heap.size) (fun b hb=>aB hb hs5) (fun b hb=>HB.o.block b hb));have CC:=cN (HC.o w5 cs x (by omega) (HP.o x (aR hi)) HX.o);have HT1:Hid (ys++[x]=xs.take (ys.length+1)):=by show _=_;rw[bq,hi,←HT.o];rfl
   have t1:decide ((ys.length:Int)<(xs.length:Int))=true:=aq (by omega);have b1:(ys.length:Int)<(xs.length:Int):=by omega
   clear hr hra hi hl2;go_wp2_with (refine wpList_load_mid rfl 40 (.tmp 14) rfl g (off+ys.length*8) rfl cs _ RX.o zZ rfl IX.o ?_)
   with_reducible refine CC.o.mono ?_
   rintro e w6 ⟨Rc,rfl,hx6,hb6⟩;obtain⟨n6,k6,a6,b6,u6,A6,m6,c6,f6,y6,rfl⟩:=rn hx6;have hs6:=hb6.size;obtain⟨w7,hw⟩:∃W,W=w6.alloc (.cells #[.string n6,.int .u8 k6,.bool a6,.bool b6,.bool u6,.slice A6 m6 c6,.string f6,.int .u8 y6] 40):=⟨_,rfl⟩;have U3:=cN (show NA w7 w6.heap.size 40 #[.string n6,.int .u8 k6,.bool a6,.bool b6,.bool u6,.slice A6 m6 c6,.string f6,.int .u8 y6] by rw[hw];exact NA.new w6 _ _);have XZ:=cN (show Ro eM w7 w.heap.size (.slice A5 ys.length c5) ys by rw[hw];exact(HO.o.below hb6).alloc _);have U9:=cN (show eM.R w7 (Pow w7 w.heap.size (.slice A5 ys.length c5)) [.string n6,.int .u8 k6,.bool a6,.bool b6,.bool u6,.slice A6 m6 c6,.string f6,.int .u8 y6] x by
    rw[hw]
    exact HO.o.pow hs5 (El.hp (E:=eM) hx6 (P':=In w5.heap.size w6.heap.size) (fun b hb=>hb) fun b hb=>aL w6 _ b hb.2) fun b hb=>⟨hb.1,by have:=hb.2;simp;omega⟩)
   have TR:=cN (show Below w.heap.size w w7 by rw[hw];exact(HB.o.trans (hb6.mono hs5)).alloc (by omega) _);have WM:=TR.o.size;have hyn:(ys.length+1)*72≤140737488355328:=by have:=HN.o;omega
   have QH:=cN hyn;clear hx6 hb6 CC HX RX hyn;go_wp2_with (at_builtin;rw[←hw];refine eW sZ rfl (.tmp 11) (.tmp 17) Tryz.underlying23 rfl w.heap.size _ ys rfl XZ.o w6.heap.size 1 [.string n6,.int .u8 k6,.bool a6,.bool b6,.bool u6,.slice A6 m6 c6,.string f6,.int .u8 y6] x rfl U3.o U9.o QH.o (by have:=QH.o;unfold maxLen;omega) WM ?_;intro v8 w8 Zk hg8 Wv;have HO8:=cN Zk;have HB8:=cN (TR.o.trans Wv);clear Zk hg8 Wv)
   go_roundg (xs.length-(ys.length+1));case measure=>omega
   case rel=>exact⟨ys++[x],by simp;omega,by simp,by simp,by rw[ah,aD];exact HT1,HO8,HB8⟩
  ·have he:ys.length=xs.length:=by omega
   have HE:Hid (ys=xs):=by have h1:=HT.o;rw[he,aS (aa _)]at h1;exact h1
   have t1:decide ((ys.length:Int)<(xs.length:Int))=false:=ar (by omega);clear he;go_wp2_with fail
   go_ret;refine⟨_,rfl,?_,HB.o⟩;have h2:=HO.o.rr;rw[HE.o]at h2⊢;exact h2
theorem qe:Xo eM 36 fun x=>x.ck.length*104≤140737488355328:=r8 _ rh
end
end Go.Proofs.YtnicfobpclehkaaGreatDoor
