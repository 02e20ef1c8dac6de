import Derived.Test.YtnicfobpclehkaaGreatDoorP14
import Derived.Test.YtnicfobpclehkaaGreatDoorP19
set_option maxHeartbeats 3200000
set_option linter.unusedVariables false
set_option linter.unusedSimpArgs false
namespace Go.Proofs.YtnicfobpclehkaaGreatDoor
open Go.RowKit
section
set_option maxRecDepth 100000
theorem qJ(s:I.Bs):(!(I.bs s).toList.isEmpty)=decide (s≠[]):=by
 rw[xP];cases s<;>rfl
theorem Me:∀D,Zz D:=by
 intro D;induction D with
 |zero=>exact Kx 0 fun D' h=>by omega
 |succ D ih=>
  exact Kx (D+1) fun D' h=>by
   obtain rfl:D=D':=by omega
   exact ih
structure Ps (N:Nat) (g:Nat) (v:Value) (st:I.Wr) (w:World):Prop where
 ws:WS g w v st
 bd:I.Bd N st
 en:Sb g sI w
theorem Ps.of{N g:Nat}{w0 w:World}{v0 v:Value}{own:eP}{st:I.Wr}(F:Fw g w0 v0 own st v w)(hB:I.Bd N st)(hE:Sb g sI w0){M:Nat}(h:N≤M:=by decide):Ps M g v st w:=⟨F.ws,hB.mono h,F.sb hE⟩
theorem kQ(g:Nat)(cs:List Value)(x:Ev.Ex)(v:Value)(st:I.Wr)(w:World)(h:Ps 8000 g v st w)(hx:NI.R w (fun b=>b<g) cs x)(hsm:OJ x):
 Calls Tryz.prog 89 #[.pointer (some ⟨g,0,none⟩),.agg cs.toArray] w (gm g w v (I.jy x st)):=by
 have F0:=cN (Fw.start h.ws);have QQ:=cN h.bd;have Ol:=cN h.en;obtain⟨hd,A,m,c,ks,D,rfl,rfl,h1,h2,h3,h4⟩:=hx;have HX:=cN h4;have HH:=cN h3;have Qk:=cN hsm;clear h h3 h4 hsm;unfold cT;go_enter Tryz.func89,Tryz.ntmps89;go_upto_region 1 with fail
 obtain⟨w1,hw1⟩:∃x,x=w.alloc (.cells #[.int .u8 (hd.o.toNat:Int),.int .u8 (hd.v.k.toNat:Int),.int .i64 hd.v.n,.string hd.v.s,.string hd.nm,.string hd.of,.int .i64 hd.n,.slice A m c] 50):=⟨_,rfl⟩;have F1:Hid (Fw g w v [(w.heap.size,50,#[.int .u8 (hd.o.toNat:Int),.int .u8 (hd.v.k.toNat:Int),.int .i64 hd.v.n,.string hd.v.s,.string hd.nm,.string hd.of,.int .i64 hd.n,.slice A m c])] st v w1):=by show Fw _ _ _ _ _ _ _;rw[hw1];exact F0.o.new _ _
 rw[←hw1];clear hw1;obtain⟨e0,e1,e2,e3,e4,e5,e6,e7⟩:=F1.o.cQ.y8 0 1 2 3 4 5 6 7;simp at e0 e1 e2 e3 e4 e5 e6 e7;go_wp2_with fail
 have cc:=Me D hd A m c ks g 1 v st w1 F1.o.ws QQ.o (F1.o.sb Ol.o) HH.o Qk.o (F1.o.S8 HX.o) h1 h2 (by decide);unfold Vz at cc;rw[show((1:Nat):Int)=1 from rfl]at cc;with_reducible refine(F1.o.sub cc).mono ?_
 rintro e w2 ⟨v2,rfl,hF⟩;have F2:=cN hF;clear hF cc;go_wp2_with fail
 exact ae (v:=.tuple #[]) (aA rfl _ _ _) rfl F2.o.done
theorem uZ{N:Nat}{st:I.Wr}(h:I.Bd N st)(x:Ev.Ex){M:Nat}(hm:max N 4241≤M:=by decide):I.Bd M (I.jy x st):=(h.expr x).mono hm
theorem rT(g:Nat)(u u2 v:Value)(xs:List Ev.Ex)(ss:List I.Bs)(st:I.Wr)(w:World)(h:Ps 7000 g v st w)(hl:Rr NI w (fun b=>b<g) u xs)(hsm:∀x∈xs,OJ x)(hw:Rr Ql w (Po g v w) u2 ss)(hz:∀s∈ss,s.length<562949953421311)(hn:ss.length≤100):
 Calls Tryz.prog 90 #[.pointer (some ⟨g,0,none⟩),u,u2] w (gm g w v (I.first xs ss st)):=by
 have F0:=cN (Fw.start h.ws);have QQ:=cN h.bd;have Ol:=cN h.en;have HL:=cN hl;have HW:=cN hw;have HZ:=cN hz;have hlen:=h.bd.le;obtain⟨A,c,rfl,hc1,hc2⟩:=hl.form;obtain⟨A2,c2,rfl,hd1,hd2⟩:=hw.form;clear h hl hw hz;cases xs with
 |nil=>
  have HS:Hid (I.first [] ss st=st):=cN rfl;have ql:(([]:List Ev.Ex).length:Int)=0:=rfl;go_enter Tryz.func90,Tryz.ntmps90;go_wp2_with fail
  rw[HS.o];exact ae (v:=.tuple #[]) (aA rfl _ _ _) rfl F0.o.done
 |cons x xs=>
  have HS:Hid (I.first (x::xs) ss st=I.jy x (I.put ss st)):=cN rfl;have HM:=cN (hsm x ag);obtain⟨n,hn2⟩:∃n,n=(x::xs).length:=⟨_,rfl⟩;have hn0:0<n:=by rw[hn2];simp
  rw[←hn2]at HL hc1;rw[←hn2];have t1:decide ((0:Int)<(n:Int))=true:=aq (by omega);have q1:(0:Int)<(n:Int):=by omega
  clear hn2 hsm;go_enter Tryz.func90,Tryz.ntmps90;go_wp2_with fail
  with_reducible refine(F0.o.sub (kv g _ _ ss _ _ F0.o.ws HW.o HZ.o (by omega))).mono ?_
  rintro e w1 ⟨v1,rfl,hF⟩;have F1:=cN hF;have B1:Hid (I.Bd 7100 (I.put ss st)):=cN ((QQ.o.put ss).mono (by omega));clear hF;have Ut:=cN (F1.o.rr HL.o);obtain⟨gk,off,y,cs,rfl,hg,hy,hr,hcell⟩:=Ut.o.at hn0;have hy:some x=some y:=hy;injection hy with hy
  subst hy;have HR:=cN hr;have hra:w1.rangeAt gk (off+0*8) cs:=fun j u hu=>hcell j u hu
  rw[ct,bh]at hra;have RH:=cN hra;have IX:=cN (show(Tryz.prog.info? 50).map (·.size)=some cs.length by rw[NI.len hr];exact ji);clear hg hr hcell hra;go_wp2_with (refine wpList_load_mid rfl 50 (.tmp 14) rfl gk off rfl cs _ RH.o kP rfl IX.o ?_)
  with_reducible refine(F1.o.sub (kQ g cs x _ _ _ (Ps.of F1.o B1.o Ol.o) HR.o HM.o)).mono ?_
  rintro e w2 ⟨v2,rfl,hF⟩;have F2:=cN hF;clear hF;go_wp2_with fail
  rw[HS.o];exact ae (v:=.tuple #[]) (aA rfl _ _ _) rfl F2.o.done
theorem Cf(g gB:Nat)(cs:List Value)(x:I.Qq)(v:Value)(st:I.Wr)(w:World)(h:Ps 5000 g v st w)(hx:fL.R w (fun b=>b<g) cs x)(hsm:OJ x.x)(hnm:x.nm.length≤140737488355328)(bB:NA w gB 92 #[.pointer (some ⟨g,0,none⟩)])(oB:gB≠g∧v.ownBlock≠some gB):
 Calls Tryz.prog 166 #[.agg cs.toArray,.pointer (some ⟨gB,0,none⟩)] w (gm g w v (I.pY x st)):=by
 have F0:=cN (Fw.start h.ws);have QQ:=cN h.bd;have Ol:=cN h.en;have HB:=cN bB;obtain⟨ce,rfl,hxe,hsz⟩:=hx;obtain⟨hd,A,m,c,ks,hce,hxk⟩:=dC hxe;have HR:=cN (show NI.R w (fun b=>b<g) (cT hd A m c) x.x by rw[←hce];exact hxe);rw[hce];unfold cT at HR⊢;have HM:=cN hsm;clear hxe hxk hce hsm;try simp only[List.cons_append,aZ]
 have SW:=cN hsz;clear hsz;clear h bB;go_enter Tryz.func166,Tryz.ntmps166;go_upto_region 1 with fail
 obtain⟨w1,hw1⟩:∃W,W=w.alloc (.cells #[.int .u8 (hd.o.toNat:Int),.int .u8 (hd.v.k.toNat:Int),.int .i64 hd.v.n,.string hd.v.s,.string hd.nm,.string hd.of,.int .i64 hd.n,.slice A m c,.string (I.bs x.nm)] 130):=⟨_,rfl⟩;have F1:Hid (Fw g w v [(w.heap.size,130,#[.int .u8 (hd.o.toNat:Int),.int .u8 (hd.v.k.toNat:Int),.int .i64 hd.v.n,.string hd.v.s,.string hd.nm,.string hd.of,.int .i64 hd.n,.slice A m c,.string (I.bs x.nm)])] st v w1):=by show Fw _ _ _ _ _ _ _;rw[hw1];exact F0.o.new _ _
 rw[←hw1];clear hw1;have B1:Hid (I.Bd 5000 st):=QQ;have cB:=(F1.o.iz HB.o oB.1 oB.2).cell 0;simp at cB;obtain⟨e0,e1,e2,e3,e4,e5,e6,e7⟩:=F1.o.cQ.y8 0 1 2 3 4 5 6 7;simp at e0 e1 e2 e3 e4 e5 e6 e7;go_wp2_with fail
 with_reducible refine kB (M:=5000) F1.o (kQ g _ x.x _ _ _ (Ps.of F1.o B1.o Ol.o) (F1.o.el HR.o) HM.o) ?_ fun v2 s2 w2 E2 F2 B2=>?_
 ·exact uZ B1.o _
 clear cB;have cB:=(F2.o.iz HB.o oB.1 oB.2).cell 0;simp at cB;have e8:=F2.o.cQ.cell 8;simp at e8;have HI:=cN (qJ x.nm);go_wp2_with fail
 rw[HI.o];with_reducible refine eK (M:=5002) (dS F2.o (decide (x.nm≠[])) (n:=2) (cells:=#[.string ⟨#[97,115]⟩,.string (I.bs x.nm)]) [[97,115],x.nm] rfl rfl (by decide) (by simp<;>omega) (by have:=B2.o.le;omega)) ?_ fun v3 s3 w3 E3 F3 B3=>?_
 ·exact I.Bd.mono (I.Bd.fQ 2 B2.o (by rfl)) (by decide)
 clear cB;have cB:=(F3.o.iz HB.o oB.1 oB.2).cell 0;simp at cB;have HS:Hid (I.pY x st=s3):=by show _=_;unfold I.pY;rw[E2.o,E3.o]
 go_wp2_with fail
 rw[HS.o];exact ae (v:=.tuple #[]) (aA rfl _ _ _) rfl F3.o.done
theorem zu(g gB:Nat)(cs:List Value)(x:I.Ord)(v:Value)(st:I.Wr)(w:World)(h:Ps 5000 g v st w)(hx:fY.R w (fun b=>b<g) cs x)(hsm:OJ x.x)(bB:NA w gB 92 #[.pointer (some ⟨g,0,none⟩)])(oB:gB≠g∧v.ownBlock≠some gB):
 Calls Tryz.prog 168 #[.agg cs.toArray,.pointer (some ⟨gB,0,none⟩)] w (gm g w v (I.l9 x st)):=by
 have F0:=cN (Fw.start h.ws);have QQ:=cN h.bd;have Ol:=cN h.en;have HB:=cN bB;obtain⟨ce,rfl,hxe⟩:=hx;obtain⟨hd,A,m,c,ks,hce,hxk⟩:=dC hxe;have HR:=cN (show NI.R w (fun b=>b<g) (cT hd A m c) x.x by rw[←hce];exact hxe);rw[hce];unfold cT at HR⊢;have HM:=cN hsm;clear hxe hxk hce hsm;try simp only[List.cons_append,aZ]
 clear h bB;go_enter Tryz.func168,Tryz.ntmps168;go_upto_region 1 with fail
 obtain⟨w1,hw1⟩:∃W,W=w.alloc (.cells #[.int .u8 (hd.o.toNat:Int),.int .u8 (hd.v.k.toNat:Int),.int .i64 hd.v.n,.string hd.v.s,.string hd.nm,.string hd.of,.int .i64 hd.n,.slice A m c,.bool x.ds] 134):=⟨_,rfl⟩;have F1:Hid (Fw g w v [(w.heap.size,134,#[.int .u8 (hd.o.toNat:Int),.int .u8 (hd.v.k.toNat:Int),.int .i64 hd.v.n,.string hd.v.s,.string hd.nm,.string hd.of,.int .i64 hd.n,.slice A m c,.bool x.ds])] st v w1):=by show Fw _ _ _ _ _ _ _;rw[hw1];exact F0.o.new _ _
 rw[←hw1];clear hw1;have B1:Hid (I.Bd 5000 st):=QQ;have cB:=(F1.o.iz HB.o oB.1 oB.2).cell 0;simp at cB;obtain⟨e0,e1,e2,e3,e4,e5,e6,e7⟩:=F1.o.cQ.y8 0 1 2 3 4 5 6 7;simp at e0 e1 e2 e3 e4 e5 e6 e7;go_wp2_with fail
 with_reducible refine kB (M:=5000) F1.o (kQ g _ x.x _ _ _ (Ps.of F1.o B1.o Ol.o) (F1.o.el HR.o) HM.o) ?_ fun v2 s2 w2 E2 F2 B2=>?_
 ·exact uZ B1.o _
 clear cB;have cB:=(F2.o.iz HB.o oB.1 oB.2).cell 0;simp at cB;have e8:=F2.o.cQ.cell 8;simp at e8;go_wp2_with fail
 with_reducible refine eK (M:=5001) (dS F2.o x.ds (n:=1) (cells:=#[.string ⟨#[100,101,115,99]⟩]) [[100,101,115,99]] rfl rfl (by decide) (by simp<;>omega) (by have:=B2.o.le;omega)) ?_ fun v3 s3 w3 E3 F3 B3=>?_
 ·exact I.Bd.mono (I.Bd.fQ 1 B2.o (by rfl)) (by decide)
 clear cB;have cB:=(F3.o.iz HB.o oB.1 oB.2).cell 0;simp at cB;have HS:Hid (I.l9 x st=s3):=by show _=_;unfold I.l9;rw[E2.o,E3.o]
 go_wp2_with fail
 rw[HS.o];exact ae (v:=.tuple #[]) (aA rfl _ _ _) rfl F3.o.done
theorem EB(g gB:Nat)(cs:List Value)(x:I.OI)(v:Value)(st:I.Wr)(w:World)(h:Ps 5000 g v st w)(hx:fG.R w (fun b=>b<g) cs x)(hsm:OJ x.x)(hnm:x.nm.length≤140737488355328)(bB:NA w gB 92 #[.pointer (some ⟨g,0,none⟩)])(oB:gB≠g∧v.ownBlock≠some gB):
 Calls Tryz.prog 88 #[.agg cs.toArray,.pointer (some ⟨gB,0,none⟩)] w (gm g w v (I.sF x st)):=by
 have F0:=cN (Fw.start h.ws);have QQ:=cN h.bd;have Ol:=cN h.en;have HB:=cN bB;obtain⟨ce,rfl,hxe,hsz⟩:=hx;obtain⟨hd,A,m,c,ks,hce,hxk⟩:=dC hxe;have HR:=cN (show NI.R w (fun b=>b<g) (cT hd A m c) x.x by rw[←hce];exact hxe);rw[hce];unfold cT at HR⊢;have HM:=cN hsm;clear hxe hxk hce hsm;try simp only[List.cons_append,aZ]
 have SW:=cN hsz;clear hsz;clear h bB;go_enter Tryz.func88,Tryz.ntmps88;go_upto_region 1 with fail
 obtain⟨w1,hw1⟩:∃W,W=w.alloc (.cells #[.string (I.bs x.nm),.int .u8 (hd.o.toNat:Int),.int .u8 (hd.v.k.toNat:Int),.int .i64 hd.v.n,.string hd.v.s,.string hd.nm,.string hd.of,.int .i64 hd.n,.slice A m c] 85):=⟨_,rfl⟩;have F1:Hid (Fw g w v [(w.heap.size,85,#[.string (I.bs x.nm),.int .u8 (hd.o.toNat:Int),.int .u8 (hd.v.k.toNat:Int),.int .i64 hd.v.n,.string hd.v.s,.string hd.nm,.string hd.of,.int .i64 hd.n,.slice A m c])] st v w1):=by show Fw _ _ _ _ _ _ _;rw[hw1];exact F0.o.new _ _
 rw[←hw1];clear hw1;have B1:Hid (I.Bd 5000 st):=QQ;have cB:=(F1.o.iz HB.o oB.1 oB.2).cell 0;simp at cB;have e8:=F1.o.cQ.cell 0;simp at e8;go_wp2_with fail
 with_reducible refine eK (M:=5002) (dL F1.o (n:=2) (cells:=#[.string (I.bs x.nm),.string ⟨#[61]⟩]) [x.nm,[61]] rfl rfl (by decide) (by simp<;>omega) (by have:=B1.o.le;omega)) ?_ fun v2 s2 w2 E2 F2 B2=>?_
 ·exact I.Bd.mono (I.Bd.dM 2 B1.o (by rfl)) (by decide)
 clear cB;have cB:=(F2.o.iz HB.o oB.1 oB.2).cell 0;simp at cB;obtain⟨e0,e1,e2,e3,e4,e5,e6,e7⟩:=F2.o.cQ.y8 1 2 3 4 5 6 7 8;simp at e0 e1 e2 e3 e4 e5 e6 e7;go_wp2_with fail
 with_reducible refine kB (M:=5002) F2.o (kQ g _ x.x _ _ _ (Ps.of F2.o B2.o Ol.o) (F2.o.el HR.o) HM.o) ?_ fun v3 s3 w3 E3 F3 B3=>?_
 ·exact uZ B2.o _
 clear cB;have cB:=(F3.o.iz HB.o oB.1 oB.2).cell 0;simp at cB;have HS:Hid (I.sF x st=s3):=by show _=_;unfold I.sF;rw[E2.o,E3.o]
 go_wp2_with fail
 rw[HS.o];exact ae (v:=.tuple #[]) (aA rfl _ _ _) rfl F3.o.done
end
section
set_option maxRecDepth 100000
theorem qy{w:World}{k n:Nat}{t:TypeId}{mk:Nat×Nat}{cells:Array Value}{ss:List I.Bs}(hk:w.heap[k]?=some (.cells cells t mk))(hc:cells.toList=ss.map fun s=>Value.string (I.bs s))(hn:ss.length=n∧n≤1000):Rr Ql w (fun _=>True) (.slice (some ⟨k,0,none⟩) n n) ss:=by
 obtain⟨hn,hm⟩:=hn;subst hn;refine⟨_,_,rfl,aa _,by omega,fun h0=>⟨k,0,rfl,trivial,fun i x hi=>⟨[.string (I.bs x)],rfl,fun j u hu=>?_⟩⟩⟩;have hj:=(ay.1 hu).1;simp at hj;subst hj;simp at hu;subst hu;have h1:=cM w k i cells t mk hk;rw[show 0+i*Ql.k+0=i by show 0+i*1+0=i;omega,h1,←Array.getElem?_toList,hc,bf,hi];rfl
theorem vi{i:Int}{l:List I.Bs}(h:∀s∈l,s.length≤100):(I.word i l).length≤100:=by
 unfold I.word;split
 ·exact ao _
 ·rw[List.getD_eq_getElem?_getD];cases hq:l[i.toNat]? with
  |none=>exact ao _
  |some s=>exact h s (aR hq)
theorem tB(a:UInt8):IntKind.i64.wrap (IntKind.i64.wrap (a.toNat:Int)-1)=(a.toNat:Int)-1:=by
 have:=a.toNat_lt;rw[IntKind.wrap_i64,IntKind.wrap_i64];omega
theorem Bo(a:UInt8)(k:Nat):((a.toNat:Int)==(k:Int))=decide (a.toNat=k):=by
 rw[aG,aV,bX];omega
section
variable{g:Nat}{w0 w:World}{v0 v:Value}{own:eP}{st:I.Wr}
theorem oz(F:Fw g w0 v0 own st v w)(hB:I.Bd 6900 st)(hE:Sb g sI w0)(xs:List Ev.Ex){u:Value}(hl:Rr NI w0 (fun b=>b<g) u xs)(hsm:∀x∈xs,OJ x){n:Nat}{t:TypeId}{cells:Array Value}(ss:List I.Bs)(hc:cells.toList=ss.map fun s=>Value.string (I.bs s))(hn:n=ss.length)(hm:n≤100)(hz:∀s∈ss,s.length<562949953421311):
 Calls Tryz.prog 90 #[.pointer (some ⟨g,0,none⟩),u,.slice (some ⟨w.heap.size,0,none⟩) n n] (w.alloc (.cells cells t)) fun e w'=>∃v' st',I.first xs ss st=st'∧e=.returned (.tuple #[])∧Fw g w0 v0 own st' v' w':=
 (rT g u _ v xs ss st _ ⟨(F.tmp _).ws,hB.mono (by decide),(F.tmp _).sb hE⟩ ((F.tmp _).rr hl) hsm (pH F hc hn (by omega)) hz (by omega)).mono fun _ _ ⟨h1,v',h2,h3,h4⟩=>⟨v',_,rfl,h1,(F.tmp _).call h2 h3 h4⟩
end
theorem Hi(g:Nat)(cs:List Value)(x:I.Oj)(v:Value)(st:I.Wr)(w:World)(h:Ps 5000 g v st w)(hx:eM.R w (fun b=>b<g) cs x)(hsm:∀y∈x.ck,OJ y)(hnm:x.nm.length≤140737488355328)(hrf:x.rf.length≤140737488355328):
 Calls Tryz.prog 158 #[.pointer (some ⟨g,0,none⟩),.agg cs.toArray] w (gm g w v (I.gY x st)):=by
 have F0:=cN (Fw.start h.ws);have QQ:=cN h.bd;have Ol:=cN h.en;obtain⟨u,rfl,hk,_,_⟩:=hx;obtain⟨A,c,rfl,h1,h2⟩:=hk.form;obtain⟨m,hm⟩:∃m,m=x.ck.length:=⟨_,rfl⟩;rw[←hm]at hk h1;rw[←hm];have HK:=cN hk;have HM:=cN hsm;have Hm:=cN hm;obtain⟨T,hT⟩:∃T,I.word ((x.k.toNat:Int)-1) [[98,111,111,108],[105,110,116],[100,101,99],[116,101,120,116],[98,121,116,101,115]]=T:=⟨_,rfl⟩;have HT:=cN hT;have W3:Hid (IntKind.i64.wrap (IntKind.i64.wrap (x.k.toNat:Int)-1)=(x.k.toNat:Int)-1):=cN (tB x.k);have To:T.length≤100:=by rw[←hT];exact vi (by decide)
 clear h hk hsm hT hm;go_enter Tryz.func158,Tryz.ntmps158;go_upto_region 1 with fail
 obtain⟨w1,hw1⟩:∃W,W=w.alloc (.cells #[.string (I.bs x.nm),.int .u8 (x.k.toNat:Int),.bool x.pr,.bool x.nn,.bool x.un,.slice A m c,.string (I.bs x.rf),.int .u8 (x.ac.toNat:Int)] 40):=⟨_,rfl⟩;have F1:Hid (Fw g w v [(w.heap.size,40,#[.string (I.bs x.nm),.int .u8 (x.k.toNat:Int),.bool x.pr,.bool x.nn,.bool x.un,.slice A m c,.string (I.bs x.rf),.int .u8 (x.ac.toNat:Int)])] st v w1):=by show Fw _ _ _ _ _ _ _;rw[hw1];exact F0.o.new _ _
 rw[←hw1];clear hw1;have B1:Hid (I.Bd 5000 st):=QQ;by_cases h0:0<m
 ·have t0:decide ((0:Int)<(m:Int))=true:=aq (by omega);have t0n:decide (0<m)=true:=aq h0;rw[Hm.o]at h0;obtain⟨c0,c1⟩:=F1.o.cQ.y2 0 1;simp at c0 c1;have SS:=F1.o.cQ.lt;have hTs:=dZ (l:=[(8,PM)]) (fun p hp=>by
   simp only[af,aj,aH]at hp
   subst hp
   exact PM.mb)
  have OT:=eY (l:=[(8,PK (.string (I.bs T)))]) (fun p hp=>by
   simp only[af,aj,aH]at hp
   subst hp
   exact PK.some _)
  have OH:=cN hTs;have Pk:=cN OT;clear hTs OT;refine db (tab [(8,PM)]) (Up w1) (w1.heap.size) 10 (Qe [(8,PK (.string (I.bs T)))]) (Pk.o) (OH.o) (Up.dX _) OM (OM.turns (Up.dX _) (OH.o)) (by kernel_rfl) (by kernel_rfl) (Up.start _) (aa _) ?_;simp only[List.take_succ_cons,List.take_zero,List.drop_succ_cons,List.drop_zero];iterate 2 (refine cP ?_ rfl rfl (fun w' hS=>?_) ?_;rotate_left;go_simp;rfl;go_frame)
  refine cP ?_ rfl rfl (fun w' hS=>?_) ?_;rotate_left
  ·have c0':=(hS.cell (p:=⟨w.heap.size,0,none⟩) SS).trans c0;go_simp;rfl
  go_frame;refine cP ?_ rfl rfl (fun w' hS=>?_) ?_;rotate_left
  ·go_simp;rfl
  go_frame;refine cP ?_ rfl rfl (fun w' hS=>?_) ?_;rotate_left
  ·have c1':=(hS.cell (p:=⟨w.heap.size,1,none⟩) SS).trans c1;go_simp;rfl
  go_frame;iterate 2 (refine cP ?_ rfl rfl (fun w' hS=>?_) ?_;rotate_left;go_simp;rfl;go_frame)
  refine dJ (some (5,5)) (.cells #[.string ⟨#[98,111,111,108]⟩,.string ⟨#[105,110,116]⟩,.string ⟨#[100,101,99]⟩,.string ⟨#[116,101,120,116]⟩,.string ⟨#[98,121,116,101,115]⟩] 9) rfl rfl (fun w' hS=>?_) fun g7=>?_
  ·go_simp;rfl
  go_frame;refine' du _ _ _ rfl rfl (fun w'=>?_) (fun w' hS hh hs=>?_) (fun v8 h8=>?_);rotate_left 2
  ·go_simp;constructor<;>rfl
  ·have hbk:=(hs.2 7 g7 _ (by kernel_rfl) rfl).1;refine(jU _ _ [[98,111,111,108],[105,110,116],[100,101,99],[116,101,120,116],[98,121,116,101,115]] (fun _=>True) w' (qy (n:=5) hbk rfl ⟨rfl,by decide⟩)).mono ?_;rintro e w2 ⟨rfl,rfl⟩;rw[W3.o,HT.o];exact⟨_,rfl,⟨rfl,trivial⟩,ax _ _⟩
  obtain rfl:=h8;go_frame;refine dJ (some (2,2)) (.cells #[.string (I.bs x.nm),.string (I.bs T)] 9) rfl rfl (fun w' hS=>?_) fun g9=>?_
  ·go_simp;rfl
  go_frame;refine dz fun w2 hH=>?_
  have F2:=cN (F1.o.quiet hH.s);have B2:Hid (I.Bd 5000 st):=B1;have hbk:=(hH.gh 9 _ _ rfl).1;have hbg:=(hH.gh 9 _ _ rfl).2;have HL:=cN (jQ (n:=2) (ss:=[x.nm,T]) F1.o hH.s hbk hbg rfl ⟨rfl,by decide⟩);clear hH hbk hbg c0 c1;go_wp2_with fail
  simp only[ej];with_reducible refine kB (M:=5002) F2.o (kv g _ _ [x.nm,T] _ _ F2.o.ws HL.o (by simp<;>omega) (by have:=B2.o.le;simp only[ab,ai];omega)) ?_ fun v3 s3 w3 E3 F3 B3=>?_
  ·exact I.Bd.mono (I.Bd.dM 2 B2.o (by rfl)) (by decide)
  have c2:=F3.o.cQ.cell 2;simp at c2;go_wp2_with fail
  with_reducible refine eK (M:=5004) (dS F3.o x.pr (n:=2) (cells:=#[.string ⟨#[112,114,105,109,97,114,121]⟩,.string ⟨#[107,101,121]⟩]) [[112,114,105,109,97,114,121],[107,101,121]] rfl rfl (by decide) (by simp<;>omega) (by have:=B3.o.le;omega)) ?_ fun v4 s4 w4 E4 F4 B4=>?_
  ·exact I.Bd.mono (I.Bd.fQ 2 B3.o (by rfl)) (by decide)
  have c3:=F4.o.cQ.cell 3;simp at c3;go_wp2_with fail
  with_reducible refine eK (M:=5006) (dS F4.o x.nn (n:=2) (cells:=#[.string ⟨#[110,111,116]⟩,.string ⟨#[110,117,108,108]⟩]) [[110,111,116],[110,117,108,108]] rfl rfl (by decide) (by simp<;>omega) (by have:=B4.o.le;omega)) ?_ fun v5 s5 w5 E5 F5 B5=>?_
  ·exact I.Bd.mono (I.Bd.fQ 2 B4.o (by rfl)) (by decide)
  have c4:=F5.o.cQ.cell 4;simp at c4;go_wp2_with fail
  with_reducible refine eK (M:=5007) (dS F5.o x.un (n:=1) (cells:=#[.string ⟨#[117,110,105,113,117,101]⟩]) [[117,110,105,113,117,101]] rfl rfl (by decide) (by simp<;>omega) (by have:=B5.o.le;omega)) ?_ fun v6 s6 w6 E6 F6 B6=>?_
  ·exact I.Bd.mono (I.Bd.fQ 1 B5.o (by rfl)) (by decide)
  have c5:=F6.o.cQ.cell 5;simp at c5;go_wp2_with fail
  with_reducible refine eK (M:=5020) (oz F6.o (B6.o.mono (by decide)) Ol.o x.ck HK.o HM.o (n:=2) (cells:=#[.string ⟨#[99,104,101,99,107]⟩,.string ⟨#[40]⟩]) [[99,104,101,99,107],[40]] rfl rfl (by decide) (by simp<;>omega)) ?_ fun v7 s7 w7 E7 F7 B7=>?_
  ·exact(I.Bd.lC 2 B6.o (by rfl)).mono (by decide)
  go_wp2_with fail
  with_reducible refine eK (M:=5021) (dL F7.o (n:=1) (cells:=#[.string ⟨#[41]⟩]) [[41]] rfl rfl (by decide) (by simp<;>omega) (by have:=B7.o.le;omega)) ?_ fun v8 s8 w8 E8 F8 B8=>?_
  ·exact I.Bd.mono (I.Bd.dM 1 B7.o (by rfl)) (by decide)
  have c6:=F8.o.cQ.cell 6;simp at c6;have HI:=cN (qJ x.rf);go_wp2_with fail
  rw[HI.o];with_reducible refine eK (M:=5023) (dS F8.o (decide (x.rf≠[])) (n:=2) (cells:=#[.string ⟨#[114,101,102,101,114,101,110,99,101,115]⟩,.string (I.bs x.rf)]) [[114,101,102,101,114,101,110,99,101,115],x.rf] rfl rfl (by decide) (by simp<;>omega) (by have:=B8.o.le;omega)) ?_ fun v9 s9 w9 E9 F9 B9=>?_
  ·exact I.Bd.mono (I.Bd.fQ 2 B8.o (by rfl)) (by decide)
  have c7:=F9.o.cQ.cell 7;simp at c7;have HA1:=cN (Bo x.ac 1);go_wp2_with fail
  rw[show((x.ac.toNat:Int)==1)=decide (x.ac.toNat=1)from HA1.o];with_reducible refine eK (M:=5026) (dS F9.o (decide (x.ac.toNat=1)) (n:=3) (cells:=#[.string ⟨#[111,110]⟩,.string ⟨#[100,101,108,101,116,101]⟩,.string ⟨#[99,97,115,99,97,100,101]⟩]) [[111,110],[100,101,108,101,116,101],[99,97,115,99,97,100,101]] rfl rfl (by decide) (by simp<;>omega) (by have:=B9.o.le;omega)) ?_ fun v10 s10 RU E10 Pj B10=>?_
  ·exact I.Bd.mono (I.Bd.fQ 3 B9.o (by rfl)) (by decide)
  have c7:=Pj.o.cQ.cell 7;simp at c7;have HA2:=cN (Bo x.ac 2);go_wp2_with fail
  rw[show((x.ac.toNat:Int)==2)=decide (x.ac.toNat=2)from HA2.o];with_reducible refine eK (M:=5030) (dS Pj.o (decide (x.ac.toNat=2)) (n:=4) (cells:=#[.string ⟨#[111,110]⟩,.string ⟨#[100,101,108,101,116,101]⟩,.string ⟨#[115,101,116]⟩,.string ⟨#[110,117,108,108]⟩]) [[111,110],[100,101,108,101,116,101],[115,101,116],[110,117,108,108]] rfl rfl (by decide) (by simp<;>omega) (by have:=B10.o.le;omega)) ?_ fun v11 s11 PW W4 Pv B11=>?_
  ·exact I.Bd.mono (I.Bd.fQ 4 B10.o (by rfl)) (by decide)
  have HS:Hid (I.gY x st=s11):=by show _=_;unfold I.gY;dsimp only;rw[HT.o];rw[if_pos h0,E3.o,E4.o,E5.o,E6.o,E7.o,E8.o,E9.o,E10.o,W4.o]
  go_wp2_with fail
  rw[HS.o];exact ae (v:=.tuple #[]) (aA rfl _ _ _) rfl Pv.o.done
 ·have t0:decide ((0:Int)<(m:Int))=false:=ar (by omega);have t0n:decide (0<m)=false:=ar h0;rw[Hm.o]at h0;obtain⟨c0,c1⟩:=F1.o.cQ.y2 0 1;simp at c0 c1;have SS:=F1.o.cQ.lt;have hTs:=dZ (l:=[(8,PM)]) (fun p hp=>by
   simp only[af,aj,aH]at hp
   subst hp
   exact PM.mb)
  have OT:=eY (l:=[(8,PK (.string (I.bs T)))]) (fun p hp=>by
   simp only[af,aj,aH]at hp
   subst hp
   exact PK.some _)
  have OH:=cN hTs;have Pk:=cN OT;clear hTs OT;refine db (tab [(8,PM)]) (Up w1) (w1.heap.size) 10 (Qe [(8,PK (.string (I.bs T)))]) (Pk.o) (OH.o) (Up.dX _) OM (OM.turns (Up.dX _) (OH.o)) (by kernel_rfl) (by kernel_rfl) (Up.start _) (aa _) ?_;simp only[List.take_succ_cons,List.take_zero,List.drop_succ_cons,List.drop_zero];iterate 2 (refine cP ?_ rfl rfl (fun w' hS=>?_) ?_;rotate_left;go_simp;rfl;go_frame)
  refine cP ?_ rfl rfl (fun w' hS=>?_) ?_;rotate_left
  ·have c0':=(hS.cell (p:=⟨w.heap.size,0,none⟩) SS).trans c0;go_simp;rfl
  go_frame;refine cP ?_ rfl rfl (fun w' hS=>?_) ?_;rotate_left
  ·go_simp;rfl
  go_frame;refine cP ?_ rfl rfl (fun w' hS=>?_) ?_;rotate_left
  ·have c1':=(hS.cell (p:=⟨w.heap.size,1,none⟩) SS).trans c1;go_simp;rfl
  go_frame;iterate 2 (refine cP ?_ rfl rfl (fun w' hS=>?_) ?_;rotate_left;go_simp;rfl;go_frame)
  refine dJ (some (5,5)) (.cells #[.string ⟨#[98,111,111,108]⟩,.string ⟨#[105,110,116]⟩,.string ⟨#[100,101,99]⟩,.string ⟨#[116,101,120,116]⟩,.string ⟨#[98,121,116,101,115]⟩] 9) rfl rfl (fun w' hS=>?_) fun g7=>?_
  ·go_simp;rfl
  go_frame;refine' du _ _ _ rfl rfl (fun w'=>?_) (fun w' hS hh hs=>?_) (fun v8 h8=>?_);rotate_left 2
  ·go_simp;constructor<;>rfl
  ·have hbk:=(hs.2 7 g7 _ (by kernel_rfl) rfl).1;refine(jU _ _ [[98,111,111,108],[105,110,116],[100,101,99],[116,101,120,116],[98,121,116,101,115]] (fun _=>True) w' (qy (n:=5) hbk rfl ⟨rfl,by decide⟩)).mono ?_;rintro e w2 ⟨rfl,rfl⟩;rw[W3.o,HT.o];exact⟨_,rfl,⟨rfl,trivial⟩,ax _ _⟩
  obtain rfl:=h8;go_frame;refine dJ (some (2,2)) (.cells #[.string (I.bs x.nm),.string (I.bs T)] 9) rfl rfl (fun w' hS=>?_) fun g9=>?_
  ·go_simp;rfl
  go_frame;refine dz fun w2 hH=>?_
  have F2:=cN (F1.o.quiet hH.s);have B2:Hid (I.Bd 5000 st):=B1;have hbk:=(hH.gh 9 _ _ rfl).1;have hbg:=(hH.gh 9 _ _ rfl).2;have HL:=cN (jQ (n:=2) (ss:=[x.nm,T]) F1.o hH.s hbk hbg rfl ⟨rfl,by decide⟩);clear hH hbk hbg c0 c1;go_wp2_with fail
  simp only[ej];with_reducible refine kB (M:=5002) F2.o (kv g _ _ [x.nm,T] _ _ F2.o.ws HL.o (by simp<;>omega) (by have:=B2.o.le;simp only[ab,ai];omega)) ?_ fun v3 s3 w3 E3 F3 B3=>?_
  ·exact I.Bd.mono (I.Bd.dM 2 B2.o (by rfl)) (by decide)
  have c2:=F3.o.cQ.cell 2;simp at c2;go_wp2_with fail
  with_reducible refine eK (M:=5004) (dS F3.o x.pr (n:=2) (cells:=#[.string ⟨#[112,114,105,109,97,114,121]⟩,.string ⟨#[107,101,121]⟩]) [[112,114,105,109,97,114,121],[107,101,121]] rfl rfl (by decide) (by simp<;>omega) (by have:=B3.o.le;omega)) ?_ fun v4 s4 w4 E4 F4 B4=>?_
  ·exact I.Bd.mono (I.Bd.fQ 2 B3.o (by rfl)) (by decide)
  have c3:=F4.o.cQ.cell 3;simp at c3;go_wp2_with fail
  with_reducible refine eK (M:=5006) (dS F4.o x.nn (n:=2) (cells:=#[.string ⟨#[110,111,116]⟩,.string ⟨#[110,117,108,108]⟩]) [[110,111,116],[110,117,108,108]] rfl rfl (by decide) (by simp<;>omega) (by have:=B4.o.le;omega)) ?_ fun v5 s5 w5 E5 F5 B5=>?_
  ·exact I.Bd.mono (I.Bd.fQ 2 B4.o (by rfl)) (by decide)
  have c4:=F5.o.cQ.cell 4;simp at c4;go_wp2_with fail
  with_reducible refine eK (M:=5007) (dS F5.o x.un (n:=1) (cells:=#[.string ⟨#[117,110,105,113,117,101]⟩]) [[117,110,105,113,117,101]] rfl rfl (by decide) (by simp<;>omega) (by have:=B5.o.le;omega)) ?_ fun v6 s6 w6 E6 F6 B6=>?_
  ·exact I.Bd.mono (I.Bd.fQ 1 B5.o (by rfl)) (by decide)
  have c5:=F6.o.cQ.cell 5;simp at c5;have c6:=F6.o.cQ.cell 6;simp at c6;have HI:=cN (qJ x.rf);go_wp2_with fail
  rw[HI.o];with_reducible refine eK (M:=5009) (dS F6.o (decide (x.rf≠[])) (n:=2) (cells:=#[.string ⟨#[114,101,102,101,114,101,110,99,101,115]⟩,.string (I.bs x.rf)]) [[114,101,102,101,114,101,110,99,101,115],x.rf] rfl rfl (by decide) (by simp<;>omega) (by have:=B6.o.le;omega)) ?_ fun v7 s7 w7 E7 F7 B7=>?_
  ·exact I.Bd.mono (I.Bd.fQ 2 B6.o (by rfl)) (by decide)
  have c7:=F7.o.cQ.cell 7;simp at c7;have HA1:=cN (Bo x.ac 1);go_wp2_with fail
  rw[show((x.ac.toNat:Int)==1)=decide (x.ac.toNat=1)from HA1.o];with_reducible refine eK (M:=5012) (dS F7.o (decide (x.ac.toNat=1)) (n:=3) (cells:=#[.string ⟨#[111,110]⟩,.string ⟨#[100,101,108,101,116,101]⟩,.string ⟨#[99,97,115,99,97,100,101]⟩]) [[111,110],[100,101,108,101,116,101],[99,97,115,99,97,100,101]] rfl rfl (by decide) (by simp<;>omega) (by have:=B7.o.le;omega)) ?_ fun v8 s8 w8 E8 F8 B8=>?_
  ·exact I.Bd.mono (I.Bd.fQ 3 B7.o (by rfl)) (by decide)
  have c7:=F8.o.cQ.cell 7;simp at c7;have HA2:=cN (Bo x.ac 2);go_wp2_with fail
  rw[show((x.ac.toNat:Int)==2)=decide (x.ac.toNat=2)from HA2.o];with_reducible refine eK (M:=5016) (dS F8.o (decide (x.ac.toNat=2)) (n:=4) (cells:=#[.string ⟨#[111,110]⟩,.string ⟨#[100,101,108,101,116,101]⟩,.string ⟨#[115,101,116]⟩,.string ⟨#[110,117,108,108]⟩]) [[111,110],[100,101,108,101,116,101],[115,101,116],[110,117,108,108]] rfl rfl (by decide) (by simp<;>omega) (by have:=B8.o.le;omega)) ?_ fun v9 s9 w9 E9 F9 B9=>?_
  ·exact I.Bd.mono (I.Bd.fQ 4 B8.o (by rfl)) (by decide)
  have HS:Hid (I.gY x st=s9):=by show _=_;unfold I.gY;dsimp only;rw[HT.o];rw[if_neg h0,E3.o,E4.o,E5.o,E6.o,E7.o,E8.o,E9.o]
  go_wp2_with fail
  rw[HS.o];exact ae (v:=.tuple #[]) (aA rfl _ _ _) rfl F9.o.done
theorem BZ(g gB:Nat)(p:UInt8)(v:Value)(st:I.Wr)(w:World)(h:Ps 5000 g v st w)(bB:NA w gB 92 #[.pointer (some ⟨g,0,none⟩)]):
 Calls Tryz.prog 162 #[.int .u8 (p.toNat:Int),.pointer (some ⟨gB,0,none⟩)] w (gm g w v (I.iC p st)):=by
 have F0:=cN (Fw.start h.ws);have QQ:=cN h.bd;have hgB:=bB.lt;have cB:=bB.cell 0;simp at cB;obtain⟨T,hT⟩:∃T,I.word ((p.toNat:Int)-1) [[115,101,108,101,99,116],[105,110,115,101,114,116],[117,112,100,97,116,101],[100,101,108,101,116,101]]=T:=⟨_,rfl⟩;have HT:=cN hT;have W3:Hid (IntKind.i64.wrap (IntKind.i64.wrap (p.toNat:Int)-1)=(p.toNat:Int)-1):=cN (tB p);have To:T.length≤100:=by rw[←hT];exact vi (by decide)
 clear h bB hT;go_enter Tryz.func162,Tryz.ntmps162;have hTs:=dZ (l:=[(5,PM)]) (fun p hp=>by
  simp only[af,aj,aH]at hp
  subst hp
  exact PM.mb)
 have OT:=eY (l:=[(5,PK (.string (I.bs T)))]) (fun p hp=>by
  simp only[af,aj,aH]at hp
  subst hp
  exact PK.some _)
 have OH:=cN hTs;have Pk:=cN OT;clear hTs OT;refine db (tab [(5,PM)]) (Up w) (w.heap.size) 7 (Qe [(5,PK (.string (I.bs T)))]) (Pk.o) (OH.o) (Up.dX _) OM (OM.turns (Up.dX _) (OH.o)) (by kernel_rfl) (by kernel_rfl) (Up.start _) (aa _) ?_;simp only[List.take_succ_cons,List.take_zero,List.drop_succ_cons,List.drop_zero];refine cP ?_ rfl rfl (fun w' hS=>?_) ?_;rotate_left
 ·have T4:=(hS.cell (p:=⟨gB,0,none⟩) hgB).trans cB;go_simp;rfl
 go_frame;iterate 3 (refine cP ?_ rfl rfl (fun w' hS=>?_) ?_;rotate_left;go_simp;rfl;go_frame)
 refine dJ (some (4,4)) (.cells #[.string ⟨#[115,101,108,101,99,116]⟩,.string ⟨#[105,110,115,101,114,116]⟩,.string ⟨#[117,112,100,97,116,101]⟩,.string ⟨#[100,101,108,101,116,101]⟩] 9) rfl rfl (fun w' hS=>?_) fun g4=>?_
 ·go_simp;rfl
 go_frame;refine' du _ _ _ rfl rfl (fun w'=>?_) (fun w' hS hh hs=>?_) (fun v5 h5=>?_);rotate_left 2
 ·go_simp;constructor<;>rfl
 ·have hbk:=(hs.2 4 g4 _ (by kernel_rfl) rfl).1;refine(jU _ _ [[115,101,108,101,99,116],[105,110,115,101,114,116],[117,112,100,97,116,101],[100,101,108,101,116,101]] (fun _=>True) w' (qy (n:=4) hbk rfl ⟨rfl,by decide⟩)).mono ?_;rintro e w2 ⟨rfl,rfl⟩;rw[W3.o,HT.o];exact⟨_,rfl,⟨rfl,trivial⟩,ax _ _⟩
 obtain rfl:=h5;go_frame;refine dJ (some (1,1)) (.cells #[.string (I.bs T)] 9) rfl rfl (fun w' hS=>?_) fun g6=>?_
 ·go_simp;rfl
 go_frame;refine dz fun w2 hH=>?_
 have F1:=cN (F0.o.quiet hH.s);have B1:Hid (I.Bd 5000 st):=QQ;have hbk:=(hH.gh 6 _ _ rfl).1;have hbg:=(hH.gh 6 _ _ rfl).2;have HL:=cN (jQ (n:=1) (ss:=[T]) F0.o hH.s hbk hbg rfl ⟨rfl,by decide⟩);clear hH hbk hbg cB;go_wp2_with fail
 simp only[ej];with_reducible refine kB (M:=5002) F1.o (kv g _ _ [T] _ _ F1.o.ws HL.o (by simp<;>omega) (by have:=B1.o.le;simp only[ab,ai];omega)) ?_ fun v2 s2 w2 E2 F2 B2=>?_
 ·exact I.Bd.mono (I.Bd.dM 1 B1.o (by rfl)) (by decide)
 have HS:Hid (I.iC p st=s2):=by show _=_;unfold I.iC;rw[HT.o];rw[E2.o]
 go_wp2_with fail
 rw[HS.o];exact ae (v:=.tuple #[]) (aA rfl _ _ _) rfl F2.o.done
end
end Go.Proofs.YtnicfobpclehkaaGreatDoor
