import Derived.Test.YtnicfobpclehkaaGreatDoorP37
import Derived.Test.YtnicfobpclehkaaGreatDoorP40
set_option maxHeartbeats 12800000
set_option linter.unusedVariables false
set_option linter.unusedSimpArgs false
namespace Go.Proofs.YtnicfobpclehkaaGreatDoor
open Go.RowKit
section
set_option maxRecDepth 100000
structure PD (w0:World):Prop where
 e:sI w0
 u:TZ w0
 six:5<w0.heap.size
theorem PD.at{w0 w:World}{own:eP}{its:List It}(h:PD w0)(F:Fr 0 w0 own its (Kp w0) w):sI w∧TZ w∧5<w.heap.size:=by
 have hb:=F.bel;obtain⟨m,hm⟩:=h.e;exact⟨⟨m,vJ hm fun b hk=>hb.block b hk⟩,xh h.u h.six fun b hk=>hb.block b hk,aB h.six hb.size⟩
section
variable{w0 w:World}{own:eP}{its:List It}
theorem Fr.parse(F:Fr 0 w0 own its (Kp w0) w)(hE:PD w0)(text:ByteArray)(hs:text.size≤maxLen){r:I.NC×Nat×Nat}(hr:I.parse text.data.toList=r){x y:Int}(hx:x=(r.2.1:Int))(hy:y=(r.2.2:Int)):Calls Tryz.prog 8 #[.string text] w fun e w'=>∃cs,e=.returned (.tuple #[.agg cs.toArray,.agg #[.int .i64 x,.int .i64 y]])∧Fr 0 w0 own (It.el df cs r.1::its) (Kp w0) w':=by
 subst hr hx hy;obtain⟨h1,h2,h3⟩:=hE.at F;refine(tG text w hs h2 h3).mono ?_;rintro e w' ⟨cs,rfl,hR,hb⟩;exact⟨cs,rfl,F.make (It.el df cs _) hb hR⟩
theorem Fr.print(F:Fr 0 w0 own its (Kp w0) w)(hE:PD w0){cs:List Value}{s:I.NC}(hx:df.R w (fun b=>b<w.heap.size) cs s)(hsm:Py s){r:I.Bs×Nat}(hr:I.NM s=r){v:ByteArray}{y:Int}(hv:v=I.bs r.1)(hy:y=(r.2:Int)):Calls Tryz.prog 13 #[.agg cs.toArray] w fun e w'=>e=.returned (.tuple #[.string v,.int .i64 y])∧Fr 0 w0 own its (Kp w0) w':=by
 subst hr hv hy;obtain⟨h1,h2,h3⟩:=hE.at F;refine(DK cs s w hx hsm h1 h2 h3).mono ?_;rintro e w' ⟨rfl,hb⟩;exact⟨rfl,F.quiet hb⟩
theorem Fr.Tl(F:Fr 0 w0 own its (Kp w0) w){α:Type}{E:El α}{cs:List Value}{x:α}(hm:It.el E cs x∈its):E.R w (fun b=>b<w.heap.size) cs x:=El.hp (F.its _ hm:E.R w _ cs x) (fun _ hb=>hb.2.1) fun _ _=>rfl
theorem Fr.sN(F:Fr 0 w0 own its (Kp w0) w){b:Nat}{t:TypeId}{cs:Array Value}(hm:(b,t,cs)∈own):NA w b t cs:=(F.own _ hm).2
end
namespace I
open Ev (Ex Hd)
def T1:Bs:=[115,101,108,101,99,116,32,97,46,98,44,32,99,111,117,110,116,40,42,41,32,102,114,111,109,32,116,32,119,104,101,114,101,32,120,32,61,32,49,32,43,32,50,32,42,32,51,59]
def TX:Bs:=[115,101,108,101,99,116,32,97,32,46,32,98,32,44,32,99,111,117,110,116,32,40,32,42,32,41,32,102,114,111,109,32,116,32,119,104,101,114,101,32,120,32,61,32,40,32,49,32,43,32,40,32,50,32,42,32,51,32,41,32,41]
def uv(n:Int):Ex:=lit ⟨2,n,dp⟩
def W1:Ex:=bin 7 (.mk ⟨2,⟨0,0,dp⟩,bs [120],dp,0⟩ []) (bin 4 (uv 1) (bin 6 (uv 2) (uv 3)))
def Q1:NS:=⟨false,[⟨.mk ⟨2,⟨0,0,dp⟩,bs [98],bs [97],0⟩ [],[]⟩,⟨.mk (hd 17) [],[]⟩],[⟨[116],[],[]⟩],[W1],[],[],-1⟩
def Um:NC:={NC.of 17 with q:=[Q1]}
def Zo:NC:={NC.of 2 with nm:=[97,32,98]}
theorem p1:parse T1=(Um,0,0):=by kernel_rfl
theorem p1t:parse (⟨#[115,101,108,101,99,116,32,97,46,98,44,32,99,111,117,110,116,40,42,41,32,102,114,111,109,32,116,32,119,104,101,114,101,32,120,32,61,32,49,32,43,32,50,32,42,32,51,59]⟩:ByteArray).data.toList=(Um,0,0):=by kernel_rfl
theorem p3t:parse (⟨#[99,114,101,97,116,101,32,116,97,98,108,101,32,116,32,40,32,41]⟩:ByteArray).data.toList=(NC.zero,300,17):=by kernel_rfl
theorem p4t:parse (⟨#[105,110,115,101,114,116,32,105,110,116,111,32,116,32,118,97,108,117,101,115,32,40,32,57,50,50,51,51,55,50,48,51,54,56,53,52,55,55,53,56,48,56,32,41]⟩:ByteArray).data.toList=(NC.zero,271,23):=by kernel_rfl
theorem g1:Pu Um:=by
 have:=(qp (text:=T1) (by rw[p1])).1;rw[p1]at this;exact this
theorem tx1:di (pS Um)=TX:=by kernel_rfl
theorem sz1_:sz (pS Um)=62:=by kernel_rfl
theorem pr1:NM Um=(TX,0):=by rw[ml g1 (by rw[sz1_];decide),tx1]
theorem p5:(parse (di (dO Zo Rk).p)).2.1=300:=by kernel_rfl
theorem pr5:NM Zo=([],330):=by
 unfold NM;rw[if_neg (show¬(dO Zo Rk).b=true from by decide),if_pos (.inl (by rw[p5];decide))]
theorem NX.le{n:Bs}(h:NX n):n.length≤24:=by
 have:=h.1;unfold Lex.word at this;simp only[aN,aI]at this;exact this.2.1
theorem nm0{n:Bs}(h:n=[]∨NX n):n.length≤140737488355328:=by
 rcases h with rfl|h
 ·exact ao _
 ·exact aw h.le (by decide)
end I
theorem rI{e:Ev.Ex}(h:I.Ri e):OJ e:=by
 have nm:∀n:I.Bs,I.NX n→(I.bs n).size≤140737488355328:=fun n h=>by rw[I.qm];exact aw h.le (by decide)
 have z8:I.dp.size≤140737488355328:=by decide
 induction h with
 |lit h=>exact .mk z8 z8 (by simp)
 |UN h=>exact .mk (nm _ h) z8 (by simp)
 |ox h h2=>exact .mk (nm _ h) (nm _ h2) (by simp)
 |user=>exact .mk z8 z8 (by simp)
 |count=>exact .mk z8 z8 (by simp)
 |un ho h ih=>exact .mk z8 z8 (by simp[ih])
 |bin ho h h2 ih ih2=>exact .mk z8 z8 (by simp[ih,ih2])
theorem Ar{l:List Ev.Ex}(h:∀x∈l,I.QW x):∀x∈l,OJ x:=fun x hx=>rI (h x hx).1
theorem pa{l:List Ev.Ex}(h:I.QX l):∀x∈l,OJ x:=by
 rcases h with rfl|⟨e,he,rfl⟩
 ·intro x hx;cases hx
 ·intro x hx;simp only[af,aj,aH]at hx;rw[hx];exact rI he.1
theorem KX{l:List Ev.Ex}(h:l=[]∨I.LG I.QW 16 l):∀x∈l,OJ x:=by
 rcases h with rfl|h
 ·intro x hx;cases hx
 ·exact Ar h.2.2
theorem wR{q:I.NS}(h:I.PA q):SH q:=by
 refine⟨fun i hi=>?_,fun s hs=>?_,pa h.wh,KX h.gr,fun o ho=>?_⟩
 ·rcases h.its with⟨_,e⟩|⟨_,e⟩
  ·rw[e]at hi;cases hi
  ·exact⟨rI (e.2.2 i hi).1.1,I.nm0 (e.2.2 i hi).2⟩
 ·have:=h.fr.src s hs;exact⟨pa this.2,I.nm0 (.inr this.1.1),I.nm0 this.1.2⟩
 ·rcases h.od with e|e
  ·rw[e]at ho;cases ho
  ·exact rI (e.2.2 o ho).1
theorem yf{s:I.NC}(h:I.Pu s):Py s:=by
 have z0:([]:I.Bs).length≤140737488355328:=ao _;have nl:∀{α:Type} {p:α→Prop},∀x∈([]:List α),p x:=fun x hx=>by cases hx
 have nm:∀{n:I.Bs},I.NX n→n.length≤140737488355328:=fun h=>I.nm0 (.inr h)
 cases h with
 | @table n cs hn hc=>exact⟨nm hn,z0,z0,z0,fun c hx=>⟨pa (hc.2.2 c hx).2.2.1,nm (hc.2.2 c hx).1,by
  rcases(hc.2.2 c hx).2.2.2 with⟨e,_⟩|⟨e,_⟩
  ·rw[e];exact z0
  ·exact nm e⟩,nl,nl,nl,nl⟩
 | @view n q hn hq=>exact⟨nm hn,z0,z0,z0,nl,fun x hx=>by
  have hx:x∈[q]:=hx
  simp only[af,aj,aH]at hx
  rw[hx];exact wR hq,nl,nl,nl⟩
 | @fh n on t ev v hn he ho ht hv=>exact⟨nm hn,nm ho,nm ht,z0,nl,nl,fun x hx=>by
  have hx:x∈[v]:=hx
  simp only[af,aj,aH]at hx
  rw[hx];exact Ar hv.2.2,nl,nl⟩
 | @fN n on t e hn ho ht he=>exact⟨nm hn,nm ho,nm ht,z0,nl,nl,nl,nl,pa (.inr ⟨e,he,rfl⟩)⟩
 | @role n key hn hk=>exact⟨nm hn,z0,z0,aw hk (by decide),nl,nl,nl,nl,nl⟩
 | @drop k n hk hn=>exact⟨nm hn,z0,z0,z0,nl,nl,nl,nl,nl⟩
 | @share k n on hk hn ho=>exact⟨nm hn,nm ho,z0,z0,nl,nl,nl,nl,nl⟩
 | @fE pv n on opt hp hn ho=>exact⟨nm hn,nm ho,z0,z0,nl,nl,nl,nl,nl⟩
 | @gj pv n on hp hn ho=>exact⟨nm hn,nm ho,z0,z0,nl,nl,nl,nl,nl⟩
 | @insert n v hn hv=>exact⟨nm hn,z0,z0,z0,nl,nl,fun x hx=>Ar (hv.2.2 x hx).2.2,nl,nl⟩
 | @update n l w hn hl hw=>exact⟨nm hn,z0,z0,z0,nl,nl,nl,fun x hx=>⟨rI (hl.2.2 x hx).2.1,nm (hl.2.2 x hx).1⟩,pa hw⟩
 | @remove n w hn hw=>exact⟨nm hn,z0,z0,z0,nl,nl,nl,nl,pa hw⟩
 | @query q hq=>exact⟨z0,z0,z0,z0,nl,fun x hx=>by
  have hx:x∈[q]:=hx
  simp only[af,aj,aH]at hx
  rw[hx];exact wR hq,nl,nl,nl⟩
 | @plain k hk=>exact⟨z0,z0,z0,z0,nl,nl,nl,nl,nl⟩
theorem sm5:Py I.Zo:=⟨by decide,ao _,ao _,ao _,(fun x hx=>by cases hx),(fun x hx=>by cases hx),(fun x hx=>by cases hx),(fun x hx=>by cases hx),(fun x hx=>by cases hx)⟩
theorem Mr{w:World}{P:Nat→Prop}{cs:List Value}{s:I.NC}(h:df.R w P cs s):∃A1 c1 A2 c2 A3 c3 A4 c4 A5 c5 A6 c6,cs=[.int .u8 (s.k.toNat:Int),.string (I.bs s.nm),.string (I.bs s.on),.string (I.bs s.NG),.int .u8 (s.ev.toNat:Int),.slice A1 s.NH.length c1,.slice A2 s.q.length c2,.slice A3 s.vals.length c3,.slice A4 s.dD.length c4,.slice A5 s.wh.length c5,.slice A6 s.pv.length c6,.bool s.opt,.string (I.bs s.key)]∧Rr eM w P (.slice A1 s.NH.length c1) s.NH∧Rr fw w P (.slice A2 s.q.length c2) s.q∧Rr fO w P (.slice A3 s.vals.length c3) s.vals∧Rr NI w P (.slice A5 s.wh.length c5) s.wh∧Rr jZ w P (.slice A6 s.pv.length c6) s.pv:=by
 obtain⟨v1,v2,v3,v4,v5,v6,rfl,r1,r2,r3,r4,r5,r6,_⟩:=h;obtain⟨A1,c1,rfl,_⟩:=r1.form;obtain⟨A2,c2,rfl,_⟩:=r2.form;obtain⟨A3,c3,rfl,_⟩:=r3.form;obtain⟨A4,c4,rfl,_⟩:=r4.form;obtain⟨A5,c5,rfl,_⟩:=r5.form;obtain⟨A6,c6,rfl,_⟩:=r6.form;exact⟨A1,c1,A2,c2,A3,c3,A4,c4,A5,c5,A6,c6,rfl,r1,r2,r3,r5,r6⟩
theorem Ci(w:World)(hE:PD w):Calls Tryz.prog 11 #[] w fun e w'=>e=.returned (.bool true)∧Below w.heap.size w w':=by
 have HE:=cN hE;have F0:=cN (Fr.start (show 0<w.heap.size by have:=hE.six;omega) (jD w));clear hE;go_enter Tryz.func11,Tryz.ntmps11;go_wp2_with fail
 with_reducible refine(Fr.parse F0.o HE.o ⟨#[115,101,108,101,99,116,32,97,46,98,44,32,99,111,117,110,116,40,42,41,32,102,114,111,109,32,116,32,119,104,101,114,101,32,120,32,61,32,49,32,43,32,50,32,42,32,51,59]⟩ (by decide) (r:=(I.Um,0,0)) I.p1t (x:=0) (y:=0) rfl rfl).mono ?_
 rintro e w1 ⟨cs1,rfl,hF⟩;have F1:=cN hF;clear hF F0;have hR1:=F1.o.N6;have hl1:=df.len hR1;have IX1:=cN (show(Tryz.prog.info? 30).map (·.size)=some cs1.length from by rw[hl1];kernel_rfl);have OX1:=cN (all_oneCell_toArray (df.one hR1));clear hR1;have F1n:=cN ((F1.o.new 30 #[.int .u8 0,.string ⟨#[]⟩,.string ⟨#[]⟩,.string ⟨#[]⟩,.int .u8 0,.slice none 0 0,.slice none 0 0,.slice none 0 0,.slice none 0 0,.slice none 0 0,.slice none 0 0,.bool false,.string ⟨#[]⟩]).new 33 #[.int .i64 0,.int .i64 0]);have Xq:=cN (F1n.o.BE cs1 (by rw[hl1];rfl));have TX:=cN (F1n.o.cR.there (n:=cs1.toArray.size) (by simp[hl1];rfl));rw[dc]at Xq;obtain⟨f0,f1⟩:=Xq.o.cQ.y2 0 1;obtain⟨z0,z1⟩:=Xq.o.cQ.z2 0 1;simp at f0 f1;obtain⟨W2,hw2⟩:∃W,W=((w1.alloc (.cells #[.int .u8 0,.string ⟨#[]⟩,.string ⟨#[]⟩,.string ⟨#[]⟩,.int .u8 0,.slice none 0 0,.slice none 0 0,.slice none 0 0,.slice none 0 0,.slice none 0 0,.slice none 0 0,.bool false,.string ⟨#[]⟩] 30)).alloc (.cells #[.int .i64 0,.int .i64 0] 33)).setCells w1.heap.size 0 cs1:=⟨_,rfl⟩;go_upto_region 2 with(first|(refine wpList_store_mid rfl 30 (.tmp 1) (.tmp 13) rfl w1.heap.size 0 cs1.toArray rfl rfl TX.o (by rw[aQ];exact IX1.o) OX1.o ?_))
 rw[←hw2]at Xq⊢;have F2:=cN ((Xq.o.ew 0 (.int .i64 0) (cs':=#[.int .i64 0,.int .i64 0]) rfl).ew 1 (.int .i64 0) (cs':=#[.int .i64 0,.int .i64 0]) rfl);clear f0 f1 z0 z1 TX hl1 F1 F1n Xq hw2;obtain⟨w2,hw⟩:∃W,W=(W2.setCell ⟨w1.heap.size+1,0,none⟩ (.int .i64 0)).setCell ⟨w1.heap.size+1,1,none⟩ (.int .i64 0):=⟨_,rfl⟩;rw[←hw]at F2⊢;clear hw;obtain⟨Xr,PU⟩:∃g,g=w1.heap.size+1:=⟨_,rfl⟩;obtain⟨S6,OO⟩:∃g,g=w1.heap.size:=⟨_,rfl⟩;rw[←PU,←OO]at F2⊢;clear PU OO;have hrx:=F2.o.cR.range;rw[bV]at hrx;have RX1:=cN hrx;clear hrx;go_wp2_with (refine wpList_load_mid rfl 30 (.tmp 1) rfl S6 0 rfl cs1 _ RX1.o fP rfl IX1.o ?_)
 with_reducible refine(Fr.print F2.o HE.o (F2.o.Tl (E:=df) (cs:=cs1) (x:=I.Um) ag) (yf I.g1) I.pr1 (v:=⟨#[115,101,108,101,99,116,32,97,32,46,32,98,32,44,32,99,111,117,110,116,32,40,32,42,32,41,32,102,114,111,109,32,116,32,119,104,101,114,101,32,120,32,61,32,40,32,49,32,43,32,40,32,50,32,42,32,51,32,41,32,41]⟩) (y:=0) rfl rfl).mono ?_
 rintro e w3 ⟨rfl,hF⟩;have F3:=cN hF;clear hF F2 RX1;go_wp2_with fail
 with_reducible refine(Fr.parse F3.o HE.o ⟨#[99,114,101,97,116,101,32,116,97,98,108,101,32,116,32,40,32,41]⟩ (by decide) (r:=(I.NC.zero,300,17)) I.p3t (x:=300) (y:=17) rfl rfl).mono ?_
 rintro e w4 ⟨Uu,rfl,hF⟩;have F4:=cN hF;clear hF F3;have hR3:=F4.o.N6;have hl3:=df.len hR3;have IX3:=cN (show(Tryz.prog.info? 30).map (·.size)=some Uu.length from by rw[hl3];kernel_rfl);have OX3:=cN (all_oneCell_toArray (df.one hR3));clear hR3;have F4n:=cN ((F4.o.new 30 #[.int .u8 0,.string ⟨#[]⟩,.string ⟨#[]⟩,.string ⟨#[]⟩,.int .u8 0,.slice none 0 0,.slice none 0 0,.slice none 0 0,.slice none 0 0,.slice none 0 0,.slice none 0 0,.bool false,.string ⟨#[]⟩]).new 33 #[.int .i64 0,.int .i64 0]);have Xs:=cN (F4n.o.BE Uu (by rw[hl3];rfl));have TX:=cN (F4n.o.cR.there (n:=Uu.toArray.size) (by simp[hl3];rfl));rw[dc]at Xs;obtain⟨f0,f1⟩:=Xs.o.cQ.y2 0 1;obtain⟨z0,z1⟩:=Xs.o.cQ.z2 0 1;simp at f0 f1;obtain⟨W5,Qc⟩:∃W,W=((w4.alloc (.cells #[.int .u8 0,.string ⟨#[]⟩,.string ⟨#[]⟩,.string ⟨#[]⟩,.int .u8 0,.slice none 0 0,.slice none 0 0,.slice none 0 0,.slice none 0 0,.slice none 0 0,.slice none 0 0,.bool false,.string ⟨#[]⟩] 30)).alloc (.cells #[.int .i64 0,.int .i64 0] 33)).setCells w4.heap.size 0 Uu:=⟨_,rfl⟩;go_upto_region 4 with(first|(refine wpList_store_mid rfl 30 (.tmp 5) (.tmp 22) rfl w4.heap.size 0 Uu.toArray rfl rfl TX.o (by rw[aQ];exact IX3.o) OX3.o ?_))
 rw[←Qc]at Xs⊢;have F5:=cN ((Xs.o.ew 0 (.int .i64 300) (cs':=#[.int .i64 300,.int .i64 0]) rfl).ew 1 (.int .i64 17) (cs':=#[.int .i64 300,.int .i64 17]) rfl);clear f0 f1 z0 z1 TX hl3 F4 F4n Xs Qc;obtain⟨w5,hw⟩:∃W,W=(W5.setCell ⟨w4.heap.size+1,0,none⟩ (.int .i64 300)).setCell ⟨w4.heap.size+1,1,none⟩ (.int .i64 17):=⟨_,rfl⟩;rw[←hw]at F5⊢;clear hw;obtain⟨gF3,PU⟩:∃g,g=w4.heap.size+1:=⟨_,rfl⟩;obtain⟨gS3,OO⟩:∃g,g=w4.heap.size:=⟨_,rfl⟩;rw[←PU,←OO]at F5⊢;clear PU OO;go_wp2_with fail
 with_reducible refine(Fr.parse F5.o HE.o ⟨#[105,110,115,101,114,116,32,105,110,116,111,32,116,32,118,97,108,117,101,115,32,40,32,57,50,50,51,51,55,50,48,51,54,56,53,52,55,55,53,56,48,56,32,41]⟩ (by decide) (r:=(I.NC.zero,271,23)) I.p4t (x:=271) (y:=23) rfl rfl).mono ?_
 rintro e w6 ⟨Un,rfl,hF⟩;have F6:=cN hF;clear hF F5;have hR4:=F6.o.N6;have hl4:=df.len hR4;have IX4:=cN (show(Tryz.prog.info? 30).map (·.size)=some Un.length from by rw[hl4];kernel_rfl);have OX4:=cN (all_oneCell_toArray (df.one hR4));clear hR4;have F6n:=cN ((F6.o.new 30 #[.int .u8 0,.string ⟨#[]⟩,.string ⟨#[]⟩,.string ⟨#[]⟩,.int .u8 0,.slice none 0 0,.slice none 0 0,.slice none 0 0,.slice none 0 0,.slice none 0 0,.slice none 0 0,.bool false,.string ⟨#[]⟩]).new 33 #[.int .i64 0,.int .i64 0]);have Xt:=cN (F6n.o.BE Un (by rw[hl4];rfl));have TX:=cN (F6n.o.cR.there (n:=Un.toArray.size) (by simp[hl4];rfl));rw[dc]at Xt;obtain⟨f0,f1⟩:=Xt.o.cQ.y2 0 1;obtain⟨z0,z1⟩:=Xt.o.cQ.z2 0 1;simp at f0 f1;obtain⟨W7,hw7⟩:∃W,W=((w6.alloc (.cells #[.int .u8 0,.string ⟨#[]⟩,.string ⟨#[]⟩,.string ⟨#[]⟩,.int .u8 0,.slice none 0 0,.slice none 0 0,.slice none 0 0,.slice none 0 0,.slice none 0 0,.slice none 0 0,.bool false,.string ⟨#[]⟩] 30)).alloc (.cells #[.int .i64 0,.int .i64 0] 33)).setCells w6.heap.size 0 Un:=⟨_,rfl⟩;go_upto_region 5 with(first|(refine wpList_store_mid rfl 30 (.tmp 7) (.tmp 26) rfl w6.heap.size 0 Un.toArray rfl rfl TX.o (by rw[aQ];exact IX4.o) OX4.o ?_))
 rw[←hw7]at Xt⊢;have F7:=cN ((Xt.o.ew 0 (.int .i64 271) (cs':=#[.int .i64 271,.int .i64 0]) rfl).ew 1 (.int .i64 23) (cs':=#[.int .i64 271,.int .i64 23]) rfl);clear f0 f1 z0 z1 TX hl4 F6 F6n Xt hw7;obtain⟨w7,hw⟩:∃W,W=(W7.setCell ⟨w6.heap.size+1,0,none⟩ (.int .i64 271)).setCell ⟨w6.heap.size+1,1,none⟩ (.int .i64 23):=⟨_,rfl⟩;rw[←hw]at F7⊢;clear hw;obtain⟨gF4,PU⟩:∃g,g=w6.heap.size+1:=⟨_,rfl⟩;obtain⟨gS4,OO⟩:∃g,g=w6.heap.size:=⟨_,rfl⟩;rw[←PU,←OO]at F7⊢;clear PU OO;have hx5:df.R w7 (fun b=>b<w7.heap.size) [.int .u8 2,.string ⟨#[97,32,98]⟩,.string ⟨#[]⟩,.string ⟨#[]⟩,.int .u8 0,.slice none 0 0,.slice none 0 0,.slice none 0 0,.slice none 0 0,.slice none 0 0,.slice none 0 0,.bool false,.string ⟨#[]⟩] I.Zo:=⟨_,_,_,_,_,_,rfl,Rr.nil _ _ _,Rr.nil _ _ _,Rr.nil _ _ _,Rr.nil _ _ _,Rr.nil _ _ _,Rr.nil _ _ _,Sz.of (by decide),Sz.of (ao _),Sz.of (ao _),Sz.of (ao _)⟩;have H5:=cN (Fr.print F7.o HE.o hx5 sm5 I.pr5 (v:=⟨#[]⟩) (y:=330) rfl rfl);have H5':Hid (Calls Tryz.prog 13 #[.agg #[.int .u8 2,.string ⟨#[97,32,98]⟩,.string ⟨#[]⟩,.string ⟨#[]⟩,.int .u8 0,.slice none 0 0,.slice none 0 0,.slice none 0 0,.slice none 0 0,.slice none 0 0,.slice none 0 0,.bool false,.string ⟨#[]⟩]] w7 _):=H5;clear hx5 H5;go_wp2_with fail
 with_reducible refine H5'.o.mono ?_
 rintro e w8 ⟨rfl,hF⟩;have F8:=cN hF;clear hF F7 H5';have hR:=F8.o.Tl (E:=df) (cs:=cs1) (x:=I.Um) (by simp only[af,bM,bO]);obtain⟨A1,c1,A2,c2,A3,c3,A4,c4,A5,c5,A6,c6,hcs,_,r2,_⟩:=Mr hR;obtain⟨g,off,c9,x,cs,hv,_,_,hg,hi,hr,hl2,hra⟩:=r2.range (i:=0) (by decide);obtain rfl:x=I.Q1:=by simpa[I.Um]using hi.symm
 injection hv with e1 e2 e3
 subst e1 e3;obtain⟨v1,v2,v3,v4,v5,rfl,_,_,r3,_⟩:=hr;obtain⟨A9,c9',rfl,_,_⟩:=r3.form;obtain⟨g3,Zp,c10,x3,cs3',hv3,_,_,hg3,hi3,hr3,hl3,Wy⟩:=r3.range (i:=0) (by decide);obtain rfl:x3=I.W1:=by simpa[I.Q1]using hi3.symm
 injection hv3 with e1 e2 e3
 subst e1 e3;obtain⟨AW,cW,rfl⟩:=rM hr3;have d6:w8.cell? ⟨S6,6,none⟩=some (.slice (some ⟨g,off,none⟩) 1 c2):=by have hb:=F8.o.sN (b:=S6) (t:=30) (cs:=cs1.toArray) (by simp only[af,bM,bO]);rw[hcs]at hb;exact hb.cell 6
 have l6:w8.cell? ⟨g,off+6,none⟩=some (.int .i64 (-1)):=by have:=rangeAt.c hra 6 rfl;rw[ct,bh]at this;exact this
 have l3:w8.cell? ⟨g,off+3,none⟩=some (.slice (some ⟨g3,Zp,none⟩) 1 c9'):=by have:=rangeAt.c hra 3 rfl;rw[ct,bh]at this;exact this
 rw[ct,bh]at Wy;have RW:=cN Wy;have IW:=cN (show(Tryz.prog.info? 50).map (·.size)=some (cT (I.hd 7) AW 2 cW).length from by kernel_rfl);obtain⟨h',A',m',c',ks',d,e1,e2,hm1,hm2,_,hk⟩:=hr3;have eq0:h'=I.hd 7∧ks'=[.mk ⟨2,⟨0,0,I.dp⟩,I.bs [120],I.dp,0⟩ [],I.bin 4 (I.uv 1) (I.bin 6 (I.uv 2) (I.uv 3))]:=by
  have:=e2;unfold I.W1 I.bin at this;injection this with h1 h2
  exact⟨h1.symm,h2.symm⟩
 obtain⟨rfl,rfl⟩:=eq0;have eA:A'=AW∧m'=2∧c'=cW:=by have:=congrArg (fun l:List Value=>l[7]?) e1;simp[cT]at this;exact⟨this.1.symm,this.2.1.symm,this.2.2.symm⟩
 obtain⟨rfl,rfl,rfl⟩:=eA;have HD:=cN (tK d (I.hd 7) A' 2 c' _ w8 hk (by decide) hm1 hm2);have hDp:(I.dI [.mk ⟨2,⟨0,0,I.dp⟩,I.bs [120],I.dp,0⟩ [],I.bin 4 (I.uv 1) (I.bin 6 (I.uv 2) (I.uv 3))]+1:Nat)=4:=by decide
 rw[hDp]at HD;have HD':Hid (Calls Tryz.prog 15 #[.agg (cT (I.hd 7) A' 2 c').toArray] w8 _):=HD;clear HD;have q1:=F8.o.sN (b:=Xr) (t:=33) (cs:=#[.int .i64 0,.int .i64 0]) (by simp only[af,bM,bO]);have q3:=F8.o.sN (b:=gF3) (t:=33) (cs:=#[.int .i64 300,.int .i64 17]) (by simp only[af,bM,bO]);have q4:=F8.o.sN (b:=gF4) (t:=33) (cs:=#[.int .i64 271,.int .i64 23]) (by simp only[af,bM,bO]);obtain⟨a0,a1⟩:=q1.y2 0 1;obtain⟨a2,a3⟩:=q3.y2 0 1;obtain⟨a4,a5⟩:=q4.y2 0 1;simp at a0 a1 a2 a3 a4 a5;clear hR hi hi3 r2 r3 hra Wy hk q1 q3 q4 hcs hDp hm1 hm2 e1 e2 hl2 hl3;go_wp2_with (refine dU rfl 50 (.tmp 78) rfl g3 Zp rfl (cT (I.hd 7) A' 2 c') _ RW.o kP rfl IW.o ?_)
 with_reducible refine HD'.o.mono ?_
 rintro e NN ⟨rfl,hb⟩;have HB:=cN (F8.o.bel.trans (hb.mono F8.o.bel.size));clear hb;go_wp2_with fail
 go_ret;exact⟨rfl,HB.o⟩
end
end Go.Proofs.YtnicfobpclehkaaGreatDoor
