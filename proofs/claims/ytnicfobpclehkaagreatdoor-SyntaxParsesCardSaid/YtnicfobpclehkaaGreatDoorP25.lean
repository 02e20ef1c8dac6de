import Derived.Test.YtnicfobpclehkaaGreatDoorP24
set_option maxHeartbeats 12800000
set_option linter.unusedVariables false
set_option linter.unusedSimpArgs false
namespace Go.Proofs.YtnicfobpclehkaaGreatDoor
open Go.RowKit
section
set_option maxRecDepth 100000
theorem J2{w:World}{P:Nat→Prop}{cs:List Value}{H:Ev.Hd}{ks:List Ev.Ex}(h:XR w P cs (.mk H ks)):∃A c,cs=ai H A ks.length c:=by
 obtain⟨h',A,m,c,ks',d,rfl,e,_,_,_,hk⟩:=h;injection e with e1 e2
 subst e1 e2;have:=hk.len.1;subst this;exact⟨A,c,rfl⟩
theorem rangeAt.c{w:World}{g o:Nat}{cs:List Value}(h:w.rangeAt g o cs)(j:Nat){v:Value}(hv:cs[j]?=some v):w.cell? ⟨g,o+j,none⟩=some v:=h j v hv
structure LG (w0:World):Prop where
 e:Ju w0
 u:Qx w0
 six:5<w0.heap.size
theorem LG.at{w0 w:World}{own:bO}{its:List It}(h:LG w0)(F:Fr 0 w0 own its (Kp w0) w):Ju w∧Qx w∧5<w.heap.size:=by
 have hb:=F.bel;obtain⟨m,hm⟩:=h.e;exact⟨⟨m,oK hm fun b hk=>hb.block b hk⟩,o4 h.u h.six fun b hk=>hb.block b hk,Nat.lt_of_lt_of_le h.six hb.size⟩
section
variable{w0 w:World}{own:bO}{its:List It}
theorem Fr.parse(F:Fr 0 w0 own its (Kp w0) w)(hE:LG w0)(text:ByteArray)(hs:text.size≤maxLen){r:I.Km×Nat×Nat}(hr:I.parse text.data.toList=r){x y:Int}(hx:x=(r.2.1:Int))(hy:y=(r.2.2:Int)):Calls Tryz.prog 8 #[.s text] w fun e w'=>∃cs,e=.returned (.tuple #[.agg cs.toArray,.agg #[.i x,.i y]])∧Fr 0 w0 own (It.el aB cs r.1::its) (Kp w0) w':=by
 subst hr hx hy;obtain⟨h1,h2,h3⟩:=hE.at F;refine(mq text w hs h2 h3).mono ?_;rintro e w' ⟨cs,rfl,hR,hb⟩;exact⟨cs,rfl,F.make (It.el aB cs _) hb hR⟩
theorem Fr.prt(F:Fr 0 w0 own its (Kp w0) w)(hE:LG w0){cs:List Value}{s:I.Km}(hx:aB.R w (fun b=>b<w.heap.size) cs s){l:List I.Bs}{t:I.Bs}{r:I.Km×Nat×Nat}(hW:Yd s l)(hl:I.lz l≤3900)(ht:I.jS l=t)(hr:I.parse t=r)(hs:r.2.1=0→r.1=s){V:ByteArray}{Y:Int}(hv:(r.2.1=0∧V=I.bs t∧Y=0)∨(r.2.1≠0∧V=⟨#[]⟩∧Y=330)):Calls Tryz.prog 13 #[.agg cs.toArray] w fun e w'=>e=.returned (.tuple #[.s V,.i Y])∧Fr 0 w0 own its (Kp w0) w':=by
 obtain⟨h1,h2,h3⟩:=hE.at F;refine(Ga hx h1 h2 h3 hW hl ht hr hs hv).mono ?_;rintro e w' ⟨rfl,hb⟩;exact⟨rfl,F.quiet hb⟩
end
namespace I
open Ev (Ex Hd)
def T1:Bs:=[115,101,108,101,99,116,32,97,46,98,44,32,99,111,117,110,116,40,42,41,32,102,114,111,109,32,116,32,119,104,101,114,101,32,120,32,61,32,49,32,43,32,50,32,42,32,51,59]
def T3:Bs:=[99,114,101,97,116,101,32,116,97,98,108,101,32,116,32,40,32,41]
def T4:Bs:=[105,110,115,101,114,116,32,105,110,116,111,32,116,32,118,97,108,117,101,115,32,40,32,57,50,50,51,51,55,50,48,51,54,56,53,52,55,55,53,56,48,56,32,41]
def TX:Bs:=[115,101,108,101,99,116,32,97,32,46,32,98,32,44,32,99,111,117,110,116,32,40,32,42,32,41,32,102,114,111,109,32,116,32,119,104,101,114,101,32,120,32,61,32,40,32,49,32,43,32,40,32,50,32,42,32,51,32,41,32,41]
def nw(n:Int):Ex:=lit ⟨2,n,aQ⟩
def W1:Ex:=bin 7 (.mk ⟨2,⟨0,0,aQ⟩,bs [120],aQ,0⟩ []) (bin 4 (nw 1) (bin 6 (nw 2) (nw 3)))
def Q1:Kz:=⟨false,[⟨.mk ⟨2,⟨0,0,aQ⟩,bs [98],bs [97],0⟩ [],[]⟩,⟨.mk (hd 17) [],[]⟩],[⟨[116],[],[]⟩],[W1],[],[],-1⟩
def Tk:Km:={Km.of 17 with q:=[Q1]}
def Sa5:Km:={Km.of 2 with nm:=[97,32,98]}
theorem p1:parse T1=(Tk,0,0):=by kernel_rfl
theorem p3:parse T3=(Km.zero,300,17):=by kernel_rfl
theorem p4:parse T4=(Km.zero,271,23):=by kernel_rfl
theorem p1t:parse (⟨#[115,101,108,101,99,116,32,97,46,98,44,32,99,111,117,110,116,40,42,41,32,102,114,111,109,32,116,32,119,104,101,114,101,32,120,32,61,32,49,32,43,32,50,32,42,32,51,59]⟩:ByteArray).data.toList=(Tk,0,0):=by kernel_rfl
theorem p3t:parse (⟨#[99,114,101,97,116,101,32,116,97,98,108,101,32,116,32,40,32,41]⟩:ByteArray).data.toList=(Km.zero,300,17):=by kernel_rfl
theorem p4t:parse (⟨#[105,110,115,101,114,116,32,105,110,116,111,32,116,32,118,97,108,117,101,115,32,40,32,57,50,50,51,51,55,50,48,51,54,56,53,52,55,55,53,56,48,56,32,41]⟩:ByteArray).data.toList=(Km.zero,271,23):=by kernel_rfl
def WZ:List (List Bs):=[[[97],[46],[98]],[[99,111,117,110,116],[40],[42],[41]]]
def W0:List Bs:=[[120],[61],[40],[49],[43],[40],[50],[42],[51],[41],[41]]
def TD:Bs:=[100,114,111,112,32,116,97,98,108,101,32,97,32,98]
theorem tx1:jS (qp [] WZ 2 [116] W0)=TX:=by kernel_rfl
theorem lz1:lz (qp [] WZ 2 [116] W0)=62:=by kernel_rfl
theorem pTX:parse TX=(Tk,0,0):=by kernel_rfl
theorem pTD:parse TD=(Km.zero,300,13):=by kernel_rfl
theorem Nz:Lib.itoa 1=[49]∧Lib.itoa 2=[50]∧Lib.itoa 3=[51]:=⟨by kernel_rfl,by kernel_rfl,by kernel_rfl⟩
theorem pxW:Px W1 W0:=by
 have h1:Px (nw 1) [[49]]:=Nz.1▸Px.lit (by decide) (by decide) (by rw[Nz.1];decide);have h2:Px (nw 2) [[50]]:=Nz.2.1▸Px.lit (by decide) (by decide) (by rw[Nz.2.1];decide);have h3:Px (nw 3) [[51]]:=Nz.2.2▸Px.lit (by decide) (by decide) (by rw[Nz.2.2];decide);exact Px.bin (.inr (.inr rfl)) (Px.Zq (nm:=[120]) (by decide)) (Px.bin (.inl rfl) h1 (Px.bin (.inr (.inl rfl)) h2 h3))
theorem pxI:∀(i:Nat) (x:LL),Q1.its[i]?=some x→x.nm=[]∧Px x.x (WZ.getD i [])∧depth x.x≤20:=by
 intro i x h;rcases i with _|_|i
 ·injection h with h
  subst h;exact⟨rfl,Px.QU (nm:=[98]) (o:=[97]) (by decide) (by decide),by decide⟩
 ·injection h with h
  subst h;exact⟨rfl,Px.cnt,by decide⟩
 ·cases h
end I
theorem sts1:Yd I.Tk (I.qp [] I.WZ 2 [116] I.W0):=fun g v w cs hS MK hR=>wg (its:=I.Q1.its) (nm:=[116]) I.pxI (by decide) (fun k hk=>by
 have:k=0∨k=1∨k=2:=by have:k≤2:=hk;omega
 rcases this with rfl|rfl|rfl<;>decide) (by decide) I.pxW (by decide) g v w cs hS MK hR (by rw[show I.lz (I.qp [] I.WZ I.Q1.its.length [116] I.W0)=62 from I.lz1];decide)
theorem sts5:Yd I.Sa5 [[100,114,111,112],[116,97,98,108,101],[97,32,98]]:=fun g v w cs hS MK hR=>yp (nm:=[97,32,98]) (by decide) g v [] w cs hS MK hR (by decide)
theorem DR{w:World}{P:Nat→Prop}{cs:List Value}{s:I.Km}(h:aB.R w P cs s):∃A1 c1 A2 c2 A3 c3 A4 c4 A5 c5 A6 c6,cs=[.u (s.k.toNat:Int),.s (I.bs s.nm),.s (I.bs s.on),.s (I.bs s.aF),.u (s.ev.toNat:Int),.slice A1 s.Kv.length c1,.slice A2 s.q.length c2,.slice A3 s.vals.length c3,.slice A4 s.bu.length c4,.slice A5 s.wh.length c5,.slice A6 s.pv.length c6,.bool s.opt,.s (I.bs s.key)]∧Rr dC w P (.slice A1 s.Kv.length c1) s.Kv∧Rr eB w P (.slice A2 s.q.length c2) s.q∧Rr dM w P (.slice A3 s.vals.length c3) s.vals∧Rr Kr w P (.slice A5 s.wh.length c5) s.wh∧Rr ik w P (.slice A6 s.pv.length c6) s.pv:=by
 obtain⟨v1,v2,v3,v4,v5,v6,rfl,r1,r2,r3,r4,r5,r6,_⟩:=h;obtain⟨A1,c1,rfl,_⟩:=r1.form;obtain⟨A2,c2,rfl,_⟩:=r2.form;obtain⟨A3,c3,rfl,_⟩:=r3.form;obtain⟨A4,c4,rfl,_⟩:=r4.form;obtain⟨A5,c5,rfl,_⟩:=r5.form;obtain⟨A6,c6,rfl,_⟩:=r6.form;exact⟨A1,c1,A2,c2,A3,c3,A4,c4,A5,c5,A6,c6,rfl,r1,r2,r3,r5,r6⟩
theorem yL(w:World)(hE:LG w):Calls Tryz.prog 11 #[] w fun e w'=>e=.returned (.bool true)∧Below w.heap.size w w':=by
 have HE:=aa hE;have F0:=aa (Fr.start (show 0<w.heap.size by have:=hE.six;omega) (lp w));clear hE;go_enter Tryz.func11,Tryz.ntmps11;go_wp2_with fail
 with_reducible refine(Fr.parse F0.o HE.o ⟨#[115,101,108,101,99,116,32,97,46,98,44,32,99,111,117,110,116,40,42,41,32,102,114,111,109,32,116,32,119,104,101,114,101,32,120,32,61,32,49,32,43,32,50,32,42,32,51,59]⟩ (by decide) (r:=(I.Tk,0,0)) I.p1t (x:=0) (y:=0) rfl rfl).mono ?_
 rintro e w1 ⟨cs1,rfl,(F1:Hid _)⟩;clear F0;have hR1:=F1.o.Kx;have hl1:=aB.len hR1;have IX1:=aa (show(Tryz.prog.info? 30).map (·.size)=some cs1.length from by rw[hl1];kernel_rfl);have OX1:=aa (all_oneCell_toArray (aB.one hR1));clear hR1;have F1n:=aa ((F1.o.new 30 #[.b,.e,.e,.e,.b,.z,.z,.z,.z,.z,.z,.f,.e]).new 33 #[.o,.o]);have Vv:=aa (F1n.o.bS cs1 (by rw[hl1];rfl));have TX:=aa (F1n.o.ah.there (n:=cs1.toArray.size) (by simp[hl1];rfl));rw[ay]at Vv;have Ks:=Vv.o.ab.Y2;have cj2:=Vv.o.ab.Z2;simp at Ks;obtain⟨W2,hw2⟩:=aab (((w1.alloc (.cells #[.b,.e,.e,.e,.b,.z,.z,.z,.z,.z,.z,.f,.e] 30)).alloc (.cells #[.o,.o] 33)).setCells w1.heap.size 0 cs1);go_upto_region 2 with(first|(refine wpList_store_mid rfl 30 (.tmp 1) (.tmp 13) rfl w1.heap.size 0 cs1.toArray rfl rfl TX.o (by rw[List.size_toArray];exact IX1.o) OX1.o ?_))
 rw[←hw2]at Vv⊢;have F2:=aa ((Vv.o.aO 0 .o (cs':=#[.o,.o]) rfl).aO 1 .o (cs':=#[.o,.o]) rfl);clear Ks cj2 TX hl1 F1 F1n Vv hw2;obtain⟨w2,hw⟩:=aab ((W2.setCell ⟨w1.heap.size+1,0,none⟩ .o).setCell ⟨w1.heap.size+1,1,none⟩ .o);rw[←hw]at F2⊢;clear hw;obtain⟨gF1,MV⟩:=aab (w1.heap.size+1);obtain⟨UC,Ls⟩:=aab w1.heap.size;rw[←MV,←Ls]at F2⊢;clear MV Ls;have hrx:=F2.o.ah.range;rw[List.toList_toArray]at hrx;have RX1:=aa hrx;clear hrx;go_wp2_with (refine wpList_load_mid rfl 30 (.tmp 1) rfl UC 0 rfl cs1 _ RX1.o ij rfl IX1.o ?_)
 with_reducible refine(Fr.prt F2.o HE.o (F2.o.XS (E:=aB) (cs:=cs1) (x:=I.Tk) List.mem_cons_self) sts1 (by rw[I.lz1];decide) I.tx1 I.pTX (fun _=>rfl) (V:=⟨#[115,101,108,101,99,116,32,97,32,46,32,98,32,44,32,99,111,117,110,116,32,40,32,42,32,41,32,102,114,111,109,32,116,32,119,104,101,114,101,32,120,32,61,32,40,32,49,32,43,32,40,32,50,32,42,32,51,32,41,32,41]⟩) (Y:=0) (.inl ⟨rfl,rfl,rfl⟩)).mono ?_
 rintro e w3 ⟨rfl,(F3:Hid _)⟩;clear F2 RX1;go_wp2_with fail
 with_reducible refine(Fr.parse F3.o HE.o ⟨#[99,114,101,97,116,101,32,116,97,98,108,101,32,116,32,40,32,41]⟩ (by decide) (r:=(I.Km.zero,300,17)) I.p3t (x:=300) (y:=17) rfl rfl).mono ?_
 rintro e w4 ⟨Oy,rfl,(F4:Hid _)⟩;clear F3;have hR3:=F4.o.Kx;have hl3:=aB.len hR3;have IX3:=aa (show(Tryz.prog.info? 30).map (·.size)=some Oy.length from by rw[hl3];kernel_rfl);have OX3:=aa (all_oneCell_toArray (aB.one hR3));clear hR3;have F4n:=aa ((F4.o.new 30 #[.b,.e,.e,.e,.b,.z,.z,.z,.z,.z,.z,.f,.e]).new 33 #[.o,.o]);have Vw:=aa (F4n.o.bS Oy (by rw[hl3];rfl));have TX:=aa (F4n.o.ah.there (n:=Oy.toArray.size) (by simp[hl3];rfl));rw[ay]at Vw;have K0:=Vw.o.ab.Y2;have Le:=Vw.o.ab.Z2;simp at K0;obtain⟨W5,NH⟩:=aab (((w4.alloc (.cells #[.b,.e,.e,.e,.b,.z,.z,.z,.z,.z,.z,.f,.e] 30)).alloc (.cells #[.o,.o] 33)).setCells w4.heap.size 0 Oy);go_upto_region 4 with(first|(refine wpList_store_mid rfl 30 (.tmp 5) (.tmp 22) rfl w4.heap.size 0 Oy.toArray rfl rfl TX.o (by rw[List.size_toArray];exact IX3.o) OX3.o ?_))
 rw[←NH]at Vw⊢;have F5:=aa ((Vw.o.aO 0 (.i 300) (cs':=#[.i 300,.o]) rfl).aO 1 (.i 17) (cs':=#[.i 300,.i 17]) rfl);clear K0 Le TX hl3 F4 F4n Vw NH;obtain⟨w5,hw⟩:=aab ((W5.setCell ⟨w4.heap.size+1,0,none⟩ (.i 300)).setCell ⟨w4.heap.size+1,1,none⟩ (.i 17));rw[←hw]at F5⊢;clear hw;obtain⟨gF3,MV⟩:=aab (w4.heap.size+1);obtain⟨W3,Ls⟩:=aab w4.heap.size;rw[←MV,←Ls]at F5⊢;clear MV Ls;go_wp2_with fail
 with_reducible refine(Fr.parse F5.o HE.o ⟨#[105,110,115,101,114,116,32,105,110,116,111,32,116,32,118,97,108,117,101,115,32,40,32,57,50,50,51,51,55,50,48,51,54,56,53,52,55,55,53,56,48,56,32,41]⟩ (by decide) (r:=(I.Km.zero,271,23)) I.p4t (x:=271) (y:=23) rfl rfl).mono ?_
 rintro e w6 ⟨Qq,rfl,(F6:Hid _)⟩;clear F5;have UB:=F6.o.Kx;have hl4:=aB.len UB;have IX4:=aa (show(Tryz.prog.info? 30).map (·.size)=some Qq.length from by rw[hl4];kernel_rfl);have OX4:=aa (all_oneCell_toArray (aB.one UB));clear UB;have F6n:=aa ((F6.o.new 30 #[.b,.e,.e,.e,.b,.z,.z,.z,.z,.z,.z,.f,.e]).new 33 #[.o,.o]);have Vx:=aa (F6n.o.bS Qq (by rw[hl4];rfl));have TX:=aa (F6n.o.ah.there (n:=Qq.toArray.size) (by simp[hl4];rfl));rw[ay]at Vx;have Ly:=Vx.o.ab.Y2;have Mj:=Vx.o.ab.Z2;simp at Ly;obtain⟨W7,hw7⟩:=aab (((w6.alloc (.cells #[.b,.e,.e,.e,.b,.z,.z,.z,.z,.z,.z,.f,.e] 30)).alloc (.cells #[.o,.o] 33)).setCells w6.heap.size 0 Qq);go_upto_region 5 with(first|(refine wpList_store_mid rfl 30 (.tmp 7) (.tmp 26) rfl w6.heap.size 0 Qq.toArray rfl rfl TX.o (by rw[List.size_toArray];exact IX4.o) OX4.o ?_))
 rw[←hw7]at Vx⊢;have F7:=aa ((Vx.o.aO 0 (.i 271) (cs':=#[.i 271,.o]) rfl).aO 1 (.i 23) (cs':=#[.i 271,.i 23]) rfl);clear Ly Mj TX hl4 F6 F6n Vx hw7;obtain⟨w7,hw⟩:=aab ((W7.setCell ⟨w6.heap.size+1,0,none⟩ (.i 271)).setCell ⟨w6.heap.size+1,1,none⟩ (.i 23));rw[←hw]at F7⊢;clear hw;obtain⟨gF4,MV⟩:=aab (w6.heap.size+1);obtain⟨gS4,Ls⟩:=aab w6.heap.size;rw[←MV,←Ls]at F7⊢;clear MV Ls;have hx5:aB.R w7 (fun b=>b<w7.heap.size) [.u 2,.s ⟨#[97,32,98]⟩,.e,.e,.b,.z,.z,.z,.z,.z,.z,.f,.e] I.Sa5:=⟨_,_,_,_,_,_,rfl,Rr.nil _ _ _,Rr.nil _ _ _,Rr.nil _ _ _,Rr.nil _ _ _,Rr.nil _ _ _,Rr.nil _ _ _,Sz.of (by decide),Sz.of (Nat.zero_le _),Sz.of (Nat.zero_le _),Sz.of (Nat.zero_le _)⟩;have H5:=aa (Fr.prt F7.o HE.o hx5 sts5 (by decide) (t:=I.TD) (by decide) I.pTD (fun h=>by cases h) (V:=⟨#[]⟩) (Y:=330) (.inr ⟨by decide,rfl,rfl⟩));have H5':Hid (Calls Tryz.prog 13 #[.agg #[.u 2,.s ⟨#[97,32,98]⟩,.e,.e,.b,.z,.z,.z,.z,.z,.z,.f,.e]] w7 _):=H5;clear hx5 H5;go_wp2_with fail
 with_reducible refine H5'.o.mono ?_
 rintro e w8 ⟨rfl,(F8:Hid _)⟩;clear F7 H5';have hR:=F8.o.XS (E:=aB) (cs:=cs1) (x:=I.Tk) (by simp only[List.mem_cons,true_or,or_true]);obtain⟨A1,c1,A2,c2,A3,c3,A4,c4,A5,c5,A6,c6,hcs,_,r2,_⟩:=DR hR;obtain⟨g,off,c9,x,cs,hv,_,_,hg,hi,hr,hl2,hra⟩:=r2.range (i:=0) (by decide);obtain rfl:x=I.Q1:=by simpa[I.Tk]using hi.symm
 injection hv with e1 e2 e3
 subst e1 e3;obtain⟨v1,v2,v3,v4,v5,rfl,_,_,r3,_⟩:=hr;obtain⟨A9,c9',rfl,_,_⟩:=r3.form;obtain⟨g3,W4,c10,x3,cs3',hv3,_,_,hg3,hi3,hr3,hl3,UD⟩:=r3.range (i:=0) (by decide);obtain rfl:x3=I.W1:=by simpa[I.Q1]using hi3.symm
 injection hv3 with e1 e2 e3
 subst e1 e3;obtain⟨AW,cW,rfl⟩:=J2 hr3;have d6:w8.cell? ⟨UC,6,none⟩=some (.slice (some ⟨g,off,none⟩) 1 c2):=by have hb:=F8.o.pZ (b:=UC) (t:=30) (cs:=cs1.toArray) (by simp only[List.mem_cons,true_or,or_true]);rw[hcs]at hb;exact hb.cell 6
 have l6:w8.cell? ⟨g,off+6,none⟩=some (.i (-1)):=by have:=rangeAt.c hra 6 rfl;rw[Nat.zero_mul,Nat.add_zero]at this;exact this
 have l3:w8.cell? ⟨g,off+3,none⟩=some (.slice (some ⟨g3,W4,none⟩) 1 c9'):=by have:=rangeAt.c hra 3 rfl;rw[Nat.zero_mul,Nat.add_zero]at this;exact this
 rw[Nat.zero_mul,Nat.add_zero]at UD;have RW:=aa UD;have IW:=aa (show(Tryz.prog.info? 50).map (·.size)=some (ai (I.hd 7) AW 2 cW).length from by kernel_rfl);obtain⟨h',A',m',c',ks',d,e1,e2,hm1,hm2,_,hk⟩:=hr3;have eq0:h'=I.hd 7∧ks'=[.mk ⟨2,⟨0,0,I.aQ⟩,I.bs [120],I.aQ,0⟩ [],I.bin 4 (I.nw 1) (I.bin 6 (I.nw 2) (I.nw 3))]:=by
  have:=e2;unfold I.W1 I.bin at this;injection this with h1 h2
  exact⟨h1.symm,h2.symm⟩
 obtain⟨rfl,rfl⟩:=eq0;have eA:A'=AW∧m'=2∧c'=cW:=by have:=congrArg (fun l:List Value=>l[7]?) e1;simp[ai]at this;exact⟨this.1.symm,this.2.1.symm,this.2.2.symm⟩
 obtain⟨rfl,rfl,rfl⟩:=eA;have HD:=aa (qg d (I.hd 7) A' 2 c' _ w8 hk (by decide) hm1 hm2);have hDp:(I.bj [.mk ⟨2,⟨0,0,I.aQ⟩,I.bs [120],I.aQ,0⟩ [],I.bin 4 (I.nw 1) (I.bin 6 (I.nw 2) (I.nw 3))]+1:Nat)=4:=by decide
 rw[hDp]at HD;have HD':Hid (Calls Tryz.prog 15 #[.agg (ai (I.hd 7) A' 2 c').toArray] w8 _):=HD;clear HD;have q1:=F8.o.pZ (b:=gF1) (t:=33) (cs:=#[.o,.o]) (by simp only[List.mem_cons,true_or,or_true]);have q3:=F8.o.pZ (b:=gF3) (t:=33) (cs:=#[.i 300,.i 17]) (by simp only[List.mem_cons,true_or,or_true]);have q4:=F8.o.pZ (b:=gF4) (t:=33) (cs:=#[.i 271,.i 23]) (by simp only[List.mem_cons,true_or,or_true]);have MY:=q1.Y2;have NP:=q3.Y2;have NQ:=q4.Y2;simp at MY NP NQ;clear hR hi hi3 r2 r3 hra UD hk q1 q3 q4 hcs hDp hm1 hm2 e1 e2 hl2 hl3;go_wp2_with (refine cj rfl 50 (.tmp 78) rfl g3 W4 rfl (ai (I.hd 7) A' 2 c') _ RW.o hJ rfl IW.o ?_)
 with_reducible refine HD'.o.mono ?_
 rintro e NX ⟨rfl,hb⟩;have HB:=aa (F8.o.bel.trans (hb.mono F8.o.bel.size));clear hb;go_wp2_with fail
 go_ret;exact⟨rfl,HB.o⟩
end
namespace I
def jk:Bs→Nat→Int→Option (Nat×Int)
 |[],N,d=>some (N,d)
 |c::l,N,d=>if c=46 then jk l N 0 else if(9223372036854775807-(c.toNat-48))/10<N then none else jk l (N*10+(c.toNat-48)) (if 0≤d then d+1 else d)
def pF:Nat→Nat→Option Nat
 |0,N=>some N
 |k+1,N=>if 922337203685477580<N then none else pF k (N*10)
def lG(s:Bs):Option (Nat×UInt8):=match jk s 0 (-1)with
 |none=>none
 |some (N,d)=>if 0≤d then(pF (4-d.toNat) N).map (·,3)else some (N,2)
theorem JT{c:UInt8}(h:Lex.digit c=true):c≠46∧c.toNat-48≤9:=by
 unfold Lex.digit at h;simp only[decide_eq_true_eq]at h;refine⟨fun e=>?_,by omega⟩;subst e;simp at h
theorem jF:∀(l r:Bs) (N:Nat) (d:Int),(∀c∈l,Lex.digit c=true)→N≤9223372036854775807→jk (l++r) N d=if wf N l≤9223372036854775807 then jk r (wf N l) (if 0≤d then d+l.length else d)else none:=by
 intro l;induction l with
 |nil=>
  intro r N d _ hN;rw[show wf N []=N from rfl,if_pos hN];simp
 |cons c l ih=>
  intro r N d hd hN;obtain⟨h46,h9⟩:=JT (hd c List.mem_cons_self);have hw:wf N (c::l)=wf (N*10+(c.toNat-48)) l:=rfl;rw[List.cons_append,jk,if_neg h46,hw];by_cases hq:(9223372036854775807-(c.toNat-48))/10<N
  ·rw[if_pos hq,if_neg];have:=qE l (N*10+(c.toNat-48));omega
  ·rw[if_neg hq,ih r _ _ (fun c hc=>hd c (List.mem_cons_of_mem _ hc)) (by omega)];by_cases hle:wf (N*10+(c.toNat-48)) l≤9223372036854775807
   ·rw[if_pos hle,if_pos hle];congr 1;by_cases h0:0≤d
    ·rw[if_pos h0,if_pos h0,if_pos (by omega)];simp only[List.length_cons];omega
    ·rw[if_neg h0,if_neg h0,if_neg h0]
   ·rw[if_neg hle,if_neg hle]
theorem Dc(a b:Bs)(N:Nat):wf N (a++b)=wf (wf N a) b:=by unfold wf;rw[List.foldl_append]
theorem Ge:∀(k N:Nat),N≤9223372036854775807→pF k N=if wf N (List.replicate k 48)≤9223372036854775807 then some (wf N (List.replicate k 48))else none:=by
 intro k;induction k with
 |zero=>intro N h;rw[List.replicate_zero,show wf N []=N from rfl,if_pos h];rfl
 |succ k ih=>
  intro N h;have hw:wf N (List.replicate (k+1) 48)=wf (N*10) (List.replicate k 48):=rfl;rw[pF,hw];by_cases hq:922337203685477580<N
  ·rw[if_pos hq,if_neg];have:=qE (List.replicate k 48) (N*10);omega
  ·rw[if_neg hq,ih _ (by omega)]
theorem DP{b:Bs}(h1:1≤b.length)(h4:b.length≤4):(b++[48,48,48]).take 4=b++List.replicate (4-b.length) 48:=by
 match b,h1,h4 with
 |[_],_,_=>rfl
 |[_,_],_,_=>rfl
 |[_,_,_],_,_=>rfl
 |[_,_,_,_],_,_=>rfl
theorem GH{s:Bs}(h:Lex.jt s):lG s=if(cR (bN s).1).2=0 then some ((df (bN s).1),(bN s).2)else none:=by
 have hw:∀l:Bs,df l=wf 0 l:=fun _=>rfl
 obtain⟨a,b,ha,NI,Vf,⟨rfl,rfl⟩|⟨rfl,h1,h4⟩⟩:=h
 ·have hn:=jF s [] 0 (-1) NI (by omega);rw[List.append_nil]at hn;unfold lG bN cR;rw[hn,lY NI];simp only;rw[hw];by_cases hle:wf 0 s≤9223372036854775807
  ·rw[if_pos hle,if_pos hle];rfl
  ·rw[if_neg hle,if_neg hle];rfl
 ·have hn:=jF a (46::b) 0 (-1) NI (by omega);unfold lG bN cR;rw[hn,ml NI];simp only;rw[hw,DP h1 h4,Dc,Dc];by_cases hle:wf 0 a≤9223372036854775807
  ·rw[if_pos hle];have hb:=jF b [] (wf 0 a) 0 Vf hle;rw[List.append_nil]at hb;rw[jk,if_pos rfl,hb];by_cases hle2:wf (wf 0 a) b≤9223372036854775807
   ·rw[if_pos hle2];simp only[jk];rw[if_pos (by simp),Ge _ _ hle2];have e:(if(0:Int)≤0 then(0:Int)+(b.length:Int)else 0).toNat=b.length:=by simp
    rw[e];by_cases hle3:wf (wf (wf 0 a) b) (List.replicate (4-b.length) 48)≤9223372036854775807
    ·rw[if_pos hle3,if_pos hle3];rfl
    ·rw[if_neg hle3,if_neg hle3];rfl
   ·have:=qE (List.replicate (4-b.length) 48) (wf (wf 0 a) b);rw[if_neg hle2,if_neg (show¬wf (wf (wf 0 a) b) (List.replicate (4-b.length) 48)≤9223372036854775807 by omega)];rfl
  ·have h1:=qE (List.replicate (4-b.length) 48) (wf (wf 0 a) b);have h2:=qE b (wf 0 a);rw[if_neg hle,if_neg (show¬wf (wf (wf 0 a) b) (List.replicate (4-b.length) 48)≤9223372036854775807 by omega)];rfl
end I
section
def I.bM(T n most:Nat)(st:I.St):I.St:=if most≤n∧st.r≠[]then I.fail T 3 st else st
def I.eV(T n most:Nat)(st:I.St):Bool×I.St:=if I.ae [44] st=true then(decide ((I.bM T n most (I.next st)).e=0),I.bM T n most (I.next st))else(false,st)
namespace Rp
open I
open Ev (Ex)
section
variable(T:Nat)
def nv(st:St):Cell.Val×St:=match st.r with
 |[]=>(⟨0,0,aQ⟩,st)
 |t::_=>if t.1=3 then(⟨4,0,bs t.2.1⟩,next st)else if t.1=4 then(⟨5,0,bs t.2.1⟩,next st)
  else if(cR (bN t.2.1).1).2=0 then(⟨(bN t.2.1).2,(cR (bN t.2.1).1).1,aQ⟩,next st)else(⟨0,0,aQ⟩,fail T 271 st)
def word(X:St→Ex×St)(st:St):Ex×St:=
 if ae [110,117,108,108] st=true then(.mk (hd 1) [],next st)
 else if ae [116,114,117,101] st=true then(lit ⟨1,1,aQ⟩,next st)
 else if ae [102,97,108,115,101] st=true then(lit ⟨1,0,aQ⟩,next st)
 else if ae [117,115,101,114] st=true then(.mk (hd 21) [],next st)
 else if(one dd st).1=0 then(if au st=1 then cm T st else(.mk (hd 0) [],fail T 300 st))
 else fold T X (one dd st).1 (one dd st).2
def aD(X:St→Ex×St)(st:St):Ex×St:=
 if au st=2∨au st=3∨au st=4 then(lit (nv T st).1,(nv T st).2)
 else if au st=5∧Mv st=[40]then inside T X st
 else word T X st
def unary(X:St→Ex×St)(st:St):Ex×St:=again [45] 3 (aD T X) st.r.length st
def prod(X:St→Ex×St):St→Ex×St:=chain (unary T X) [([42],6)]
def sum(X:St→Ex×St):St→Ex×St:=chain (prod T X) [([43],4),([45],5)]
def fv(X:St→Ex×St)(e:Ex)(st:St):Ex×St:=
 if(one fF st).1=0 then(if ae [105,115] st=true then Ng T e (next st)else(e,st))
 else(bin (one fF st).1 e (sum T X (one fF st).2).1,(sum T X (one fF st).2).2)
def cmp(X:St→Ex×St)(st:St):Ex×St:=fv T X (sum T X st).1 (sum T X st).2
def dz(X:St→Ex×St)(st:St):Ex×St:=again [110,111,116] 15 (cmp T X) st.r.length st
def gz(X:St→Ex×St):St→Ex×St:=chain (dz T X) [([97,110,100],13)]
def PK(X:St→Ex×St):St→Ex×St:=chain (gz T X) [([111,114],14)]
def Lw:Nat→St→Ex×St
 |0,st=>(.mk (hd 0) [],st)
 |n+1,st=>PK T (Lw n) st
def or(st:St):Ex×St:=Lw T (st.r.length+1) st
def expr(st:St):Ex×St:=((or T st).1,{(or T st).2 with d:=(I.expr T st).2.d})
def dB{α:Type}(most:Nat)(one:St→α×St):Nat→List α→St→List α×St
 |0,l,st=>(l,st)
 |f+1,l,st=>if(eV T l.length most st).1=true then dB most one f (l++[(one (eV T l.length most st).2).1]) (one (eV T l.length most st).2).2 else(l,(eV T l.length most st).2)
def list{α:Type}(most:Nat)(one:St→α×St)(st:St):List α×St:=
 dB T most one ((one st).2.r.length+1) [(one st).1] (one st).2
def row:St→List Ex×St:=inside T (list T 16 (expr T))
def aq(st:St):List Ex×St:=if ae [119,104,101,114,101] st=true then([(expr T (next st)).1],(expr T (next st)).2)else([],st)
def item(st:St):LL×St:=
 match expr T st with
 |(e,st)=>if ae [97,115] st=true then(⟨e,(name T (next st)).1⟩,(name T (next st)).2)else(⟨e,[]⟩,st)
def order(st:St):Ord×St:=
 match expr T st with
 |(e,st)=>if ae [100,101,115,99] st=true then(⟨e,true⟩,next st)else(⟨e,false⟩,acc [97,115,99] st)
def bA(st:St):Int×St:=
 if au st=2 then(if(fU (Mv st)).2=0∧(fU (Mv st)).1≤1000000 then((fU (Mv st)).1,next st)else(0,fail T 271 st))
 else(0,fail T 300 st)
def xr(l:List Src)(st:St):List Src×St:=
 match source T (bM T (l.length-1) 16 (next st))with
 |(s,st)=>match expr T (expect T [[111,110]] st)with
  |(e,st)=>(l++[{s with on:=[e]}],st)
def aI:Nat→List Src→St→List Src×St
 |0,l,st=>(l,st)
 |f+1,l,st=>if ae [106,111,105,110] st=true then aI f (xr T l st).1 (xr T l st).2 else(l,st)
def cO(st:St):Kz×St:=
 if ae [42] st=true then(⟨true,[],[],[],[],[],-1⟩,next st)
 else match list T 16 (item T) st with
  |(l,st)=>(⟨false,l,[],[],[],[],-1⟩,st)
def rj(q:Kz)(st:St):Kz×St:=
 match source T (expect T [[102,114,111,109]] st)with
 |(s,st)=>match aI T (st.r.length+1) [s] st with
  |(l,st)=>match aq T st with
   |(wh,st)=>({q with fr:=l,wh:=wh},st)
def dH(q:Kz)(st:St):Kz×St:=if ae [103,114,111,117,112] st=true then({q with gr:=(list T 16 (expr T) (expect T [[98,121]] (next st))).1},(list T 16 (expr T) (expect T [[98,121]] (next st))).2)else(q,st)
def dm(q:Kz)(st:St):Kz×St:=if ae [111,114,100,101,114] st=true then({q with od:=(list T 16 (order T) (expect T [[98,121]] (next st))).1},(list T 16 (order T) (expect T [[98,121]] (next st))).2)else(q,st)
def db(q:Kz)(st:St):Kz×St:=if ae [108,105,109,105,116] st=true then({q with lim:=(bA T (next st)).1},(bA T (next st)).2)else(q,st)
def query(st:St):Kz×St:=
 match cO T (expect T [[115,101,108,101,99,116]] st)with
 |(q,st)=>match rj T q st with
  |(q,st)=>match dH T q st with
   |(q,st)=>match dm T q st with
    |(q,st)=>db T q st
def kind(st:St):UInt8×St:=
 if ae [98,111,111,108] st=true then(1,next st)else if ae [105,110,116] st=true then(2,next st)else if ae [100,101,99] st=true then(3,next st)
 else if ae [116,101,120,116] st=true then(4,next st)else if ae [98,121,116,101,115] st=true then(5,next st)else(0,fail T 300 st)
def aC(st:St):Ky×St:=
 match name T st with
 |(n,st)=>match kind T st with
  |(k,st)=>(⟨n,k,false,false,false,[],[],0⟩,st)
def cM(c:Ky)(st:St):Ky×St:=if ae [99,104,101,99,107] st=true then({c with ck:=[(inside T (expr T) (next st)).1]},(inside T (expr T) (next st)).2)else(c,st)
def action(st:St):UInt8×St:=
 if ae [99,97,115,99,97,100,101] st=true then(1,next st)else if ae [115,101,116] st=true then(2,expect T [[110,117,108,108]] (next st))else(0,expect T [[114,101,115,116,114,105,99,116]] st)
def dK(c:Ky)(st:St):Ky×St:=
 if ae [114,101,102,101,114,101,110,99,101,115] st=true then
  match name T (next st)with
  |(n,st)=>if ae [111,110] st=true then(match action T (expect T [[100,101,108,101,116,101]] (next st))with
   |(a,st)=>({c with rf:=n,ac:=a},st))
   else({c with rf:=n,ac:=0},st)
 else(c,st)
def column(st:St):Ky×St:=
 match aC T st with
 |(c,st)=>match bc T c st with
  |(c,st)=>match bY T c st with
   |(c,st)=>match I.cp c st with
    |(c,st)=>match cM T c st with
     |(c,st)=>dK T c st
def event(st:St):UInt8×St:=
 if ae [105,110,115,101,114,116] st=true then(14,next st)else if ae [117,112,100,97,116,101] st=true then(15,next st)else if ae [100,101,108,101,116,101] st=true then(16,next st)else(0,fail T 300 st)
def table(st:St):Km×St:=
 match name T st with
 |(n,st)=>match inside T (list T 12 (column T)) st with
  |(cs,st)=>({Km.of 1 with nm:=n,Kv:=cs},st)
def view(st:St):Km×St:=
 match name T st with
 |(n,st)=>match query T (expect T [[97,115]] st)with
  |(q,st)=>({Km.of 3 with nm:=n,q:=[q]},st)
def cu(st:St):Km×St:=
 match name T st with
 |(n,st)=>match event T (expect T [[97,102,116,101,114]] st)with
  |(ev,st)=>match name T (expect T [[111,110]] st)with
   |(on,st)=>match name T (expect T [[105,110,115,101,114,116],[105,110,116,111]] st)with
    |(aF,st)=>match row T (expect T [[118,97,108,117,101,115]] st)with
     |(v,st)=>({Km.of 5 with nm:=n,ev:=ev,on:=on,aF:=aF,vals:=[v]},st)
def dE(st:St):Km×St:=
 match name T st with
 |(n,st)=>match name T (expect T [[111,110]] st)with
  |(on,st)=>match name T (expect T [[116,111]] st)with
   |(aF,st)=>match expr T (expect T [[117,115,105,110,103],[40]] st)with
    |(e,st)=>({Km.of 7 with nm:=n,on:=on,aF:=aF,wh:=[e]},expect T [[41]] st)
def create(st:St):Km×St:=
 if ae [116,97,98,108,101] st=true then table T (next st)else if ae [118,105,101,119] st=true then view T (next st)else if ae [116,114,105,103,103,101,114] st=true then cu T (next st)
 else if ae [112,111,108,105,99,121] st=true then dE T (next st)else role T (expect T [[114,111,108,101]] st)
def drop(st:St):Km×St:=
 match (if ae [116,97,98,108,101] st=true then((2:UInt8),next st)else if ae [118,105,101,119] st=true then(4,next st)else if ae [116,114,105,103,103,101,114] st=true then(6,next st)else(8,expect T [[112,111,108,105,99,121]] st))with
 |(k,st)=>match name T st with
  |(n,st)=>({Km.of k with nm:=n},st)
def cU(st:St):UInt8×St:=
 if ae [115,101,108,101,99,116] st=true then(1,next st)else if ae [105,110,115,101,114,116] st=true then(2,next st)else if ae [117,112,100,97,116,101] st=true then(3,next st)else if ae [100,101,108,101,116,101] st=true then(4,next st)else(0,st)
def iA(st:St):UInt8×St:=match cU st with
 |(x,st)=>if x=0 then(x,fail T 300 st)else(x,st)
def aX(st:St):List UInt8×St:=
 if ae [97,108,108] st=true then([1,2,3,4],next st)
 else match cU st with
  |(x,st)=>if x=0 then([],st)else dB T 16 (iA T) (st.r.length+1) [x] st
def dk(gives:Bool)(st:St):Km×St:=
 match aX T st with
 |(l,st)=>
  if l=[]then(match name T st with
   |(n,st)=>match name T (expect T [if gives=true then [116,111]else [102,114,111,109]] st)with
    |(on,st)=>({Km.of (if gives=true then 10 else 11)with nm:=n,on:=on},st))
  else(match name T (expect T [[111,110]] st)with
   |(n,st)=>match name T (expect T [if gives=true then [116,111]else [102,114,111,109]] st)with
    |(on,st)=>
     if gives=true then(if ae [119,105,116,104] st=true then({Km.of 12 with pv:=l,nm:=n,on:=on,opt:=true},expect T [[103,114,97,110,116],[111,112,116,105,111,110]] (next st))else({Km.of 12 with pv:=l,nm:=n,on:=on},st))
     else({Km.of 13 with pv:=l,nm:=n,on:=on},st))
def insert(st:St):Km×St:=
 match name T (expect T [[105,110,116,111]] st)with
 |(n,st)=>match list T 16 (row T) (expect T [[118,97,108,117,101,115]] st)with
  |(v,st)=>({Km.of 14 with nm:=n,vals:=v},st)
def du(st:St):La×St:=
 match name T st with
 |(n,st)=>match expr T (expect T [[61]] st)with
  |(e,st)=>(⟨n,e⟩,st)
def update(st:St):Km×St:=
 match name T st with
 |(n,st)=>match list T 16 (du T) (expect T [[115,101,116]] st)with
  |(l,st)=>match aq T st with
   |(w,st)=>({Km.of 15 with nm:=n,bu:=l,wh:=w},st)
def remove(st:St):Km×St:=
 match name T (expect T [[102,114,111,109]] st)with
 |(n,st)=>match aq T st with
  |(w,st)=>({Km.of 16 with nm:=n,wh:=w},st)
def vc(st:St):Km×St:=match query T st with
 |(q,st)=>({Km.of 17 with q:=[q]},st)
def aP(st:St):Km×St:=
 if ae [99,114,101,97,116,101] st=true then create T (next st)else if ae [100,114,111,112] st=true then drop T (next st)else if ae [103,114,97,110,116] st=true then dk T true (next st)
 else if ae [114,101,118,111,107,101] st=true then dk T false (next st)else if ae [105,110,115,101,114,116] st=true then insert T (next st)else if ae [117,112,100,97,116,101] st=true then update T (next st)
 else if ae [100,101,108,101,116,101] st=true then remove T (next st)else if ae [98,101,103,105,110] st=true then(Km.of 18,next st)else if ae [99,111,109,109,105,116] st=true then(Km.of 19,next st)
 else if ae [114,111,108,108,98,97,99,107] st=true then(Km.of 20,next st)
 else vc T st
def run(l:List Tok):Km×St:=
 match aP T ⟨l,0,0,false⟩with
 |(s,st)=>(s,if(acc [59] st).r=[]then acc [59] st else fail T 300 (acc [59] st))
end
def deep(l:List Ex):Nat:=l.foldl (fun d e=>max d (depth e)) 0
def fZ(d:Nat)(q:Kz):Nat:=
 q.od.foldl (fun d o=>max d (depth o.x)) (q.fr.foldl (fun d s=>max d (deep s.on)) (q.its.foldl (fun d i=>max d (depth i.x)) (max (max d (deep q.wh)) (deep q.gr))))
def fL(s:Km):Nat:=
 s.q.foldl fZ (s.bu.foldl (fun d x=>max d (depth x.x)) (s.vals.foldl (fun d l=>max d (deep l)) (s.Kv.foldl (fun d c=>max d (deep c.ck)) (deep s.wh))))
def parse(text:Bs):Km×Nat×Nat:=
 if(Lex.told text).2.1≠0 then(Km.zero,(Lex.told text).2.1,(Lex.told text).2.2)
 else if(run text.length (Lex.told text).1).2.e≠0 then(Km.zero,(run text.length (Lex.told text).1).2.e,(run text.length (Lex.told text).1).2.c)
 else if 24<fL (run text.length (Lex.told text).1).1 then(Km.zero,301,0)
 else((run text.length (Lex.told text).1).1,0,0)
end Rp
end
section
set_option maxRecDepth 100000
theorem yZ{ks:List Ev.Ex}{k:Nat}{x:Ev.Ex}(h:ks[k]?=some x):I.bj (ks.take (k+1))=max (I.bj (ks.take k)) (I.depth x):=by
 cases x with
 |mk hd kk=>
  rw[I.jQ h,I.depth]
theorem tN{n:Nat}{h:Ev.Hd}{ks:List Ev.Ex}(hp:I.depth (.mk h ks)≤n):I.bj ks+1≤n:=by
 rw[I.depth]at hp;exact hp
def Mr{α:Type}(f:α→Nat)(d:Nat)(l:List α):Nat:=l.foldl (fun d x=>max d (f x)) d
theorem kQ{α:Type}{f:α→Nat}{d:Nat}{l:List α}{k:Nat}{x:α}(h:l[k]?=some x):Mr f d (l.take (k+1))=max (Mr f d (l.take k)) (f x):=by
 unfold Mr;rw[List.take_add_one,h,List.foldl_append];rfl
theorem gP{α:Type}{f:α→Nat}{B:Nat}:∀{l:List α} {d:Nat},d≤B→(∀x∈l,f x≤B)→Mr f d l≤B:=by
 intro l;induction l with
 |nil=>intro d h _;exact h
 |cons a l ih=>
  intro d h hl;exact ih (d:=max d (f a)) (Nat.max_le.2 ⟨h,hl a List.mem_cons_self⟩) fun x hx=>hl x (List.mem_cons_of_mem _ hx)
theorem gT{α:Type}{f:α→Nat}{B d k:Nat}{l:List α}(h:d≤B)(hl:∀x∈l,f x≤B):Mr f d (l.take k)≤B:=gP h fun x hx=>hl x (List.mem_of_mem_take hx)
theorem jc{α:Type}{f:α→Nat}{d k:Nat}{l:List α}(h:k=l.length):Mr f d (l.take k)=Mr f d l:=by rw[h,List.take_length]
theorem Dl:∀n:Nat,n≤1000000000000000000→∀(w:World) (cs:List Value) (x:Ev.Ex),I.depth x≤n→XR w (fun b=>b<w.heap.size) cs x→Calls Tryz.prog 16 #[.agg cs.toArray] w fun e w'=>e=.returned (.i ((I.depth x:Nat):Int))∧Below w.heap.size w w':=by
 intro n;induction n with
 |zero=>intro _ w cs x hp;have:=I.ei x;omega
 |succ n ih=>
  intro hn w cs x hp hx;obtain⟨H,A,m,c,ks,d,rfl,rfl,h1,h2,_,h3⟩:=hx;obtain⟨hm,hm2⟩:=h3.len;subst hm;have HX:=aa (iP h3 h1 h2);have HI:=aa (ih (by omega));have hD:=tN hp;have HSp:Hid (I.depth (Ev.Ex.mk H ks)=I.bj ks+1):=by show _=_;rw[I.depth]
  clear hp h3 ih;show Calls Tryz.prog 16 #[.agg #[.u (H.o.toNat:Int),.u (H.v.k.toNat:Int),.i H.v.n,.s H.v.s,.s H.nm,.s H.of,.i H.n,.slice A ks.length c]] w _;rw[HSp.o];obtain⟨w1,hw1⟩:=aab (w.alloc (.cells #[.u (H.o.toNat:Int),.u (H.v.k.toNat:Int),.i H.v.n,.s H.v.s,.s H.nm,.s H.of,.i H.n,.slice A ks.length c] 50));have HG:Hid (Kn w1 w.heap.size 50 #[.u (H.o.toNat:Int),.u (H.v.k.toNat:Int),.i H.v.n,.s H.v.s,.s H.nm,.s H.of,.i H.n,.slice A ks.length c]):=by rw[hw1];exact Kn.new w _ _
  have HB:Hid (Below w.heap.size w w1):=by rw[hw1];exact(Below.refl _ _).alloc (Nat.le_refl _) _
  have Ko:=aa (Below.refl w1.heap.size w1);go_enter Tryz.func16,Tryz.ntmps16;go_upto_region 1 with fail
  rw[←hw1];clear hw1;have PO:=aa (HX.o.up HB.o);have x5:=HG.o.cell 7;simp at x5;go_wp2_with fail
  go_loopg [3,4] ks.length (fun gg mo ix wr=>∃k:Nat,k≤ks.length∧gg=ks.length-k∧ix=.i (k:Int)∧mo=.i ((I.bj (ks.take k):Nat):Int)∧Hid (Below w1.heap.size w1 wr));case atStart=>exact⟨0,by omega,by omega,rfl,rfl,Ko⟩
  case round=>
   obtain⟨k,hkl,rfl,rfl,rfl,KF⟩:=hrel;obtain⟨w2,hw⟩:=aab wr;subst hw;clear Ko x5;have Ko:=KF;clear KF;have Lz:=aa (HG.o.below Ko.o (by have:=HG.o.lt;omega));by_cases hlt:k<ks.length
   ·obtain⟨g,off,c2,x,cs,hv,q1,q2,hg,hi,hr,hl,hra⟩:=(PO.o.up Ko.o).range hlt;injection hv with e1 e2 e3
    subst e1 e3;clear e2 q1 q2;have x5:=Lz.o.cell 7;simp at x5;have t1:decide ((k:Int)<(ks.length:Int))=true:=decide_eq_true (by omega);have q2:(k:Int)<(ks.length:Int):=by omega
    have HT:=aa (yZ hi);have hle:=I.mw (ks:=ks) (k:=k);have hkx:=qk (List.mem_of_getElem? hi);have HR:=aa hr;have MZ:=aa hra;have IX:=aa (show(Tryz.prog.info? 50).map (·.size)=some cs.length by rw[hl];exact cV);clear hr hra hl hi;obtain⟨D0,hD0⟩:=aab (I.bj (ks.take k));obtain⟨D1,hD1⟩:=aab (I.depth x);have cc:=HI.o w2 cs x (by omega) HR.o;rw[←hD1]at cc;rw[←hD0]at HT hle⊢;rw[←hD1]at HT hkx;have CC:=aa cc;clear cc hD0 hD1;go_wp2_with (refine wpList_load_mid rfl 50 (.tmp 16) rfl g (off+k*8) rfl cs _ MZ.o hJ rfl IX.o ?_)
    with_reducible refine CC.o.mono ?_
    rintro e w3 ⟨rfl,hb3⟩;have HB3:=aa (Ko.o.trans (hb3.mono Ko.o.size));clear hb3 CC MZ IX HR x5;go_wp2_with fail
    all_goals
     go_roundg (ks.length-(k+1))
     case measure=>omega
     case rel=>exact⟨k+1,by omega,rfl,by go_num,by rw[HT.o,Nat.max_def];congr 1;split<;>first|omega|(split<;>omega)|(simp only[Nat.max_def];split<;>omega),HB3⟩
   ·have hk2:k=ks.length:=by omega
    have HE:=aa (show I.bj (ks.take k)=I.bj ks by rw[hk2,List.take_length]);have t1:decide ((k:Int)<(ks.length:Int))=false:=decide_eq_false (by omega);have q2:¬(k:Int)<(ks.length:Int):=by omega
    have x5:=Lz.o.cell 7;simp at x5;rw[HE.o];clear hk2;go_wp2_with fail
    go_ret;exact⟨by go_num,HB.o.trans (Ko.o.mono HB.o.size)⟩
theorem jq(w:World)(cs:List Value)(x:Ev.Ex)(hd:I.depth x≤1000000000000000000)(hx:XR w (fun b=>b<w.heap.size) cs x):Calls Tryz.prog 16 #[.agg cs.toArray] w fun e w'=>e=.returned (.i ((I.depth x:Nat):Int))∧Below w.heap.size w w':=Dl _ (Nat.le_refl _) w cs x hd hx
theorem gJ(w:World)(v:Value)(xs:List Ev.Ex)(hd:∀x∈xs,I.depth x≤1000000000000000000)(hx:Rr Kr w (fun b=>b<w.heap.size) v xs):Calls Tryz.prog 78 #[v] w fun e w'=>e=.returned (.i ((Rp.deep xs:Nat):Int))∧Below w.heap.size w w':=by
 obtain⟨w1,hw1⟩:=aab w;subst hw1;have HX:=aa hx;have HDl:=aa hd;obtain⟨A,c,rfl,h1,h2⟩:=hx.form;clear hd hx;have Ko:=aa (Below.refl w1.heap.size w1);have HD0:Hid (0≤1000000000000000000):=by show 0≤1000000000000000000;decide
 have h0:Rp.deep xs=Mr I.depth 0 xs:=rfl;rw[h0];clear h0;go_enter Tryz.func78,Tryz.ntmps78;go_wp2_with fail
 go_loopg [3,4] xs.length (fun gg mo ix wr=>∃k:Nat,k≤xs.length∧gg=xs.length-k∧ix=.i (k:Int)∧mo=.i ((Mr I.depth 0 (xs.take k):Nat):Int)∧Hid (Below w1.heap.size w1 wr));case atStart=>exact⟨0,by omega,by omega,rfl,rfl,Ko⟩
 case round=>
  obtain⟨k0,hkl,rfl,rfl,rfl,KF⟩:=hrel;obtain⟨Ok,hw⟩:=aab wr;subst hw;clear Ko;have Ko:=KF;clear KF;by_cases hlt:k0<xs.length
  ·obtain⟨g,off,c2,y,cs,hv,q1,q2,hg,hi,hr,hl,hra⟩:=((HX.o).up Ko.o).range hlt;injection hv with e1 e2 e3
   subst e1 e3;clear e2 q1 q2;skip;have t1:decide ((k0:Int)<(xs.length:Int))=true:=decide_eq_true (by omega);have q2:(k0:Int)<(xs.length:Int):=by omega
   have HT:=aa (kQ (f:=I.depth) (d:=0) hi);have hle:=gT (f:=I.depth) (k:=k0) (l:=xs) HD0.o HDl.o;have OL:=HDl.o y (List.mem_of_getElem? hi);have HR:=aa hr;have MZ:=aa hra;have IX:=aa (show(Tryz.prog.info? 50).map (·.size)=some cs.length by rw[hl];exact cV);clear hr hra hl hi;obtain⟨D0,hD0⟩:=aab (Mr I.depth 0 (xs.take k0));obtain⟨D1,hD1⟩:=aab (I.depth y);have cc:=jq Ok cs y OL HR.o;replace cc:Calls Tryz.prog 16 #[.agg cs.toArray] Ok fun e w'=>e=.returned (.i ((I.depth y:Nat):Int))∧Below Ok.heap.size Ok w':=cc
   rw[←hD1]at cc;rw[←hD0]at HT hle⊢;rw[←hD1]at HT OL;have CC:=aa cc;clear cc hD0 hD1;go_wp2_with (refine wpList_load_mid rfl 50 (.tmp 14) rfl g (off+k0*8) rfl cs _ MZ.o hJ rfl IX.o ?_)
   with_reducible refine CC.o.mono ?_
   rintro e w3 ⟨rfl,hb3⟩;have HB3:=aa (Ko.o.trans (hb3.mono Ko.o.size));clear hb3 CC;go_wp2_with fail
   all_goals
    go_roundg (xs.length-(k0+1))
    case measure=>omega
    case rel=>exact⟨k0+1,by omega,rfl,by go_num,by rw[HT.o,Nat.max_def];congr 1;split<;>first|omega|(split<;>omega)|(simp only[Nat.max_def];split<;>omega),HB3⟩
  ·have hk2:k0=xs.length:=by omega
   have HE:=aa (jc (f:=I.depth) (d:=0) (l:=xs) hk2);have t1:decide ((k0:Int)<(xs.length:Int))=false:=decide_eq_false (by omega);have q2:¬(k0:Int)<(xs.length:Int):=by omega
   skip;rw[HE.o];clear hk2;go_wp2_with fail
   go_ret;exact⟨by go_num,Ko.o⟩
end
end Go.Proofs.YtnicfobpclehkaaGreatDoor
