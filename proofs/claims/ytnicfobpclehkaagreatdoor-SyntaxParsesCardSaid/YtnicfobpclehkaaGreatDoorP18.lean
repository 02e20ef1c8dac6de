import Derived.Test.YtnicfobpclehkaaGreatDoorP17
set_option maxHeartbeats 12800000
set_option linter.unusedVariables false
set_option linter.unusedSimpArgs false
namespace Go.Proofs.YtnicfobpclehkaaGreatDoor
open Go.RowKit
section
set_option maxRecDepth 100000
open I (Gw lz)
theorem kO{α:Type}{p:α→Prop}{a:α}(h:p a):∀x∈[a],p x:=fun x hx=>by
 simp only[List.mem_cons,List.not_mem_nil,or_false]at hx
 rw[hx]
 exact h
namespace I
open Ev (Ex Hd)
def kl(k:Ex)(l:List Bs):List Bs:=(if kN (De k)=true then [[40]]else [])++l++(if kN (De k)=true then [[41]]else [])
inductive Px:Ex→List Bs→Prop
 |lit {n:Int} (h0:0≤n) (h1:n≤9) (h:Lib.itoa n≠[]):Px (.mk ⟨1,⟨2,n,aQ⟩,aQ,aQ,0⟩ []) [Lib.itoa n]
 |Zq {nm:Bs} (h:nm≠[]):Px (.mk ⟨2,⟨0,0,aQ⟩,bs nm,aQ,0⟩ []) [nm]
 |QU {nm o:Bs} (h:nm≠[]) (h2:o≠[]):Px (.mk ⟨2,⟨0,0,aQ⟩,bs nm,bs o,0⟩ []) [o,[46],nm]
 |cnt:Px (.mk (hd 17) []) [[99,111,117,110,116],[40],[42],[41]]
 |bin {o:UInt8} {a b:Ex} {l r:List Bs} (h:o=4∨o=6∨o=7) (ha:Px a l) (hb:Px b r):Px (.mk (hd o) [a,b]) (kl a l++[en o]++kl b r)
end I
theorem Hz(o r k n1 n2:Int)(s nm of_:ByteArray)(A:Option Addr)(m c:Nat)(w:World)(hk:(o=1∧r=0)∨(o=2∧r=0)∨(o=17∧m=0∧r=0)∨(o=4∧r=2)∨(o=6∧r=2)∨(o=7∧r=2)):
 Calls Tryz.prog 224 #[.agg #[.u o,.u k,.i n1,.s s,.s nm,.s of_,.i n2,.slice A m c]] w fun e w'=>e=.returned (.i r)∧Below w.heap.size w w':=by
 rcases hk with⟨rfl,rfl⟩|⟨rfl,rfl⟩|⟨rfl,rfl,rfl⟩|⟨rfl,rfl⟩|⟨rfl,rfl⟩|⟨rfl,rfl⟩
 all_goals
  go_enter Tryz.func224,Tryz.ntmps224
  go_wp2_with fail
  go_ret
  exact⟨rfl,(Below.refl w.heap.size w).alloc (Nat.le_refl _) _⟩
def Zr(x:Ev.Ex)(l:List I.Bs):Prop:=∀(hd:Ev.Hd) (ks:List Ev.Ex) (A:Option Addr) (m c D g d:Nat) (v:Value) (p:List I.Bs) (w:World),x=.mk hd ks→WS g w v (Gw p)→Sb g MT w→Mu w (fun b=>b<g) D A m ks→m≤c→c≤9223372036854775807→d+I.depth x≤25→lz (p++l)≤4000→
 Calls Tryz.prog 164 #[.p g,Xx hd A m c,.i (d:Int)] w (fu g w v (Gw (p++l)))
theorem Hf{k:Ev.Ex}{l:List I.Bs}(hW:Zr k l)(hd:Ev.Hd)(ho:I.kN hd.o=true)(A:Option Addr)(m c:Nat)(ks:List Ev.Ex)(i:Nat)(ii:Int)(hii:ii=(i:Int))(hi:ks[i]?=some k)(D g d gE gB gD:Nat)(v:Value)(p:List I.Bs)(w:World)(hS:WS g w v (Gw p))(MK:Sb g MT w)(hx:Mu w (fun b=>b<g) D A m ks)(hdd:d+1+I.depth k≤25)(hz:lz (p++I.kl k l)≤4000)
 (bE:Kn w gE 50 #[.u (hd.o.toNat:Int),.u (hd.v.k.toNat:Int),.i hd.v.n,.s hd.v.s,.s hd.nm,.s hd.of,.i hd.n,.slice A m c]) (bB:Kn w gB 92 #[.p g]) (bD:Kn w gD 3 #[.i (d:Int)]) (oE:gE≠g∧v.ownBlock≠some gE) (oB:gB≠g∧v.ownBlock≠some gB) (oD:gD≠g∧v.ownBlock≠some gD):
 Calls Tryz.prog 225 #[.i ii,.p gE,.p gB,.p gD] w (fu g w v (Gw (p++I.kl k l))):=by
 subst hii;obtain⟨h2,RJ⟩:=k;have hil:=(List.getElem?_eq_some_iff.1 hi).1;have hxl:=hx.len;cases D with
 |zero=>obtain⟨_,rfl⟩:=hx;simp at hi
 |succ D=>
 obtain⟨_,_,h3⟩:=hx;obtain⟨gk,off,rfl,hgk,_,hc⟩:=h3 (by omega);obtain⟨A2,c2,d0,d1,d2,d3,d4,d5,d6,d7,e1,e2,e3,e4⟩:=hc i h2 RJ hi;have him:i<m:=by omega
 have q1:(0:Int)≤(i:Int):=by omega
 have q2:(i:Int)<(m:Int):=by omega
 have F0:=aa (Fw.start hS);have NW:=aa MK;have HX:=aa e4;have HE:=aa bE;have HB:=aa bB;have HD:=aa bD;obtain⟨B,hB⟩:=aab (I.kN h2.o);have Wn:=aa hB;have HO:=aa ho;have HW:=aa hW;have hz1:lz (p++if B=true then [[40]]else [])≤4000∧lz ((p++if B=true then [[40]]else [])++l)≤4000∧Gw (p++I.kl (.mk h2 RJ) l)=Gw (((p++if B=true then [[40]]else [])++l)++if B=true then [[41]]else [])∧lz (((p++if B=true then [[40]]else [])++l)++if B=true then [[41]]else [])≤4000:=by
  have e:p++I.kl (.mk h2 RJ) l=((p++if B=true then [[40]]else [])++l)++if B=true then [[41]]else []:=by unfold I.kl I.De;rw[←hB];simp only[List.append_assoc]
  rw[e]at hz;have h1:=I.cP ((p++if B=true then [[40]]else [])++l) (if B=true then [[41]]else []);have h2:=I.cP (p++if B=true then [[40]]else []) l;exact⟨by omega,by omega,by rw[e],hz⟩
 have HZ:=aa hz1;have hkl:=e4.len;have Zs:gk<g:=hgk;clear hS MK h3 hc e4 e3 hi hxl hil hW hgk ho hB hz hz1;have Ks:=bE.y2 0 7;have cB:=bB.cell 0;simp at Ks cB;have HK:=aa (show∀w':World,(∀b,b<g→w'.heap[b]?=w.heap[b]?)→∀t u,w.cell? ⟨gk,t,none⟩=some u→w'.cell? ⟨gk,t,none⟩=some u from fun w' hk t u hu=>(World.cell?_of_block (a:=⟨gk,t,none⟩) (hk gk Zs)).trans hu);go_enter Tryz.func225,Tryz.ntmps225;go_wp2_with fail
 with_reducible refine(sN hd.o _).mono ?_
 rintro e w' ⟨rfl,Wo⟩;obtain rfl:=Wo.symm;clear Wo;rw[HO.o];go_wp2_with fail
 with_reducible refine(sN h2.o _).mono ?_
 rintro e w' ⟨rfl,Wo⟩;obtain rfl:=Wo.symm;clear Wo;rw[←Wn.o];go_upto_region 1 with fail
 go_wp2_with fail
 with_reducible refine(iK F0.o B (n:=1) (cells:=#[.s ⟨#[40]⟩]) [[40]] rfl rfl (fun _=>by decide) (by decide) (by decide) HZ.o.1).mono ?_
 rintro e w1 ⟨v1,rfl,(F1:Hid _)⟩;obtain⟨p1,hp1⟩:∃x,x=p++if B=true then [[40]]else []:=⟨_,rfl⟩
 rw[←hp1]at F1 HZ;clear hp1;go_upto_region 2 with fail
 refine jG (fun w'=>Fw g w v [] (Gw p1) v1 w') 8 (by kernel_rfl) (by kernel_rfl) (F1.o.drew 1) ?_;simp only[List.take_succ_cons,List.take_zero,List.drop_succ_cons,List.drop_zero];iterate 8 (refine mL ?_ rfl (fun w' hS=>?_) ?_;rotate_left;(have Wp:=(hS.oT HB.o oB.1 oB.2).cell 0;have cE':=(hS.oT HE.o oE.1 oE.2).cell 7;have Zt:=(hS.oT HD.o oD.1 oD.2).cell 0;have k0:=HK.o w' (fun b hb=>hS.low hb) _ _ d0;have k1:=HK.o w' (fun b hb=>hS.low hb) _ _ d1;have k2:=HK.o w' (fun b hb=>hS.low hb) _ _ d2;have k3:=HK.o w' (fun b hb=>hS.low hb) _ _ d3;have k4:=HK.o w' (fun b hb=>hS.low hb) _ _ d4;have k5:=HK.o w' (fun b hb=>hS.low hb) _ _ d5;have k6:=HK.o w' (fun b hb=>hS.low hb) _ _ d6;have k7:=HK.o w' (fun b hb=>hS.low hb) _ _ d7;simp at Wp cE' Zt;go_simp;first|rfl|rw[if_pos (by omega)]);go_frame)
 refine oO fun w2 hS=>?_
 have F2:=aa hS;clear hS F1;go_wp2_with fail
 have cc:=HW.o h2 RJ A2 RJ.length c2 D g (d+1) v1 p1 w2 rfl F2.o.ws (F2.o.sb NW.o) (F2.o.XE HX.o) e1 e2 (by omega) HZ.o.2.1;unfold Xx at cc;rw[show(((d+1:Nat)):Int)=(d:Int)+1 by omega]at cc;with_reducible refine(F2.o.sub cc).mono ?_
 rintro e w3 ⟨v3,rfl,(F3:Hid _)⟩;clear cc;have cB3:=(F3.o.oT HB.o oB.1 oB.2).cell 0;simp at cB3;go_wp2_with fail
 with_reducible refine(iK F3.o B (n:=1) (cells:=#[.s ⟨#[41]⟩]) [[41]] rfl rfl (fun _=>by decide) (by decide) (by decide) HZ.o.2.2.2).mono ?_
 rintro e w4 ⟨v4,rfl,(F4:Hid _)⟩;go_wp2_with fail
 rw[HZ.o.2.2.1];exact bodyPost_ret (v:=.tuple #[]) (results_none rfl _ _ _) rfl F4.o.done
theorem Bf{g k:Nat}{w0 w w':World}{v0 v:Value}{own:bO}{st:I.Wr}{t:TypeId}{cells:Array Value}{ss:List I.Bs}{n:Nat}(F:Fw g w0 v0 own st v w)(_:Below w.heap.size w w')(hk:w'.heap[k]?=some (.cells cells t (0,0)))(hg:w.heap.size≤k)(hc:cells.toList=ss.map fun s=>Value.string (I.bs s))(hn:ss.length=n∧n≤1000):Rr MP w' (Po g v w') (.slice (some ⟨k,0,none⟩) n n) ss:=by
 obtain⟨hn,hm⟩:=hn;subst hn;have hl:=F.ws.blk.lt;refine⟨_,_,rfl,Nat.le_refl _,by omega,fun h0=>⟨k,0,rfl,⟨lt_of_block hk,by omega,fun e=>by have:=(F.ws.ob _ e).2;omega⟩,G2 hk,fun i x hi=>⟨[.s (I.bs x)],rfl,fun j u hu=>?_⟩⟩⟩;have hj:=(List.getElem?_eq_some_iff.1 hu).1;simp at hj;subst hj;simp at hu;subst hu;have h1:=cell_of_row w' k i cells t (0,0) hk;rw[show 0+i*MP.k+0=i by show 0+i*1+0=i;omega,h1,←Array.getElem?_toList,hc,List.getElem?_map,hi];rfl
theorem Fw.o0{g b:Nat}{w0 w:World}{v0 v:Value}{own:bO}{st:I.Wr}{t:TypeId}{cs:Array Value}(h:Fw g w0 v0 ((b,t,cs)::own) st v w):b≠g∧v.ownBlock≠some b:=by
 have h1:=h.own _ List.mem_cons_self;have h2:=h.lt;have h3:w0.heap.size≤b:=h1.1;exact⟨by omega,h1.2.2⟩
theorem Fw.o1{g b:Nat}{w0 w:World}{v0 v:Value}{own:bO}{p:Nat×TypeId×Array Value}{st:I.Wr}{t:TypeId}{cs:Array Value}(h:Fw g w0 v0 (p::(b,t,cs)::own) st v w):b≠g∧v.ownBlock≠some b:=by
 have h1:=h.own (b,t,cs) (by simp);have h2:=h.lt;have h3:w0.heap.size≤b:=h1.1;exact⟨by omega,h1.2.2⟩
theorem Fw.o2{g b:Nat}{w0 w:World}{v0 v:Value}{own:bO}{p q:Nat×TypeId×Array Value}{st:I.Wr}{t:TypeId}{cs:Array Value}(h:Fw g w0 v0 (p::q::(b,t,cs)::own) st v w):b≠g∧v.ownBlock≠some b:=by
 have h1:=h.own (b,t,cs) (by simp);have h2:=h.lt;have h3:w0.heap.size≤b:=h1.1;exact⟨by omega,h1.2.2⟩
theorem Fw.three{g:Nat}{w0 w w':World}{v0 v:Value}{own:bO}{st:I.Wr}(F:Fw g w0 v0 own st v w){t1 t2 t3:TypeId}{c1 c2 c3:Array Value}(hw:w'=((w.alloc (.cells c1 t1)).alloc (.cells c2 t2)).alloc (.cells c3 t3)):Fw g w0 v0 ((w.heap.size+1+1,t3,c3)::(w.heap.size+1,t2,c2)::(w.heap.size,t1,c1)::own) st v w':=by
 subst hw;have h1:=((F.new t1 c1).new t2 c2).new t3 c3;simp only[ay]at h1;exact h1
theorem Zu{x0:Ev.Ex}{l0:List I.Bs}(hP:I.Px x0 l0):Zr x0 l0:=by
 refine I.Px.rec (motive:=fun x l _=>Zr x l) ?lit ?Zq ?QU ?cnt ?bin hP;case' bin=>intro o a b l r h pa pb iha ihb
 case' cnt=>skip
 case' QU=>intro nm on h h2
 case' Zq=>intro nm h
 case' lit=>intro n h0 h1 hit
 all_goals
  intro hd ks A m c D g d v p w e hS MK hx hmc hc hdd hz
  have hm:=hx.len.1
  have hml:=hx.len.2
  have MO:decide ((24:Int)<(d:Int))=false:=decide_eq_false (by have h1:=I.ei (.mk hd ks);rw[←e]at h1;omega)
  have hk:((hd.o.toNat:Int)=1∧(m:Int)=0)∨((hd.o.toNat:Int)=2∧(m:Int)=0)∨((hd.o.toNat:Int)=17∧m=0∧(m:Int)=0)∨((hd.o.toNat:Int)=4∧(m:Int)=2)∨((hd.o.toNat:Int)=6∧(m:Int)=2)∨((hd.o.toNat:Int)=7∧(m:Int)=2):=by
   first
   |(cases e;exact .inl ⟨rfl,by rw[hm];rfl⟩)
   |(cases e;exact .inr (.inl ⟨rfl,by rw[hm];rfl⟩))
   |(cases e;exact .inr (.inr (.inl ⟨rfl,hm,by rw[hm];rfl⟩)))
   |(cases e;rcases h with rfl|rfl|rfl;exact .inr (.inr (.inr (.inl ⟨rfl,by rw[hm];rfl⟩)));exact .inr (.inr (.inr (.inr (.inl ⟨rfl,by rw[hm];rfl⟩))));exact .inr (.inr (.inr (.inr (.inr ⟨rfl,by rw[hm];rfl⟩)))))
  have HM:=aa hm
  have HK:=aa hk
  have NW:=aa MK
  have HX:=aa hx
  have HZ:=aa hz
  have HQ:=aa e
  have F0:=aa (Fw.start hS)
  have mm:((m:Int) !=(m:Int))=false:=by simp
  clear hS MK hx hk hz e hm
  unfold Xx
  go_enter Tryz.func164,Tryz.ntmps164
  go_upto_region 1 with fail
  refine MJ fun w1 hw=>?_
  have F1:=aa (F0.o.three hw)
  obtain⟨gD,Zv⟩:=aab (w.heap.size+1+1)
  obtain⟨gE,Uf⟩:=aab (w.heap.size+1)
  obtain⟨gB,hgB⟩:=aab w.heap.size
  rw[←Zv,←Uf,←hgB]at F1
  rw[←Zv,←Uf,←hgB]
  clear hw Zv Uf hgB F0
  refine jG (fun w'=>Fw g w v [(gD,3,#[.i (d:Int)]),(gE,50,#[.u (hd.o.toNat:Int),.u (hd.v.k.toNat:Int),.i hd.v.n,.s hd.v.s,.s hd.nm,.s hd.of,.i hd.n,.slice A m c]),(gB,92,#[.p g])] (Gw p) v w') 11 (by kernel_rfl) (by kernel_rfl) (F1.o.drew 1) ?_
  simp only[List.take_succ_cons,List.take_zero,List.drop_succ_cons,List.drop_zero]
  iterate 11 (first|(refine mL ?_ rfl (fun w' hS=>?_) ?_;rotate_left;(have Wp:=hS.aS.cell 0;have Zt:=hS.ab.cell 0;have e0:=hS.ah.cell 0;have e1:=hS.ah.cell 1;have e2:=hS.ah.cell 2;have e3:=hS.ah.cell 3;have e4:=hS.ah.cell 4;have e5:=hS.ah.cell 5;have e6:=hS.ah.cell 6;have e7:=hS.ah.cell 7;simp at Wp Zt e0 e1 e2 e3 e4 e5 e6 e7;first|(go_simp;rfl)|go_simp);go_frame)|(refine tm _ _ _ rfl (fun w' hS=>?_) (fun w' (hS:(fun w'=>Fw g w v [(gD,3,#[.i (d:Int)]),(gE,50,#[.u (hd.o.toNat:Int),.u (hd.v.k.toNat:Int),.i hd.v.n,.s hd.v.s,.s hd.nm,.s hd.of,.i hd.n,.slice A m c]),(gB,92,#[.p g])] (Gw p) v w') w')=>((Hz (hd.o.toNat:Int) (m:Int) (hd.v.k.toNat:Int) hd.v.n hd.n hd.v.s hd.nm hd.of A m c w' HK.o).mono fun e w2 hp=>⟨hp.1,hS.quiet hp.2⟩)) ?_;(first|(go_simp;rfl)|go_simp);go_frame))
  refine oO fun w2 hS=>?_
  have F2:=aa hS
  clear hS F1
  go_wp2_with fail
  with_reducible refine(nz F2.o).mono ?_
  rintro e w3 ⟨v3,rfl,(F3:Hid _)⟩
  clear F2
  have cB:=F3.o.aS.cell 0
  have cb:=F3.o.ws.blk.cell 2
  have cE:=F3.o.ah.cell 0
  simp at cB cb cE
  go_wp2_with fail
  with_reducible refine(vE hd.o _).mono ?_
  rintro e w4 ⟨rfl,hb4⟩
  have F4:=aa (F3.o.quiet hb4)
  clear hb4 F3 cB cb cE
  have cB:=F4.o.aS.cell 0
  simp at cB
  have e:=HQ.o
  clear HQ
  injection e with e1 e2
  subst e1 e2
 ·skip;have c0:w4.cell? ⟨gE,0,none⟩=some (.u 1):=F4.o.ah.cell 0;have c1:w4.cell? ⟨gE,1,none⟩=some (.u 2):=F4.o.ah.cell 1;have c2:w4.cell? ⟨gE,2,none⟩=some (.i n):=F4.o.ah.cell 2;have c3:w4.cell? ⟨gE,3,none⟩=some .e:=F4.o.ah.cell 3;have hgB:=F4.o.aS.lt;have Uf:=F4.o.ah.lt;go_upto_region 10 with fail
  refine bo (tab [(3,NT)]) (Up w4) w4.heap.size 5 (Pl [(3,NS (.s (I.bs (Lib.itoa n))))]) (dY _ _) (bf _) (Up.ek _) Na (Na.turns (Up.ek _) (bf _)) (by kernel_rfl) (by kernel_rfl) (Up.start _) (Nat.le_refl _) ?_;simp only[List.take_succ_cons,List.take_zero,List.drop_succ_cons,List.drop_zero];iterate 3 (refine aw ?_ rfl rfl (fun w' hS=>?_) ?_;rotate_left;(have Wp:=(hS.cell (p:=⟨gB,0,none⟩) hgB).trans cB;have c1':=(hS.cell (p:=⟨gE,1,none⟩) Uf).trans c1;have c2':=(hS.cell (p:=⟨gE,2,none⟩) Uf).trans c2;have c3':=(hS.cell (p:=⟨gE,3,none⟩) Uf).trans c3;go_simp;rfl);go_frame)
  refine' cq _ _ _ rfl rfl (fun w'=>?_) (fun w' hS hh hs=>?_) (fun v3 h3=>?_);rotate_left 2
  ·go_simp;constructor<;>rfl
  ·refine(vi n (by omega) (by omega) w' ((F4.o.sb NW.o) w' (fun b hb=>hS.block b (by have:=F4.o.ws.blk.lt;omega)))).mono ?_;rintro e w2 ⟨rfl,hb⟩;exact⟨_,rfl,⟨rfl,True.intro⟩,hb⟩
  obtain rfl:=h3;go_frame;refine ng (some (1,1)) (.cells #[.s (I.bs (Lib.itoa n))] 9) rfl rfl (fun w' hS=>?_) fun g4=>?_
  ·go_simp;rfl
  go_frame;refine cJ fun w5 hH=>?_
  have F5:=aa (F4.o.quiet hH.s);have HL:=aa (Bf (n:=1) (ss:=[Lib.itoa n]) F4.o hH.s (hH.lL 4 _ _ rfl).1 (hH.lL 4 _ _ rfl).2 rfl ⟨rfl,by decide⟩);clear hH c0 c1 c2 c3 cB;go_wp2_with fail
  simp only[dR];with_reducible refine(G0 F5.o [Lib.itoa n] HL.o (fun s hs=>by simp only[List.mem_cons,List.not_mem_nil,or_false]at hs;rw[hs];exact hit) HZ.o).mono ?_
  rintro e w6 ⟨v6,rfl,(F6:Hid _)⟩;go_wp2_with fail
  exact bodyPost_ret (v:=.tuple #[]) (results_none rfl _ _ _) rfl F6.o.done
 ·skip;have c0:w4.cell? ⟨gE,0,none⟩=some (.u 2):=F4.o.ah.cell 0;have c4:w4.cell? ⟨gE,4,none⟩=some (.s (I.bs nm)):=F4.o.ah.cell 4;have c5:w4.cell? ⟨gE,5,none⟩=some .e:=F4.o.ah.cell 5;go_wp2_with fail
  with_reducible refine(iK F4.o false (n:=2) (cells:=#[.e,.s ⟨#[46]⟩]) [[],[46]] rfl rfl (fun h=>by cases h) (by decide) (by decide) (by have:=I.cP p [nm];have:=HZ.o;simp only[Bool.false_eq_true,if_false,List.append_nil];omega)).mono ?_
  rintro e w5 ⟨v5,rfl,hF⟩;simp only[Bool.false_eq_true,if_false,List.append_nil]at hF;have F5:=aa hF;clear hF;have cB:=F5.o.aS.cell 0;have c4:w5.cell? ⟨gE,4,none⟩=some (.s (I.bs nm)):=F5.o.ah.cell 4;simp at cB;go_wp2_with fail
  with_reducible refine(kq F5.o (n:=1) (cells:=#[.s (I.bs nm)]) [nm] rfl rfl (kO h) HZ.o).mono ?_
  rintro e w6 ⟨v6,rfl,(F6:Hid _)⟩;go_wp2_with fail
  exact bodyPost_ret (v:=.tuple #[]) (results_none rfl _ _ _) rfl F6.o.done
 ·skip;have c0:w4.cell? ⟨gE,0,none⟩=some (.u 2):=F4.o.ah.cell 0;have c4:w4.cell? ⟨gE,4,none⟩=some (.s (I.bs nm)):=F4.o.ah.cell 4;have c5:w4.cell? ⟨gE,5,none⟩=some (.s (I.bs on)):=F4.o.ah.cell 5;have hte:(I.bs on).toList.isEmpty=false:=by rw[tL];exact decide_eq_false h2
  have hap:p++[on,[46],nm]=(p++[on,[46]])++[nm]:=by simp
  have HY:=aa (show lz (p++[on,[46]])≤4000∧lz ((p++[on,[46]])++[nm])≤4000 from by have h1:=HZ.o;rw[hap]at h1;have h2:=I.cP (p++[on,[46]]) [nm];exact⟨by omega,h1⟩);have Wq:=aa hap;clear hap;go_wp2_with fail
  with_reducible refine(iK F4.o true (n:=2) (cells:=#[.s (I.bs on),.s ⟨#[46]⟩]) [on,[46]] rfl rfl (fun _ s hs=>by simp only[List.mem_cons,List.not_mem_nil,or_false]at hs;rcases hs with rfl|rfl;exact h2;decide) (by decide) (by have:=HY.o.1;rw[I.cP]at this;omega) (by rw[if_pos rfl];exact HY.o.1)).mono ?_
  rintro e w5 ⟨v5,rfl,hF⟩;simp only[if_true]at hF;have F5:=aa hF;clear hF;have cB:=F5.o.aS.cell 0;have c4:w5.cell? ⟨gE,4,none⟩=some (.s (I.bs nm)):=F5.o.ah.cell 4;simp at cB;go_wp2_with fail
  with_reducible refine(kq F5.o (n:=1) (cells:=#[.s (I.bs nm)]) [nm] rfl rfl (kO h) HY.o.2).mono ?_
  rintro e w6 ⟨v6,rfl,(F6:Hid _)⟩;go_wp2_with fail
  rw[Wq.o];exact bodyPost_ret (v:=.tuple #[]) (results_none rfl _ _ _) rfl F6.o.done
 ·skip;have c0:w4.cell? ⟨gE,0,none⟩=some (.u 17):=F4.o.ah.cell 0;obtain rfl:m=0:=HM.o;have c7:w4.cell? ⟨gE,7,none⟩=some (.slice A 0 c):=F4.o.ah.cell 7;have hT:I.bs (I.en (I.hd 17).o)=⟨#[99,111,117,110,116]⟩:=rfl;have hap:p++[[99,111,117,110,116],[40],[42],[41]]=((p++[[99,111,117,110,116],[40]])++[[42]])++[[41]]:=by simp
  have HY:=aa (show lz (p++[[99,111,117,110,116],[40]])≤4000∧lz ((p++[[99,111,117,110,116],[40]])++[[42]])≤4000∧lz (((p++[[99,111,117,110,116],[40]])++[[42]])++[[41]])≤4000 from by have h1:=HZ.o;rw[hap]at h1;have h2:=I.cP ((p++[[99,111,117,110,116],[40]])++[[42]]) [[41]];have h3:=I.cP (p++[[99,111,117,110,116],[40]]) [[42]];exact⟨by omega,by omega,h1⟩);have Wq:=aa hap;rw[hT];clear hap hT;go_wp2_with fail
  with_reducible refine(kq F4.o (n:=2) (cells:=#[.s ⟨#[99,111,117,110,116]⟩,.s ⟨#[40]⟩]) [[99,111,117,110,116],[40]] rfl rfl (by decide) HY.o.1).mono ?_
  rintro e w5 ⟨v5,rfl,(F5:Hid _)⟩;have cB:=F5.o.aS.cell 0;have c7:w5.cell? ⟨gE,7,none⟩=some (.slice A 0 c):=F5.o.ah.cell 7;simp at cB;go_wp2_with fail
  with_reducible refine(kq F5.o (n:=1) (cells:=#[.s ⟨#[42]⟩]) [[42]] rfl rfl (by decide) HY.o.2.1).mono ?_
  rintro e w6 ⟨v6,rfl,(F6:Hid _)⟩;have cB:=F6.o.aS.cell 0;simp at cB;go_wp2_with fail
  with_reducible refine(kq F6.o (n:=1) (cells:=#[.s ⟨#[41]⟩]) [[41]] rfl rfl (by decide) HY.o.2.2).mono ?_
  rintro e w7 ⟨v7,rfl,(F7:Hid _)⟩;go_wp2_with fail
  rw[Wq.o];exact bodyPost_ret (v:=.tuple #[]) (results_none rfl _ _ _) rfl F7.o.done
 ·skip;have NI:d+1+I.depth a≤25∧d+1+I.depth b≤25:=by simp only[I.depth,I.bj]at hdd;omega
  have hap:p++(I.kl a l++[I.en o]++I.kl b r)=((p++I.kl a l)++[I.en o])++I.kl b r:=by simp
  have HY:=aa (show lz (p++I.kl a l)≤4000∧lz ((p++I.kl a l)++[I.en o])≤4000∧lz (((p++I.kl a l)++[I.en o])++I.kl b r)≤4000 from by have h1:=HZ.o;rw[hap]at h1;have h2:=I.cP ((p++I.kl a l)++[I.en o]) (I.kl b r);have h3:=I.cP (p++I.kl a l) [I.en o];exact⟨by omega,by omega,h1⟩);have Wq:=aa hap;clear hap hdd;rcases h with rfl|rfl|rfl
  all_goals
   have c0:=F4.o.ah.cell 0
   simp[I.hd]at c0
   go_wp2_with fail
   with_reducible refine(F4.o.sub (Hf iha (I.hd _) rfl A m c [a,b] 0 0 rfl rfl D g d gE gB gD _ _ _ F4.o.ws (F4.o.sb NW.o) (F4.o.XE HX.o) NI.1 HY.o.1 F4.o.ah F4.o.aS F4.o.ab F4.o.o1 F4.o.o2 F4.o.o0)).mono ?_
   rintro e w5 ⟨v5,rfl,(F5:Hid _)⟩
   have cB:=F5.o.aS.cell 0
   simp at cB
   go_wp2_with fail
   with_reducible refine(kq F5.o (n:=1) (cells:=#[.s (I.bs (I.en _))]) [I.en _] rfl rfl (by decide) HY.o.2.1).mono ?_
   rintro e w6 ⟨v6,rfl,(F6:Hid _)⟩
   go_wp2_with fail
   with_reducible refine(F6.o.sub (Hf ihb (I.hd _) rfl A m c [a,b] 1 1 rfl rfl D g d gE gB gD _ _ _ F6.o.ws (F6.o.sb NW.o) (F6.o.XE HX.o) NI.2 HY.o.2.2 F6.o.ah F6.o.aS F6.o.ab F6.o.o1 F6.o.o2 F6.o.o0)).mono ?_
   rintro e w7 ⟨v7,rfl,(F7:Hid _)⟩
   go_wp2_with fail
   rw[Wq.o]
   exact bodyPost_ret (v:=.tuple #[]) (results_none rfl _ _ _) rfl F7.o.done
end
section
set_option maxRecDepth 100000
open I (Gw lz)
theorem rangeAt.rt{w:World}{g o:Nat}{l r:List Value}(h:w.rangeAt g o (l++r)){n:Nat}(hn:n=l.length):w.rangeAt g (o+n) r:=fun j v hv=>by
 have:=h (l.length+j) v (by rw[List.getElem?_append_right (by omega),Nat.add_sub_cancel_left];exact hv)
 rw[hn,Nat.add_assoc]
 exact this
theorem rangeAt.lf{w:World}{g o:Nat}{l r:List Value}(h:w.rangeAt g o (l++r)):w.rangeAt g o l:=fun j v hv=>h j v (by rw[List.getElem?_append_left (List.getElem?_eq_some_iff.1 hv).1];exact hv)
theorem Rr.uT{α:Type}{E:El α}{w:World}{P:Nat→Prop}{v:Value}{xs:List α}{i:Nat}(h:Rr E w P v xs)(hi:i<xs.length):∃g off c x cs,v=.slice (some ⟨g,off,none⟩) xs.length c∧xs.length≤c∧c≤9223372036854775807∧P g∧xs[i]?=some x∧E.R w P cs x∧cs.length=E.k∧w.rangeAt g (off+i*E.k) cs:=by
 obtain⟨A,c,rfl,h1,h2,h3⟩:=h;obtain⟨g,off,rfl,hg,_,hc⟩:=h3 (by omega);obtain⟨cs,hr,hcell⟩:=hc i xs[i] (List.getElem?_eq_getElem hi);exact⟨g,off,c,xs[i],cs,rfl,h1,h2,hg,List.getElem?_eq_getElem hi,hr,E.len hr,fun j u hu=>hcell j u hu⟩
section
variable{g:Nat}{w0 w w':World}{v0 v v':Value}{own own':bO}{st st':I.Wr}
theorem Fw.II{t:TypeId}{cs:Array Value}(F:Fw g w0 v0 own st v w)(hb:Below w.heap.size w w')(hB:Kn w' w.heap.size t cs):Fw g w0 v0 ((w.heap.size,t,cs)::own) st v w':=by
 have h2:=F.quiet hb;refine⟨h2.lt,h2.ws,h2.ch,h2.bk,fun p hp=>?_,h2.ob⟩;rcases List.mem_cons.1 hp with rfl|hp
 ·refine⟨F.ch.size,hB,fun e=>?_⟩;have:=(F.ws.ob _ e).2;exact Nat.lt_irrefl _ this
 ·exact h2.own p hp
theorem Fw.drop(F:Fw g w0 v0 own st v w):Fw g w0 v0 [] st v w:=⟨F.lt,F.ws,F.ch,F.bk,fun p hp=>by simp at hp,F.ob⟩
theorem Kj{α:Type}{E:El α}{cs:List Value}{x:α}(F:Fw g w0 v0 own st v w)(F':Fw g w0 v0 own' st' v' w')(h:E.R w (fun b=>b<g) cs x):E.R w' (fun b=>b<g) cs x:=El.hp h (fun _ h=>h) fun _ hb=>(F'.low hb).trans (F.low hb).symm
theorem JL{b:Nat}(F:Fw g w0 v0 own st v w)(h:b≠g∧v0.ownBlock≠some b)(hb:b<w0.heap.size):b≠g∧v.ownBlock≠some b:=by
 refine⟨h.1,fun e=>?_⟩;rcases F.bk with h2|h2
 ·exact h.2 (h2.symm.trans e)
 ·have:=h2 b e;omega
end
namespace I
def jr(ls:List (List Bs)):Nat→List Bs
 |0=>[]
 |k+1=>jr ls k++(if decide (0<k)=true then [[44]]else [])++ls.getD k []
end I
section
variable{g:Nat}{v:Value}{p:List I.Bs}{w:World}
theorem C0{cs:List Value}{x:Ev.Ex}{l:List I.Bs}(hS:WS g w v (Gw p))(MK:Sb g MT w)(hx:Kr.R w (fun b=>b<g) cs x)(hp:I.Px x l)(hdp:I.depth x≤20)(hz:lz (p++l)≤4000):
 Calls Tryz.prog 89 #[.p g,.agg cs.toArray] w (fu g w v (Gw (p++l))):=by
 have F0:=aa (Fw.start hS);have NW:=aa MK;have IX:=aa (show(Tryz.prog.info? 50).map (·.size)=some cs.length by rw[Kr.len hx];exact cV);obtain⟨hd,A,m,c,ks,D,hcs,rfl,h1,h2,h3,h4⟩:=hx;have HX:=aa h4;have HC:=aa hcs;have HP:=aa hp;have HZ:=aa hz;clear h3 h4 hS MK hcs hp hz;go_enter Tryz.func89,Tryz.ntmps89;go_upto_region 1 with fail
 refine MJ fun w1 hw=>?_
 have F1:Hid (Fw g w v [(w.heap.size,50,cs.toArray)] (Gw p) v w1):=by rw[hw];exact F0.o.new _ _
 clear hw F0;have RB:=F1.o.ab.range;rw[List.toList_toArray]at RB;have Zw:=aa RB;clear RB;go_wp2_with (refine aU rfl rfl rfl Zw.o (by kernel_rfl) IX.o ?_)
 have cc:=Zu HP.o hd ks A m c D g 1 v p w1 rfl F1.o.ws (F1.o.sb NW.o) (F1.o.XE HX.o) h1 h2 (by omega) HZ.o;rw[show Xx hd A m c=.agg cs.toArray by rw[HC.o];rfl,show((1:Nat):Int)=1 from rfl]at cc;with_reducible refine(F1.o.sub cc).mono ?_
 rintro e w2 ⟨v2,rfl,(F2:Hid _)⟩;clear cc;go_wp2_with fail
 exact bodyPost_ret (v:=.tuple #[]) (results_none rfl _ _ _) rfl F2.o.done
theorem CA{A A2:Option Addr}{c n2 c2:Nat}(hS:WS g w v (Gw p)):Calls Tryz.prog 90 #[.p g,.slice A 0 c,.slice A2 n2 c2] w (fu g w v (Gw p)):=by
 have F0:=aa (Fw.start hS);clear hS;go_enter Tryz.func90,Tryz.ntmps90;go_wp2_with fail
 exact bodyPost_ret (v:=.tuple #[]) (results_none rfl _ _ _) rfl F0.o.done
theorem EM{u u2:Value}{x:Ev.Ex}{l ss:List I.Bs}(hS:WS g w v (Gw p))(MK:Sb g MT w)(hl:Rr Kr w (fun b=>b<g) u [x])(hp:I.Px x l)(hdp:I.depth x≤20)(hw:Rr MP w (Po g v w) u2 ss)(h0:∀s∈ss,s≠[])(hz:lz ((p++ss)++l)≤4000):
 Calls Tryz.prog 90 #[.p g,u,u2] w (fu g w v (Gw ((p++ss)++l))):=by
 have F0:=aa (Fw.start hS);have NW:=aa MK;have HL:=aa hl;have HW:=aa hw;have HP:=aa hp;have HZ:=aa hz;have hz1:=aa (show lz (p++ss)≤4000 by have:=I.cP (p++ss) l;omega);obtain⟨A,c,rfl,hc1,hc2⟩:=hl.form;obtain⟨A2,c2,rfl,hd1,hd2⟩:=hw.form;clear hS MK hl hw hp hz;go_enter Tryz.func90,Tryz.ntmps90;go_wp2_with fail
 with_reducible refine(G0 F0.o ss HW.o h0 hz1.o).mono ?_
 rintro e w1 ⟨v1,rfl,(F1:Hid _)⟩;have Ox:=aa (F1.o.rr HL.o);obtain⟨gk,off,y,cs,rfl,hg,hy,hr,hcell⟩:=Ox.o.at (i:=0) (by simp);have hy:some x=some y:=hy;injection hy with hy
 subst hy;have HR:=aa hr;have hra:w1.rangeAt gk (off+0*8) cs:=fun j u hu=>hcell j u hu
 rw[Nat.zero_mul,Nat.add_zero]at hra;have MZ:=aa hra;have IX:=aa (show(Tryz.prog.info? 50).map (·.size)=some cs.length by rw[Kr.len hr];exact cV);clear hg hr hcell hra;go_wp2_with (refine wpList_load_mid rfl 50 (.tmp 14) rfl gk off rfl cs _ MZ.o hJ rfl IX.o ?_)
 with_reducible refine(F1.o.sub (C0 F1.o.ws (F1.o.sb NW.o) HR.o HP.o hdp HZ.o)).mono ?_
 rintro e w2 ⟨v2,rfl,(F2:Hid _)⟩;go_wp2_with fail
 exact bodyPost_ret (v:=.tuple #[]) (results_none rfl _ _ _) rfl F2.o.done
theorem IG{gB:Nat}{cs:List Value}{x:I.LL}{l:List I.Bs}(hS:WS g w v (Gw p))(MK:Sb g MT w)(hx:cS.R w (fun b=>b<g) cs x)(hn:x.nm=[])(hp:I.Px x.x l)(hdp:I.depth x.x≤20)(hz:lz (p++l)≤4000)(bB:Kn w gB 92 #[.p g])(oB:gB≠g∧v.ownBlock≠some gB):
 Calls Tryz.prog 166 #[.agg cs.toArray,.p gB] w (fu g w v (Gw (p++l))):=by
 have F0:=aa (Fw.start hS);have NW:=aa MK;have HB:=aa bB;have HP:=aa hp;have HZ:=aa hz;obtain⟨ce,hcs,hxe,hsz⟩:=hx;rw[hn]at hcs;have IX:=aa (show(Tryz.prog.info? 50).map (·.size)=some ce.length by rw[Kr.len hxe];exact cV);have lE:=Kr.len hxe;have HR:Hid (Kr.R w (fun b=>b<g) ce x.x):=hxe;subst hcs;clear hS MK bB hp hz hxe hsz;go_enter Tryz.func166,Tryz.ntmps166;go_upto_region 1 with fail
 refine MJ fun w1 hw=>?_
 have F1:Hid (Fw g w v [(w.heap.size,130,(ce++[Value.string (I.bs [])]).toArray)] (Gw p) v w1):=by rw[hw];exact F0.o.new _ _
 clear hw F0;have RB:=F1.o.ab.range;rw[List.toList_toArray]at RB;have Zw:=aa (rangeAt.lf RB);have r8:w1.cell? ⟨w.heap.size,8,none⟩=some .e:=(rangeAt.rt RB (n:=8) lE.symm) 0 _ rfl;clear RB;have cB:=(F1.o.oT HB.o oB.1 oB.2).cell 0;simp at cB;go_wp2_with (refine aU rfl rfl rfl Zw.o (by kernel_rfl) IX.o ?_)
 with_reducible refine(F1.o.sub (C0 F1.o.ws (F1.o.sb NW.o) (Fw.el (E:=Kr) (cs:=ce) (x:=x.x) F1.o HR.o) HP.o hdp HZ.o)).mono ?_
 rintro e w2 ⟨v2,rfl,(F2:Hid _)⟩;clear cB r8;have RB:=F2.o.ab.range;rw[List.toList_toArray]at RB;have r8:w2.cell? ⟨w.heap.size,8,none⟩=some .e:=(rangeAt.rt RB (n:=8) lE.symm) 0 _ rfl;clear RB;have cB:=(F2.o.oT HB.o oB.1 oB.2).cell 0;simp at cB;go_wp2_with fail
 with_reducible refine(iK F2.o false (n:=2) (cells:=#[.s ⟨#[97,115]⟩,.e]) [[97,115],[]] rfl rfl (fun h=>by cases h) (by decide) (by decide) (by simp only[Bool.false_eq_true,if_false,List.append_nil];exact HZ.o)).mono ?_
 rintro e w3 ⟨v3,rfl,hF⟩;simp only[Bool.false_eq_true,if_false,List.append_nil]at hF;have F3:=aa hF;clear hF;go_wp2_with fail
 exact bodyPost_ret (v:=.tuple #[]) (results_none rfl _ _ _) rfl F3.o.done
theorem Iz{gB:Nat}{u:Value}{xs:List I.LL}{ls:List (List I.Bs)}(hS:WS g w v (Gw p))(MK:Sb g MT w)(hl:Rr cS w (fun b=>b<g) u xs)(hp:∀(i:Nat) (x:I.LL),xs[i]?=some x→x.nm=[]∧I.Px x.x (ls.getD i [])∧I.depth x.x≤20)(h1:0<xs.length)(hz:∀k,k≤xs.length→lz (p++I.jr ls k)≤3900)(bB:Kn w gB 92 #[.p g])(oB:gB≠g∧v.ownBlock≠some gB):
 Calls Tryz.prog 165 #[.p g,u,.func (.func 166) #[] #[.p gB]] w (fu g w v (Gw (p++I.jr ls xs.length))):=by
 have F0:=aa (Fw.start hS);have NW:=aa MK;have HL:=aa hl;have HP:=aa hp;have HZ:=aa hz;have HB:=aa bB;obtain⟨A,c,rfl,hc1,hc2⟩:=hl.form;obtain⟨n,hn⟩:=aab xs.length;rw[←hn]at hc1 h1⊢;have HN:=aa hn;clear hS MK hl hp hz hn bB;go_enter Tryz.func165,Tryz.ntmps165;go_wp2_with fail
 go_loopg [10] n (fun gg i wr=>∃(k:Nat) (v1:Value),k≤n∧gg=n-k∧i=.i (k:Nat)∧Hid (Fw g w v [] (Gw (p++I.jr ls k)) v1 wr));case atStart=>exact⟨0,v,Nat.zero_le _,rfl,rfl,by rw[I.jr,List.append_nil];exact F0⟩
 case round=>
  obtain⟨k,v1,hk,rfl,rfl,F1⟩:=hrel;obtain⟨w1,hw1⟩:=aab wr;subst hw1;obtain⟨pk,hpk⟩:=aab (p++I.jr ls k);have HPk:=aa hpk;rw[←hpk]at F1;clear hpk;by_cases hlt:k<n
  ·have Ws:=aa (F1.o.rr HL.o);obtain⟨gk,off,c2,x,cs,hv,q3,q4,hg,hi,hr,hcl,hra⟩:=Ws.o.uT (i:=k) (by rw[←HN.o];exact hlt);injection hv with e1 e2 e3
   subst e1 e3;clear e2 q3 q4;have q1:(k:Int)<(n:Int):=by omega
   have q0:(0:Int)≤(k:Int):=by omega
   have HX:=aa (HP.o k x hi);have HR:=aa hr;have MZ:=aa hra;have OE:=aa hcl;have XO:=aa (show lz (pk++if decide (0<k)=true then [[44]]else [])≤4000∧lz ((pk++if decide (0<k)=true then [[44]]else [])++ls.getD k [])≤4000∧(pk++if decide (0<k)=true then [[44]]else [])++ls.getD k []=p++I.jr ls (k+1)from by
    have e:(pk++if decide (0<k)=true then [[44]]else [])++ls.getD k []=p++I.jr ls (k+1):=by rw[HPk.o,I.jr];simp only[List.append_assoc]
    have h1:=HZ.o (k+1) (by rw[←HN.o];omega)
    have h2:=I.cP (pk++if decide (0<k)=true then [[44]]else []) (ls.getD k [])
    rw[←e]at h1
    exact⟨by omega,by omega,e⟩)
   clear hi hg hr hra hcl Ws;have OX:=aa (all_oneCell_toArray (El.one _ HR.o));have cb1:w1.cell? ⟨g,2,none⟩=some .f:=by have:=F1.o.ws.blk.cell 2;simpa using this
   go_upto_region 3 with(first|refine aU rfl rfl rfl MZ.o (by kernel_rfl) (by rw[OE.o];kernel_rfl) ?_|refine wpList_store_mid rfl _ _ _ rfl _ 0 cs.toArray rfl rfl ((Kn.new _ _ _).there (n:=cs.toArray.size) (by simp[OE.o];rfl)) (by rw[List.size_toArray,OE.o];kernel_rfl) OX.o ?_)
   refine MJ fun w2 hw2=>?_
   obtain⟨BX,HB2⟩:=made hw2 (by rw[OE.o];rfl);have F2:=aa (F1.o.II HB2.o BX.o);obtain⟨gx,hgx⟩:=aab w1.heap.size;have cb:=F2.o.ws.blk.cell 2;simp at cb;rw[←hgx]at F2⊢;clear hw2 BX hgx OX HB2;go_wp2_with fail
   with_reducible refine(iK F2.o (decide (0<k)) (n:=1) (cells:=#[.s ⟨#[44]⟩]) [[44]] rfl rfl (fun _=>by decide) (by decide) (by decide) XO.o.1).mono ?_
   rintro e w4 ⟨v4,rfl,(F4:Hid _)⟩;clear cb;obtain⟨p1,hp1⟩:∃x,x=pk++if decide (0<k)=true then [[44]]else []:=⟨_,rfl⟩
   rw[←hp1]at F4 XO;clear hp1;have hrg:=F4.o.ab.range;rw[List.toList_toArray]at hrg;have RX:=aa hrg;clear hrg;have HR4:=aa (Kj F1.o F4.o HR.o);have ND:=aa (F4.o.oT HB.o oB.1 oB.2);have OB4:=aa (JL F4.o oB HB.o.lt);go_wp2_with (refine aU rfl rfl rfl RX.o (by kernel_rfl) (by rw[OE.o];kernel_rfl) ?_)
   with_reducible refine(F4.o.sub (IG F4.o.ws (F4.o.sb NW.o) HR4.o HX.o.1 HX.o.2.1 HX.o.2.2 XO.o.2.1 ND.o OB4.o)).mono ?_
   rintro e w5 ⟨v5,rfl,hF⟩;rw[XO.o.2.2]at hF;have F5:=aa hF.drop;clear hF;go_wp2_with fail
   go_roundg (n-(k+1));case measure=>omega
   case rel=>exact⟨k+1,v5,by omega,rfl,by go_num,F5⟩
  ·have hkn:k=n:=by omega
   have t7:((n:Int)==0)=false:=beq_eq_false_iff_ne.2 (by omega);have HE:Hid (pk=p++I.jr ls n):=by rw[←hkn];exact HPk
   clear hkn;go_wp2_with fail
   with_reducible refine(nz F1.o).mono ?_
   rintro e w5 ⟨v5,rfl,(F5:Hid _)⟩;go_wp2_with fail
   rw[←HE.o];exact bodyPost_ret (v:=.tuple #[]) (results_none rfl _ _ _) rfl F5.o.done
end
end
section
set_option maxRecDepth 100000
open I (Gw lz)
theorem Fw.J3{g:Nat}{w0 w:World}{v0 v:Value}{own:bO}{p:Nat×TypeId×Array Value}{st:I.Wr}(F:Fw g w0 v0 (p::own) st v w):Fw g w0 v0 own st v w:=⟨F.lt,F.ws,F.ch,F.bk,fun q hq=>F.own q (List.mem_cons_of_mem _ hq),F.ob⟩
theorem Jt(n:Int)(h0: -9223372036854775808≤n)(h1:n≤9223372036854775807)(w:World)(hE:MT w):Calls Tryz.prog 169 #[.i n] w fun e w'=>e=.returned (.s (I.bs (Go.Lib.itoa n)))∧Below w.heap.size w w':=
 (Tryz.strconv_Itoa n h0 h1 w hE).mono fun _ _ ⟨e,k,os,h⟩=>⟨e,by rw[h];exact Lib.below_grow _ w (Nat.le_refl _) k os⟩
theorem lS{g:Nat}{v:Value}{st:I.Wr}{w:World}{A:Option Addr}{n c:Nat}(hS:WS g w v st):Calls Tryz.prog 84 #[.p g,.f,.slice A n c] w (fu g w v st):=by
 have F0:=aa (Fw.start hS);clear hS;go_enter Tryz.func84,Tryz.ntmps84;go_wp2_with fail
 exact bodyPost_ret (v:=.tuple #[]) (results_none rfl _ _ _) rfl F0.o.done
namespace I
def qp(p:List Bs)(ls:List (List Bs))(n:Nat)(nm:Bs)(le:List Bs):List Bs:=(((((p++[[115,101,108,101,99,116]])++jr ls n)++[[102,114,111,109]])++[nm])++[[119,104,101,114,101]])++le
end I
theorem Ez{g:Nat}{v:Value}{p:List I.Bs}{w:World}{u:Value}{its:List I.LL}{ls:List (List I.Bs)}{nm:I.Bs}{x:Ev.Ex}{le:List I.Bs}(hS:WS g w v (Gw p))(MK:Sb g MT w)(hl:Rr eB w (fun b=>b<g) u [⟨false,its,[⟨nm,[],[]⟩],[x],[],[],-1⟩])
 (hp:∀(i:Nat) (x:I.LL),its[i]?=some x→x.nm=[]∧I.Px x.x (ls.getD i [])∧I.depth x.x≤20) (h1:0<its.length) (hz0:∀k,k≤its.length→lz ((p++[[115,101,108,101,99,116]])++I.jr ls k)≤3900) (hnm:nm≠[]) (hx:I.Px x le) (hdp:I.depth x≤20) (hz:lz (I.qp p ls its.length nm le)≤3900):
 Calls Tryz.prog 91 #[.p g,u] w (fu g w v (Gw (I.qp p ls its.length nm le))):=by
 have F0:=aa (Fw.start hS);have NW:=aa MK;have HL:=aa hl;have HP:=aa hp;have HX:=aa hx;have HZ0:=aa hz0;obtain⟨p1,hp1⟩:=aab (p++[[115,101,108,101,99,116]]);obtain⟨p2,hp2⟩:=aab (p1++I.jr ls its.length);obtain⟨p3,hp3⟩:=aab (p2++[[102,114,111,109]]);obtain⟨p4,OV⟩:=aab (p3++[nm]);have HQ:Hid (I.qp p ls its.length nm le=(p4++[[119,104,101,114,101]])++le):=by show _=_;rw[OV,hp3,hp2,hp1];rfl
 have HZ:Hid (lz p1≤3900∧lz p2≤3900∧lz p3≤3900∧lz p4≤3900∧lz ((p4++[[119,104,101,114,101]])++le)≤3900):=by show _∧_;rw[HQ.o]at hz;have e1:=I.cP (p4++[[119,104,101,114,101]]) le;have e2:=I.cP p4 [[119,104,101,114,101]];have e3:=I.cP p3 [nm];have e4:=I.cP p2 [[102,114,111,109]];have e5:=I.cP p1 (I.jr ls its.length);rw[←OV]at e3;rw[←hp3]at e4;rw[←hp2]at e5;exact⟨by omega,by omega,by omega,by omega,hz⟩
 rw[←hp1]at HZ0;have P1:=aa hp1;have P2:=aa hp2;have P3:=aa hp3;have P4:=aa OV;obtain⟨A,c,rfl,hc1,hc2⟩:=hl.form;clear hS MK hl hp hx hz hz0 hp1 hp2 hp3 OV;go_enter Tryz.func91,Tryz.ntmps91;go_upto_region 1 with fail
 refine MJ fun w1 hw=>?_
 have F1:Hid (Fw g w v [(w.heap.size,92,#[.p g])] (Gw p) v w1):=by rw[hw];exact F0.o.new _ _
 obtain⟨gB,hgB⟩:=aab w.heap.size;rw[←hgB]at F1⊢;clear hw hgB F0;have cB:=F1.o.ab.cell 0;simp at cB;go_wp2_with fail
 with_reducible refine(nz F1.o).mono ?_
 rintro e w2 ⟨v2,rfl,(F2:Hid _)⟩;clear F1 cB;have cB:=F2.o.ab.cell 0;have cb:=F2.o.ws.blk.cell 2;simp at cB cb;have HL2:=aa (F2.o.rr HL.o);obtain⟨gk,off,c9,q,cs,hv,q3,q4,hg,hi,hr,hcl,hra⟩:=HL2.o.uT (i:=0) (by simp);have hi:some _=some q:=hi;injection hi with hi
 injection hv with e1 e2 e3
 subst e1 e3 hi;clear e2 q3 q4;rw[Nat.zero_mul,Nat.add_zero]at hra;have OX:=aa (all_oneCell_toArray (eB.one hr));obtain⟨x1,x2,x3,x4,x5,hcs,r1,r2,r3,r4,r5,hl0,hl1⟩:=hr;obtain⟨A1,c1,rfl,_,_⟩:=r1.form;obtain⟨A2,c2,rfl,p2',p2''⟩:=r2.form;obtain⟨A3,c3,rfl,_,_⟩:=r3.form;obtain⟨A4,c4,rfl,_,_⟩:=r4.form;obtain⟨A5,c5,rfl,_,_⟩:=r5.form;have HR1:=aa (Rr.hp r1 (P':=fun b=>b<g) (w':=w) (fun _ h=>h) fun _ hb=>(F2.o.low hb).symm);have HR2:=aa (Rr.hp r2 (P':=fun b=>b<g) (w':=w) (fun _ h=>h) fun _ hb=>(F2.o.low hb).symm);have HR3:=aa (Rr.hp r3 (P':=fun b=>b<g) (w':=w) (fun _ h=>h) fun _ hb=>(F2.o.low hb).symm);have MZ:=aa hra;have OE:=aa hcl;have Sq:=aa hcs;clear r1 r2 r3 r4 r5 hra hg hcl HL2 hcs;go_upto_region 4 with(first|refine aU rfl rfl rfl MZ.o (by kernel_rfl) (by rw[OE.o];kernel_rfl) ?_|refine wpList_store_mid rfl _ _ _ rfl _ 0 cs.toArray rfl rfl ((Kn.new _ _ _).there (n:=cs.toArray.size) (by simp[OE.o];rfl)) (by rw[List.size_toArray,OE.o];kernel_rfl) OX.o ?_)
 refine MJ fun w3 hw=>?_
 obtain⟨BX,HB3⟩:=made hw (by rw[OE.o];rfl);have F3:=aa (F2.o.II HB3.o BX.o);obtain⟨gQ,XP⟩:=aab w2.heap.size;rw[←XP]at F3⊢;rw[Sq.o]at F3;clear hw BX XP OX HB3 MZ F2 cB cb OE Sq;have cB:=F3.o.ah.cell 0;simp at cB;go_wp2_with fail
 with_reducible refine(kq F3.o (n:=1) (cells:=#[.s ⟨#[115,101,108,101,99,116]⟩]) [[115,101,108,101,99,116]] rfl rfl (by decide) (by rw[←P1.o];have:=HZ.o.1;omega)).mono ?_
 rintro e w4 ⟨v4,rfl,hF⟩;rw[←P1.o]at hF;have F4:=aa hF;clear hF cB F3;have cB:=F4.o.ah.cell 0;have Ks:=F4.o.ab.Y2;simp at cB Ks;go_wp2_with fail
 with_reducible refine(F4.o.sub (Iz F4.o.ws (F4.o.sb NW.o) (F4.o.rr HR1.o) HP.o h1 HZ0.o F4.o.ah F4.o.o1)).mono ?_
 rintro e w5 ⟨v5,rfl,hF⟩;rw[←P2.o]at hF;have F5:=aa hF;clear hF cB Ks F4;have cB:=F5.o.ah.cell 0;simp at cB;go_wp2_with fail
 with_reducible refine(kq F5.o (n:=1) (cells:=#[.s ⟨#[102,114,111,109]⟩]) [[102,114,111,109]] rfl rfl (by decide) (by rw[←P3.o];have:=HZ.o.2.2.1;omega)).mono ?_
 rintro e w6 ⟨v6,rfl,hF⟩;rw[←P3.o]at hF;have F6:=aa hF;clear hF cB F5;have cB:=F6.o.ah.cell 0;have q2:=F6.o.ab.cell 2;simp at cB q2;go_wp2_with fail
 with_reducible refine(nz F6.o).mono ?_
 rintro e w7 ⟨v7,rfl,(F7:Hid _)⟩;clear cB q2 F6;have cB:=F7.o.ah.cell 0;have q2:=F7.o.ab.cell 2;simp at cB q2;go_wp2_with fail
 go_loopg [44] 1 (fun gg i wr=>∃(k:Nat) (vk:Value) (pk:List I.Bs),gg=1-k∧i=.i (k:Nat)∧(k=0∧pk=p3∨k=1∧pk=p4)∧Hid (Fw g w v [(gQ,45,([.f,.slice A1 its.length c1,.slice A2 1 c2,.slice A3 1 c3,.slice A4 0 c4,.slice A5 0 c5,.i (-1)]:List Value).toArray),(gB,92,#[.p g])] (Gw pk) vk wr));case atStart=>exact⟨0,v7,p3,rfl,rfl,.inl ⟨rfl,rfl⟩,F7⟩
 case round=>
  obtain⟨k,vk,pk,rfl,rfl,hk,F8⟩:=hrel;obtain⟨w8,hw8⟩:=aab wr;subst hw8;clear F7 cB q2;have cB:=F8.o.ah.cell 0;simp at cB;rcases hk with⟨rfl,rfl⟩|⟨rfl,rfl⟩
  ·have Ws:=aa (F8.o.rr HR2.o);obtain⟨gk,off,c9,y,cs,hv,q3,q4,hg,hi,hr,hcl,hra⟩:=Ws.o.uT (i:=0) (by simp);have hi:some _=some y:=hi;injection hi with hi
   injection hv with e1 e2 e3
   subst e1 e3 hi;clear e2 q3 q4;have MZ:=aa hra;have OE:=aa hcl;have OX:=aa (all_oneCell_toArray (bV.one hr));obtain⟨vo,hcs,hro,_,_⟩:=hr;obtain⟨Ao,co,rfl,_,_⟩:=hro.form;have Sq:=aa hcs;clear hi hg hra hcl Ws hro hcs;go_upto_region 13 with(first|refine aU rfl rfl rfl MZ.o (by kernel_rfl) (by rw[OE.o];kernel_rfl) ?_|refine wpList_store_mid rfl _ _ _ rfl _ 0 cs.toArray rfl rfl ((Kn.new _ _ _).there (n:=cs.toArray.size) (by simp[OE.o];rfl)) (by rw[List.size_toArray,OE.o];kernel_rfl) OX.o ?_)
   refine MJ fun w9 hw=>?_
   obtain⟨BX,HB9⟩:=made hw (by rw[OE.o];rfl);have F9:=aa (F8.o.II HB9.o BX.o);obtain⟨gS,Ls⟩:=aab w8.heap.size;rw[←Ls]at F9⊢;rw[Sq.o]at F9;clear hw BX Ls OX HB9 MZ F8 cB OE Sq;have cB:=F9.o.aS.cell 0;have cb:=F9.o.ws.blk.cell 2;simp at cB cb;go_wp2_with fail
   with_reducible refine((F9.o.tmp _).sub (lS (F9.o.tmp _).ws)).mono ?_
   rintro e Lo ⟨v10,rfl,(KC:Hid _)⟩;clear cB cb F9;have cB:=KC.o.aS.cell 0;have z0:Lo.cell? ⟨gS,0,none⟩=some (.s (I.bs nm)):=KC.o.ab.cell 0;simp at cB;go_wp2_with fail
   with_reducible refine(kq KC.o (n:=1) (cells:=#[.s (I.bs nm)]) [nm] rfl rfl (kO hnm) (by rw[←P4.o];have:=HZ.o.2.2.2.1;omega)).mono ?_
   rintro e Lh ⟨v11,rfl,hF⟩;rw[←P4.o]at hF;have K1:=aa hF;clear hF cB z0 KC;have cB:=K1.o.aS.cell 0;have z1:Lh.cell? ⟨gS,1,none⟩=some .e:=K1.o.ab.cell 1;simp at cB;go_wp2_with fail
   with_reducible refine((K1.o.tmp _).sub (lS (K1.o.tmp _).ws)).mono ?_
   rintro e Mc ⟨v12,rfl,(Ll:Hid _)⟩;clear cB z1 K1;have cB:=Ll.o.aS.cell 0;have z2:Mc.cell? ⟨gS,2,none⟩=some (.slice Ao 0 co):=Ll.o.ab.cell 2;simp at cB;go_wp2_with fail
   with_reducible refine((Ll.o.tmp _).sub (CA (Ll.o.tmp _).ws)).mono ?_
   rintro e PZ ⟨v13,rfl,hF⟩;have OF:=aa hF.J3;clear hF cB z2 Ll;go_wp2_with fail
   go_roundg 0;case measure=>omega
   case rel=>exact⟨1,v13,p4,rfl,rfl,.inr ⟨rfl,rfl⟩,OF⟩
  ·have cj2:=F8.o.ab.y3 3 4 5;simp at cj2;go_wp2_with fail
   have F9:=aa (F8.o.tmp (.cells #[.s ⟨#[119,104,101,114,101]⟩] 9));have HLp:=aa (lZ F8.o (n:=1) (t:=9) (cells:=#[.s ⟨#[119,104,101,114,101]⟩]) (ss:=[[119,104,101,114,101]]) rfl rfl (by decide));have HRw:Hid (Rr Kr (w8.alloc (.cells #[.s ⟨#[119,104,101,114,101]⟩] 9)) (fun b=>b<g) (.slice A3 1 c3) [x]):=F9.o.rr HR3.o;have XQ:=aa (F9.o.sb NW.o);with_reducible refine(F9.o.sub (EM F9.o.ws XQ.o HRw.o HX.o hdp HLp.o (by decide) (by have:=HZ.o.2.2.2.2;omega))).mono ?_
   rintro e Lo ⟨v10,rfl,(KC:Hid _)⟩;clear cB cj2 F9 F8 HLp HRw XQ;have cB:=KC.o.ah.cell 0;obtain⟨q4,q5,q6⟩:=KC.o.ab.y3 4 5 6;simp at cB q4 q5 q6;have hgB:=KC.o.ah.lt;have XP:=KC.o.ab.lt;go_upto_region 26 with fail
   refine bo (tab [(6,NT)]) (Up Lo) Lo.heap.size 8 (Pl [(6,NS (.s (I.bs (Lib.itoa (-1)))))]) (dY _ _) (bf _) (Up.ek _) Na (Na.turns (Up.ek _) (bf _)) (by kernel_rfl) (by kernel_rfl) (Up.start _) (Nat.le_refl _) ?_;simp only[List.take_succ_cons,List.take_zero,List.drop_succ_cons,List.drop_zero];iterate 6 (refine aw ?_ rfl rfl (fun w' hS=>?_) ?_;rotate_left;(have Wp:=(hS.cell (p:=⟨gB,0,none⟩) hgB).trans cB;have q6':=(hS.cell (p:=⟨gQ,6,none⟩) XP).trans q6;go_simp;rfl);go_frame)
   refine' cq _ _ _ rfl rfl (fun w'=>?_) (fun w' hS hh hs=>?_) (fun v3 h3=>?_);rotate_left 2
   ·go_simp;constructor<;>rfl
   ·refine(Jt (-1) (by decide) (by decide) w' ((KC.o.sb NW.o) w' (fun b hb=>hS.block b (by have:=KC.o.ws.blk.lt;omega)))).mono ?_;rintro e w2 ⟨rfl,hb⟩;exact⟨_,rfl,⟨rfl,True.intro⟩,hb⟩
   obtain rfl:=h3;go_frame;refine ng (some (2,2)) (.cells #[.s ⟨#[108,105,109,105,116]⟩,.s (I.bs (Lib.itoa (-1)))] 9) rfl rfl (fun w' hS=>?_) fun g4=>?_
   ·go_simp;rfl
   go_frame;refine cJ fun Lh hH=>?_
   have K1:=aa (KC.o.quiet hH.s);clear hH cB q4 q5 q6 KC;go_wp2_with fail
   try simp only[dR]
   with_reducible refine(K1.o.sub (lS K1.o.ws)).mono ?_
   rintro e Mc ⟨v12,rfl,(Ll:Hid _)⟩;go_wp2_with fail
   rw[HQ.o];exact bodyPost_ret (v:=.tuple #[]) (results_none rfl _ _ _) rfl Ll.o.done
end
def Kp(w0:World)(w:World):Prop:=w.heap[0]?=w0.heap[0]?
theorem lp(w:World):lu 0 (Kp w) w:=fun _ hk=>hk 0 (Nat.le_refl _)
theorem Fr.bel{w0 w:World}{own:bO}{its:List It}(h:Fr 0 w0 own its (Kp w0) w):Below w0.heap.size w0 w:=⟨h.ch.os,h.ch.tape,h.ch.output,h.ch.size,fun k hk=>by
 by_cases h0:k=0
 ·subst h0
  exact h.q
 ·exact h.ch.block k hk h0⟩
theorem Fr.make{g:Nat}{w0 w w':World}{own:bO}{its:List It}{Q:World→Prop}(h:Fr g w0 own its Q w)(F:It)(hb:Below w.heap.size w w')(hF:F.P w' (In w.heap.size w'.heap.size)):Fr g w0 own (F::its) Q w':=by
 have hl:=h.lt;have hs:=h.ch.size;exact h.nS F (h.ps.mv fun b hk=>hb.block b (by omega)) ⟨hb.os,hb.tape,hb.output,hb.size,fun k hk _=>hb.block k hk⟩ hF
end Go.Proofs.YtnicfobpclehkaaGreatDoor
