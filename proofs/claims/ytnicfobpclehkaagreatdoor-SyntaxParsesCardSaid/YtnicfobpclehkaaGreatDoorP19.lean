import Derived.Test.YtnicfobpclehkaaGreatDoorP18
set_option maxHeartbeats 20000000
set_option linter.unusedVariables false
set_option linter.unusedSimpArgs false
namespace Go.Proofs.YtnicfobpclehkaaGreatDoor
open Go.RowKit
theorem ij:Tryz.prog.underlying 30=some (.struct (Tryz.prog.fieldsOf 30)):=by kernel_rfl
theorem cj{P:Program}{ops:Array Oper}{rest:List Oper}{o:Oper}{a:Act}{w:World}{Q:Exit→Act→World→Prop}(hw:Region.wanted o (yielded ops a.tmps)=true)(ty:TypeId)(x:Operand)(ho:o.op=.load ty x)(b of:Nat)(hx:a.eval x=.pointer (some ⟨b,of,none⟩))(cs:List Value)(d:TypeDesc)(hc:w.rangeAt b of cs)(hu:P.underlying ty=some d)(hd:d.isRow=true)(hi:(P.info? ty).map (·.size)=some cs.length)(h:wpList P ops Q rest (a.put o.dst (.agg cs.toArray)) w):wpList P ops Q (o::rest) a w:=
 wpList_step fun K hK=>by
  rw[if_pos hw]
  exact wp_load_mid ty x ho b of hx cs d hc hu hd hi (hK _ _ h)
section
variable{w0 w:World}{own:bO}{its:List It}
theorem Fr.XS(F:Fr 0 w0 own its (Kp w0) w){α:Type}{E:El α}{cs:List Value}{x:α}(hm:It.el E cs x∈its):E.R w (fun b=>b<w.heap.size) cs x:=El.hp (F.its _ hm:E.R w _ cs x) (fun _ hb=>hb.2.1) fun _ _=>rfl
theorem Fr.pZ(F:Fr 0 w0 own its (Kp w0) w){b:Nat}{t:TypeId}{cs:Array Value}(hm:(b,t,cs)∈own):Kn w b t cs:=(F.own _ hm).2
theorem Fr.again(h0:0<w0.heap.size)(hb:Below w0.heap.size w0 w):Fr 0 w0 [] [] (Kp w0) w:=
 ⟨h0,(lp w0).mv fun b hk=>hb.block b (by omega),⟨hb.os,hb.tape,hb.output,hb.size,fun k hk _=>hb.block k hk⟩,fun p hp=>by simp at hp,List.Pairwise.nil,fun F hF=>by simp at hF⟩
theorem Fr.boxed(h0:0<w0.heap.size)(hb:Below w0.heap.size w0 w){b:Nat}{t:TypeId}{cs:Array Value}(hB:w0.heap.size≤b)(h:Kn w b t cs):Fr 0 w0 [(b,t,cs)] [] (Kp w0) w:=
 ⟨h0,(lp w0).mv fun b hk=>hb.block b (by omega),⟨hb.os,hb.tape,hb.output,hb.size,fun k hk _=>hb.block k hk⟩,fun p hp=>by
  simp only[List.mem_cons,List.not_mem_nil,or_false]at hp
  rw[hp]
  exact⟨hB,h⟩,List.pairwise_singleton _ _,fun F hF=>by simp at hF⟩
end
section
variable{w0 w w':World}{own:bO}{its:List It}
theorem jV{z:Array Value}{t:TypeId}{o:Obj}{n:Nat}(h:n=z.size):((w.alloc (.cells z t)).alloc o).there w.heap.size 0 n:=((Kn.new w t z).alloc o).there h
theorem jW{o:Obj}{z:Array Value}{t:TypeId}{cs:List Value}{n:Nat}(h:n=z.size):(((w.alloc o).alloc (.cells z t)).setCells w.heap.size 0 cs).there (w.heap.size+1) 0 n:=by
 have h1:=Kn.mD w o t z;have h2:=Ch.bu cs 0 (Ch.refl w.heap.size ((w.alloc o).alloc (.cells z t)).heap.size ((w.alloc o).alloc (.cells z t))) (.inl rfl);exact Kn.there (t:=t) (cs:=z) ((h2.block (w.heap.size+1) (by simp) (by omega)).trans h1) h
theorem Fr.rP(F:Fr 0 w0 own its (Kp w0) w){z z2:Array Value}{t t2:TypeId}{cs vs:List Value}(hw:w'=(((w.alloc (.cells z t)).alloc (.cells z2 t2)).setCells w.heap.size 0 cs).setCells (w.heap.size+1) 0 vs)(h1:cs.length=z.size)(h2:vs.length=z2.size):Fr 0 w0 ((w.heap.size+1,t2,vs.toArray)::(w.heap.size,t,cs.toArray)::own) its (Kp w0) w':=by
 subst hw;have a:=(F.new t z).new t2 z2;rw[ay]at a;exact(a.bS cs h1).mR vs h2
theorem Fr.nx(F:Fr 0 w0 own its (Kp w0) w){b:Nat}{t:TypeId}{cs:List Value}(hm:(b,t,cs.toArray)∈own):w.rangeAt b 0 cs:=by
 have:=(F.pZ hm).range;rwa [List.toList_toArray]at this
end
theorem jO{w:World}{P:Nat→Prop}{cs:List Value}{s:I.Km}(h:aB.R w P cs s):cs.toArray.all (·.oneCell')=true:=all_oneCell_toArray (aB.one h)
theorem XT(x y:Int):(#[Value.int .i64 x,Value.int .i64 y]).all (·.oneCell')=true:=all_oneCell_toArray (cs:=[_,_]) fun v hv=>by
 simp only[List.mem_cons,List.not_mem_nil,or_false]at hv
 rcases hv with rfl|rfl<;>rfl
theorem El.cz{α:Type}{E:El α}{w:World}{P:Nat→Prop}{cz cs:List Value}{x:α}(h:cz=cs)(hx:E.R w P cs x):E.R w P cz x:=by
 rw[h];exact hx
theorem Fr.Mg{g:Nat}{w0 w:World}{own:bO}{its:List It}{Q:World→Prop}{b b2:Nat}{t t2:TypeId}{cz:List Value}{z:Array Value}(F:Fr g w0 ((b,t,cz.toArray)::(b2,t2,z)::own) its Q w){k:Nat}(hk:cz.length=k)(hz:z.size=k)(ho:cz.all (·.oneCell')=true):Hid (w.rangeAt b 0 cz)∧Hid (w.there b2 0 cz.toArray.size)∧Hid (cz.length=k)∧Hid (cz.toArray.all (·.oneCell')=true):=
 ⟨aa (by have:=F.ab.range;rwa [List.toList_toArray]at this),aa (F.ah.there (by rw[List.size_toArray,hk,hz])),aa hk,aa (all_oneCell_toArray fun v hv=>List.all_eq_true.1 ho v hv)⟩
section
set_option maxRecDepth 100000
theorem ue(n:Nat)(hL:Vs Kr 98 #[] fun x=>I.depth x≤n):PW Kr 172 ft (fun x=>I.depth x≤n+1):=by
 intro w cs cs' x y hp hx hy;have HP:=aa hp;clear hp;have HL:=aa hL;clear hL;obtain⟨⟨a0,a1,a2,a3,a4⟩,A5,m5,c5,a5,d,rfl,rfl,h1,h2,_,h3⟩:=hx;obtain⟨⟨b0,b1,b2,b3,b4⟩,Uc,Zx,Ud,b5,zd,rfl,rfl,h1',h2',_,h3'⟩:=hy;have L5:=aa (iP h3 h1 h2);have R5:=aa (iP h3' h1' h2');clear h1 h2 h3 h1' h2' h3';simp only[ft,ai,List.cons_append,List.nil_append];go_enter Tryz.func172,Tryz.ntmps172;go_upto_region 1 with fail
 refine MJ fun w1 hw1=>?_
 obtain⟨HG,HR,HB⟩:=eE hw1;clear hw1;have Ko:=aa (Below.refl w1.heap.size w1);have Ks:=(HG.o.below Ko.o HG.o.lt).Y8;simp at Ks;have cj2:=(HR.o.below Ko.o HR.o.lt).Y8;simp at cj2;have gV:=CN;rcases sV a0 b0 with⟨H0,t0⟩|h
 rcases Jv a1 b1 with⟨H1,t1⟩|h
 rcases Hh a2 b2 with⟨H2,t2⟩|h
 rcases Hh a3 b3 with⟨H3,t3⟩|h
 rcases CU a4 b4 with⟨H4,t4⟩|h
 focus go_wp2_with fail
 refine(HL.o w1 _ _ a5 b5 (fun k hk=>pX HP.o hk) (Rr.up L5.o (HB.o.trans (Ko.o.mono HB.o.size))) (Rr.up R5.o (HB.o.trans (Ko.o.mono HB.o.size)))).mono ?_;rintro e QV ⟨rfl,hb⟩;have KF:=aa (Ko.o.trans (hb.mono Ko.o.size));clear Ko hb Ks cj2;have Ko:=KF;clear KF;rcases Classical.em (a5=b5)with h|h
 rw[bH h];have H5:=aa h;clear h
 ·go_wp2_with fail
  go_ret;exact⟨iE (by rw[H0.o,H1.o,H2.o,H3.o,H4.o,H5.o]),HB.o.trans (Ko.o.mono HB.o.size)⟩
 all_goals
  first|have t:=tH h|have t:=G7 h|have t:=Jj h|have t:=int_ne h|rw[ep h]
  go_wp2_with fail
  go_ret
  exact⟨iJ fun e=>h (by cases e;rfl),HB.o.trans (Ko.o.mono HB.o.size)⟩
theorem na(p:Ev.Ex→Prop)(hC:PW Kr 172 ft p):Vs Kr 98 #[] p:=by
 intro w v v' xs ys hp hx hy;have HC:=aa (JY 172 (fun w a b=>by simp[go_sem]) p hC w v v' xs ys hp hx hy);show Calls Tryz.prog 98 #[v,v'] w _;obtain⟨A,m,c,rfl⟩:=ar hx;obtain⟨A',m',c',rfl⟩:=ar hy;clear hp hx hy;go_enter Tryz.func98,Tryz.ntmps98;go_wp2_with fail
 have cc:=HC.o;replace cc:Calls Tryz.prog 177 #[.slice A m c,.slice A' m' c',.func (.func 172) #[] #[]] w _:=cc;with_reducible refine cc.mono ?_
 rintro e w1 ⟨rfl,hb⟩;have HB:=aa hb;clear hb cc;go_wp2_with fail
 go_ret;exact⟨rfl,HB.o⟩
theorem vG:∀n:Nat,PW Kr 172 ft fun x=>I.depth x≤n:=by
 intro n;induction n with
 |zero=>intro w cs cs' x y hp;have:=I.ei x;omega
 |succ n ih=>exact ue n (na _ ih)
theorem gm:PW Kr 172 ft fun _=>True:=fun w cs cs' x y _ hx hy=>vG (I.depth x) w cs cs' x y (Nat.le_refl _) hx hy
theorem ee:Vs Kr 98 #[] fun _=>True:=na _ gm
theorem sG:PW dC 94 ft (fun _=>True):=by
 intro w cs cs' x y hp hx hy;have HP:=aa hp;clear hp;obtain⟨a0,a1,a2,a3,a4,a5,a6,a7⟩:=x;obtain⟨b0,b1,b2,b3,b4,b5,b6,b7⟩:=y;obtain⟨v,rfl,hv,_,_⟩:=hx;obtain⟨u,rfl,hu,_,_⟩:=hy;obtain⟨A5,m5,c5,rfl⟩:=ar hv;obtain⟨Uc,Zx,Ud,rfl⟩:=ar hu;dsimp only at hv hu;have L5:=aa hv;have R5:=aa hu;clear hv hu;simp only[ft,ai,List.cons_append,List.nil_append];go_enter Tryz.func94,Tryz.ntmps94;go_upto_region 1 with fail
 refine MJ fun w1 hw1=>?_
 obtain⟨HG,HR,HB⟩:=eE hw1;clear hw1;have Ko:=aa (Below.refl w1.heap.size w1);have Ks:=(HG.o.below Ko.o HG.o.lt).Y8;simp at Ks;have cj2:=(HR.o.below Ko.o HR.o.lt).Y8;simp at cj2;rcases ko a0 b0 with⟨H0,t0⟩|h
 rcases sV a1 b1 with⟨H1,t1⟩|h
 rcases j5 a2 b2 with⟨H2,t2⟩|h
 rcases j5 a3 b3 with⟨H3,t3⟩|h
 rcases j5 a4 b4 with⟨H4,t4⟩|h
 rcases ko a6 b6 with⟨H6,t6⟩|h
 rcases sV a7 b7 with⟨H7,t7⟩|h
 focus go_wp2_with fail
 refine(ee w1 _ _ a5 b5 (fun _ _=>trivial) (Rr.up L5.o (HB.o.trans (Ko.o.mono HB.o.size))) (Rr.up R5.o (HB.o.trans (Ko.o.mono HB.o.size)))).mono ?_;rintro e QV ⟨rfl,hb⟩;have KF:=aa (Ko.o.trans (hb.mono Ko.o.size));clear Ko hb Ks cj2;have Ko:=KF;clear KF;rcases Classical.em (a5=b5)with h|h
 rw[bH h];have H5:=aa h;clear h
 ·go_wp2_with fail
  go_ret;exact⟨iE (by rw[H0.o,H1.o,H2.o,H3.o,H4.o,H6.o,H7.o,H5.o]),HB.o.trans (Ko.o.mono HB.o.size)⟩
 all_goals
  first|have t:=tH h|have t:=sP h|have t:=nH h|rw[ep h]
  go_wp2_with fail
  go_ret
  exact⟨iJ fun e=>h (by cases e;rfl),HB.o.trans (Ko.o.mono HB.o.size)⟩
theorem tR:PW dG 100 ft (fun _=>True):=by
 intro w cs cs' x y hp hx hy;have HP:=aa hp;clear hp;obtain⟨a0,a1⟩:=x;obtain⟨b0,b1⟩:=y;obtain⟨ce,rfl,hv,_⟩:=hx;obtain⟨de,rfl,hu,_⟩:=hy;obtain⟨H,A1,m1,c1,ks,rfl,hks⟩:=aV hv;obtain⟨zH,Zk,zm1,Zl,zks,rfl,QW⟩:=aV hu;clear hks QW;dsimp only at hv hu;have L1:=aa hv;have R1:=aa hu;clear hv hu;simp only[ft,ai,List.cons_append,List.nil_append];go_enter Tryz.func100,Tryz.ntmps100;go_upto_region 1 with fail
 refine MJ fun w1 hw1=>?_
 obtain⟨HG,HR,HB⟩:=eE hw1;clear hw1;have Ko:=aa (Below.refl w1.heap.size w1);have Ks:=(HG.o.below Ko.o HG.o.lt).Y9;simp at Ks;have cj2:=(HR.o.below Ko.o HR.o.lt).Y9;simp at cj2;rcases ko a0 b0 with⟨H0,t0⟩|h
 focus go_wp2_with fail
 refine(gm w1 _ _ a1 b1 trivial (El.up L1.o (HB.o.trans (Ko.o.mono HB.o.size))) (El.up R1.o (HB.o.trans (Ko.o.mono HB.o.size)))).mono ?_;rintro e Lh ⟨rfl,hb⟩;have KF:=aa (Ko.o.trans (hb.mono Ko.o.size));clear Ko hb Ks cj2;have Ko:=KF;clear KF;rcases Classical.em (a1=b1)with h|h
 rw[bH h];have H1:=aa h;clear h
 ·go_wp2_with fail
  go_ret;exact⟨iE (by rw[H0.o,H1.o]),HB.o.trans (Ko.o.mono HB.o.size)⟩
 all_goals
  first|have t:=sP h|rw[ep h]
  go_wp2_with fail
  go_ret
  exact⟨iJ fun e=>h (by cases e;rfl),HB.o.trans (Ko.o.mono HB.o.size)⟩
theorem sD:PW bV 174 ft (fun _=>True):=by
 intro w cs cs' x y hp hx hy;have HP:=aa hp;clear hp;obtain⟨a0,a1,a2⟩:=x;obtain⟨b0,b1,b2⟩:=y;obtain⟨v,rfl,hv,_,_⟩:=hx;obtain⟨u,rfl,hu,_,_⟩:=hy;obtain⟨A2,m2,c2,rfl⟩:=ar hv;obtain⟨Zm,zm2,Zn,rfl⟩:=ar hu;dsimp only at hv hu;have L2:=aa hv;have R2:=aa hu;clear hv hu;simp only[ft,ai,List.cons_append,List.nil_append];go_enter Tryz.func174,Tryz.ntmps174;go_upto_region 1 with fail
 refine MJ fun w1 hw1=>?_
 obtain⟨HG,HR,HB⟩:=eE hw1;clear hw1;have Ko:=aa (Below.refl w1.heap.size w1);have Ks:=(HG.o.below Ko.o HG.o.lt).Y3;simp at Ks;have cj2:=(HR.o.below Ko.o HR.o.lt).Y3;simp at cj2;rcases ko a0 b0 with⟨H0,t0⟩|h
 rcases ko a1 b1 with⟨H1,t1⟩|h
 focus go_wp2_with fail
 refine(ee w1 _ _ a2 b2 (fun _ _=>trivial) (Rr.up L2.o (HB.o.trans (Ko.o.mono HB.o.size))) (Rr.up R2.o (HB.o.trans (Ko.o.mono HB.o.size)))).mono ?_;rintro e Mc ⟨rfl,hb⟩;have KF:=aa (Ko.o.trans (hb.mono Ko.o.size));clear Ko hb Ks cj2;have Ko:=KF;clear KF;rcases Classical.em (a2=b2)with h|h
 rw[bH h];have H2:=aa h;clear h
 ·go_wp2_with fail
  go_ret;exact⟨iE (by rw[H0.o,H1.o,H2.o]),HB.o.trans (Ko.o.mono HB.o.size)⟩
 all_goals
  first|have t:=sP h|rw[ep h]
  go_wp2_with fail
  go_ret
  exact⟨iJ fun e=>h (by cases e;rfl),HB.o.trans (Ko.o.mono HB.o.size)⟩
theorem uE:PW cS 171 ft (fun _=>True):=by
 intro w cs cs' x y hp hx hy;have HP:=aa hp;clear hp;obtain⟨a0,a1⟩:=x;obtain⟨b0,b1⟩:=y;obtain⟨ce,rfl,hv,_⟩:=hx;obtain⟨de,rfl,hu,_⟩:=hy;obtain⟨H,A0,m0,c0,ks,rfl,hks⟩:=aV hv;obtain⟨zH,zA0,zm0,zc0,zks,rfl,QW⟩:=aV hu;clear hks QW;dsimp only at hv hu;have L0:=aa hv;have R0:=aa hu;clear hv hu;simp only[ft,ai,List.cons_append,List.nil_append];go_enter Tryz.func171,Tryz.ntmps171;go_upto_region 1 with fail
 refine MJ fun w1 hw1=>?_
 obtain⟨HG,HR,HB⟩:=eE hw1;clear hw1;have Ko:=aa (Below.refl w1.heap.size w1);have Ks:=(HG.o.below Ko.o HG.o.lt).Y9;simp at Ks;have cj2:=(HR.o.below Ko.o HR.o.lt).Y9;simp at cj2;rcases ko a1 b1 with⟨H1,t1⟩|h
 focus go_wp2_with fail
 refine(gm w1 _ _ a0 b0 trivial (El.up L0.o (HB.o.trans (Ko.o.mono HB.o.size))) (El.up R0.o (HB.o.trans (Ko.o.mono HB.o.size)))).mono ?_;rintro e Lo ⟨rfl,hb⟩;have KF:=aa (Ko.o.trans (hb.mono Ko.o.size));clear Ko hb Ks cj2;have Ko:=KF;clear KF;rcases Classical.em (a0=b0)with h|h
 rw[bH h];have H0:=aa h;clear h
 ·go_wp2_with fail
  go_ret;exact⟨iE (by rw[H1.o,H0.o]),HB.o.trans (Ko.o.mono HB.o.size)⟩
 all_goals
  first|have t:=sP h|rw[ep h]
  go_wp2_with fail
  go_ret
  exact⟨iJ fun e=>h (by cases e;rfl),HB.o.trans (Ko.o.mono HB.o.size)⟩
theorem tS:PW dx 176 ft (fun _=>True):=by
 intro w cs cs' x y hp hx hy;have HP:=aa hp;clear hp;obtain⟨a0,a1⟩:=x;obtain⟨b0,b1⟩:=y;obtain⟨ce,rfl,hv⟩:=hx;obtain⟨de,rfl,hu⟩:=hy;obtain⟨H,A0,m0,c0,ks,rfl,hks⟩:=aV hv;obtain⟨zH,zA0,zm0,zc0,zks,rfl,QW⟩:=aV hu;clear hks QW;dsimp only at hv hu;have L0:=aa hv;have R0:=aa hu;clear hv hu;simp only[ft,ai,List.cons_append,List.nil_append];go_enter Tryz.func176,Tryz.ntmps176;go_upto_region 1 with fail
 refine MJ fun w1 hw1=>?_
 obtain⟨HG,HR,HB⟩:=eE hw1;clear hw1;have Ko:=aa (Below.refl w1.heap.size w1);have Ks:=(HG.o.below Ko.o HG.o.lt).Y9;simp at Ks;have cj2:=(HR.o.below Ko.o HR.o.lt).Y9;simp at cj2;rcases j5 a1 b1 with⟨H1,t1⟩|h
 focus go_wp2_with fail
 refine(gm w1 _ _ a0 b0 trivial (El.up L0.o (HB.o.trans (Ko.o.mono HB.o.size))) (El.up R0.o (HB.o.trans (Ko.o.mono HB.o.size)))).mono ?_;rintro e Lo ⟨rfl,hb⟩;have KF:=aa (Ko.o.trans (hb.mono Ko.o.size));clear Ko hb Ks cj2;have Ko:=KF;clear KF;rcases Classical.em (a0=b0)with h|h
 rw[bH h];have H0:=aa h;clear h
 ·go_wp2_with fail
  go_ret;exact⟨iE (by rw[H1.o,H0.o]),HB.o.trans (Ko.o.mono HB.o.size)⟩
 all_goals
  first|have t:=nH h|rw[ep h]
  go_wp2_with fail
  go_ret
  exact⟨iJ fun e=>h (by cases e;rfl),HB.o.trans (Ko.o.mono HB.o.size)⟩
end
section
set_option maxRecDepth 100000
theorem Gu:Sp 171:=fun w a b=>by simp[go_sem]
theorem Gy:Sp 174:=fun w a b=>by simp[go_sem]
theorem FX:Sp 176:=fun w a b=>by simp[go_sem]
theorem Gv:Sp 94:=fun w a b=>by simp[go_sem]
theorem GB:Sp 96:=fun w a b=>by simp[go_sem]
theorem Eb:Sp 98:=fun w a b=>by simp[go_sem]
theorem Gl:Sp 100:=fun w a b=>by simp[go_sem]
theorem Fx:PW dM 98 vq fun _=>True:=by
 intro w cs cs' x y _ hx hy;obtain⟨v,rfl,hv⟩:=hx;obtain⟨u,rfl,hu⟩:=hy;exact ee w v u x y (fun _ _=>trivial) hv hu
theorem sy:PW eB 96 ft (fun _=>True):=by
 intro w cs cs' x y hp hx hy;have HP:=aa hp;clear hp;obtain⟨a0,a1,a2,a3,a4,a5,a6⟩:=x;obtain⟨b0,b1,b2,b3,b4,b5,b6⟩:=y;obtain⟨v1,v2,v3,v4,v5,rfl,p1,p2,p3,p4,p5,_,_⟩:=hx;obtain⟨u1,u2,u3,u4,u5,rfl,q1,q2,q3,q4,q5,_,_⟩:=hy;obtain⟨A1,m1,c1,rfl⟩:=ar p1;obtain⟨Zk,zm1,Zl,rfl⟩:=ar q1;dsimp only at p1 q1;have L1:=aa p1;have R1:=aa q1;obtain⟨A2,m2,c2,rfl⟩:=ar p2;obtain⟨Zm,zm2,Zn,rfl⟩:=ar q2;dsimp only at p2 q2;have L2:=aa p2;have R2:=aa q2;obtain⟨A3,m3,c3,rfl⟩:=ar p3;obtain⟨zA3,zm3,zc3,rfl⟩:=ar q3;dsimp only at p3 q3;have L3:=aa p3;have R3:=aa q3;obtain⟨A4,m4,c4,rfl⟩:=ar p4;obtain⟨zA4,zm4,zc4,rfl⟩:=ar q4;dsimp only at p4 q4;have L4:=aa p4;have R4:=aa q4;obtain⟨A5,m5,c5,rfl⟩:=ar p5;obtain⟨Uc,Zx,Ud,rfl⟩:=ar q5;dsimp only at p5 q5;have L5:=aa p5;have R5:=aa q5;clear p1 q1 p2 q2 p3 q3 p4 q4 p5 q5;simp only[ft,ai,List.cons_append,List.nil_append];go_enter Tryz.func96,Tryz.ntmps96;go_upto_region 1 with fail
 refine MJ fun w1 hw1=>?_
 obtain⟨HG,HR,HB⟩:=eE hw1;clear hw1;have Ko:=aa (Below.refl w1.heap.size w1);have Ks:=(HG.o.below Ko.o HG.o.lt).Y7;simp at Ks;have cj2:=(HR.o.below Ko.o HR.o.lt).Y7;simp at cj2;rcases j5 a0 b0 with⟨H0,t0⟩|h
 rcases CU a6 b6 with⟨H6,t6⟩|h
 focus go_wp2_with fail
 refine(FF _ Gu _ uE w1 _ _ a1 b1 (fun _ _=>trivial) (Rr.up L1.o (HB.o.trans (Ko.o.mono HB.o.size))) (Rr.up R1.o (HB.o.trans (Ko.o.mono HB.o.size)))).mono ?_;rintro e Lh ⟨rfl,hb⟩;have KF:=aa (Ko.o.trans (hb.mono Ko.o.size));clear Ko hb Ks cj2;have Ko:=KF;clear KF;have K0:=(HG.o.below Ko.o HG.o.lt).Y7;simp at K0;have Le:=(HR.o.below Ko.o HR.o.lt).Y7;simp at Le;rcases Classical.em (a1=b1)with h|h
 rw[bH h];have H1:=aa h;clear h;focus go_wp2_with fail
 refine(Gi _ Gy _ sD Lh _ _ a2 b2 (fun _ _=>trivial) (Rr.up L2.o (HB.o.trans (Ko.o.mono HB.o.size))) (Rr.up R2.o (HB.o.trans (Ko.o.mono HB.o.size)))).mono ?_;rintro e Mc ⟨rfl,hb⟩;have KF:=aa (Ko.o.trans (hb.mono Ko.o.size));clear Ko hb K0 Le;have Ko:=KF;clear KF;have Ly:=(HG.o.below Ko.o HG.o.lt).Y7;simp at Ly;have Mj:=(HR.o.below Ko.o HR.o.lt).Y7;simp at Mj;rcases Classical.em (a2=b2)with h|h
 rw[bH h];have H2:=aa h;clear h;focus go_wp2_with fail
 refine(ee Mc _ _ a3 b3 (fun _ _=>trivial) (Rr.up L3.o (HB.o.trans (Ko.o.mono HB.o.size))) (Rr.up R3.o (HB.o.trans (Ko.o.mono HB.o.size)))).mono ?_;rintro e PZ ⟨rfl,hb⟩;have KF:=aa (Ko.o.trans (hb.mono Ko.o.size));clear Ko hb Ly Mj;have Ko:=KF;clear KF;have MY:=(HG.o.below Ko.o HG.o.lt).Y7;simp at MY;have NP:=(HR.o.below Ko.o HR.o.lt).Y7;simp at NP;rcases Classical.em (a3=b3)with h|h
 rw[bH h];have H3:=aa h;clear h;focus go_wp2_with fail
 refine(ee PZ _ _ a4 b4 (fun _ _=>trivial) (Rr.up L4.o (HB.o.trans (Ko.o.mono HB.o.size))) (Rr.up R4.o (HB.o.trans (Ko.o.mono HB.o.size)))).mono ?_;rintro e Te ⟨rfl,hb⟩;have KF:=aa (Ko.o.trans (hb.mono Ko.o.size));clear Ko hb MY NP;have Ko:=KF;clear KF;have NQ:=(HG.o.below Ko.o HG.o.lt).Y7;simp at NQ;have M1:=(HR.o.below Ko.o HR.o.lt).Y7;simp at M1;rcases Classical.em (a4=b4)with h|h
 rw[bH h];have H4:=aa h;clear h;focus go_wp2_with fail
 refine(EP _ FX _ tS Te _ _ a5 b5 (fun _ _=>trivial) (Rr.up L5.o (HB.o.trans (Ko.o.mono HB.o.size))) (Rr.up R5.o (HB.o.trans (Ko.o.mono HB.o.size)))).mono ?_;rintro e QV ⟨rfl,hb⟩;have KF:=aa (Ko.o.trans (hb.mono Ko.o.size));clear Ko hb NQ M1;have Ko:=KF;clear KF;rcases Classical.em (a5=b5)with h|h
 rw[bH h];have H5:=aa h;clear h
 ·go_wp2_with fail
  go_ret;exact⟨iE (by rw[H0.o,H6.o,H1.o,H2.o,H3.o,H4.o,H5.o]),HB.o.trans (Ko.o.mono HB.o.size)⟩
 all_goals
  first|rw[ep h]|have t:=nH h|have t:=int_ne h
  go_wp2_with fail
  go_ret
  exact⟨iJ fun e=>h (by cases e;rfl),HB.o.trans (Ko.o.mono HB.o.size)⟩
theorem JV:Vs ik 101 #[] fun _=>True:=by
 intro w v v' xs ys hp hx hy;have HX:=aa hx;have HY:=aa hy;obtain⟨A,c,rfl,h1,h2⟩:=hx.form;obtain⟨A',c',rfl,h1',h2'⟩:=hy.form;clear hp hx hy;show Calls Tryz.prog 101 #[.slice A xs.length c,.slice A' ys.length c'] w _;by_cases hlen:xs.length=ys.length
 ·have t0:ys.length=xs.length:=hlen.symm;have RH:=aa hlen;have HT0:Hid (xs.take 0=ys.take 0):=rfl;have HB0:=aa (Below.refl w.heap.size w);clear hlen;go_enter Tryz.func101,Tryz.ntmps101;go_wp2_with fail
  go_loopg [13] xs.length (fun gg i wr=>∃k:Nat,k≤xs.length∧gg=xs.length-k∧i=.i (k:Int)∧Hid (xs.take k=ys.take k)∧Hid (Below w.heap.size w wr));case atStart=>exact⟨0,Nat.zero_le _,rfl,rfl,HT0,HB0⟩
  case round=>
   obtain⟨k,hk,rfl,rfl,HT,HB⟩:=hrel;obtain⟨w1,hw⟩:=aab wr;subst hw;clear HT0 HB0 t0;by_cases hlt:k<xs.length
   ·have hlt':k<ys.length:=by have:=RH.o;omega
    obtain⟨g,off,c2,x,cs,hv,q1,q2,hg,hi,hr,hl,hra⟩:=(HX.o.up HB.o).range hlt;obtain⟨g',off',c2',y,cs',hv',q1',q2',hg',hi',hr',hl',KV⟩:=(HY.o.up HB.o).range hlt';injection hv with e1 e2 e3
    injection hv' with T7 e2' e3'
    subst e1 e3 T7 e3';clear e2 e2' q1 q1' q2 q2';have t1:decide ((k:Int)<(xs.length:Int))=true:=decide_eq_true (by omega);have b1:(k:Int)<(xs.length:Int):=by omega
    have b2:(k:Int)<(ys.length:Int):=by omega
    have HI:=aa hi;have S7:=aa hi';have e1:cs=[.u (x.toNat:Int)]:=hr;have e2:cs'=[.u (y.toNat:Int)]:=hr';subst e1 e2;have k1:=hra 0 _ rfl;have k2:=KV 0 _ rfl;rw[show ik.k=1 from rfl,Nat.mul_one,Nat.add_zero]at k1 k2;clear hi hi' hra KV hl hl' hr hr';by_cases hxy:x=y
    ·have t3:((x.toNat:Int) !=(y.toNat:Int))=false:=by rw[hxy];simp
     have t4:((x.toNat:Int)==(y.toNat:Int))=true:=by rw[hxy];simp
     have HT1:=aa (qS HT.o HI.o S7.o (bH hxy));clear hxy;go_wp2_with fail
     go_region;all_goals
      go_wp2_with fail
      go_roundg (xs.length-(k+1))
      case measure=>omega
      case rel=>exact⟨k+1,by omega,rfl,by go_num,HT1,aa (below_drewN HB.o _)⟩
    ·have t3:((x.toNat:Int) !=(y.toNat:Int))=true:=iz hxy;have t4:((x.toNat:Int)==(y.toNat:Int))=false:=tH hxy;have HE:=aa (wP HI.o S7.o (ep hxy));clear hxy;go_wp2_with fail
     go_region;all_goals
      go_wp2_with fail
      go_ret
      exact⟨by rw[HE.o];rfl,below_drewN HB.o _⟩
   ·obtain rfl:k=xs.length:=by omega
    have t1:decide ((xs.length:Int)<(xs.length:Int))=false:=decide_eq_false (by omega);have HE:=aa (ra HT.o rfl RH.o.symm);go_wp2_with fail
    go_ret;exact⟨by rw[HE.o];rfl,HB.o⟩
 ·have HE:=aa (FV hlen);have t1:¬(xs.length:Int)=(ys.length:Int):=by omega
  go_enter Tryz.func101,Tryz.ntmps101;go_wp2_with fail
  go_ret;exact⟨by rw[HE.o];rfl,Below.refl _ _⟩
theorem sT:PW aB 41 ft (fun _=>True):=by
 intro w cs cs' x y hp hx hy;have HP:=aa hp;clear hp;obtain⟨a0,a1,a2,a3,a4,a5,a6,a7,a8,a9,XB,YG,a12⟩:=x;obtain⟨b0,b1,b2,b3,b4,b5,b6,b7,b8,b9,b10,b11,b12⟩:=y;obtain⟨v1,v2,v3,v4,v5,v6,rfl,p5,p6,p7,p8,p9,QP,_,_,_,_⟩:=hx;obtain⟨u1,u2,u3,u4,u5,u6,rfl,q5,q6,q7,q8,q9,RN,_,_,_,_⟩:=hy;obtain⟨A5,m5,c5,rfl⟩:=ar p5;obtain⟨Uc,Zx,Ud,rfl⟩:=ar q5;dsimp only at p5 q5;have L5:=aa p5;have R5:=aa q5;obtain⟨A6,m6,c6,rfl⟩:=ar p6;obtain⟨zA6,zm6,zc6,rfl⟩:=ar q6;dsimp only at p6 q6;have L6:=aa p6;have R6:=aa q6;obtain⟨A7,m7,c7,rfl⟩:=ar p7;obtain⟨zA7,zm7,zc7,rfl⟩:=ar q7;dsimp only at p7 q7;have L7:=aa p7;have R7:=aa q7;obtain⟨A8,m8,c8,rfl⟩:=ar p8;obtain⟨zA8,zm8,zc8,rfl⟩:=ar q8;dsimp only at p8 q8;have L8:=aa p8;have R8:=aa q8;obtain⟨A9,m9,c9,rfl⟩:=ar p9;obtain⟨zA9,zm9,zc9,rfl⟩:=ar q9;dsimp only at p9 q9;have L9:=aa p9;have R9:=aa q9;obtain⟨NV,m10,c10,rfl⟩:=ar QP;obtain⟨Wl,zm10,Wm,rfl⟩:=ar RN;dsimp only at QP RN;have Pm:=aa QP;have Zp:=aa RN;clear p5 q5 p6 q6 p7 q7 p8 q8 p9 q9 QP RN;simp only[ft,ai,List.cons_append,List.nil_append];go_enter Tryz.func41,Tryz.ntmps41;go_upto_region 1 with fail
 refine MJ fun w1 hw1=>?_
 obtain⟨HG,HR,HB⟩:=eE hw1;clear hw1;have Ko:=aa (Below.refl w1.heap.size w1);have Ks:=(HG.o.below Ko.o HG.o.lt).KI;simp at Ks;have cj2:=(HR.o.below Ko.o HR.o.lt).KI;simp at cj2;rcases sV a0 b0 with⟨H0,t0⟩|h
 rcases ko a1 b1 with⟨H1,t1⟩|h
 rcases ko a2 b2 with⟨H2,t2⟩|h
 rcases ko a3 b3 with⟨H3,t3⟩|h
 rcases sV a4 b4 with⟨H4,t4⟩|h
 rcases j5 YG b11 with⟨H11,t11⟩|h
 rcases ko a12 b12 with⟨H12,t12⟩|h
 focus go_wp2_with fail
 refine(EH _ Gv _ sG w1 _ _ a5 b5 (fun _ _=>trivial) (Rr.up L5.o (HB.o.trans (Ko.o.mono HB.o.size))) (Rr.up R5.o (HB.o.trans (Ko.o.mono HB.o.size)))).mono ?_;rintro e QV ⟨rfl,hb⟩;have KF:=aa (Ko.o.trans (hb.mono Ko.o.size));clear Ko hb Ks cj2;have Ko:=KF;clear KF;have K0:=(HG.o.below Ko.o HG.o.lt).KI;simp at K0;have Le:=(HR.o.below Ko.o HR.o.lt).KI;simp at Le;rcases Classical.em (a5=b5)with h|h
 rw[bH h];have H5:=aa h;clear h;focus go_wp2_with fail
 refine(GR _ GB _ sy QV _ _ a6 b6 (fun _ _=>trivial) (Rr.up L6.o (HB.o.trans (Ko.o.mono HB.o.size))) (Rr.up R6.o (HB.o.trans (Ko.o.mono HB.o.size)))).mono ?_;rintro e w16 ⟨rfl,hb⟩;have KF:=aa (Ko.o.trans (hb.mono Ko.o.size));clear Ko hb K0 Le;have Ko:=KF;clear KF;have Ly:=(HG.o.below Ko.o HG.o.lt).KI;simp at Ly;have Mj:=(HR.o.below Ko.o HR.o.lt).KI;simp at Mj;rcases Classical.em (a6=b6)with h|h
 rw[bH h];have H6:=aa h;clear h;focus go_wp2_with fail
 refine(EN _ Eb _ Fx w16 _ _ a7 b7 (fun _ _=>trivial) (Rr.up L7.o (HB.o.trans (Ko.o.mono HB.o.size))) (Rr.up R7.o (HB.o.trans (Ko.o.mono HB.o.size)))).mono ?_;rintro e Zy ⟨rfl,hb⟩;have KF:=aa (Ko.o.trans (hb.mono Ko.o.size));clear Ko hb Ly Mj;have Ko:=KF;clear KF;have MY:=(HG.o.below Ko.o HG.o.lt).KI;simp at MY;have NP:=(HR.o.below Ko.o HR.o.lt).KI;simp at NP;rcases Classical.em (a7=b7)with h|h
 rw[bH h];have H7:=aa h;clear h;focus go_wp2_with fail
 refine(Fj _ Gl _ tR Zy _ _ a8 b8 (fun _ _=>trivial) (Rr.up L8.o (HB.o.trans (Ko.o.mono HB.o.size))) (Rr.up R8.o (HB.o.trans (Ko.o.mono HB.o.size)))).mono ?_;rintro e w18 ⟨rfl,hb⟩;have KF:=aa (Ko.o.trans (hb.mono Ko.o.size));clear Ko hb MY NP;have Ko:=KF;clear KF;have NQ:=(HG.o.below Ko.o HG.o.lt).KI;simp at NQ;have M1:=(HR.o.below Ko.o HR.o.lt).KI;simp at M1;rcases Classical.em (a8=b8)with h|h
 rw[bH h];have H8:=aa h;clear h;focus go_wp2_with fail
 refine(ee w18 _ _ a9 b9 (fun _ _=>trivial) (Rr.up L9.o (HB.o.trans (Ko.o.mono HB.o.size))) (Rr.up R9.o (HB.o.trans (Ko.o.mono HB.o.size)))).mono ?_;rintro e w19 ⟨rfl,hb⟩;have KF:=aa (Ko.o.trans (hb.mono Ko.o.size));clear Ko hb NQ M1;have Ko:=KF;clear KF;have NB:=(HG.o.below Ko.o HG.o.lt).KI;simp at NB;have Nn:=(HR.o.below Ko.o HR.o.lt).KI;simp at Nn;rcases Classical.em (a9=b9)with h|h
 rw[bH h];have H9:=aa h;clear h;focus go_wp2_with fail
 refine(JV w19 _ _ XB b10 (fun _ _=>trivial) (Rr.up Pm.o (HB.o.trans (Ko.o.mono HB.o.size))) (Rr.up Zp.o (HB.o.trans (Ko.o.mono HB.o.size)))).mono ?_;rintro e NX ⟨rfl,hb⟩;have KF:=aa (Ko.o.trans (hb.mono Ko.o.size));clear Ko hb NB Nn;have Ko:=KF;clear KF;rcases Classical.em (XB=b10)with h|h
 rw[bH h];have H10:=aa h;clear h
 ·go_wp2_with fail
  go_ret;exact⟨iE (by rw[H0.o,H1.o,H2.o,H3.o,H4.o,H11.o,H12.o,H5.o,H6.o,H7.o,H8.o,H9.o,H10.o]),HB.o.trans (Ko.o.mono HB.o.size)⟩
 all_goals
  first|rw[ep h]|have t:=tH h|have t:=sP h|have t:=nH h
  go_wp2_with fail
  go_ret
  exact⟨iJ fun e=>h (by cases e;rfl),HB.o.trans (Ko.o.mono HB.o.size)⟩
end
section
variable{C:RC}{w0 w:World}{own:bO}{its:List It}{st:I.St}{P:Nat→Prop}{cs:List Value}
theorem qF{x:I.Km}(h:aB.R w P cs x):∃A1 m1 c1 A2 m2 c2 A3 m3 c3 A4 m4 c4 A5 m5 c5 A6 m6 c6,cs=[.u (x.k.toNat:Int),.s (I.bs x.nm),.s (I.bs x.on),.s (I.bs x.aF),.u (x.ev.toNat:Int),.slice A1 m1 c1,.slice A2 m2 c2,.slice A3 m3 c3,.slice A4 m4 c4,.slice A5 m5 c5,.slice A6 m6 c6,.bool x.opt,.s (I.bs x.key)]:=by
 obtain⟨v1,v2,v3,v4,v5,v6,rfl,h1,h2,h3,h4,h5,h6,_⟩:=h;obtain⟨A1,c1,rfl,_⟩:=h1.form;obtain⟨A2,c2,rfl,_⟩:=h2.form;obtain⟨A3,c3,rfl,_⟩:=h3.form;obtain⟨A4,c4,rfl,_⟩:=h4.form;obtain⟨A5,c5,rfl,_⟩:=h5.form;obtain⟨A6,c6,rfl,_⟩:=h6.form;exact⟨_,_,_,_,_,_,_,_,_,_,_,_,_,_,_,_,_,_,rfl⟩
theorem Fr.oR{f:FuncId}{args:Array Value}{r:I.Km×I.St}(F:Fr C.g w0 own its (PS C st) w)(h:Calls Tryz.prog f args w (EPost aB C w r)):Calls Tryz.prog f args w fun e w'=>∃A1 m1 c1 A2 m2 c2 A3 m3 c3 A4 m4 c4 A5 m5 c5 A6 m6 c6 x s,r=(x,s)∧e=.returned (.agg #[.u (x.k.toNat:Int),.s (I.bs x.nm),.s (I.bs x.on),.s (I.bs x.aF),.u (x.ev.toNat:Int),.slice A1 m1 c1,.slice A2 m2 c2,.slice A3 m3 c3,.slice A4 m4 c4,.slice A5 m5 c5,.slice A6 m6 c6,.bool x.opt,.s (I.bs x.key)])∧Fr C.g w0 own (It.el aB [.u (x.k.toNat:Int),.s (I.bs x.nm),.s (I.bs x.on),.s (I.bs x.aF),.u (x.ev.toNat:Int),.slice A1 m1 c1,.slice A2 m2 c2,.slice A3 m3 c3,.slice A4 m4 c4,.slice A5 m5 c5,.slice A6 m6 c6,.bool x.opt,.s (I.bs x.key)] x::its) (PS C s) w':=
 (F.sub h).mono fun e w' ⟨cs,x,s,h1,h2,h3⟩=>by
  obtain⟨A1,m1,c1,A2,m2,c2,A3,m3,c3,A4,m4,c4,A5,m5,c5,A6,m6,c6,rfl⟩:=qF h3.Kx
  exact⟨A1,m1,c1,A2,m2,c2,A3,m3,c3,A4,m4,c4,A5,m5,c5,A6,m6,c6,x,s,h1,h2,h3⟩
theorem ql{x:I.Kz}(h:eB.R w P cs x):∃A1 m1 c1 A2 m2 c2 A3 m3 c3 A4 m4 c4 A5 m5 c5,cs=[.bool x.all,.slice A1 m1 c1,.slice A2 m2 c2,.slice A3 m3 c3,.slice A4 m4 c4,.slice A5 m5 c5,.i x.lim]:=by
 obtain⟨v1,v2,v3,v4,v5,rfl,h1,h2,h3,h4,h5,_⟩:=h;obtain⟨A1,c1,rfl,_⟩:=h1.form;obtain⟨A2,c2,rfl,_⟩:=h2.form;obtain⟨A3,c3,rfl,_⟩:=h3.form;obtain⟨A4,c4,rfl,_⟩:=h4.form;obtain⟨A5,c5,rfl,_⟩:=h5.form;exact⟨_,_,_,_,_,_,_,_,_,_,_,_,_,_,_,rfl⟩
theorem Fr.BV{f:FuncId}{args:Array Value}{r:I.Kz×I.St}(F:Fr C.g w0 own its (PS C st) w)(h:Calls Tryz.prog f args w (EPost eB C w r)):Calls Tryz.prog f args w fun e w'=>∃A1 m1 c1 A2 m2 c2 A3 m3 c3 A4 m4 c4 A5 m5 c5 x s,r=(x,s)∧e=.returned (.agg #[.bool x.all,.slice A1 m1 c1,.slice A2 m2 c2,.slice A3 m3 c3,.slice A4 m4 c4,.slice A5 m5 c5,.i x.lim])∧Fr C.g w0 own (It.el eB [.bool x.all,.slice A1 m1 c1,.slice A2 m2 c2,.slice A3 m3 c3,.slice A4 m4 c4,.slice A5 m5 c5,.i x.lim] x::its) (PS C s) w':=
 (F.sub h).mono fun e w' ⟨cs,x,s,h1,h2,h3⟩=>by
  obtain⟨A1,m1,c1,A2,m2,c2,A3,m3,c3,A4,m4,c4,A5,m5,c5,rfl⟩:=ql h3.Kx
  exact⟨A1,m1,c1,A2,m2,c2,A3,m3,c3,A4,m4,c4,A5,m5,c5,x,s,h1,h2,h3⟩
theorem Ae{x:I.Src}(h:bV.R w P cs x):∃A1 m1 c1,cs=[.s (I.bs x.nm),.s (I.bs x.al),.slice A1 m1 c1]:=by
 obtain⟨v1,rfl,h1,_⟩:=h;obtain⟨A1,c1,rfl,_⟩:=h1.form;exact⟨_,_,_,rfl⟩
theorem Fr.CB{f:FuncId}{args:Array Value}{r:I.Src×I.St}(F:Fr C.g w0 own its (PS C st) w)(h:Calls Tryz.prog f args w (EPost bV C w r)):Calls Tryz.prog f args w fun e w'=>∃A1 m1 c1 x s,r=(x,s)∧e=.returned (.agg #[.s (I.bs x.nm),.s (I.bs x.al),.slice A1 m1 c1])∧Fr C.g w0 own (It.el bV [.s (I.bs x.nm),.s (I.bs x.al),.slice A1 m1 c1] x::its) (PS C s) w':=
 (F.sub h).mono fun e w' ⟨cs,x,s,h1,h2,h3⟩=>by
  obtain⟨A1,m1,c1,rfl⟩:=Ae h3.Kx
  exact⟨A1,m1,c1,x,s,h1,h2,h3⟩
end
section
variable{g:Nat}{w0 w w':World}{own own':bO}{its:List It}{Q:World→Prop}
theorem Fr.perm(h:Fr g w0 own its Q w)(hp:own.Perm own'):Fr g w0 own' its Q w:=
 ⟨h.lt,h.ps,h.ch,fun p hq=>h.own p (hp.mem_iff.2 hq),(hp.pairwise_iff (fun h=>Ne.symm h)).1 h.nd,fun F hF=>F.aR (fun _ hb=>⟨hb.1,hb.2.1,fun p hq=>hb.2.2 p (hp.mem_iff.2 hq)⟩) (fun _ _=>rfl) (h.its F hF)⟩
theorem Fr.rot{p q r:Nat×TypeId×Array Value}(h:Fr g w0 (p::q::r::own) its Q w):Fr g w0 (r::p::q::own) its Q w:=
 h.perm (((List.Perm.swap r q own).cons p).trans (List.Perm.swap r p (q::own)))
theorem Fr.Zz{p q r:Nat×TypeId×Array Value}(h:Fr g w0 (r::p::q::own) its Q w):Fr g w0 (p::q::r::own) its Q w:=
 h.perm (((List.Perm.swap r q own).cons p).trans (List.Perm.swap r p (q::own))).symm
theorem Fr.lq{p q:Nat×TypeId×Array Value}{b:Nat}{t:TypeId}{cs:Array Value}(h:Fr g w0 (p::q::(b,t,cs)::own) its Q w)(hc:Ch b w.heap.size w w'){cs':Array Value}(hb:Kn w' b t cs'):Fr g w0 (p::q::(b,t,cs')::own) its Q w':=(h.rot.gu hc hb).Zz
end
end Go.Proofs.YtnicfobpclehkaaGreatDoor
