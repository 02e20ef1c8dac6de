import Derived.Test.YtnicfobpclehkaaGreatDoorP14
import Derived.Test.YtnicfobpclehkaaGreatDoorP16
set_option maxHeartbeats 40000000
set_option linter.unusedVariables false
set_option linter.unusedSimpArgs false
namespace Go.Proofs.YtnicfobpclehkaaGreatDoor
open Go.RowKit
section
set_option maxRecDepth 100000
def Tb{α:Type}(E:El α)(N:FuncId)(p:α→Prop):Prop:=∀(w:World) (cs cs':List Value) (x:α),p x→E.R w (fun b=>b<w.heap.size) cs x→E.R w (fun b=>b<w.heap.size) cs' x→Calls Tryz.prog N #[.agg cs.toArray,.agg cs'.toArray] w fun e w'=>e=.returned (.bool true)∧Below w.heap.size w w'
def Wk{α:Type}(E:El α)(N:FuncId)(p:α→Prop):Prop:=∀(w:World) (v v':Value) (xs:List α),(∀x∈xs,p x)→Rr E w (fun b=>b<w.heap.size) v xs→Rr E w (fun b=>b<w.heap.size) v' xs→Calls Tryz.prog N #[v,v'] w fun e w'=>e=.returned (.bool true)∧Below w.heap.size w w'
theorem Rr.two{α:Type}{E:El α}{w:World}{P:Nat→Prop}{A A':Option Addr}{n n' c c':Nat}{xs:List α}{i:Nat}(h:Rr E w P (.slice A n c) xs)(h':Rr E w P (.slice A' n' c') xs)(hi:i<xs.length):∃g o g' o' x cs cs',A=some ⟨g,o,none⟩∧A'=some ⟨g',o',none⟩∧x∈xs∧P g∧P g'∧E.R w P cs x∧E.R w P cs' x∧cs.length=E.k∧cs'.length=E.k∧w.rangeAt g (o+i*E.k) cs∧w.rangeAt g' (o'+i*E.k) cs':=by
 obtain⟨_,_,e,_,_,h3⟩:=h;obtain⟨_,_,e',_,_,h3'⟩:=h';injection e with e1 e2 e3
 injection e' with T7 e2' e3'
 subst e1 T7;obtain⟨g,o,rfl,hg,_,hc⟩:=h3 (by omega);obtain⟨g',o',rfl,hg',_,hc'⟩:=h3' (by omega);have hx:=List.getElem?_eq_getElem hi;obtain⟨cs,hr,hcell⟩:=hc i _ hx;obtain⟨cs',hr',hcell'⟩:=hc' i _ hx;exact⟨g,o,g',o',_,cs,cs',rfl,rfl,List.getElem_mem hi,hg,hg',hr,hr',E.len hr,E.len hr',fun j u hu=>hcell j u hu,fun j u hu=>hcell' j u hu⟩
theorem pw{P:Program}{ev:Operand→Value}{op:Oper}{w:World}(ty:TypeId)(x:Operand)(ho:op.op=.load ty x)(b o:Nat)(hx:ev x=.pointer (some ⟨b,o,none⟩))(cs:List Value)(d:TypeDesc)(hc:w.rangeAt b o cs)(hu:P.underlying ty=some d)(hd:d.isRow=true)(hi:(P.info? ty).map (·.size)=some cs.length):(execOp ev op).run P w=.ok (.value (.agg cs.toArray)) w:=by
 unfold execOp;simp only[ho,hx,Instr.loadAt,Instr.sureAddr,Sem.run_bind,Sem.run_pure,Result.andThen_ok,run_loadVar_mid w b o ty cs d hc hu hd hi]
theorem fH{P:Program}{ev:Operand→Value}{op:Oper}{w:World}{ty:TypeId}{x:Operand}(ho:op.op=.load ty x){b o:Nat}(hx:ev x=.pointer (some ⟨b,o,none⟩)){cs:List Value}(hc:w.rangeAt b o cs)(hd:((P.underlying ty).map (·.isRow))=some true)(hi:(P.info? ty).map (·.size)=some cs.length):(execOp ev op).run P w=.ok (.value (.agg cs.toArray)) w:=by
 cases hu:P.underlying ty with
 |none=>rw[hu]at hd;cases hd
 |some d=>rw[hu]at hd;injection hd with hd;exact pw ty x ho b o hx cs d hc hu hd hi
theorem bf(k:Nat):il (tab [(k,NT)]):=kG fun p hp=>by
 simp only[List.mem_cons,List.not_mem_nil,or_false]at hp
 subst hp
 exact NT.uO
theorem dY(k:Nat)(v:Value):∀i,∃u,Pl [(k,NS v)] i u:=po fun p hp=>by
 simp only[List.mem_cons,List.not_mem_nil,or_false]at hp
 subst hp
 exact NS.some _
theorem mM:il (tab []):=kG fun p hp=>by cases hp
theorem zE:∀i,∃u,Pl [] i u:=po fun p hp=>by cases hp
theorem Ha{w:World}{g o:Nat}{ce:List Value}{v:Value}(hl:ce.length=8)(h:w.rangeAt g o (ce++[v])):w.rangeAt g o ce∧w.cell? ⟨g,o+8,none⟩=some v:=
 ⟨fun j u hj=>h j u (by rw[List.getElem?_append_left (List.getElem?_eq_some_iff.1 hj).1];exact hj),h 8 v (by rw[List.getElem?_append_right (by omega),hl];rfl)⟩
theorem Kc{w:World}{g o:Nat}{ce:List Value}{v:Value}(h:w.rangeAt g o (v::ce)):w.rangeAt g (o+1) ce∧w.cell? ⟨g,o,none⟩=some v:=
 ⟨fun j u hj=>by
  have:=h (j+1) u hj
  rwa [show o+(j+1)=o+1+j by omega]at this,h 0 v rfl⟩
section
variable{w:World}{P:Nat→Prop}{cs:List Value}{g o:Nat}
theorem JM{e:I.LL}(h:cS.R w P cs e)(ha:w.rangeAt g o cs):∃ce,Kr.R w P ce e.x∧ce.length=8∧w.rangeAt g o ce∧w.cell? ⟨g,o+8,none⟩=some (.s (I.bs e.nm)):=by
 obtain⟨ce,rfl,hx,_⟩:=h;exact⟨ce,hx,Kr.len hx,Ha (Kr.len hx) ha⟩
theorem JE{e:I.Ord}(h:dx.R w P cs e)(ha:w.rangeAt g o cs):∃ce,Kr.R w P ce e.x∧ce.length=8∧w.rangeAt g o ce∧w.cell? ⟨g,o+8,none⟩=some (.bool e.ds):=by
 obtain⟨ce,rfl,hx⟩:=h;exact⟨ce,hx,Kr.len hx,Ha (Kr.len hx) ha⟩
theorem Hq{e:I.La}(h:dG.R w P cs e)(ha:w.rangeAt g o cs):∃ce,Kr.R w P ce e.x∧ce.length=8∧w.rangeAt g (o+1) ce∧w.cell? ⟨g,o,none⟩=some (.s (I.bs e.nm)):=by
 obtain⟨ce,rfl,hx,_⟩:=h;exact⟨ce,hx,Kr.len hx,Kc ha⟩
theorem JG{e:I.Src}(h:bV.R w P cs e)(ha:w.rangeAt g o cs):∃A m c,Rr Kr w P (.slice A m c) e.on∧w.cell? ⟨g,o,none⟩=some (.s (I.bs e.nm))∧w.cell? ⟨g,o+1,none⟩=some (.s (I.bs e.al))∧w.cell? ⟨g,o+2,none⟩=some (.slice A m c):=by
 obtain⟨v,rfl,hv,_,_⟩:=h;obtain⟨A,m,c,rfl⟩:=ar hv;exact⟨A,m,c,hv,ha 0 _ rfl,ha 1 _ rfl,ha 2 _ rfl⟩
theorem JN{e:List Ev.Ex}(h:dM.R w P cs e)(ha:w.rangeAt g o cs):∃A m c,Rr Kr w P (.slice A m c) e∧w.cell? ⟨g,o,none⟩=some (.slice A m c):=by
 obtain⟨v,rfl,hv⟩:=h;obtain⟨A,m,c,rfl⟩:=ar hv;exact⟨A,m,c,hv,ha 0 _ rfl⟩
theorem pvR{e:UInt8}(h:ik.R w P cs e)(ha:w.rangeAt g o cs):w.cell? ⟨g,o,none⟩=some (.u (e.toNat:Int)):=by
 obtain rfl:cs=[.u (e.toNat:Int)]:=h;exact ha 0 _ rfl
end
theorem vZ(p:Ev.Ex→Prop)(q:I.Ky→Prop):(Tb Kr 34 p→Wk Kr 33 p)∧(Tb dC 79 q→Wk dC 35 q):=by
 refine⟨?_,?_⟩<;>intro hC w v v' xs hp hx hy;all_goals
  have HC:=aa hC
  have HP:=aa hp
  obtain⟨A,c,rfl,_,_⟩:=hx.form
  obtain⟨A',c',rfl,_,_⟩:=hy.form
  have HX:=aa hx
  have HY:=aa hy
  clear hC hp hx hy
  have HB:=aa (Below.refl w.heap.size w)
  first|go_enter Tryz.func33,Tryz.ntmps33|go_enter Tryz.func35,Tryz.ntmps35
  go_wp2_with fail
  go_loopg [5] xs.length (fun gg i wr=>∃k:Nat,k≤xs.length∧gg=xs.length-k∧i=.i (k:Int)∧Hid (Below w.heap.size w wr))
  case atStart=>exact⟨0,Nat.zero_le _,rfl,rfl,HB⟩
  case round=>
   clear HB
   obtain⟨k,hk,rfl,rfl,HB⟩:=hrel
   obtain⟨w1,hw⟩:=aab wr
   subst hw
   by_cases hlt:k<xs.length
   ·obtain⟨g,o,g',o',x,cs,cs',rfl,rfl,hm,hg,hg',hr,hr',hl,hl',hra,KV⟩:=Rr.two (HX.o.up HB.o) (HY.o.up HB.o) hlt;have t1:decide ((k:Int)<(xs.length:Int))=true:=decide_eq_true (by omega);have b1:(k:Int)<(xs.length:Int):=by omega
    have HM:=aa hr;have HM':=aa hr';have HA:=aa hra;have HA':=aa KV;have HQ:=aa (HP.o x hm);have IX:=aa (show cs.length=8 from hl);have IY:=aa (show cs'.length=8 from hl');clear hr hr' hra KV hl hl' hm;go_upto_region 6 with fail
    refine bo (tab [(8,NT)]) (Up w1) w1.heap.size 10 (Pl [(8,NS (.bool true))]) (dY _ _) (bf _) (Up.ek _) Na (Na.turns (Up.ek _) (bf _)) (by kernel_rfl) (by kernel_rfl) (Up.start _) (Nat.le_refl _) ?_;simp only[List.take_succ_cons,List.take_zero,List.drop_succ_cons,List.drop_zero];iterate 8 (first|(refine aw (.agg (cs).toArray) rfl rfl (fun w' hS=>fH rfl rfl (rangeAt.up HA.o hg hS) (by kernel_rfl) (by rw[IX.o];kernel_rfl)) ?_;go_frame)|(refine aw (.agg (cs').toArray) rfl rfl (fun w' hS=>fH rfl rfl (rangeAt.up HA'.o hg' hS) (by kernel_rfl) (by rw[IY.o];kernel_rfl)) ?_;go_frame)|(refine aw ?_ rfl rfl (fun w' hS=>?_) ?_;rotate_left;(first|(go_simp;rfl));go_frame))
    refine' cq _ _ _ rfl rfl (fun w'=>?_) (fun w' hS hh hs=>?_) (fun v h=>?_);rotate_left 2
    ·go_simp;constructor<;>rfl
    ·refine(HC.o w' cs cs' x HQ.o (El.up (w:=w1) HM.o hS) (El.up (w:=w1) HM'.o hS)).mono ?_;rintro e w9 ⟨rfl,hb⟩;exact⟨_,rfl,⟨rfl,trivial⟩,hb⟩
    obtain rfl:=h;go_frame;iterate 1 (refine aw ?_ rfl rfl (fun w' hS=>?_) ?_;rotate_left;(first|(go_simp;rfl));go_frame)
    refine cJ fun w2 hH=>?_
    have ND:=aa (HB.o.trans (Below.mono (show Below w1.heap.size w1 w2 from hH.s) HB.o.size));clear hH HC HP HM HM' IX IY HA HA';go_wp2_with fail
    go_roundg (xs.length-(k+1));case measure=>omega
    case rel=>exact⟨k+1,by omega,rfl,by go_num,ND⟩
   ·obtain rfl:k=xs.length:=by omega
    have t1:decide ((xs.length:Int)<(xs.length:Int))=false:=decide_eq_false (by omega);go_wp2_with fail
    go_ret;exact⟨rfl,HB.o⟩
theorem JF(n:Nat)(hL:Wk Kr 33 fun x=>I.depth x≤n):Tb Kr 34 fun x=>I.depth x≤n+1:=by
 intro w cs cs' x hp hx hy;obtain⟨H,A5,m5,c5,ks,d,rfl,rfl,h1,h2,_,h3⟩:=hx;obtain⟨_,A6,m6,c6,_,d',rfl,e,h1',h2',_,h3'⟩:=hy;cases e;have HL:=aa hL;have HP:=aa hp;have L5:=aa (iP h3 h1 h2);have R5:=aa (iP h3' h1' h2');clear h1 h2 h3 h1' h2' h3' hL hp;show Calls Tryz.prog 34 #[.agg #[.u (H.o.toNat:Int),.u (H.v.k.toNat:Int),.i H.v.n,.s H.v.s,.s H.nm,.s H.of,.i H.n,.slice A5 m5 c5],.agg #[.u (H.o.toNat:Int),.u (H.v.k.toNat:Int),.i H.v.n,.s H.v.s,.s H.nm,.s H.of,.i H.n,.slice A6 m6 c6]] w _;go_enter Tryz.func34,Tryz.ntmps34;go_upto_region 1 with fail
 refine MJ fun w1 hw1=>?_
 obtain⟨HG,HR,HB⟩:=eE hw1;clear hw1;have Ks:=(HG.o.below (Below.refl w1.heap.size w1) HG.o.lt).Y8;simp at Ks;have cj2:=(HR.o.below (Below.refl w1.heap.size w1) HR.o.lt).Y8;simp at cj2;have gV:=CN;have vv:∀w:World,(binOp .eql 48 (.agg #[.u (H.v.k.toNat:Int),.i H.v.n,.s H.v.s]) (.agg #[.u (H.v.k.toNat:Int),.i H.v.n,.s H.v.s])).run Tryz.prog w=.ok (.bool true) w:=fun w=>by rw[Iw,(oW _ _).2 rfl]
 go_wp2_with fail
 refine(HL.o w1 _ _ ks (fun k hk=>pX HP.o hk) (Rr.up L5.o HB.o) (Rr.up R5.o HB.o)).mono ?_;rintro e w2 ⟨rfl,hb⟩;have HB2:=aa (HB.o.trans (hb.mono HB.o.size));clear hb HL HP L5 R5;go_wp2_with fail
 go_ret;exact⟨rfl,HB2.o⟩
theorem Zi:∀n:Nat,Tb Kr 34 fun x=>I.depth x≤n:=by
 intro n;induction n with
 |zero=>intro w cs cs' x hp;have:=I.ei x;omega
 |succ n ih=>exact JF n ((vZ _ fun _=>True).1 ih)
theorem kE:Tb Kr 34 fun _=>True:=fun w cs cs' x _ hx hy=>Zi (I.depth x) w cs cs' x (Nat.le_refl _) hx hy
theorem kL:Wk Kr 33 fun _=>True:=(vZ _ fun _=>True).1 kE
theorem kC:Tb dC 79 fun _=>True:=by
 intro w cs cs' x _ hx hy;obtain⟨v,rfl,hv,_,_⟩:=hx;obtain⟨u,rfl,hu,_,_⟩:=hy;obtain⟨A,mA,cA,rfl⟩:=ar hv;obtain⟨B,mB,cB,rfl⟩:=ar hu;have L:=aa hv;have R:=aa hu;clear hv hu;show Calls Tryz.prog 79 #[.agg #[.s (I.bs x.nm),.u (x.k.toNat:Int),.bool x.pr,.bool x.nn,.bool x.un,.slice A mA cA,.s (I.bs x.rf),.u (x.ac.toNat:Int)],.agg #[.s (I.bs x.nm),.u (x.k.toNat:Int),.bool x.pr,.bool x.nn,.bool x.un,.slice B mB cB,.s (I.bs x.rf),.u (x.ac.toNat:Int)]] w _;go_enter Tryz.func79,Tryz.ntmps79;go_upto_region 1 with fail
 refine MJ fun w1 hw1=>?_
 obtain⟨HG,HR,HB⟩:=eE hw1;clear hw1;have Ks:=(HG.o.below (Below.refl w1.heap.size w1) HG.o.lt).Y8;simp at Ks;have cj2:=(HR.o.below (Below.refl w1.heap.size w1) HR.o.lt).Y8;simp at cj2;go_wp2_with fail
 refine(kL w1 _ _ x.ck (fun _ _=>trivial) (Rr.up L.o HB.o) (Rr.up R.o HB.o)).mono ?_;rintro e w2 ⟨rfl,hb⟩;have HB2:=aa (HB.o.trans (hb.mono HB.o.size));clear hb L R;go_wp2_with fail
 go_ret;exact⟨rfl,HB2.o⟩
theorem kCs:Wk dC 35 fun _=>True:=(vZ (fun _=>True) _).2 kC
theorem Zj:Tb eB 32 fun _=>True:=by
 intro w cs cs' x _ hx hy;obtain⟨v1,v2,v3,v4,v5,rfl,p1,p2,p3,p4,p5,_,_⟩:=hx;obtain⟨u1,u2,u3,u4,u5,rfl,q1,q2,q3,q4,q5,_,_⟩:=hy;obtain⟨A1,c1,rfl,_,_⟩:=p1.form;obtain⟨Zk,Zl,rfl,_,_⟩:=q1.form;have L1:=aa p1;have R1:=aa q1;clear p1 q1;obtain⟨A2,c2,rfl,_,_⟩:=p2.form;obtain⟨Zm,Zn,rfl,_,_⟩:=q2.form;have L2:=aa p2;have R2:=aa q2;clear p2 q2;obtain⟨A3,c3,rfl,_,_⟩:=p3.form;obtain⟨zA3,zc3,rfl,_,_⟩:=q3.form;have L3:=aa p3;have R3:=aa q3;clear p3 q3;obtain⟨A4,c4,rfl,_,_⟩:=p4.form;obtain⟨zA4,zc4,rfl,_,_⟩:=q4.form;have L4:=aa p4;have R4:=aa q4;clear p4 q4;obtain⟨A5,c5,rfl,_,_⟩:=p5.form;obtain⟨Uc,Ud,rfl,_,_⟩:=q5.form;have L5:=aa p5;have R5:=aa q5;clear p5 q5;show Calls Tryz.prog 32 #[.agg #[.bool x.all,.slice A1 x.its.length c1,.slice A2 x.fr.length c2,.slice A3 x.wh.length c3,.slice A4 x.gr.length c4,.slice A5 x.od.length c5,.i x.lim],.agg #[.bool x.all,.slice Zk x.its.length Zl,.slice Zm x.fr.length Zn,.slice zA3 x.wh.length zc3,.slice zA4 x.gr.length zc4,.slice Uc x.od.length Ud,.i x.lim]] w _;go_enter Tryz.func32,Tryz.ntmps32;go_upto_region 1 with fail
 refine MJ fun w1 hw1=>?_
 obtain⟨HG,HR,HB⟩:=eE hw1;clear hw1;have Ko:=aa (Below.refl w1.heap.size w1);have Ks:=(HG.o.below Ko.o HG.o.lt).Y7;simp at Ks;have cj2:=(HR.o.below Ko.o HR.o.lt).Y7;simp at cj2;go_wp2_with fail
 go_loopg [5] x.its.length (fun gg i wr=>∃k:Nat,k≤x.its.length∧gg=x.its.length-k∧i=.i (k:Int)∧Hid (Below w1.heap.size w1 wr));case atStart=>exact⟨0,Nat.zero_le _,rfl,rfl,Ko⟩
 case round=>
  clear Ko Ks cj2;obtain⟨k,hk,rfl,rfl,Ko⟩:=hrel;obtain⟨Ok,hw⟩:=aab wr;subst hw;obtain⟨x0,x1,x2,x3,x4,x5,x6⟩:=(HG.o.below Ko.o HG.o.lt).Y7;simp at x0 x1 x2 x3 x4 x5 x6;obtain⟨y0,y1,y2,y3,y4,y5,y6⟩:=(HR.o.below Ko.o HR.o.lt).Y7;simp at y0 y1 y2 y3 y4 y5 y6;by_cases hlt:k<x.its.length
  ·obtain⟨g,o,g',o',e,cs,cs',rfl,rfl,hm,hg,hg',hr,hr',hl,hl',hra,KV⟩:=Rr.two (L1.o.up (HB.o.trans (Ko.o.mono HB.o.size))) (R1.o.up (HB.o.trans (Ko.o.mono HB.o.size))) hlt;have t1:decide ((k:Int)<(x.its.length:Int))=true:=decide_eq_true (by omega);have b1:(k:Int)<(x.its.length:Int):=by omega
   have bG:=(HG.o.below Ko.o HG.o.lt).lt;have bR:=(HR.o.below Ko.o HR.o.lt).lt;obtain⟨ce,hX,lx,Tc,n1⟩:=JM hr hra;obtain⟨de,hY,ly,Td,n1'⟩:=JM hr' KV;have HX:=aa hX;have HY:=aa hY;have RX:=aa Tc;have RY:=aa Td;have IX:Hid ((Tryz.prog.info? 50).map (·.size)=some ce.length):=aa (by rw[lx];exact cV);have IY:Hid ((Tryz.prog.info? 50).map (·.size)=some de.length):=aa (by rw[ly];exact cV);clear hX hY Tc Td lx ly hr hr' hra KV hl hl' hm;go_upto_region 6 with fail
   refine bo (tab [(26,NT)]) (Up Ok) Ok.heap.size 29 (Pl [(26,NS (.bool true))]) (dY _ _) (bf _) (Up.ek _) Na (Na.turns (Up.ek _) (bf _)) (by kernel_rfl) (by kernel_rfl) (Up.start _) (Nat.le_refl _) ?_;simp only[List.take_succ_cons,List.take_zero,List.drop_succ_cons,List.drop_zero];iterate 26 (first|(refine aw (.agg (ce).toArray) rfl rfl (fun w' hS=>fH rfl rfl (rangeAt.up RX.o hg hS) (by kernel_rfl) IX.o) ?_;go_frame)|(refine aw (.agg (de).toArray) rfl rfl (fun w' hS=>fH rfl rfl (rangeAt.up RY.o hg' hS) (by kernel_rfl) IY.o) ?_;go_frame)|(refine aw ?_ rfl rfl (fun w' hS=>?_) ?_;rotate_left;(first|(go_simp;rfl)|(have l0:=(hS.cell (p:=⟨w.heap.size,1,none⟩) bG).trans x1;go_simp;rfl)|(have l0:=(hS.cell (p:=⟨w.heap.size+1,1,none⟩) bR).trans y1;go_simp;rfl)|(have l0:=(hS.cell (p:=⟨g,o+k*9+8,none⟩) hg).trans n1;go_simp;rfl)|(have l0:=(hS.cell (p:=⟨g',o'+k*9+8,none⟩) hg').trans n1';go_simp;rfl));go_frame))
   refine' cq _ _ _ rfl rfl (fun w'=>?_) (fun w' hS hh hs=>?_) (fun v h=>?_);rotate_left 2
   ·go_simp;constructor<;>rfl
   ·refine(kE w' ce de e.x trivial (El.up (w:=Ok) HX.o hS) (El.up (w:=Ok) HY.o hS)).mono ?_;rintro e w9 ⟨rfl,hb⟩;exact⟨_,rfl,⟨rfl,trivial⟩,hb⟩
   obtain rfl:=h;go_frame;iterate 2 (refine aw ?_ rfl rfl (fun w' hS=>?_) ?_;rotate_left;(first|(go_simp;rfl));go_frame)
   refine cJ fun w2 hH=>?_
   have OD:=aa (Ko.o.trans (Below.mono (show Below Ok.heap.size Ok w2 from hH.s) Ko.o.size));clear hH Ko HX HY RX RY IX IY;go_wp2_with fail
   go_roundg (x.its.length-(k+1));case measure=>omega
   case rel=>exact⟨k+1,by omega,rfl,by go_num,OD⟩
  ·obtain rfl:k=x.its.length:=by omega
   have t1:decide ((x.its.length:Int)<(x.its.length:Int))=false:=decide_eq_false (by omega);clear hlt;go_wp2_with fail
   go_loopg [6] x.fr.length (fun gg i wr=>∃k:Nat,k≤x.fr.length∧gg=x.fr.length-k∧i=.i (k:Int)∧Hid (Below w1.heap.size w1 wr));case atStart=>exact⟨0,Nat.zero_le _,rfl,rfl,Ko⟩
   case round=>
    clear Ko x0 y0 x1 y1 x2 y2 x3 y3 x4 y4 x5 y5 x6 y6;obtain⟨k,hk,rfl,rfl,Ko⟩:=hrel;obtain⟨Ol,hw⟩:=aab wr;subst hw;obtain⟨x0,x1,x2,x3,x4,x5,x6⟩:=(HG.o.below Ko.o HG.o.lt).Y7;simp at x0 x1 x2 x3 x4 x5 x6;obtain⟨y0,y1,y2,y3,y4,y5,y6⟩:=(HR.o.below Ko.o HR.o.lt).Y7;simp at y0 y1 y2 y3 y4 y5 y6;by_cases hlt:k<x.fr.length
    ·obtain⟨g,o,g',o',e,cs,cs',rfl,rfl,hm,hg,hg',hr,hr',hl,hl',hra,KV⟩:=Rr.two (L2.o.up (HB.o.trans (Ko.o.mono HB.o.size))) (R2.o.up (HB.o.trans (Ko.o.mono HB.o.size))) hlt;have t1:decide ((k:Int)<(x.fr.length:Int))=true:=decide_eq_true (by omega);have b1:(k:Int)<(x.fr.length:Int):=by omega
     have bG:=(HG.o.below Ko.o HG.o.lt).lt;have bR:=(HR.o.below Ko.o HR.o.lt).lt;obtain⟨AX,mX,cX,hX,n0,n1,n2⟩:=JG hr hra;obtain⟨AY,mY,cY,hY,Ue,n1',n2'⟩:=JG hr' KV;have HX:=aa hX;have HY:=aa hY;clear hX hY hr hr' hra KV hl hl' hm;go_upto_region 11 with fail
     refine bo (tab [(41,NT)]) (Up Ol) Ol.heap.size 44 (Pl [(41,NS (.bool true))]) (dY _ _) (bf _) (Up.ek _) Na (Na.turns (Up.ek _) (bf _)) (by kernel_rfl) (by kernel_rfl) (Up.start _) (Nat.le_refl _) ?_;simp only[List.take_succ_cons,List.take_zero,List.drop_succ_cons,List.drop_zero];iterate 41 (refine aw ?_ rfl rfl (fun w' hS=>?_) ?_;rotate_left;(first|(go_simp;rfl)|(have l0:=(hS.cell (p:=⟨w.heap.size,2,none⟩) bG).trans x2;go_simp;rfl)|(have l0:=(hS.cell (p:=⟨w.heap.size+1,2,none⟩) bR).trans y2;go_simp;rfl)|(have l0:=(hS.cell (p:=⟨g,o+k*3,none⟩) hg).trans n0;go_simp;rfl)|(have l0:=(hS.cell (p:=⟨g,o+k*3+1,none⟩) hg).trans n1;go_simp;rfl)|(have l0:=(hS.cell (p:=⟨g,o+k*3+2,none⟩) hg).trans n2;go_simp;rfl)|(have l0:=(hS.cell (p:=⟨g',o'+k*3,none⟩) hg').trans Ue;go_simp;rfl)|(have l0:=(hS.cell (p:=⟨g',o'+k*3+1,none⟩) hg').trans n1';go_simp;rfl)|(have l0:=(hS.cell (p:=⟨g',o'+k*3+2,none⟩) hg').trans n2';go_simp;rfl));go_frame)
     refine' cq _ _ _ rfl rfl (fun w'=>?_) (fun w' hS hh hs=>?_) (fun v h=>?_);rotate_left 2
     ·go_simp;constructor<;>rfl
     ·refine(kL w' _ _ e.on (fun _ _=>trivial) (Rr.up (w:=Ol) HX.o hS) (Rr.up (w:=Ol) HY.o hS)).mono ?_;rintro e w9 ⟨rfl,hb⟩;exact⟨_,rfl,⟨rfl,trivial⟩,hb⟩
     obtain rfl:=h;go_frame;iterate 2 (refine aw ?_ rfl rfl (fun w' hS=>?_) ?_;rotate_left;(first|(go_simp;rfl));go_frame)
     refine cJ fun w2 hH=>?_
     have OD:=aa (Ko.o.trans (Below.mono (show Below Ol.heap.size Ol w2 from hH.s) Ko.o.size));clear hH Ko HX HY;go_wp2_with fail
     go_roundg (x.fr.length-(k+1));case measure=>omega
     case rel=>exact⟨k+1,by omega,rfl,by go_num,OD⟩
    ·obtain rfl:k=x.fr.length:=by omega
     have t1:decide ((x.fr.length:Int)<(x.fr.length:Int))=false:=decide_eq_false (by omega);clear hlt;go_wp2_with fail
     go_loopg [7] x.od.length (fun gg i wr=>∃k:Nat,k≤x.od.length∧gg=x.od.length-k∧i=.i (k:Int)∧Hid (Below w1.heap.size w1 wr));case atStart=>exact⟨0,Nat.zero_le _,rfl,rfl,Ko⟩
     case round=>
      clear Ko x0 y0 x1 y1 x2 y2 x3 y3 x4 y4 x5 y5 x6 y6;obtain⟨k,hk,rfl,rfl,Ko⟩:=hrel;obtain⟨NU,hw⟩:=aab wr;subst hw;obtain⟨x0,x1,x2,x3,x4,x5,x6⟩:=(HG.o.below Ko.o HG.o.lt).Y7;simp at x0 x1 x2 x3 x4 x5 x6;obtain⟨y0,y1,y2,y3,y4,y5,y6⟩:=(HR.o.below Ko.o HR.o.lt).Y7;simp at y0 y1 y2 y3 y4 y5 y6;by_cases hlt:k<x.od.length
      ·obtain⟨g,o,g',o',e,cs,cs',rfl,rfl,hm,hg,hg',hr,hr',hl,hl',hra,KV⟩:=Rr.two (L5.o.up (HB.o.trans (Ko.o.mono HB.o.size))) (R5.o.up (HB.o.trans (Ko.o.mono HB.o.size))) hlt;have t1:decide ((k:Int)<(x.od.length:Int))=true:=decide_eq_true (by omega);have b1:(k:Int)<(x.od.length:Int):=by omega
       have bG:=(HG.o.below Ko.o HG.o.lt).lt;have bR:=(HR.o.below Ko.o HR.o.lt).lt;obtain⟨ce,hX,lx,Tc,n1⟩:=JE hr hra;obtain⟨de,hY,ly,Td,n1'⟩:=JE hr' KV;have HX:=aa hX;have HY:=aa hY;have RX:=aa Tc;have RY:=aa Td;have IX:Hid ((Tryz.prog.info? 50).map (·.size)=some ce.length):=aa (by rw[lx];exact cV);have IY:Hid ((Tryz.prog.info? 50).map (·.size)=some de.length):=aa (by rw[ly];exact cV);clear hX hY Tc Td lx ly hr hr' hra KV hl hl' hm;go_upto_region 16 with fail
       refine bo (tab [(26,NT)]) (Up NU) NU.heap.size 29 (Pl [(26,NS (.bool true))]) (dY _ _) (bf _) (Up.ek _) Na (Na.turns (Up.ek _) (bf _)) (by kernel_rfl) (by kernel_rfl) (Up.start _) (Nat.le_refl _) ?_;simp only[List.take_succ_cons,List.take_zero,List.drop_succ_cons,List.drop_zero];iterate 26 (first|(refine aw (.agg (ce).toArray) rfl rfl (fun w' hS=>fH rfl rfl (rangeAt.up RX.o hg hS) (by kernel_rfl) IX.o) ?_;go_frame)|(refine aw (.agg (de).toArray) rfl rfl (fun w' hS=>fH rfl rfl (rangeAt.up RY.o hg' hS) (by kernel_rfl) IY.o) ?_;go_frame)|(refine aw ?_ rfl rfl (fun w' hS=>?_) ?_;rotate_left;(first|(go_simp;rfl)|(have l0:=(hS.cell (p:=⟨w.heap.size,5,none⟩) bG).trans x5;go_simp;rfl)|(have l0:=(hS.cell (p:=⟨w.heap.size+1,5,none⟩) bR).trans y5;go_simp;rfl)|(have l0:=(hS.cell (p:=⟨g,o+k*9+8,none⟩) hg).trans n1;go_simp;rfl)|(have l0:=(hS.cell (p:=⟨g',o'+k*9+8,none⟩) hg').trans n1';go_simp;rfl));go_frame))
       refine' cq _ _ _ rfl rfl (fun w'=>?_) (fun w' hS hh hs=>?_) (fun v h=>?_);rotate_left 2
       ·go_simp;constructor<;>rfl
       ·refine(kE w' ce de e.x trivial (El.up (w:=NU) HX.o hS) (El.up (w:=NU) HY.o hS)).mono ?_;rintro e w9 ⟨rfl,hb⟩;exact⟨_,rfl,⟨rfl,trivial⟩,hb⟩
       obtain rfl:=h;go_frame;iterate 2 (refine aw ?_ rfl rfl (fun w' hS=>?_) ?_;rotate_left;(first|(go_simp;rfl));go_frame)
       refine cJ fun w2 hH=>?_
       have OD:=aa (Ko.o.trans (Below.mono (show Below NU.heap.size NU w2 from hH.s) Ko.o.size));clear hH Ko HX HY RX RY IX IY;go_wp2_with fail
       go_roundg (x.od.length-(k+1));case measure=>omega
       case rel=>exact⟨k+1,by omega,rfl,by go_num,OD⟩
      ·obtain rfl:k=x.od.length:=by omega
       have t1:decide ((x.od.length:Int)<(x.od.length:Int))=false:=decide_eq_false (by omega);clear hlt;go_wp2_with fail
       refine(kL NU _ _ x.wh (fun _ _=>trivial) (Rr.up L3.o (HB.o.trans (Ko.o.mono HB.o.size))) (Rr.up R3.o (HB.o.trans (Ko.o.mono HB.o.size)))).mono ?_;rintro e we3 ⟨rfl,hb⟩;have KF:=aa (Ko.o.trans (hb.mono Ko.o.size));clear Ko hb x0 y0 x1 y1 x2 y2 x3 y3 x4 y4 x5 y5 x6 y6;have Ko:=KF;clear KF;have K0:=(HG.o.below Ko.o HG.o.lt).Y7;simp at K0;have Le:=(HR.o.below Ko.o HR.o.lt).Y7;simp at Le;go_wp2_with fail
       refine(kL we3 _ _ x.gr (fun _ _=>trivial) (Rr.up L4.o (HB.o.trans (Ko.o.mono HB.o.size))) (Rr.up R4.o (HB.o.trans (Ko.o.mono HB.o.size)))).mono ?_;rintro e we4 ⟨rfl,hb⟩;have KF:=aa (Ko.o.trans (hb.mono Ko.o.size));clear Ko hb K0 Le;have Ko:=KF;clear KF;have Ly:=(HG.o.below Ko.o HG.o.lt).Y7;simp at Ly;have Mj:=(HR.o.below Ko.o HR.o.lt).Y7;simp at Mj;go_wp2_with fail
       go_ret;exact⟨rfl,HB.o.trans (Ko.o.mono HB.o.size)⟩
theorem Zo:Tb aB 10 fun _=>True:=by
 intro w cs cs' x _ hx hy;obtain⟨v1,v2,v3,v4,v5,v6,rfl,p5,p6,p7,p8,p9,QP,_,_,_,_⟩:=hx;obtain⟨u1,u2,u3,u4,u5,u6,rfl,q5,q6,q7,q8,q9,RN,_,_,_,_⟩:=hy;obtain⟨A5,c5,rfl,_,_⟩:=p5.form;obtain⟨Uc,Ud,rfl,_,_⟩:=q5.form;have L5:=aa p5;have R5:=aa q5;clear p5 q5;obtain⟨A6,c6,rfl,_,_⟩:=p6.form;obtain⟨zA6,zc6,rfl,_,_⟩:=q6.form;have L6:=aa p6;have R6:=aa q6;clear p6 q6;obtain⟨A7,c7,rfl,_,_⟩:=p7.form;obtain⟨zA7,zc7,rfl,_,_⟩:=q7.form;have L7:=aa p7;have R7:=aa q7;clear p7 q7;obtain⟨A8,c8,rfl,_,_⟩:=p8.form;obtain⟨zA8,zc8,rfl,_,_⟩:=q8.form;have L8:=aa p8;have R8:=aa q8;clear p8 q8;obtain⟨A9,c9,rfl,_,_⟩:=p9.form;obtain⟨zA9,zc9,rfl,_,_⟩:=q9.form;have L9:=aa p9;have R9:=aa q9;clear p9 q9;obtain⟨NV,c10,rfl,_,_⟩:=QP.form;obtain⟨Wl,Wm,rfl,_,_⟩:=RN.form;have Pm:=aa QP;have Zp:=aa RN;clear QP RN;show Calls Tryz.prog 10 #[.agg #[.u (x.k.toNat:Int),.s (I.bs x.nm),.s (I.bs x.on),.s (I.bs x.aF),.u (x.ev.toNat:Int),.slice A5 x.Kv.length c5,.slice A6 x.q.length c6,.slice A7 x.vals.length c7,.slice A8 x.bu.length c8,.slice A9 x.wh.length c9,.slice NV x.pv.length c10,.bool x.opt,.s (I.bs x.key)],.agg #[.u (x.k.toNat:Int),.s (I.bs x.nm),.s (I.bs x.on),.s (I.bs x.aF),.u (x.ev.toNat:Int),.slice Uc x.Kv.length Ud,.slice zA6 x.q.length zc6,.slice zA7 x.vals.length zc7,.slice zA8 x.bu.length zc8,.slice zA9 x.wh.length zc9,.slice Wl x.pv.length Wm,.bool x.opt,.s (I.bs x.key)]] w _;go_enter Tryz.func10,Tryz.ntmps10;go_upto_region 1 with fail
 refine MJ fun w1 hw1=>?_
 obtain⟨HG,HR,HB⟩:=eE hw1;clear hw1;have Ko:=aa (Below.refl w1.heap.size w1);have Ks:=(HG.o.below Ko.o HG.o.lt).KI;simp at Ks;have cj2:=(HR.o.below Ko.o HR.o.lt).KI;simp at cj2;go_wp2_with fail
 go_loopg [5] x.q.length (fun gg i wr=>∃k:Nat,k≤x.q.length∧gg=x.q.length-k∧i=.i (k:Int)∧Hid (Below w1.heap.size w1 wr));case atStart=>exact⟨0,Nat.zero_le _,rfl,rfl,Ko⟩
 case round=>
  clear Ko Ks cj2;obtain⟨k,hk,rfl,rfl,Ko⟩:=hrel;obtain⟨Ok,hw⟩:=aab wr;subst hw;obtain⟨x0,x1,x2,x3,x4,x5,x6,x7,x8,x9,O0,Om,Ml⟩:=(HG.o.below Ko.o HG.o.lt).KI;simp at x0 x1 x2 x3 x4 x5 x6 x7 x8 x9 O0 Om Ml;obtain⟨y0,y1,y2,y3,y4,y5,y6,y7,y8,y9,QB,QQ,QT⟩:=(HR.o.below Ko.o HR.o.lt).KI;simp at y0 y1 y2 y3 y4 y5 y6 y7 y8 y9 QB QQ QT;by_cases hlt:k<x.q.length
  ·obtain⟨g,o,g',o',e,cs,cs',rfl,rfl,hm,hg,hg',hr,hr',hl,hl',hra,KV⟩:=Rr.two (L6.o.up (HB.o.trans (Ko.o.mono HB.o.size))) (R6.o.up (HB.o.trans (Ko.o.mono HB.o.size))) hlt;have t1:decide ((k:Int)<(x.q.length:Int))=true:=decide_eq_true (by omega);have b1:(k:Int)<(x.q.length:Int):=by omega
   have bG:=(HG.o.below Ko.o HG.o.lt).lt;have bR:=(HR.o.below Ko.o HR.o.lt).lt;have HX:=aa hr;have HY:=aa hr';have RX:=aa hra;have RY:=aa KV;have IX:Hid ((Tryz.prog.info? 45).map (·.size)=some cs.length):=aa (by rw[hl];exact kT);have IY:Hid ((Tryz.prog.info? 45).map (·.size)=some cs'.length):=aa (by rw[hl'];exact kT);clear hr hr' hra KV hl hl' hm;go_upto_region 6 with fail
   refine bo (tab [(10,NT)]) (Up Ok) Ok.heap.size 12 (Pl [(10,NS (.bool true))]) (dY _ _) (bf _) (Up.ek _) Na (Na.turns (Up.ek _) (bf _)) (by kernel_rfl) (by kernel_rfl) (Up.start _) (Nat.le_refl _) ?_;simp only[List.take_succ_cons,List.take_zero,List.drop_succ_cons,List.drop_zero];iterate 10 (first|(refine aw (.agg (cs).toArray) rfl rfl (fun w' hS=>fH rfl rfl (rangeAt.up RX.o hg hS) (by kernel_rfl) IX.o) ?_;go_frame)|(refine aw (.agg (cs').toArray) rfl rfl (fun w' hS=>fH rfl rfl (rangeAt.up RY.o hg' hS) (by kernel_rfl) IY.o) ?_;go_frame)|(refine aw ?_ rfl rfl (fun w' hS=>?_) ?_;rotate_left;(first|(go_simp;rfl)|(have l0:=(hS.cell (p:=⟨w.heap.size,6,none⟩) bG).trans x6;go_simp;rfl)|(have l0:=(hS.cell (p:=⟨w.heap.size+1,6,none⟩) bR).trans y6;go_simp;rfl));go_frame))
   refine' cq _ _ _ rfl rfl (fun w'=>?_) (fun w' hS hh hs=>?_) (fun v h=>?_);rotate_left 2
   ·go_simp;constructor<;>rfl
   ·refine(Zj w' cs cs' e trivial (El.up (w:=Ok) HX.o hS) (El.up (w:=Ok) HY.o hS)).mono ?_;rintro e w9 ⟨rfl,hb⟩;exact⟨_,rfl,⟨rfl,trivial⟩,hb⟩
   obtain rfl:=h;go_frame;iterate 1 (refine aw ?_ rfl rfl (fun w' hS=>?_) ?_;rotate_left;(first|(go_simp;rfl));go_frame)
   refine cJ fun w2 hH=>?_
   have OD:=aa (Ko.o.trans (Below.mono (show Below Ok.heap.size Ok w2 from hH.s) Ko.o.size));clear hH Ko HX HY RX RY IX IY;go_wp2_with fail
   go_roundg (x.q.length-(k+1));case measure=>omega
   case rel=>exact⟨k+1,by omega,rfl,by go_num,OD⟩
  ·obtain rfl:k=x.q.length:=by omega
   have t1:decide ((x.q.length:Int)<(x.q.length:Int))=false:=decide_eq_false (by omega);clear hlt;go_wp2_with fail
   go_loopg [6] x.vals.length (fun gg i wr=>∃k:Nat,k≤x.vals.length∧gg=x.vals.length-k∧i=.i (k:Int)∧Hid (Below w1.heap.size w1 wr));case atStart=>exact⟨0,Nat.zero_le _,rfl,rfl,Ko⟩
   case round=>
    clear Ko x0 y0 x1 y1 x2 y2 x3 y3 x4 y4 x5 y5 x6 y6 x7 y7 x8 y8 x9 y9 O0 QB Om QQ Ml QT;obtain⟨k,hk,rfl,rfl,Ko⟩:=hrel;obtain⟨Ol,hw⟩:=aab wr;subst hw;obtain⟨x0,x1,x2,x3,x4,x5,x6,x7,x8,x9,O0,Om,Ml⟩:=(HG.o.below Ko.o HG.o.lt).KI;simp at x0 x1 x2 x3 x4 x5 x6 x7 x8 x9 O0 Om Ml;obtain⟨y0,y1,y2,y3,y4,y5,y6,y7,y8,y9,QB,QQ,QT⟩:=(HR.o.below Ko.o HR.o.lt).KI;simp at y0 y1 y2 y3 y4 y5 y6 y7 y8 y9 QB QQ QT;by_cases hlt:k<x.vals.length
    ·obtain⟨g,o,g',o',e,cs,cs',rfl,rfl,hm,hg,hg',hr,hr',hl,hl',hra,KV⟩:=Rr.two (L7.o.up (HB.o.trans (Ko.o.mono HB.o.size))) (R7.o.up (HB.o.trans (Ko.o.mono HB.o.size))) hlt;have t1:decide ((k:Int)<(x.vals.length:Int))=true:=decide_eq_true (by omega);have b1:(k:Int)<(x.vals.length:Int):=by omega
     have bG:=(HG.o.below Ko.o HG.o.lt).lt;have bR:=(HR.o.below Ko.o HR.o.lt).lt;obtain⟨AX,mX,cX,hX,n0⟩:=JN hr hra;obtain⟨AY,mY,cY,hY,Ue⟩:=JN hr' KV;simp only[show dM.k=1 from rfl,Nat.mul_one]at n0 Ue;have HX:=aa hX;have HY:=aa hY;clear hX hY hr hr' hra KV hl hl' hm;go_upto_region 11 with fail
     refine bo (tab [(10,NT)]) (Up Ol) Ol.heap.size 12 (Pl [(10,NS (.bool true))]) (dY _ _) (bf _) (Up.ek _) Na (Na.turns (Up.ek _) (bf _)) (by kernel_rfl) (by kernel_rfl) (Up.start _) (Nat.le_refl _) ?_;simp only[List.take_succ_cons,List.take_zero,List.drop_succ_cons,List.drop_zero];iterate 10 (refine aw ?_ rfl rfl (fun w' hS=>?_) ?_;rotate_left;(first|(go_simp;rfl)|(have l0:=(hS.cell (p:=⟨w.heap.size,7,none⟩) bG).trans x7;go_simp;rfl)|(have l0:=(hS.cell (p:=⟨w.heap.size+1,7,none⟩) bR).trans y7;go_simp;rfl)|(have l0:=(hS.cell (p:=⟨g,o+k,none⟩) hg).trans n0;go_simp;rfl)|(have l0:=(hS.cell (p:=⟨g',o'+k,none⟩) hg').trans Ue;go_simp;rfl));go_frame)
     refine' cq _ _ _ rfl rfl (fun w'=>?_) (fun w' hS hh hs=>?_) (fun v h=>?_);rotate_left 2
     ·go_simp;constructor<;>rfl
     ·refine(kL w' _ _ e (fun _ _=>trivial) (Rr.up (w:=Ol) HX.o hS) (Rr.up (w:=Ol) HY.o hS)).mono ?_;rintro e w9 ⟨rfl,hb⟩;exact⟨_,rfl,⟨rfl,trivial⟩,hb⟩
     obtain rfl:=h;go_frame;iterate 1 (refine aw ?_ rfl rfl (fun w' hS=>?_) ?_;rotate_left;(first|(go_simp;rfl));go_frame)
     refine cJ fun w2 hH=>?_
     have OD:=aa (Ko.o.trans (Below.mono (show Below Ol.heap.size Ol w2 from hH.s) Ko.o.size));clear hH Ko HX HY;go_wp2_with fail
     go_roundg (x.vals.length-(k+1));case measure=>omega
     case rel=>exact⟨k+1,by omega,rfl,by go_num,OD⟩
    ·obtain rfl:k=x.vals.length:=by omega
     have t1:decide ((x.vals.length:Int)<(x.vals.length:Int))=false:=decide_eq_false (by omega);clear hlt;go_wp2_with fail
     go_loopg [7] x.bu.length (fun gg i wr=>∃k:Nat,k≤x.bu.length∧gg=x.bu.length-k∧i=.i (k:Int)∧Hid (Below w1.heap.size w1 wr));case atStart=>exact⟨0,Nat.zero_le _,rfl,rfl,Ko⟩
     case round=>
      clear Ko x0 y0 x1 y1 x2 y2 x3 y3 x4 y4 x5 y5 x6 y6 x7 y7 x8 y8 x9 y9 O0 QB Om QQ Ml QT;obtain⟨k,hk,rfl,rfl,Ko⟩:=hrel;obtain⟨NU,hw⟩:=aab wr;subst hw;obtain⟨x0,x1,x2,x3,x4,x5,x6,x7,x8,x9,O0,Om,Ml⟩:=(HG.o.below Ko.o HG.o.lt).KI;simp at x0 x1 x2 x3 x4 x5 x6 x7 x8 x9 O0 Om Ml;obtain⟨y0,y1,y2,y3,y4,y5,y6,y7,y8,y9,QB,QQ,QT⟩:=(HR.o.below Ko.o HR.o.lt).KI;simp at y0 y1 y2 y3 y4 y5 y6 y7 y8 y9 QB QQ QT;by_cases hlt:k<x.bu.length
      ·obtain⟨g,o,g',o',e,cs,cs',rfl,rfl,hm,hg,hg',hr,hr',hl,hl',hra,KV⟩:=Rr.two (L8.o.up (HB.o.trans (Ko.o.mono HB.o.size))) (R8.o.up (HB.o.trans (Ko.o.mono HB.o.size))) hlt;have t1:decide ((k:Int)<(x.bu.length:Int))=true:=decide_eq_true (by omega);have b1:(k:Int)<(x.bu.length:Int):=by omega
       have bG:=(HG.o.below Ko.o HG.o.lt).lt;have bR:=(HR.o.below Ko.o HR.o.lt).lt;obtain⟨ce,hX,lx,Tc,n1⟩:=Hq hr hra;obtain⟨de,hY,ly,Td,n1'⟩:=Hq hr' KV;have HX:=aa hX;have HY:=aa hY;have RX:=aa Tc;have RY:=aa Td;have IX:Hid ((Tryz.prog.info? 50).map (·.size)=some ce.length):=aa (by rw[lx];exact cV);have IY:Hid ((Tryz.prog.info? 50).map (·.size)=some de.length):=aa (by rw[ly];exact cV);clear hX hY Tc Td lx ly hr hr' hra KV hl hl' hm;go_upto_region 16 with fail
       refine bo (tab [(26,NT)]) (Up NU) NU.heap.size 29 (Pl [(26,NS (.bool true))]) (dY _ _) (bf _) (Up.ek _) Na (Na.turns (Up.ek _) (bf _)) (by kernel_rfl) (by kernel_rfl) (Up.start _) (Nat.le_refl _) ?_;simp only[List.take_succ_cons,List.take_zero,List.drop_succ_cons,List.drop_zero];iterate 26 (first|(refine aw (.agg (ce).toArray) rfl rfl (fun w' hS=>fH rfl rfl (rangeAt.up RX.o hg hS) (by kernel_rfl) IX.o) ?_;go_frame)|(refine aw (.agg (de).toArray) rfl rfl (fun w' hS=>fH rfl rfl (rangeAt.up RY.o hg' hS) (by kernel_rfl) IY.o) ?_;go_frame)|(refine aw ?_ rfl rfl (fun w' hS=>?_) ?_;rotate_left;(first|(go_simp;rfl)|(have l0:=(hS.cell (p:=⟨w.heap.size,8,none⟩) bG).trans x8;go_simp;rfl)|(have l0:=(hS.cell (p:=⟨w.heap.size+1,8,none⟩) bR).trans y8;go_simp;rfl)|(have l0:=(hS.cell (p:=⟨g,o+k*9,none⟩) hg).trans n1;go_simp;rfl)|(have l0:=(hS.cell (p:=⟨g',o'+k*9,none⟩) hg').trans n1';go_simp;rfl));go_frame))
       refine' cq _ _ _ rfl rfl (fun w'=>?_) (fun w' hS hh hs=>?_) (fun v h=>?_);rotate_left 2
       ·go_simp;constructor<;>rfl
       ·refine(kE w' ce de e.x trivial (El.up (w:=NU) HX.o hS) (El.up (w:=NU) HY.o hS)).mono ?_;rintro e w9 ⟨rfl,hb⟩;exact⟨_,rfl,⟨rfl,trivial⟩,hb⟩
       obtain rfl:=h;go_frame;iterate 2 (refine aw ?_ rfl rfl (fun w' hS=>?_) ?_;rotate_left;(first|(go_simp;rfl));go_frame)
       refine cJ fun w2 hH=>?_
       have OD:=aa (Ko.o.trans (Below.mono (show Below NU.heap.size NU w2 from hH.s) Ko.o.size));clear hH Ko HX HY RX RY IX IY;go_wp2_with fail
       go_roundg (x.bu.length-(k+1));case measure=>omega
       case rel=>exact⟨k+1,by omega,rfl,by go_num,OD⟩
      ·obtain rfl:k=x.bu.length:=by omega
       have t1:decide ((x.bu.length:Int)<(x.bu.length:Int))=false:=decide_eq_false (by omega);clear hlt;go_wp2_with fail
       go_loopg [8] x.pv.length (fun gg i wr=>∃k:Nat,k≤x.pv.length∧gg=x.pv.length-k∧i=.i (k:Int)∧Hid (Below w1.heap.size w1 wr));case atStart=>exact⟨0,Nat.zero_le _,rfl,rfl,Ko⟩
       case round=>
        clear Ko x0 y0 x1 y1 x2 y2 x3 y3 x4 y4 x5 y5 x6 y6 x7 y7 x8 y8 x9 y9 O0 QB Om QQ Ml QT;obtain⟨k,hk,rfl,rfl,Ko⟩:=hrel;obtain⟨RO,hw⟩:=aab wr;subst hw;obtain⟨x0,x1,x2,x3,x4,x5,x6,x7,x8,x9,O0,Om,Ml⟩:=(HG.o.below Ko.o HG.o.lt).KI;simp at x0 x1 x2 x3 x4 x5 x6 x7 x8 x9 O0 Om Ml;obtain⟨y0,y1,y2,y3,y4,y5,y6,y7,y8,y9,QB,QQ,QT⟩:=(HR.o.below Ko.o HR.o.lt).KI;simp at y0 y1 y2 y3 y4 y5 y6 y7 y8 y9 QB QQ QT;by_cases hlt:k<x.pv.length
        ·obtain⟨g,o,g',o',e,cs,cs',rfl,rfl,hm,hg,hg',hr,hr',hl,hl',hra,KV⟩:=Rr.two (Pm.o.up (HB.o.trans (Ko.o.mono HB.o.size))) (Zp.o.up (HB.o.trans (Ko.o.mono HB.o.size))) hlt;have t1:decide ((k:Int)<(x.pv.length:Int))=true:=decide_eq_true (by omega);have b1:(k:Int)<(x.pv.length:Int):=by omega
         have bG:=(HG.o.below Ko.o HG.o.lt).lt;have bR:=(HR.o.below Ko.o HR.o.lt).lt;have n0:=pvR hr hra;have Ue:=pvR hr' KV;simp only[show ik.k=1 from rfl,Nat.mul_one]at n0 Ue;clear hr hr' hra KV hl hl' hm;go_upto_region 21 with fail
         refine bo (tab []) (Up RO) RO.heap.size 11 (Pl []) zE mM (Up.ek _) Na (Na.turns (Up.ek _) mM) (by kernel_rfl) (by kernel_rfl) (Up.start _) (Nat.le_refl _) ?_;simp only[List.take_succ_cons,List.take_zero,List.drop_succ_cons,List.drop_zero];iterate 11 (refine aw ?_ rfl rfl (fun w' hS=>?_) ?_;rotate_left;(first|(go_simp;rfl)|(have l0:=(hS.cell (p:=⟨w.heap.size,10,none⟩) bG).trans O0;go_simp;rfl)|(have l0:=(hS.cell (p:=⟨w.heap.size+1,10,none⟩) bR).trans QB;go_simp;rfl)|(have l0:=(hS.cell (p:=⟨g,o+k,none⟩) hg).trans n0;go_simp;rfl)|(have l0:=(hS.cell (p:=⟨g',o'+k,none⟩) hg').trans Ue;go_simp;rfl));go_frame)
         refine cJ fun w2 hH=>?_
         have OD:=aa (Ko.o.trans (Below.mono (show Below RO.heap.size RO w2 from hH.s) Ko.o.size));clear hH Ko;go_wp2_with fail
         go_roundg (x.pv.length-(k+1));case measure=>omega
         case rel=>exact⟨k+1,by omega,rfl,by go_num,OD⟩
        ·obtain rfl:k=x.pv.length:=by omega
         have t1:decide ((x.pv.length:Int)<(x.pv.length:Int))=false:=decide_eq_false (by omega);clear hlt;go_wp2_with fail
         refine(kCs RO _ _ x.Kv (fun _ _=>trivial) (Rr.up L5.o (HB.o.trans (Ko.o.mono HB.o.size))) (Rr.up R5.o (HB.o.trans (Ko.o.mono HB.o.size)))).mono ?_;rintro e we5 ⟨rfl,hb⟩;have KF:=aa (Ko.o.trans (hb.mono Ko.o.size));clear Ko hb x0 y0 x1 y1 x2 y2 x3 y3 x4 y4 x5 y5 x6 y6 x7 y7 x8 y8 x9 y9 O0 QB Om QQ Ml QT;have Ko:=KF;clear KF;have K0:=(HG.o.below Ko.o HG.o.lt).KI;simp at K0;have Le:=(HR.o.below Ko.o HR.o.lt).KI;simp at Le;go_wp2_with fail
         refine(kL we5 _ _ x.wh (fun _ _=>trivial) (Rr.up L9.o (HB.o.trans (Ko.o.mono HB.o.size))) (Rr.up R9.o (HB.o.trans (Ko.o.mono HB.o.size)))).mono ?_;rintro e we9 ⟨rfl,hb⟩;have KF:=aa (Ko.o.trans (hb.mono Ko.o.size));clear Ko hb K0 Le;have Ko:=KF;clear KF;have Ly:=(HG.o.below Ko.o HG.o.lt).KI;simp at Ly;have Mj:=(HR.o.below Ko.o HR.o.lt).KI;simp at Mj;go_wp2_with fail
         go_ret;exact⟨rfl,HB.o.trans (Ko.o.mono HB.o.size)⟩
end
end Go.Proofs.YtnicfobpclehkaaGreatDoor
