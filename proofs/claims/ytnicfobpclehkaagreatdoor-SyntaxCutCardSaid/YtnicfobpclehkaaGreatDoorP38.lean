import Derived.Test.YtnicfobpclehkaaGreatDoorP28
set_option maxHeartbeats 40000000
set_option linter.unusedVariables false
set_option linter.unusedSimpArgs false
namespace Go.Proofs.YtnicfobpclehkaaGreatDoor
open Go.RowKit
section
set_option maxRecDepth 100000
def Vv{α:Type}(E:El α)(N:FuncId)(p:α→Prop):Prop:=∀(w:World) (cs cs':List Value) (x:α),p x→E.R w (fun b=>b<w.heap.size) cs x→E.R w (fun b=>b<w.heap.size) cs' x→Calls Tryz.prog N #[.agg cs.toArray,.agg cs'.toArray] w fun e w'=>e=.returned (.bool true)∧Below w.heap.size w w'
def Zi{α:Type}(E:El α)(N:FuncId)(p:α→Prop):Prop:=∀(w:World) (v v':Value) (xs:List α),(∀x∈xs,p x)→Rr E w (fun b=>b<w.heap.size) v xs→Rr E w (fun b=>b<w.heap.size) v' xs→Calls Tryz.prog N #[v,v'] w fun e w'=>e=.returned (.bool true)∧Below w.heap.size w w'
theorem Rr.two{α:Type}{E:El α}{w:World}{P:Nat→Prop}{A A':Option Addr}{n n' c c':Nat}{xs:List α}{i:Nat}(h:Rr E w P (.slice A n c) xs)(h':Rr E w P (.slice A' n' c') xs)(hi:i<xs.length):∃g o g' o' x cs cs',A=some ⟨g,o,none⟩∧A'=some ⟨g',o',none⟩∧x∈xs∧P g∧P g'∧E.R w P cs x∧E.R w P cs' x∧cs.length=E.k∧cs'.length=E.k∧w.rangeAt g (o+i*E.k) cs∧w.rangeAt g' (o'+i*E.k) cs':=by
 obtain⟨_,_,e,_,_,h3⟩:=h;obtain⟨_,_,e',_,_,h3'⟩:=h';injection e with e1 e2 e3
 injection e' with VZ e2' e3'
 subst e1 VZ;obtain⟨g,o,rfl,hg,hc⟩:=h3 (by omega);obtain⟨g',o',rfl,hg',hc'⟩:=h3' (by omega);have hx:=aE hi;obtain⟨cs,hr,hcell⟩:=hc i _ hx;obtain⟨cs',hr',hcell'⟩:=hc' i _ hx;exact⟨g,o,g',o',_,cs,cs',rfl,rfl,List.getElem_mem hi,hg,hg',hr,hr',E.len hr,E.len hr',fun j u hu=>hcell j u hu,fun j u hu=>hcell' j u hu⟩
theorem gK{P:Program}{ev:Operand→Value}{op:Oper}{w:World}(ty:TypeId)(x:Operand)(ho:op.op=.load ty x)(b o:Nat)(hx:ev x=.pointer (some ⟨b,o,none⟩))(cs:List Value)(d:TypeDesc)(hc:w.rangeAt b o cs)(hu:P.underlying ty=some d)(hd:d.isRow=true)(hi:(P.info? ty).map (·.size)=some cs.length):(execOp ev op).run P w=.ok (.value (.agg cs.toArray)) w:=by
 unfold execOp;simp only[ho,hx,Instr.loadAt,Instr.sureAddr,Sem.run_bind,Sem.run_pure,Result.andThen_ok,run_loadVar_mid w b o ty cs d hc hu hd hi]
theorem jb{P:Program}{ev:Operand→Value}{op:Oper}{w:World}{ty:TypeId}{x:Operand}(ho:op.op=.load ty x){b o:Nat}(hx:ev x=.pointer (some ⟨b,o,none⟩)){cs:List Value}(hc:w.rangeAt b o cs)(hd:((P.underlying ty).map (·.isRow))=some true)(hi:(P.info? ty).map (·.size)=some cs.length):(execOp ev op).run P w=.ok (.value (.agg cs.toArray)) w:=by
 cases hu:P.underlying ty with
 |none=>rw[hu]at hd;cases hd
 |some d=>rw[hu]at hd;injection hd with hd;exact gK ty x ho b o hx cs d hc hu hd hi
theorem ed(k:Nat):jN (tab [(k,PM)]):=dZ fun p hp=>by
 simp only[af,aj,aH]at hp
 subst hp
 exact PM.mb
theorem iZ(k:Nat)(v:Value):∀i,∃u,Qe [(k,PK v)] i u:=eY fun p hp=>by
 simp only[af,aj,aH]at hp
 subst hp
 exact PK.some _
theorem pL:jN (tab []):=dZ fun p hp=>by cases hp
theorem CB:∀i,∃u,Qe [] i u:=eY fun p hp=>by cases hp
theorem KI{w:World}{g o:Nat}{ce:List Value}{v:Value}(hl:ce.length=8)(h:w.rangeAt g o (ce++[v])):w.rangeAt g o ce∧w.cell? ⟨g,o+8,none⟩=some v:=
 ⟨fun j u hj=>h j u (by rw[ba (ay.1 hj).1];exact hj),h 8 v (by rw[bg (by omega),hl];rfl)⟩
theorem No{w:World}{g o:Nat}{ce:List Value}{v:Value}(h:w.rangeAt g o (v::ce)):w.rangeAt g (o+1) ce∧w.cell? ⟨g,o,none⟩=some v:=
 ⟨fun j u hj=>by
  have:=h (j+1) u hj
  rwa [show o+(j+1)=o+1+j by omega]at this,h 0 v rfl⟩
section
variable{w:World}{P:Nat→Prop}{cs:List Value}{g o:Nat}
theorem MX{e:I.Qq}(h:fL.R w P cs e)(ha:w.rangeAt g o cs):∃ce,NI.R w P ce e.x∧ce.length=8∧w.rangeAt g o ce∧w.cell? ⟨g,o+8,none⟩=some (.string (I.bs e.nm)):=by
 obtain⟨ce,rfl,hx,_⟩:=h;exact⟨ce,hx,NI.len hx,KI (NI.len hx) ha⟩
theorem MK{e:I.Ord}(h:fY.R w P cs e)(ha:w.rangeAt g o cs):∃ce,NI.R w P ce e.x∧ce.length=8∧w.rangeAt g o ce∧w.cell? ⟨g,o+8,none⟩=some (.bool e.ds):=by
 obtain⟨ce,rfl,hx⟩:=h;exact⟨ce,hx,NI.len hx,KI (NI.len hx) ha⟩
theorem KE{e:I.OI}(h:fG.R w P cs e)(ha:w.rangeAt g o cs):∃ce,NI.R w P ce e.x∧ce.length=8∧w.rangeAt g (o+1) ce∧w.cell? ⟨g,o,none⟩=some (.string (I.bs e.nm)):=by
 obtain⟨ce,rfl,hx,_⟩:=h;exact⟨ce,hx,NI.len hx,No ha⟩
theorem MY{e:I.Src}(h:ft.R w P cs e)(ha:w.rangeAt g o cs):∃A m c,Rr NI w P (.slice A m c) e.on∧w.cell? ⟨g,o,none⟩=some (.string (I.bs e.nm))∧w.cell? ⟨g,o+1,none⟩=some (.string (I.bs e.al))∧w.cell? ⟨g,o+2,none⟩=some (.slice A m c):=by
 obtain⟨v,rfl,hv,_,_⟩:=h;obtain⟨A,m,c,rfl⟩:=dj hv;exact⟨A,m,c,hv,ha 0 _ rfl,ha 1 _ rfl,ha 2 _ rfl⟩
theorem M0{e:List Ev.Ex}(h:fO.R w P cs e)(ha:w.rangeAt g o cs):∃A m c,Rr NI w P (.slice A m c) e∧w.cell? ⟨g,o,none⟩=some (.slice A m c):=by
 obtain⟨v,rfl,hv⟩:=h;obtain⟨A,m,c,rfl⟩:=dj hv;exact⟨A,m,c,hv,ha 0 _ rfl⟩
theorem pvR{e:UInt8}(h:jZ.R w P cs e)(ha:w.rangeAt g o cs):w.cell? ⟨g,o,none⟩=some (.int .u8 (e.toNat:Int)):=by
 obtain rfl:cs=[.int .u8 (e.toNat:Int)]:=h;exact ha 0 _ rfl
end
theorem zD(p:Ev.Ex→Prop)(q:I.Oj→Prop):(Vv NI 34 p→Zi NI 33 p)∧(Vv eM 79 q→Zi eM 35 q):=by
 refine⟨?_,?_⟩<;>intro hC w v v' xs hp hx hy;all_goals
  have HC:=cN hC
  have HP:=cN hp
  obtain⟨A,c,rfl,_,_⟩:=hx.form
  obtain⟨A',c',rfl,_,_⟩:=hy.form
  have HX:=cN hx
  have HY:=cN hy
  clear hC hp hx hy
  have HB:=cN (ax w.heap.size w)
  first|go_enter Tryz.func33,Tryz.ntmps33|go_enter Tryz.func35,Tryz.ntmps35
  go_wp2_with fail
  go_loopg [5] xs.length (fun gg i wr=>∃k:Nat,k≤xs.length∧gg=xs.length-k∧i=.int .i64 (k:Int)∧Hid (Below w.heap.size w wr))
  case atStart=>exact⟨0,ao _,rfl,rfl,HB⟩
  case round=>
   clear HB
   obtain⟨k,hk,rfl,rfl,HB⟩:=hrel
   obtain⟨w1,hw⟩:∃x,x=wr:=⟨_,rfl⟩
   subst hw
   by_cases hlt:k<xs.length
   ·obtain⟨g,o,g',o',x,cs,cs',rfl,rfl,hm,hg,hg',hr,hr',hl,hl',hra,Of⟩:=Rr.two (HX.o.up HB.o) (HY.o.up HB.o) hlt;have t1:decide ((k:Int)<(xs.length:Int))=true:=aq (by omega);have b1:(k:Int)<(xs.length:Int):=by omega
    have HM:=cN hr;have HM':=cN hr';have HA:=cN hra;have HA':=cN Of;have HQ:=cN (HP.o x hm);have IX:=cN (show cs.length=8 from hl);have IY:=cN (show cs'.length=8 from hl');clear hr hr' hra Of hl hl' hm;go_upto_region 6 with fail
    refine db (tab [(8,PM)]) (Up w1) w1.heap.size 10 (Qe [(8,PK (.bool true))]) (iZ _ _) (ed _) (Up.dX _) OM (OM.turns (Up.dX _) (ed _)) (by kernel_rfl) (by kernel_rfl) (Up.start _) (aa _) ?_;simp only[List.take_succ_cons,List.take_zero,List.drop_succ_cons,List.drop_zero];iterate 8 (first|(refine cP (.agg (cs).toArray) rfl rfl (fun w' hS=>jb rfl rfl (rangeAt.up HA.o hg hS) (by kernel_rfl) (by rw[IX.o];kernel_rfl)) ?_;go_frame)|(refine cP (.agg (cs').toArray) rfl rfl (fun w' hS=>jb rfl rfl (rangeAt.up HA'.o hg' hS) (by kernel_rfl) (by rw[IY.o];kernel_rfl)) ?_;go_frame)|(refine cP ?_ rfl rfl (fun w' hS=>?_) ?_;rotate_left;(first|(go_simp;rfl));go_frame))
    refine' du _ _ _ rfl rfl (fun w'=>?_) (fun w' hS hh hs=>?_) (fun v h=>?_);rotate_left 2
    ·go_simp;constructor<;>rfl
    ·refine(HC.o w' cs cs' x HQ.o (El.up (w:=w1) HM.o hS) (El.up (w:=w1) HM'.o hS)).mono ?_;rintro e w9 ⟨rfl,hb⟩;exact⟨_,rfl,⟨rfl,trivial⟩,hb⟩
    obtain rfl:=h;go_frame;iterate 1 (refine cP ?_ rfl rfl (fun w' hS=>?_) ?_;rotate_left;(first|(go_simp;rfl));go_frame)
    refine dz fun w2 hH=>?_
    have Si:=cN (HB.o.trans (cL (show Below w1.heap.size w1 w2 from hH.s) HB.o.size));clear hH HC HP HM HM' IX IY HA HA';go_wp2_with fail
    go_roundg (xs.length-(k+1));case measure=>omega
    case rel=>exact⟨k+1,by omega,rfl,by go_num,Si⟩
   ·obtain rfl:k=xs.length:=by omega
    have t1:decide ((xs.length:Int)<(xs.length:Int))=false:=ar (by omega);go_wp2_with fail
    go_ret;exact⟨rfl,HB.o⟩
theorem Nz(n:Nat)(hL:Zi NI 33 fun x=>I.depth x≤n):Vv NI 34 fun x=>I.depth x≤n+1:=by
 intro w cs cs' x hp hx hy;obtain⟨H,A5,m5,c5,ks,d,rfl,rfl,h1,h2,_,h3⟩:=hx;obtain⟨_,A6,m6,c6,_,d',rfl,e,h1',h2',_,h3'⟩:=hy;cases e;have HL:=cN hL;have HP:=cN hp;have L5:=cN (jK h3 h1 h2);have R5:=cN (jK h3' h1' h2');clear h1 h2 h3 h1' h2' h3' hL hp;show Calls Tryz.prog 34 #[.agg #[.int .u8 (H.o.toNat:Int),.int .u8 (H.v.k.toNat:Int),.int .i64 H.v.n,.string H.v.s,.string H.nm,.string H.of,.int .i64 H.n,.slice A5 m5 c5],.agg #[.int .u8 (H.o.toNat:Int),.int .u8 (H.v.k.toNat:Int),.int .i64 H.v.n,.string H.v.s,.string H.nm,.string H.of,.int .i64 H.n,.slice A6 m6 c6]] w _;go_enter Tryz.func34,Tryz.ntmps34;go_upto_region 1 with fail
 refine P8 fun w1 hw1=>?_
 obtain⟨HG,HR,HB⟩:=gT hw1;clear hw1;obtain⟨x0,x1,x2,x3,x4,x5,x6,x7⟩:=(HG.o.below (ax w1.heap.size w1) HG.o.lt).y8 0 1 2 3 4 5 6 7;simp at x0 x1 x2 x3 x4 x5 x6 x7;obtain⟨y0,y1,y2,y3,y4,y5,y6,y7⟩:=(HR.o.below (ax w1.heap.size w1) HR.o.lt).y8 0 1 2 3 4 5 6 7;simp at y0 y1 y2 y3 y4 y5 y6 y7;have gV:=Eb;have vv:∀w:World,(binOp .eql 48 (.agg #[.int .u8 (H.v.k.toNat:Int),.int .i64 H.v.n,.string H.v.s]) (.agg #[.int .u8 (H.v.k.toNat:Int),.int .i64 H.v.n,.string H.v.s])).run Tryz.prog w=.ok (.bool true) w:=fun w=>by rw[Ls,(sl _ _).2 rfl]
 go_wp2_with fail
 refine(HL.o w1 _ _ ks (fun k hk=>mu HP.o hk) (Rr.up L5.o HB.o) (Rr.up R5.o HB.o)).mono ?_;rintro e w2 ⟨rfl,hb⟩;have HB2:=cN (HB.o.trans (hb.mono HB.o.size));clear hb HL HP L5 R5;go_wp2_with fail
 go_ret;exact⟨rfl,HB2.o⟩
theorem kE_n:∀n:Nat,Vv NI 34 fun x=>I.depth x≤n:=by
 intro n;induction n with
 |zero=>intro w cs cs' x hp;have:=I.iY x;omega
 |succ n ih=>exact Nz n ((zD _ fun _=>True).1 ih)
theorem kE:Vv NI 34 fun _=>True:=fun w cs cs' x _ hx hy=>kE_n (I.depth x) w cs cs' x (aa _) hx hy
theorem kL:Zi NI 33 fun _=>True:=(zD _ fun _=>True).1 kE
theorem kC:Vv eM 79 fun _=>True:=by
 intro w cs cs' x _ hx hy;obtain⟨v,rfl,hv,_,_⟩:=hx;obtain⟨u,rfl,hu,_,_⟩:=hy;obtain⟨A,mA,cA,rfl⟩:=dj hv;obtain⟨B,mB,cB,rfl⟩:=dj hu;have L:=cN hv;have R:=cN hu;clear hv hu;show Calls Tryz.prog 79 #[.agg #[.string (I.bs x.nm),.int .u8 (x.k.toNat:Int),.bool x.pr,.bool x.nn,.bool x.un,.slice A mA cA,.string (I.bs x.rf),.int .u8 (x.ac.toNat:Int)],.agg #[.string (I.bs x.nm),.int .u8 (x.k.toNat:Int),.bool x.pr,.bool x.nn,.bool x.un,.slice B mB cB,.string (I.bs x.rf),.int .u8 (x.ac.toNat:Int)]] w _;go_enter Tryz.func79,Tryz.ntmps79;go_upto_region 1 with fail
 refine P8 fun w1 hw1=>?_
 obtain⟨HG,HR,HB⟩:=gT hw1;clear hw1;obtain⟨x0,x1,x2,x3,x4,x5,x6,x7⟩:=(HG.o.below (ax w1.heap.size w1) HG.o.lt).y8 0 1 2 3 4 5 6 7;simp at x0 x1 x2 x3 x4 x5 x6 x7;obtain⟨y0,y1,y2,y3,y4,y5,y6,y7⟩:=(HR.o.below (ax w1.heap.size w1) HR.o.lt).y8 0 1 2 3 4 5 6 7;simp at y0 y1 y2 y3 y4 y5 y6 y7;go_wp2_with fail
 refine(kL w1 _ _ x.ck (fun _ _=>trivial) (Rr.up L.o HB.o) (Rr.up R.o HB.o)).mono ?_;rintro e w2 ⟨rfl,hb⟩;have HB2:=cN (HB.o.trans (hb.mono HB.o.size));clear hb L R;go_wp2_with fail
 go_ret;exact⟨rfl,HB2.o⟩
theorem kCs:Zi eM 35 fun _=>True:=(zD (fun _=>True) _).2 kC
theorem kSel:Vv fw 32 fun _=>True:=by
 intro w cs cs' x _ hx hy;obtain⟨v1,v2,v3,v4,v5,rfl,p1,p2,p3,p4,p5,_,_⟩:=hx;obtain⟨u1,u2,u3,u4,u5,rfl,q1,q2,q3,q4,q5,_,_⟩:=hy;obtain⟨A1,c1,rfl,_,_⟩:=p1.form;obtain⟨zA1,zc1,rfl,_,_⟩:=q1.form;have L1:=cN p1;have R1:=cN q1;clear p1 q1;obtain⟨A2,c2,rfl,_,_⟩:=p2.form;obtain⟨zA2,zc2,rfl,_,_⟩:=q2.form;have L2:=cN p2;have R2:=cN q2;clear p2 q2;obtain⟨A3,c3,rfl,_,_⟩:=p3.form;obtain⟨zA3,zc3,rfl,_,_⟩:=q3.form;have L3:=cN p3;have R3:=cN q3;clear p3 q3;obtain⟨A4,c4,rfl,_,_⟩:=p4.form;obtain⟨zA4,zc4,rfl,_,_⟩:=q4.form;have L4:=cN p4;have R4:=cN q4;clear p4 q4;obtain⟨A5,c5,rfl,_,_⟩:=p5.form;obtain⟨V8,V9,rfl,_,_⟩:=q5.form;have L5:=cN p5;have R5:=cN q5;clear p5 q5;show Calls Tryz.prog 32 #[.agg #[.bool x.all,.slice A1 x.its.length c1,.slice A2 x.fr.length c2,.slice A3 x.wh.length c3,.slice A4 x.gr.length c4,.slice A5 x.od.length c5,.int .i64 x.lim],.agg #[.bool x.all,.slice zA1 x.its.length zc1,.slice zA2 x.fr.length zc2,.slice zA3 x.wh.length zc3,.slice zA4 x.gr.length zc4,.slice V8 x.od.length V9,.int .i64 x.lim]] w _;go_enter Tryz.func32,Tryz.ntmps32;go_upto_region 1 with fail
 refine P8 fun w1 hw1=>?_
 obtain⟨HG,HR,HB⟩:=gT hw1;clear hw1;have NB:=cN (ax w1.heap.size w1);obtain⟨x0,x1,x2,x3,x4,x5,x6⟩:=(HG.o.below NB.o HG.o.lt).y7 0 1 2 3 4 5 6;simp at x0 x1 x2 x3 x4 x5 x6;obtain⟨y0,y1,y2,y3,y4,y5,y6⟩:=(HR.o.below NB.o HR.o.lt).y7 0 1 2 3 4 5 6;simp at y0 y1 y2 y3 y4 y5 y6;go_wp2_with fail
 go_loopg [5] x.its.length (fun gg i wr=>∃k:Nat,k≤x.its.length∧gg=x.its.length-k∧i=.int .i64 (k:Int)∧Hid (Below w1.heap.size w1 wr));case atStart=>exact⟨0,ao _,rfl,rfl,NB⟩
 case round=>
  clear NB x0 y0 x1 y1 x2 y2 x3 y3 x4 y4 x5 y5 x6 y6;obtain⟨k,hk,rfl,rfl,NB⟩:=hrel;obtain⟨S2,hw⟩:∃x,x=wr:=⟨_,rfl⟩;subst hw;obtain⟨x0,x1,x2,x3,x4,x5,x6⟩:=(HG.o.below NB.o HG.o.lt).y7 0 1 2 3 4 5 6;simp at x0 x1 x2 x3 x4 x5 x6;obtain⟨y0,y1,y2,y3,y4,y5,y6⟩:=(HR.o.below NB.o HR.o.lt).y7 0 1 2 3 4 5 6;simp at y0 y1 y2 y3 y4 y5 y6;by_cases hlt:k<x.its.length
  ·obtain⟨g,o,g',o',e,cs,cs',rfl,rfl,hm,hg,hg',hr,hr',hl,hl',hra,Of⟩:=Rr.two (L1.o.up (HB.o.trans (NB.o.mono HB.o.size))) (R1.o.up (HB.o.trans (NB.o.mono HB.o.size))) hlt;have t1:decide ((k:Int)<(x.its.length:Int))=true:=aq (by omega);have b1:(k:Int)<(x.its.length:Int):=by omega
   have bG:=(HG.o.below NB.o HG.o.lt).lt;have bR:=(HR.o.below NB.o HR.o.lt).lt;obtain⟨ce,hX,lx,Vw,n1⟩:=MX hr hra;obtain⟨de,hY,ly,Vx,n1'⟩:=MX hr' Of;have HX:=cN hX;have HY:=cN hY;have RX:=cN Vw;have RY:=cN Vx;have IX:Hid ((Tryz.prog.info? 50).map (·.size)=some ce.length):=cN (by rw[lx];exact ji);have IY:Hid ((Tryz.prog.info? 50).map (·.size)=some de.length):=cN (by rw[ly];exact ji);clear hX hY Vw Vx lx ly hr hr' hra Of hl hl' hm;go_upto_region 6 with fail
   refine db (tab [(26,PM)]) (Up S2) S2.heap.size 29 (Qe [(26,PK (.bool true))]) (iZ _ _) (ed _) (Up.dX _) OM (OM.turns (Up.dX _) (ed _)) (by kernel_rfl) (by kernel_rfl) (Up.start _) (aa _) ?_;simp only[List.take_succ_cons,List.take_zero,List.drop_succ_cons,List.drop_zero];iterate 26 (first|(refine cP (.agg (ce).toArray) rfl rfl (fun w' hS=>jb rfl rfl (rangeAt.up RX.o hg hS) (by kernel_rfl) IX.o) ?_;go_frame)|(refine cP (.agg (de).toArray) rfl rfl (fun w' hS=>jb rfl rfl (rangeAt.up RY.o hg' hS) (by kernel_rfl) IY.o) ?_;go_frame)|(refine cP ?_ rfl rfl (fun w' hS=>?_) ?_;rotate_left;(first|(go_simp;rfl)|(have l0:=(hS.cell (p:=⟨w.heap.size,1,none⟩) bG).trans x1;go_simp;rfl)|(have l0:=(hS.cell (p:=⟨w.heap.size+1,1,none⟩) bR).trans y1;go_simp;rfl)|(have l0:=(hS.cell (p:=⟨g,o+k*9+8,none⟩) hg).trans n1;go_simp;rfl)|(have l0:=(hS.cell (p:=⟨g',o'+k*9+8,none⟩) hg').trans n1';go_simp;rfl));go_frame))
   refine' du _ _ _ rfl rfl (fun w'=>?_) (fun w' hS hh hs=>?_) (fun v h=>?_);rotate_left 2
   ·go_simp;constructor<;>rfl
   ·refine(kE w' ce de e.x trivial (El.up (w:=S2) HX.o hS) (El.up (w:=S2) HY.o hS)).mono ?_;rintro e w9 ⟨rfl,hb⟩;exact⟨_,rfl,⟨rfl,trivial⟩,hb⟩
   obtain rfl:=h;go_frame;iterate 2 (refine cP ?_ rfl rfl (fun w' hS=>?_) ?_;rotate_left;(first|(go_simp;rfl));go_frame)
   refine dz fun w2 hH=>?_
   have RE:=cN (NB.o.trans (cL (show Below S2.heap.size S2 w2 from hH.s) NB.o.size));clear hH NB HX HY RX RY IX IY;go_wp2_with fail
   go_roundg (x.its.length-(k+1));case measure=>omega
   case rel=>exact⟨k+1,by omega,rfl,by go_num,RE⟩
  ·obtain rfl:k=x.its.length:=by omega
   have t1:decide ((x.its.length:Int)<(x.its.length:Int))=false:=ar (by omega);clear hlt;go_wp2_with fail
   go_loopg [6] x.fr.length (fun gg i wr=>∃k:Nat,k≤x.fr.length∧gg=x.fr.length-k∧i=.int .i64 (k:Int)∧Hid (Below w1.heap.size w1 wr));case atStart=>exact⟨0,ao _,rfl,rfl,NB⟩
   case round=>
    clear NB x0 y0 x1 y1 x2 y2 x3 y3 x4 y4 x5 y5 x6 y6;obtain⟨k,hk,rfl,rfl,NB⟩:=hrel;obtain⟨S5,hw⟩:∃x,x=wr:=⟨_,rfl⟩;subst hw;obtain⟨x0,x1,x2,x3,x4,x5,x6⟩:=(HG.o.below NB.o HG.o.lt).y7 0 1 2 3 4 5 6;simp at x0 x1 x2 x3 x4 x5 x6;obtain⟨y0,y1,y2,y3,y4,y5,y6⟩:=(HR.o.below NB.o HR.o.lt).y7 0 1 2 3 4 5 6;simp at y0 y1 y2 y3 y4 y5 y6;by_cases hlt:k<x.fr.length
    ·obtain⟨g,o,g',o',e,cs,cs',rfl,rfl,hm,hg,hg',hr,hr',hl,hl',hra,Of⟩:=Rr.two (L2.o.up (HB.o.trans (NB.o.mono HB.o.size))) (R2.o.up (HB.o.trans (NB.o.mono HB.o.size))) hlt;have t1:decide ((k:Int)<(x.fr.length:Int))=true:=aq (by omega);have b1:(k:Int)<(x.fr.length:Int):=by omega
     have bG:=(HG.o.below NB.o HG.o.lt).lt;have bR:=(HR.o.below NB.o HR.o.lt).lt;obtain⟨AX,mX,cX,hX,n0,n1,n2⟩:=MY hr hra;obtain⟨AY,mY,cY,hY,Ww,n1',n2'⟩:=MY hr' Of;have HX:=cN hX;have HY:=cN hY;clear hX hY hr hr' hra Of hl hl' hm;go_upto_region 11 with fail
     refine db (tab [(41,PM)]) (Up S5) S5.heap.size 44 (Qe [(41,PK (.bool true))]) (iZ _ _) (ed _) (Up.dX _) OM (OM.turns (Up.dX _) (ed _)) (by kernel_rfl) (by kernel_rfl) (Up.start _) (aa _) ?_;simp only[List.take_succ_cons,List.take_zero,List.drop_succ_cons,List.drop_zero];iterate 41 (refine cP ?_ rfl rfl (fun w' hS=>?_) ?_;rotate_left;(first|(go_simp;rfl)|(have l0:=(hS.cell (p:=⟨w.heap.size,2,none⟩) bG).trans x2;go_simp;rfl)|(have l0:=(hS.cell (p:=⟨w.heap.size+1,2,none⟩) bR).trans y2;go_simp;rfl)|(have l0:=(hS.cell (p:=⟨g,o+k*3,none⟩) hg).trans n0;go_simp;rfl)|(have l0:=(hS.cell (p:=⟨g,o+k*3+1,none⟩) hg).trans n1;go_simp;rfl)|(have l0:=(hS.cell (p:=⟨g,o+k*3+2,none⟩) hg).trans n2;go_simp;rfl)|(have l0:=(hS.cell (p:=⟨g',o'+k*3,none⟩) hg').trans Ww;go_simp;rfl)|(have l0:=(hS.cell (p:=⟨g',o'+k*3+1,none⟩) hg').trans n1';go_simp;rfl)|(have l0:=(hS.cell (p:=⟨g',o'+k*3+2,none⟩) hg').trans n2';go_simp;rfl));go_frame)
     refine' du _ _ _ rfl rfl (fun w'=>?_) (fun w' hS hh hs=>?_) (fun v h=>?_);rotate_left 2
     ·go_simp;constructor<;>rfl
     ·refine(kL w' _ _ e.on (fun _ _=>trivial) (Rr.up (w:=S5) HX.o hS) (Rr.up (w:=S5) HY.o hS)).mono ?_;rintro e w9 ⟨rfl,hb⟩;exact⟨_,rfl,⟨rfl,trivial⟩,hb⟩
     obtain rfl:=h;go_frame;iterate 2 (refine cP ?_ rfl rfl (fun w' hS=>?_) ?_;rotate_left;(first|(go_simp;rfl));go_frame)
     refine dz fun w2 hH=>?_
     have RE:=cN (NB.o.trans (cL (show Below S5.heap.size S5 w2 from hH.s) NB.o.size));clear hH NB HX HY;go_wp2_with fail
     go_roundg (x.fr.length-(k+1));case measure=>omega
     case rel=>exact⟨k+1,by omega,rfl,by go_num,RE⟩
    ·obtain rfl:k=x.fr.length:=by omega
     have t1:decide ((x.fr.length:Int)<(x.fr.length:Int))=false:=ar (by omega);clear hlt;go_wp2_with fail
     go_loopg [7] x.od.length (fun gg i wr=>∃k:Nat,k≤x.od.length∧gg=x.od.length-k∧i=.int .i64 (k:Int)∧Hid (Below w1.heap.size w1 wr));case atStart=>exact⟨0,ao _,rfl,rfl,NB⟩
     case round=>
      clear NB x0 y0 x1 y1 x2 y2 x3 y3 x4 y4 x5 y5 x6 y6;obtain⟨k,hk,rfl,rfl,NB⟩:=hrel;obtain⟨SM,hw⟩:∃x,x=wr:=⟨_,rfl⟩;subst hw;obtain⟨x0,x1,x2,x3,x4,x5,x6⟩:=(HG.o.below NB.o HG.o.lt).y7 0 1 2 3 4 5 6;simp at x0 x1 x2 x3 x4 x5 x6;obtain⟨y0,y1,y2,y3,y4,y5,y6⟩:=(HR.o.below NB.o HR.o.lt).y7 0 1 2 3 4 5 6;simp at y0 y1 y2 y3 y4 y5 y6;by_cases hlt:k<x.od.length
      ·obtain⟨g,o,g',o',e,cs,cs',rfl,rfl,hm,hg,hg',hr,hr',hl,hl',hra,Of⟩:=Rr.two (L5.o.up (HB.o.trans (NB.o.mono HB.o.size))) (R5.o.up (HB.o.trans (NB.o.mono HB.o.size))) hlt;have t1:decide ((k:Int)<(x.od.length:Int))=true:=aq (by omega);have b1:(k:Int)<(x.od.length:Int):=by omega
       have bG:=(HG.o.below NB.o HG.o.lt).lt;have bR:=(HR.o.below NB.o HR.o.lt).lt;obtain⟨ce,hX,lx,Vw,n1⟩:=MK hr hra;obtain⟨de,hY,ly,Vx,n1'⟩:=MK hr' Of;have HX:=cN hX;have HY:=cN hY;have RX:=cN Vw;have RY:=cN Vx;have IX:Hid ((Tryz.prog.info? 50).map (·.size)=some ce.length):=cN (by rw[lx];exact ji);have IY:Hid ((Tryz.prog.info? 50).map (·.size)=some de.length):=cN (by rw[ly];exact ji);clear hX hY Vw Vx lx ly hr hr' hra Of hl hl' hm;go_upto_region 16 with fail
       refine db (tab [(26,PM)]) (Up SM) SM.heap.size 29 (Qe [(26,PK (.bool true))]) (iZ _ _) (ed _) (Up.dX _) OM (OM.turns (Up.dX _) (ed _)) (by kernel_rfl) (by kernel_rfl) (Up.start _) (aa _) ?_;simp only[List.take_succ_cons,List.take_zero,List.drop_succ_cons,List.drop_zero];iterate 26 (first|(refine cP (.agg (ce).toArray) rfl rfl (fun w' hS=>jb rfl rfl (rangeAt.up RX.o hg hS) (by kernel_rfl) IX.o) ?_;go_frame)|(refine cP (.agg (de).toArray) rfl rfl (fun w' hS=>jb rfl rfl (rangeAt.up RY.o hg' hS) (by kernel_rfl) IY.o) ?_;go_frame)|(refine cP ?_ rfl rfl (fun w' hS=>?_) ?_;rotate_left;(first|(go_simp;rfl)|(have l0:=(hS.cell (p:=⟨w.heap.size,5,none⟩) bG).trans x5;go_simp;rfl)|(have l0:=(hS.cell (p:=⟨w.heap.size+1,5,none⟩) bR).trans y5;go_simp;rfl)|(have l0:=(hS.cell (p:=⟨g,o+k*9+8,none⟩) hg).trans n1;go_simp;rfl)|(have l0:=(hS.cell (p:=⟨g',o'+k*9+8,none⟩) hg').trans n1';go_simp;rfl));go_frame))
       refine' du _ _ _ rfl rfl (fun w'=>?_) (fun w' hS hh hs=>?_) (fun v h=>?_);rotate_left 2
       ·go_simp;constructor<;>rfl
       ·refine(kE w' ce de e.x trivial (El.up (w:=SM) HX.o hS) (El.up (w:=SM) HY.o hS)).mono ?_;rintro e w9 ⟨rfl,hb⟩;exact⟨_,rfl,⟨rfl,trivial⟩,hb⟩
       obtain rfl:=h;go_frame;iterate 2 (refine cP ?_ rfl rfl (fun w' hS=>?_) ?_;rotate_left;(first|(go_simp;rfl));go_frame)
       refine dz fun w2 hH=>?_
       have RE:=cN (NB.o.trans (cL (show Below SM.heap.size SM w2 from hH.s) NB.o.size));clear hH NB HX HY RX RY IX IY;go_wp2_with fail
       go_roundg (x.od.length-(k+1));case measure=>omega
       case rel=>exact⟨k+1,by omega,rfl,by go_num,RE⟩
      ·obtain rfl:k=x.od.length:=by omega
       have t1:decide ((x.od.length:Int)<(x.od.length:Int))=false:=ar (by omega);clear hlt;go_wp2_with fail
       refine(kL SM _ _ x.wh (fun _ _=>trivial) (Rr.up L3.o (HB.o.trans (NB.o.mono HB.o.size))) (Rr.up R3.o (HB.o.trans (NB.o.mono HB.o.size)))).mono ?_;rintro e we3 ⟨rfl,hb⟩;have Oi:=cN (NB.o.trans (hb.mono NB.o.size));clear NB hb x0 y0 x1 y1 x2 y2 x3 y3 x4 y4 x5 y5 x6 y6;have NB:=Oi;clear Oi;obtain⟨x0,x1,x2,x3,x4,x5,x6⟩:=(HG.o.below NB.o HG.o.lt).y7 0 1 2 3 4 5 6;simp at x0 x1 x2 x3 x4 x5 x6;obtain⟨y0,y1,y2,y3,y4,y5,y6⟩:=(HR.o.below NB.o HR.o.lt).y7 0 1 2 3 4 5 6;simp at y0 y1 y2 y3 y4 y5 y6;go_wp2_with fail
       refine(kL we3 _ _ x.gr (fun _ _=>trivial) (Rr.up L4.o (HB.o.trans (NB.o.mono HB.o.size))) (Rr.up R4.o (HB.o.trans (NB.o.mono HB.o.size)))).mono ?_;rintro e we4 ⟨rfl,hb⟩;have Oi:=cN (NB.o.trans (hb.mono NB.o.size));clear NB hb x0 y0 x1 y1 x2 y2 x3 y3 x4 y4 x5 y5 x6 y6;have NB:=Oi;clear Oi;obtain⟨x0,x1,x2,x3,x4,x5,x6⟩:=(HG.o.below NB.o HG.o.lt).y7 0 1 2 3 4 5 6;simp at x0 x1 x2 x3 x4 x5 x6;obtain⟨y0,y1,y2,y3,y4,y5,y6⟩:=(HR.o.below NB.o HR.o.lt).y7 0 1 2 3 4 5 6;simp at y0 y1 y2 y3 y4 y5 y6;go_wp2_with fail
       go_ret;exact⟨rfl,HB.o.trans (NB.o.mono HB.o.size)⟩
theorem kStm:Vv df 10 fun _=>True:=by
 intro w cs cs' x _ hx hy;obtain⟨v1,v2,v3,v4,v5,v6,rfl,p5,p6,p7,p8,p9,Ve,_,_,_,_⟩:=hx;obtain⟨u1,u2,u3,u4,u5,u6,rfl,q5,q6,q7,q8,q9,Tf,_,_,_,_⟩:=hy;obtain⟨A5,c5,rfl,_,_⟩:=p5.form;obtain⟨V8,V9,rfl,_,_⟩:=q5.form;have L5:=cN p5;have R5:=cN q5;clear p5 q5;obtain⟨A6,c6,rfl,_,_⟩:=p6.form;obtain⟨zA6,zc6,rfl,_,_⟩:=q6.form;have L6:=cN p6;have R6:=cN q6;clear p6 q6;obtain⟨A7,c7,rfl,_,_⟩:=p7.form;obtain⟨zA7,zc7,rfl,_,_⟩:=q7.form;have L7:=cN p7;have R7:=cN q7;clear p7 q7;obtain⟨A8,c8,rfl,_,_⟩:=p8.form;obtain⟨zA8,zc8,rfl,_,_⟩:=q8.form;have L8:=cN p8;have R8:=cN q8;clear p8 q8;obtain⟨A9,c9,rfl,_,_⟩:=p9.form;obtain⟨zA9,zc9,rfl,_,_⟩:=q9.form;have L9:=cN p9;have R9:=cN q9;clear p9 q9;obtain⟨A10,c10,rfl,_,_⟩:=Ve.form;obtain⟨Yv,Yw,rfl,_,_⟩:=Tf.form;have L10:=cN Ve;have R10:=cN Tf;clear Ve Tf;show Calls Tryz.prog 10 #[.agg #[.int .u8 (x.k.toNat:Int),.string (I.bs x.nm),.string (I.bs x.on),.string (I.bs x.NG),.int .u8 (x.ev.toNat:Int),.slice A5 x.NH.length c5,.slice A6 x.q.length c6,.slice A7 x.vals.length c7,.slice A8 x.dD.length c8,.slice A9 x.wh.length c9,.slice A10 x.pv.length c10,.bool x.opt,.string (I.bs x.key)],.agg #[.int .u8 (x.k.toNat:Int),.string (I.bs x.nm),.string (I.bs x.on),.string (I.bs x.NG),.int .u8 (x.ev.toNat:Int),.slice V8 x.NH.length V9,.slice zA6 x.q.length zc6,.slice zA7 x.vals.length zc7,.slice zA8 x.dD.length zc8,.slice zA9 x.wh.length zc9,.slice Yv x.pv.length Yw,.bool x.opt,.string (I.bs x.key)]] w _;go_enter Tryz.func10,Tryz.ntmps10;go_upto_region 1 with fail
 refine P8 fun w1 hw1=>?_
 obtain⟨HG,HR,HB⟩:=gT hw1;clear hw1;have NB:=cN (ax w1.heap.size w1);obtain⟨x0,x1,x2,x3,x4,x5,x6,x7,x8,x9,O0,O1,OB⟩:=(HG.o.below NB.o HG.o.lt).y13 0 1 2 3 4 5 6 7 8 9 10 11 12;simp at x0 x1 x2 x3 x4 x5 x6 x7 x8 x9 O0 O1 OB;obtain⟨y0,y1,y2,y3,y4,y5,y6,y7,y8,y9,OZ,Pd,Pe⟩:=(HR.o.below NB.o HR.o.lt).y13 0 1 2 3 4 5 6 7 8 9 10 11 12;simp at y0 y1 y2 y3 y4 y5 y6 y7 y8 y9 OZ Pd Pe;go_wp2_with fail
 go_loopg [5] x.q.length (fun gg i wr=>∃k:Nat,k≤x.q.length∧gg=x.q.length-k∧i=.int .i64 (k:Int)∧Hid (Below w1.heap.size w1 wr));case atStart=>exact⟨0,ao _,rfl,rfl,NB⟩
 case round=>
  clear NB x0 y0 x1 y1 x2 y2 x3 y3 x4 y4 x5 y5 x6 y6 x7 y7 x8 y8 x9 y9 O0 OZ O1 Pd OB Pe;obtain⟨k,hk,rfl,rfl,NB⟩:=hrel;obtain⟨S2,hw⟩:∃x,x=wr:=⟨_,rfl⟩;subst hw;obtain⟨x0,x1,x2,x3,x4,x5,x6,x7,x8,x9,O0,O1,OB⟩:=(HG.o.below NB.o HG.o.lt).y13 0 1 2 3 4 5 6 7 8 9 10 11 12;simp at x0 x1 x2 x3 x4 x5 x6 x7 x8 x9 O0 O1 OB;obtain⟨y0,y1,y2,y3,y4,y5,y6,y7,y8,y9,OZ,Pd,Pe⟩:=(HR.o.below NB.o HR.o.lt).y13 0 1 2 3 4 5 6 7 8 9 10 11 12;simp at y0 y1 y2 y3 y4 y5 y6 y7 y8 y9 OZ Pd Pe;by_cases hlt:k<x.q.length
  ·obtain⟨g,o,g',o',e,cs,cs',rfl,rfl,hm,hg,hg',hr,hr',hl,hl',hra,Of⟩:=Rr.two (L6.o.up (HB.o.trans (NB.o.mono HB.o.size))) (R6.o.up (HB.o.trans (NB.o.mono HB.o.size))) hlt;have t1:decide ((k:Int)<(x.q.length:Int))=true:=aq (by omega);have b1:(k:Int)<(x.q.length:Int):=by omega
   have bG:=(HG.o.below NB.o HG.o.lt).lt;have bR:=(HR.o.below NB.o HR.o.lt).lt;have HX:=cN hr;have HY:=cN hr';have RX:=cN hra;have RY:=cN Of;have IX:Hid ((Tryz.prog.info? 45).map (·.size)=some cs.length):=cN (by rw[hl];exact lM);have IY:Hid ((Tryz.prog.info? 45).map (·.size)=some cs'.length):=cN (by rw[hl'];exact lM);clear hr hr' hra Of hl hl' hm;go_upto_region 6 with fail
   refine db (tab [(10,PM)]) (Up S2) S2.heap.size 12 (Qe [(10,PK (.bool true))]) (iZ _ _) (ed _) (Up.dX _) OM (OM.turns (Up.dX _) (ed _)) (by kernel_rfl) (by kernel_rfl) (Up.start _) (aa _) ?_;simp only[List.take_succ_cons,List.take_zero,List.drop_succ_cons,List.drop_zero];iterate 10 (first|(refine cP (.agg (cs).toArray) rfl rfl (fun w' hS=>jb rfl rfl (rangeAt.up RX.o hg hS) (by kernel_rfl) IX.o) ?_;go_frame)|(refine cP (.agg (cs').toArray) rfl rfl (fun w' hS=>jb rfl rfl (rangeAt.up RY.o hg' hS) (by kernel_rfl) IY.o) ?_;go_frame)|(refine cP ?_ rfl rfl (fun w' hS=>?_) ?_;rotate_left;(first|(go_simp;rfl)|(have l0:=(hS.cell (p:=⟨w.heap.size,6,none⟩) bG).trans x6;go_simp;rfl)|(have l0:=(hS.cell (p:=⟨w.heap.size+1,6,none⟩) bR).trans y6;go_simp;rfl));go_frame))
   refine' du _ _ _ rfl rfl (fun w'=>?_) (fun w' hS hh hs=>?_) (fun v h=>?_);rotate_left 2
   ·go_simp;constructor<;>rfl
   ·refine(kSel w' cs cs' e trivial (El.up (w:=S2) HX.o hS) (El.up (w:=S2) HY.o hS)).mono ?_;rintro e w9 ⟨rfl,hb⟩;exact⟨_,rfl,⟨rfl,trivial⟩,hb⟩
   obtain rfl:=h;go_frame;iterate 1 (refine cP ?_ rfl rfl (fun w' hS=>?_) ?_;rotate_left;(first|(go_simp;rfl));go_frame)
   refine dz fun w2 hH=>?_
   have RE:=cN (NB.o.trans (cL (show Below S2.heap.size S2 w2 from hH.s) NB.o.size));clear hH NB HX HY RX RY IX IY;go_wp2_with fail
   go_roundg (x.q.length-(k+1));case measure=>omega
   case rel=>exact⟨k+1,by omega,rfl,by go_num,RE⟩
  ·obtain rfl:k=x.q.length:=by omega
   have t1:decide ((x.q.length:Int)<(x.q.length:Int))=false:=ar (by omega);clear hlt;go_wp2_with fail
   go_loopg [6] x.vals.length (fun gg i wr=>∃k:Nat,k≤x.vals.length∧gg=x.vals.length-k∧i=.int .i64 (k:Int)∧Hid (Below w1.heap.size w1 wr));case atStart=>exact⟨0,ao _,rfl,rfl,NB⟩
   case round=>
    clear NB x0 y0 x1 y1 x2 y2 x3 y3 x4 y4 x5 y5 x6 y6 x7 y7 x8 y8 x9 y9 O0 OZ O1 Pd OB Pe;obtain⟨k,hk,rfl,rfl,NB⟩:=hrel;obtain⟨S5,hw⟩:∃x,x=wr:=⟨_,rfl⟩;subst hw;obtain⟨x0,x1,x2,x3,x4,x5,x6,x7,x8,x9,O0,O1,OB⟩:=(HG.o.below NB.o HG.o.lt).y13 0 1 2 3 4 5 6 7 8 9 10 11 12;simp at x0 x1 x2 x3 x4 x5 x6 x7 x8 x9 O0 O1 OB;obtain⟨y0,y1,y2,y3,y4,y5,y6,y7,y8,y9,OZ,Pd,Pe⟩:=(HR.o.below NB.o HR.o.lt).y13 0 1 2 3 4 5 6 7 8 9 10 11 12;simp at y0 y1 y2 y3 y4 y5 y6 y7 y8 y9 OZ Pd Pe;by_cases hlt:k<x.vals.length
    ·obtain⟨g,o,g',o',e,cs,cs',rfl,rfl,hm,hg,hg',hr,hr',hl,hl',hra,Of⟩:=Rr.two (L7.o.up (HB.o.trans (NB.o.mono HB.o.size))) (R7.o.up (HB.o.trans (NB.o.mono HB.o.size))) hlt;have t1:decide ((k:Int)<(x.vals.length:Int))=true:=aq (by omega);have b1:(k:Int)<(x.vals.length:Int):=by omega
     have bG:=(HG.o.below NB.o HG.o.lt).lt;have bR:=(HR.o.below NB.o HR.o.lt).lt;obtain⟨AX,mX,cX,hX,n0⟩:=M0 hr hra;obtain⟨AY,mY,cY,hY,Ww⟩:=M0 hr' Of;simp only[show fO.k=1 from rfl,bZ]at n0 Ww;have HX:=cN hX;have HY:=cN hY;clear hX hY hr hr' hra Of hl hl' hm;go_upto_region 11 with fail
     refine db (tab [(10,PM)]) (Up S5) S5.heap.size 12 (Qe [(10,PK (.bool true))]) (iZ _ _) (ed _) (Up.dX _) OM (OM.turns (Up.dX _) (ed _)) (by kernel_rfl) (by kernel_rfl) (Up.start _) (aa _) ?_;simp only[List.take_succ_cons,List.take_zero,List.drop_succ_cons,List.drop_zero];iterate 10 (refine cP ?_ rfl rfl (fun w' hS=>?_) ?_;rotate_left;(first|(go_simp;rfl)|(have l0:=(hS.cell (p:=⟨w.heap.size,7,none⟩) bG).trans x7;go_simp;rfl)|(have l0:=(hS.cell (p:=⟨w.heap.size+1,7,none⟩) bR).trans y7;go_simp;rfl)|(have l0:=(hS.cell (p:=⟨g,o+k,none⟩) hg).trans n0;go_simp;rfl)|(have l0:=(hS.cell (p:=⟨g',o'+k,none⟩) hg').trans Ww;go_simp;rfl));go_frame)
     refine' du _ _ _ rfl rfl (fun w'=>?_) (fun w' hS hh hs=>?_) (fun v h=>?_);rotate_left 2
     ·go_simp;constructor<;>rfl
     ·refine(kL w' _ _ e (fun _ _=>trivial) (Rr.up (w:=S5) HX.o hS) (Rr.up (w:=S5) HY.o hS)).mono ?_;rintro e w9 ⟨rfl,hb⟩;exact⟨_,rfl,⟨rfl,trivial⟩,hb⟩
     obtain rfl:=h;go_frame;iterate 1 (refine cP ?_ rfl rfl (fun w' hS=>?_) ?_;rotate_left;(first|(go_simp;rfl));go_frame)
     refine dz fun w2 hH=>?_
     have RE:=cN (NB.o.trans (cL (show Below S5.heap.size S5 w2 from hH.s) NB.o.size));clear hH NB HX HY;go_wp2_with fail
     go_roundg (x.vals.length-(k+1));case measure=>omega
     case rel=>exact⟨k+1,by omega,rfl,by go_num,RE⟩
    ·obtain rfl:k=x.vals.length:=by omega
     have t1:decide ((x.vals.length:Int)<(x.vals.length:Int))=false:=ar (by omega);clear hlt;go_wp2_with fail
     go_loopg [7] x.dD.length (fun gg i wr=>∃k:Nat,k≤x.dD.length∧gg=x.dD.length-k∧i=.int .i64 (k:Int)∧Hid (Below w1.heap.size w1 wr));case atStart=>exact⟨0,ao _,rfl,rfl,NB⟩
     case round=>
      clear NB x0 y0 x1 y1 x2 y2 x3 y3 x4 y4 x5 y5 x6 y6 x7 y7 x8 y8 x9 y9 O0 OZ O1 Pd OB Pe;obtain⟨k,hk,rfl,rfl,NB⟩:=hrel;obtain⟨SM,hw⟩:∃x,x=wr:=⟨_,rfl⟩;subst hw;obtain⟨x0,x1,x2,x3,x4,x5,x6,x7,x8,x9,O0,O1,OB⟩:=(HG.o.below NB.o HG.o.lt).y13 0 1 2 3 4 5 6 7 8 9 10 11 12;simp at x0 x1 x2 x3 x4 x5 x6 x7 x8 x9 O0 O1 OB;obtain⟨y0,y1,y2,y3,y4,y5,y6,y7,y8,y9,OZ,Pd,Pe⟩:=(HR.o.below NB.o HR.o.lt).y13 0 1 2 3 4 5 6 7 8 9 10 11 12;simp at y0 y1 y2 y3 y4 y5 y6 y7 y8 y9 OZ Pd Pe;by_cases hlt:k<x.dD.length
      ·obtain⟨g,o,g',o',e,cs,cs',rfl,rfl,hm,hg,hg',hr,hr',hl,hl',hra,Of⟩:=Rr.two (L8.o.up (HB.o.trans (NB.o.mono HB.o.size))) (R8.o.up (HB.o.trans (NB.o.mono HB.o.size))) hlt;have t1:decide ((k:Int)<(x.dD.length:Int))=true:=aq (by omega);have b1:(k:Int)<(x.dD.length:Int):=by omega
       have bG:=(HG.o.below NB.o HG.o.lt).lt;have bR:=(HR.o.below NB.o HR.o.lt).lt;obtain⟨ce,hX,lx,Vw,n1⟩:=KE hr hra;obtain⟨de,hY,ly,Vx,n1'⟩:=KE hr' Of;have HX:=cN hX;have HY:=cN hY;have RX:=cN Vw;have RY:=cN Vx;have IX:Hid ((Tryz.prog.info? 50).map (·.size)=some ce.length):=cN (by rw[lx];exact ji);have IY:Hid ((Tryz.prog.info? 50).map (·.size)=some de.length):=cN (by rw[ly];exact ji);clear hX hY Vw Vx lx ly hr hr' hra Of hl hl' hm;go_upto_region 16 with fail
       refine db (tab [(26,PM)]) (Up SM) SM.heap.size 29 (Qe [(26,PK (.bool true))]) (iZ _ _) (ed _) (Up.dX _) OM (OM.turns (Up.dX _) (ed _)) (by kernel_rfl) (by kernel_rfl) (Up.start _) (aa _) ?_;simp only[List.take_succ_cons,List.take_zero,List.drop_succ_cons,List.drop_zero];iterate 26 (first|(refine cP (.agg (ce).toArray) rfl rfl (fun w' hS=>jb rfl rfl (rangeAt.up RX.o hg hS) (by kernel_rfl) IX.o) ?_;go_frame)|(refine cP (.agg (de).toArray) rfl rfl (fun w' hS=>jb rfl rfl (rangeAt.up RY.o hg' hS) (by kernel_rfl) IY.o) ?_;go_frame)|(refine cP ?_ rfl rfl (fun w' hS=>?_) ?_;rotate_left;(first|(go_simp;rfl)|(have l0:=(hS.cell (p:=⟨w.heap.size,8,none⟩) bG).trans x8;go_simp;rfl)|(have l0:=(hS.cell (p:=⟨w.heap.size+1,8,none⟩) bR).trans y8;go_simp;rfl)|(have l0:=(hS.cell (p:=⟨g,o+k*9,none⟩) hg).trans n1;go_simp;rfl)|(have l0:=(hS.cell (p:=⟨g',o'+k*9,none⟩) hg').trans n1';go_simp;rfl));go_frame))
       refine' du _ _ _ rfl rfl (fun w'=>?_) (fun w' hS hh hs=>?_) (fun v h=>?_);rotate_left 2
       ·go_simp;constructor<;>rfl
       ·refine(kE w' ce de e.x trivial (El.up (w:=SM) HX.o hS) (El.up (w:=SM) HY.o hS)).mono ?_;rintro e w9 ⟨rfl,hb⟩;exact⟨_,rfl,⟨rfl,trivial⟩,hb⟩
       obtain rfl:=h;go_frame;iterate 2 (refine cP ?_ rfl rfl (fun w' hS=>?_) ?_;rotate_left;(first|(go_simp;rfl));go_frame)
       refine dz fun w2 hH=>?_
       have RE:=cN (NB.o.trans (cL (show Below SM.heap.size SM w2 from hH.s) NB.o.size));clear hH NB HX HY RX RY IX IY;go_wp2_with fail
       go_roundg (x.dD.length-(k+1));case measure=>omega
       case rel=>exact⟨k+1,by omega,rfl,by go_num,RE⟩
      ·obtain rfl:k=x.dD.length:=by omega
       have t1:decide ((x.dD.length:Int)<(x.dD.length:Int))=false:=ar (by omega);clear hlt;go_wp2_with fail
       go_loopg [8] x.pv.length (fun gg i wr=>∃k:Nat,k≤x.pv.length∧gg=x.pv.length-k∧i=.int .i64 (k:Int)∧Hid (Below w1.heap.size w1 wr));case atStart=>exact⟨0,ao _,rfl,rfl,NB⟩
       case round=>
        clear NB x0 y0 x1 y1 x2 y2 x3 y3 x4 y4 x5 y5 x6 y6 x7 y7 x8 y8 x9 y9 O0 OZ O1 Pd OB Pe;obtain⟨k,hk,rfl,rfl,NB⟩:=hrel;obtain⟨Zj,hw⟩:∃x,x=wr:=⟨_,rfl⟩;subst hw;obtain⟨x0,x1,x2,x3,x4,x5,x6,x7,x8,x9,O0,O1,OB⟩:=(HG.o.below NB.o HG.o.lt).y13 0 1 2 3 4 5 6 7 8 9 10 11 12;simp at x0 x1 x2 x3 x4 x5 x6 x7 x8 x9 O0 O1 OB;obtain⟨y0,y1,y2,y3,y4,y5,y6,y7,y8,y9,OZ,Pd,Pe⟩:=(HR.o.below NB.o HR.o.lt).y13 0 1 2 3 4 5 6 7 8 9 10 11 12;simp at y0 y1 y2 y3 y4 y5 y6 y7 y8 y9 OZ Pd Pe;by_cases hlt:k<x.pv.length
        ·obtain⟨g,o,g',o',e,cs,cs',rfl,rfl,hm,hg,hg',hr,hr',hl,hl',hra,Of⟩:=Rr.two (L10.o.up (HB.o.trans (NB.o.mono HB.o.size))) (R10.o.up (HB.o.trans (NB.o.mono HB.o.size))) hlt;have t1:decide ((k:Int)<(x.pv.length:Int))=true:=aq (by omega);have b1:(k:Int)<(x.pv.length:Int):=by omega
         have bG:=(HG.o.below NB.o HG.o.lt).lt;have bR:=(HR.o.below NB.o HR.o.lt).lt;have n0:=pvR hr hra;have Ww:=pvR hr' Of;simp only[show jZ.k=1 from rfl,bZ]at n0 Ww;clear hr hr' hra Of hl hl' hm;go_upto_region 21 with fail
         refine db (tab []) (Up Zj) Zj.heap.size 11 (Qe []) CB pL (Up.dX _) OM (OM.turns (Up.dX _) pL) (by kernel_rfl) (by kernel_rfl) (Up.start _) (aa _) ?_;simp only[List.take_succ_cons,List.take_zero,List.drop_succ_cons,List.drop_zero];iterate 11 (refine cP ?_ rfl rfl (fun w' hS=>?_) ?_;rotate_left;(first|(go_simp;rfl)|(have l0:=(hS.cell (p:=⟨w.heap.size,10,none⟩) bG).trans O0;go_simp;rfl)|(have l0:=(hS.cell (p:=⟨w.heap.size+1,10,none⟩) bR).trans OZ;go_simp;rfl)|(have l0:=(hS.cell (p:=⟨g,o+k,none⟩) hg).trans n0;go_simp;rfl)|(have l0:=(hS.cell (p:=⟨g',o'+k,none⟩) hg').trans Ww;go_simp;rfl));go_frame)
         refine dz fun w2 hH=>?_
         have RE:=cN (NB.o.trans (cL (show Below Zj.heap.size Zj w2 from hH.s) NB.o.size));clear hH NB;go_wp2_with fail
         go_roundg (x.pv.length-(k+1));case measure=>omega
         case rel=>exact⟨k+1,by omega,rfl,by go_num,RE⟩
        ·obtain rfl:k=x.pv.length:=by omega
         have t1:decide ((x.pv.length:Int)<(x.pv.length:Int))=false:=ar (by omega);clear hlt;go_wp2_with fail
         refine(kCs Zj _ _ x.NH (fun _ _=>trivial) (Rr.up L5.o (HB.o.trans (NB.o.mono HB.o.size))) (Rr.up R5.o (HB.o.trans (NB.o.mono HB.o.size)))).mono ?_;rintro e we5 ⟨rfl,hb⟩;have Oi:=cN (NB.o.trans (hb.mono NB.o.size));clear NB hb x0 y0 x1 y1 x2 y2 x3 y3 x4 y4 x5 y5 x6 y6 x7 y7 x8 y8 x9 y9 O0 OZ O1 Pd OB Pe;have NB:=Oi;clear Oi;obtain⟨x0,x1,x2,x3,x4,x5,x6,x7,x8,x9,O0,O1,OB⟩:=(HG.o.below NB.o HG.o.lt).y13 0 1 2 3 4 5 6 7 8 9 10 11 12;simp at x0 x1 x2 x3 x4 x5 x6 x7 x8 x9 O0 O1 OB;obtain⟨y0,y1,y2,y3,y4,y5,y6,y7,y8,y9,OZ,Pd,Pe⟩:=(HR.o.below NB.o HR.o.lt).y13 0 1 2 3 4 5 6 7 8 9 10 11 12;simp at y0 y1 y2 y3 y4 y5 y6 y7 y8 y9 OZ Pd Pe;go_wp2_with fail
         refine(kL we5 _ _ x.wh (fun _ _=>trivial) (Rr.up L9.o (HB.o.trans (NB.o.mono HB.o.size))) (Rr.up R9.o (HB.o.trans (NB.o.mono HB.o.size)))).mono ?_;rintro e we9 ⟨rfl,hb⟩;have Oi:=cN (NB.o.trans (hb.mono NB.o.size));clear NB hb x0 y0 x1 y1 x2 y2 x3 y3 x4 y4 x5 y5 x6 y6 x7 y7 x8 y8 x9 y9 O0 OZ O1 Pd OB Pe;have NB:=Oi;clear Oi;obtain⟨x0,x1,x2,x3,x4,x5,x6,x7,x8,x9,O0,O1,OB⟩:=(HG.o.below NB.o HG.o.lt).y13 0 1 2 3 4 5 6 7 8 9 10 11 12;simp at x0 x1 x2 x3 x4 x5 x6 x7 x8 x9 O0 O1 OB;obtain⟨y0,y1,y2,y3,y4,y5,y6,y7,y8,y9,OZ,Pd,Pe⟩:=(HR.o.below NB.o HR.o.lt).y13 0 1 2 3 4 5 6 7 8 9 10 11 12;simp at y0 y1 y2 y3 y4 y5 y6 y7 y8 y9 OZ Pd Pe;go_wp2_with fail
         go_ret;exact⟨rfl,HB.o.trans (NB.o.mono HB.o.size)⟩
end
structure Fl (g:Nat) (w0:World) (lo:Nat) (ow:eP) (its:List It) (Q:World→Prop) (w:World):Prop where
 fr:Fr g w0 ow [] Q w
 l1:w0.heap.size≤lo
 l2:lo≤w.heap.size
 lt:∀p∈ow,p.1<lo
 its:∀F∈its,F.P w (fun b=>w0.heap.size≤b∧b<lo∧∀p∈ow,p.1≠b)
section
variable{g lo:Nat}{w0 w w':World}{own:eP}{its:List It}{Q Q':World→Prop}
theorem Fl.start(h:Fr g w0 own its Q w):Fl g w0 w.heap.size own its Q w:=
 ⟨h.none,h.ch.size,aa _,fun p hp=>(h.own p hp).2.lt,fun F hF=>F.dH (fun _ hb=>hb) (fun _ _=>rfl) (h.its F hF)⟩
theorem Fl.gl(h:Fl g w0 lo own its Q w):g<lo:=aB h.fr.lt h.l1
theorem Fl.call(h:Fl g w0 lo own its Q w)(hq:ph g Q' w')(hc:Ch g w.heap.size w w'):Fl g w0 lo own its Q' w':=
 ⟨h.fr.call hq hc,h.l1,aw h.l2 hc.size,h.lt,fun F hF=>F.dH (fun _ hb=>hb) (fun b hb=>hc.block b (by have:=hb.2.1;have:=h.l2;omega) (by have:=hb.1;have:=h.fr.lt;omega)) (h.its F hF)⟩
theorem Fl.low(h:Fl g w0 lo own its Q w)(hb:Below lo w w'):Fl g w0 lo own its Q w':=
 ⟨h.fr.low hb h.gl h.l1 h.lt,h.l1,aw h.l2 hb.size,h.lt,fun F hF=>F.dH (fun _ hb=>hb) (fun b hk=>hb.block b hk.2.1) (h.its F hF)⟩
theorem Fl.ew{b:Nat}{t:TypeId}{cs:Array Value}(h:Fl g w0 lo ((b,t,cs)::own) its Q w)(i:Nat)(v:Value){cs':Array Value}(e:cs.setIfInBounds i v=cs'):Fl g w0 lo ((b,t,cs')::own) its Q (w.setCell ⟨b,i,none⟩ v):=by
 have hM:∀k,(w0.heap.size≤k∧k<lo∧∀p∈((b,t,cs)::own:eP),p.1≠k)→(w0.heap.size≤k∧k<lo∧∀p∈((b,t,cs')::own:eP),p.1≠k):=fun k hk=>⟨hk.1,hk.2.1,fun p hp=>by
  rcases af.1 hp with rfl|hp
  ·exact hk.2.2 (b,t,cs) ag
  ·exact hk.2.2 p (au _ hp)⟩
 refine⟨h.fr.ew i v e,h.l1,by have:=h.l2;simpa using this,fun p hp=>?_,fun F hF=>F.dH hM (fun k hk=>aU w ⟨b,i,none⟩ v k (by have:=hk.2.2 (b,t,cs) ag;exact fun e=>this e.symm)) (h.its F hF)⟩;rcases af.1 hp with rfl|hp
 ·exact h.lt (b,t,cs) ag
 ·exact h.lt p (au _ hp)
theorem Fl.done{α:Type}{E:El α}{v:Value}{xs:List α}(h:Fl g w0 lo own its Q w)(ho:Ro E w lo v xs):Fr g w0 own (It.rr E v xs::its) Q w:=by
 refine⟨h.fr.lt,h.fr.ps,h.fr.ch,h.fr.own,h.fr.nd,fun F hF=>?_⟩;rcases af.1 hF with rfl|hF
 ·exact ho.rr.hp (fun b hb=>⟨by have:=h.l1;omega,hb.2,fun p hp=>by have:=h.lt p hp;omega⟩) fun _ _=>rfl
 ·exact F.dH (fun b hb=>⟨hb.1,by have:=hb.2.1;have:=h.l2;omega,hb.2.2⟩) (fun _ _=>rfl) (h.its F hF)
theorem Fl.cQ{b:Nat}{t:TypeId}{cs:Array Value}(h:Fl g w0 lo ((b,t,cs)::own) its Q w):NA w b t cs:=h.fr.cQ
end
end Go.Proofs.YtnicfobpclehkaaGreatDoor
