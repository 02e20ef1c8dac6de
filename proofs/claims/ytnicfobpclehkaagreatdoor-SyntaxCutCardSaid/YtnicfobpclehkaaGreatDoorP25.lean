import Derived.Test.YtnicfobpclehkaaGreatDoorP24
set_option maxHeartbeats 20000000
set_option linter.unusedVariables false
set_option linter.unusedSimpArgs false
namespace Go.Proofs.YtnicfobpclehkaaGreatDoor
open Go.RowKit
section
set_option maxRecDepth 100000
theorem JG:UB 171:=fun w a b=>by simp[go_sem]
theorem Iz:UB 174:=fun w a b=>by simp[go_sem]
theorem Ii:UB 176:=fun w a b=>by simp[go_sem]
theorem J4:UB 94:=fun w a b=>by simp[go_sem]
theorem Km:UB 96:=fun w a b=>by simp[go_sem]
theorem Jn:UB 98:=fun w a b=>by simp[go_sem]
theorem Kc:UB 100:=fun w a b=>by simp[go_sem]
theorem I9:SE fO 98 yw fun _=>True:=by
 intro w cs cs' x y _ hx hy;obtain⟨v,rfl,hv⟩:=hx;obtain⟨u,rfl,hu⟩:=hy;exact gp w v u x y (fun _ _=>trivial) hv hu
theorem xg:SE fw 96 iK (fun _=>True):=by
 intro w cs cs' x y hp hx hy;have HP:=cN hp;clear hp;obtain⟨a0,a1,a2,a3,a4,a5,a6⟩:=x;obtain⟨b0,b1,b2,b3,b4,b5,b6⟩:=y;obtain⟨v1,v2,v3,v4,v5,rfl,p1,p2,p3,p4,p5,_,_⟩:=hx;obtain⟨u1,u2,u3,u4,u5,rfl,q1,q2,q3,q4,q5,_,_⟩:=hy;obtain⟨A1,m1,c1,rfl⟩:=dj p1;obtain⟨zA1,zm1,zc1,rfl⟩:=dj q1;dsimp only at p1 q1;have L1:=cN p1;have R1:=cN q1;obtain⟨A2,m2,c2,rfl⟩:=dj p2;obtain⟨zA2,zm2,zc2,rfl⟩:=dj q2;dsimp only at p2 q2;have L2:=cN p2;have R2:=cN q2;obtain⟨A3,m3,c3,rfl⟩:=dj p3;obtain⟨zA3,zm3,zc3,rfl⟩:=dj q3;dsimp only at p3 q3;have L3:=cN p3;have R3:=cN q3;obtain⟨A4,m4,c4,rfl⟩:=dj p4;obtain⟨zA4,zm4,zc4,rfl⟩:=dj q4;dsimp only at p4 q4;have L4:=cN p4;have R4:=cN q4;obtain⟨A5,m5,c5,rfl⟩:=dj p5;obtain⟨V8,zm5,V9,rfl⟩:=dj q5;dsimp only at p5 q5;have L5:=cN p5;have R5:=cN q5;clear p1 q1 p2 q2 p3 q3 p4 q4 p5 q5;simp only[iK,cT,List.cons_append,List.nil_append];go_enter Tryz.func96,Tryz.ntmps96;go_upto_region 1 with fail
 refine P8 fun w1 hw1=>?_
 obtain⟨HG,HR,HB⟩:=gT hw1;clear hw1;have NB:=cN (ax w1.heap.size w1);obtain⟨x0,x1,x2,x3,x4,x5,x6⟩:=(HG.o.below NB.o HG.o.lt).y7 0 1 2 3 4 5 6;simp at x0 x1 x2 x3 x4 x5 x6;obtain⟨y0,y1,y2,y3,y4,y5,y6⟩:=(HR.o.below NB.o HR.o.lt).y7 0 1 2 3 4 5 6;simp at y0 y1 y2 y3 y4 y5 y6;rcases mH a0 b0 with⟨H0,t0⟩|h
 rcases D7 a6 b6 with⟨H6,t6⟩|h
 focus go_wp2_with fail
 refine(Ju _ JG _ xS w1 _ _ a1 b1 (fun _ _=>trivial) (Rr.up L1.o (HB.o.trans (NB.o.mono HB.o.size))) (Rr.up R1.o (HB.o.trans (NB.o.mono HB.o.size)))).mono ?_;rintro e PW ⟨rfl,hb⟩;have Oi:=cN (NB.o.trans (hb.mono NB.o.size));clear NB hb x0 y0 x1 y1 x2 y2 x3 y3 x4 y4 x5 y5 x6 y6;have NB:=Oi;clear Oi;obtain⟨x0,x1,x2,x3,x4,x5,x6⟩:=(HG.o.below NB.o HG.o.lt).y7 0 1 2 3 4 5 6;simp at x0 x1 x2 x3 x4 x5 x6;obtain⟨y0,y1,y2,y3,y4,y5,y6⟩:=(HR.o.below NB.o HR.o.lt).y7 0 1 2 3 4 5 6;simp at y0 y1 y2 y3 y4 y5 y6;rcases Classical.em (a1=b1)with h|h
 rw[eu h];have H1:=cN h;clear h;focus go_wp2_with fail
 refine(Jc _ Iz _ xE PW _ _ a2 b2 (fun _ _=>trivial) (Rr.up L2.o (HB.o.trans (NB.o.mono HB.o.size))) (Rr.up R2.o (HB.o.trans (NB.o.mono HB.o.size)))).mono ?_;rintro e Qu ⟨rfl,hb⟩;have Oi:=cN (NB.o.trans (hb.mono NB.o.size));clear NB hb x0 y0 x1 y1 x2 y2 x3 y3 x4 y4 x5 y5 x6 y6;have NB:=Oi;clear Oi;obtain⟨x0,x1,x2,x3,x4,x5,x6⟩:=(HG.o.below NB.o HG.o.lt).y7 0 1 2 3 4 5 6;simp at x0 x1 x2 x3 x4 x5 x6;obtain⟨y0,y1,y2,y3,y4,y5,y6⟩:=(HR.o.below NB.o HR.o.lt).y7 0 1 2 3 4 5 6;simp at y0 y1 y2 y3 y4 y5 y6;rcases Classical.em (a2=b2)with h|h
 rw[eu h];have H2:=cN h;clear h;focus go_wp2_with fail
 refine(gp Qu _ _ a3 b3 (fun _ _=>trivial) (Rr.up L3.o (HB.o.trans (NB.o.mono HB.o.size))) (Rr.up R3.o (HB.o.trans (NB.o.mono HB.o.size)))).mono ?_;rintro e Uf ⟨rfl,hb⟩;have Oi:=cN (NB.o.trans (hb.mono NB.o.size));clear NB hb x0 y0 x1 y1 x2 y2 x3 y3 x4 y4 x5 y5 x6 y6;have NB:=Oi;clear Oi;obtain⟨x0,x1,x2,x3,x4,x5,x6⟩:=(HG.o.below NB.o HG.o.lt).y7 0 1 2 3 4 5 6;simp at x0 x1 x2 x3 x4 x5 x6;obtain⟨y0,y1,y2,y3,y4,y5,y6⟩:=(HR.o.below NB.o HR.o.lt).y7 0 1 2 3 4 5 6;simp at y0 y1 y2 y3 y4 y5 y6;rcases Classical.em (a3=b3)with h|h
 rw[eu h];have H3:=cN h;clear h;focus go_wp2_with fail
 refine(gp Uf _ _ a4 b4 (fun _ _=>trivial) (Rr.up L4.o (HB.o.trans (NB.o.mono HB.o.size))) (Rr.up R4.o (HB.o.trans (NB.o.mono HB.o.size)))).mono ?_;rintro e ZO ⟨rfl,hb⟩;have Oi:=cN (NB.o.trans (hb.mono NB.o.size));clear NB hb x0 y0 x1 y1 x2 y2 x3 y3 x4 y4 x5 y5 x6 y6;have NB:=Oi;clear Oi;obtain⟨x0,x1,x2,x3,x4,x5,x6⟩:=(HG.o.below NB.o HG.o.lt).y7 0 1 2 3 4 5 6;simp at x0 x1 x2 x3 x4 x5 x6;obtain⟨y0,y1,y2,y3,y4,y5,y6⟩:=(HR.o.below NB.o HR.o.lt).y7 0 1 2 3 4 5 6;simp at y0 y1 y2 y3 y4 y5 y6;rcases Classical.em (a4=b4)with h|h
 rw[eu h];have H4:=cN h;clear h;focus go_wp2_with fail
 refine(JB _ Ii _ xF ZO _ _ a5 b5 (fun _ _=>trivial) (Rr.up L5.o (HB.o.trans (NB.o.mono HB.o.size))) (Rr.up R5.o (HB.o.trans (NB.o.mono HB.o.size)))).mono ?_;rintro e SX ⟨rfl,hb⟩;have Oi:=cN (NB.o.trans (hb.mono NB.o.size));clear NB hb x0 y0 x1 y1 x2 y2 x3 y3 x4 y4 x5 y5 x6 y6;have NB:=Oi;clear Oi;rcases Classical.em (a5=b5)with h|h
 rw[eu h];have H5:=cN h;clear h
 ·go_wp2_with fail
  go_ret;exact⟨ku (by rw[H0.o,H6.o,H1.o,H2.o,H3.o,H4.o,H5.o]),HB.o.trans (NB.o.mono HB.o.size)⟩
 all_goals
  first|rw[gb h]|have t:=qg h|have t:=int_ne h
  go_wp2_with fail
  go_ret
  exact⟨kG fun e=>h (by cases e;rfl),HB.o.trans (NB.o.mono HB.o.size)⟩
theorem Nq:WZ jZ 101 #[] fun _=>True:=by
 intro w v v' xs ys hp hx hy;have HX:=cN hx;have HY:=cN hy;obtain⟨A,c,rfl,h1,h2⟩:=hx.form;obtain⟨A',c',rfl,h1',h2'⟩:=hy.form;clear hp hx hy;show Calls Tryz.prog 101 #[.slice A xs.length c,.slice A' ys.length c'] w _;by_cases hlen:xs.length=ys.length
 ·have t0:ys.length=xs.length:=hlen.symm;have T5:=cN hlen;have HT0:Hid (xs.take 0=ys.take 0):=rfl;have HB0:=cN (ax w.heap.size w);clear hlen;go_enter Tryz.func101,Tryz.ntmps101;go_wp2_with fail
  go_loopg [13] xs.length (fun gg i wr=>∃k:Nat,k≤xs.length∧gg=xs.length-k∧i=.int .i64 (k:Int)∧Hid (xs.take k=ys.take k)∧Hid (Below w.heap.size w wr));case atStart=>exact⟨0,ao _,rfl,rfl,HT0,HB0⟩
  case round=>
   obtain⟨k,hk,rfl,rfl,HT,HB⟩:=hrel;obtain⟨w1,hw⟩:∃x,x=wr:=⟨_,rfl⟩;subst hw;clear HT0 HB0 t0;by_cases hlt:k<xs.length
   ·have hlt':k<ys.length:=by have:=T5.o;omega
    obtain⟨g,off,c2,x,cs,hv,q1,q2,hg,hi,hr,hl,hra⟩:=(HX.o.up HB.o).range hlt;obtain⟨g',off',c2',y,cs',hv',q1',q2',hg',hi',hr',hl',Of⟩:=(HY.o.up HB.o).range hlt';injection hv with e1 e2 e3
    injection hv' with VZ e2' e3'
    subst e1 e3 VZ e3';clear e2 e2' q1 q1' q2 q2';have t1:decide ((k:Int)<(xs.length:Int))=true:=aq (by omega);have b1:(k:Int)<(xs.length:Int):=by omega
    have b2:(k:Int)<(ys.length:Int):=by omega
    have HI:=cN hi;have Vc:=cN hi';have e1:cs=[.int .u8 (x.toNat:Int)]:=hr;have e2:cs'=[.int .u8 (y.toNat:Int)]:=hr';subst e1 e2;have k1:=hra 0 _ rfl;have k2:=Of 0 _ rfl;rw[show jZ.k=1 from rfl,bZ,bh]at k1 k2;clear hi hi' hra Of hl hl' hr hr';by_cases hxy:x=y
    ·have t3:((x.toNat:Int) !=(y.toNat:Int))=false:=by rw[hxy];simp
     have t4:((x.toNat:Int)==(y.toNat:Int))=true:=by rw[hxy];simp
     have HT1:=cN (uI HT.o HI.o Vc.o (eu hxy));clear hxy;go_wp2_with fail
     go_region;all_goals
      go_wp2_with fail
      go_roundg (xs.length-(k+1))
      case measure=>omega
      case rel=>exact⟨k+1,by omega,rfl,by go_num,HT1,cN (below_drewN HB.o _)⟩
    ·have t3:((x.toNat:Int) !=(y.toNat:Int))=true:=G0 hxy;have t4:((x.toNat:Int)==(y.toNat:Int))=false:=xV hxy;have HE:=cN (yx HI.o Vc.o (gb hxy));clear hxy;go_wp2_with fail
     go_region;all_goals
      go_wp2_with fail
      go_ret
      exact⟨by rw[HE.o];rfl,below_drewN HB.o _⟩
   ·obtain rfl:k=xs.length:=by omega
    have t1:decide ((xs.length:Int)<(xs.length:Int))=false:=ar (by omega);have HE:=cN (ue HT.o rfl T5.o.symm);go_wp2_with fail
    go_ret;exact⟨by rw[HE.o];rfl,HB.o⟩
 ·have HE:=cN (Io hlen);have t1:¬(xs.length:Int)=(ys.length:Int):=by omega
  go_enter Tryz.func101,Tryz.ntmps101;go_wp2_with fail
  go_ret;exact⟨by rw[HE.o];rfl,ax _ _⟩
theorem xR:SE df 41 iK (fun _=>True):=by
 intro w cs cs' x y hp hx hy;have HP:=cN hp;clear hp;obtain⟨a0,a1,a2,a3,a4,a5,a6,a7,a8,a9,Zw,a11,a12⟩:=x;obtain⟨b0,b1,b2,b3,b4,b5,b6,b7,b8,b9,b10,b11,b12⟩:=y;obtain⟨v1,v2,v3,v4,v5,v6,rfl,p5,p6,p7,p8,p9,Ve,_,_,_,_⟩:=hx;obtain⟨u1,u2,u3,u4,u5,u6,rfl,q5,q6,q7,q8,q9,Tf,_,_,_,_⟩:=hy;obtain⟨A5,m5,c5,rfl⟩:=dj p5;obtain⟨V8,zm5,V9,rfl⟩:=dj q5;dsimp only at p5 q5;have L5:=cN p5;have R5:=cN q5;obtain⟨A6,m6,c6,rfl⟩:=dj p6;obtain⟨zA6,zm6,zc6,rfl⟩:=dj q6;dsimp only at p6 q6;have L6:=cN p6;have R6:=cN q6;obtain⟨A7,m7,c7,rfl⟩:=dj p7;obtain⟨zA7,zm7,zc7,rfl⟩:=dj q7;dsimp only at p7 q7;have L7:=cN p7;have R7:=cN q7;obtain⟨A8,m8,c8,rfl⟩:=dj p8;obtain⟨zA8,zm8,zc8,rfl⟩:=dj q8;dsimp only at p8 q8;have L8:=cN p8;have R8:=cN q8;obtain⟨A9,m9,c9,rfl⟩:=dj p9;obtain⟨zA9,zm9,zc9,rfl⟩:=dj q9;dsimp only at p9 q9;have L9:=cN p9;have R9:=cN q9;obtain⟨A10,m10,c10,rfl⟩:=dj Ve;obtain⟨Yv,zm10,Yw,rfl⟩:=dj Tf;dsimp only at Ve Tf;have L10:=cN Ve;have R10:=cN Tf;clear p5 q5 p6 q6 p7 q7 p8 q8 p9 q9 Ve Tf;simp only[iK,cT,List.cons_append,List.nil_append];go_enter Tryz.func41,Tryz.ntmps41;go_upto_region 1 with fail
 refine P8 fun w1 hw1=>?_
 obtain⟨HG,HR,HB⟩:=gT hw1;clear hw1;have NB:=cN (ax w1.heap.size w1);obtain⟨x0,x1,x2,x3,x4,x5,x6,x7,x8,x9,O0,O1,OB⟩:=(HG.o.below NB.o HG.o.lt).y13 0 1 2 3 4 5 6 7 8 9 10 11 12;simp at x0 x1 x2 x3 x4 x5 x6 x7 x8 x9 O0 O1 OB;obtain⟨y0,y1,y2,y3,y4,y5,y6,y7,y8,y9,OZ,Pd,Pe⟩:=(HR.o.below NB.o HR.o.lt).y13 0 1 2 3 4 5 6 7 8 9 10 11 12;simp at y0 y1 y2 y3 y4 y5 y6 y7 y8 y9 OZ Pd Pe;rcases xp a0 b0 with⟨H0,t0⟩|h
 rcases nf a1 b1 with⟨H1,t1⟩|h
 rcases nf a2 b2 with⟨H2,t2⟩|h
 rcases nf a3 b3 with⟨H3,t3⟩|h
 rcases xp a4 b4 with⟨H4,t4⟩|h
 rcases mH a11 b11 with⟨H11,t11⟩|h
 rcases nf a12 b12 with⟨H12,t12⟩|h
 focus go_wp2_with fail
 refine(Jj _ J4 _ xa w1 _ _ a5 b5 (fun _ _=>trivial) (Rr.up L5.o (HB.o.trans (NB.o.mono HB.o.size))) (Rr.up R5.o (HB.o.trans (NB.o.mono HB.o.size)))).mono ?_;rintro e SX ⟨rfl,hb⟩;have Oi:=cN (NB.o.trans (hb.mono NB.o.size));clear NB hb x0 y0 x1 y1 x2 y2 x3 y3 x4 y4 x5 y5 x6 y6 x7 y7 x8 y8 x9 y9 O0 OZ O1 Pd OB Pe;have NB:=Oi;clear Oi;obtain⟨x0,x1,x2,x3,x4,x5,x6,x7,x8,x9,O0,O1,OB⟩:=(HG.o.below NB.o HG.o.lt).y13 0 1 2 3 4 5 6 7 8 9 10 11 12;simp at x0 x1 x2 x3 x4 x5 x6 x7 x8 x9 O0 O1 OB;obtain⟨y0,y1,y2,y3,y4,y5,y6,y7,y8,y9,OZ,Pd,Pe⟩:=(HR.o.below NB.o HR.o.lt).y13 0 1 2 3 4 5 6 7 8 9 10 11 12;simp at y0 y1 y2 y3 y4 y5 y6 y7 y8 y9 OZ Pd Pe;rcases Classical.em (a5=b5)with h|h
 rw[eu h];have H5:=cN h;clear h;focus go_wp2_with fail
 refine(Jp _ Km _ xg SX _ _ a6 b6 (fun _ _=>trivial) (Rr.up L6.o (HB.o.trans (NB.o.mono HB.o.size))) (Rr.up R6.o (HB.o.trans (NB.o.mono HB.o.size)))).mono ?_;rintro e w16 ⟨rfl,hb⟩;have Oi:=cN (NB.o.trans (hb.mono NB.o.size));clear NB hb x0 y0 x1 y1 x2 y2 x3 y3 x4 y4 x5 y5 x6 y6 x7 y7 x8 y8 x9 y9 O0 OZ O1 Pd OB Pe;have NB:=Oi;clear Oi;obtain⟨x0,x1,x2,x3,x4,x5,x6,x7,x8,x9,O0,O1,OB⟩:=(HG.o.below NB.o HG.o.lt).y13 0 1 2 3 4 5 6 7 8 9 10 11 12;simp at x0 x1 x2 x3 x4 x5 x6 x7 x8 x9 O0 O1 OB;obtain⟨y0,y1,y2,y3,y4,y5,y6,y7,y8,y9,OZ,Pd,Pe⟩:=(HR.o.below NB.o HR.o.lt).y13 0 1 2 3 4 5 6 7 8 9 10 11 12;simp at y0 y1 y2 y3 y4 y5 y6 y7 y8 y9 OZ Pd Pe;rcases Classical.em (a6=b6)with h|h
 rw[eu h];have H6:=cN h;clear h;focus go_wp2_with fail
 refine(Ie _ Jn _ I9 w16 _ _ a7 b7 (fun _ _=>trivial) (Rr.up L7.o (HB.o.trans (NB.o.mono HB.o.size))) (Rr.up R7.o (HB.o.trans (NB.o.mono HB.o.size)))).mono ?_;rintro e w17 ⟨rfl,hb⟩;have Oi:=cN (NB.o.trans (hb.mono NB.o.size));clear NB hb x0 y0 x1 y1 x2 y2 x3 y3 x4 y4 x5 y5 x6 y6 x7 y7 x8 y8 x9 y9 O0 OZ O1 Pd OB Pe;have NB:=Oi;clear Oi;obtain⟨x0,x1,x2,x3,x4,x5,x6,x7,x8,x9,O0,O1,OB⟩:=(HG.o.below NB.o HG.o.lt).y13 0 1 2 3 4 5 6 7 8 9 10 11 12;simp at x0 x1 x2 x3 x4 x5 x6 x7 x8 x9 O0 O1 OB;obtain⟨y0,y1,y2,y3,y4,y5,y6,y7,y8,y9,OZ,Pd,Pe⟩:=(HR.o.below NB.o HR.o.lt).y13 0 1 2 3 4 5 6 7 8 9 10 11 12;simp at y0 y1 y2 y3 y4 y5 y6 y7 y8 y9 OZ Pd Pe;rcases Classical.em (a7=b7)with h|h
 rw[eu h];have H7:=cN h;clear h;focus go_wp2_with fail
 refine(IF _ Kc _ vQ w17 _ _ a8 b8 (fun _ _=>trivial) (Rr.up L8.o (HB.o.trans (NB.o.mono HB.o.size))) (Rr.up R8.o (HB.o.trans (NB.o.mono HB.o.size)))).mono ?_;rintro e w18 ⟨rfl,hb⟩;have Oi:=cN (NB.o.trans (hb.mono NB.o.size));clear NB hb x0 y0 x1 y1 x2 y2 x3 y3 x4 y4 x5 y5 x6 y6 x7 y7 x8 y8 x9 y9 O0 OZ O1 Pd OB Pe;have NB:=Oi;clear Oi;obtain⟨x0,x1,x2,x3,x4,x5,x6,x7,x8,x9,O0,O1,OB⟩:=(HG.o.below NB.o HG.o.lt).y13 0 1 2 3 4 5 6 7 8 9 10 11 12;simp at x0 x1 x2 x3 x4 x5 x6 x7 x8 x9 O0 O1 OB;obtain⟨y0,y1,y2,y3,y4,y5,y6,y7,y8,y9,OZ,Pd,Pe⟩:=(HR.o.below NB.o HR.o.lt).y13 0 1 2 3 4 5 6 7 8 9 10 11 12;simp at y0 y1 y2 y3 y4 y5 y6 y7 y8 y9 OZ Pd Pe;rcases Classical.em (a8=b8)with h|h
 rw[eu h];have H8:=cN h;clear h;focus go_wp2_with fail
 refine(gp w18 _ _ a9 b9 (fun _ _=>trivial) (Rr.up L9.o (HB.o.trans (NB.o.mono HB.o.size))) (Rr.up R9.o (HB.o.trans (NB.o.mono HB.o.size)))).mono ?_;rintro e w19 ⟨rfl,hb⟩;have Oi:=cN (NB.o.trans (hb.mono NB.o.size));clear NB hb x0 y0 x1 y1 x2 y2 x3 y3 x4 y4 x5 y5 x6 y6 x7 y7 x8 y8 x9 y9 O0 OZ O1 Pd OB Pe;have NB:=Oi;clear Oi;obtain⟨x0,x1,x2,x3,x4,x5,x6,x7,x8,x9,O0,O1,OB⟩:=(HG.o.below NB.o HG.o.lt).y13 0 1 2 3 4 5 6 7 8 9 10 11 12;simp at x0 x1 x2 x3 x4 x5 x6 x7 x8 x9 O0 O1 OB;obtain⟨y0,y1,y2,y3,y4,y5,y6,y7,y8,y9,OZ,Pd,Pe⟩:=(HR.o.below NB.o HR.o.lt).y13 0 1 2 3 4 5 6 7 8 9 10 11 12;simp at y0 y1 y2 y3 y4 y5 y6 y7 y8 y9 OZ Pd Pe;rcases Classical.em (a9=b9)with h|h
 rw[eu h];have H9:=cN h;clear h;focus go_wp2_with fail
 refine(Nq w19 _ _ Zw b10 (fun _ _=>trivial) (Rr.up L10.o (HB.o.trans (NB.o.mono HB.o.size))) (Rr.up R10.o (HB.o.trans (NB.o.mono HB.o.size)))).mono ?_;rintro e NN ⟨rfl,hb⟩;have Oi:=cN (NB.o.trans (hb.mono NB.o.size));clear NB hb x0 y0 x1 y1 x2 y2 x3 y3 x4 y4 x5 y5 x6 y6 x7 y7 x8 y8 x9 y9 O0 OZ O1 Pd OB Pe;have NB:=Oi;clear Oi;rcases Classical.em (Zw=b10)with h|h
 rw[eu h];have H10:=cN h;clear h
 ·go_wp2_with fail
  go_ret;exact⟨ku (by rw[H0.o,H1.o,H2.o,H3.o,H4.o,H11.o,H12.o,H5.o,H6.o,H7.o,H8.o,H9.o,H10.o]),HB.o.trans (NB.o.mono HB.o.size)⟩
 all_goals
  first|rw[gb h]|have t:=xV h|have t:=xJ h|have t:=qg h
  go_wp2_with fail
  go_ret
  exact⟨kG fun e=>h (by cases e;rfl),HB.o.trans (NB.o.mono HB.o.size)⟩
end
section
variable{C:RC}{w0 w:World}{own:eP}{its:List It}{st:I.St}{P:Nat→Prop}{cs:List Value}
theorem Dh{x:I.NC}(h:df.R w P cs x):∃A1 m1 c1 A2 m2 c2 A3 m3 c3 A4 m4 c4 A5 m5 c5 A6 m6 c6,cs=[.int .u8 (x.k.toNat:Int),.string (I.bs x.nm),.string (I.bs x.on),.string (I.bs x.NG),.int .u8 (x.ev.toNat:Int),.slice A1 m1 c1,.slice A2 m2 c2,.slice A3 m3 c3,.slice A4 m4 c4,.slice A5 m5 c5,.slice A6 m6 c6,.bool x.opt,.string (I.bs x.key)]:=by
 obtain⟨v1,v2,v3,v4,v5,v6,rfl,h1,h2,h3,h4,h5,h6,_⟩:=h;obtain⟨A1,c1,rfl,_⟩:=h1.form;obtain⟨A2,c2,rfl,_⟩:=h2.form;obtain⟨A3,c3,rfl,_⟩:=h3.form;obtain⟨A4,c4,rfl,_⟩:=h4.form;obtain⟨A5,c5,rfl,_⟩:=h5.form;obtain⟨A6,c6,rfl,_⟩:=h6.form;exact⟨_,_,_,_,_,_,_,_,_,_,_,_,_,_,_,_,_,_,rfl⟩
theorem Fr.rv{f:FuncId}{args:Array Value}{r:I.NC×I.St}(F:Fr C.g w0 own its (PS C st) w)(h:Calls Tryz.prog f args w (EPost df C w r)):Calls Tryz.prog f args w fun e w'=>∃A1 m1 c1 A2 m2 c2 A3 m3 c3 A4 m4 c4 A5 m5 c5 A6 m6 c6 x s,r=(x,s)∧e=.returned (.agg #[.int .u8 (x.k.toNat:Int),.string (I.bs x.nm),.string (I.bs x.on),.string (I.bs x.NG),.int .u8 (x.ev.toNat:Int),.slice A1 m1 c1,.slice A2 m2 c2,.slice A3 m3 c3,.slice A4 m4 c4,.slice A5 m5 c5,.slice A6 m6 c6,.bool x.opt,.string (I.bs x.key)])∧Fr C.g w0 own (It.el df [.int .u8 (x.k.toNat:Int),.string (I.bs x.nm),.string (I.bs x.on),.string (I.bs x.NG),.int .u8 (x.ev.toNat:Int),.slice A1 m1 c1,.slice A2 m2 c2,.slice A3 m3 c3,.slice A4 m4 c4,.slice A5 m5 c5,.slice A6 m6 c6,.bool x.opt,.string (I.bs x.key)] x::its) (PS C s) w':=
 (F.sub h).mono fun e w' ⟨cs,x,s,h1,h2,h3⟩=>by
  obtain⟨A1,m1,c1,A2,m2,c2,A3,m3,c3,A4,m4,c4,A5,m5,c5,A6,m6,c6,rfl⟩:=Dh h3.N6
  exact⟨A1,m1,c1,A2,m2,c2,A3,m3,c3,A4,m4,c4,A5,m5,c5,A6,m6,c6,x,s,h1,h2,h3⟩
theorem DN{x:I.NS}(h:fw.R w P cs x):∃A1 m1 c1 A2 m2 c2 A3 m3 c3 A4 m4 c4 A5 m5 c5,cs=[.bool x.all,.slice A1 m1 c1,.slice A2 m2 c2,.slice A3 m3 c3,.slice A4 m4 c4,.slice A5 m5 c5,.int .i64 x.lim]:=by
 obtain⟨v1,v2,v3,v4,v5,rfl,h1,h2,h3,h4,h5,_⟩:=h;obtain⟨A1,c1,rfl,_⟩:=h1.form;obtain⟨A2,c2,rfl,_⟩:=h2.form;obtain⟨A3,c3,rfl,_⟩:=h3.form;obtain⟨A4,c4,rfl,_⟩:=h4.form;obtain⟨A5,c5,rfl,_⟩:=h5.form;exact⟨_,_,_,_,_,_,_,_,_,_,_,_,_,_,_,rfl⟩
theorem Fr.En{f:FuncId}{args:Array Value}{r:I.NS×I.St}(F:Fr C.g w0 own its (PS C st) w)(h:Calls Tryz.prog f args w (EPost fw C w r)):Calls Tryz.prog f args w fun e w'=>∃A1 m1 c1 A2 m2 c2 A3 m3 c3 A4 m4 c4 A5 m5 c5 x s,r=(x,s)∧e=.returned (.agg #[.bool x.all,.slice A1 m1 c1,.slice A2 m2 c2,.slice A3 m3 c3,.slice A4 m4 c4,.slice A5 m5 c5,.int .i64 x.lim])∧Fr C.g w0 own (It.el fw [.bool x.all,.slice A1 m1 c1,.slice A2 m2 c2,.slice A3 m3 c3,.slice A4 m4 c4,.slice A5 m5 c5,.int .i64 x.lim] x::its) (PS C s) w':=
 (F.sub h).mono fun e w' ⟨cs,x,s,h1,h2,h3⟩=>by
  obtain⟨A1,m1,c1,A2,m2,c2,A3,m3,c3,A4,m4,c4,A5,m5,c5,rfl⟩:=DN h3.N6
  exact⟨A1,m1,c1,A2,m2,c2,A3,m3,c3,A4,m4,c4,A5,m5,c5,x,s,h1,h2,h3⟩
theorem CE{x:I.Src}(h:ft.R w P cs x):∃A1 m1 c1,cs=[.string (I.bs x.nm),.string (I.bs x.al),.slice A1 m1 c1]:=by
 obtain⟨v1,rfl,h1,_⟩:=h;obtain⟨A1,c1,rfl,_⟩:=h1.form;exact⟨_,_,_,rfl⟩
theorem Fr.GJ{f:FuncId}{args:Array Value}{r:I.Src×I.St}(F:Fr C.g w0 own its (PS C st) w)(h:Calls Tryz.prog f args w (EPost ft C w r)):Calls Tryz.prog f args w fun e w'=>∃A1 m1 c1 x s,r=(x,s)∧e=.returned (.agg #[.string (I.bs x.nm),.string (I.bs x.al),.slice A1 m1 c1])∧Fr C.g w0 own (It.el ft [.string (I.bs x.nm),.string (I.bs x.al),.slice A1 m1 c1] x::its) (PS C s) w':=
 (F.sub h).mono fun e w' ⟨cs,x,s,h1,h2,h3⟩=>by
  obtain⟨A1,m1,c1,rfl⟩:=CE h3.N6
  exact⟨A1,m1,c1,x,s,h1,h2,h3⟩
end
section
variable{g:Nat}{w0 w w':World}{own own':eP}{its:List It}{Q:World→Prop}
theorem Fr.perm(h:Fr g w0 own its Q w)(hp:own.Perm own'):Fr g w0 own' its Q w:=
 ⟨h.lt,h.ps,h.ch,fun p hq=>h.own p (hp.mem_iff.2 hq),(hp.pairwise_iff (fun h=>Ne.symm h)).1 h.nd,fun F hF=>F.dH (fun _ hb=>⟨hb.1,hb.2.1,fun p hq=>hb.2.2 p (hp.mem_iff.2 hq)⟩) (fun _ _=>rfl) (h.its F hF)⟩
theorem Fr.rot{p q r:Nat×TypeId×Array Value}(h:Fr g w0 (p::q::r::own) its Q w):Fr g w0 (r::p::q::own) its Q w:=
 h.perm (((List.Perm.swap r q own).cons p).trans (List.Perm.swap r p (q::own)))
theorem Fr.rot'{p q r:Nat×TypeId×Array Value}(h:Fr g w0 (r::p::q::own) its Q w):Fr g w0 (p::q::r::own) its Q w:=
 h.perm (((List.Perm.swap r q own).cons p).trans (List.Perm.swap r p (q::own))).symm
theorem Fr.Lk{p q:Nat×TypeId×Array Value}{b:Nat}{t:TypeId}{cs:Array Value}(h:Fr g w0 (p::q::(b,t,cs)::own) its Q w)(hc:Ch b w.heap.size w w'){cs':Array Value}(hb:NA w' b t cs'):Fr g w0 (p::q::(b,t,cs')::own) its Q w':=(h.rot.pj hc hb).rot'
end
section
set_option maxRecDepth 100000
theorem Db(C:RC)(ro pv:UInt8)(wd:I.Bs)(st:I.St)(w:World)(h:PS C st w):
 Calls Tryz.prog 132 #[.pointer (some ⟨C.g,0,none⟩),.int .u8 (ro.toNat:Int),.int .u8 (pv.toNat:Int),.string (I.bs wd)] w (EPost df C w (I.share C.text.size ro pv wd st)):=by
 have F0:=cN (Fr.start h.lt h.eU);clear h;go_enter Tryz.func132,Tryz.ntmps132;have F1:=cN (F0.o.new 30 #[.int .u8 0,.string ⟨#[]⟩,.string ⟨#[]⟩,.string ⟨#[]⟩,.int .u8 0,.slice none 0 0,.slice none 0 0,.slice none 0 0,.slice none 0 0,.slice none 0 0,.slice none 0 0,.bool false,.string ⟨#[]⟩]);obtain⟨w1,hw⟩:∃x,x=w.alloc (.cells #[.int .u8 0,.string ⟨#[]⟩,.string ⟨#[]⟩,.string ⟨#[]⟩,.int .u8 0,.slice none 0 0,.slice none 0 0,.slice none 0 0,.slice none 0 0,.slice none 0 0,.slice none 0 0,.bool false,.string ⟨#[]⟩] 30):=⟨_,rfl⟩;go_upto_region 1 with fail
 rw[←hw]at F1;rw[←hw];clear hw;go_upto_region 2 with fail
 have F2:=cN (F1.o.new 30 #[.int .u8 (ro.toNat:Int),.string ⟨#[]⟩,.string ⟨#[]⟩,.string ⟨#[]⟩,.int .u8 0,.slice none 0 0,.slice none 0 0,.slice none 0 0,.slice none 0 0,.slice none 0 0,.slice none 0 0,.bool false,.string ⟨#[]⟩]);obtain⟨w2,hw⟩:∃x,x=w1.alloc (.cells #[.int .u8 (ro.toNat:Int),.string ⟨#[]⟩,.string ⟨#[]⟩,.string ⟨#[]⟩,.int .u8 0,.slice none 0 0,.slice none 0 0,.slice none 0 0,.slice none 0 0,.slice none 0 0,.slice none 0 0,.bool false,.string ⟨#[]⟩] 30):=⟨_,rfl⟩;obtain⟨g2,hg⟩:∃x,x=w1.heap.size:=⟨_,rfl⟩;rw[←hw,←hg]at F2;rw[←hw,←hg];clear hw hg;go_wp2_with fail
 with_reducible refine(JR F2.o).mono ?_
 rintro e w3 ⟨b,hb,rfl,hF⟩;cases b with
 |true=>
  have Nm1:=cN hb;have F3:Hid (Fr C.g w _ _ (PS C st) w3):=hF;clear hF hb;go_wp2_with fail
  with_reducible refine(fk F3.o).mono ?_
  rintro e w4 ⟨n7,s7,Yx,Yy,rfl,hF⟩;have N7:=cN Yx;have Z7:=cN Yy;have F4:=cN hF;clear hF Yx Yy;have QT:=F4.o.cQ.cell 1;simp at QT;have SD:=F4.o.cQ.frozen 1;go_upto_region 7 with fail
  have F5:=cN (F4.o.ew 1 (.string (I.bs n7)) (cs':=#[.int .u8 (ro.toNat:Int),.string (I.bs n7),.string ⟨#[]⟩,.string ⟨#[]⟩,.int .u8 0,.slice none 0 0,.slice none 0 0,.slice none 0 0,.slice none 0 0,.slice none 0 0,.slice none 0 0,.bool false,.string ⟨#[]⟩]) rfl);obtain⟨w5,hw⟩:∃x,x=w4.setCell ⟨g2,1,none⟩ (.string (I.bs n7)):=⟨_,rfl⟩;rw[←hw]at F5;rw[←hw];clear hw QT SD;go_wp2_with fail
  with_reducible refine(dE F5.o (n:=1) (cells:=#[.string (I.bs wd)]) [wd] rfl rfl (by decide)).mono ?_
  rintro e w6 ⟨s8,Vf,rfl,hF⟩;have E8:=cN Vf;have F6:=cN hF;clear hF Vf;go_wp2_with fail
  with_reducible refine(fk F6.o).mono ?_
  rintro e w7 ⟨n9,s9,Vg,Vh,rfl,hF⟩;have N9:=cN Vg;have Z9:=cN Vh;have F7:=cN hF;clear hF Vg Vh;have PZ:=F7.o.cQ.cell 2;simp at PZ;have Sl:=F7.o.cQ.frozen 2;go_upto_region 9 with fail
  have F8:=cN (F7.o.ew 2 (.string (I.bs n9)) (cs':=#[.int .u8 (ro.toNat:Int),.string (I.bs n7),.string (I.bs n9),.string ⟨#[]⟩,.int .u8 0,.slice none 0 0,.slice none 0 0,.slice none 0 0,.slice none 0 0,.slice none 0 0,.slice none 0 0,.bool false,.string ⟨#[]⟩]) rfl);obtain⟨w8,hw⟩:∃x,x=w7.setCell ⟨g2,2,none⟩ (.string (I.bs n9)):=⟨_,rfl⟩;rw[←hw]at F8;rw[←hw];clear hw PZ Sl;obtain⟨Om,On,Oo,Ox,Oy,Oz,OA,OK,OU,PI,Oc,Od,Oe⟩:=F8.o.cQ.y13 0 1 2 3 4 5 6 7 8 9 10 11 12;simp at Om On Oo Ox Oy Oz OA OK OU PI Oc Od Oe;obtain⟨NU,NV,NW,NY,NZ,N0,N3,Og,Ot,OP,NP,NQ,NR⟩:=F8.o.cR.y13 0 1 2 3 4 5 6 7 8 9 10 11 12;simp at NU NV NW NY NZ N0 N3 Og Ot OP NP NQ NR;obtain⟨O6,Pa,Pb,Pm,Pn,Pp,Pq,PQ,P9,QE,OQ,OR,OS⟩:=F8.o.cR.Qj 0 1 2 3 4 5 6 7 8 9 10 11 12;go_wp2_with fail
  have FZ:=cN (F8.o.fA (fZ (Ch.refl _ _ _) (.inl rfl) _ _ _ _ _ _ _ _ _ _ _ _ _) (fe F8.o.cR (.int .u8 (ro.toNat:Int)) (.string (I.bs n7)) (.string (I.bs n9)) (.string ⟨#[]⟩) (.int .u8 0) (.slice none 0 0) (.slice none 0 0) (.slice none 0 0) (.slice none 0 0) (.slice none 0 0) (.slice none 0 0) (.bool false) (.string ⟨#[]⟩)));have HS:Hid (I.share C.text.size ro pv wd st=(({I.NC.of ro with nm:=n7,on:=n9}:I.NC),s9)):=by show _=_;simp only[I.share,Nm1.o,bo,N7.o,E8.o,N9.o]
  refine ae (av rfl _ _ w.heap.size 30 _ (0,0) _ rfl FZ.o.cR dd rfl cZ) rfl ?_;rw[HS.o];exact FZ.o.done (⟨_,_,_,_,_,_,rfl,Rr.nil _ _ _,Rr.nil _ _ _,Rr.nil _ _ _,Rr.nil _ _ _,Rr.nil _ _ _,Rr.nil _ _ _,Sz.of Z7.o,Sz.of Z9.o,Sz.of (ao _),Sz.of (ao _)⟩)
 |false=>
  have Nm1:=cN hb;have F3:Hid (Fr C.g w _ _ (PS C st) w3):=hF;clear hF hb;have Yz:=F3.o.cQ.cell 0;simp at Yz;have kz0:=F3.o.cQ.frozen 0;go_upto_region 4 with fail
  have F4:=cN (F3.o.ew 0 (.int .u8 (pv.toNat:Int)) (cs':=#[.int .u8 (pv.toNat:Int),.string ⟨#[]⟩,.string ⟨#[]⟩,.string ⟨#[]⟩,.int .u8 0,.slice none 0 0,.slice none 0 0,.slice none 0 0,.slice none 0 0,.slice none 0 0,.slice none 0 0,.bool false,.string ⟨#[]⟩]) rfl);obtain⟨w4,hw⟩:∃x,x=w3.setCell ⟨g2,0,none⟩ (.int .u8 (pv.toNat:Int)):=⟨_,rfl⟩;rw[←hw]at F4;rw[←hw];clear hw Yz kz0;go_wp2_with fail
  with_reducible refine(Fr.mr F4.o (DG C _ _ F4.o.q)).mono ?_
  rintro e w5 ⟨v5,ps5,s5,Vi,rfl,hF⟩;have X5:=cN Vi;have F5:=cN hF;clear hF Vi;obtain⟨A5,m5,c5,rfl⟩:=dj F5.o.N6;have YA:=F5.o.cQ.cell 10;simp at YA;have kz10:=F5.o.cQ.frozen 10;go_upto_region 5 with fail
  have F6:=cN (F5.o.ew 10 (.slice A5 m5 c5) (cs':=#[.int .u8 (pv.toNat:Int),.string ⟨#[]⟩,.string ⟨#[]⟩,.string ⟨#[]⟩,.int .u8 0,.slice none 0 0,.slice none 0 0,.slice none 0 0,.slice none 0 0,.slice none 0 0,.slice A5 m5 c5,.bool false,.string ⟨#[]⟩]) rfl);obtain⟨w6,hw⟩:∃x,x=w5.setCell ⟨g2,10,none⟩ (.slice A5 m5 c5):=⟨_,rfl⟩;rw[←hw]at F6;rw[←hw];clear hw YA kz10;go_wp2_with fail
  with_reducible refine(dE F6.o (n:=1) (cells:=#[.string ⟨#[111,110]⟩]) [[111,110]] rfl rfl (by decide)).mono ?_
  rintro e w7 ⟨s6,Vj,rfl,hF⟩;have E6:=cN Vj;have F7:=cN hF;clear hF Vj;go_wp2_with fail
  with_reducible refine(fk F7.o).mono ?_
  rintro e w8 ⟨n7,s7,Yx,Yy,rfl,hF⟩;have N7:=cN Yx;have Z7:=cN Yy;have F8:=cN hF;clear hF Yx Yy;have QT:=F8.o.cQ.cell 1;simp at QT;have SD:=F8.o.cQ.frozen 1;go_upto_region 7 with fail
  have F9:=cN (F8.o.ew 1 (.string (I.bs n7)) (cs':=#[.int .u8 (pv.toNat:Int),.string (I.bs n7),.string ⟨#[]⟩,.string ⟨#[]⟩,.int .u8 0,.slice none 0 0,.slice none 0 0,.slice none 0 0,.slice none 0 0,.slice none 0 0,.slice A5 m5 c5,.bool false,.string ⟨#[]⟩]) rfl);obtain⟨w9,hw⟩:∃x,x=w8.setCell ⟨g2,1,none⟩ (.string (I.bs n7)):=⟨_,rfl⟩;rw[←hw]at F9;rw[←hw];clear hw QT SD;go_wp2_with fail
  with_reducible refine(dE F9.o (n:=1) (cells:=#[.string (I.bs wd)]) [wd] rfl rfl (by decide)).mono ?_
  rintro e RU ⟨s8,Vf,rfl,hF⟩;have E8:=cN Vf;have Pj:=cN hF;clear hF Vf;go_wp2_with fail
  with_reducible refine(fk Pj.o).mono ?_
  rintro e PW ⟨n9,s9,Vg,Vh,rfl,hF⟩;have N9:=cN Vg;have Z9:=cN Vh;have Pv:=cN hF;clear hF Vg Vh;have PZ:=Pv.o.cQ.cell 2;simp at PZ;have Sl:=Pv.o.cQ.frozen 2;go_upto_region 9 with fail
  have PO:=cN (Pv.o.ew 2 (.string (I.bs n9)) (cs':=#[.int .u8 (pv.toNat:Int),.string (I.bs n7),.string (I.bs n9),.string ⟨#[]⟩,.int .u8 0,.slice none 0 0,.slice none 0 0,.slice none 0 0,.slice none 0 0,.slice none 0 0,.slice A5 m5 c5,.bool false,.string ⟨#[]⟩]) rfl);obtain⟨Qu,hw⟩:∃x,x=PW.setCell ⟨g2,2,none⟩ (.string (I.bs n9)):=⟨_,rfl⟩;rw[←hw]at PO;rw[←hw];clear hw PZ Sl;obtain⟨Om,On,Oo,Ox,Oy,Oz,OA,OK,OU,PI,Oc,Od,Oe⟩:=PO.o.cQ.y13 0 1 2 3 4 5 6 7 8 9 10 11 12;simp at Om On Oo Ox Oy Oz OA OK OU PI Oc Od Oe;obtain⟨NU,NV,NW,NY,NZ,N0,N3,Og,Ot,OP,NP,NQ,NR⟩:=PO.o.cR.y13 0 1 2 3 4 5 6 7 8 9 10 11 12;simp at NU NV NW NY NZ N0 N3 Og Ot OP NP NQ NR;obtain⟨O6,Pa,Pb,Pm,Pn,Pp,Pq,PQ,P9,QE,OQ,OR,OS⟩:=PO.o.cR.Qj 0 1 2 3 4 5 6 7 8 9 10 11 12;go_wp2_with fail
  have FZ:=cN (PO.o.fA (fZ (Ch.refl _ _ _) (.inl rfl) _ _ _ _ _ _ _ _ _ _ _ _ _) (fe PO.o.cR (.int .u8 (pv.toNat:Int)) (.string (I.bs n7)) (.string (I.bs n9)) (.string ⟨#[]⟩) (.int .u8 0) (.slice none 0 0) (.slice none 0 0) (.slice none 0 0) (.slice none 0 0) (.slice none 0 0) (.slice A5 m5 c5) (.bool false) (.string ⟨#[]⟩)));have HS:Hid (I.share C.text.size ro pv wd st=(({{I.NC.of pv with pv:=ps5}with nm:=n7,on:=n9}:I.NC),s9)):=by show _=_;simp only[I.share,Nm1.o,aO,bx,X5.o,E6.o,N7.o,E8.o,N9.o]
  refine ae (av rfl _ _ w.heap.size 30 _ (0,0) _ rfl FZ.o.cR dd rfl cZ) rfl ?_;rw[HS.o];exact FZ.o.done (⟨_,_,_,_,_,_,rfl,Rr.nil _ _ _,Rr.nil _ _ _,Rr.nil _ _ _,Rr.nil _ _ _,Rr.nil _ _ _,FZ.o.N6,Sz.of Z7.o,Sz.of Z9.o,Sz.of (ao _),Sz.of (ao _)⟩)
theorem xj(C:RC)(ro pv:UInt8)(wd:I.Bs)(a b:Int)(s:ByteArray)(ha:a=(ro.toNat:Int))(hb:b=(pv.toNat:Int))(hs:s=I.bs wd)(st:I.St)(w:World)(h:PS C st w):
 Calls Tryz.prog 132 #[.pointer (some ⟨C.g,0,none⟩),.int .u8 a,.int .u8 b,.string s] w (EPost df C w (I.share C.text.size ro pv wd st)):=by
 subst ha hb hs;exact Db C ro pv wd st w h
theorem G7(C:RC)(st:I.St)(w:World)(h:PS C st w):
 Calls Tryz.prog 52 #[.pointer (some ⟨C.g,0,none⟩)] w (EPost df C w (I.drop C.text.size st)):=by
 have F0:=cN (Fr.start h.lt h.eU);clear h;go_enter Tryz.func52,Tryz.ntmps52;have F1:=cN (F0.o.new 30 #[.int .u8 0,.string ⟨#[]⟩,.string ⟨#[]⟩,.string ⟨#[]⟩,.int .u8 0,.slice none 0 0,.slice none 0 0,.slice none 0 0,.slice none 0 0,.slice none 0 0,.slice none 0 0,.bool false,.string ⟨#[]⟩]);obtain⟨w1,hw⟩:∃x,x=w.alloc (.cells #[.int .u8 0,.string ⟨#[]⟩,.string ⟨#[]⟩,.string ⟨#[]⟩,.int .u8 0,.slice none 0 0,.slice none 0 0,.slice none 0 0,.slice none 0 0,.slice none 0 0,.slice none 0 0,.bool false,.string ⟨#[]⟩] 30):=⟨_,rfl⟩;go_upto_region 1 with fail
 rw[←hw]at F1;rw[←hw];clear hw;go_upto_region 2 with fail
 have F2:=cN (F1.o.new 165 #[.int .u8 2,.int .u8 4,.int .u8 6,.int .u8 8]);obtain⟨w2,hw⟩:∃x,x=w1.alloc (.cells #[.int .u8 2,.int .u8 4,.int .u8 6,.int .u8 8] 165):=⟨_,rfl⟩;obtain⟨g2,hg⟩:∃x,x=w1.heap.size:=⟨_,rfl⟩;rw[←hw,←hg]at F2;rw[←hw,←hg];clear hw hg;go_wp2_with fail
 with_reducible refine(gi F2.o (n:=4) (cells:=#[.string ⟨#[116,97,98,108,101]⟩,.string ⟨#[118,105,101,119]⟩,.string ⟨#[116,114,105,103,103,101,114]⟩,.string ⟨#[112,111,108,105,99,121]⟩]) [[116,97,98,108,101],[118,105,101,119],[116,114,105,103,103,101,114],[112,111,108,105,99,121]] rfl rfl (by decide) (by decide)).mono ?_
 rintro e w3 ⟨i4,s4,QD,Yu,rfl,hF⟩;have E4:=cN QD;have I4:=cN Yu;have F3:=cN hF;clear hF QD Yu;have UG:w3.cell? ⟨g2,i4,none⟩=some (.int .u8 ((([2,4,6,8]:List UInt8).getD i4 0).toNat:Int)):=by
  have hi:=I4.o;rw[F3.o.cQ.cell i4];have:i4=0∨i4=1∨i4=2∨i4=3:=by omega
  rcases this with rfl|rfl|rfl|rfl<;>rfl
 have UH:(i4:Int)<4:=by have:=I4.o;omega
 go_wp2_with fail
 with_reducible refine(fk F3.o).mono ?_
 rintro e w4 ⟨n5,s5,YB,YC,rfl,hF⟩;have N5:=cN YB;have Z5:=cN YC;have F4:=cN hF;clear hF YB YC;obtain⟨NU,NV,NW,NY,NZ,N0,N3,Og,Ot,OP,NP,NQ,NR⟩:=F4.o.cR.y13 0 1 2 3 4 5 6 7 8 9 10 11 12;simp at NU NV NW NY NZ N0 N3 Og Ot OP NP NQ NR;obtain⟨O6,Pa,Pb,Pm,Pn,Pp,Pq,PQ,P9,QE,OQ,OR,OS⟩:=F4.o.cR.Qj 0 1 2 3 4 5 6 7 8 9 10 11 12;go_wp2_with fail
 have FZ:=cN (F4.o.fA (fZ (Ch.refl _ _ _) (.inl rfl) _ _ _ _ _ _ _ _ _ _ _ _ _) (fe F4.o.cR (.int .u8 ((([2,4,6,8]:List UInt8).getD i4 0).toNat:Int)) (.string (I.bs n5)) (.string ⟨#[]⟩) (.string ⟨#[]⟩) (.int .u8 0) (.slice none 0 0) (.slice none 0 0) (.slice none 0 0) (.slice none 0 0) (.slice none 0 0) (.slice none 0 0) (.bool false) (.string ⟨#[]⟩)));have HS:Hid (I.drop C.text.size st=(({I.NC.of ([2,4,6,8].getD i4 0)with nm:=n5}:I.NC),s5)):=by show _=_;simp only[I.drop,E4.o,N5.o]
 refine ae (av rfl _ _ w.heap.size 30 _ (0,0) _ rfl FZ.o.cR dd rfl cZ) rfl ?_;rw[HS.o];exact FZ.o.done (⟨_,_,_,_,_,_,rfl,Rr.nil _ _ _,Rr.nil _ _ _,Rr.nil _ _ _,Rr.nil _ _ _,Rr.nil _ _ _,Rr.nil _ _ _,Sz.of Z5.o,Sz.of (ao _),Sz.of (ao _),Sz.of (ao _)⟩)
theorem FJ(C:RC)(st:I.St)(w:World)(h:PS C st w):
 Calls Tryz.prog 129 #[.pointer (some ⟨C.g,0,none⟩)] w (EPost df C w (I.role C.text.size st)):=by
 have F0:=cN (Fr.start h.lt h.eU);clear h;go_enter Tryz.func129,Tryz.ntmps129;have F1:=cN (F0.o.new 30 #[.int .u8 0,.string ⟨#[]⟩,.string ⟨#[]⟩,.string ⟨#[]⟩,.int .u8 0,.slice none 0 0,.slice none 0 0,.slice none 0 0,.slice none 0 0,.slice none 0 0,.slice none 0 0,.bool false,.string ⟨#[]⟩]);obtain⟨w1,hw⟩:∃x,x=w.alloc (.cells #[.int .u8 0,.string ⟨#[]⟩,.string ⟨#[]⟩,.string ⟨#[]⟩,.int .u8 0,.slice none 0 0,.slice none 0 0,.slice none 0 0,.slice none 0 0,.slice none 0 0,.slice none 0 0,.bool false,.string ⟨#[]⟩] 30):=⟨_,rfl⟩;go_upto_region 1 with fail
 rw[←hw]at F1;rw[←hw];clear hw;go_wp2_with fail
 with_reducible refine(fk F1.o).mono ?_
 rintro e w2 ⟨n2,s2,Qn,hZ2,rfl,hF⟩;have N2:=cN Qn;have Z2:=cN hZ2;have F2:=cN hF;clear hF Qn hZ2;go_upto_region 2 with fail
 have F3:=cN (F2.o.new 30 #[.int .u8 9,.string (I.bs n2),.string ⟨#[]⟩,.string ⟨#[]⟩,.int .u8 0,.slice none 0 0,.slice none 0 0,.slice none 0 0,.slice none 0 0,.slice none 0 0,.slice none 0 0,.bool false,.string ⟨#[]⟩]);obtain⟨w3,hw⟩:∃x,x=w2.alloc (.cells #[.int .u8 9,.string (I.bs n2),.string ⟨#[]⟩,.string ⟨#[]⟩,.int .u8 0,.slice none 0 0,.slice none 0 0,.slice none 0 0,.slice none 0 0,.slice none 0 0,.slice none 0 0,.bool false,.string ⟨#[]⟩] 30):=⟨_,rfl⟩;obtain⟨g3,hg⟩:∃x,x=w2.heap.size:=⟨_,rfl⟩;rw[←hw,←hg]at F3;rw[←hw,←hg];clear hw hg;go_wp2_with fail
 with_reducible refine(eh ⟨#[107,101,121]⟩ [107,101,121] rfl F3.o).mono ?_
 rintro e w4 ⟨b,hb,rfl,hF⟩;cases b with
 |true=>
  have PX:=cN hb;have F4:Hid (Fr C.g w _ _ (PS C (I.next s2)) w4):=hF;clear hF hb;have Sm:=rS F4.o.q;go_wp2_with fail
  with_reducible refine(Fy F4.o).mono ?_
  rintro e w5 ⟨t,hT,rfl,hF⟩;have T:=cN hT;have F5:=cN hF;clear hF hT;obtain⟨tk,ts,ta⟩:=t;unfold qa;simp only;go_upto_region 4 with fail
  have F6:=cN (F5.o.new 113 #[.int .u8 (tk.toNat:Int),.string ⟨ts.toArray⟩,.int .i64 (ta:Int)]);obtain⟨w6,hw⟩:∃x,x=w5.alloc (.cells #[.int .u8 (tk.toNat:Int),.string ⟨ts.toArray⟩,.int .i64 (ta:Int)] 113):=⟨_,rfl⟩;obtain⟨g6,hg⟩:∃x,x=w5.heap.size:=⟨_,rfl⟩;rw[←hw,←hg]at F6;rw[←hw,←hg];clear hw hg;have hK:=(I.qN C.text.size (I.next s2));rw[T.o]at hK Sm;simp only at hK Sm;have Ua:=cN hK.1;have TY:=cN hK.2;clear hK;obtain⟨t0,t1,t2⟩:=F6.o.cQ.y3 0 1 2;simp at t0 t1 t2;by_cases h3:tk=3
  ·subst h3;have hr:(I.next s2).r≠[]:=I.AN T.o (show(3:UInt8)≠0 by decide);have q3:(((3:UInt8).toNat:Int) !=3)=false:=by decide
   have YD:=F6.o.cR.cell 12;simp at YD;have kz12:=F6.o.cR.frozen 12;go_upto_region 8 with fail
   have F7:=cN (F6.o.zB 12 (.string ⟨ts.toArray⟩) (cs':=#[.int .u8 9,.string (I.bs n2),.string ⟨#[]⟩,.string ⟨#[]⟩,.int .u8 0,.slice none 0 0,.slice none 0 0,.slice none 0 0,.slice none 0 0,.slice none 0 0,.slice none 0 0,.bool false,.string ⟨ts.toArray⟩]) rfl);obtain⟨w7,hw⟩:∃x,x=w6.setCell ⟨g3,12,none⟩ (.string ⟨ts.toArray⟩):=⟨_,rfl⟩;rw[←hw]at F7;rw[←hw];clear hw YD kz12;have F7n:=cN (F7.o.n hr);clear hr t0 t1 t2;obtain⟨k,hk,hz,hkl⟩:=F7n.o.q.cell;go_upto_region 9 with fail
   have F8:=cN (F7n.o.next hk).swap;obtain⟨w8,hw⟩:∃x,x=w7.setCell ⟨C.g,2,none⟩ (.int .i64 ((k:Int)+1)):=⟨_,rfl⟩;rw[←hw]at F8;rw[←hw];clear hw hk hz;obtain⟨Om,On,Oo,Ox,Oy,Oz,OA,OK,OU,PI,Oc,Od,Oe⟩:=F8.o.cQ.y13 0 1 2 3 4 5 6 7 8 9 10 11 12;simp at Om On Oo Ox Oy Oz OA OK OU PI Oc Od Oe;obtain⟨NU,NV,NW,NY,NZ,N0,N3,Og,Ot,OP,NP,NQ,NR⟩:=F8.o.dR.y13 0 1 2 3 4 5 6 7 8 9 10 11 12;simp at NU NV NW NY NZ N0 N3 Og Ot OP NP NQ NR;obtain⟨O6,Pa,Pb,Pm,Pn,Pp,Pq,PQ,P9,QE,OQ,OR,OS⟩:=F8.o.dR.Qj 0 1 2 3 4 5 6 7 8 9 10 11 12;go_wp2_with fail
   have FZ:=cN (F8.o.Lk (fZ (Ch.refl _ _ _) (.inl rfl) _ _ _ _ _ _ _ _ _ _ _ _ _) (fe F8.o.dR (.int .u8 9) (.string (I.bs n2)) (.string ⟨#[]⟩) (.string ⟨#[]⟩) (.int .u8 0) (.slice none 0 0) (.slice none 0 0) (.slice none 0 0) (.slice none 0 0) (.slice none 0 0) (.slice none 0 0) (.bool false) (.string ⟨ts.toArray⟩)));have HS:Hid (I.role C.text.size st=(({I.NC.of 9 with nm:=n2,key:=ts}:I.NC),(I.next (I.next s2)))):=by show _=_;simp only[I.role,N2.o,PX.o,Ua.o,TY.o,bo]
   refine ae (av rfl _ _ w.heap.size 30 _ (0,0) _ rfl FZ.o.dR dd rfl cZ) rfl ?_;rw[HS.o];exact FZ.o.done (⟨_,_,_,_,_,_,rfl,Rr.nil _ _ _,Rr.nil _ _ _,Rr.nil _ _ _,Rr.nil _ _ _,Rr.nil _ _ _,Rr.nil _ _ _,Sz.of Z2.o,Sz.of (ao _),Sz.of (ao _),Sz.of Sm⟩)
  ·have q3:((tk.toNat:Int) !=3)=true:=G0 (b:=3) h3;have H3:=cN h3;clear h3;go_wp2_with fail
   with_reducible refine(uw 300 300 rfl F6.o).mono ?_
   rintro e w7 ⟨s5,Vd,rfl,hF⟩;have E5:=cN Vd;have F7:=cN hF;clear hF Vd;have FW:=cN F7.o.swap;clear t0 t1 t2;obtain⟨Om,On,Oo,Ox,Oy,Oz,OA,OK,OU,PI,Oc,Od,Oe⟩:=FW.o.cQ.y13 0 1 2 3 4 5 6 7 8 9 10 11 12;simp at Om On Oo Ox Oy Oz OA OK OU PI Oc Od Oe;obtain⟨NU,NV,NW,NY,NZ,N0,N3,Og,Ot,OP,NP,NQ,NR⟩:=FW.o.dR.y13 0 1 2 3 4 5 6 7 8 9 10 11 12;simp at NU NV NW NY NZ N0 N3 Og Ot OP NP NQ NR;obtain⟨O6,Pa,Pb,Pm,Pn,Pp,Pq,PQ,P9,QE,OQ,OR,OS⟩:=FW.o.dR.Qj 0 1 2 3 4 5 6 7 8 9 10 11 12;go_wp2_with fail
   have FZ:=cN (FW.o.Lk (fZ (Ch.refl _ _ _) (.inl rfl) _ _ _ _ _ _ _ _ _ _ _ _ _) (fe FW.o.dR (.int .u8 9) (.string (I.bs n2)) (.string ⟨#[]⟩) (.string ⟨#[]⟩) (.int .u8 0) (.slice none 0 0) (.slice none 0 0) (.slice none 0 0) (.slice none 0 0) (.slice none 0 0) (.slice none 0 0) (.bool false) (.string ⟨#[]⟩)));have HS:Hid (I.role C.text.size st=(({I.NC.of 9 with nm:=n2}:I.NC),s5)):=by show _=_;simp only[I.role,N2.o,PX.o,Ua.o,if_neg H3.o,E5.o,bo]
   refine ae (av rfl _ _ w.heap.size 30 _ (0,0) _ rfl FZ.o.dR dd rfl cZ) rfl ?_;rw[HS.o];exact FZ.o.done (⟨_,_,_,_,_,_,rfl,Rr.nil _ _ _,Rr.nil _ _ _,Rr.nil _ _ _,Rr.nil _ _ _,Rr.nil _ _ _,Rr.nil _ _ _,Sz.of Z2.o,Sz.of (ao _),Sz.of (ao _),Sz.of (ao _)⟩)
 |false=>
  have PX:=cN hb;have F4:Hid (Fr C.g w _ _ (PS C s2) w4):=hF;clear hF hb;obtain⟨Om,On,Oo,Ox,Oy,Oz,OA,OK,OU,PI,Oc,Od,Oe⟩:=F4.o.cQ.y13 0 1 2 3 4 5 6 7 8 9 10 11 12;simp at Om On Oo Ox Oy Oz OA OK OU PI Oc Od Oe;obtain⟨NU,NV,NW,NY,NZ,N0,N3,Og,Ot,OP,NP,NQ,NR⟩:=F4.o.cR.y13 0 1 2 3 4 5 6 7 8 9 10 11 12;simp at NU NV NW NY NZ N0 N3 Og Ot OP NP NQ NR;obtain⟨O6,Pa,Pb,Pm,Pn,Pp,Pq,PQ,P9,QE,OQ,OR,OS⟩:=F4.o.cR.Qj 0 1 2 3 4 5 6 7 8 9 10 11 12;go_wp2_with fail
  have FZ:=cN (F4.o.fA (fZ (Ch.refl _ _ _) (.inl rfl) _ _ _ _ _ _ _ _ _ _ _ _ _) (fe F4.o.cR (.int .u8 9) (.string (I.bs n2)) (.string ⟨#[]⟩) (.string ⟨#[]⟩) (.int .u8 0) (.slice none 0 0) (.slice none 0 0) (.slice none 0 0) (.slice none 0 0) (.slice none 0 0) (.slice none 0 0) (.bool false) (.string ⟨#[]⟩)));have HS:Hid (I.role C.text.size st=(({I.NC.of 9 with nm:=n2}:I.NC),s2)):=by show _=_;simp only[I.role,N2.o,PX.o,aO,bx]
  refine ae (av rfl _ _ w.heap.size 30 _ (0,0) _ rfl FZ.o.cR dd rfl cZ) rfl ?_;rw[HS.o];exact FZ.o.done (⟨_,_,_,_,_,_,rfl,Rr.nil _ _ _,Rr.nil _ _ _,Rr.nil _ _ _,Rr.nil _ _ _,Rr.nil _ _ _,Rr.nil _ _ _,Sz.of Z2.o,Sz.of (ao _),Sz.of (ao _),Sz.of (ao _)⟩)
end
end Go.Proofs.YtnicfobpclehkaaGreatDoor
