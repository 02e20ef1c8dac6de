import Derived.Laws.StructEq
import Derived.Test.YtnicfobpclehkaaGreatDoorP13
set_option maxHeartbeats 6400000
set_option linter.unusedVariables false
set_option linter.unusedSimpArgs false
namespace Go.Proofs.YtnicfobpclehkaaGreatDoor
open Go.RowKit
section
set_option maxRecDepth 100000
theorem eE{w w1:World}{c c':Array Value}{t t':TypeId}(h:w1=(w.alloc (.cells c t)).alloc (.cells c' t')):Hid (Kn w1 w.heap.size t c)∧Hid (Kn w1 (w.heap.size+1) t' c')∧Hid (Below w.heap.size w w1):=by
 subst h;refine⟨aa ((Kn.new w _ _).alloc _),?_,aa (((Below.refl _ _).alloc (Nat.le_refl _) _).alloc (by simp) _)⟩;have:=Kn.new (w.alloc (.cells c t)) t' c';exact aa (by simpa using this)
theorem made{w w2:World}{z:Array Value}{t:TypeId}{cs:List Value}(h:w2=(w.alloc (.cells z t)).setCells w.heap.size 0 cs)(hl:cs.length=z.size):Hid (Kn w2 w.heap.size t cs.toArray)∧Hid (Below w.heap.size w w2):=by
 subst h;exact⟨aa ((Kn.new w t z).l8 cs hl),aa ((Ch.bu cs 0 (Ch.lh ((Below.refl _ w).alloc (Nat.le_refl _) _)) (.inr (Nat.le_refl _))).toBelow (g:=w.heap.size) (Nat.le_refl _))⟩
theorem aU{ops:Array Oper}{rest:List Oper}{op:Oper}{a:Act}{w:World}{Q:Exit→Act→World→Prop}{P:Program}(hgd:op.guard=none){ty:TypeId}{x:Operand}(ho:op.op=.load ty x){b o:Nat}(hx:a.eval x=.pointer (some ⟨b,o,none⟩)){cs:List Value}(hc:w.rangeAt b o cs)(hd:((P.underlying ty).map (·.isRow))=some true)(hi:(P.info? ty).map (·.size)=some cs.length)(h:wpList P ops Q rest (a.put op.dst (.agg cs.toArray)) w):wpList P ops Q (op::rest) a w:=by
 cases hu:P.underlying ty with
 |none=>rw[hu]at hd;cases hd
 |some d=>rw[hu]at hd;injection hd with hd;exact wpList_load_mid hgd ty x ho b o hx cs d hc hu hd hi h
theorem iJ{α:Type}{x y:α}(h:x≠y):Ending.returned .f=.returned (.bool (PV x y)):=by rw[ep h]
theorem iE{α:Type}{x y:α}(h:x=y):Ending.returned (.bool true)=.returned (.bool (PV x y)):=by rw[bH h]
def PX{α:Type}(E:El α)(f:FuncId):Prop:=∀(N:FuncId),Sp N→∀p:α→Prop,PW E N ft p→Vs E f #[.func (.func N) #[] #[]] p
theorem hJ:Tryz.prog.underlying 50=some (.struct (Tryz.prog.fieldsOf 50)):=by kernel_rfl
theorem cV:(Tryz.prog.info? 50).map (·.size)=some 8:=by kernel_rfl
theorem vW:Tryz.prog.underlying 45=some (.struct (Tryz.prog.fieldsOf 45)):=by kernel_rfl
theorem kT:(Tryz.prog.info? 45).map (·.size)=some 7:=by kernel_rfl
theorem jg:PX Kr 177∧PX dC 93∧PX eB 95∧PX dG 99∧PX cS 170∧PX bV 173∧PX dx 175:=by
 refine⟨?_,?_,?_,?_,?_,?_,?_⟩;all_goals
  intro N hN p hC w v v' xs ys hp hx hy
  have HC:=aa hC
  have HP:=aa hp
  have HX:=aa hx
  have HY:=aa hy
  obtain⟨A,c,rfl,h1,h2⟩:=hx.form
  obtain⟨A',c',rfl,h1',h2'⟩:=hy.form
  clear hC hp hx hy
  first|go_enter Tryz.func177,Tryz.ntmps177|go_enter Tryz.func93,Tryz.ntmps93|go_enter Tryz.func95,Tryz.ntmps95|go_enter Tryz.func99,Tryz.ntmps99|go_enter Tryz.func170,Tryz.ntmps170|go_enter Tryz.func173,Tryz.ntmps173|go_enter Tryz.func175,Tryz.ntmps175
  by_cases hlen:xs.length=ys.length
  ·have t0:ys.length=xs.length:=hlen.symm;have RH:=aa hlen;have HT0:Hid (xs.take 0=ys.take 0):=rfl;have HB0:=aa (Below.refl w.heap.size w);clear hlen;go_wp2_with fail
   go_loopg [17] xs.length (fun gg i wr=>∃k:Nat,k≤xs.length∧gg=xs.length-k∧i=.i (k:Int)∧Hid (xs.take k=ys.take k)∧Hid (Below w.heap.size w wr));case atStart=>exact⟨0,Nat.zero_le _,rfl,rfl,HT0,HB0⟩
   case round=>
    obtain⟨k,hk,rfl,rfl,HT,HB⟩:=hrel;obtain⟨w1,hw⟩:=aab wr;subst hw;clear HT0 HB0 t0;by_cases hlt:k<xs.length
    ·have hlt':k<ys.length:=by have:=RH.o;omega
     obtain⟨g,off,c2,x,cs,hv,q1,q2,hg,hi,hr,hl,hra⟩:=(HX.o.up HB.o).range hlt;obtain⟨g',off',c2',y,cs',hv',q1',q2',hg',hi',hr',hl',KV⟩:=(HY.o.up HB.o).range hlt';injection hv with e1 e2 e3
     injection hv' with T7 e2' e3'
     subst e1 e3 T7 e3';clear e2 e2' q1 q1' q2 q2';have t1:decide ((k:Int)<(xs.length:Int))=true:=decide_eq_true (by omega);have b1:(k:Int)<(xs.length:Int):=by omega
     have b2:(k:Int)<(ys.length:Int):=by omega
     have HR:=aa hr;have Vt:=aa hr';have HI:=aa hi;have S7:=aa hi';have MZ:=aa hra;have V9:=aa KV;have HL:=aa hl;have Wa:=aa hl';have OX:=aa (all_oneCell_toArray (El.one _ HR.o));have OY:=aa (all_oneCell_toArray (El.one _ Vt.o));clear hr hr' hi hi' hra KV hl hl';go_upto_region 6 with(first|refine aU rfl rfl rfl MZ.o (by kernel_rfl) (by rw[HL.o];kernel_rfl) ?_|refine wpList_store_mid rfl _ _ _ rfl _ 0 cs.toArray rfl rfl ((Kn.new _ _ _).there (n:=cs.toArray.size) (by simp[HL.o];rfl)) (by rw[List.size_toArray,HL.o];kernel_rfl) OX.o ?_)
     refine MJ fun w2 hw2=>?_
     obtain⟨BX,HB2⟩:=made hw2 (by rw[HL.o];rfl);have RA':=aa (rangeAt.up V9.o hg' HB2.o);clear MZ V9 OX hw2;go_upto_region 7 with(first|refine aU rfl rfl rfl RA'.o (by kernel_rfl) (by rw[Wa.o];kernel_rfl) ?_|refine wpList_store_mid rfl _ _ _ rfl _ 0 cs'.toArray rfl rfl ((Kn.new _ _ _).there (n:=cs'.toArray.size) (by simp[Wa.o];rfl)) (by rw[List.size_toArray,Wa.o];kernel_rfl) OY.o ?_)
     refine MJ fun w3 hw3=>?_
     obtain⟨BY,HB3⟩:=made hw3 (by rw[Wa.o];rfl);have XM:=(BX.o.below HB3.o BX.o.lt).range;have XN:=BY.o.range;rw[List.toList_toArray]at XM XN;obtain⟨gx,hgx⟩:=aab w1.heap.size;obtain⟨gy,Zd⟩:=aab w2.heap.size;rw[←hgx]at XM;rw[←Zd]at XN;rw[←hgx,←Zd];have Wb:=aa XM;have Wc:=aa XN;have hF:∀(w:World) (a b:Value),(callFunc N #[a,b]).run Tryz.prog w=.ok (.enter N #[a,b]) w:=hN;clear RA' BX BY hw3 hgx Zd OY XM XN;go_wp2_with (first|refine aU rfl rfl rfl Wb.o (by kernel_rfl) (by rw[HL.o];kernel_rfl) ?_|refine aU rfl rfl rfl Wc.o (by kernel_rfl) (by rw[Wa.o];kernel_rfl) ?_)
     have cc:=HC.o w3 cs cs' x y (HP.o x (List.mem_of_getElem? HI.o)) (El.up (El.up HR.o HB2.o) HB3.o) (El.up (El.up Vt.o HB2.o) HB3.o);unfold ft at cc;with_reducible refine cc.mono ?_
     clear cc;rintro e w4 ⟨rfl,hb4⟩;have ND:=aa (HB.o.trans ((HB2.o.trans ((HB3.o.trans (hb4.mono HB3.o.size)).mono HB2.o.size)).mono HB.o.size));clear hb4 hF Wb Wc HB2 HB3 HC HP HR Vt;by_cases hxy:x=y
     ·have HT1:=aa (qS HT.o HI.o S7.o (bH hxy));rw[bH hxy];clear hxy;go_wp2_with fail
      go_roundg (xs.length-(k+1));case measure=>omega
      case rel=>exact⟨k+1,by omega,rfl,by go_num,HT1,ND⟩
     ·have HE:=aa (wP HI.o S7.o (ep hxy));rw[ep hxy];go_wp2_with fail
      go_ret;exact⟨by rw[HE.o];rfl,ND.o⟩
    ·obtain rfl:k=xs.length:=by omega
     have t1:decide ((xs.length:Int)<(xs.length:Int))=false:=decide_eq_false (by omega);have HE:=aa (ra HT.o rfl RH.o.symm);go_wp2_with fail
     go_ret;exact⟨by rw[HE.o];rfl,HB.o⟩
  ·have t1:¬(xs.length:Int)=(ys.length:Int):=by omega
   go_wp2_with fail
   go_ret;exact⟨iJ fun e=>hlen (by rw[e]),Below.refl _ _⟩
theorem JY:PX Kr 177:=jg.1
theorem EH:PX dC 93:=jg.2.1
theorem GR:PX eB 95:=jg.2.2.1
theorem Fj:PX dG 99:=jg.2.2.2.1
theorem FF:PX cS 170:=jg.2.2.2.2.1
theorem Gi:PX bV 173:=jg.2.2.2.2.2.1
theorem EP:PX dx 175:=jg.2.2.2.2.2.2
theorem EN(N:FuncId)(hN:Sp N)(p:_→Prop)(hC:PW dM N vq p):Vs dM 97 #[.func (.func N) #[] #[]] p:=by
 intro w v v' xs ys hp hx hy;have HC:=aa hC;have HP:=aa hp;have HX:=aa hx;have HY:=aa hy;obtain⟨A,c,rfl,h1,h2⟩:=hx.form;obtain⟨A',c',rfl,h1',h2'⟩:=hy.form;clear hC hp hx hy;go_enter Tryz.func97,Tryz.ntmps97;by_cases hlen:xs.length=ys.length
 ·have t0:ys.length=xs.length:=hlen.symm;have RH:=aa hlen;have HT0:Hid (xs.take 0=ys.take 0):=rfl;have HB0:=aa (Below.refl w.heap.size w);clear hlen;go_wp2_with fail
  go_loopg [17] xs.length (fun gg i wr=>∃k:Nat,k≤xs.length∧gg=xs.length-k∧i=.i (k:Int)∧Hid (xs.take k=ys.take k)∧Hid (Below w.heap.size w wr));case atStart=>exact⟨0,Nat.zero_le _,rfl,rfl,HT0,HB0⟩
  case round=>
   obtain⟨k,hk,rfl,rfl,HT,HB⟩:=hrel;obtain⟨w1,hw⟩:=aab wr;subst hw;clear HT0 HB0 t0;by_cases hlt:k<xs.length
   ·have hlt':k<ys.length:=by have:=RH.o;omega
    obtain⟨g,off,c2,x,cs,hv,q1,q2,hg,hi,hr,hl,hra⟩:=(HX.o.up HB.o).range hlt;obtain⟨g',off',c2',y,cs',hv',q1',q2',hg',hi',hr',hl',KV⟩:=(HY.o.up HB.o).range hlt';injection hv with e1 e2 e3
    injection hv' with T7 e2' e3'
    subst e1 e3 T7 e3';clear e2 e2' q1 q1' q2 q2';have t1:decide ((k:Int)<(xs.length:Int))=true:=decide_eq_true (by omega);have b1:(k:Int)<(xs.length:Int):=by omega
    have b2:(k:Int)<(ys.length:Int):=by omega
    have HR:=aa hr;have Vt:=aa hr';have HI:=aa hi;have S7:=aa hi';obtain⟨v1,rfl,hv1⟩:=hr;obtain⟨v2,rfl,hv2⟩:=hr';obtain⟨A1,m1,c1,rfl⟩:=ar hv1;obtain⟨A2,m2,c3,rfl⟩:=ar hv2;have k1:=hra 0 _ rfl;have k2:=KV 0 _ rfl;rw[show dM.k=1 from rfl,Nat.mul_one,Nat.add_zero]at k1 k2;have hF:∀(w:World) (a b:Value),(callFunc N #[a,b]).run Tryz.prog w=.ok (.enter N #[a,b]) w:=hN;clear hi hi' hra KV hl hl' hv1 hv2;go_wp2_with fail
    have cc:=HC.o w1 _ _ x y (HP.o x (List.mem_of_getElem? HI.o)) HR.o Vt.o;unfold vq at cc;simp only[List.headD_cons]at cc;with_reducible refine cc.mono ?_
    clear cc;rintro e w4 ⟨rfl,hb4⟩;have ND:=aa (HB.o.trans (hb4.mono HB.o.size));clear hb4 hF k1 k2 HC HP HR Vt;by_cases hxy:x=y
    ·have HT1:=aa (qS HT.o HI.o S7.o (bH hxy));rw[bH hxy];clear hxy;go_wp2_with fail
     go_roundg (xs.length-(k+1));case measure=>omega
     case rel=>exact⟨k+1,by omega,rfl,by go_num,HT1,ND⟩
    ·have HE:=aa (wP HI.o S7.o (ep hxy));rw[ep hxy];go_wp2_with fail
     go_ret;exact⟨by rw[HE.o];rfl,ND.o⟩
   ·obtain rfl:k=xs.length:=by omega
    have t1:decide ((xs.length:Int)<(xs.length:Int))=false:=decide_eq_false (by omega);have HE:=aa (ra HT.o rfl RH.o.symm);go_wp2_with fail
    go_ret;exact⟨by rw[HE.o];rfl,HB.o⟩
 ·have t1:¬(xs.length:Int)=(ys.length:Int):=by omega
  go_wp2_with fail
  go_ret;exact⟨iJ fun e=>hlen (by rw[e]),Below.refl _ _⟩
end
theorem Dz:Tryz.prog.eqGuardType Tryz.prog.depth 48=false:=by kernel_rfl
theorem IN:Tryz.prog.stoodInHeld 48=false:=by kernel_rfl
theorem FY:Tryz.prog.underlying 48=some (.struct (Tryz.prog.fieldsOf 48)):=by kernel_rfl
theorem B6:(Tryz.prog.fieldsOf 48).toList.map (fun f=>(f.name,f.type,f.offset))=[("Kind",37,0),("N",2,1),("S",9,2)]:=by kernel_rfl
theorem IE{α:Type}{l:List α}{β:Type}{f:α→β}{a b c:β}(h:l.map f=[a,b,c]):∃x y z,l=[x,y,z]∧f x=a∧f y=b∧f z=c:=by
 match l,h with
 |[x,y,z],h=>simp at h;exact⟨x,y,z,rfl,h.1,h.2.1,h.2.2⟩
def wM(v v':Cell.Val):Bool:=((v.k.toNat:Int)==(v'.k.toNat:Int))&&((v.n==v'.n)&&(v.s.toList==v'.s.toList))
theorem oW(v v':Cell.Val):wM v v'=true↔v=v':=by
 unfold wM;simp only[Bool.and_eq_true,beq_iff_eq,ByteArray.toList_eq];constructor
 ·rintro⟨h1,h2,h3⟩;exact Cell.Val.ext' (UInt8.toNat_inj.1 (by omega)) h2 h3
 ·rintro rfl;exact⟨rfl,rfl,rfl⟩
theorem Im(w:World)(v v':Cell.Val):(Op.equalIn 10000 48 (.agg #[.u (v.k.toNat:Int),.i v.n,.s v.s]) (.agg #[.u (v'.k.toNat:Int),.i v'.n,.s v'.s])).run Tryz.prog w=.ok (wM v v') w:=by
 rw[run_equalIn_agg w 9999 48 _ _ FY IN];obtain⟨x,y,z,hl,hx,hy,hz⟩:=IE B6;rw[hl];obtain⟨xn,xt,xo⟩:=x;obtain⟨yn,yt,yo⟩:=y;obtain⟨zn,zt,zo⟩:=z;simp only[Prod.mk.injEq]at hx hy hz;obtain⟨rfl,rfl,rfl⟩:=hx;obtain⟨rfl,rfl,rfl⟩:=hy;obtain⟨rfl,rfl,rfl⟩:=hz;unfold wM;have p34:∀(cs:Array Value) (off:Nat) (u:Value),cs[off]?=some u→(part 37 cs off).run Tryz.prog w=.ok u w:=fun cs off u h=>by
  simp only[part,Sem.run_bind,isAgg,run_underlying Tryz.underlying37,Result.andThen_ok,Sem.run_pure]
  simp[h]
 have p2:∀(cs:Array Value) (off:Nat) (u:Value),cs[off]?=some u→(part 2 cs off).run Tryz.prog w=.ok u w:=fun cs off u h=>by
  simp only[part,Sem.run_bind,isAgg,run_underlying Tryz.underlying2,Result.andThen_ok,Sem.run_pure]
  simp[h]
 have p9:∀(cs:Array Value) (off:Nat) (u:Value),cs[off]?=some u→(part 9 cs off).run Tryz.prog w=.ok u w:=fun cs off u h=>by
  simp only[part,Sem.run_bind,isAgg,run_underlying Tryz.underlying9,Result.andThen_ok,Sem.run_pure]
  simp[h]
 simp only[Op.eqFields,Sem.run_bind,Sem.run_ite];rw[if_pos (by decide),p34 _ 0 (.u (v.k.toNat:Int)) rfl,Result.andThen_ok,p34 _ 0 (.u (v'.k.toNat:Int)) rfl,Result.andThen_ok,run_equalIn_int w 9998 37 .u8 .u8 _ _ Tryz.underlying37,Result.andThen_ok];cases ((v.k.toNat:Int)==(v'.k.toNat:Int))
 ·rfl
 rw[if_neg (by decide),if_pos (by decide),p2 _ 1 (.i v.n) rfl,Result.andThen_ok,p2 _ 1 (.i v'.n) rfl,Result.andThen_ok,run_equalIn_int w 9998 2 .i64 .i64 _ _ Tryz.underlying2,Result.andThen_ok];cases (v.n==v'.n)
 ·rfl
 rw[if_neg (by decide),if_pos (by decide),p9 _ 2 (.s v.s) rfl,Result.andThen_ok,p9 _ 2 (.s v'.s) rfl,Result.andThen_ok,run_equalIn_string w 9998 9 _ _ Tryz.underlying9,Result.andThen_ok];cases (v.s.toList==v'.s.toList)<;>rfl
theorem Iw(w:World)(v v':Cell.Val):(binOp .eql 48 (.agg #[.u (v.k.toNat:Int),.i v.n,.s v.s]) (.agg #[.u (v'.k.toNat:Int),.i v'.n,.s v'.s])).run Tryz.prog w=.ok (.bool (wM v v')) w:=by
 rw[run_eql_struct,Im,Result.andThen_ok]
theorem CN(w:World)(op:BinOp)(x y:Operand)(xs ys:Array Value):(eqGuard op 48 x y (.agg xs) (.agg ys)).run Tryz.prog w=.ok () w:=run_eqGuard_agg w op _ x y xs ys Dz
section
set_option maxRecDepth 100000
theorem gf:Tryz.prog.underlying 130=some (.struct (Tryz.prog.fieldsOf 130)):=by kernel_rfl
theorem fK:(Tryz.prog.info? 130).map (·.size)=some 9:=by kernel_rfl
theorem dP:Tryz.prog.underlying 134=some (.struct (Tryz.prog.fieldsOf 134)):=by kernel_rfl
theorem dr:(Tryz.prog.info? 134).map (·.size)=some 9:=by kernel_rfl
theorem mT:Tryz.prog.underlying 85=some (.struct (Tryz.prog.fieldsOf 85)):=by kernel_rfl
theorem lM:(Tryz.prog.info? 85).map (·.size)=some 9:=by kernel_rfl
theorem Cs(C:RC)(st:I.St)(w:World)(h:PS C st w):
 Calls Tryz.prog 208 #[.p C.g] w (EPost cS C w (I.item C.text.size st)):=by
 have F0:=aa (Fr.start h.lt h.aJ);clear h;go_enter Tryz.func208,Tryz.ntmps208;have K8:=aa (F0.o.new 130 #[.b,.b,.o,.e,.e,.e,.o,.z,.e]);go_wp2_with fail
 with_reducible refine(Fr.ux K8.o (fh C _ _ K8.o.q)).mono ?_
 rintro e w1 ⟨h1,A1,m1,c1,x1,s1,(X1:Hid _),rfl,(F1:Hid _)⟩;go_upto_region 2 with fail
 have F2:=aa (F1.o.new 130 #[.u (h1.o.toNat:Int),.u (h1.v.k.toNat:Int),.i h1.v.n,.s h1.v.s,.s h1.nm,.s h1.of,.i h1.n,.slice A1 m1 c1,.e]);obtain⟨w2,hw⟩:=aab (w1.alloc (.cells #[.u (h1.o.toNat:Int),.u (h1.v.k.toNat:Int),.i h1.v.n,.s h1.v.s,.s h1.nm,.s h1.of,.i h1.n,.slice A1 m1 c1,.e] 130));obtain⟨g2,hg⟩:=aab w1.heap.size;rw[←hw,←hg]at F2;rw[←hw,←hg];clear hw hg;go_wp2_with fail
 with_reducible refine(bF ⟨#[97,115]⟩ [97,115] rfl F2.o).mono ?_
 rintro e w3 ⟨b,hb,rfl,hF⟩;cases b with
 |true=>
  have Ku:=aa hb;have F3:Hid (Fr C.g w _ _ (PS C (I.next s1)) w3):=hF;clear hF hb;go_wp2_with fail
  with_reducible refine(cG F3.o).mono ?_
  rintro e w4 ⟨n2,s2,(N2:Hid _),(Z2:Hid _),rfl,hF⟩;have F4:=aa hF;clear hF;have NJ:=F4.o.ab.cell 8;simp at NJ;have OA:=F4.o.ab.frozen 8;go_upto_region 4 with fail
  have F5:=aa (F4.o.aO 8 (.s (I.bs n2)) (cs':=#[.u (h1.o.toNat:Int),.u (h1.v.k.toNat:Int),.i h1.v.n,.s h1.v.s,.s h1.nm,.s h1.of,.i h1.n,.slice A1 m1 c1,.s (I.bs n2)]) rfl);obtain⟨w5,hw⟩:=aab (w4.setCell ⟨g2,8,none⟩ (.s (I.bs n2)));rw[←hw]at F5⊢;clear hw NJ OA;have Ks:=F5.o.ab.Y9;simp at Ks;have cj2:=F5.o.ah.Y9;simp at cj2;obtain⟨KQ,KS,KT,K4,K5,K6,K7,K9,Ma⟩:=F5.o.ah.Z9;go_wp2_with fail
  have FZ:=aa (F5.o.cN (za (Ch.refl _ _ _) (.inl rfl) _ _ _ _ _ _ _ _ _) (qv F5.o.ah (.u (h1.o.toNat:Int)) (.u (h1.v.k.toNat:Int)) (.i h1.v.n) (.s h1.v.s) (.s h1.nm) (.s h1.of) (.i h1.n) (.slice A1 m1 c1) (.s (I.bs n2))));have HS:Hid (I.item C.text.size st=((⟨x1,n2⟩:I.LL),s2)):=by show _=_;simp only[I.item,X1.o,Ku.o,N2.o,if_true]
  refine bodyPost_ret (results_cell_row rfl _ _ w.heap.size 130 _ (0,0) _ rfl FZ.o.ah gf rfl fK) rfl ?_;rw[HS.o];exact FZ.o.done (⟨_,rfl,FZ.o.Kx,Sz.of Z2.o⟩)
 |false=>
  have Ku:=aa hb;have F3:Hid (Fr C.g w _ _ (PS C s1) w3):=hF;clear hF hb;have K0:=F3.o.ab.Y9;simp at K0;have Le:=F3.o.ah.Y9;simp at Le;obtain⟨KQ,KS,KT,K4,K5,K6,K7,K9,Ma⟩:=F3.o.ah.Z9;go_wp2_with fail
  have FZ:=aa (F3.o.cN (za (Ch.refl _ _ _) (.inl rfl) _ _ _ _ _ _ _ _ _) (qv F3.o.ah (.u (h1.o.toNat:Int)) (.u (h1.v.k.toNat:Int)) (.i h1.v.n) (.s h1.v.s) (.s h1.nm) (.s h1.of) (.i h1.n) (.slice A1 m1 c1) .e));have HS:Hid (I.item C.text.size st=((⟨x1,[]⟩:I.LL),s1)):=by show _=_;simp only[I.item,X1.o,Ku.o,Bool.false_eq_true,if_false]
  refine bodyPost_ret (results_cell_row rfl _ _ w.heap.size 130 _ (0,0) _ rfl FZ.o.ah gf rfl fK) rfl ?_;rw[HS.o];exact FZ.o.done (⟨_,rfl,FZ.o.Kx,Sz.of (Nat.zero_le _)⟩)
theorem zc(C:RC)(st:I.St)(w:World)(h:PS C st w):
 Calls Tryz.prog 211 #[.p C.g] w (EPost dx C w (I.order C.text.size st)):=by
 have F0:=aa (Fr.start h.lt h.aJ);clear h;go_enter Tryz.func211,Tryz.ntmps211;have K8:=aa (F0.o.new 134 #[.b,.b,.o,.e,.e,.e,.o,.z,.f]);go_wp2_with fail
 with_reducible refine(Fr.ux K8.o (fh C _ _ K8.o.q)).mono ?_
 rintro e w1 ⟨h1,A1,m1,c1,x1,s1,(X1:Hid _),rfl,(F1:Hid _)⟩;go_upto_region 2 with fail
 have F2:=aa (F1.o.new 134 #[.u (h1.o.toNat:Int),.u (h1.v.k.toNat:Int),.i h1.v.n,.s h1.v.s,.s h1.nm,.s h1.of,.i h1.n,.slice A1 m1 c1,.f]);obtain⟨w2,hw⟩:=aab (w1.alloc (.cells #[.u (h1.o.toNat:Int),.u (h1.v.k.toNat:Int),.i h1.v.n,.s h1.v.s,.s h1.nm,.s h1.of,.i h1.n,.slice A1 m1 c1,.f] 134));obtain⟨g2,hg⟩:=aab w1.heap.size;rw[←hw,←hg]at F2;rw[←hw,←hg];clear hw hg;go_wp2_with fail
 with_reducible refine(bF ⟨#[97,115,99]⟩ [97,115,99] rfl F2.o).mono ?_
 rintro e w3 ⟨b,hb,rfl,hF⟩;cases b with
 |true=>
  have Ku:=aa hb;have F3:Hid (Fr C.g w _ _ (PS C (I.next s1)) w3):=hF;clear hF hb;have Ks:=F3.o.ab.Y9;simp at Ks;have cj2:=F3.o.ah.Y9;simp at cj2;obtain⟨KQ,KS,KT,K4,K5,K6,K7,K9,Ma⟩:=F3.o.ah.Z9;go_wp2_with fail
  have FZ:=aa (F3.o.cN (za (Ch.refl _ _ _) (.inl rfl) _ _ _ _ _ _ _ _ _) (qv F3.o.ah (.u (h1.o.toNat:Int)) (.u (h1.v.k.toNat:Int)) (.i h1.v.n) (.s h1.v.s) (.s h1.nm) (.s h1.of) (.i h1.n) (.slice A1 m1 c1) .f));have HS:Hid (I.order C.text.size st=((⟨x1,false⟩:I.Ord),(I.next s1))):=by show _=_;simp only[I.order,X1.o,Ku.o,if_true]
  refine bodyPost_ret (results_cell_row rfl _ _ w.heap.size 134 _ (0,0) _ rfl FZ.o.ah dP rfl dr) rfl ?_;rw[HS.o];exact FZ.o.done (⟨_,rfl,FZ.o.Kx⟩)
 |false=>
  have Ku:=aa hb;have F3:Hid (Fr C.g w _ _ (PS C s1) w3):=hF;clear hF hb;go_wp2_with fail
  with_reducible refine(bF ⟨#[100,101,115,99]⟩ [100,101,115,99] rfl F3.o).mono ?_
  rintro e w4 ⟨b,hb,rfl,hF⟩;cases b with
  |true=>
   have Lp:=aa hb;have F4:Hid (Fr C.g w _ _ (PS C (I.next s1)) w4):=hF;clear hF hb;have NJ:=F4.o.ab.cell 8;simp at NJ;have OA:=F4.o.ab.frozen 8;go_upto_region 4 with fail
   have F5:=aa (F4.o.aO 8 (.bool true) (cs':=#[.u (h1.o.toNat:Int),.u (h1.v.k.toNat:Int),.i h1.v.n,.s h1.v.s,.s h1.nm,.s h1.of,.i h1.n,.slice A1 m1 c1,.bool true]) rfl);obtain⟨w5,hw⟩:=aab (w4.setCell ⟨g2,8,none⟩ (.bool true));rw[←hw]at F5⊢;clear hw NJ OA;have K0:=F5.o.ab.Y9;simp at K0;have Le:=F5.o.ah.Y9;simp at Le;obtain⟨KQ,KS,KT,K4,K5,K6,K7,K9,Ma⟩:=F5.o.ah.Z9;go_wp2_with fail
   have FZ:=aa (F5.o.cN (za (Ch.refl _ _ _) (.inl rfl) _ _ _ _ _ _ _ _ _) (qv F5.o.ah (.u (h1.o.toNat:Int)) (.u (h1.v.k.toNat:Int)) (.i h1.v.n) (.s h1.v.s) (.s h1.nm) (.s h1.of) (.i h1.n) (.slice A1 m1 c1) (.bool true)));have HS:Hid (I.order C.text.size st=((⟨x1,true⟩:I.Ord),(I.next s1))):=by show _=_;simp only[I.order,X1.o,Ku.o,Lp.o,if_true,Bool.false_eq_true,if_false]
   refine bodyPost_ret (results_cell_row rfl _ _ w.heap.size 134 _ (0,0) _ rfl FZ.o.ah dP rfl dr) rfl ?_;rw[HS.o];exact FZ.o.done (⟨_,rfl,FZ.o.Kx⟩)
  |false=>
   have Lp:=aa hb;have F4:Hid (Fr C.g w _ _ (PS C s1) w4):=hF;clear hF hb;have NJ:=F4.o.ab.cell 8;simp at NJ;have OA:=F4.o.ab.frozen 8;go_upto_region 4 with fail
   have F5:=aa (F4.o.aO 8 .f (cs':=#[.u (h1.o.toNat:Int),.u (h1.v.k.toNat:Int),.i h1.v.n,.s h1.v.s,.s h1.nm,.s h1.of,.i h1.n,.slice A1 m1 c1,.f]) rfl);obtain⟨w5,hw⟩:=aab (w4.setCell ⟨g2,8,none⟩ .f);rw[←hw]at F5⊢;clear hw NJ OA;have Ly:=F5.o.ab.Y9;simp at Ly;have Mj:=F5.o.ah.Y9;simp at Mj;obtain⟨KQ,KS,KT,K4,K5,K6,K7,K9,Ma⟩:=F5.o.ah.Z9;go_wp2_with fail
   have FZ:=aa (F5.o.cN (za (Ch.refl _ _ _) (.inl rfl) _ _ _ _ _ _ _ _ _) (qv F5.o.ah (.u (h1.o.toNat:Int)) (.u (h1.v.k.toNat:Int)) (.i h1.v.n) (.s h1.v.s) (.s h1.nm) (.s h1.of) (.i h1.n) (.slice A1 m1 c1) .f));have HS:Hid (I.order C.text.size st=((⟨x1,false⟩:I.Ord),s1)):=by show _=_;simp only[I.order,X1.o,Ku.o,Lp.o,Bool.false_eq_true,if_false]
   refine bodyPost_ret (results_cell_row rfl _ _ w.heap.size 134 _ (0,0) _ rfl FZ.o.ah dP rfl dr) rfl ?_;rw[HS.o];exact FZ.o.done (⟨_,rfl,FZ.o.Kx⟩)
theorem lW(C:RC)(st:I.St)(w:World)(h:PS C st w):
 Calls Tryz.prog 139 #[.p C.g] w (iC Kr C w (I.aq C.text.size st)):=by
 have F0:=aa (Fr.start h.lt h.aJ);clear h;go_enter Tryz.func139,Tryz.ntmps139;go_wp2_with fail
 with_reducible refine(bF ⟨#[119,104,101,114,101]⟩ [119,104,101,114,101] rfl F0.o).mono ?_
 rintro e w1 ⟨b,hb,rfl,hF⟩;cases b with
 |true=>
  have Ku:=aa hb;have F1:Hid (Fr C.g w _ _ (PS C (I.next st)) w1):=hF;clear hF hb;go_wp2_with fail
  with_reducible refine(Fr.ux F1.o (fh C _ _ F1.o.q)).mono ?_
  rintro e w2 ⟨h1,A1,m1,c1,x1,s1,(X1:Hid _),rfl,hF⟩;have F2:=aa hF;clear hF;have HS:Hid (I.aq C.text.size st=([x1],s1)):=by show _=_;simp only[I.aq,Ku.o,X1.o,if_true]
  go_wp2_with fail
  go_ret;rw[HS.o];exact(Fr.ff (E:=Kr) (cs:=[.u (h1.o.toNat:Int),.u (h1.v.k.toNat:Int),.i h1.v.n,.s h1.v.s,.s h1.nm,.s h1.of,.i h1.n,.slice A1 m1 c1]) F2.o _).nk
 |false=>
  have Ku:=aa hb;have F1:Hid (Fr C.g w _ _ (PS C st) w1):=hF;clear hF hb;have HS:Hid (I.aq C.text.size st=([],st)):=by show _=_;simp only[I.aq,Ku.o,Bool.false_eq_true,if_false]
  go_wp2_with fail
  go_ret;rw[HS.o];exact F1.o.JR
theorem py(C:RC)(N:FuncId)(bs cs args:Array Value)(hN:∀w:World,(callFunc N (bs++cs)).run Tryz.prog w=.ok (.enter N args) w)(L:List (Nat×Obj))(NR:∀p∈L,p.1≠C.g)(kid:I.St→List I.Ky×I.St)(hK:∀(st:I.St) (w:World),PS C st w→ey L w→Calls Tryz.prog N args w (iC dC C w (kid st)))
 (st:I.St) (w:World) (h:PS C st w) (hL:ey L w):
 Calls Tryz.prog 195 #[.p C.g,.func (.func N) bs cs] w (iC dC C w (I.inside C.text.size kid st)):=by
 have hL2:=aa hL;have T9:=aa NR;have HK:=aa hK;clear hK hL NR;have F0:=aa (Fr.start h.lt h.aJ);clear h;go_enter Tryz.func195,Tryz.ntmps195;go_wp2_with fail
 with_reducible refine(aY F0.o (n:=1) (cells:=#[.s ⟨#[40]⟩]) [[40]] rfl rfl (by decide)).mono ?_
 rintro e w1 ⟨s1,(E1:Hid _),rfl,(F1:Hid _)⟩;have Ox:=aa (F1.o.lL hL2.o T9.o);go_wp2_with fail
 with_reducible refine(Fr.jJ F1.o (HK.o _ _ F1.o.q Ox.o)).mono ?_
 rintro e w2 ⟨v2,Wd,s2,(X2:Hid _),rfl,(F2:Hid _)⟩;go_wp2_with fail
 with_reducible refine(aY F2.o (n:=1) (cells:=#[.s ⟨#[41]⟩]) [[41]] rfl rfl (by decide)).mono ?_
 rintro e w3 ⟨s3,(E3:Hid _),rfl,(F3:Hid _)⟩;have HS:Hid (I.inside C.text.size kid st=(Wd,s3)):=by show _=_;simp only[I.inside,E1.o,X2.o,E3.o]
 go_wp2_with fail
 go_ret;rw[HS.o];exact F3.o.nk
theorem pE(C:RC)(N:FuncId)(bs cs args:Array Value)(hN:∀w:World,(callFunc N (bs++cs)).run Tryz.prog w=.ok (.enter N args) w)(L:List (Nat×Obj))(NR:∀p∈L,p.1≠C.g)(kid:I.St→List Ev.Ex×I.St)(hK:∀(st:I.St) (w:World),PS C st w→ey L w→Calls Tryz.prog N args w (iC Kr C w (kid st)))
 (st:I.St) (w:World) (h:PS C st w) (hL:ey L w):
 Calls Tryz.prog 203 #[.p C.g,.func (.func N) bs cs] w (iC Kr C w (I.inside C.text.size kid st)):=by
 have hL2:=aa hL;have T9:=aa NR;have HK:=aa hK;clear hK hL NR;have F0:=aa (Fr.start h.lt h.aJ);clear h;go_enter Tryz.func203,Tryz.ntmps203;go_wp2_with fail
 with_reducible refine(aY F0.o (n:=1) (cells:=#[.s ⟨#[40]⟩]) [[40]] rfl rfl (by decide)).mono ?_
 rintro e w1 ⟨s1,(E1:Hid _),rfl,(F1:Hid _)⟩;have Ox:=aa (F1.o.lL hL2.o T9.o);go_wp2_with fail
 with_reducible refine(Fr.jJ F1.o (HK.o _ _ F1.o.q Ox.o)).mono ?_
 rintro e w2 ⟨v2,Wd,s2,(X2:Hid _),rfl,(F2:Hid _)⟩;go_wp2_with fail
 with_reducible refine(aY F2.o (n:=1) (cells:=#[.s ⟨#[41]⟩]) [[41]] rfl rfl (by decide)).mono ?_
 rintro e w3 ⟨s3,(E3:Hid _),rfl,(F3:Hid _)⟩;have HS:Hid (I.inside C.text.size kid st=(Wd,s3)):=by show _=_;simp only[I.inside,E1.o,X2.o,E3.o]
 go_wp2_with fail
 go_ret;rw[HS.o];exact F3.o.nk
theorem Dq(C:RC)(gB:Nat)(hBg:gB≠C.g)(st:I.St)(w:World)(h:PS C st w)(hB:Kn w gB 70 #[.p C.g]):
 Calls Tryz.prog 137 #[.p gB] w (EPost dG C w (I.du C.text.size st)):=by
 have HB:=aa hB;have hBl:=lt_of_block hB;clear hB;have F0:=aa (Fr.start h.lt h.aJ);clear h;go_enter Tryz.func137,Tryz.ntmps137;have K8:=aa (F0.o.new 85 #[.e,.b,.b,.o,.e,.e,.e,.o,.z]);have d0:=HB.o.cell 0;simp at d0;have e0:=K8.o.old HB.o hBl hBg|>.cell 0
 simp at e0;go_wp2_with fail
 with_reducible refine(cG K8.o).mono ?_
 rintro e w1 ⟨n1,s1,(N1:Hid _),(Z1:Hid _),rfl,(F1:Hid _)⟩;clear d0 e0;have d0:=(F1.o.old HB.o hBl hBg).cell 0;simp at d0;go_upto_region 2 with fail
 have F2:=aa (F1.o.new 85 #[.s (I.bs n1),.b,.b,.o,.e,.e,.e,.o,.z]);obtain⟨w2,hw⟩:=aab (w1.alloc (.cells #[.s (I.bs n1),.b,.b,.o,.e,.e,.e,.o,.z] 85));obtain⟨g2,hg⟩:=aab w1.heap.size;rw[←hw,←hg]at F2;rw[←hw,←hg];clear hw hg;clear d0;have d0:=(F2.o.old HB.o hBl hBg).cell 0;simp at d0;go_wp2_with fail
 with_reducible refine(aY F2.o (n:=1) (cells:=#[.s ⟨#[61]⟩]) [[61]] rfl rfl (by decide)).mono ?_
 rintro e w3 ⟨s2,(E2:Hid _),rfl,(F3:Hid _)⟩;clear d0;have d0:=(F3.o.old HB.o hBl hBg).cell 0;simp at d0;go_wp2_with fail
 with_reducible refine(Fr.ux F3.o (fh C _ _ F3.o.q)).mono ?_
 rintro e w4 ⟨h3,A3,m3,c3,x3,s3,(X3:Hid _),rfl,(F4:Hid _)⟩;clear d0;have d0:=(F4.o.old HB.o hBl hBg).cell 0;simp at d0;have Ks:=F4.o.ab.y8 1 2 3 4 5 6 7 8;simp at Ks;obtain⟨M9,Mb,Mt,Oj,Ph,OB,NK,OA⟩:=F4.o.ab.z8 1 2 3 4 5 6 7 8;go_upto_region 4 with fail
 have F5:=aa ((((((((F4.o.aO 1 (.u (h3.o.toNat:Int)) (cs':=#[.s (I.bs n1),.u (h3.o.toNat:Int),.b,.o,.e,.e,.e,.o,.z]) rfl).aO 2 (.u (h3.v.k.toNat:Int)) (cs':=#[.s (I.bs n1),.u (h3.o.toNat:Int),.u (h3.v.k.toNat:Int),.o,.e,.e,.e,.o,.z]) rfl).aO 3 (.i h3.v.n) (cs':=#[.s (I.bs n1),.u (h3.o.toNat:Int),.u (h3.v.k.toNat:Int),.i h3.v.n,.e,.e,.e,.o,.z]) rfl).aO 4 (.s h3.v.s) (cs':=#[.s (I.bs n1),.u (h3.o.toNat:Int),.u (h3.v.k.toNat:Int),.i h3.v.n,.s h3.v.s,.e,.e,.o,.z]) rfl).aO 5 (.s h3.nm) (cs':=#[.s (I.bs n1),.u (h3.o.toNat:Int),.u (h3.v.k.toNat:Int),.i h3.v.n,.s h3.v.s,.s h3.nm,.e,.o,.z]) rfl).aO 6 (.s h3.of) (cs':=#[.s (I.bs n1),.u (h3.o.toNat:Int),.u (h3.v.k.toNat:Int),.i h3.v.n,.s h3.v.s,.s h3.nm,.s h3.of,.o,.z]) rfl).aO 7 (.i h3.n) (cs':=#[.s (I.bs n1),.u (h3.o.toNat:Int),.u (h3.v.k.toNat:Int),.i h3.v.n,.s h3.v.s,.s h3.nm,.s h3.of,.i h3.n,.z]) rfl).aO 8 (.slice A3 m3 c3) (cs':=#[.s (I.bs n1),.u (h3.o.toNat:Int),.u (h3.v.k.toNat:Int),.i h3.v.n,.s h3.v.s,.s h3.nm,.s h3.of,.i h3.n,.slice A3 m3 c3]) rfl);obtain⟨w5,hw⟩:=aab (((((((((w4.setCell ⟨g2,1,none⟩ (.u (h3.o.toNat:Int))).setCell ⟨g2,2,none⟩ (.u (h3.v.k.toNat:Int))).setCell ⟨g2,3,none⟩ (.i h3.v.n)).setCell ⟨g2,4,none⟩ (.s h3.v.s)).setCell ⟨g2,5,none⟩ (.s h3.nm)).setCell ⟨g2,6,none⟩ (.s h3.of)).setCell ⟨g2,7,none⟩ (.i h3.n)).setCell ⟨g2,8,none⟩ (.slice A3 m3 c3)));rw[←hw]at F5⊢;clear hw Ks M9 Mb Mt Oj Ph OB NK OA;have cj2:=F5.o.ab.Y9;simp at cj2;have K0:=F5.o.ah.Y9;simp at K0;obtain⟨KQ,KS,KT,K4,K5,K6,K7,K9,Ma⟩:=F5.o.ah.Z9;go_wp2_with fail
 have FZ:=aa (F5.o.cN (za (Ch.refl _ _ _) (.inl rfl) _ _ _ _ _ _ _ _ _) (qv F5.o.ah (.s (I.bs n1)) (.u (h3.o.toNat:Int)) (.u (h3.v.k.toNat:Int)) (.i h3.v.n) (.s h3.v.s) (.s h3.nm) (.s h3.of) (.i h3.n) (.slice A3 m3 c3)));have HS:Hid (I.du C.text.size st=((⟨n1,x3⟩:I.La),s3)):=by show _=_;simp only[I.du,N1.o,E2.o,X3.o]
 refine bodyPost_ret (results_cell_row rfl _ _ w.heap.size 85 _ (0,0) _ rfl FZ.o.ah mT rfl lM) rfl ?_;rw[HS.o];exact FZ.o.done (⟨_,rfl,FZ.o.Kx,Sz.of Z1.o⟩)
end
section
set_option maxRecDepth 100000
theorem ag:Tryz.prog.underlying 30=some (.struct (Tryz.prog.fieldsOf 30)):=by kernel_rfl
theorem af:(Tryz.prog.info? 30).map (·.size)=some 13:=by kernel_rfl
def DH(k:IntKind)(C:RC)(w:World)(r:Int×I.St)(e:Ending)(w':World):Prop:=e=.returned (.int k r.1)∧PS C r.2 w'∧Ch C.g w.heap.size w w'
theorem Fr.Bv{k:IntKind}{C:RC}{w0 w:World}{own:bO}{its:List It}{st:I.St}{n:Int}(h:Fr C.g w0 own its (PS C st) w):DH k C w0 (n,st) (.returned (.int k n)) w:=⟨rfl,h.q,h.ch⟩
theorem Fr.Ze{k:IntKind}{C:RC}{w0 w:World}{own:bO}{its:List It}{st:I.St}{f:FuncId}{args:Array Value}{r:Int×I.St}(F:Fr C.g w0 own its (PS C st) w)(h:Calls Tryz.prog f args w (DH k C w r)):Calls Tryz.prog f args w fun e w'=>∃n s,r=(n,s)∧e=.returned (.int k n)∧Fr C.g w0 own its (PS C s) w':=
 h.mono fun _ _ ⟨h1,h2,h3⟩=>⟨r.1,r.2,rfl,h1,F.call h2.aJ h3⟩
theorem tH{a b:UInt8}(h:a≠b):((a.toNat:Int)==(b.toNat:Int))=false:=by simp;exact fun e=>h (UInt8.toNat_inj.1 (by omega))
theorem iz{a b:UInt8}(h:a≠b):((a.toNat:Int) !=(b.toNat:Int))=true:=by simp;exact fun e=>h (UInt8.toNat_inj.1 (by omega))
theorem I.xu{T:Nat}{st:I.St}{t:Lex.Tok}(h:I.cI T st=t)(hk:t.1≠0):st.r≠[]:=by
 intro e;unfold I.cI at h;rw[e]at h;simp only at h;subst h;exact hk rfl
theorem I.DC{T:Nat}{st:I.St}{t:Lex.Tok}(h:I.cI T st=t)(hr:st.r≠[]):∃r,st.r=t::r:=by
 unfold I.cI at h;cases hq:st.r with
 |nil=>exact absurd hq hr
 |cons a r=>
  rw[hq]at h;simp only at h;exact⟨r,by rw[h]⟩
theorem I.yF(T:Nat):I.ct (I.cU T):=fun st=>I.iY T [[115,101,108,101,99,116],[105,110,115,101,114,116],[117,112,100,97,116,101],[100,101,108,101,116,101]] 0 st
theorem yR(C:RC)(st:I.St)(w:World)(h:PS C st w):
 Calls Tryz.prog 212 #[.p C.g] w (DH .i64 C w (I.bA C.text.size st)):=by
 have Pj:=oX h;have F0:=aa (Fr.start h.lt h.aJ);clear h;go_enter Tryz.func212,Tryz.ntmps212;go_wp2_with fail
 with_reducible refine(BA F0.o).mono ?_
 rintro e w1 ⟨t,hT,rfl,(F1:Hid _)⟩;have T:=aa hT;clear hT;obtain⟨tk,ts,ta⟩:=t;unfold gd;simp only;go_upto_region 2 with fail
 have F2:=aa (F1.o.new 113 #[.u (tk.toNat:Int),.s ⟨ts.toArray⟩,.i (ta:Int)]);obtain⟨w2,hw⟩:=aab (w1.alloc (.cells #[.u (tk.toNat:Int),.s ⟨ts.toArray⟩,.i (ta:Int)] 113));obtain⟨g2,hg⟩:=aab w1.heap.size;rw[←hw,←hg]at F2;rw[←hw,←hg];clear hw hg;have hK:=(I.jL C.text.size st);rw[T.o]at hK Pj;simp only at hK Pj;have RL:=aa hK.1;have Oq:=aa hK.2;clear hK;have Ks:=F2.o.ab.Y3;simp at Ks;by_cases h2:tk=2
 ·subst h2;have hr:st.r≠[]:=I.xu T.o (show(2:UInt8)≠0 by decide);obtain⟨r,hr2⟩:=I.DC T.o hr;have Qh:=(nJ F2.o.q hr2).2 rfl;have Ua:=aa Qh;have HR:=aa hr;clear hr hr2 Qh;go_wp2_with fail
  with_reducible refine(xV ⟨ts.toArray⟩ ts rfl Pj Ua.o HR.o F2.o).mono ?_
  rintro e w3 ⟨n3,er,s3,hL3,hS3,hB3,rfl,(F3:Hid _)⟩;have L3:=aa hL3;have S3:=aa hS3;have B3:=aa hB3;clear hL3 hS3 hB3;obtain⟨hb1,hb2⟩:=B3.o;by_cases hm:1000000<n3
  ·have q3:decide ((1000000:Int)<n3)=true:=decide_eq_true hm;have HM:=aa hm;have he0:er=0:=by
    have:=L3.o;unfold I.fU I.cR at this;split at this
    ·split at this
     ·injection this with e1 e2
      exact e2.symm
     ·injection this with e1 e2
      omega
    ·injection this with e1 e2
     omega
   have S4:Hid (st=s3):=by have:=S3.o;rw[if_pos he0]at this;exact this
   subst he0;clear hm;go_wp2_with fail
   with_reducible refine(GS 271 271 rfl F3.o.un).mono ?_
   rintro e w4 ⟨s4,(E4:Hid _),rfl,(F4:Hid _)⟩;clear hb1 hb2;have E5:Hid (I.fail C.text.size 271 st=s4):=by have:=E4.o;rw[←S4.o]at this;exact this
   obtain⟨k,hk,hz,hkl⟩:=F4.o.q.cell;go_upto_region 9 with fail
   have F5:=aa (F4.o.next hk);obtain⟨w5,hw⟩:=aab (w4.setCell ⟨C.g,2,none⟩ (.i ((k:Int)+1)));rw[←hw]at F5⊢;clear hw hk hz;have HS:Hid (I.bA C.text.size st=(n3,(I.next s4))):=by show _=_;simp only[I.bA,RL.o,Oq.o,L3.o,if_pos HM.o,if_true,E5.o]
   go_wp2_with fail
   go_ret;rw[HS.o];exact F5.o.Bv
  ·have q3:decide ((1000000:Int)<n3)=false:=decide_eq_false hm;have HM:Hid (n3≤1000000):=Int.not_lt.1 hm;clear hm;obtain⟨k,hk,hz,hkl⟩:=F3.o.q.cell;go_upto_region 9 with fail
   have F4:=aa (F3.o.next hk);obtain⟨w4,hw⟩:=aab (w3.setCell ⟨C.g,2,none⟩ (.i ((k:Int)+1)));rw[←hw]at F4⊢;clear hw hk hz;have HS:Hid (I.bA C.text.size st=(n3,I.next s3)):=by
    show _=_;have hl:=L3.o;have hs:=S3.o;simp only[I.bA,RL.o,Oq.o,hl,if_neg (Int.not_lt.2 HM.o),if_true];by_cases he:er=0
    ·rw[if_pos he]at hs⊢;rw[hs]
    ·rw[if_neg he]at hs⊢;have h0:n3=0:=by
      unfold I.fU I.cR at hl;split at hl
      ·split at hl
       ·injection hl with e1 e2
        exact absurd e2.symm he
       ·injection hl with e1 e2
        exact e1.symm
      ·injection hl with e1 e2
       exact e1.symm
     rw[hs,h0]
   go_wp2_with fail
   go_ret;rw[HS.o];exact F4.o.Bv
 ·have q2:((tk.toNat:Int) !=2)=true:=iz (b:=2) h2;have H2:=aa h2;clear h2;go_wp2_with fail
  with_reducible refine(rC 300 300 rfl F2.o).mono ?_
  rintro e w3 ⟨s3,(E3:Hid _),rfl,(F3:Hid _)⟩;have HS:Hid (I.bA C.text.size st=((0:Int),s3)):=by show _=_;simp only[I.bA,RL.o,if_neg H2.o,E3.o]
  go_wp2_with fail
  go_ret;rw[HS.o];exact F3.o.Bv
theorem vV(C:RC)(st:I.St)(w:World)(h:PS C st w):
 Calls Tryz.prog 234 #[.p C.g] w (si C w (I.action C.text.size st)):=by
 have F0:=aa (Fr.start h.lt h.aJ);clear h;go_enter Tryz.func234,Tryz.ntmps234;go_wp2_with fail
 with_reducible refine(bF ⟨#[111,110]⟩ [111,110] rfl F0.o).mono ?_
 rintro e w1 ⟨b,hb,rfl,hF⟩;cases b with
 |true=>
  have Ku:=aa hb;have F1:Hid (Fr C.g w _ _ (PS C (I.next st)) w1):=hF;clear hF hb;go_wp2_with fail
  with_reducible refine(aY F1.o (n:=1) (cells:=#[.s ⟨#[100,101,108,101,116,101]⟩]) [[100,101,108,101,116,101]] rfl rfl (by decide)).mono ?_
  rintro e w2 ⟨s2,(E2:Hid _),rfl,(F2:Hid _)⟩;go_upto_region 5 with fail
  have F3:=aa (F2.o.new 253 #[.b,.u 1,.u 2]);obtain⟨w3,hw⟩:=aab (w2.alloc (.cells #[.b,.u 1,.u 2] 253));obtain⟨g3,hg⟩:=aab w2.heap.size;rw[←hw,←hg]at F3;rw[←hw,←hg];clear hw hg;go_wp2_with fail
  with_reducible refine(jz F3.o (n:=3) (cells:=#[.s ⟨#[114,101,115,116,114,105,99,116]⟩,.s ⟨#[99,97,115,99,97,100,101]⟩,.s ⟨#[115,101,116]⟩]) [[114,101,115,116,114,105,99,116],[99,97,115,99,97,100,101],[115,101,116]] rfl rfl (by decide) (by decide)).mono ?_
  rintro e w4 ⟨i4,s4,(E4:Hid _),We,rfl,(F4:Hid _)⟩;have I4:=aa We;clear We;have hI:=I4.o;have hcs:i4=0∨i4=1∨i4=2:=by omega
  clear hI;have Ks:=F4.o.ab.Y3;simp at Ks;rcases hcs with rfl|rfl|rfl
  ·skip;have HS:Hid (I.action C.text.size st=((0:UInt8),s4)):=by show _=_;simp only[I.action,Ku.o,if_true,E2.o,E4.o];rfl
   go_wp2_with fail
   go_ret;rw[HS.o];exact⟨rfl,F4.o.q,F4.o.ch⟩
  ·skip;have HS:Hid (I.action C.text.size st=((1:UInt8),s4)):=by show _=_;simp only[I.action,Ku.o,if_true,E2.o,E4.o];rfl
   go_wp2_with fail
   go_ret;rw[HS.o];exact⟨rfl,F4.o.q,F4.o.ch⟩
  ·skip;go_wp2_with fail
   with_reducible refine(aY F4.o (n:=1) (cells:=#[.s ⟨#[110,117,108,108]⟩]) [[110,117,108,108]] rfl rfl (by decide)).mono ?_
   rintro e w5 ⟨s5,(E5:Hid _),rfl,hF⟩;have F5:=aa hF;clear hF;have HS:Hid (I.action C.text.size st=((2:UInt8),s5)):=by show _=_;simp only[I.action,Ku.o,if_true,E2.o,E4.o,E5.o]
   go_wp2_with fail
   go_ret;rw[HS.o];exact⟨rfl,F5.o.q,F5.o.ch⟩
 |false=>
  have Ku:=aa hb;have F1:Hid (Fr C.g w _ _ (PS C st) w1):=hF;clear hF hb;have HS:Hid (I.action C.text.size st=((0:UInt8),st)):=by show _=_;simp only[I.action,Ku.o,Bool.false_eq_true,if_false]
  go_wp2_with fail
  go_ret;rw[HS.o];exact⟨rfl,F1.o.q,F1.o.ch⟩
theorem Ap(C:RC)(gB:Nat)(hBg:gB≠C.g)(st:I.St)(w:World)(h:PS C st w)(hB:Kn w gB 70 #[.p C.g]):
 Calls Tryz.prog 237 #[.p gB] w (si C w (I.cU C.text.size st)):=by
 have HB:=aa hB;have hBl:=lt_of_block hB;clear hB;have F0:=aa (Fr.start h.lt h.aJ);clear h;go_enter Tryz.func237,Tryz.ntmps237;have d0:=HB.o.cell 0;simp at d0;go_wp2_with fail
 with_reducible refine(jz F0.o (n:=4) (cells:=#[.s ⟨#[115,101,108,101,99,116]⟩,.s ⟨#[105,110,115,101,114,116]⟩,.s ⟨#[117,112,100,97,116,101]⟩,.s ⟨#[100,101,108,101,116,101]⟩]) [[115,101,108,101,99,116],[105,110,115,101,114,116],[117,112,100,97,116,101],[100,101,108,101,116,101]] rfl rfl (by decide) (by decide)).mono ?_
 rintro e w1 ⟨i1,s1,(E1:Hid _),hI1,rfl,(F1:Hid _)⟩;have I1:=aa hI1;clear hI1;have hI:=I1.o;have hcs:i1=0∨i1=1∨i1=2∨i1=3:=by omega
 clear hI d0;have HS:Hid (I.cU C.text.size st=(UInt8.ofNat (i1+1),s1)):=by show _=_;simp only[I.cU,E1.o]
 rcases hcs with rfl|rfl|rfl|rfl
 all_goals
  go_wp2_with fail
  go_ret
  rw[HS.o]
  exact⟨rfl,F1.o.q,F1.o.ch⟩
theorem xS(C:RC)(st:I.St)(w:World)(h:PS C st w):
 Calls Tryz.prog 201 #[.p C.g] w (iC ik C w (I.aX C.text.size st)):=by
 have F0:=aa (Fr.start h.lt h.aJ);clear h;go_enter Tryz.func201,Tryz.ntmps201;have K8:=aa (F0.o.new 70 #[.p C.g]);obtain⟨w1,hw⟩:=aab (w.alloc (.cells #[.p C.g] 70));go_upto_region 1 with fail
 rw[←hw]at K8⊢;clear hw;have d0:=K8.o.ab.cell 0;simp at d0;have F1:=aa K8.o;go_wp2_with fail
 with_reducible refine(bF ⟨#[97,108,108]⟩ [97,108,108] rfl F1.o).mono ?_
 rintro e w2 ⟨b,hb,rfl,hF⟩;cases b with
 |true=>
  have Ku:=aa hb;have F2:Hid (Fr C.g w _ _ (PS C (I.next st)) w2):=hF;clear hF hb;clear d0;have HS:Hid (I.aX C.text.size st=([1,2,3,4],I.next st)):=by show _=_;simp only[I.aX,Ku.o,if_true]
  go_wp2_with fail
  go_ret;rw[HS.o];exact(Fr.Io (E:=ik) (css:=[[.u 1],[.u 2],[.u 3],[.u 4]]) (n:=4) (F2.o.new 51 #[.u 1,.u 2,.u 3,.u 4]) rfl rfl (by
   intro i cs x hi hx
   have:i<4:=(List.getElem?_eq_some_iff.1 hi).1
   have hi4:i=0∨i=1∨i=2∨i=3:=by omega
   rcases hi4 with rfl|rfl|rfl|rfl<;>(simp at hi hx;subst hi hx;rfl)) rfl (by decide)).nk
 |false=>
  have Ku:=aa hb;have F2:Hid (Fr C.g w _ _ (PS C st) w2):=hF;clear hF hb;clear d0;have d0:=F2.o.ab.cell 0;simp at d0;have Qj:=aa F2.o.ab;have hbg:w.heap.size≠C.g:=by have:=F2.o.lt;omega
  have hbl:=Qj.o.lt;go_wp2_with fail
  with_reducible refine(Fr.jJ F2.o (wo C 237 #[] #[.p w.heap.size] #[.p w.heap.size] (fun w=>by simp[go_sem]) [(w.heap.size,.cells #[.p C.g] 70 (0,0))] (qU hbg) 16 16 rfl (by decide) (by decide) (I.cU C.text.size) (I.yF _) st.r.length (sS fun st2 w2 hp hB=>Ap C w.heap.size hbg st2 w2 hp hB) st _ (Nat.le_refl _) F2.o.q (kZ Qj.o))).mono ?_
  rintro e w3 ⟨v3,xs3,s3,(X3:Hid _),rfl,(F3:Hid _)⟩;have HS:Hid (I.aX C.text.size st=(xs3,s3)):=by show _=_;simp only[I.aX,Ku.o,X3.o,Bool.false_eq_true,if_false]
  go_wp2_with fail
  go_ret;rw[HS.o];exact F3.o.nk
end
theorem G7{a b:ByteArray}(h:a≠b):(a.toList==b.toList)=false:=by
 simp only[beq_eq_false_iff_ne,ne_eq];intro e;rw[ByteArray.toList_eq,ByteArray.toList_eq]at e;exact h (by cases a;cases b;simp only[Array.toList_inj]at e;rw[e])
theorem sP{a b:I.Bs}(h:a≠b):((I.bs a).toList==(I.bs b).toList)=false:=G7 fun e=>h (by rw[←cL a,e,cL])
theorem GF{a b:Cell.Val}(h:a≠b):wM a b=false:=by
 cases hv:wM a b with
 |false=>rfl
 |true=>exact absurd ((oW _ _).1 hv) h
theorem qk:∀{k:Ev.Ex} {ks:List Ev.Ex},k∈ks→I.depth k≤I.bj ks:=by
 intro k ks;induction ks with
 |nil=>intro h;cases h
 |cons a l ih=>
  intro h;rw[I.bj];rcases List.mem_cons.1 h with rfl|h
  ·omega
  ·have:=ih h;omega
theorem pX{n:Nat}{h:Ev.Hd}{ks:List Ev.Ex}{k:Ev.Ex}(hp:I.depth (.mk h ks)≤n+1)(hk:k∈ks):I.depth k≤n:=by
 have:=qk hk;rw[I.depth]at hp;omega
theorem Jj{a b:Cell.Val}(h:a≠b):∀w:World,(binOp .eql 48 (.agg #[.u (a.k.toNat:Int),.i a.n,.s a.s]) (.agg #[.u (b.k.toNat:Int),.i b.n,.s b.s])).run Tryz.prog w=.ok .f w:=fun w=>by rw[Iw,GF h]
theorem int_ne{a b:Int}(h:a≠b):(a==b)=false:=beq_eq_false_iff_ne.2 h
theorem nH{a b:Bool}(h:a≠b):(a==b)=false:=beq_eq_false_iff_ne.2 h
theorem sV(a b:UInt8):(Hid (a=b)∧((a.toNat:Int)==(b.toNat:Int))=true)∨a≠b:=(Classical.em (a=b)).imp (fun h=>⟨h,by rw[h];simp⟩) id
theorem ko(a b:I.Bs):(Hid (a=b)∧((I.bs a).toList==(I.bs b).toList)=true)∨a≠b:=(Classical.em (a=b)).imp (fun h=>⟨h,by rw[h];simp⟩) id
theorem Hh(a b:ByteArray):(Hid (a=b)∧(a.toList==b.toList)=true)∨a≠b:=(Classical.em (a=b)).imp (fun h=>⟨h,by rw[h];simp⟩) id
theorem CU(a b:Int):(Hid (a=b)∧(a==b)=true)∨a≠b:=(Classical.em (a=b)).imp (fun h=>⟨h,by rw[h];simp⟩) id
theorem j5(a b:Bool):(Hid (a=b)∧(a==b)=true)∨a≠b:=(Classical.em (a=b)).imp (fun h=>⟨h,by rw[h];simp⟩) id
theorem Jv(a b:Cell.Val):(Hid (a=b)∧∀w:World,(binOp .eql 48 (.agg #[.u (a.k.toNat:Int),.i a.n,.s a.s]) (.agg #[.u (b.k.toNat:Int),.i b.n,.s b.s])).run Tryz.prog w=.ok (.bool true) w)∨a≠b:=(Classical.em (a=b)).imp (fun h=>⟨h,fun w=>by rw[Iw,(oW _ _).2 h]⟩) id
end Go.Proofs.YtnicfobpclehkaaGreatDoor
