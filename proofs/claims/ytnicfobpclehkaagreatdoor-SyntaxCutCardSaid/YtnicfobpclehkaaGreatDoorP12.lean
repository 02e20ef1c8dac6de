import Derived.Test.YtnicfobpclehkaaGreatDoorP11
set_option maxHeartbeats 3200000
set_option linter.unusedVariables false
set_option linter.unusedSimpArgs false
namespace Go.Proofs.YtnicfobpclehkaaGreatDoor
open Go.RowKit
section
set_option maxRecDepth 8000
structure Env (w:World) (m:Int):Prop where
 num:w.cell? ⟨(0:Nat),0,none⟩=some (.int .i64 m)
 pow:Qr w
theorem Env.below{w w':World}{m:Int}{C:Nat}(h:Env w m)(hb:Below C w w')(hC:w.heap.size≤C):Env w' m:=by
 have h3:=World.block_lt_of_cell? w ⟨(0:Nat),0,none⟩ h.num;exact⟨(hb.cell (p:=⟨(0:Nat),0,none⟩) (aB h3 hC)).trans h.num,h.pow.below hb hC⟩
theorem Hs(n:Int)(w:World)(h0: -9223372036854775808≤n)(h1:n≤9223372036854775807):Calls Tryz.prog 245 #[.int .i64 n] w fun e w'=>e=.returned (.int .u64 ((n.natAbs:Nat):Int))∧w=w':=by
 by_cases hn:n<0
 ·obtain⟨u,rfl⟩:∃u:Nat,n= -(u:Int):=⟨n.natAbs,by omega⟩;rw[show(-(u:Int)).natAbs=u by omega];have hwr:IntKind.u64.wrap (-IntKind.u64.wrap (-(u:Int)))=(u:Int):=by rw[IntKind.wrap_u64,IntKind.wrap_u64];omega
  go_enter Tryz.func245,Tryz.ntmps245;go_wp2_with fail
  go_ret;exact⟨rfl,rfl⟩
 ·obtain⟨u,rfl⟩:∃u:Nat,n=(u:Int):=⟨n.natAbs,by omega⟩;rw[show((u:Int)).natAbs=u by omega];have hwr:IntKind.u64.wrap (u:Int)=(u:Int):=by rw[IntKind.wrap_u64];omega
  go_enter Tryz.func245,Tryz.ntmps245;go_wp2_with fail
  go_ret;exact⟨rfl,rfl⟩
theorem NA.c3{w:World}{g:Nat}{t:TypeId}{u0 u1 u2:Value}(h:NA w g t #[u0,u1,u2]):w.cell? ⟨g,0,none⟩=some u0∧w.cell? ⟨g,1,none⟩=some u1∧w.cell? ⟨g,2,none⟩=some u2:=⟨h.cell 0,h.cell 1,h.cell 2⟩
theorem oJ{a:ByteArray}{l:List UInt8}(h:a.data.toList=l):a.size=l.length:=by rw[←h,aK];rfl
theorem qc(n:Int)(w:World)(hE:Qr w)(h0: -9223372036854775808≤n)(h1:n≤9223372036854775807):
 Calls Tryz.prog 222 #[.int .i64 n] w fun e w'=>e=.returned (.string ⟨(NF.kg n).toArray⟩)∧Below w.heap.size w w':=by
 have HE:=cN hE;have HS:=cN (Hs n · h0 h1);obtain⟨u,hu⟩:∃u,u=n.natAbs:=⟨_,rfl⟩;rw[←hu]at HS;have hul:u≤9223372036854775808:=by omega
 obtain⟨f,hf⟩:∃f,f=u%10000+10000:=⟨_,rfl⟩;obtain⟨q,hq⟩:∃f,f=u/10000:=⟨_,rfl⟩;have HFm:=cN (wj f (by omega));have HQm:=cN (wj q (by omega));obtain⟨T,hT⟩:∃T:ByteArray,T=⟨(Lib.decDigits f).toArray⟩:=⟨_,rfl⟩;obtain⟨Q,hQ⟩:∃T:ByteArray,T=⟨(Lib.decDigits q).toArray⟩:=⟨_,rfl⟩;rw[←hT]at HFm;rw[←hQ]at HQm;have To:T.data.toList=Lib.decDigits f:=by rw[hT]
 have Tp:Q.data.toList=Lib.decDigits q:=by rw[hQ]
 have hT5:T.size=5:=by rw[oJ To,Lib.decDigits_length,Lib.nDigits_unique 4 _ (by omega) (by omega)]
 have hQ20:Q.size≤20:=by rw[oJ Tp,Lib.decDigits_length];exact Lib.nDigits_le20 _ (by omega)
 have hT1:1≤T.size:=by omega
 have hT6:T.size≤5:=by omega
 have e1:(u:Int)%10000+10000=(f:Int):=by omega
 have e2:(u:Int)/10000=(q:Int):=by omega
 have wq:IntKind.u64.wrap (q:Int)=(q:Int):=by rw[IntKind.wrap_u64];omega
 have HF:=cN hf;have HQ:=cN hq;have HT5:=cN hT5;have HTl:=cN To;have WI:=cN Tp;have HU:=cN hu;clear hE hT hQ To Tp hT5 hu hf hq;by_cases hn:n<0
 ·have t1:decide (n<0)=true:=by simp;omega
  have HM:Hid (NF.minus n=[45]):=if_pos hn;clear hn h0 h1 hul;go_enter Tryz.func222,Tryz.ntmps222;go_wp2_with fail
  with_reducible refine(HS.o _).mono ?_
  rintro e w' ⟨rfl,rfl⟩;go_wp2_with fail
  with_reducible refine(HFm.o _ HE.o).mono ?_
  rintro e w1 ⟨rfl,hb1⟩;have HP:Hid (Qr w1∧Below w.heap.size w w1):=⟨HE.o.below hb1 (aa _),hb1⟩;clear hb1;go_wp2_with fail
  refine fF (fun w'=>Qr w'∧Below w.heap.size w w') 10 (by kernel_rfl) (by kernel_rfl) ⟨HP.o.1.below (ax w1.heap.size w1).drew (aa _),HP.o.2.drew⟩ ?_;simp only[List.take_succ_cons,List.take_zero,List.drop_succ_cons,List.drop_zero];refine cS ?_ rfl (fun w' hS=>?_) ?_;rotate_left
  ·go_simp;rfl
  refine cS ?_ rfl (fun w' hS=>?_) ?_;rotate_left
  ·go_simp;rfl
  refine jn _ _ _ rfl (fun w' hS=>?_) (fun w' (hS:(fun w'=>Qr w'∧Below w.heap.size w w') w')=>((HS.o w').mono fun e w2 hp=>⟨hp.1,hp.2▸hS⟩)) ?_
  ·go_simp
  refine cS ?_ rfl (fun w' hS=>?_) ?_;rotate_left
  ·go_simp;rfl
  refine jn _ _ _ rfl (fun w' hS=>?_) (fun w' (hS:(fun w'=>Qr w'∧Below w.heap.size w w') w')=>((HQm.o w' hS.1).mono fun e w2 hp=>⟨hp.1,⟨hS.1.below hp.2 (aa _),hS.2.trans (hp.2.mono hS.2.size)⟩⟩)) ?_
  ·go_simp
  refine cS ?_ rfl (fun w' hS=>?_) ?_;rotate_left
  ·go_simp;rw[if_neg (by omega)]
  refine cS ?_ rfl (fun w' hS=>?_) ?_;rotate_left
  ·go_simp;rw[if_neg (by omega)]
  refine cS ?_ rfl (fun w' hS=>?_) ?_;rotate_left
  ·go_simp;rfl
  refine cS ?_ rfl (fun w' hS=>?_) ?_;rotate_left
  ·go_simp;rw[if_pos (by omega)]
  refine cS ?_ rfl (fun w' hS=>?_) ?_;rotate_left
  ·go_simp;rw[if_neg (by omega)]
  refine iQ fun w3 hS=>?_
  have HB:=cN hS.2;clear hS HP;go_frame;go_wp2_with fail
  go_ret;refine⟨?_,HB.o⟩;show Ending.returned (.string (⟨#[45]⟩++Q++⟨#[46]⟩++T.extract 1 T.size))=_;rw[By (a:=⟨#[45]⟩++Q++⟨#[46]⟩++T.extract 1 T.size) (l:=NF.kg n)];unfold NF.kg;rw[HM.o,←HU.o,←NF.four _ (cK _ (by omega)),←HF.o,←HTl.o,←HQ.o,←WI.o];simp[bj];exact aS (by rw[List.length_tail,aK];exact aa _)
 ·have t1:decide (n<0)=false:=by simp;omega
  have HM:Hid (NF.minus n=[]):=if_neg hn;clear hn h0 h1 hul;go_enter Tryz.func222,Tryz.ntmps222;go_wp2_with fail
  with_reducible refine(HS.o _).mono ?_
  rintro e w' ⟨rfl,rfl⟩;go_wp2_with fail
  with_reducible refine(HFm.o _ HE.o).mono ?_
  rintro e w1 ⟨rfl,hb1⟩;have HP:Hid (Qr w1∧Below w.heap.size w w1):=⟨HE.o.below hb1 (aa _),hb1⟩;clear hb1;go_wp2_with fail
  refine fF (fun w'=>Qr w'∧Below w.heap.size w w') 10 (by kernel_rfl) (by kernel_rfl) ⟨HP.o.1.below (ax w1.heap.size w1).drew (aa _),HP.o.2.drew⟩ ?_;simp only[List.take_succ_cons,List.take_zero,List.drop_succ_cons,List.drop_zero];refine cS ?_ rfl (fun w' hS=>?_) ?_;rotate_left
  ·go_simp;rfl
  refine cS ?_ rfl (fun w' hS=>?_) ?_;rotate_left
  ·go_simp;rfl
  refine jn _ _ _ rfl (fun w' hS=>?_) (fun w' (hS:(fun w'=>Qr w'∧Below w.heap.size w w') w')=>((HS.o w').mono fun e w2 hp=>⟨hp.1,hp.2▸hS⟩)) ?_
  ·go_simp
  refine cS ?_ rfl (fun w' hS=>?_) ?_;rotate_left
  ·go_simp;rfl
  refine jn _ _ _ rfl (fun w' hS=>?_) (fun w' (hS:(fun w'=>Qr w'∧Below w.heap.size w w') w')=>((HQm.o w' hS.1).mono fun e w2 hp=>⟨hp.1,⟨hS.1.below hp.2 (aa _),hS.2.trans (hp.2.mono hS.2.size)⟩⟩)) ?_
  ·go_simp
  refine cS ?_ rfl (fun w' hS=>?_) ?_;rotate_left
  ·go_simp;rw[if_neg (by omega)]
  refine cS ?_ rfl (fun w' hS=>?_) ?_;rotate_left
  ·go_simp;rw[if_neg (by omega)]
  refine cS ?_ rfl (fun w' hS=>?_) ?_;rotate_left
  ·go_simp;rfl
  refine cS ?_ rfl (fun w' hS=>?_) ?_;rotate_left
  ·go_simp;rw[if_pos (by omega)]
  refine cS ?_ rfl (fun w' hS=>?_) ?_;rotate_left
  ·go_simp;rw[if_neg (by omega)]
  refine iQ fun w3 hS=>?_
  have HB:=cN hS.2;clear hS HP;go_frame;go_wp2_with fail
  go_ret;refine⟨?_,HB.o⟩;show Ending.returned (.string (⟨#[]⟩++Q++⟨#[46]⟩++T.extract 1 T.size))=_;rw[By (a:=⟨#[]⟩++Q++⟨#[46]⟩++T.extract 1 T.size) (l:=NF.kg n)];unfold NF.kg;rw[HM.o,←HU.o,←NF.four _ (cK _ (by omega)),←HF.o,←HTl.o,←HQ.o,←WI.o];simp[bj];exact aS (by rw[List.length_tail,aK];exact aa _)
theorem Fa(s:ByteArray)(m:Int)(Q:ByteArray)(w:World)(hs:s.size≤200)(hQ:Q=⟨(NF.quo s.data.toList).toArray⟩)(hM:w.cell? ⟨(0:Nat),0,none⟩=some (.int .i64 m)):
 Calls Tryz.prog 18 #[.string s,.string ⟨#[39]⟩,.string ⟨#[39,39]⟩] w fun e w'=>e=.returned (.string Q)∧Below w.heap.size w w':=by
 subst hQ;have hc:Lib.countB s ⟨#[39]⟩≤s.size:=by have:=NF.GW s.data.toList;rw[aK]at this;exact this
 have h2:(⟨#[39,39]⟩:ByteArray).size=2:=rfl;have:=Tryz.strings_ReplaceAll s ⟨#[39]⟩ ⟨#[39,39]⟩ m w (by omega) hM (by decide) (by rw[h2];omega);rw[←NF.xA];exact this
theorem yR{k:UInt8}{n:Int}{s:ByteArray}(h:Cell.js ⟨k,n,s⟩=true):k.toNat≤5∧s.size≤200:=by
 unfold Cell.js at h;simp only at h;split at h
 ·rename_i e;rw[e];simp only[aN,aI]at h;exact⟨by omega,by omega⟩
 ·rename_i e;rw[e];simp only[aN,aI]at h;exact⟨by omega,by omega⟩
 ·rename_i e;rw[e];simp only[aI]at h;exact⟨by omega,by omega⟩
 ·rename_i e;rw[e];simp only[aI]at h;exact⟨by omega,by omega⟩
 ·rename_i e;rw[e];simp only[aN,aI]at h;exact⟨by omega,by omega⟩
 ·rename_i e;rw[e];simp only[aN,aI]at h;exact⟨by omega,by omega⟩
 ·cases h
theorem KO{v:Cell.Val}(h:Cell.js v=true):NF.prt v=if v.k.toNat=0 then [110,117,108,108]else if v.k.toNat=1 then(if v.n=1 then [116,114,117,101]else [102,97,108,115,101])else if v.k.toNat=2 then Lib.itoa v.n else if v.k.toNat=3 then NF.kg v.n else if v.k.toNat=4 then [39]++NF.quo v.s.data.toList++[39]else [120,39]++NF.gM v.s.data.toList++[39]:=by
 unfold NF.prt;rw[if_neg (by rw[h];simp)]
theorem rH(k:UInt8)(n:Int)(s:ByteArray)(m:Int)(w:World)(hE:Env w m)(h0: -9223372036854775808≤n)(h1:n≤9223372036854775807):
 Calls Tryz.prog 160 #[.agg #[.int .u8 (k.toNat:Int),.int .i64 n,.string s]] w fun e w'=>e=.returned (.string ⟨(NF.prt ⟨k,n,s⟩).toArray⟩)∧Below w.heap.size w w':=by
 have HE:=cN hE;obtain⟨p,hp⟩:∃p,p=NF.prt ⟨k,n,s⟩:=⟨_,rfl⟩;rw[←hp];have HP:=cN hp;have HN:=cN (show NA (w.alloc (.cells #[.int .u8 (k.toNat:Int),.int .i64 n,.string s] 48)) w.heap.size 48 #[.int .u8 (k.toNat:Int),.int .i64 n,.string s]from NA.new _ _ _);have HB:Hid (Below w.heap.size w (w.alloc (.cells #[.int .u8 (k.toNat:Int),.int .i64 n,.string s] 48))):=(ax _ _).alloc (aa _) _;obtain⟨r,hr⟩:∃r,r=Cell.js ⟨k,n,s⟩:=⟨_,rfl⟩;have HR:=cN hr;clear hp hr hE;go_enter Tryz.func160,Tryz.ntmps160;go_wp2_with fail
 obtain⟨w0,hw0⟩:∃x,x=w.alloc (.cells #[.int .u8 (k.toNat:Int),.int .i64 n,.string s] 48):=⟨_,rfl⟩;rw[←hw0]at HN HB⊢;clear hw0;with_reducible refine(Cr k n s w0).mono ?_
 rintro e w1 ⟨rfl,hb1⟩;replace HB:=cN (HB.o.trans (hb1.mono HB.o.size));replace HN:=cN (HN.o.below hb1 HN.o.lt);replace HE:=cN (HE.o.below HB.o (aa _));clear hb1;rw[←HR.o];cases r with
 |false=>
  have HF:Hid (p=[]):=HP.o.trans (if_pos HR.o.symm);go_wp2_with fail
  go_ret;exact⟨by rw[HF.o];rfl,HB.o⟩
 |true=>
  have hP1:=HP.o.trans (KO HR.o.symm);simp only at hP1;obtain⟨hk,hs⟩:=yR HR.o.symm;obtain⟨a0,a1,a2⟩:=HN.o.c3;obtain hk|hk|hk|hk|hk|hk:k.toNat=0∨k.toNat=1∨k.toNat=2∨k.toNat=3∨k.toNat=4∨k.toNat=5:=by omega
  all_goals rw[hk]at hP1
  ·have HF:Hid (p=[110,117,108,108]):=hP1;clear hP1;have t1:((k.toNat:Int)==1)=false:=by simp;omega
   have t2:((k.toNat:Int)==2)=false:=by simp;omega
   have t3:((k.toNat:Int)==3)=false:=by simp;omega
   have t4:((k.toNat:Int)==4)=false:=by simp;omega
   have t5:((k.toNat:Int)==5)=false:=by simp;omega
   clear hk;go_wp2_with fail
   go_ret;exact⟨by rw[HF.o];rfl,HB.o⟩
  ·have HF:Hid (p=if n=1 then [116,114,117,101]else [102,97,108,115,101]):=hP1;clear hP1;have t1:((k.toNat:Int)==1)=true:=by simp;omega
   clear hk;go_wp2_with fail
   with_reducible refine(Tryz.strconv_FormatBool (n==1) w1).mono ?_
   rintro e w2 ⟨rfl,rfl⟩;go_wp2_with fail
   go_ret;refine⟨?_,HB.o⟩;rw[HF.o];by_cases hn:n=1
   ·subst hn;rfl
   ·rw[if_neg hn,show(n==1)=false by simpa using hn];rfl
  ·have HF:Hid (p=Lib.itoa n):=hP1;clear hP1;have t1:((k.toNat:Int)==1)=false:=by simp;omega
   have t2:((k.toNat:Int)==2)=true:=by simp;omega
   clear hk;go_wp2_with fail
   with_reducible refine(Gq n h0 h1 w1 HE.o.pow).mono ?_
   rintro e w2 ⟨rfl,hb2⟩;replace HB:=cN (HB.o.trans (hb2.mono HB.o.size));clear hb2;go_wp2_with fail
   go_ret;exact⟨by rw[HF.o];rfl,HB.o⟩
  ·have HF:Hid (p=NF.kg n):=hP1;clear hP1;have t1:((k.toNat:Int)==1)=false:=by simp;omega
   have t2:((k.toNat:Int)==2)=false:=by simp;omega
   have t3:((k.toNat:Int)==3)=true:=by simp;omega
   clear hk;go_wp2_with fail
   with_reducible refine(qc n w1 HE.o.pow h0 h1).mono ?_
   rintro e w2 ⟨rfl,hb2⟩;replace HB:=cN (HB.o.trans (hb2.mono HB.o.size));clear hb2;go_wp2_with fail
   go_ret;exact⟨by rw[HF.o];rfl,HB.o⟩
  ·have HF:Hid (p=[39]++NF.quo s.data.toList++[39]):=hP1;obtain⟨Q,hQ⟩:∃Q:ByteArray,Q=⟨(NF.quo s.data.toList).toArray⟩:=⟨_,rfl⟩;have Tp:Q.data.toList=NF.quo s.data.toList:=by rw[hQ]
   have hQs:Q.size≤400:=by have:=NF.Bh s.data.toList;rw[←oJ Tp,aK]at this;have e:s.data.size=s.size:=rfl;omega
   have HC:=cN (Fa s m Q w1 hs hQ HE.o.num);have WI:=cN Tp;clear hP1 hQ Tp;have t1:((k.toNat:Int)==1)=false:=by simp;omega
   have t2:((k.toNat:Int)==2)=false:=by simp;omega
   have t3:((k.toNat:Int)==3)=false:=by simp;omega
   have t4:((k.toNat:Int)==4)=true:=by simp;omega
   clear hk;go_wp2_with fail
   with_reducible refine HC.o.mono ?_
   rintro e w2 ⟨rfl,hb2⟩;replace HB:=cN (HB.o.trans (hb2.mono HB.o.size));clear hb2;go_wp2_with fail
   go_ret;refine⟨?_,HB.o⟩;show Ending.returned (.string (⟨#[39]⟩++Q++⟨#[39]⟩))=_;rw[By (a:=⟨#[39]⟩++Q++⟨#[39]⟩) (l:=p)];rw[HF.o,←WI.o];simp[bj]
  ·have HF:Hid (p=[120,39]++NF.gM s.data.toList++[39]):=hP1;obtain⟨Q,hQ⟩:∃Q:ByteArray,Q=⟨(NF.gM s.data.toList).toArray⟩:=⟨_,rfl⟩;have Tp:Q.data.toList=NF.gM s.data.toList:=by rw[hQ]
   have hQs:Q.size≤400:=by have:=NF.rZ s.data.toList;rw[←oJ Tp,aK]at this;have e:s.data.size=s.size:=rfl;omega
   have HC:=Dx s w1 hs;rw[←hQ]at HC;replace HC:=cN HC;have WI:=cN Tp;clear hP1 hQ Tp;have t1:((k.toNat:Int)==1)=false:=by simp;omega
   have t2:((k.toNat:Int)==2)=false:=by simp;omega
   have t3:((k.toNat:Int)==3)=false:=by simp;omega
   have t4:((k.toNat:Int)==4)=false:=by simp;omega
   have t5:((k.toNat:Int)==5)=true:=by simp;omega
   clear hk;go_wp2_with fail
   with_reducible refine HC.o.mono ?_
   rintro e w2 ⟨rfl,hb2⟩;replace HB:=cN (HB.o.trans (hb2.mono HB.o.size));clear hb2;go_wp2_with fail
   go_ret;refine⟨?_,HB.o⟩;show Ending.returned (.string (⟨#[120,39]⟩++Q++⟨#[39]⟩))=_;rw[By (a:=⟨#[120,39]⟩++Q++⟨#[39]⟩) (l:=p)];rw[HF.o,←WI.o];simp[bj]
end
section
set_option maxRecDepth 100000
def Sb(g:Nat)(Q:World→Prop)(w:World):Prop:=∀w',(∀b,b<g→w'.heap[b]?=w.heap[b]?)→Q w'
theorem Fw.sb{g:Nat}{w0 w:World}{v0 v:Value}{own:eP}{st:I.Wr}{Q:World→Prop}(h:Fw g w0 v0 own st v w)(hq:Sb g Q w0):Sb g Q w:=fun w' hk=>hq w' fun b hb=>(hk b hb).trans (h.low hb)
def sI(w:World):Prop:=∃m,Env w m
theorem Fw.iz{g b:Nat}{w0 w:World}{v0 v:Value}{own:eP}{st:I.Wr}{t:TypeId}{cs:Array Value}(h:Fw g w0 v0 own st v w)(hb:NA w0 b t cs)(hg:b≠g)(hv:v0.ownBlock≠some b):NA w b t cs:=(h.ch.block b hb.lt hg hv).trans hb
theorem Fw.S8{g d m:Nat}{w0 w:World}{v0 v:Value}{own:eP}{st:I.Wr}{A:Option Addr}{ks:List Ev.Ex}(h:Fw g w0 v0 own st v w)(hx:O5 w0 (fun k=>k<g) d A m ks):O5 w (fun k=>k<g) d A m ks:=O5.dH (fun _ h=>h) (fun b o hb=>World.cell?_of_block (a:=⟨b,o,none⟩) (h.low hb)) hx
inductive OJ:Ev.Ex→Prop
 |mk {h:Ev.Hd} {ks:List Ev.Ex} (h1:h.nm.size≤140737488355328) (h2:h.of.size≤140737488355328) (h3:∀k∈ks,OJ k):OJ (.mk h ks)
theorem OJ.nm{h:Ev.Hd}{ks:List Ev.Ex}(h0:OJ (.mk h ks)):h.nm.size≤140737488355328∧h.of.size≤140737488355328:=by
 cases h0 with
 |mk h1 h2 h3=>exact⟨h1,h2⟩
theorem OJ.kid{h:Ev.Hd}{ks:List Ev.Ex}(h0:OJ (.mk h ks)){k:Ev.Ex}(hk:k∈ks):OJ k:=by
 cases h0 with
 |mk h1 h2 h3=>exact h3 k hk
def Zz(D:Nat):Prop:=∀(hd:Ev.Hd) (A:Option Addr) (m c:Nat) (ks:List Ev.Ex) (g d:Nat) (v:Value) (st:I.Wr) (w:World),WS g w v st→I.Bd 8000 st→Sb g sI w→qd hd→OJ (.mk hd ks)→O5 w (fun b=>b<g) D A m ks→m≤c→c≤9223372036854775807→d≤25→
 Calls Tryz.prog 164 #[.pointer (some ⟨g,0,none⟩),Vz hd A m c,.int .i64 (d:Int)] w (gm g w v (I.within d (.mk hd ks) st))
theorem lv(D:Nat)(hW:Zz D)(hd:Ev.Hd)(A:Option Addr)(m c:Nat)(ks:List Ev.Ex)(i:Nat)(ii:Int)(hii:ii=(i:Int))(k:Ev.Ex)(hi:ks[i]?=some k)(hsm:OJ k)(g d gE gB gD:Nat)(v:Value)(st:I.Wr)(w:World)(hS:WS g w v st)(hB:I.Bd 7990 st)(XB:Sb g sI w)(hx:O5 w (fun b=>b<g) (D+1) A m ks)(hd24:d≤24)
 (bE:NA w gE 50 #[.int .u8 (hd.o.toNat:Int),.int .u8 (hd.v.k.toNat:Int),.int .i64 hd.v.n,.string hd.v.s,.string hd.nm,.string hd.of,.int .i64 hd.n,.slice A m c]) (bB:NA w gB 92 #[.pointer (some ⟨g,0,none⟩)]) (bD:NA w gD 3 #[.int .i64 (d:Int)]) (oE:gE≠g∧v.ownBlock≠some gE) (oB:gB≠g∧v.ownBlock≠some gB) (oD:gD≠g∧v.ownBlock≠some gD):
 Calls Tryz.prog 225 #[.int .i64 ii,.pointer (some ⟨gE,0,none⟩),.pointer (some ⟨gB,0,none⟩),.pointer (some ⟨gD,0,none⟩)] w (gm g w v (I.im hd.o k (I.within (d+1) k) st)):=by
 subst hii;obtain⟨h2,Rt⟩:=k;have hil:=(ay.1 hi).1;have hxl:=hx.len;obtain⟨_,_,h3⟩:=hx;obtain⟨gk,off,rfl,hgk,hc⟩:=h3 (by omega);obtain⟨A2,c2,d0,d1,d2,d3,d4,d5,d6,d7,e1,e2,e3,e4⟩:=hc i h2 Rt hi;have him:i<m:=by omega
 have q1:(0:Int)≤(i:Int):=by omega
 have q2:(i:Int)<(m:Int):=by omega
 have F0:=cN (Fw.start hS);have QQ:=cN hB;have Ol:=cN XB;have HX:=cN e4;have HH:=cN e3;have Qk:=cN hsm;have HE:=cN bE;have HB:=cN bB;have HD:=cN bD;obtain⟨P1,hP1⟩:∃b,b=I.gn hd.o:=⟨_,rfl⟩;obtain⟨P2,hP2⟩:∃b,b=(I.gn hd.o&&I.gn h2.o):=⟨_,rfl⟩;have Oa:=cN hP1;have Ow:=cN hP2;have HW:=cN hW;have hkl:=e4.len;have hgkg:gk<g:=hgk;clear hS hB XB h3 hc e4 e3 hP1 hP2 hi hxl hil hW hgk hsm;obtain⟨cE0,cE7⟩:=bE.y2 0 7;have cB:=bB.cell 0;simp at cE0 cE7 cB;have HK:=cN (show∀w':World,(∀b,b<g→w'.heap[b]?=w.heap[b]?)→∀t u,w.cell? ⟨gk,t,none⟩=some u→w'.cell? ⟨gk,t,none⟩=some u from fun w' hk t u hu=>(World.cell?_of_block (a:=⟨gk,t,none⟩) (hk gk hgkg)).trans hu);go_enter Tryz.func225,Tryz.ntmps225;go_wp2_with fail
 with_reducible refine(wy hd.o _).mono ?_
 rintro e w' ⟨rfl,XC⟩;obtain rfl:=XC.symm;clear XC;rw[←Oa.o];cases P1 with
 |true=>
  have HQ:Hid (P2=I.gn h2.o):=by show _=_;rw[Ow.o,←Oa.o,cD]
  go_wp2_with fail
  with_reducible refine(wy h2.o _).mono ?_
  rintro e w' ⟨rfl,XC⟩;obtain rfl:=XC.symm;clear XC;rw[←HQ.o];go_upto_region 1 with fail
  go_wp2_with fail
  with_reducible refine(dS F0.o P2 (n:=1) (cells:=#[.string ⟨#[40]⟩]) [[40]] rfl rfl (by decide) (by decide) (by have:=QQ.o.le;omega)).mono ?_
  rintro e w1 ⟨v1,s1,hs1,rfl,hF⟩;have F1:=cN hF;have S1:=cN hs1;have B1:Hid (I.Bd 7991 s1):=by show I.Bd 7991 s1;rw[←hs1];exact I.Bd.mono (I.Bd.fQ 1 QQ.o (by rfl)) (by decide)
  clear hF hs1;go_upto_region 2 with fail
  refine fF (fun w'=>Fw g w v [] s1 v1 w') 8 (by kernel_rfl) (by kernel_rfl) (F1.o.drew 1) ?_;simp only[List.take_succ_cons,List.take_zero,List.drop_succ_cons,List.drop_zero];refine cS ?_ rfl (fun w' hS=>?_) ?_;rotate_left
  ·have T4:=(hS.iz HB.o oB.1 oB.2).cell 0;simp at T4;go_simp;rfl
  go_frame;refine cS ?_ rfl (fun w' hS=>?_) ?_;rotate_left
  ·go_simp;rfl
  go_frame;refine cS ?_ rfl (fun w' hS=>?_) ?_;rotate_left
  ·have XE:=(hS.iz HE.o oE.1 oE.2).cell 7;simp at XE;go_simp;rfl
  go_frame;refine cS ?_ rfl (fun w' hS=>?_) ?_;rotate_left
  ·go_simp;rfl
  go_frame;refine cS ?_ rfl (fun w' hS=>?_) ?_;rotate_left
  ·go_simp;rw[if_pos (by omega)]
  go_frame;refine cS ?_ rfl (fun w' hS=>?_) ?_;rotate_left
  ·have k0:=HK.o w' (fun b hb=>hS.low hb) _ _ d0;have k1:=HK.o w' (fun b hb=>hS.low hb) _ _ d1;have k2:=HK.o w' (fun b hb=>hS.low hb) _ _ d2;have k3:=HK.o w' (fun b hb=>hS.low hb) _ _ d3;have k4:=HK.o w' (fun b hb=>hS.low hb) _ _ d4;have k5:=HK.o w' (fun b hb=>hS.low hb) _ _ d5;have k6:=HK.o w' (fun b hb=>hS.low hb) _ _ d6;have k7:=HK.o w' (fun b hb=>hS.low hb) _ _ d7;go_simp;rfl
  go_frame;refine cS ?_ rfl (fun w' hS=>?_) ?_;rotate_left
  ·have VI:=(hS.iz HD.o oD.1 oD.2).cell 0;simp at VI;go_simp;rfl
  go_frame;refine cS ?_ rfl (fun w' hS=>?_) ?_;rotate_left
  ·go_simp;rfl
  go_frame;refine iQ fun w2 hS=>?_
  have F2:=cN hS;clear hS F1;go_wp2_with fail
  have cc:=HW.o h2 A2 Rt.length c2 Rt g (d+1) v1 s1 w2 F2.o.ws (B1.o.mono (by decide)) (F2.o.sb Ol.o) HH.o Qk.o (F2.o.S8 HX.o) e1 e2 (by omega);unfold Vz at cc;rw[show(((d+1:Nat)):Int)=(d:Int)+1 by omega]at cc;with_reducible refine(F2.o.sub cc).mono ?_
  rintro e w3 ⟨v3,rfl,hF⟩;have F3:=cN hF;clear hF cc;obtain⟨s3,hs3⟩:∃x,x=I.within (d+1) (.mk h2 Rt) s1:=⟨_,rfl⟩;rw[←hs3]at F3;have B3:Hid (I.Bd 7991 s3):=by show I.Bd 7991 s3;rw[hs3];exact(I.Bd.within _ _ (aa _) B1.o).mono (by unfold I.kD;omega)
  have S3:=cN hs3;clear hs3;have cB3:=(F3.o.iz HB.o oB.1 oB.2).cell 0;simp at cB3;go_wp2_with fail
  with_reducible refine(dS F3.o P2 (n:=1) (cells:=#[.string ⟨#[41]⟩]) [[41]] rfl rfl (by decide) (by decide) (by have:=B3.o.le;omega)).mono ?_
  rintro e w4 ⟨v4,s4,hs4,rfl,hF⟩;have F4:=cN hF;have HS:Hid (I.im hd.o (.mk h2 Rt) (I.within (d+1) (.mk h2 Rt)) st=s4):=by show _=_;unfold I.im I.qb;simp only;rw[←Ow.o,S1.o,←S3.o,hs4]
  clear hF hs4;go_wp2_with fail
  rw[HS.o];exact ae (v:=.tuple #[]) (aA rfl _ _ _) rfl F4.o.done
 |false=>
  have HQ:Hid (P2=false):=by show _=_;rw[Ow.o,←Oa.o,Bool.false_and]
  rw[HQ.o]at Ow;go_upto_region 1 with fail
  go_wp2_with fail
  with_reducible refine(dS F0.o false (n:=1) (cells:=#[.string ⟨#[40]⟩]) [[40]] rfl rfl (by decide) (by decide) (by have:=QQ.o.le;omega)).mono ?_
  rintro e w1 ⟨v1,s1,hs1,rfl,hF⟩;have F1:=cN hF;have S1:=cN hs1;have B1:Hid (I.Bd 7991 s1):=by show I.Bd 7991 s1;rw[←hs1];exact I.Bd.mono (I.Bd.fQ 1 QQ.o (by rfl)) (by decide)
  clear hF hs1;go_upto_region 2 with fail
  refine fF (fun w'=>Fw g w v [] s1 v1 w') 8 (by kernel_rfl) (by kernel_rfl) (F1.o.drew 1) ?_;simp only[List.take_succ_cons,List.take_zero,List.drop_succ_cons,List.drop_zero];refine cS ?_ rfl (fun w' hS=>?_) ?_;rotate_left
  ·have T4:=(hS.iz HB.o oB.1 oB.2).cell 0;simp at T4;go_simp;rfl
  go_frame;refine cS ?_ rfl (fun w' hS=>?_) ?_;rotate_left
  ·go_simp;rfl
  go_frame;refine cS ?_ rfl (fun w' hS=>?_) ?_;rotate_left
  ·have XE:=(hS.iz HE.o oE.1 oE.2).cell 7;simp at XE;go_simp;rfl
  go_frame;refine cS ?_ rfl (fun w' hS=>?_) ?_;rotate_left
  ·go_simp;rfl
  go_frame;refine cS ?_ rfl (fun w' hS=>?_) ?_;rotate_left
  ·go_simp;rw[if_pos (by omega)]
  go_frame;refine cS ?_ rfl (fun w' hS=>?_) ?_;rotate_left
  ·have k0:=HK.o w' (fun b hb=>hS.low hb) _ _ d0;have k1:=HK.o w' (fun b hb=>hS.low hb) _ _ d1;have k2:=HK.o w' (fun b hb=>hS.low hb) _ _ d2;have k3:=HK.o w' (fun b hb=>hS.low hb) _ _ d3;have k4:=HK.o w' (fun b hb=>hS.low hb) _ _ d4;have k5:=HK.o w' (fun b hb=>hS.low hb) _ _ d5;have k6:=HK.o w' (fun b hb=>hS.low hb) _ _ d6;have k7:=HK.o w' (fun b hb=>hS.low hb) _ _ d7;go_simp;rfl
  go_frame;refine cS ?_ rfl (fun w' hS=>?_) ?_;rotate_left
  ·have VI:=(hS.iz HD.o oD.1 oD.2).cell 0;simp at VI;go_simp;rfl
  go_frame;refine cS ?_ rfl (fun w' hS=>?_) ?_;rotate_left
  ·go_simp;rfl
  go_frame;refine iQ fun w2 hS=>?_
  have F2:=cN hS;clear hS F1;go_wp2_with fail
  have cc:=HW.o h2 A2 Rt.length c2 Rt g (d+1) v1 s1 w2 F2.o.ws (B1.o.mono (by decide)) (F2.o.sb Ol.o) HH.o Qk.o (F2.o.S8 HX.o) e1 e2 (by omega);unfold Vz at cc;rw[show(((d+1:Nat)):Int)=(d:Int)+1 by omega]at cc;with_reducible refine(F2.o.sub cc).mono ?_
  rintro e w3 ⟨v3,rfl,hF⟩;have F3:=cN hF;clear hF cc;obtain⟨s3,hs3⟩:∃x,x=I.within (d+1) (.mk h2 Rt) s1:=⟨_,rfl⟩;rw[←hs3]at F3;have B3:Hid (I.Bd 7991 s3):=by show I.Bd 7991 s3;rw[hs3];exact(I.Bd.within _ _ (aa _) B1.o).mono (by unfold I.kD;omega)
  have S3:=cN hs3;clear hs3;have cB3:=(F3.o.iz HB.o oB.1 oB.2).cell 0;simp at cB3;go_wp2_with fail
  with_reducible refine(dS F3.o false (n:=1) (cells:=#[.string ⟨#[41]⟩]) [[41]] rfl rfl (by decide) (by decide) (by have:=B3.o.le;omega)).mono ?_
  rintro e w4 ⟨v4,s4,hs4,rfl,hF⟩;have F4:=cN hF;have HS:Hid (I.im hd.o (.mk h2 Rt) (I.within (d+1) (.mk h2 Rt)) st=s4):=by show _=_;unfold I.im I.qb;simp only;rw[←Ow.o,S1.o,←S3.o,hs4]
  clear hF hs4;go_wp2_with fail
  rw[HS.o];exact ae (v:=.tuple #[]) (aA rfl _ _ _) rfl F4.o.done
end
section
namespace NF
open Go.Lib (dg nDigits decDigits)
def td(c:UInt8):Prop:=48≤c.toNat∧c.toNat≤57
theorem MC(u j:Nat):td (dg u j):=by
 unfold td;rw[lS];omega
theorem Bm(u j:Nat):∀c∈low u j,td c:=by
 intro c hc;unfold low at hc;obtain⟨t,_,rfl⟩:=List.mem_map.1 hc;exact MC _ _
theorem J3(u:Nat):∀c∈decDigits u,td c:=by rw[mE];exact Bm u _
theorem ru(u:Nat):decDigits u≠[]:=by
 intro h;have:=Go.Lib.decDigits_length u;rw[h]at this;have:=Go.Lib.nDigits_pos u;simp at*;omega
def ef(l:List UInt8):Nat:=l.foldl (fun a c=>a*10+(c.toNat-48)) 0
theorem jR(l:List UInt8)(c:UInt8):ef (l++[c])=ef l*10+(c.toNat-48):=by simp[ef]
theorem FX(u j:Nat):low u (j+1)=low (u/10) j++[dg u 0]:=by
 unfold low;rw[List.range_succ,cw];congr 1
 ·apply cn;intro t ht;have:t<j:=List.mem_range.1 ht;rw[show j+1-1-t=(j-1-t)+1 by omega,Go.Lib.dg_succ]
 ·simp
theorem tX:∀(j u:Nat),ef (low u j)=u%10^j:=by
 intro j;induction j with
 |zero=>intro u;rw[Nat.pow_zero,Nat.mod_one];rfl
 |succ j ih=>
  intro u;rw[FX,jR,ih,lS,Nat.pow_zero,Nat.div_one];have h1:u/10%10^j=u%10^(j+1)/10:=by rw[Nat.pow_succ,Nat.mul_comm,Nat.mod_mul_right_div_self]
  have h2:u%10^(j+1)%10=u%10:=Nat.mod_mod_of_dvd _ ⟨10^j,by rw[Nat.pow_succ,Nat.mul_comm]⟩;omega
theorem oZ(u:Nat):ef (decDigits u)=u:=by rw[mE,tX,Nat.mod_eq_of_lt (Go.Lib.lt_pow_nDigits u)]
theorem oO(f:Nat)(h:f<10000):(SR f 4).length=4:=by
 unfold SR;rw[ub,Nat.max_eq_left (ke (by omega) (by omega))]
theorem Ak(f:Nat)(h:f<10000):ef (SR f 4)=f:=by
 unfold SR;rw[tX,Nat.max_eq_left (ke (by omega) (by omega))];exact Nat.mod_eq_of_lt (by omega)
theorem rK(c:UInt8)(l:List UInt8):quo (c::l)=(if c.toNat=39 then [39,39]else [c])++quo l:=by simp[quo]
theorem DO(c:UInt8)(l:List UInt8):gM (c::l)=iL (c.toNat/16)::iL (c.toNat%16)::gM l:=by simp[gM]
end NF
end
end Go.Proofs.YtnicfobpclehkaaGreatDoor
