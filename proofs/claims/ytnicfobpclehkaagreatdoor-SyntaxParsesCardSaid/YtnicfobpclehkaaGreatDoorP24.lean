import Derived.BigRegion
import Derived.Deep.RegionLaw
import Derived.Lib.Join
import Derived.Test.YtnicfobpclehkaaGreatDoorP23
set_option maxHeartbeats 6400000
set_option linter.unusedVariables false
set_option linter.unusedSimpArgs false
namespace Go.Proofs.YtnicfobpclehkaaGreatDoor
open Go.RowKit
section
set_option maxRecDepth 100000
theorem cw:Tryz.prog.underlying 33=some (.struct (Tryz.prog.fieldsOf 33)):=by kernel_rfl
theorem cn:(Tryz.prog.info? 33).map (·.size)=some 2:=by kernel_rfl
theorem dA{P:Program}{fn:Func}{p q:Tmp}{ty Ya:TypeId}(h:fn.results=#[.cell p ty,.cell q Ya])(tmps:Array Value)(w:World)(g g2:Nat)(t t2:TypeId)(cs cs2:Array Value)(fr fr2:Nat×Nat)(d d2:TypeDesc)
 (hp:tmps.getD p undef=.p g) (hq:tmps.getD q undef=.p g2) (hg:w.heap[g]?=some (.cells cs t fr)) (hg2:w.heap[g2]?=some (.cells cs2 t2 fr2))
 (hu:P.underlying ty=some d) (hd:(match d with| .struct _| .array _ _=>true|_=>false)=true) (hi:(P.info? ty).map (·.size)=some cs.size)
 (hu2:P.underlying Ya=some d2) (hd2:(match d2 with| .struct _| .array _ _=>true|_=>false)=true) (hi2:(P.info? Ya).map (·.size)=some cs2.size):
 (results fn tmps).run P w=.ok (.tuple #[.agg cs,.agg cs2]) w:=by
 have hp':tmps[p]?.getD undef=.p g:=by simpa using hp
 have hq':tmps[q]?.getD undef=.p g2:=by simpa using hq
 simp[results,h,hp',hq',asAddr,run_loadVar_row w g t ty cs fr d hg hu hd hi,run_loadVar_row w g2 t2 Ya cs2 fr2 d2 hg2 hu2 hd2 hi2]
def eQ(w:World)(r:I.Km×Nat×Nat)(e:Ending)(w':World):Prop:=∃cs,e=.returned (.tuple #[.agg cs.toArray,.agg #[.i (r.2.1:Int),.i (r.2.2:Int)]])∧aB.R w' (In w.heap.size w'.heap.size) cs r.1∧Below w.heap.size w w'
theorem iQ{w:World}{P:Nat→Prop}:aB.R w P [.b,.e,.e,.e,.b,.z,.z,.z,.z,.z,.z,.f,.e] I.Km.zero:=⟨_,_,_,_,_,_,rfl,Rr.nil _ _ _,Rr.nil _ _ _,Rr.nil _ _ _,Rr.nil _ _ _,Rr.nil _ _ _,Rr.nil _ _ _,Sz.of (Nat.zero_le _),Sz.of (Nat.zero_le _),Sz.of (Nat.zero_le _),Sz.of (Nat.zero_le _)⟩
theorem Kn.gb{w:World}{g b:Nat}{t:TypeId}{cs:Array Value}(h:Kn w g t cs)(hn:g≠b)(vs:List Value):Kn (w.setCells b 0 vs) g t cs:=
 h.ch (Ch.bu (g:=b) vs 0 (Ch.refl b w.heap.size w) (.inl rfl)) h.lt hn
theorem eX{w w9 W:World}{gA gF:Nat}{r:I.Km×Nat×Nat}{ZA ZF:Array Value}{cs:List Value}(HA:Kn w9 gA 30 ZA)(HF:Kn w9 gF 33 ZF)(hza:ZA.size=13)(hzf:ZF.size=2)(hl:cs.length=13)(hne:gA≠gF)(h0:w.heap.size≤gA)(Qa:w.heap.size≤gF)(hb:Below w.heap.size w w9)
 (hW:W=(w9.setCells gA 0 cs).setCells gF 0 [.i (r.2.1:Int),.i (r.2.2:Int)]∨W=(w9.setCells gF 0 [.i (r.2.1:Int),.i (r.2.2:Int)]).setCells gA 0 cs)
 (hR:aB.R w9 (fun b=>w.heap.size≤b∧b<w9.heap.size∧b≠gA∧b≠gF) cs r.1):
 Kn W gA 30 cs.toArray∧Kn W gF 33 #[.i (r.2.1:Int),.i (r.2.2:Int)]∧eQ w r (.returned (.tuple #[.agg cs.toArray,.agg #[.i (r.2.1:Int),.i (r.2.2:Int)]])) W:=by
 have hc:Ch gA w9.heap.size w9 (w9.setCells gA 0 cs):=Ch.bu cs 0 (Ch.refl _ _ _) (.inl rfl);have key:Kn W gA 30 cs.toArray∧Kn W gF 33 #[.i (r.2.1:Int),.i (r.2.2:Int)]∧(∀b,b≠gA→b≠gF→W.heap[b]?=w9.heap[b]?)∧Ch gA w.heap.size w W∧w9.heap.size=W.heap.size:=by
  have hsz:∀(vs:List Value) (o b:Nat) (u:World),(u.setCells b o vs).heap.size=u.heap.size:=by
   intro vs;induction vs with
   |nil=>intro o b u;rfl
   |cons v vs ih=>intro o b u;rw[World.setCells,ih];simp
  have SE:∀(vs:List Value) (o g b:Nat) (u:World),b≠g→(u.setCells g o vs).heap[b]?=u.heap[b]?:=by
   intro vs;induction vs with
   |nil=>intro o g b u _;rfl
   |cons v vs ih=>intro o g b u hn;rw[World.setCells,ih _ _ _ _ hn];exact Below.heap_setCell u ⟨g,o,none⟩ v b hn
  rcases hW with rfl|rfl
  ·refine⟨(HA.l8 cs (by omega)).gb hne _,(HF.gb hne.symm cs).l8 _ (by simp[hzf]),fun b h1 h2=>?_,?_,?_⟩
   ·rw[SE _ _ _ _ _ h2,SE _ _ _ _ _ h1]
   ·exact Ch.bu _ 0 (Ch.bu _ 0 (Ch.lh hb) (.inr h0)) (.inr Qa)
   ·rw[hsz,hsz]
  ·refine⟨(HA.gb hne _).l8 cs (by omega),(HF.l8 [.i (r.2.1:Int),.i (r.2.2:Int)] (by simp[hzf])).gb hne.symm cs,fun b h1 h2=>?_,?_,?_⟩
   ·rw[SE _ _ _ _ _ h1,SE _ _ _ _ _ h2]
   ·exact Ch.bu _ 0 (Ch.bu _ 0 (Ch.lh hb) (.inr Qa)) (.inr h0)
   ·rw[hsz,hsz]
 obtain⟨k1,k2,k3,k4,k5⟩:=key;exact⟨k1,k2,cs,rfl,El.hp (E:=aB) hR (fun b hb=>⟨hb.1,by rw[←k5];exact hb.2.1⟩) fun b hb=>k3 b hb.2.2.1 hb.2.2.2,k4.toBelow h0⟩
theorem eQ.drew{w W:World}{r:I.Km×Nat×Nat}{e:Ending}(h:eQ w r e W):eQ w r e W.drew:=by
 obtain⟨cs,h1,h2,h3⟩:=h;exact⟨cs,h1,El.hp (E:=aB) h2 (fun _ h=>h) fun _ _=>rfl,h3.drew⟩
theorem jj{w W:World}{gA gF:Nat}{r:I.Km×Nat×Nat}{e:Ending}{cA cF:Array Value}(k:Kn W gA 30 cA∧Kn W gF 33 cF∧eQ w r e W):Kn W.drew gA 30 cA∧Kn W.drew gF 33 cF∧eQ w r e W.drew:=⟨k.1,k.2.1,k.2.2.drew⟩
theorem mq(text:ByteArray)(w:World)(hs:text.size≤maxLen)(hU:Qx w)(h6:5<w.heap.size):
 Calls Tryz.prog 8 #[.s text] w (eQ w (I.parse text.data.toList)):=by
 have HU:=aa hU;have hlen:=aH text;clear hU;go_enter Tryz.func8,Tryz.ntmps8;obtain⟨w1,hw⟩:=aab ((w.alloc (.cells #[.b,.e,.e,.e,.b,.z,.z,.z,.z,.z,.z,.f,.e] 30)).alloc (.cells #[.o,.o] 33));go_upto_region 1 with fail
 rw[←hw];have HA1:=aa (show Kn w1 w.heap.size 30 #[.b,.e,.e,.e,.b,.z,.z,.z,.z,.z,.z,.f,.e] by rw[hw];exact(Kn.new w _ _).alloc _);have NC:=aa (show Kn w1 (w.heap.size+1) 33 #[.o,.o] by rw[hw];exact Kn.mD _ _ _ _);have HB1:=aa (show Below w.heap.size w w1 by rw[hw];exact((Below.refl _ _).alloc (Nat.le_refl _) _).alloc (by simp) _);have hs1:w.heap.size+2≤w1.heap.size:=by rw[hw];simp
 clear hw;obtain⟨gA,hgA⟩:=aab w.heap.size;obtain⟨gF,MV⟩:=aab (gA+1);rw[←hgA]at HA1 NC hs1⊢;rw[←MV]at NC⊢;have hA0:w.heap.size≤gA:=by omega
 have hAF:gA<gF:=by omega
 have ZV:gF<w1.heap.size:=by omega
 have HgA:Hid (gA=w.heap.size):=hgA;clear hgA MV hs1;go_wp2_with fail
 with_reducible refine(wD text _ hs).mono ?_
 rintro e w2 ⟨v,rfl,ho,hb⟩;have Nr:= @Lex.tK text.data.toList;have Od:=Lex.o8 text.data.toList;have Qp:Hid (I.parse text.data.toList=(if(Lex.told text.data.toList).2.1≠0 then(I.Km.zero,(Lex.told text.data.toList).2.1,(Lex.told text.data.toList).2.2)else if(I.run text.data.toList.length (Lex.told text.data.toList).1).2.e≠0 then(I.Km.zero,(I.run text.data.toList.length (Lex.told text.data.toList).1).2.e,(I.run text.data.toList.length (Lex.told text.data.toList).1).2.c)else if(I.run text.data.toList.length (Lex.told text.data.toList).1).2.d=true then(I.Km.zero,301,0)else((I.run text.data.toList.length (Lex.told text.data.toList).1).1,0,0))):=rfl;obtain⟨q,hq⟩:=aab (Lex.told text.data.toList);rw[←hq]at ho Nr Od Qp⊢;obtain⟨ts,er,at_⟩:=q;simp only at ho Nr Od Qp⊢;clear hq;have WT:=aa ho;have Uv:=aa Od;have hs2:=hb.size;have HA2:=aa (HA1.o.below hb (by omega));have LA:=aa (NC.o.below hb ZV);have HB2:=aa (HB1.o.trans (hb.mono (by have:=HB1.o.size;omega)));obtain⟨A,c,rfl,hc1,hc2⟩:∃A c,v=.slice A ts.length c∧ts.length≤c∧c≤maxLen:=by obtain⟨A,c,e,_,c1,c2⟩:=fO ho;exact⟨A,c,e,c1,c2⟩
 clear ho Od hb HA1 NC HB1;obtain⟨w3,hw⟩:=aab (w2.alloc (.cells #[.i (er:Int),.i (at_:Int)] 33));go_upto_region 2 with fail
 rw[←hw];have Sf:=aa (show Kn w3 w2.heap.size 33 #[.i (er:Int),.i (at_:Int)] by rw[hw];exact Kn.new _ _ _);have OW:=aa (show Kn w3 gA 30 #[.b,.e,.e,.e,.b,.z,.z,.z,.z,.z,.z,.f,.e] by rw[hw];exact HA2.o.alloc _);have Ny:=aa (show Kn w3 gF 33 #[.o,.o] by rw[hw];exact LA.o.alloc _);have HB3:=aa (show Below w.heap.size w w3 by rw[hw];exact HB2.o.alloc HB2.o.size _);have Lb:=aa (show Rd w3 w3.heap.size 3 (A) ts.length (cr ts) by rw[hw];exact((Rd.own WT.o).below ((Below.refl w2.heap.size w2).alloc (Nat.le_refl _) _) (Nat.le_refl _)).more (by simp));have hs3:w3.heap.size=w2.heap.size+1:=by rw[hw];simp
 have ZW:gF<w3.heap.size:=by omega
 obtain⟨gV,Tj⟩:=aab w2.heap.size;rw[←Tj]at Sf⊢;have hFV:gF<gV:=by omega
 clear hw Tj WT HA2 LA HB2 hs2 hs3;obtain⟨WU,WV⟩:=Sf.o.Y2;simp at WU WV;by_cases her:er=0
 ·subst her;have hsm:text.size≤4096:=by have:=Nr rfl;omega
  have Re:Hid (I.parse text.data.toList=(if(I.run text.data.toList.length ts).2.e≠0 then(I.Km.zero,(I.run text.data.toList.length ts).2.e,(I.run text.data.toList.length ts).2.c)else if(I.run text.data.toList.length ts).2.d=true then(I.Km.zero,301,0)else((I.run text.data.toList.length ts).1,0,0))):=by show _=_;rw[Qp.o,if_neg (by simp)]
  clear Nr Qp;obtain⟨w4,hw⟩:=aab (w3.alloc (.cells #[.s text,.slice A ts.length c,.o,.o,.o,.f] 72));have h6':5<w3.heap.size:=by have:=HB3.o.size;omega
  obtain⟨C,hC⟩:∃C:RC,C=⟨text,ts,A,c,w3.heap.size,hsm,by rw[←hlen];exact Uv.o,⟨hc1,by unfold maxLen at hc2;omega⟩,h6'⟩:=⟨_,rfl⟩;have eT:C.text=text:=by rw[hC]
  have eS:C.ts=ts:=by rw[hC]
  have eA:C.A=A:=by rw[hC]
  have eC:C.c=c:=by rw[hC]
  have eG:C.g=w3.heap.size:=by rw[hC]
  have WW:PS C ⟨ts,0,0,false⟩ w4:=by
   refine⟨⟨0,?_,by rw[eS];rfl,by omega⟩,?_,?_⟩
   ·rw[eG,eT,eS,eA,eC,hw];exact Kn.new _ _ _
   ·rw[eG,eS,eA,hw];exact Lb.o.below ((Below.refl w3.heap.size w3).alloc (Nat.le_refl _) _) (Nat.le_refl _)
   ·exact HU.o.aR fun b o hb=>by
     rw[hw]
     exact(HB3.o.alloc HB3.o.size _).cell (p:=⟨b,o,none⟩) (by show b<w.heap.size;omega)
  have Sj:=aa (show Kn w4 gA 30 #[.b,.e,.e,.e,.b,.z,.z,.z,.z,.z,.z,.f,.e] by rw[hw];exact OW.o.alloc _);have OZ:=aa (show Kn w4 gF 33 #[.o,.o] by rw[hw];exact Ny.o.alloc _);have ND:=aa (show Below w.heap.size w w4 by rw[hw];exact HB3.o.alloc HB3.o.size _);have hs4:C.g<w4.heap.size:=by rw[eG,hw];simp
  have hAg:gA<C.g:=by rw[eG];omega
  have hFg:gF<C.g:=by rw[eG];omega
  have F4:=aa (Fr.start hs4 WW.aJ);have HT:Hid (text.data.toList.length=C.text.size):=by rw[eT];exact hlen
  go_upto_region 5 with fail
  rw[←hw,←eG];have hwg:w.heap.size<C.g:=by omega
  clear hw eT eS eA eC eG hC WW Lb HU OW Ny HB3 Sf WU WV Uv hlen hs;go_wp2_with fail
  with_reducible refine(yV C _).mono ?_
  rintro e w5 ⟨rfl,NH⟩;have FT:=aa (F4.o.tmp (.cells #[.s ⟨#[99,114,101,97,116,101]⟩,.func (.func 51) #[.p C.g] #[],.s ⟨#[100,114,111,112]⟩,.func (.func 52) #[.p C.g] #[],.s ⟨#[103,114,97,110,116]⟩,.func (.func 53) #[.p C.g] #[],.s ⟨#[114,101,118,111,107,101]⟩,.func (.func 54) #[.p C.g] #[],.s ⟨#[105,110,115,101,114,116]⟩,.func (.func 55) #[.p C.g] #[],.s ⟨#[117,112,100,97,116,101]⟩,.func (.func 56) #[.p C.g] #[],.s ⟨#[100,101,108,101,116,101]⟩,.func (.func 57) #[.p C.g] #[],.s ⟨#[115,101,108,101,99,116]⟩,.func (.func 58) #[.p C.g] #[],.s ⟨#[98,101,103,105,110]⟩,.func (.func 59) #[] #[],.s ⟨#[99,111,109,109,105,116]⟩,.func (.func 60) #[] #[],.s ⟨#[114,111,108,108,98,97,99,107]⟩,.func (.func 61) #[] #[]] 117));have ZX:=aa (C6 C w4 hs4);rw[←NH]at FT ZX;clear NH;go_wp2_with fail
  with_reducible refine(Fr.oR FT.o (ti C _ (oY C) (zx C) _ _ FT.o.q ZX.o)).mono ?_
  rintro e w6 ⟨A1,m1,c1,A2,m2,c2,A3,m3,c3,A4,m4,c4,A5,m5,c5,A6,m6,c6,x6,s6,(X6:Hid _),rfl,(F6:Hid _)⟩;clear ZX FT;go_upto_region 6 with fail
  have F7:=aa (F6.o.new 30 #[.u (x6.k.toNat:Int),.s (I.bs x6.nm),.s (I.bs x6.on),.s (I.bs x6.aF),.u (x6.ev.toNat:Int),.slice A1 m1 c1,.slice A2 m2 c2,.slice A3 m3 c3,.slice A4 m4 c4,.slice A5 m5 c5,.slice A6 m6 c6,.bool x6.opt,.s (I.bs x6.key)]);obtain⟨w7,hw⟩:=aab (w6.alloc (.cells #[.u (x6.k.toNat:Int),.s (I.bs x6.nm),.s (I.bs x6.on),.s (I.bs x6.aF),.u (x6.ev.toNat:Int),.slice A1 m1 c1,.slice A2 m2 c2,.slice A3 m3 c3,.slice A4 m4 c4,.slice A5 m5 c5,.slice A6 m6 c6,.bool x6.opt,.s (I.bs x6.key)] 30));obtain⟨g7,hg⟩:=aab w6.heap.size;rw[←hw,←hg]at F7;rw[←hw,←hg];clear hw hg;go_wp2_with fail
  with_reducible refine(bF ⟨#[59]⟩ [59] rfl F7.o).mono ?_
  rintro e w8 ⟨b,hb,rfl,hF⟩;obtain⟨s8,QL⟩:=aab (I.acc [59] s6);have e8:(if b=true then I.next s6 else s6)=s8:=by rw[QL,←hb];rfl
  rw[e8]at hF;have F8:=aa hF;clear e8;have WX:=aa QL;clear hF hb QL;have ZY:=F8.o.q.1;obtain⟨k,Rf,WY,hkl⟩:=ZY;obtain⟨q1,q2⟩:=Rf.y2 1 2;simp at q1 q2;have Uw:=aa WY;clear Rf WY;have hcl:=C.ok.len;have hcs:=C.small;obtain⟨s9,T0⟩:∃s,s=(if s8.r=[]then s8 else I.fail C.text.size 300 s8):=⟨_,rfl⟩;have SF:=aa T0;clear T0;go_wp2_with fail
  go_quiet (fail);go_upto_if 37 with fail
  obtain⟨bb,hbb⟩:∃b,b=decide (k<C.ts.length):=⟨_,rfl⟩;rw[←hbb];have Qj:=aa hbb;clear hbb;go_cut [] (fun wx=>Hid (Fr C.g w4 [(g7,30,#[.u (x6.k.toNat:Int),.s (I.bs x6.nm),.s (I.bs x6.on),.s (I.bs x6.aF),.u (x6.ev.toNat:Int),.slice A1 m1 c1,.slice A2 m2 c2,.slice A3 m3 c3,.slice A4 m4 c4,.slice A5 m5 c5,.slice A6 m6 c6,.bool x6.opt,.s (I.bs x6.key)])] [It.el aB [.u (x6.k.toNat:Int),.s (I.bs x6.nm),.s (I.bs x6.on),.s (I.bs x6.aF),.u (x6.ev.toNat:Int),.slice A1 m1 c1,.slice A2 m2 c2,.slice A3 m3 c3,.slice A4 m4 c4,.slice A5 m5 c5,.slice A6 m6 c6,.bool x6.opt,.s (I.bs x6.key)] x6] (PS C s9) wx));case first=>
   cases bb with
   |true=>
    have hk:k<C.ts.length:=of_decide_eq_true Qj.o.symm;have HE:Hid (s9=I.fail C.text.size 300 s8):=by show _=_;rw[SF.o,if_neg];rw[Uw.o,List.drop_eq_nil_iff];omega
    clear hk;go_wp2_with fail
    with_reducible refine(rC 300 300 rfl (F8.o.drew _)).mono ?_
    rintro e w9 ⟨s,hE,rfl,(F9:Hid _)⟩;rw[←HE.o]at hE;subst hE;go_wp2_with fail
    go_meet;exact F9.o
   |false=>
    have hk:¬k<C.ts.length:=of_decide_eq_false Qj.o.symm;have HE:Hid (s9=s8):=by show _=_;rw[SF.o,if_pos];rw[Uw.o,List.drop_eq_nil_iff];omega
    clear hk;have Ux:=F8.o;rw[←HE.o]at Ux;have F9:=aa Ux;clear Ux;go_wp2_with fail
    go_meet;exact F9.o.drew _
  case rest=>
   obtain⟨w9,hw⟩:=aab wc;subst hw;have F9:=aa hcut.o;have Rg:Hid (I.run text.data.toList.length ts=(x6,s9)):=by show _=_;rw[HT.o];have h1:=X6.o;rw[show(oY C).map (fun v=>(v.word,v.rd))=I.js C.text.size from rfl]at h1;unfold I.run;rw[h1];simp only;rw[SF.o,WX.o]
   rw[Rg.o]at Re;simp only at Re;clear Qj;clear hcut F8 F7 F6 F4 X6 WX SF Rg Uw q1 q2;obtain⟨⟨k9,Rf,-,-⟩,-⟩:=F9.o.q;obtain⟨p3,p4,p5⟩:=Rf.y3 3 4 5;simp at p3 p4 p5;clear Rf;have ZZ:=F9.o.ch.size;have S2:=aa ((Ch.lh (g:=C.g) ND.o).trans F9.o.ch (by have:=ND.o.size;omega));have OJ:=aa (Sj.o.ch F9.o.ch (by omega) (by omega));have OK:=aa (OZ.o.ch F9.o.ch (by omega) (by omega));have Uy:=ND.o.size;clear Sj OZ ND;have n1:¬gA=C.g:=by omega
   have n2:¬C.g=gA:=by omega
   have n3:¬gF=C.g:=by omega
   have n4:¬C.g=gF:=by omega
   have n5:¬gA=gF:=by omega
   have n6:¬gF=gA:=by omega
   have hne:gA≠gF:=by omega
   have Qa:w.heap.size≤gF:=by omega
   have hne':gF≠gA:=by omega
   have Rh:=aa (S2.o.toBelow (by omega));have Ks:=OJ.o.KI;simp at Ks;have cj2:=OJ.o.LW;have K0:=OK.o.Y2;simp at K0;obtain⟨Yb,Yc⟩:=OK.o.Z2;by_cases he:s9.e=0
   ·have t3:((s9.e:Int) !=0)=false:=by simp[he]
    have Uz:=aa he;clear he;cases hd:s9.d with
    |true=>
     rw[hd]at p5;have Pv:Hid (I.parse text.data.toList=(I.Km.zero,301,0)):=by show _=_;rw[Re.o,if_neg (by rw[Uz.o];simp),if_pos hd]
     clear hd;have TA:=aa (OJ.o.there (n:=13) rfl);have TF:=aa ((OK.o.gb hne' [.b,.e,.e,.e,.b,.z,.z,.z,.z,.z,.z,.f,.e]).there (n:=2) rfl);go_wp2_with fail
     rw[Pv.o];have kk:=eX (W:=(w9.setCells gA 0 [.b,.e,.e,.e,.b,.z,.z,.z,.z,.z,.z,.f,.e]).setCells gF 0 [.i (301:Int),.i (0:Int)]) (r:=(I.Km.zero,301,0)) (cs:=[.b,.e,.e,.e,.b,.z,.z,.z,.z,.z,.z,.f,.e]) OJ.o OK.o rfl rfl rfl hne hA0 Qa Rh.o (.inl rfl) iQ;exact bodyPost_ret (dA rfl _ _ gA gF _ _ _ _ _ _ _ _ rfl rfl kk.1 kk.2.1 ag rfl (by rw[af];rfl) cw rfl cn) rfl kk.2.2
    |false=>
     rw[hd]at p5;have Pv:Hid (I.parse text.data.toList=(x6,0,0)):=by show _=_;rw[Re.o,if_neg (by rw[Uz.o];simp),if_neg (by rw[hd];decide)]
     clear hd;have TA:=aa (OJ.o.there (n:=13) rfl);have TF:=aa ((OK.o.gb hne' [.u (x6.k.toNat:Int),.s (I.bs x6.nm),.s (I.bs x6.on),.s (I.bs x6.aF),.u (x6.ev.toNat:Int),.slice A1 m1 c1,.slice A2 m2 c2,.slice A3 m3 c3,.slice A4 m4 c4,.slice A5 m5 c5,.slice A6 m6 c6,.bool x6.opt,.s (I.bs x6.key)]).there (n:=2) rfl);have RS:=aa F9.o.ab.range;have Lv:=aa (show(#[.u (x6.k.toNat:Int),.s (I.bs x6.nm),.s (I.bs x6.on),.s (I.bs x6.aF),.u (x6.ev.toNat:Int),.slice A1 m1 c1,.slice A2 m2 c2,.slice A3 m3 c3,.slice A4 m4 c4,.slice A5 m5 c5,.slice A6 m6 c6,.bool x6.opt,.s (I.bs x6.key)]:Array Value).all (·.oneCell')=true by simp[Value.oneCell']);have Le:=F9.o.ab.KI;simp at Le;go_wp2_with fail
     rw[Pv.o];have kk:=eX (W:=(w9.setCells gA 0 [.u (x6.k.toNat:Int),.s (I.bs x6.nm),.s (I.bs x6.on),.s (I.bs x6.aF),.u (x6.ev.toNat:Int),.slice A1 m1 c1,.slice A2 m2 c2,.slice A3 m3 c3,.slice A4 m4 c4,.slice A5 m5 c5,.slice A6 m6 c6,.bool x6.opt,.s (I.bs x6.key)]).setCells gF 0 [.i (0:Int),.i (0:Int)]) (r:=(x6,0,0)) (cs:=[.u (x6.k.toNat:Int),.s (I.bs x6.nm),.s (I.bs x6.on),.s (I.bs x6.aF),.u (x6.ev.toNat:Int),.slice A1 m1 c1,.slice A2 m2 c2,.slice A3 m3 c3,.slice A4 m4 c4,.slice A5 m5 c5,.slice A6 m6 c6,.bool x6.opt,.s (I.bs x6.key)]) OJ.o OK.o rfl rfl rfl hne hA0 Qa Rh.o (.inl rfl) (El.hp (E:=aB) F9.o.Kx (fun b hb=>⟨by have:=hb.1;have:=Uy;omega,hb.2.1,by have:=hb.1;omega,by have:=hb.1;omega⟩) fun _ _=>rfl);exact bodyPost_ret (dA rfl _ _ gA gF _ _ _ _ _ _ _ _ rfl rfl kk.1 kk.2.1 ag rfl (by rw[af];rfl) cw rfl cn) rfl kk.2.2
   ·have t3:((s9.e:Int) !=0)=true:=by simp[he]
    have Uz:=aa he;have Pv:Hid (I.parse text.data.toList=(I.Km.zero,s9.e,s9.c)):=by show _=_;rw[Re.o,if_pos he]
    clear he;have TA:=aa (OJ.o.there (n:=13) rfl);have TF:=aa (OK.o.there (n:=2) rfl);have TA2:=aa ((OJ.o.gb hne [.i (s9.e:Int),.i (s9.c:Int)]).there (n:=13) rfl);have TF2:=aa ((OK.o.gb hne' [.b,.e,.e,.e,.b,.z,.z,.z,.z,.z,.z,.f,.e]).there (n:=2) rfl);have kA:=aa (jj (eX (W:=(w9.setCells gA 0 [.b,.e,.e,.e,.b,.z,.z,.z,.z,.z,.z,.f,.e]).setCells gF 0 [.i (s9.e:Int),.i (s9.c:Int)]) (cs:=[.b,.e,.e,.e,.b,.z,.z,.z,.z,.z,.z,.f,.e]) (w9:=w9) (r:=(I.Km.zero,s9.e,s9.c)) OJ.o OK.o rfl rfl rfl hne hA0 Qa Rh.o (.inl rfl) iQ));go_wp2_with fail
    go_region;all_goals
     go_wp2_with fail
     rw[Pv.o]
     have kk:=kA.o
     exact bodyPost_ret (dA rfl _ _ gA gF _ _ _ _ _ _ _ _ rfl rfl kk.1 kk.2.1 ag rfl (by rw[af];rfl) cw rfl cn) rfl kk.2.2
 ·have t3:((er:Int) !=0)=true:=by simp[her]
  have Pv:Hid (I.parse text.data.toList=(I.Km.zero,er,at_)):=by show _=_;rw[Qp.o,if_pos her]
  have hw3:w3.heap.size=w3.heap.size:=rfl;clear her Nr Qp Uv Lb HU;have Ly:=OW.o.KI;simp at Ly;have Mj:=OW.o.LW;have MY:=Ny.o.Y2;simp at MY;obtain⟨Yb,Yc⟩:=Ny.o.Z2;have n1:¬gA=gV:=by omega
  have n2:¬gV=gA:=by omega
  have n3:¬gF=gV:=by omega
  have n4:¬gV=gF:=by omega
  have n5:¬gA=gF:=by omega
  have n6:¬gF=gA:=by omega
  have hne:gA≠gF:=by omega
  have Qa:w.heap.size≤gF:=by omega
  clear hw3;have kA:=aa (jj (eX (W:=(w3.setCells gA 0 [.b,.e,.e,.e,.b,.z,.z,.z,.z,.z,.z,.f,.e]).setCells gF 0 [.i (er:Int),.i (at_:Int)]) (cs:=[.b,.e,.e,.e,.b,.z,.z,.z,.z,.z,.z,.f,.e]) (w9:=w3) (r:=(I.Km.zero,er,at_)) OW.o Ny.o rfl rfl rfl hne hA0 Qa HB3.o (.inl rfl) iQ));go_wp2_with fail
  go_region;all_goals
   go_wp2_with fail
   rw[Pv.o]
   have kk:=kA.o
   exact bodyPost_ret (dA rfl _ _ gA gF _ _ _ _ _ _ _ _ rfl rfl kk.1 kk.2.1 ag rfl (by rw[af];rfl) cw rfl cn) rfl kk.2.2
end
section
set_option maxRecDepth 100000
open I (Gw lz)
namespace I
theorem join_eq:∀l:List Bs,Go.Lib.join l [32]=jS l:=by
 intro l;induction l with
 |nil=>rfl
 |cons s l ih=>
  cases l with
  |nil=>exact Go.Lib.join_one _ _
  |cons t r=>
   rw[jS,←ih,Go.Lib.join_cons,Go.Lib.join_cons];simp[Go.Lib.joinTail];intro h;cases h
theorem qH:∀l:List Bs,(jS l).length≤(l.map fun s=>s.length+1).sum:=by
 intro l;induction l with
 |nil=>exact Nat.le_refl _
 |cons s l ih=>
  cases l with
  |nil=>simp[jS]
  |cons t r=>
   show(s++32::jS (t::r)).length≤_;rw[List.length_append,List.length_cons,List.map_cons,List.sum_cons];omega
theorem DW(l:List Bs):(l.map fun s=>s.length+1).sum=lz l:=by
 induction l with
 |nil=>rfl
 |cons a l ih=>rw[List.map_cons,List.sum_cons,ih,lz]
end I
theorem oK{w w':World}{m:Int}(h0:Env w m)(h:∀b,b<w.heap.size→w'.heap[b]?=w.heap[b]?):Env w' m:=by
 have hs:w.heap.size≤w'.heap.size:=by
  refine Nat.le_of_not_lt fun hl=>?_
  have h1:=h w'.heap.size hl;rw[Array.getElem?_eq_none (Nat.le_refl _),Array.getElem?_eq_getElem hl]at h1;cases h1
 have hb:Below w.heap.size w {w' with os:=w.os,tape:=w.tape,output:=w.output}:=⟨rfl,rfl,rfl,hs,h⟩;have h2:=h0.below hb (Nat.le_refl _);exact⟨h2.num,h2.pow⟩
theorem o4{w w':World}(h0:Qx w)(h6:5<w.heap.size)(h:∀b,b<w.heap.size→w'.heap[b]?=w.heap[b]?):Qx w':=by
 obtain⟨m,te,pe,tf,pf,h1,h2,h3⟩:=h0;exact⟨m,te,pe,tf,pf,(World.cell?_of_block (a:=⟨0,0,none⟩) (h 0 (by omega))).trans h1,(World.cell?_of_block (a:=⟨4,0,none⟩) (h 4 (by omega))).trans h2,(World.cell?_of_block (a:=⟨5,0,none⟩) (h 5 h6)).trans h3⟩
theorem C1{w:World}{P:Nat→Prop}{v:Value}{l:List I.Bs}(hr:Rr MP w P v l)(hP:∀k,P k→k<w.heap.size)(hl:(l.map fun s=>s.length+1).sum≤100000)(hn:l.length≤100000):
 Calls Tryz.prog 21 #[v,.s ⟨#[32]⟩] w fun e w'=>e=.returned (.s (I.bs (I.jS l)))∧Below w.heap.size w w':=by
 obtain⟨A,c,rfl,h1,h2,h3⟩:=hr;by_cases h0:0<l.length
 ·obtain⟨bk,off,rfl,hb,_,hc⟩:=h3 h0;have hm:(l.map I.bs).length=l.length:=List.length_map _;have he:((l.map I.bs).map fun x=>x.data.toList)=l:=by rw[List.map_map];exact(List.map_congr_left fun x _=>by simp[I.bs]).trans (List.map_id l)
  have hj:Go.Lib.join ((l.map I.bs).map fun x=>x.data.toList) ((⟨#[32]⟩:ByteArray).data.toList)=I.jS l:=by rw[he];exact I.join_eq l
  have cc:=Tryz.strings_Join bk off c (l.map I.bs) ⟨#[32]⟩ w (fun j x hx=>by
   rw[List.getElem?_map]at hx
   cases hq:l[j]? with
   |none=>rw[hq]at hx;cases hx
   |some y=>
    rw[hq]at hx
    injection hx with hx
    subst hx
    obtain⟨cs,hcs,hcell⟩:=hc j y hq
    have hcs:cs=[.s (I.bs y)]:=hcs
    subst hcs
    have:=hcell 0 _ rfl
    rw[Nat.add_zero,show j*MP.k=j from Nat.mul_one j]at this
    exact this) (hP bk hb) (by rw[hm];omega) (by rw[hm];exact h1) (by rw[hj];have:=I.qH l;omega)
  rw[hm,hj]at cc;exact cc
 ·obtain rfl:l=[]:=List.eq_nil_of_length_eq_zero (by omega);exact(Tryz.strings_Join_none A c ⟨#[32]⟩ w).mono fun _ _ ⟨h1,h2⟩=>⟨h1,by rw[h2];exact Below.refl _ _⟩
def StO(s:I.Km)(l:List I.Bs):Prop:=∀(g:Nat) (v:Value) (p:List I.Bs) (w:World) (cs:List Value),WS g w v (Gw p)→Sb g MT w→aB.R w (fun b=>b<g) cs s→lz (p++l)≤3900→Calls Tryz.prog 40 #[.p g,.agg cs.toArray] w (fu g w v (Gw (p++l)))
theorem yp{nm:I.Bs}(hn:nm≠[]):StO {I.Km.of 2 with nm:=nm} [[100,114,111,112],[116,97,98,108,101],nm]:=by
 intro g v p w cs hS MK hx hz;have F0:=aa (Fw.start hS);have HZ:=aa hz;obtain⟨v1,v2,v3,v4,v5,v6,hcs,_⟩:=hx;have Sq:=aa hcs;clear hS MK hcs hz;go_enter Tryz.func40,Tryz.ntmps40;go_upto_region 1 with fail
 refine MJ fun w1 hw=>?_
 have F1:Hid (Fw g w v [(w.heap.size+1,30,cs.toArray),(w.heap.size,92,#[.p g])] (Gw p) v w1):=by have h:=(F0.o.new 92 #[.p g]).new 30 cs.toArray;rw[ay]at h;rw[hw];exact h
 rw[Sq.o]at F1;obtain⟨gS,Ls⟩:=aab (w.heap.size+1);obtain⟨gB,hgB⟩:=aab w.heap.size;rw[←Ls,←hgB]at F1;rw[←Ls,←hgB];clear hw F0 Ls hgB;have cB:=F1.o.ah.cell 0;simp at cB;have c0:w1.cell? ⟨gS,0,none⟩=some (.u 2):=F1.o.ab.cell 0;have c1:w1.cell? ⟨gS,1,none⟩=some (.s (I.bs nm)):=F1.o.ab.cell 1;go_wp2_with fail
 with_reducible refine(kq F1.o (n:=3) (cells:=#[.s ⟨#[100,114,111,112]⟩,.s ⟨#[116,97,98,108,101]⟩,.s (I.bs nm)]) [[100,114,111,112],[116,97,98,108,101],nm] rfl rfl (fun s hs=>by simp only[List.mem_cons,List.not_mem_nil,or_false]at hs;rcases hs with rfl|rfl|rfl;decide;decide;exact hn) (by have:=HZ.o;omega)).mono ?_
 rintro e w2 ⟨v2,rfl,(F2:Hid _)⟩;go_wp2_with fail
 exact bodyPost_ret (v:=.tuple #[]) (results_none rfl _ _ _) rfl F2.o.done
theorem wg{its:List I.LL}{ls:List (List I.Bs)}{nm:I.Bs}{x:Ev.Ex}{le:List I.Bs}(hp:∀(i:Nat) (x:I.LL),its[i]?=some x→x.nm=[]∧I.Px x.x (ls.getD i [])∧I.depth x.x≤20)(h1:0<its.length)(hz0:∀k,k≤its.length→lz (I.jr ls k)≤3000)(hnm:nm≠[])(hx:I.Px x le)(hdp:I.depth x≤20)
 (g:Nat) (v:Value) (w:World) (cs:List Value) (hS:WS g w v (Gw [])) (MK:Sb g MT w) (hR:aB.R w (fun b=>b<g) cs {I.Km.of 17 with q:=[⟨false,its,[⟨nm,[],[]⟩],[x],[],[],-1⟩]}) (hz:lz (I.qp [] ls its.length nm le)≤3900):
 Calls Tryz.prog 40 #[.p g,.agg cs.toArray] w (fu g w v (Gw (I.qp [] ls its.length nm le))):=by
 have F0:=aa (Fw.start hS);have NW:=aa MK;have HZ:=aa hz;obtain⟨v1,v2,v3,v4,v5,v6,hcs,r1,r2,_⟩:=hR;obtain⟨A2,c2,rfl,_,_⟩:=r2.form;have Sq:=aa hcs;have HR:=aa r2;have HP:=aa hp;have HX:=aa hx;have HZ0:Hid (∀k,k≤its.length→lz (([]++[[115,101,108,101,99,116]])++I.jr ls k)≤3900):=fun k hk=>by have:=hz0 k hk;rw[I.cP,show lz ([]++[[115,101,108,101,99,116]])=7 from rfl];omega
 clear hS MK hcs hz r1 r2 hp hx hz0;go_enter Tryz.func40,Tryz.ntmps40;go_upto_region 1 with fail
 refine MJ fun w1 hw=>?_
 have F1:Hid (Fw g w v [(w.heap.size+1,30,cs.toArray),(w.heap.size,92,#[.p g])] (Gw []) v w1):=by have h:=(F0.o.new 92 #[.p g]).new 30 cs.toArray;rw[ay]at h;rw[hw];exact h
 rw[Sq.o]at F1;obtain⟨gS,Ls⟩:=aab (w.heap.size+1);obtain⟨gB,hgB⟩:=aab w.heap.size;rw[←Ls,←hgB]at F1;rw[←Ls,←hgB];clear hw F0 Ls hgB;have cB:=F1.o.ah.cell 0;simp at cB;have c0:w1.cell? ⟨gS,0,none⟩=some (.u 17):=F1.o.ab.cell 0;have c6:=F1.o.ab.cell 6;simp at c6;have HR1:Hid (Rr eB w1 (fun b=>b<g) (.slice A2 1 c2) [⟨false,its,[⟨nm,[],[]⟩],[x],[],[],-1⟩]):=F1.o.rr HR.o;have XQ:=aa (F1.o.sb NW.o);go_wp2_with fail
 with_reducible refine(F1.o.sub (Ez F1.o.ws XQ.o HR1.o HP.o h1 HZ0.o hnm HX.o hdp HZ.o)).mono ?_
 rintro e w2 ⟨v2,rfl,(F2:Hid _)⟩;go_wp2_with fail
 exact bodyPost_ret (v:=.tuple #[]) (results_none rfl _ _ _) rfl F2.o.done
end
section
set_option maxRecDepth 100000
open I (Gw lz)
def Yd(s:I.Km)(l:List I.Bs):Prop:=∀(g:Nat) (v:Value) (w:World) (cs:List Value),WS g w v (Gw [])→Sb g MT w→aB.R w (fun b=>b<g) cs s→Calls Tryz.prog 40 #[.p g,.agg cs.toArray] w (fu g w v (Gw l))
theorem Ga{cs:List Value}{s:I.Km}{w:World}(hx:aB.R w (fun b=>b<w.heap.size) cs s)(hE:Ju w)(hU:Qx w)(h6:5<w.heap.size){l:List I.Bs}{t:I.Bs}{r:I.Km×Nat×Nat}(hW:Yd s l)(hl:lz l≤3900)(ht:I.jS l=t)(hr:I.parse t=r)(hs:r.2.1=0→r.1=s){V:ByteArray}{Y:Int}(hv:(r.2.1=0∧V=I.bs t∧Y=0)∨(r.2.1≠0∧V=⟨#[]⟩∧Y=330)):
 Calls Tryz.prog 13 #[.agg cs.toArray] w fun e w'=>e=.returned (.tuple #[.s V,.i Y])∧Below w.heap.size w w':=by
 have h0:0<w.heap.size:=by omega
 have IS:∀{l:List Value},l.length=13→(Tryz.prog.info? 30).map (·.size)=some l.length:=fun h=>by rw[h];kernel_rfl
 have HX:=aa hx;have LX:=aa (aB.len hx);have HE:=aa hE;have HU:=aa hU;have HW:=aa (show∀(g:Nat) (v:Value) (w:World) (cs:List Value),WS g w v (Gw [])→Sb g MT w→aB.R w (fun b=>b<g) cs s→Calls Tryz.prog 40 #[.p g,.agg cs.toArray] w (fu g w v (Gw l))from hW);have HJ:=aa ht;have HPr:=aa hr;have YA:=aa hs;have HL:=aa hl;have HV:=aa hv;clear hx hE hU hW ht hr hs hl hv;go_enter Tryz.func13,Tryz.ntmps13;go_upto_region 2 with fail
 refine MJ fun w1 hw=>?_
 have hB1:Below w.heap.size w w1:=by rw[hw];exact((Below.refl _ _).alloc (Nat.le_refl _) _).alloc (by simp) _
 have HB0:=aa (show Kn w1 w.heap.size 30 cs.toArray by rw[hw];exact(Kn.new w _ _).alloc _);have Z0:=aa (show Kn w1 (w.heap.size+1) 94 #[.z,.o,.f] by
  rw[hw]
  have:=Kn.new (w.alloc (.cells cs.toArray 30)) 94 #[.z,.o,.f]
  rw[ay]at this
  exact this)
 obtain⟨g,hg⟩:=aab (w.heap.size+1);have hg0:w.heap.size<g:=by omega
 rw[←hg]at Z0⊢;have F1:Hid (Fw g w1 .z [] (Gw []) .z w1):=aa (Fw.start ⟨Z0.o,Ro.nil _ _ _,Nat.zero_le _⟩);have HSb:=aa (show Sb g MT w1 from fun w' hk=>by
  obtain⟨m,hm⟩:=HE.o
  exact(oK hm fun b hb=>(hk b (by omega)).trans (hB1.block b hb)).pow)
 have HEl:=aa (show aB.R w1 (fun b=>b<g) cs s from El.hp (E:=aB) HX.o (fun b (hb:b<w.heap.size)=>by omega) fun b hb=>hB1.block b hb);have HB1:=aa hB1;have RX:=HB0.o.range;rw[List.toList_toArray]at RX;have RX':=aa RX;clear hB1 RX hw hg Z0;go_wp2_with (refine aU rfl rfl rfl RX'.o (by kernel_rfl) (IS LX.o) ?_)
 with_reducible refine(F1.o.sub (HW.o g _ w1 cs F1.o.ws HSb.o HEl.o)).mono ?_
 rintro e w2 ⟨v2,rfl,(F2:Hid _)⟩;have Rh:=aa (show Below w.heap.size w w2 from⟨F2.o.ch.os.trans HB1.o.os,F2.o.ch.tape.trans HB1.o.tape,F2.o.ch.output.trans HB1.o.output,Nat.le_trans HB1.o.size F2.o.ch.size,fun b hb=>(F2.o.low (by omega)).trans (HB1.o.block b hb)⟩);have UA:=aa (show Kn w2 w.heap.size 30 cs.toArray from(F2.o.low hg0).trans HB0.o);clear F1 HB1 HB0 RX' HEl HSb HW;obtain⟨cb,cv⟩:=F2.o.ws.blk.y2 2 0;simp at cb cv;obtain⟨A,c,rfl,_,_⟩:=F2.o.ws.own.form;have HR:=aa F2.o.ws.own.rr;go_wp2_with fail
 with_reducible refine(C1 HR.o (fun k hk=>hk.2) (by rw[I.DW];have:=HL.o;omega) (by have:=I.mg l;have:=HL.o;omega)).mono ?_
 rintro e w3 ⟨rfl,hb3⟩;have htl:t.length≤3900:=by rw[←HJ.o];have:=I.qH l;rw[I.DW]at this;have:=HL.o;omega
 rw[HJ.o];have F3:=aa (Fr.boxed h0 (Rh.o.trans (hb3.mono Rh.o.size)) (Nat.le_refl _) (UA.o.below hb3 UA.o.lt));clear hb3 F2 Rh UA HR cb cv;have hb:=F3.o.bel;have Vi:=aa ((mq (I.bs t) w3 (by rw[Hi];unfold maxLen;omega) (o4 HU.o h6 fun b hk=>hb.block b hk) (Nat.lt_of_lt_of_le h6 hb.size)));clear hb;go_wp2_with fail
 with_reducible refine Vi.o.mono ?_
 rintro e w4 ⟨Qq,rfl,UB,hb4⟩;rw[cL,HPr.o]at UB⊢;have F4:=aa (F3.o.make (It.el aB Qq r.1) hb4 UB);clear UB hb4 F3 Vi;have L4:=aa (aB.len F4.o.Kx);have O4:=aa (jO F4.o.Kx);go_upto_region 7 with(first|refine wpList_store_mid rfl _ _ _ rfl _ 0 Qq.toArray rfl rfl (jV (by rw[List.size_toArray,L4.o];rfl)) (by rw[List.size_toArray];exact IS L4.o) O4.o ?_|refine wpList_store_mid rfl _ _ _ rfl _ 0 #[.i (r.2.1:Int),.i (r.2.2:Int)] rfl rfl (jW (by rfl)) (by kernel_rfl) (XT _ _) ?_)
 refine MJ fun w5 hw=>?_
 have F5:=aa (F4.o.rP (vs:=[.i (r.2.1:Int),.i (r.2.2:Int)]) hw (by rw[L4.o];rfl) rfl);clear hw F4 O4;obtain⟨gF,MV⟩:=aab (w4.heap.size+1);obtain⟨gS,Ls⟩:=aab w4.heap.size;obtain⟨gB,hgB⟩:=aab w.heap.size;rw[←MV,←Ls,←hgB]at F5;rw[←MV,←Ls,←hgB];clear MV Ls hgB;have q0:=F5.o.ab.cell 0;simp at q0;have RB:=aa (F5.o.nx (t:=30) (b:=gB) (cs:=cs) (by simp only[List.mem_cons,true_or,or_true]));have RS:=aa (F5.o.nx (t:=30) (b:=gS) (cs:=Qq) (by simp only[List.mem_cons,true_or,or_true]));rcases HV.o with⟨he,rfl,rfl⟩|⟨he,rfl,rfl⟩
 ·have hx5:=El.up (E:=aB) HX.o F5.o.bel;have hy5:=F5.o.XS (E:=aB) (cs:=Qq) (x:=r.1) List.mem_cons_self;rw[YA.o he]at hy5;have CC:Hid (Calls Tryz.prog 41 #[.agg cs.toArray,.agg Qq.toArray] w5 fun e w'=>e=.returned (.bool true)∧Below w5.heap.size w5 w'):=(sT w5 cs Qq s s True.intro hx5 hy5).mono fun e w' h=>⟨by rw[h.1,CW],h.2⟩
  have hq:(r.2.1:Int)=0:=by rw[he];rfl
  rw[hq]at q0;clear hx5 hy5 he hq;go_wp2_with (first|refine cj rfl 30 _ rfl gB 0 rfl cs _ RB.o ij rfl (IS LX.o) ?_|refine cj rfl 30 _ rfl gS 0 rfl Qq _ RS.o ij rfl (IS L4.o) ?_)
  with_reducible refine CC.o.mono ?_
  rintro e w7 ⟨rfl,Se⟩;have YS:=aa (F5.o.bel.trans (Se.mono F5.o.bel.size));clear Se;go_wp2_with fail
  go_ret2;exact⟨rfl,YS.o⟩
 ·have t1:((r.2.1:Int) !=0)=true:=bne_iff_ne.2 (by omega);clear he;go_wp2_with fail
  go_ret2;exact⟨rfl,F5.o.bel⟩
end
end Go.Proofs.YtnicfobpclehkaaGreatDoor
