import Derived.BigRegion
import Derived.Deep.RegionLaw
import Derived.Lib.Join
import Derived.Test.YtnicfobpclehkaaGreatDoorP29
set_option maxHeartbeats 3200000
set_option linter.unusedVariables false
set_option linter.unusedSimpArgs false
namespace Go.Proofs.YtnicfobpclehkaaGreatDoor
open Go.RowKit
section
set_option maxRecDepth 100000
theorem jf:Tryz.prog.underlying 33=some (.struct (Tryz.prog.fieldsOf 33)):=by kernel_rfl
theorem iD:(Tryz.prog.info? 33).map (·.size)=some 2:=by kernel_rfl
theorem kq{P:Program}{fn:Func}{p q:Tmp}{ty ty2:TypeId}(h:fn.results=#[.cell p ty,.cell q ty2])(tmps:Array Value)(w:World)(g g2:Nat)(t t2:TypeId)(cs cs2:Array Value)(fr fr2:Nat×Nat)(d d2:TypeDesc)
 (hp:tmps.getD p undef=.pointer (some ⟨g,0,none⟩)) (hq:tmps.getD q undef=.pointer (some ⟨g2,0,none⟩)) (hg:w.heap[g]?=some (.cells cs t fr)) (hg2:w.heap[g2]?=some (.cells cs2 t2 fr2))
 (hu:P.underlying ty=some d) (hd:(match d with| .struct _| .array _ _=>true|_=>false)=true) (hi:(P.info? ty).map (·.size)=some cs.size)
 (hu2:P.underlying ty2=some d2) (hd2:(match d2 with| .struct _| .array _ _=>true|_=>false)=true) (hi2:(P.info? ty2).map (·.size)=some cs2.size):
 (results fn tmps).run P w=.ok (.tuple #[.agg cs,.agg cs2]) w:=by
 have hp':tmps[p]?.getD undef=.pointer (some ⟨g,0,none⟩):=by simpa using hp
 have hq':tmps[q]?.getD undef=.pointer (some ⟨g2,0,none⟩):=by simpa using hq
 simp[results,h,hp',hq',asAddr,run_loadVar_row w g t ty cs fr d hg hu hd hi,run_loadVar_row w g2 t2 ty2 cs2 fr2 d2 hg2 hu2 hd2 hi2]
def iO(w:World)(r:I.NC×Nat×Nat)(e:Ending)(w':World):Prop:=∃cs,e=.returned (.tuple #[.agg cs.toArray,.agg #[.int .i64 (r.2.1:Int),.int .i64 (r.2.2:Int)]])∧df.R w' (In w.heap.size w'.heap.size) cs r.1∧Below w.heap.size w w'
theorem qM{w:World}{P:Nat→Prop}:df.R w P [.int .u8 0,.string ⟨#[]⟩,.string ⟨#[]⟩,.string ⟨#[]⟩,.int .u8 0,.slice none 0 0,.slice none 0 0,.slice none 0 0,.slice none 0 0,.slice none 0 0,.slice none 0 0,.bool false,.string ⟨#[]⟩] I.NC.zero:=⟨_,_,_,_,_,_,rfl,Rr.nil _ _ _,Rr.nil _ _ _,Rr.nil _ _ _,Rr.nil _ _ _,Rr.nil _ _ _,Rr.nil _ _ _,Sz.of (ao _),Sz.of (ao _),Sz.of (ao _),Sz.of (ao _)⟩
theorem NA.lq{w:World}{g b:Nat}{t:TypeId}{cs:Array Value}(h:NA w g t cs)(hn:g≠b)(vs:List Value):NA (w.setCells b 0 vs) g t cs:=
 h.ch (Ch.dD (g:=b) vs 0 (Ch.refl b w.heap.size w) (.inl rfl)) h.lt hn
theorem mF{w w9 W:World}{gA gF:Nat}{r:I.NC×Nat×Nat}{ZA ZF:Array Value}{cs:List Value}(HA:NA w9 gA 30 ZA)(HF:NA w9 gF 33 ZF)(hza:ZA.size=13)(hzf:ZF.size=2)(hl:cs.length=13)(hne:gA≠gF)(h0:w.heap.size≤gA)(Vr:w.heap.size≤gF)(hb:Below w.heap.size w w9)
 (hW:W=(w9.setCells gA 0 cs).setCells gF 0 [.int .i64 (r.2.1:Int),.int .i64 (r.2.2:Int)]∨W=(w9.setCells gF 0 [.int .i64 (r.2.1:Int),.int .i64 (r.2.2:Int)]).setCells gA 0 cs)
 (hR:df.R w9 (fun b=>w.heap.size≤b∧b<w9.heap.size∧b≠gA∧b≠gF) cs r.1):
 NA W gA 30 cs.toArray∧NA W gF 33 #[.int .i64 (r.2.1:Int),.int .i64 (r.2.2:Int)]∧iO w r (.returned (.tuple #[.agg cs.toArray,.agg #[.int .i64 (r.2.1:Int),.int .i64 (r.2.2:Int)]])) W:=by
 have hc:Ch gA w9.heap.size w9 (w9.setCells gA 0 cs):=Ch.dD cs 0 (Ch.refl _ _ _) (.inl rfl);have key:NA W gA 30 cs.toArray∧NA W gF 33 #[.int .i64 (r.2.1:Int),.int .i64 (r.2.2:Int)]∧(∀b,b≠gA→b≠gF→W.heap[b]?=w9.heap[b]?)∧Ch gA w.heap.size w W∧w9.heap.size=W.heap.size:=by
  have hsz:∀(vs:List Value) (o b:Nat) (u:World),(u.setCells b o vs).heap.size=u.heap.size:=by
   intro vs;induction vs with
   |nil=>intro o b u;rfl
   |cons v vs ih=>intro o b u;rw[World.setCells,ih];simp
  have UJ:∀(vs:List Value) (o g b:Nat) (u:World),b≠g→(u.setCells g o vs).heap[b]?=u.heap[b]?:=by
   intro vs;induction vs with
   |nil=>intro o g b u _;rfl
   |cons v vs ih=>intro o g b u hn;rw[World.setCells,ih _ _ _ _ hn];exact aU u ⟨g,o,none⟩ v b hn
  rcases hW with rfl|rfl
  ·refine⟨(HA.lB cs (by omega)).lq hne _,(HF.lq hne.symm cs).lB _ (by simp[hzf]),fun b h1 h2=>?_,?_,?_⟩
   ·rw[UJ _ _ _ _ _ h2,UJ _ _ _ _ _ h1]
   ·exact Ch.dD _ 0 (Ch.dD _ 0 (Ch.lL hb) (.inr h0)) (.inr Vr)
   ·rw[hsz,hsz]
  ·refine⟨(HA.lq hne _).lB cs (by omega),(HF.lB [.int .i64 (r.2.1:Int),.int .i64 (r.2.2:Int)] (by simp[hzf])).lq hne.symm cs,fun b h1 h2=>?_,?_,?_⟩
   ·rw[UJ _ _ _ _ _ h1,UJ _ _ _ _ _ h2]
   ·exact Ch.dD _ 0 (Ch.dD _ 0 (Ch.lL hb) (.inr Vr)) (.inr h0)
   ·rw[hsz,hsz]
 obtain⟨k1,k2,k3,k4,k5⟩:=key;exact⟨k1,k2,cs,rfl,El.hp (E:=df) hR (fun b hb=>⟨hb.1,by rw[←k5];exact hb.2.1⟩) fun b hb=>k3 b hb.2.2.1 hb.2.2.2,k4.toBelow h0⟩
theorem iO.drew{w W:World}{r:I.NC×Nat×Nat}{e:Ending}(h:iO w r e W):iO w r e W.drew:=by
 obtain⟨cs,h1,h2,h3⟩:=h;exact⟨cs,h1,El.hp (E:=df) h2 (fun _ h=>h) fun _ _=>rfl,h3.drew⟩
theorem rz{w W:World}{gA gF:Nat}{r:I.NC×Nat×Nat}{e:Ending}{cA cF:Array Value}(k:NA W gA 30 cA∧NA W gF 33 cF∧iO w r e W):NA W.drew gA 30 cA∧NA W.drew gF 33 cF∧iO w r e W.drew:=⟨k.1,k.2.1,k.2.2.drew⟩
theorem tG(text:ByteArray)(w:World)(hs:text.size≤maxLen)(hU:TZ w)(h6:5<w.heap.size):
 Calls Tryz.prog 8 #[.string text] w (iO w (I.parse text.data.toList)):=by
 have HU:=cN hU;have hlen:=eI text;clear hU;go_enter Tryz.func8,Tryz.ntmps8;obtain⟨w1,hw⟩:∃x,x=(w.alloc (.cells #[.int .u8 0,.string ⟨#[]⟩,.string ⟨#[]⟩,.string ⟨#[]⟩,.int .u8 0,.slice none 0 0,.slice none 0 0,.slice none 0 0,.slice none 0 0,.slice none 0 0,.slice none 0 0,.bool false,.string ⟨#[]⟩] 30)).alloc (.cells #[.int .i64 0,.int .i64 0] 33):=⟨_,rfl⟩;go_upto_region 1 with fail
 rw[←hw];have HA1:=cN (show NA w1 w.heap.size 30 #[.int .u8 0,.string ⟨#[]⟩,.string ⟨#[]⟩,.string ⟨#[]⟩,.int .u8 0,.slice none 0 0,.slice none 0 0,.slice none 0 0,.slice none 0 0,.slice none 0 0,.slice none 0 0,.bool false,.string ⟨#[]⟩] by rw[hw];exact(NA.new w _ _).alloc _);have Td:=cN (show NA w1 (w.heap.size+1) 33 #[.int .i64 0,.int .i64 0] by rw[hw];exact NA.oK _ _ _ _);have HB1:=cN (show Below w.heap.size w w1 by rw[hw];exact((ax _ _).alloc (aa _) _).alloc (by simp) _);have hs1:w.heap.size+2≤w1.heap.size:=by rw[hw];simp
 clear hw;obtain⟨gA,hgA⟩:∃x,x=w.heap.size:=⟨_,rfl⟩;obtain⟨gF,PU⟩:∃x,x=gA+1:=⟨_,rfl⟩;rw[←hgA]at HA1 Td hs1⊢;rw[←PU]at Td⊢;have hA0:w.heap.size≤gA:=by omega
 have hAF:gA<gF:=by omega
 have hFs:gF<w1.heap.size:=by omega
 have HgA:Hid (gA=w.heap.size):=hgA;clear hgA PU hs1;go_wp2_with fail
 with_reducible refine(Af text _ hs).mono ?_
 rintro e w2 ⟨v,rfl,ho,hb⟩;have TK:= @Lex.EJ text.data.toList;have UK:=Lex.EZ text.data.toList;have Xh:Hid (I.parse text.data.toList=(if(Lex.told text.data.toList).2.1≠0 then(I.NC.zero,(Lex.told text.data.toList).2.1,(Lex.told text.data.toList).2.2)else if(I.run text.data.toList.length (Lex.told text.data.toList).1).2.e≠0 then(I.NC.zero,(I.run text.data.toList.length (Lex.told text.data.toList).1).2.e,(I.run text.data.toList.length (Lex.told text.data.toList).1).2.c)else if(I.run text.data.toList.length (Lex.told text.data.toList).1).2.d=true then(I.NC.zero,301,0)else((I.run text.data.toList.length (Lex.told text.data.toList).1).1,0,0))):=rfl;obtain⟨q,hq⟩:∃q,q=Lex.told text.data.toList:=⟨_,rfl⟩;rw[←hq]at ho TK UK Xh⊢;obtain⟨ts,er,at_⟩:=q;simp only at ho TK UK Xh⊢;clear hq;have HTo:=cN ho;have HTk:=cN UK;have hs2:=hb.size;have HA2:=cN (HA1.o.below hb (by omega));have Pf:=cN (Td.o.below hb hFs);have HB2:=cN (HB1.o.trans (hb.mono (by have:=HB1.o.size;omega)));obtain⟨A,c,rfl,hc1,hc2⟩:∃A c,v=.slice A ts.length c∧ts.length≤c∧c≤maxLen:=by obtain⟨A,c,e,_,c1,c2⟩:=kJ ho;exact⟨A,c,e,c1,c2⟩
 clear ho UK hb HA1 Td HB1;obtain⟨w3,hw⟩:∃x,x=w2.alloc (.cells #[.int .i64 (er:Int),.int .i64 (at_:Int)] 33):=⟨_,rfl⟩;go_upto_region 2 with fail
 rw[←hw];have XU:=cN (show NA w3 w2.heap.size 33 #[.int .i64 (er:Int),.int .i64 (at_:Int)] by rw[hw];exact NA.new _ _ _);have Ub:=cN (show NA w3 gA 30 #[.int .u8 0,.string ⟨#[]⟩,.string ⟨#[]⟩,.string ⟨#[]⟩,.int .u8 0,.slice none 0 0,.slice none 0 0,.slice none 0 0,.slice none 0 0,.slice none 0 0,.slice none 0 0,.bool false,.string ⟨#[]⟩] by rw[hw];exact HA2.o.alloc _);have SC:=cN (show NA w3 gF 33 #[.int .i64 0,.int .i64 0] by rw[hw];exact Pf.o.alloc _);have HB3:=cN (show Below w.heap.size w w3 by rw[hw];exact HB2.o.alloc HB2.o.size _);have Qx:=cN (show Rd w3 w3.heap.size 3 (A) ts.length (fc ts) by rw[hw];exact((Rd.own HTo.o).below ((ax w2.heap.size w2).alloc (aa _) _) (aa _)).more (by simp));have hs3:w3.heap.size=w2.heap.size+1:=by rw[hw];simp
 have hFs3:gF<w3.heap.size:=by omega
 obtain⟨gV,hgV⟩:∃x,x=w2.heap.size:=⟨_,rfl⟩;rw[←hgV]at XU⊢;have hFV:gF<gV:=by omega
 clear hw hgV HTo HA2 Pf HB2 hs2 hs3;obtain⟨xv0,xv1⟩:=XU.o.y2 0 1;simp at xv0 xv1;by_cases her:er=0
 ·subst her;have hsm:text.size≤4096:=by have:=TK rfl;omega
  have Zb:Hid (I.parse text.data.toList=(if(I.run text.data.toList.length ts).2.e≠0 then(I.NC.zero,(I.run text.data.toList.length ts).2.e,(I.run text.data.toList.length ts).2.c)else if(I.run text.data.toList.length ts).2.d=true then(I.NC.zero,301,0)else((I.run text.data.toList.length ts).1,0,0))):=by show _=_;rw[Xh.o,if_neg (by simp)]
  clear TK Xh;obtain⟨w4,hw⟩:∃x,x=w3.alloc (.cells #[.string text,.slice A ts.length c,.int .i64 0,.int .i64 0,.int .i64 0,.bool false] 72):=⟨_,rfl⟩;have h6':5<w3.heap.size:=by have:=HB3.o.size;omega
  obtain⟨C,hC⟩:∃C:RC,C=⟨text,ts,A,c,w3.heap.size,hsm,by rw[←hlen];exact HTk.o,⟨hc1,by unfold maxLen at hc2;omega⟩,h6'⟩:=⟨_,rfl⟩;have eT:C.text=text:=by rw[hC]
  have eS:C.ts=ts:=by rw[hC]
  have eA:C.A=A:=by rw[hC]
  have eC:C.c=c:=by rw[hC]
  have eG:C.g=w3.heap.size:=by rw[hC]
  have hP4:PS C ⟨ts,0,0,false⟩ w4:=by
   refine⟨⟨0,?_,by rw[eS];rfl,by omega⟩,?_,?_⟩
   ·rw[eG,eT,eS,eA,eC,hw];exact NA.new _ _ _
   ·rw[eG,eS,eA,hw];exact Qx.o.below ((ax w3.heap.size w3).alloc (aa _) _) (aa _)
   ·exact HU.o.dH fun b o hb=>by
     rw[hw]
     exact(HB3.o.alloc HB3.o.size _).cell (p:=⟨b,o,none⟩) (by show b<w.heap.size;omega)
  have WQ:=cN (show NA w4 gA 30 #[.int .u8 0,.string ⟨#[]⟩,.string ⟨#[]⟩,.string ⟨#[]⟩,.int .u8 0,.slice none 0 0,.slice none 0 0,.slice none 0 0,.slice none 0 0,.slice none 0 0,.slice none 0 0,.bool false,.string ⟨#[]⟩] by rw[hw];exact Ub.o.alloc _);have SV:=cN (show NA w4 gF 33 #[.int .i64 0,.int .i64 0] by rw[hw];exact SC.o.alloc _);have Si:=cN (show Below w.heap.size w w4 by rw[hw];exact HB3.o.alloc HB3.o.size _);have hs4:C.g<w4.heap.size:=by rw[eG,hw];simp
  have hAg:gA<C.g:=by rw[eG];omega
  have hFg:gF<C.g:=by rw[eG];omega
  have F4:=cN (Fr.start hs4 hP4.eU);have HT:Hid (text.data.toList.length=C.text.size):=by rw[eT];exact hlen
  go_upto_region 5 with fail
  rw[←hw,←eG];have hwg:w.heap.size<C.g:=by omega
  clear hw eT eS eA eC eG hC hP4 Qx HU Ub SC HB3 XU xv0 xv1 HTk hlen hs;go_wp2_with fail
  with_reducible refine(C1 C _).mono ?_
  rintro e w5 ⟨rfl,Qc⟩;have FT:=cN (F4.o.tmp (.cells #[.string ⟨#[99,114,101,97,116,101]⟩,.func (.func 51) #[.pointer (some ⟨C.g,0,none⟩)] #[],.string ⟨#[100,114,111,112]⟩,.func (.func 52) #[.pointer (some ⟨C.g,0,none⟩)] #[],.string ⟨#[103,114,97,110,116]⟩,.func (.func 53) #[.pointer (some ⟨C.g,0,none⟩)] #[],.string ⟨#[114,101,118,111,107,101]⟩,.func (.func 54) #[.pointer (some ⟨C.g,0,none⟩)] #[],.string ⟨#[105,110,115,101,114,116]⟩,.func (.func 55) #[.pointer (some ⟨C.g,0,none⟩)] #[],.string ⟨#[117,112,100,97,116,101]⟩,.func (.func 56) #[.pointer (some ⟨C.g,0,none⟩)] #[],.string ⟨#[100,101,108,101,116,101]⟩,.func (.func 57) #[.pointer (some ⟨C.g,0,none⟩)] #[],.string ⟨#[115,101,108,101,99,116]⟩,.func (.func 58) #[.pointer (some ⟨C.g,0,none⟩)] #[],.string ⟨#[98,101,103,105,110]⟩,.func (.func 59) #[] #[],.string ⟨#[99,111,109,109,105,116]⟩,.func (.func 60) #[] #[],.string ⟨#[114,111,108,108,98,97,99,107]⟩,.func (.func 61) #[] #[]] 117));have HVr:=cN (Fc C w4 hs4);rw[←Qc]at FT HVr;clear Qc;go_wp2_with fail
  with_reducible refine(Fr.rv FT.o (xH C _ (rl C) (Di C) _ _ FT.o.q HVr.o)).mono ?_
  rintro e w6 ⟨A1,m1,c1,A2,m2,c2,A3,m3,c3,A4,m4,c4,A5,m5,c5,A6,m6,c6,x6,s6,hX,rfl,hF⟩;have X6:=cN hX;have F6:=cN hF;clear hX hF HVr FT;go_upto_region 6 with fail
  have F7:=cN (F6.o.new 30 #[.int .u8 (x6.k.toNat:Int),.string (I.bs x6.nm),.string (I.bs x6.on),.string (I.bs x6.NG),.int .u8 (x6.ev.toNat:Int),.slice A1 m1 c1,.slice A2 m2 c2,.slice A3 m3 c3,.slice A4 m4 c4,.slice A5 m5 c5,.slice A6 m6 c6,.bool x6.opt,.string (I.bs x6.key)]);obtain⟨w7,hw⟩:∃x,x=w6.alloc (.cells #[.int .u8 (x6.k.toNat:Int),.string (I.bs x6.nm),.string (I.bs x6.on),.string (I.bs x6.NG),.int .u8 (x6.ev.toNat:Int),.slice A1 m1 c1,.slice A2 m2 c2,.slice A3 m3 c3,.slice A4 m4 c4,.slice A5 m5 c5,.slice A6 m6 c6,.bool x6.opt,.string (I.bs x6.key)] 30):=⟨_,rfl⟩;obtain⟨g7,hg⟩:∃x,x=w6.heap.size:=⟨_,rfl⟩;rw[←hw,←hg]at F7;rw[←hw,←hg];clear hw hg;go_wp2_with fail
  with_reducible refine(eh ⟨#[59]⟩ [59] rfl F7.o).mono ?_
  rintro e w8 ⟨b,hb,rfl,hF⟩;obtain⟨s8,VW⟩:∃s,s=I.acc [59] s6:=⟨_,rfl⟩;have e8:(if b=true then I.next s6 else s6)=s8:=by rw[VW,←hb];rfl
  rw[e8]at hF;have F8:=cN hF;clear e8;have HS8:=cN VW;clear hF hb VW;have hB8:=F8.o.q.1;obtain⟨k,Zc,hrk,hkl⟩:=hB8;obtain⟨q1,q2⟩:=Zc.y2 1 2;simp at q1 q2;have HRk:=cN hrk;clear Zc hrk;have hcl:=C.ok.len;have hcs:=C.small;obtain⟨s9,Se⟩:∃s,s=(if s8.r=[]then s8 else I.fail C.text.size 300 s8):=⟨_,rfl⟩;have HS9:=cN Se;clear Se;go_wp2_with fail
  go_quiet (fail);go_upto_if 37 with fail
  obtain⟨bb,hbb⟩:∃b,b=decide (k<C.ts.length):=⟨_,rfl⟩;rw[←hbb];have Xe:=cN hbb;clear hbb;go_cut [] (fun wx=>Hid (Fr C.g w4 [(g7,30,#[.int .u8 (x6.k.toNat:Int),.string (I.bs x6.nm),.string (I.bs x6.on),.string (I.bs x6.NG),.int .u8 (x6.ev.toNat:Int),.slice A1 m1 c1,.slice A2 m2 c2,.slice A3 m3 c3,.slice A4 m4 c4,.slice A5 m5 c5,.slice A6 m6 c6,.bool x6.opt,.string (I.bs x6.key)])] [It.el df [.int .u8 (x6.k.toNat:Int),.string (I.bs x6.nm),.string (I.bs x6.on),.string (I.bs x6.NG),.int .u8 (x6.ev.toNat:Int),.slice A1 m1 c1,.slice A2 m2 c2,.slice A3 m3 c3,.slice A4 m4 c4,.slice A5 m5 c5,.slice A6 m6 c6,.bool x6.opt,.string (I.bs x6.key)] x6] (PS C s9) wx));case first=>
   cases bb with
   |true=>
    have hk:k<C.ts.length:=az Xe.o.symm;have HE:Hid (s9=I.fail C.text.size 300 s8):=by show _=_;rw[HS9.o,if_neg];rw[HRk.o,List.drop_eq_nil_iff];omega
    clear hk;go_wp2_with fail
    with_reducible refine(uw 300 300 rfl (F8.o.drew _)).mono ?_
    rintro e w9 ⟨s,hE,rfl,hF⟩;rw[←HE.o]at hE;subst hE;have F9:=cN hF;clear hF;go_wp2_with fail
    go_meet;exact F9.o
   |false=>
    have hk:¬k<C.ts.length:=cf Xe.o.symm;have HE:Hid (s9=s8):=by show _=_;rw[HS9.o,if_pos];rw[HRk.o,List.drop_eq_nil_iff];omega
    clear hk;have hF9:=F8.o;rw[←HE.o]at hF9;have F9:=cN hF9;clear hF9;go_wp2_with fail
    go_meet;exact F9.o.drew _
  case rest=>
   obtain⟨w9,hw⟩:∃x,x=wc:=⟨_,rfl⟩;subst hw;have F9:=cN hcut.o;have Zd:Hid (I.run text.data.toList.length ts=(x6,s9)):=by show _=_;rw[HT.o];have h1:=X6.o;rw[show(rl C).map (fun v=>(v.word,v.rd))=I.mh C.text.size from rfl]at h1;unfold I.run;rw[h1];simp only;rw[HS9.o,HS8.o]
   rw[Zd.o]at Zb;simp only at Zb;clear Xe;clear hcut F8 F7 F6 F4 X6 HS8 HS9 Zd HRk q1 q2;obtain⟨⟨k9,Zc,-,-⟩,-⟩:=F9.o.q;obtain⟨p3,p4,p5⟩:=Zc.y3 3 4 5;simp at p3 p4 p5;clear Zc;have hs9':=F9.o.ch.size;have WU:=cN ((Ch.lL (g:=C.g) Si.o).trans F9.o.ch (by have:=Si.o.size;omega));have UL:=cN (WQ.o.ch F9.o.ch (by omega) (by omega));have UM:=cN (SV.o.ch F9.o.ch (by omega) (by omega));have HB4s:=Si.o.size;clear WQ SV Si;have n1:¬gA=C.g:=by omega
   have n2:¬C.g=gA:=by omega
   have n3:¬gF=C.g:=by omega
   have n4:¬C.g=gF:=by omega
   have n5:¬gA=gF:=by omega
   have n6:¬gF=gA:=by omega
   have hne:gA≠gF:=by omega
   have Vr:w.heap.size≤gF:=by omega
   have hne':gF≠gA:=by omega
   have Wl:=cN (WU.o.toBelow (by omega));obtain⟨ra0,ra1,ra2,ra3,ra4,ra5,ra6,ra7,ra8,ra9,Wm,Wn,Wo⟩:=UL.o.y13 0 1 2 3 4 5 6 7 8 9 10 11 12;simp at ra0 ra1 ra2 ra3 ra4 ra5 ra6 ra7 ra8 ra9 Wm Wn Wo;obtain⟨rb0,rb1,rb2,rb3,rb4,rb5,rb6,rb7,rb8,rb9,rb10,rb11,rb12⟩:=UL.o.Qj 0 1 2 3 4 5 6 7 8 9 10 11 12;obtain⟨rf0,rf1⟩:=UM.o.y2 0 1;simp at rf0 rf1;obtain⟨rg0,rg1⟩:=UM.o.z2 0 1;by_cases he:s9.e=0
   ·have t3:((s9.e:Int) !=0)=false:=by simp[he]
    have HEz:=cN he;clear he;cases hd:s9.d with
    |true=>
     rw[hd]at p5;have Wp:Hid (I.parse text.data.toList=(I.NC.zero,301,0)):=by show _=_;rw[Zb.o,if_neg (by rw[HEz.o];simp),if_pos hd]
     clear hd;have TA:=cN (UL.o.there (n:=13) rfl);have TF:=cN ((UM.o.lq hne' [.int .u8 0,.string ⟨#[]⟩,.string ⟨#[]⟩,.string ⟨#[]⟩,.int .u8 0,.slice none 0 0,.slice none 0 0,.slice none 0 0,.slice none 0 0,.slice none 0 0,.slice none 0 0,.bool false,.string ⟨#[]⟩]).there (n:=2) rfl);go_wp2_with fail
     rw[Wp.o];have kk:=mF (W:=(w9.setCells gA 0 [.int .u8 0,.string ⟨#[]⟩,.string ⟨#[]⟩,.string ⟨#[]⟩,.int .u8 0,.slice none 0 0,.slice none 0 0,.slice none 0 0,.slice none 0 0,.slice none 0 0,.slice none 0 0,.bool false,.string ⟨#[]⟩]).setCells gF 0 [.int .i64 (301:Int),.int .i64 (0:Int)]) (r:=(I.NC.zero,301,0)) (cs:=[.int .u8 0,.string ⟨#[]⟩,.string ⟨#[]⟩,.string ⟨#[]⟩,.int .u8 0,.slice none 0 0,.slice none 0 0,.slice none 0 0,.slice none 0 0,.slice none 0 0,.slice none 0 0,.bool false,.string ⟨#[]⟩]) UL.o UM.o rfl rfl rfl hne hA0 Vr Wl.o (.inl rfl) qM;exact ae (kq rfl _ _ gA gF _ _ _ _ _ _ _ _ rfl rfl kk.1 kk.2.1 dd rfl (by rw[cZ];rfl) jf rfl iD) rfl kk.2.2
    |false=>
     rw[hd]at p5;have Wp:Hid (I.parse text.data.toList=(x6,0,0)):=by show _=_;rw[Zb.o,if_neg (by rw[HEz.o];simp),if_neg (by rw[hd];decide)]
     clear hd;have TA:=cN (UL.o.there (n:=13) rfl);have TF:=cN ((UM.o.lq hne' [.int .u8 (x6.k.toNat:Int),.string (I.bs x6.nm),.string (I.bs x6.on),.string (I.bs x6.NG),.int .u8 (x6.ev.toNat:Int),.slice A1 m1 c1,.slice A2 m2 c2,.slice A3 m3 c3,.slice A4 m4 c4,.slice A5 m5 c5,.slice A6 m6 c6,.bool x6.opt,.string (I.bs x6.key)]).there (n:=2) rfl);have RS:=cN F9.o.cQ.range;have HOn:=cN (show(#[.int .u8 (x6.k.toNat:Int),.string (I.bs x6.nm),.string (I.bs x6.on),.string (I.bs x6.NG),.int .u8 (x6.ev.toNat:Int),.slice A1 m1 c1,.slice A2 m2 c2,.slice A3 m3 c3,.slice A4 m4 c4,.slice A5 m5 c5,.slice A6 m6 c6,.bool x6.opt,.string (I.bs x6.key)]:Array Value).all (·.oneCell')=true by simp[Value.oneCell']);obtain⟨Om,On,Oo,Ox,Oy,Oz,OA,OK,OU,PI,Oc,Od,Oe⟩:=F9.o.cQ.y13 0 1 2 3 4 5 6 7 8 9 10 11 12;simp at Om On Oo Ox Oy Oz OA OK OU PI Oc Od Oe;go_wp2_with fail
     rw[Wp.o];have kk:=mF (W:=(w9.setCells gA 0 [.int .u8 (x6.k.toNat:Int),.string (I.bs x6.nm),.string (I.bs x6.on),.string (I.bs x6.NG),.int .u8 (x6.ev.toNat:Int),.slice A1 m1 c1,.slice A2 m2 c2,.slice A3 m3 c3,.slice A4 m4 c4,.slice A5 m5 c5,.slice A6 m6 c6,.bool x6.opt,.string (I.bs x6.key)]).setCells gF 0 [.int .i64 (0:Int),.int .i64 (0:Int)]) (r:=(x6,0,0)) (cs:=[.int .u8 (x6.k.toNat:Int),.string (I.bs x6.nm),.string (I.bs x6.on),.string (I.bs x6.NG),.int .u8 (x6.ev.toNat:Int),.slice A1 m1 c1,.slice A2 m2 c2,.slice A3 m3 c3,.slice A4 m4 c4,.slice A5 m5 c5,.slice A6 m6 c6,.bool x6.opt,.string (I.bs x6.key)]) UL.o UM.o rfl rfl rfl hne hA0 Vr Wl.o (.inl rfl) (El.hp (E:=df) F9.o.N6 (fun b hb=>⟨by have:=hb.1;have:=HB4s;omega,hb.2.1,by have:=hb.1;omega,by have:=hb.1;omega⟩) fun _ _=>rfl);exact ae (kq rfl _ _ gA gF _ _ _ _ _ _ _ _ rfl rfl kk.1 kk.2.1 dd rfl (by rw[cZ];rfl) jf rfl iD) rfl kk.2.2
   ·have t3:((s9.e:Int) !=0)=true:=by simp[he]
    have HEz:=cN he;have Wp:Hid (I.parse text.data.toList=(I.NC.zero,s9.e,s9.c)):=by show _=_;rw[Zb.o,if_pos he]
    clear he;have TA:=cN (UL.o.there (n:=13) rfl);have TF:=cN (UM.o.there (n:=2) rfl);have TA2:=cN ((UL.o.lq hne [.int .i64 (s9.e:Int),.int .i64 (s9.c:Int)]).there (n:=13) rfl);have TF2:=cN ((UM.o.lq hne' [.int .u8 0,.string ⟨#[]⟩,.string ⟨#[]⟩,.string ⟨#[]⟩,.int .u8 0,.slice none 0 0,.slice none 0 0,.slice none 0 0,.slice none 0 0,.slice none 0 0,.slice none 0 0,.bool false,.string ⟨#[]⟩]).there (n:=2) rfl);have kA:=cN (rz (mF (W:=(w9.setCells gA 0 [.int .u8 0,.string ⟨#[]⟩,.string ⟨#[]⟩,.string ⟨#[]⟩,.int .u8 0,.slice none 0 0,.slice none 0 0,.slice none 0 0,.slice none 0 0,.slice none 0 0,.slice none 0 0,.bool false,.string ⟨#[]⟩]).setCells gF 0 [.int .i64 (s9.e:Int),.int .i64 (s9.c:Int)]) (cs:=[.int .u8 0,.string ⟨#[]⟩,.string ⟨#[]⟩,.string ⟨#[]⟩,.int .u8 0,.slice none 0 0,.slice none 0 0,.slice none 0 0,.slice none 0 0,.slice none 0 0,.slice none 0 0,.bool false,.string ⟨#[]⟩]) (w9:=w9) (r:=(I.NC.zero,s9.e,s9.c)) UL.o UM.o rfl rfl rfl hne hA0 Vr Wl.o (.inl rfl) qM));go_wp2_with fail
    go_region;all_goals
     go_wp2_with fail
     rw[Wp.o]
     have kk:=kA.o
     exact ae (kq rfl _ _ gA gF _ _ _ _ _ _ _ _ rfl rfl kk.1 kk.2.1 dd rfl (by rw[cZ];rfl) jf rfl iD) rfl kk.2.2
 ·have t3:((er:Int) !=0)=true:=by simp[her]
  have Wp:Hid (I.parse text.data.toList=(I.NC.zero,er,at_)):=by show _=_;rw[Xh.o,if_pos her]
  have hw3:w3.heap.size=w3.heap.size:=rfl;clear her TK Xh HTk Qx HU;obtain⟨ra0,ra1,ra2,ra3,ra4,ra5,ra6,ra7,ra8,ra9,Wm,Wn,Wo⟩:=Ub.o.y13 0 1 2 3 4 5 6 7 8 9 10 11 12;simp at ra0 ra1 ra2 ra3 ra4 ra5 ra6 ra7 ra8 ra9 Wm Wn Wo;obtain⟨rb0,rb1,rb2,rb3,rb4,rb5,rb6,rb7,rb8,rb9,rb10,rb11,rb12⟩:=Ub.o.Qj 0 1 2 3 4 5 6 7 8 9 10 11 12;obtain⟨rf0,rf1⟩:=SC.o.y2 0 1;simp at rf0 rf1;obtain⟨rg0,rg1⟩:=SC.o.z2 0 1;have n1:¬gA=gV:=by omega
  have n2:¬gV=gA:=by omega
  have n3:¬gF=gV:=by omega
  have n4:¬gV=gF:=by omega
  have n5:¬gA=gF:=by omega
  have n6:¬gF=gA:=by omega
  have hne:gA≠gF:=by omega
  have Vr:w.heap.size≤gF:=by omega
  clear hw3;have kA:=cN (rz (mF (W:=(w3.setCells gA 0 [.int .u8 0,.string ⟨#[]⟩,.string ⟨#[]⟩,.string ⟨#[]⟩,.int .u8 0,.slice none 0 0,.slice none 0 0,.slice none 0 0,.slice none 0 0,.slice none 0 0,.slice none 0 0,.bool false,.string ⟨#[]⟩]).setCells gF 0 [.int .i64 (er:Int),.int .i64 (at_:Int)]) (cs:=[.int .u8 0,.string ⟨#[]⟩,.string ⟨#[]⟩,.string ⟨#[]⟩,.int .u8 0,.slice none 0 0,.slice none 0 0,.slice none 0 0,.slice none 0 0,.slice none 0 0,.slice none 0 0,.bool false,.string ⟨#[]⟩]) (w9:=w3) (r:=(I.NC.zero,er,at_)) Ub.o SC.o rfl rfl rfl hne hA0 Vr HB3.o (.inl rfl) qM));go_wp2_with fail
  go_region;all_goals
   go_wp2_with fail
   rw[Wp.o]
   have kk:=kA.o
   exact ae (kq rfl _ _ gA gF _ _ _ _ _ _ _ _ rfl rfl kk.1 kk.2.1 dd rfl (by rw[cZ];rfl) jf rfl iD) rfl kk.2.2
end
section
set_option maxRecDepth 100000
namespace I
open Classical in
noncomputable def NM (s:NC):Bs×Nat:=
 if(dO s Rk).b=true then([],330)
 else if(parse (di (dO s Rk).p)).2.1≠0∨s≠(parse (di (dO s Rk).p)).1 then([],330)
 else(di (dO s Rk).p,0)
theorem Ed:Bd 4500 Rk:=⟨aa _,fun _=>by decide,by decide,rfl⟩
theorem join_eq:∀l:List Bs,Go.Lib.join l [32]=di l:=by
 intro l;induction l with
 |nil=>rfl
 |cons s l ih=>
  cases l with
  |nil=>exact Go.Lib.join_one _ _
  |cons t r=>
   rw[di,←ih,Go.Lib.join_cons,Go.Lib.join_cons];simp[Go.Lib.joinTail];intro h;cases h
theorem sX:∀l:List Bs,(di l).length≤(l.map fun s=>s.length+1).sum:=by
 intro l;induction l with
 |nil=>exact aa _
 |cons s l ih=>
  cases l with
  |nil=>simp[di]
  |cons t r=>
   show(s++32::di (t::r)).length≤_;rw[ah,ab,List.map_cons,bp];omega
theorem fz{c:Prop}[Decidable c]{a b:Wr}(ha:∃N,Bd N a)(hb:∃N,Bd N b):∃N,Bd N (if c then a else b):=by
 by_cases h:c
 ·rw[if_pos h];exact ha
 ·rw[if_neg h];exact hb
theorem Bd.sv{N:Nat}{st:Wr}(h:Bd N st)(s:NC):∃N,Bd N (sv s st):=by
 unfold I.sv;split
 ·exact fz ⟨_,h⟩ ⟨_,h.row _⟩
 ·exact⟨_,h.dx _⟩
theorem Bd.eX{st:Wr}(h:Bd 4500 st)(s:NC):∃N,Bd N (eX s st):=by
 unfold I.eX;exact fz ⟨_,(Bd.each (M:=4300) (fun x _ _ hs=>(hs.column x).mono (by decide)) ((h.put _).put _)).put _⟩
  (fz ⟨_,((h.put _).put _).ff _⟩
  (fz (Bd.sv (((h.put _).put _).put _) s)
  (fz ⟨_,(((h.put _).put _).first _ _).put _⟩
  ⟨_,((h.put _).put _).option _ _⟩)))
theorem Bd.dO{st:Wr}(h:Bd 4500 st)(s:NC):∃N,Bd N (dO s st):=by
 unfold I.dO;exact fz (h.eX s) (fz ⟨_,h.put _⟩ (fz ⟨_,h.put _⟩ (fz ⟨_,h.put _⟩ (fz ⟨_,h.put _⟩ (fz ⟨_,h.put _⟩ (fz ⟨_,h.put _⟩
  (fz ⟨_,(((h.put _).fi _).put _).option _ _⟩ (fz ⟨_,((h.put _).fi _).put _⟩
  (fz ⟨_,Bd.each (M:=4300) (fun x _ _ hs=>(hs.row x).mono (by decide)) (h.put _)⟩
  (fz ⟨_,(Bd.each (M:=4300) (fun x _ _ hs=>(hs.set x).mono (by decide)) (h.put _)).first _ _⟩
  (fz ⟨_,(h.put _).first _ _⟩ (fz ⟨_,h.ff _⟩ (fz ⟨_,h.put _⟩ (fz ⟨_,h.put _⟩ (fz ⟨_,h.put _⟩ ⟨_,h.dx _⟩)))))))))))))))
end I
theorem vJ{w w':World}{m:Int}(h0:Env w m)(h:∀b,b<w.heap.size→w'.heap[b]?=w.heap[b]?):Env w' m:=by
 have hs:w.heap.size≤w'.heap.size:=by
  refine Nat.le_of_not_lt fun hl=>?_
  have h1:=h w'.heap.size hl;rw[Array.getElem?_eq_none (aa _),Array.getElem?_eq_getElem hl]at h1;cases h1
 have hb:Below w.heap.size w {w' with os:=w.os,tape:=w.tape,output:=w.output}:=⟨rfl,rfl,rfl,hs,h⟩;have h2:=h0.below hb (aa _);exact⟨h2.num,h2.pow⟩
theorem xh{w w':World}(h0:TZ w)(h6:5<w.heap.size)(h:∀b,b<w.heap.size→w'.heap[b]?=w.heap[b]?):TZ w':=by
 obtain⟨m,te,pe,tf,pf,h1,h2,h3⟩:=h0;exact⟨m,te,pe,tf,pf,(World.cell?_of_block (a:=⟨0,0,none⟩) (h 0 (by omega))).trans h1,(World.cell?_of_block (a:=⟨4,0,none⟩) (h 4 (by omega))).trans h2,(World.cell?_of_block (a:=⟨5,0,none⟩) (h 5 h6)).trans h3⟩
theorem Hk{w:World}{P:Nat→Prop}{v:Value}{l:List I.Bs}(hr:Rr Ql w P v l)(hP:∀k,P k→k<w.heap.size)(hl:(l.map fun s=>s.length+1).sum≤100000)(hn:l.length≤100000):
 Calls Tryz.prog 21 #[v,.string ⟨#[32]⟩] w fun e w'=>e=.returned (.string (I.bs (I.di l)))∧Below w.heap.size w w':=by
 obtain⟨A,c,rfl,h1,h2,h3⟩:=hr;by_cases h0:0<l.length
 ·obtain⟨bk,off,rfl,hb,hc⟩:=h3 h0;have hm:(l.map I.bs).length=l.length:=cj _;have he:((l.map I.bs).map fun x=>x.data.toList)=l:=by rw[List.map_map];exact(cn fun x _=>by simp[I.bs]).trans (List.map_id l)
  have hj:Go.Lib.join ((l.map I.bs).map fun x=>x.data.toList) ((⟨#[32]⟩:ByteArray).data.toList)=I.di l:=by rw[he];exact I.join_eq l
  have cc:=Tryz.strings_Join bk off c (l.map I.bs) ⟨#[32]⟩ w (fun j x hx=>by
   rw[bf]at hx
   cases hq:l[j]? with
   |none=>rw[hq]at hx;cases hx
   |some y=>
    rw[hq]at hx
    injection hx with hx
    subst hx
    obtain⟨cs,hcs,hcell⟩:=hc j y hq
    have hcs:cs=[.string (I.bs y)]:=hcs
    subst hcs
    have:=hcell 0 _ rfl
    rw[bh,show j*Ql.k=j from bZ j]at this
    exact this) (hP bk hb) (by rw[hm];omega) (by rw[hm];exact h1) (by rw[hj];have:=I.sX l;omega)
  rw[hm,hj]at cc;exact cc
 ·obtain rfl:l=[]:=aC (by omega);exact(Tryz.strings_Join_none A c ⟨#[32]⟩ w).mono fun _ _ ⟨h1,h2⟩=>⟨h1,by rw[h2];exact ax _ _⟩
theorem dU{P:Program}{ops:Array Oper}{rest:List Oper}{o:Oper}{a:Act}{w:World}{Q:Exit→Act→World→Prop}(hw:Region.wanted o (yielded ops a.tmps)=true)(ty:TypeId)(x:Operand)(ho:o.op=.load ty x)(b of:Nat)(hx:a.eval x=.pointer (some ⟨b,of,none⟩))(cs:List Value)(d:TypeDesc)(hc:w.rangeAt b of cs)(hu:P.underlying ty=some d)(hd:d.isRow=true)(hi:(P.info? ty).map (·.size)=some cs.length)(h:wpList P ops Q rest (a.put o.dst (.agg cs.toArray)) w):wpList P ops Q (o::rest) a w:=
 wpList_step fun K hK=>by
  rw[if_pos hw]
  exact wp_load_mid ty x ho b of hx cs d hc hu hd hi (hK _ _ h)
theorem FQ{w:World}{g:Nat}(h:NA w g 94 #[.slice none 0 0,.int .i64 0,.bool false]):WS g w (.slice none 0 0) I.Rk:=⟨h,Ro.nil _ _ _,ao _⟩
open Classical in
theorem DK(cs:List Value)(s:I.NC)(w:World)(hx:df.R w (fun b=>b<w.heap.size) cs s)(hsm:Py s)(hE:sI w)(hU:TZ w)(h6:5<w.heap.size):
 Calls Tryz.prog 13 #[.agg cs.toArray] w fun e w'=>e=.returned (.tuple #[.string (I.bs (I.NM s).1),.int .i64 ((I.NM s).2:Int)])∧Below w.heap.size w w':=by
 have HX:=cN hx;obtain⟨x1,x2,x3,x4,x5,x6,rfl,r1,r2,r3,r4,r5,r6,_,_,_,_⟩:=hx;obtain⟨A1,c1,rfl,_,_⟩:=r1.form;obtain⟨A2,c2,rfl,_,_⟩:=r2.form;obtain⟨A3,c3,rfl,_,_⟩:=r3.form;obtain⟨A4,c4,rfl,_,_⟩:=r4.form;obtain⟨A5,c5,rfl,_,_⟩:=r5.form;obtain⟨A6,c6,rfl,_,_⟩:=r6.form;have HM:=cN hsm;have HE:=cN hE;have HU:=cN hU;clear r1 r2 r3 r4 r5 r6 hsm hE hU;obtain⟨w1,hw1⟩:∃W,W=(w.alloc (.cells #[.int .u8 (s.k.toNat:Int),.string (I.bs s.nm),.string (I.bs s.on),.string (I.bs s.NG),.int .u8 (s.ev.toNat:Int),.slice A1 s.NH.length c1,.slice A2 s.q.length c2,.slice A3 s.vals.length c3,.slice A4 s.dD.length c4,.slice A5 s.wh.length c5,.slice A6 s.pv.length c6,.bool s.opt,.string (I.bs s.key)] 30)).alloc (.cells #[.slice none 0 0,.int .i64 0,.bool false] 94):=⟨_,rfl⟩;have hB1:Below w.heap.size w w1:=by rw[hw1];exact((ax _ _).alloc (aa _) _).alloc (by simp) _
 have HB0:=cN (show NA w1 w.heap.size 30 #[.int .u8 (s.k.toNat:Int),.string (I.bs s.nm),.string (I.bs s.on),.string (I.bs s.NG),.int .u8 (s.ev.toNat:Int),.slice A1 s.NH.length c1,.slice A2 s.q.length c2,.slice A3 s.vals.length c3,.slice A4 s.dD.length c4,.slice A5 s.wh.length c5,.slice A6 s.pv.length c6,.bool s.opt,.string (I.bs s.key)] by rw[hw1];exact(NA.new w _ _).alloc _);have HBg:=cN (show NA w1 (w.heap.size+1) 94 #[.slice none 0 0,.int .i64 0,.bool false] by
  rw[hw1]
  have:=NA.new (w.alloc (.cells #[.int .u8 (s.k.toNat:Int),.string (I.bs s.nm),.string (I.bs s.on),.string (I.bs s.NG),.int .u8 (s.ev.toNat:Int),.slice A1 s.NH.length c1,.slice A2 s.q.length c2,.slice A3 s.vals.length c3,.slice A4 s.dD.length c4,.slice A5 s.wh.length c5,.slice A6 s.pv.length c6,.bool s.opt,.string (I.bs s.key)] 30)) 94 #[.slice none 0 0,.int .i64 0,.bool false]
  rw[dc]at this
  exact this)
 obtain⟨g,hg⟩:∃g,g=w.heap.size+1:=⟨_,rfl⟩;have hg0:w.heap.size<g:=by omega
 rw[←hg]at HBg;have F1:=cN (Fw.start (FQ HBg.o));have HSb:=cN (show Sb g sI w1 from fun w' hk=>by
  obtain⟨m,hm⟩:=HE.o
  exact⟨m,vJ hm fun b hb=>(hk b (by omega)).trans (hB1.block b hb)⟩)
 have HEl:=cN (show df.R w1 (fun b=>b<g) [.int .u8 (s.k.toNat:Int),.string (I.bs s.nm),.string (I.bs s.on),.string (I.bs s.NG),.int .u8 (s.ev.toNat:Int),.slice A1 s.NH.length c1,.slice A2 s.q.length c2,.slice A3 s.vals.length c3,.slice A4 s.dD.length c4,.slice A5 s.wh.length c5,.slice A6 s.pv.length c6,.bool s.opt,.string (I.bs s.key)] s from El.hp (E:=df) HX.o (fun b (hb:b<w.heap.size)=>(by omega:b<g)) fun b hb=>hB1.block b hb);have IX:=cN (show(Tryz.prog.info? 30).map (·.size)=some ([.int .u8 (s.k.toNat:Int),.string (I.bs s.nm),.string (I.bs s.on),.string (I.bs s.NG),.int .u8 (s.ev.toNat:Int),.slice A1 s.NH.length c1,.slice A2 s.q.length c2,.slice A3 s.vals.length c3,.slice A4 s.dD.length c4,.slice A5 s.wh.length c5,.slice A6 s.pv.length c6,.bool s.opt,.string (I.bs s.key)]:List Value).length from by kernel_rfl);have HB1:=cN hB1;have hrg:=HB0.o.range;have RX:=cN hrg;clear hB1 hrg;go_enter Tryz.func13,Tryz.ntmps13;go_upto_region 2 with fail
 rw[←hw1,←hg];clear hw1 hg;go_wp2_with (refine wpList_load_mid rfl 30 (.tmp 1) rfl w.heap.size 0 rfl [.int .u8 (s.k.toNat:Int),.string (I.bs s.nm),.string (I.bs s.on),.string (I.bs s.NG),.int .u8 (s.ev.toNat:Int),.slice A1 s.NH.length c1,.slice A2 s.q.length c2,.slice A3 s.vals.length c3,.slice A4 s.dD.length c4,.slice A5 s.wh.length c5,.slice A6 s.pv.length c6,.bool s.opt,.string (I.bs s.key)] _ RX.o fP rfl IX.o ?_)
 with_reducible refine(F1.o.sub (EN g [.int .u8 (s.k.toNat:Int),.string (I.bs s.nm),.string (I.bs s.on),.string (I.bs s.NG),.int .u8 (s.ev.toNat:Int),.slice A1 s.NH.length c1,.slice A2 s.q.length c2,.slice A3 s.vals.length c3,.slice A4 s.dD.length c4,.slice A5 s.wh.length c5,.slice A6 s.pv.length c6,.bool s.opt,.string (I.bs s.key)] s _ _ _ ⟨F1.o.ws,I.Ed,HSb.o⟩ HEl.o HM.o)).mono ?_
 rintro e w2 ⟨v2,rfl,hF⟩;obtain⟨S,hS⟩:∃S,S=I.dO s I.Rk:=⟨_,rfl⟩;rw[←hS]at hF;have F2:=cN hF;have HS:=cN hS;have Wl:=cN (show Below w.heap.size w w2 from⟨F2.o.ch.os.trans HB1.o.os,F2.o.ch.tape.trans HB1.o.tape,F2.o.ch.output.trans HB1.o.output,aw HB1.o.size F2.o.ch.size,fun b hb=>(F2.o.low (by omega)).trans (HB1.o.block b hb)⟩);clear hF hS F1 HBg;obtain⟨cb,cv⟩:=F2.o.ws.blk.y2 2 0;simp at cb cv;cases hb:S.b with
 |true=>
  rw[hb]at cb;have HP:Hid (I.NM s=([],330)):=by show _=_;unfold I.NM;rw[←HS.o,if_pos hb]
  clear hb;go_wp2_with fail
  go_ret2;rw[HP.o];exact⟨rfl,Wl.o⟩
 |false=>
  rw[hb]at cb;have HNb:=cN hb;have RE:Hid (S.p.length≤4097∧(S.p.map fun s=>s.length+1).sum≤4097):=by obtain⟨N,hN⟩:=I.Bd.dO I.Ed s;rw[←HS.o]at hN;have h1:=hN.nb hb;exact⟨aw hN.pn h1,by rw[←hN.sm];exact h1⟩
  clear hb;obtain⟨A,c,rfl,_,_⟩:=F2.o.ws.own.form;have HR:=cN F2.o.ws.own.rr;go_wp2_with fail
  with_reducible refine(Hk HR.o (fun k hk=>hk.2) (by have:=RE.o.2;omega) (by have:=RE.o.1;omega)).mono ?_
  rintro e w3 ⟨rfl,hb3⟩;obtain⟨t,ht⟩:∃t,t=I.di S.p:=⟨_,rfl⟩;rw[←ht];have HT:=cN ht;have htl:t.length≤4097:=by rw[ht];have:=I.sX S.p;have:=RE.o.2;omega
  have HB3:=cN (Wl.o.trans (hb3.mono Wl.o.size));have Wq:=cN (show NA w3 w.heap.size 30 #[.int .u8 (s.k.toNat:Int),.string (I.bs s.nm),.string (I.bs s.on),.string (I.bs s.NG),.int .u8 (s.ev.toNat:Int),.slice A1 s.NH.length c1,.slice A2 s.q.length c2,.slice A3 s.vals.length c3,.slice A4 s.dD.length c4,.slice A5 s.wh.length c5,.slice A6 s.pv.length c6,.bool s.opt,.string (I.bs s.key)]from((hb3.block _ (by have:=F2.o.ch.size;have:=F2.o.lt;omega)).trans (F2.o.low hg0)).trans HB0.o);have hrg3:=Wq.o.range;have Yl:=cN hrg3;clear hrg3;clear ht hb3;go_wp2_with fail
  have hu:=xh HU.o h6 (fun b hb=>HB3.o.block b hb);with_reducible refine(tG (I.bs t) w3 (by rw[lN];unfold maxLen;omega) hu (by have:=HB3.o.size;omega)).mono ?_
  rintro e w4 ⟨Rc,rfl,Xi,hb4⟩;rw[dA]at Xi⊢;obtain⟨r,hr⟩:∃r,r=I.parse t:=⟨_,rfl⟩;rw[←hr]at Xi⊢;obtain⟨u,ec,at_⟩:=r;have Su:=cN hr;have Ze:=cN (Wq.o.below hb4 Wq.o.lt);have Si:=cN (HB3.o.trans (hb4.mono HB3.o.size));have Zf:=df.len Xi;have HL6:=cN Zf;have IX6:=cN (show(Tryz.prog.info? 30).map (·.size)=some Rc.length from by rw[Zf];kernel_rfl);have OX6:=cN (all_oneCell_toArray (df.one Xi));have Ob:=cN (show df.R w4 (fun b=>b<w4.heap.size) Rc u from El.hp (E:=df) Xi (fun b hb=>hb.2) fun _ _=>rfl);obtain⟨w5,Qc⟩:∃W,W=(((w4.alloc (.cells #[.int .u8 0,.string ⟨#[]⟩,.string ⟨#[]⟩,.string ⟨#[]⟩,.int .u8 0,.slice none 0 0,.slice none 0 0,.slice none 0 0,.slice none 0 0,.slice none 0 0,.slice none 0 0,.bool false,.string ⟨#[]⟩] 30)).alloc (.cells #[.int .i64 0,.int .i64 0] 33)).setCells w4.heap.size 0 Rc):=⟨_,rfl⟩;have HBs:=cN (show NA w5 w4.heap.size 30 Rc.toArray by
   rw[Qc]
   exact((NA.new w4 30 #[.int .u8 0,.string ⟨#[]⟩,.string ⟨#[]⟩,.string ⟨#[]⟩,.int .u8 0,.slice none 0 0,.slice none 0 0,.slice none 0 0,.slice none 0 0,.slice none 0 0,.slice none 0 0,.bool false,.string ⟨#[]⟩]).alloc _).lB Rc (by rw[Zf];rfl))
  have HBf:=cN (show NA w5 (w4.heap.size+1) 33 #[.int .i64 0,.int .i64 0] by
   rw[Qc]
   have:=NA.new (w4.alloc (.cells #[.int .u8 0,.string ⟨#[]⟩,.string ⟨#[]⟩,.string ⟨#[]⟩,.int .u8 0,.slice none 0 0,.slice none 0 0,.slice none 0 0,.slice none 0 0,.slice none 0 0,.slice none 0 0,.bool false,.string ⟨#[]⟩] 30)) 33 #[.int .i64 0,.int .i64 0]
   rw[dc]at this
   exact this.lq (by omega) Rc)
  have TX6:=cN ((((NA.new w4 30 #[.int .u8 0,.string ⟨#[]⟩,.string ⟨#[]⟩,.string ⟨#[]⟩,.int .u8 0,.slice none 0 0,.slice none 0 0,.slice none 0 0,.slice none 0 0,.slice none 0 0,.slice none 0 0,.bool false,.string ⟨#[]⟩]).alloc (.cells #[.int .i64 0,.int .i64 0] 33))).there (n:=Rc.toArray.size) (by simp[Zf];rfl));clear Xi hb4 hr Zf F2 RX cb cv;obtain⟨f0,f1⟩:=HBf.o.y2 0 1;obtain⟨z0,z1⟩:=HBf.o.z2 0 1;simp at f0 f1;rw[Qc]at f0 f1 z0 z1;go_upto_region 7 with(first|(refine wpList_store_mid rfl 30 (.tmp 6) (.tmp 25) rfl w4.heap.size 0 Rc.toArray rfl rfl TX6.o (by rw[aQ];exact IX6.o) OX6.o ?_))
  rw[←Qc];clear f0 f1 z0 z1;obtain⟨w6,Qd⟩:∃W,W=(w5.setCell ⟨w4.heap.size+1,0,none⟩ (.int .i64 (ec:Int))).setCell ⟨w4.heap.size+1,1,none⟩ (.int .i64 (at_:Int)):=⟨_,rfl⟩;have hf6:NA w6 (w4.heap.size+1) 33 #[.int .i64 (ec:Int),.int .i64 (at_:Int)]:=by rw[Qd];exact(HBf.o.put 0 _).put 1 _
  have hs6:NA w6 w4.heap.size 30 Rc.toArray:=by rw[Qd];exact(HBs.o.far (by simp) _).far (by simp) _
  have hb6:Below w4.heap.size w4 w6:=by rw[Qd,Qc];exact(((Ch.dD Rc 0 (Ch.lL (g:=w4.heap.size) (((ax w4.heap.size w4).alloc (aa _) (.cells #[.int .u8 0,.string ⟨#[]⟩,.string ⟨#[]⟩,.string ⟨#[]⟩,.int .u8 0,.slice none 0 0,.slice none 0 0,.slice none 0 0,.slice none 0 0,.slice none 0 0,.slice none 0 0,.bool false,.string ⟨#[]⟩] 30)).alloc (by simp) (.cells #[.int .i64 0,.int .i64 0] 33))) (.inr (aa _))).set (p:=⟨w4.heap.size+1,0,none⟩) (.inr (Nat.le_succ _)) _).set (p:=⟨w4.heap.size+1,1,none⟩) (.inr (Nat.le_succ _)) _).toBelow (g:=w4.heap.size) (aa _)
  rw[←Qd];have Us:=cN (Si.o.trans (hb6.mono Si.o.size));have HB06:=cN (Ze.o.below hb6 Ze.o.lt);have hr0:=HB06.o.range;have hr6:=hs6.range;rw[bV]at hr6;have RX0:=cN hr0;have RX6:=cN hr6;have RR:=cN (show df.R w6 (fun b=>b<w6.heap.size) [.int .u8 (s.k.toNat:Int),.string (I.bs s.nm),.string (I.bs s.on),.string (I.bs s.NG),.int .u8 (s.ev.toNat:Int),.slice A1 s.NH.length c1,.slice A2 s.q.length c2,.slice A3 s.vals.length c3,.slice A4 s.dD.length c4,.slice A5 s.wh.length c5,.slice A6 s.pv.length c6,.bool s.opt,.string (I.bs s.key)] s from El.hp (E:=df) HX.o (fun b (hb:b<w.heap.size)=>aB hb Us.o.size) fun b hb=>Us.o.block b hb);have HY6:=cN (show df.R w6 (fun b=>b<w6.heap.size) Rc u from El.hp (E:=df) Ob.o (fun b (hb:b<w4.heap.size)=>aB hb hb6.size) fun b hb=>hb6.block b hb);have f0:=hf6.cell 0;simp at f0;clear Qd Qc hr0 hr6 hb6 hf6 hs6 HBs HBf TX6;have HPt:Hid (I.NM s=if ec≠0∨s≠u then([],330)else(t,0)):=by show _=_;unfold I.NM;rw[←HS.o,if_neg (by rw[HNb.o];decide),←HT.o,←Su.o]
  by_cases he:ec=0
  ·subst he;have cc:=xR w6 [.int .u8 (s.k.toNat:Int),.string (I.bs s.nm),.string (I.bs s.on),.string (I.bs s.NG),.int .u8 (s.ev.toNat:Int),.slice A1 s.NH.length c1,.slice A2 s.q.length c2,.slice A3 s.vals.length c3,.slice A4 s.dD.length c4,.slice A5 s.wh.length c5,.slice A6 s.pv.length c6,.bool s.opt,.string (I.bs s.key)] Rc s u trivial RR.o HY6.o;unfold iK at cc;have CC:=cN cc;clear cc;go_wp2_with (first|refine dU rfl 30 (.tmp 1) rfl w.heap.size 0 rfl [.int .u8 (s.k.toNat:Int),.string (I.bs s.nm),.string (I.bs s.on),.string (I.bs s.NG),.int .u8 (s.ev.toNat:Int),.slice A1 s.NH.length c1,.slice A2 s.q.length c2,.slice A3 s.vals.length c3,.slice A4 s.dD.length c4,.slice A5 s.wh.length c5,.slice A6 s.pv.length c6,.bool s.opt,.string (I.bs s.key)] _ RX0.o fP rfl IX.o ?_|refine dU rfl 30 (.tmp 6) rfl w4.heap.size 0 rfl Rc _ RX6.o fP rfl IX6.o ?_)
   with_reducible refine CC.o.mono ?_
   rintro e w7 ⟨rfl,S9⟩;have U3:=cN (Us.o.trans (S9.mono Us.o.size));clear S9;by_cases hq:s=u
   ·have HQ:Hid (I.NM s=(t,0)):=by show _=_;rw[HPt.o,if_neg (by intro h;rcases h with h|h;exact h rfl;exact h hq)]
    have tq:Sg s u=true:=eu hq;rw[tq];clear hq;go_wp2_with fail
    go_ret2;rw[HQ.o];exact⟨rfl,U3.o⟩
   ·have HQ:Hid (I.NM s=([],330)):=by show _=_;rw[HPt.o,if_pos (.inr hq)]
    have tq:Sg s u=false:=gb hq;rw[tq];clear hq;go_wp2_with fail
    go_ret2;rw[HQ.o];exact⟨rfl,U3.o⟩
  ·have t1:((ec:Int) !=0)=true:=bne_iff_ne.2 (by omega);have HQ:Hid (I.NM s=([],330)):=by show _=_;rw[HPt.o,if_pos (.inl he)]
   clear he;go_wp2_with fail
   go_ret2;rw[HQ.o];exact⟨rfl,Us.o⟩
end
end Go.Proofs.YtnicfobpclehkaaGreatDoor
