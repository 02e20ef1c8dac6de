import Derived.Test.YtnicfobpclehkaaGreatDoorP23
set_option maxHeartbeats 3200000
set_option linter.unusedVariables false
set_option linter.unusedSimpArgs false
namespace Go.Proofs.YtnicfobpclehkaaGreatDoor
open Go.RowKit
section
set_option maxRecDepth 100000
theorem oH:Tryz.prog.underlying 130=some (.struct (Tryz.prog.fieldsOf 130)):=by kernel_rfl
theorem mV:(Tryz.prog.info? 130).map (·.size)=some 9:=by kernel_rfl
theorem kz:Tryz.prog.underlying 134=some (.struct (Tryz.prog.fieldsOf 134)):=by kernel_rfl
theorem ka:(Tryz.prog.info? 134).map (·.size)=some 9:=by kernel_rfl
theorem vL:Tryz.prog.underlying 85=some (.struct (Tryz.prog.fieldsOf 85)):=by kernel_rfl
theorem uf:(Tryz.prog.info? 85).map (·.size)=some 9:=by kernel_rfl
theorem Ep(C:RC)(st:I.St)(w:World)(h:PS C st w):
 Calls Tryz.prog 208 #[.pointer (some ⟨C.g,0,none⟩)] w (EPost fL C w (I.item C.text.size st)):=by
 have F0:=cN (Fr.start h.lt h.eU);clear h;go_enter Tryz.func208,Tryz.ntmps208;have Q6:=cN (F0.o.new 130 #[.int .u8 0,.int .u8 0,.int .i64 0,.string ⟨#[]⟩,.string ⟨#[]⟩,.string ⟨#[]⟩,.int .i64 0,.slice none 0 0,.string ⟨#[]⟩]);go_wp2_with fail
 with_reducible refine(Fr.xO Q6.o (iq C _ _ Q6.o.q)).mono ?_
 rintro e w1 ⟨h1,A1,m1,c1,x1,s1,hX1,rfl,hF⟩;have X1:=cN hX1;have F1:=cN hF;clear hF hX1;go_upto_region 2 with fail
 have F2:=cN (F1.o.new 130 #[.int .u8 (h1.o.toNat:Int),.int .u8 (h1.v.k.toNat:Int),.int .i64 h1.v.n,.string h1.v.s,.string h1.nm,.string h1.of,.int .i64 h1.n,.slice A1 m1 c1,.string ⟨#[]⟩]);obtain⟨w2,hw⟩:∃x,x=w1.alloc (.cells #[.int .u8 (h1.o.toNat:Int),.int .u8 (h1.v.k.toNat:Int),.int .i64 h1.v.n,.string h1.v.s,.string h1.nm,.string h1.of,.int .i64 h1.n,.slice A1 m1 c1,.string ⟨#[]⟩] 130):=⟨_,rfl⟩;obtain⟨g2,hg⟩:∃x,x=w1.heap.size:=⟨_,rfl⟩;rw[←hw,←hg]at F2;rw[←hw,←hg];clear hw hg;go_wp2_with fail
 with_reducible refine(eh ⟨#[97,115]⟩ [97,115] rfl F2.o).mono ?_
 rintro e w3 ⟨b,hb,rfl,hF⟩;cases b with
 |true=>
  have PX:=cN hb;have F3:Hid (Fr C.g w _ _ (PS C (I.next s1)) w3):=hF;clear hF hb;go_wp2_with fail
  with_reducible refine(fk F3.o).mono ?_
  rintro e w4 ⟨n2,s2,Qn,hZ2,rfl,hF⟩;have N2:=cN Qn;have Z2:=cN hZ2;have F4:=cN hF;clear hF Qn hZ2;have SI:=F4.o.cQ.cell 8;simp at SI;have UE:=F4.o.cQ.frozen 8;go_upto_region 4 with fail
  have F5:=cN (F4.o.ew 8 (.string (I.bs n2)) (cs':=#[.int .u8 (h1.o.toNat:Int),.int .u8 (h1.v.k.toNat:Int),.int .i64 h1.v.n,.string h1.v.s,.string h1.nm,.string h1.of,.int .i64 h1.n,.slice A1 m1 c1,.string (I.bs n2)]) rfl);obtain⟨w5,hw⟩:∃x,x=w4.setCell ⟨g2,8,none⟩ (.string (I.bs n2)):=⟨_,rfl⟩;rw[←hw]at F5;rw[←hw];clear hw SI UE;obtain⟨Om,On,Oo,Ox,Oy,Oz,OA,OK,OU⟩:=F5.o.cQ.y9 0 1 2 3 4 5 6 7 8;simp at Om On Oo Ox Oy Oz OA OK OU;obtain⟨NU,NV,NW,NY,NZ,N0,N3,Og,Ot⟩:=F5.o.cR.y9 0 1 2 3 4 5 6 7 8;simp at NU NV NW NY NZ N0 N3 Og Ot;obtain⟨O6,Pa,Pb,Pm,Pn,Pp,Pq,PQ,P9⟩:=F5.o.cR.z9 0 1 2 3 4 5 6 7 8;go_wp2_with fail
  have FZ:=cN (F5.o.fA (Cm (Ch.refl _ _ _) (.inl rfl) _ _ _ _ _ _ _ _ _) (tc F5.o.cR (.int .u8 (h1.o.toNat:Int)) (.int .u8 (h1.v.k.toNat:Int)) (.int .i64 h1.v.n) (.string h1.v.s) (.string h1.nm) (.string h1.of) (.int .i64 h1.n) (.slice A1 m1 c1) (.string (I.bs n2))));have HS:Hid (I.item C.text.size st=((⟨x1,n2⟩:I.Qq),s2)):=by show _=_;simp only[I.item,X1.o,PX.o,N2.o,bo]
  refine ae (av rfl _ _ w.heap.size 130 _ (0,0) _ rfl FZ.o.cR oH rfl mV) rfl ?_;rw[HS.o];exact FZ.o.done (⟨_,rfl,FZ.o.N6,Sz.of Z2.o⟩)
 |false=>
  have PX:=cN hb;have F3:Hid (Fr C.g w _ _ (PS C s1) w3):=hF;clear hF hb;obtain⟨Om,On,Oo,Ox,Oy,Oz,OA,OK,OU⟩:=F3.o.cQ.y9 0 1 2 3 4 5 6 7 8;simp at Om On Oo Ox Oy Oz OA OK OU;obtain⟨NU,NV,NW,NY,NZ,N0,N3,Og,Ot⟩:=F3.o.cR.y9 0 1 2 3 4 5 6 7 8;simp at NU NV NW NY NZ N0 N3 Og Ot;obtain⟨O6,Pa,Pb,Pm,Pn,Pp,Pq,PQ,P9⟩:=F3.o.cR.z9 0 1 2 3 4 5 6 7 8;go_wp2_with fail
  have FZ:=cN (F3.o.fA (Cm (Ch.refl _ _ _) (.inl rfl) _ _ _ _ _ _ _ _ _) (tc F3.o.cR (.int .u8 (h1.o.toNat:Int)) (.int .u8 (h1.v.k.toNat:Int)) (.int .i64 h1.v.n) (.string h1.v.s) (.string h1.nm) (.string h1.of) (.int .i64 h1.n) (.slice A1 m1 c1) (.string ⟨#[]⟩)));have HS:Hid (I.item C.text.size st=((⟨x1,[]⟩:I.Qq),s1)):=by show _=_;simp only[I.item,X1.o,PX.o,aO,bx]
  refine ae (av rfl _ _ w.heap.size 130 _ (0,0) _ rfl FZ.o.cR oH rfl mV) rfl ?_;rw[HS.o];exact FZ.o.done (⟨_,rfl,FZ.o.N6,Sz.of (ao _)⟩)
theorem DW(C:RC)(st:I.St)(w:World)(h:PS C st w):
 Calls Tryz.prog 211 #[.pointer (some ⟨C.g,0,none⟩)] w (EPost fY C w (I.order C.text.size st)):=by
 have F0:=cN (Fr.start h.lt h.eU);clear h;go_enter Tryz.func211,Tryz.ntmps211;have Q6:=cN (F0.o.new 134 #[.int .u8 0,.int .u8 0,.int .i64 0,.string ⟨#[]⟩,.string ⟨#[]⟩,.string ⟨#[]⟩,.int .i64 0,.slice none 0 0,.bool false]);go_wp2_with fail
 with_reducible refine(Fr.xO Q6.o (iq C _ _ Q6.o.q)).mono ?_
 rintro e w1 ⟨h1,A1,m1,c1,x1,s1,hX1,rfl,hF⟩;have X1:=cN hX1;have F1:=cN hF;clear hF hX1;go_upto_region 2 with fail
 have F2:=cN (F1.o.new 134 #[.int .u8 (h1.o.toNat:Int),.int .u8 (h1.v.k.toNat:Int),.int .i64 h1.v.n,.string h1.v.s,.string h1.nm,.string h1.of,.int .i64 h1.n,.slice A1 m1 c1,.bool false]);obtain⟨w2,hw⟩:∃x,x=w1.alloc (.cells #[.int .u8 (h1.o.toNat:Int),.int .u8 (h1.v.k.toNat:Int),.int .i64 h1.v.n,.string h1.v.s,.string h1.nm,.string h1.of,.int .i64 h1.n,.slice A1 m1 c1,.bool false] 134):=⟨_,rfl⟩;obtain⟨g2,hg⟩:∃x,x=w1.heap.size:=⟨_,rfl⟩;rw[←hw,←hg]at F2;rw[←hw,←hg];clear hw hg;go_wp2_with fail
 with_reducible refine(eh ⟨#[97,115,99]⟩ [97,115,99] rfl F2.o).mono ?_
 rintro e w3 ⟨b,hb,rfl,hF⟩;cases b with
 |true=>
  have PX:=cN hb;have F3:Hid (Fr C.g w _ _ (PS C (I.next s1)) w3):=hF;clear hF hb;obtain⟨Om,On,Oo,Ox,Oy,Oz,OA,OK,OU⟩:=F3.o.cQ.y9 0 1 2 3 4 5 6 7 8;simp at Om On Oo Ox Oy Oz OA OK OU;obtain⟨NU,NV,NW,NY,NZ,N0,N3,Og,Ot⟩:=F3.o.cR.y9 0 1 2 3 4 5 6 7 8;simp at NU NV NW NY NZ N0 N3 Og Ot;obtain⟨O6,Pa,Pb,Pm,Pn,Pp,Pq,PQ,P9⟩:=F3.o.cR.z9 0 1 2 3 4 5 6 7 8;go_wp2_with fail
  have FZ:=cN (F3.o.fA (Cm (Ch.refl _ _ _) (.inl rfl) _ _ _ _ _ _ _ _ _) (tc F3.o.cR (.int .u8 (h1.o.toNat:Int)) (.int .u8 (h1.v.k.toNat:Int)) (.int .i64 h1.v.n) (.string h1.v.s) (.string h1.nm) (.string h1.of) (.int .i64 h1.n) (.slice A1 m1 c1) (.bool false)));have HS:Hid (I.order C.text.size st=((⟨x1,false⟩:I.Ord),(I.next s1))):=by show _=_;simp only[I.order,X1.o,PX.o,bo]
  refine ae (av rfl _ _ w.heap.size 134 _ (0,0) _ rfl FZ.o.cR kz rfl ka) rfl ?_;rw[HS.o];exact FZ.o.done (⟨_,rfl,FZ.o.N6⟩)
 |false=>
  have PX:=cN hb;have F3:Hid (Fr C.g w _ _ (PS C s1) w3):=hF;clear hF hb;go_wp2_with fail
  with_reducible refine(eh ⟨#[100,101,115,99]⟩ [100,101,115,99] rfl F3.o).mono ?_
  rintro e w4 ⟨b,hb,rfl,hF⟩;cases b with
  |true=>
   have V6:=cN hb;have F4:Hid (Fr C.g w _ _ (PS C (I.next s1)) w4):=hF;clear hF hb;have SI:=F4.o.cQ.cell 8;simp at SI;have UE:=F4.o.cQ.frozen 8;go_upto_region 4 with fail
   have F5:=cN (F4.o.ew 8 (.bool true) (cs':=#[.int .u8 (h1.o.toNat:Int),.int .u8 (h1.v.k.toNat:Int),.int .i64 h1.v.n,.string h1.v.s,.string h1.nm,.string h1.of,.int .i64 h1.n,.slice A1 m1 c1,.bool true]) rfl);obtain⟨w5,hw⟩:∃x,x=w4.setCell ⟨g2,8,none⟩ (.bool true):=⟨_,rfl⟩;rw[←hw]at F5;rw[←hw];clear hw SI UE;obtain⟨Om,On,Oo,Ox,Oy,Oz,OA,OK,OU⟩:=F5.o.cQ.y9 0 1 2 3 4 5 6 7 8;simp at Om On Oo Ox Oy Oz OA OK OU;obtain⟨NU,NV,NW,NY,NZ,N0,N3,Og,Ot⟩:=F5.o.cR.y9 0 1 2 3 4 5 6 7 8;simp at NU NV NW NY NZ N0 N3 Og Ot;obtain⟨O6,Pa,Pb,Pm,Pn,Pp,Pq,PQ,P9⟩:=F5.o.cR.z9 0 1 2 3 4 5 6 7 8;go_wp2_with fail
   have FZ:=cN (F5.o.fA (Cm (Ch.refl _ _ _) (.inl rfl) _ _ _ _ _ _ _ _ _) (tc F5.o.cR (.int .u8 (h1.o.toNat:Int)) (.int .u8 (h1.v.k.toNat:Int)) (.int .i64 h1.v.n) (.string h1.v.s) (.string h1.nm) (.string h1.of) (.int .i64 h1.n) (.slice A1 m1 c1) (.bool true)));have HS:Hid (I.order C.text.size st=((⟨x1,true⟩:I.Ord),(I.next s1))):=by show _=_;simp only[I.order,X1.o,PX.o,V6.o,bo,aO,bx]
   refine ae (av rfl _ _ w.heap.size 134 _ (0,0) _ rfl FZ.o.cR kz rfl ka) rfl ?_;rw[HS.o];exact FZ.o.done (⟨_,rfl,FZ.o.N6⟩)
  |false=>
   have V6:=cN hb;have F4:Hid (Fr C.g w _ _ (PS C s1) w4):=hF;clear hF hb;have SI:=F4.o.cQ.cell 8;simp at SI;have UE:=F4.o.cQ.frozen 8;go_upto_region 4 with fail
   have F5:=cN (F4.o.ew 8 (.bool false) (cs':=#[.int .u8 (h1.o.toNat:Int),.int .u8 (h1.v.k.toNat:Int),.int .i64 h1.v.n,.string h1.v.s,.string h1.nm,.string h1.of,.int .i64 h1.n,.slice A1 m1 c1,.bool false]) rfl);obtain⟨w5,hw⟩:∃x,x=w4.setCell ⟨g2,8,none⟩ (.bool false):=⟨_,rfl⟩;rw[←hw]at F5;rw[←hw];clear hw SI UE;obtain⟨Om,On,Oo,Ox,Oy,Oz,OA,OK,OU⟩:=F5.o.cQ.y9 0 1 2 3 4 5 6 7 8;simp at Om On Oo Ox Oy Oz OA OK OU;obtain⟨NU,NV,NW,NY,NZ,N0,N3,Og,Ot⟩:=F5.o.cR.y9 0 1 2 3 4 5 6 7 8;simp at NU NV NW NY NZ N0 N3 Og Ot;obtain⟨O6,Pa,Pb,Pm,Pn,Pp,Pq,PQ,P9⟩:=F5.o.cR.z9 0 1 2 3 4 5 6 7 8;go_wp2_with fail
   have FZ:=cN (F5.o.fA (Cm (Ch.refl _ _ _) (.inl rfl) _ _ _ _ _ _ _ _ _) (tc F5.o.cR (.int .u8 (h1.o.toNat:Int)) (.int .u8 (h1.v.k.toNat:Int)) (.int .i64 h1.v.n) (.string h1.v.s) (.string h1.nm) (.string h1.of) (.int .i64 h1.n) (.slice A1 m1 c1) (.bool false)));have HS:Hid (I.order C.text.size st=((⟨x1,false⟩:I.Ord),s1)):=by show _=_;simp only[I.order,X1.o,PX.o,V6.o,aO,bx]
   refine ae (av rfl _ _ w.heap.size 134 _ (0,0) _ rfl FZ.o.cR kz rfl ka) rfl ?_;rw[HS.o];exact FZ.o.done (⟨_,rfl,FZ.o.N6⟩)
theorem oU(C:RC)(st:I.St)(w:World)(h:PS C st w):
 Calls Tryz.prog 139 #[.pointer (some ⟨C.g,0,none⟩)] w (kx NI C w (I.fV C.text.size st)):=by
 have F0:=cN (Fr.start h.lt h.eU);clear h;go_enter Tryz.func139,Tryz.ntmps139;go_wp2_with fail
 with_reducible refine(eh ⟨#[119,104,101,114,101]⟩ [119,104,101,114,101] rfl F0.o).mono ?_
 rintro e w1 ⟨b,hb,rfl,hF⟩;cases b with
 |true=>
  have PX:=cN hb;have F1:Hid (Fr C.g w _ _ (PS C (I.next st)) w1):=hF;clear hF hb;go_wp2_with fail
  with_reducible refine(Fr.xO F1.o (iq C _ _ F1.o.q)).mono ?_
  rintro e w2 ⟨h1,A1,m1,c1,x1,s1,hX1,rfl,hF⟩;have X1:=cN hX1;have F2:=cN hF;clear hF hX1;have HS:Hid (I.fV C.text.size st=([x1],s1)):=by show _=_;simp only[I.fV,PX.o,X1.o,bo]
  go_wp2_with fail
  go_ret;rw[HS.o];exact(Fr.zz (E:=NI) (cs:=[.int .u8 (h1.o.toNat:Int),.int .u8 (h1.v.k.toNat:Int),.int .i64 h1.v.n,.string h1.v.s,.string h1.nm,.string h1.of,.int .i64 h1.n,.slice A1 m1 c1]) F2.o _).pZ
 |false=>
  have PX:=cN hb;have F1:Hid (Fr C.g w _ _ (PS C st) w1):=hF;clear hF hb;have HS:Hid (I.fV C.text.size st=([],st)):=by show _=_;simp only[I.fV,PX.o,aO,bx]
  go_wp2_with fail
  go_ret;rw[HS.o];exact F1.o.Nn
theorem sr(C:RC)(N:FuncId)(bs cs args:Array Value)(hN:∀w:World,(callFunc N (bs++cs)).run Tryz.prog w=.ok (.enter N args) w)(L:List (Nat×Obj))(Rf:∀p∈L,p.1≠C.g)(kid:I.St→List I.Oj×I.St)(hK:∀(st:I.St) (w:World),PS C st w→iH L w→Calls Tryz.prog N args w (kx eM C w (kid st)))
 (st:I.St) (w:World) (h:PS C st w) (hL:iH L w):
 Calls Tryz.prog 195 #[.pointer (some ⟨C.g,0,none⟩),.func (.func N) bs cs] w (kx eM C w (I.inside C.text.size kid st)):=by
 have hL2:=cN hL;have V7:=cN Rf;have HK:=cN hK;clear hK hL Rf;have F0:=cN (Fr.start h.lt h.eU);clear h;go_enter Tryz.func195,Tryz.ntmps195;go_wp2_with fail
 with_reducible refine(dE F0.o (n:=1) (cells:=#[.string ⟨#[40]⟩]) [[40]] rfl rfl (by decide)).mono ?_
 rintro e w1 ⟨s1,hE1,rfl,hF⟩;have E1:=cN hE1;have F1:=cN hF;clear hF hE1;have Ut:=cN (F1.o.gh hL2.o V7.o);go_wp2_with fail
 with_reducible refine(Fr.mr F1.o (HK.o _ _ F1.o.q Ut.o)).mono ?_
 rintro e w2 ⟨v2,Yr,s2,hX2,rfl,hF⟩;have X2:=cN hX2;have F2:=cN hF;clear hF hX2;go_wp2_with fail
 with_reducible refine(dE F2.o (n:=1) (cells:=#[.string ⟨#[41]⟩]) [[41]] rfl rfl (by decide)).mono ?_
 rintro e w3 ⟨s3,SJ,rfl,hF⟩;have E3:=cN SJ;have F3:=cN hF;clear hF SJ;have HS:Hid (I.inside C.text.size kid st=(Yr,s3)):=by show _=_;simp only[I.inside,E1.o,X2.o,E3.o]
 go_wp2_with fail
 go_ret;rw[HS.o];exact F3.o.pZ
theorem sH(C:RC)(N:FuncId)(bs cs args:Array Value)(hN:∀w:World,(callFunc N (bs++cs)).run Tryz.prog w=.ok (.enter N args) w)(L:List (Nat×Obj))(Rf:∀p∈L,p.1≠C.g)(kid:I.St→List Ev.Ex×I.St)(hK:∀(st:I.St) (w:World),PS C st w→iH L w→Calls Tryz.prog N args w (kx NI C w (kid st)))
 (st:I.St) (w:World) (h:PS C st w) (hL:iH L w):
 Calls Tryz.prog 203 #[.pointer (some ⟨C.g,0,none⟩),.func (.func N) bs cs] w (kx NI C w (I.inside C.text.size kid st)):=by
 have hL2:=cN hL;have V7:=cN Rf;have HK:=cN hK;clear hK hL Rf;have F0:=cN (Fr.start h.lt h.eU);clear h;go_enter Tryz.func203,Tryz.ntmps203;go_wp2_with fail
 with_reducible refine(dE F0.o (n:=1) (cells:=#[.string ⟨#[40]⟩]) [[40]] rfl rfl (by decide)).mono ?_
 rintro e w1 ⟨s1,hE1,rfl,hF⟩;have E1:=cN hE1;have F1:=cN hF;clear hF hE1;have Ut:=cN (F1.o.gh hL2.o V7.o);go_wp2_with fail
 with_reducible refine(Fr.mr F1.o (HK.o _ _ F1.o.q Ut.o)).mono ?_
 rintro e w2 ⟨v2,Yr,s2,hX2,rfl,hF⟩;have X2:=cN hX2;have F2:=cN hF;clear hF hX2;go_wp2_with fail
 with_reducible refine(dE F2.o (n:=1) (cells:=#[.string ⟨#[41]⟩]) [[41]] rfl rfl (by decide)).mono ?_
 rintro e w3 ⟨s3,SJ,rfl,hF⟩;have E3:=cN SJ;have F3:=cN hF;clear hF SJ;have HS:Hid (I.inside C.text.size kid st=(Yr,s3)):=by show _=_;simp only[I.inside,E1.o,X2.o,E3.o]
 go_wp2_with fail
 go_ret;rw[HS.o];exact F3.o.pZ
theorem GV(C:RC)(gB:Nat)(hBg:gB≠C.g)(st:I.St)(w:World)(h:PS C st w)(hB:NA w gB 70 #[.pointer (some ⟨C.g,0,none⟩)]):
 Calls Tryz.prog 137 #[.pointer (some ⟨gB,0,none⟩)] w (EPost fG C w (I.ny C.text.size st)):=by
 have HB:=cN hB;have hBl:=lt_of_block hB;clear hB;have F0:=cN (Fr.start h.lt h.eU);clear h;go_enter Tryz.func137,Tryz.ntmps137;have Q6:=cN (F0.o.new 85 #[.string ⟨#[]⟩,.int .u8 0,.int .u8 0,.int .i64 0,.string ⟨#[]⟩,.string ⟨#[]⟩,.string ⟨#[]⟩,.int .i64 0,.slice none 0 0]);have d0:=HB.o.cell 0;simp at d0;have e0:=Q6.o.old HB.o hBl hBg|>.cell 0
 simp at e0;go_wp2_with fail
 with_reducible refine(fk Q6.o).mono ?_
 rintro e w1 ⟨n1,s1,hN1,hZ1,rfl,hF⟩;have N1:=cN hN1;have Z1:=cN hZ1;have F1:=cN hF;clear hF hN1 hZ1;clear d0 e0;have d0:=(F1.o.old HB.o hBl hBg).cell 0;simp at d0;go_upto_region 2 with fail
 have F2:=cN (F1.o.new 85 #[.string (I.bs n1),.int .u8 0,.int .u8 0,.int .i64 0,.string ⟨#[]⟩,.string ⟨#[]⟩,.string ⟨#[]⟩,.int .i64 0,.slice none 0 0]);obtain⟨w2,hw⟩:∃x,x=w1.alloc (.cells #[.string (I.bs n1),.int .u8 0,.int .u8 0,.int .i64 0,.string ⟨#[]⟩,.string ⟨#[]⟩,.string ⟨#[]⟩,.int .i64 0,.slice none 0 0] 85):=⟨_,rfl⟩;obtain⟨g2,hg⟩:∃x,x=w1.heap.size:=⟨_,rfl⟩;rw[←hw,←hg]at F2;rw[←hw,←hg];clear hw hg;clear d0;have d0:=(F2.o.old HB.o hBl hBg).cell 0;simp at d0;go_wp2_with fail
 with_reducible refine(dE F2.o (n:=1) (cells:=#[.string ⟨#[61]⟩]) [[61]] rfl rfl (by decide)).mono ?_
 rintro e w3 ⟨s2,hE2,rfl,hF⟩;have E2:=cN hE2;have F3:=cN hF;clear hF hE2;clear d0;have d0:=(F3.o.old HB.o hBl hBg).cell 0;simp at d0;go_wp2_with fail
 with_reducible refine(Fr.xO F3.o (iq C _ _ F3.o.q)).mono ?_
 rintro e w4 ⟨h3,A3,m3,c3,x3,s3,Ys,rfl,hF⟩;have X3:=cN Ys;have F4:=cN hF;clear hF Ys;clear d0;have d0:=(F4.o.old HB.o hBl hBg).cell 0;simp at d0;obtain⟨QT,PZ,PF,Ug,UF,Uh,Ui,SI⟩:=F4.o.cQ.y8 1 2 3 4 5 6 7 8;simp at QT PZ PF Ug UF Uh Ui SI;obtain⟨SD,Sl,QU,Xb,Yt,Xc,Xd,UE⟩:=F4.o.cQ.z8 1 2 3 4 5 6 7 8;go_upto_region 4 with fail
 have F5:=cN ((((((((F4.o.ew 1 (.int .u8 (h3.o.toNat:Int)) (cs':=#[.string (I.bs n1),.int .u8 (h3.o.toNat:Int),.int .u8 0,.int .i64 0,.string ⟨#[]⟩,.string ⟨#[]⟩,.string ⟨#[]⟩,.int .i64 0,.slice none 0 0]) rfl).ew 2 (.int .u8 (h3.v.k.toNat:Int)) (cs':=#[.string (I.bs n1),.int .u8 (h3.o.toNat:Int),.int .u8 (h3.v.k.toNat:Int),.int .i64 0,.string ⟨#[]⟩,.string ⟨#[]⟩,.string ⟨#[]⟩,.int .i64 0,.slice none 0 0]) rfl).ew 3 (.int .i64 h3.v.n) (cs':=#[.string (I.bs n1),.int .u8 (h3.o.toNat:Int),.int .u8 (h3.v.k.toNat:Int),.int .i64 h3.v.n,.string ⟨#[]⟩,.string ⟨#[]⟩,.string ⟨#[]⟩,.int .i64 0,.slice none 0 0]) rfl).ew 4 (.string h3.v.s) (cs':=#[.string (I.bs n1),.int .u8 (h3.o.toNat:Int),.int .u8 (h3.v.k.toNat:Int),.int .i64 h3.v.n,.string h3.v.s,.string ⟨#[]⟩,.string ⟨#[]⟩,.int .i64 0,.slice none 0 0]) rfl).ew 5 (.string h3.nm) (cs':=#[.string (I.bs n1),.int .u8 (h3.o.toNat:Int),.int .u8 (h3.v.k.toNat:Int),.int .i64 h3.v.n,.string h3.v.s,.string h3.nm,.string ⟨#[]⟩,.int .i64 0,.slice none 0 0]) rfl).ew 6 (.string h3.of) (cs':=#[.string (I.bs n1),.int .u8 (h3.o.toNat:Int),.int .u8 (h3.v.k.toNat:Int),.int .i64 h3.v.n,.string h3.v.s,.string h3.nm,.string h3.of,.int .i64 0,.slice none 0 0]) rfl).ew 7 (.int .i64 h3.n) (cs':=#[.string (I.bs n1),.int .u8 (h3.o.toNat:Int),.int .u8 (h3.v.k.toNat:Int),.int .i64 h3.v.n,.string h3.v.s,.string h3.nm,.string h3.of,.int .i64 h3.n,.slice none 0 0]) rfl).ew 8 (.slice A3 m3 c3) (cs':=#[.string (I.bs n1),.int .u8 (h3.o.toNat:Int),.int .u8 (h3.v.k.toNat:Int),.int .i64 h3.v.n,.string h3.v.s,.string h3.nm,.string h3.of,.int .i64 h3.n,.slice A3 m3 c3]) rfl);obtain⟨w5,hw⟩:∃x,x=((((((((w4.setCell ⟨g2,1,none⟩ (.int .u8 (h3.o.toNat:Int))).setCell ⟨g2,2,none⟩ (.int .u8 (h3.v.k.toNat:Int))).setCell ⟨g2,3,none⟩ (.int .i64 h3.v.n)).setCell ⟨g2,4,none⟩ (.string h3.v.s)).setCell ⟨g2,5,none⟩ (.string h3.nm)).setCell ⟨g2,6,none⟩ (.string h3.of)).setCell ⟨g2,7,none⟩ (.int .i64 h3.n)).setCell ⟨g2,8,none⟩ (.slice A3 m3 c3)):=⟨_,rfl⟩;rw[←hw]at F5;rw[←hw];clear hw QT SD PZ Sl PF QU Ug Xb UF Yt Uh Xc Ui Xd SI UE;obtain⟨Om,On,Oo,Ox,Oy,Oz,OA,OK,OU⟩:=F5.o.cQ.y9 0 1 2 3 4 5 6 7 8;simp at Om On Oo Ox Oy Oz OA OK OU;obtain⟨NU,NV,NW,NY,NZ,N0,N3,Og,Ot⟩:=F5.o.cR.y9 0 1 2 3 4 5 6 7 8;simp at NU NV NW NY NZ N0 N3 Og Ot;obtain⟨O6,Pa,Pb,Pm,Pn,Pp,Pq,PQ,P9⟩:=F5.o.cR.z9 0 1 2 3 4 5 6 7 8;go_wp2_with fail
 have FZ:=cN (F5.o.fA (Cm (Ch.refl _ _ _) (.inl rfl) _ _ _ _ _ _ _ _ _) (tc F5.o.cR (.string (I.bs n1)) (.int .u8 (h3.o.toNat:Int)) (.int .u8 (h3.v.k.toNat:Int)) (.int .i64 h3.v.n) (.string h3.v.s) (.string h3.nm) (.string h3.of) (.int .i64 h3.n) (.slice A3 m3 c3)));have HS:Hid (I.ny C.text.size st=((⟨n1,x3⟩:I.OI),s3)):=by show _=_;simp only[I.ny,N1.o,E2.o,X3.o]
 refine ae (av rfl _ _ w.heap.size 85 _ (0,0) _ rfl FZ.o.cR vL rfl uf) rfl ?_;rw[HS.o];exact FZ.o.done (⟨_,rfl,FZ.o.N6,Sz.of Z1.o⟩)
end
section
set_option maxRecDepth 100000
theorem dd:Tryz.prog.underlying 30=some (.struct (Tryz.prog.fieldsOf 30)):=by kernel_rfl
theorem cZ:(Tryz.prog.info? 30).map (·.size)=some 13:=by kernel_rfl
def GQ(k:IntKind)(C:RC)(w:World)(r:Int×I.St)(e:Ending)(w':World):Prop:=e=.returned (.int k r.1)∧PS C r.2 w'∧Ch C.g w.heap.size w w'
theorem Fr.FK{k:IntKind}{C:RC}{w0 w:World}{own:eP}{its:List It}{st:I.St}{n:Int}(h:Fr C.g w0 own its (PS C st) w):GQ k C w0 (n,st) (.returned (.int k n)) w:=⟨rfl,h.q,h.ch⟩
theorem Fr.subI{k:IntKind}{C:RC}{w0 w:World}{own:eP}{its:List It}{st:I.St}{f:FuncId}{args:Array Value}{r:Int×I.St}(F:Fr C.g w0 own its (PS C st) w)(h:Calls Tryz.prog f args w (GQ k C w r)):Calls Tryz.prog f args w fun e w'=>∃n s,r=(n,s)∧e=.returned (.int k n)∧Fr C.g w0 own its (PS C s) w':=
 h.mono fun _ _ ⟨h1,h2,h3⟩=>⟨r.1,r.2,rfl,h1,F.call h2.eU h3⟩
theorem xV{a b:UInt8}(h:a≠b):((a.toNat:Int)==(b.toNat:Int))=false:=by simp;exact fun e=>h (aF.1 (by omega))
theorem G0{a b:UInt8}(h:a≠b):((a.toNat:Int) !=(b.toNat:Int))=true:=by simp;exact fun e=>h (aF.1 (by omega))
theorem I.AN{T:Nat}{st:I.St}{t:Lex.Tok}(h:I.fj T st=t)(hk:t.1≠0):st.r≠[]:=by
 intro e;unfold I.fj at h;rw[e]at h;simp only at h;subst h;exact hk rfl
theorem I.Er{T:Nat}{st:I.St}{t:Lex.Tok}(h:I.fj T st=t)(hr:st.r≠[]):∃r,st.r=t::r:=by
 unfold I.fj at h;cases hq:st.r with
 |nil=>exact absurd hq hr
 |cons a r=>
  rw[hq]at h;simp only at h;exact⟨r,by rw[h]⟩
theorem I.Cc(T:Nat):I.eZ (I.lH T):=fun st=>I.nT T [[115,101,108,101,99,116],[105,110,115,101,114,116],[117,112,100,97,116,101],[100,101,108,101,116,101]] 0 st
theorem BS(C:RC)(st:I.St)(w:World)(h:PS C st w):
 Calls Tryz.prog 212 #[.pointer (some ⟨C.g,0,none⟩)] w (GQ .i64 C w (I.fx C.text.size st)):=by
 have Sm:=rS h;have F0:=cN (Fr.start h.lt h.eU);clear h;go_enter Tryz.func212,Tryz.ntmps212;go_wp2_with fail
 with_reducible refine(Fy F0.o).mono ?_
 rintro e w1 ⟨t,hT,rfl,hF⟩;have T:=cN hT;have F1:=cN hF;clear hF hT;obtain⟨tk,ts,ta⟩:=t;unfold qa;simp only;go_upto_region 2 with fail
 have F2:=cN (F1.o.new 113 #[.int .u8 (tk.toNat:Int),.string ⟨ts.toArray⟩,.int .i64 (ta:Int)]);obtain⟨w2,hw⟩:∃x,x=w1.alloc (.cells #[.int .u8 (tk.toNat:Int),.string ⟨ts.toArray⟩,.int .i64 (ta:Int)] 113):=⟨_,rfl⟩;obtain⟨g2,hg⟩:∃x,x=w1.heap.size:=⟨_,rfl⟩;rw[←hw,←hg]at F2;rw[←hw,←hg];clear hw hg;have hK:=(I.qN C.text.size st);rw[T.o]at hK Sm;simp only at hK Sm;have Ua:=cN hK.1;have TY:=cN hK.2;clear hK;obtain⟨t0,t1,t2⟩:=F2.o.cQ.y3 0 1 2;simp at t0 t1 t2;by_cases h2:tk=2
 ·subst h2;have hr:st.r≠[]:=I.AN T.o (show(2:UInt8)≠0 by decide);obtain⟨r,hr2⟩:=I.Er T.o hr;have Ru:=(qh F2.o.q hr2).2 rfl;have HNum:=cN Ru;have HR:=cN hr;clear hr hr2 Ru;go_wp2_with fail
  with_reducible refine(Da ⟨ts.toArray⟩ ts rfl Sm HNum.o HR.o F2.o).mono ?_
  rintro e w3 ⟨n3,er,s3,hL3,hS3,hB3,rfl,hF⟩;have L3:=cN hL3;have S3:=cN hS3;have B3:=cN hB3;have F3:=cN hF;clear hF hL3 hS3 hB3;obtain⟨hb1,hb2⟩:=B3.o;by_cases hm:1000000<n3
  ·have q3:decide ((1000000:Int)<n3)=true:=aq hm;have HM:=cN hm;have he0:er=0:=by
    have:=L3.o;unfold I.kh I.fR at this;split at this
    ·split at this
     ·injection this with e1 e2
      exact e2.symm
     ·injection this with e1 e2
      omega
    ·injection this with e1 e2
     omega
   have S4:Hid (st=s3):=by have:=S3.o;rw[if_pos he0]at this;exact this
   subst he0;clear hm;go_wp2_with fail
   with_reducible refine(Ki 271 271 rfl F3.o.un).mono ?_
   rintro e w4 ⟨s4,QD,rfl,hF⟩;have E4:=cN QD;have F4:=cN hF;clear hF QD;clear hb1 hb2;have E5:Hid (I.fail C.text.size 271 st=s4):=by have:=E4.o;rw[←S4.o]at this;exact this
   obtain⟨k,hk,hz,hkl⟩:=F4.o.q.cell;go_upto_region 9 with fail
   have F5:=cN (F4.o.next hk);obtain⟨w5,hw⟩:∃x,x=w4.setCell ⟨C.g,2,none⟩ (.int .i64 ((k:Int)+1)):=⟨_,rfl⟩;rw[←hw]at F5;rw[←hw];clear hw hk hz;have HS:Hid (I.fx C.text.size st=(n3,(I.next s4))):=by show _=_;simp only[I.fx,Ua.o,TY.o,L3.o,if_pos HM.o,bo,E5.o]
   go_wp2_with fail
   go_ret;rw[HS.o];exact F5.o.FK
  ·have q3:decide ((1000000:Int)<n3)=false:=ar hm;have HM:Hid (n3≤1000000):=Int.not_lt.1 hm;clear hm;obtain⟨k,hk,hz,hkl⟩:=F3.o.q.cell;go_upto_region 9 with fail
   have F4:=cN (F3.o.next hk);obtain⟨w4,hw⟩:∃x,x=w3.setCell ⟨C.g,2,none⟩ (.int .i64 ((k:Int)+1)):=⟨_,rfl⟩;rw[←hw]at F4;rw[←hw];clear hw hk hz;have HS:Hid (I.fx C.text.size st=(n3,I.next s3)):=by
    show _=_;have hl:=L3.o;have hs:=S3.o;simp only[I.fx,Ua.o,TY.o,hl,if_neg (Int.not_lt.2 HM.o),bo];by_cases he:er=0
    ·rw[if_pos he]at hs⊢;rw[hs]
    ·rw[if_neg he]at hs⊢;have h0:n3=0:=by
      unfold I.kh I.fR at hl;split at hl
      ·split at hl
       ·injection hl with e1 e2
        exact absurd e2.symm he
       ·injection hl with e1 e2
        exact e1.symm
      ·injection hl with e1 e2
       exact e1.symm
     rw[hs,h0]
   go_wp2_with fail
   go_ret;rw[HS.o];exact F4.o.FK
 ·have q2:((tk.toNat:Int) !=2)=true:=G0 (b:=2) h2;have H2:=cN h2;clear h2;go_wp2_with fail
  with_reducible refine(uw 300 300 rfl F2.o).mono ?_
  rintro e w3 ⟨s3,SJ,rfl,hF⟩;have E3:=cN SJ;have F3:=cN hF;clear hF SJ;have HS:Hid (I.fx C.text.size st=((0:Int),s3)):=by show _=_;simp only[I.fx,Ua.o,if_neg H2.o,E3.o]
  go_wp2_with fail
  go_ret;rw[HS.o];exact F3.o.FK
theorem zR(C:RC)(st:I.St)(w:World)(h:PS C st w):
 Calls Tryz.prog 234 #[.pointer (some ⟨C.g,0,none⟩)] w (vj C w (I.action C.text.size st)):=by
 have F0:=cN (Fr.start h.lt h.eU);clear h;go_enter Tryz.func234,Tryz.ntmps234;go_wp2_with fail
 with_reducible refine(eh ⟨#[111,110]⟩ [111,110] rfl F0.o).mono ?_
 rintro e w1 ⟨b,hb,rfl,hF⟩;cases b with
 |true=>
  have PX:=cN hb;have F1:Hid (Fr C.g w _ _ (PS C (I.next st)) w1):=hF;clear hF hb;go_wp2_with fail
  with_reducible refine(dE F1.o (n:=1) (cells:=#[.string ⟨#[100,101,108,101,116,101]⟩]) [[100,101,108,101,116,101]] rfl rfl (by decide)).mono ?_
  rintro e w2 ⟨s2,hE2,rfl,hF⟩;have E2:=cN hE2;have F2:=cN hF;clear hF hE2;go_upto_region 5 with fail
  have F3:=cN (F2.o.new 253 #[.int .u8 0,.int .u8 1,.int .u8 2]);obtain⟨w3,hw⟩:∃x,x=w2.alloc (.cells #[.int .u8 0,.int .u8 1,.int .u8 2] 253):=⟨_,rfl⟩;obtain⟨g3,hg⟩:∃x,x=w2.heap.size:=⟨_,rfl⟩;rw[←hw,←hg]at F3;rw[←hw,←hg];clear hw hg;go_wp2_with fail
  with_reducible refine(gi F3.o (n:=3) (cells:=#[.string ⟨#[114,101,115,116,114,105,99,116]⟩,.string ⟨#[99,97,115,99,97,100,101]⟩,.string ⟨#[115,101,116]⟩]) [[114,101,115,116,114,105,99,116],[99,97,115,99,97,100,101],[115,101,116]] rfl rfl (by decide) (by decide)).mono ?_
  rintro e w4 ⟨i4,s4,QD,Yu,rfl,hF⟩;have E4:=cN QD;have I4:=cN Yu;have F4:=cN hF;clear hF QD Yu;have hI:=I4.o;have hcs:i4=0∨i4=1∨i4=2:=by omega
  clear hI;obtain⟨t0,t1,t2⟩:=F4.o.cQ.y3 0 1 2;simp at t0 t1 t2;rcases hcs with rfl|rfl|rfl
  ·skip;have HS:Hid (I.action C.text.size st=((0:UInt8),s4)):=by show _=_;simp only[I.action,PX.o,bo,E2.o,E4.o];rfl
   go_wp2_with fail
   go_ret;rw[HS.o];exact⟨rfl,F4.o.q,F4.o.ch⟩
  ·skip;have HS:Hid (I.action C.text.size st=((1:UInt8),s4)):=by show _=_;simp only[I.action,PX.o,bo,E2.o,E4.o];rfl
   go_wp2_with fail
   go_ret;rw[HS.o];exact⟨rfl,F4.o.q,F4.o.ch⟩
  ·skip;go_wp2_with fail
   with_reducible refine(dE F4.o (n:=1) (cells:=#[.string ⟨#[110,117,108,108]⟩]) [[110,117,108,108]] rfl rfl (by decide)).mono ?_
   rintro e w5 ⟨s5,Vd,rfl,hF⟩;have E5:=cN Vd;have F5:=cN hF;clear hF Vd;have HS:Hid (I.action C.text.size st=((2:UInt8),s5)):=by show _=_;simp only[I.action,PX.o,bo,E2.o,E4.o,E5.o]
   go_wp2_with fail
   go_ret;rw[HS.o];exact⟨rfl,F5.o.q,F5.o.ch⟩
 |false=>
  have PX:=cN hb;have F1:Hid (Fr C.g w _ _ (PS C st) w1):=hF;clear hF hb;have HS:Hid (I.action C.text.size st=((0:UInt8),st)):=by show _=_;simp only[I.action,PX.o,aO,bx]
  go_wp2_with fail
  go_ret;rw[HS.o];exact⟨rfl,F1.o.q,F1.o.ch⟩
theorem DC(C:RC)(gB:Nat)(hBg:gB≠C.g)(st:I.St)(w:World)(h:PS C st w)(hB:NA w gB 70 #[.pointer (some ⟨C.g,0,none⟩)]):
 Calls Tryz.prog 237 #[.pointer (some ⟨gB,0,none⟩)] w (vj C w (I.lH C.text.size st)):=by
 have HB:=cN hB;have hBl:=lt_of_block hB;clear hB;have F0:=cN (Fr.start h.lt h.eU);clear h;go_enter Tryz.func237,Tryz.ntmps237;have d0:=HB.o.cell 0;simp at d0;go_wp2_with fail
 with_reducible refine(gi F0.o (n:=4) (cells:=#[.string ⟨#[115,101,108,101,99,116]⟩,.string ⟨#[105,110,115,101,114,116]⟩,.string ⟨#[117,112,100,97,116,101]⟩,.string ⟨#[100,101,108,101,116,101]⟩]) [[115,101,108,101,99,116],[105,110,115,101,114,116],[117,112,100,97,116,101],[100,101,108,101,116,101]] rfl rfl (by decide) (by decide)).mono ?_
 rintro e w1 ⟨i1,s1,hE1,hI1,rfl,hF⟩;have E1:=cN hE1;have I1:=cN hI1;have F1:=cN hF;clear hF hE1 hI1;have hI:=I1.o;have hcs:i1=0∨i1=1∨i1=2∨i1=3:=by omega
 clear hI d0;have HS:Hid (I.lH C.text.size st=(UInt8.ofNat (i1+1),s1)):=by show _=_;simp only[I.lH,E1.o]
 rcases hcs with rfl|rfl|rfl|rfl
 all_goals
  go_wp2_with fail
  go_ret
  rw[HS.o]
  exact⟨rfl,F1.o.q,F1.o.ch⟩
theorem DG(C:RC)(st:I.St)(w:World)(h:PS C st w):
 Calls Tryz.prog 201 #[.pointer (some ⟨C.g,0,none⟩)] w (kx jZ C w (I.fi C.text.size st)):=by
 have F0:=cN (Fr.start h.lt h.eU);clear h;go_enter Tryz.func201,Tryz.ntmps201;have Q6:=cN (F0.o.new 70 #[.pointer (some ⟨C.g,0,none⟩)]);obtain⟨w1,hw⟩:∃x,x=w.alloc (.cells #[.pointer (some ⟨C.g,0,none⟩)] 70):=⟨_,rfl⟩;go_upto_region 1 with fail
 rw[←hw]at Q6;rw[←hw];clear hw;have d0:=Q6.o.cQ.cell 0;simp at d0;have F1:=cN Q6.o;go_wp2_with fail
 with_reducible refine(eh ⟨#[97,108,108]⟩ [97,108,108] rfl F1.o).mono ?_
 rintro e w2 ⟨b,hb,rfl,hF⟩;cases b with
 |true=>
  have PX:=cN hb;have F2:Hid (Fr C.g w _ _ (PS C (I.next st)) w2):=hF;clear hF hb;clear d0;have HS:Hid (I.fi C.text.size st=([1,2,3,4],I.next st)):=by show _=_;simp only[I.fi,PX.o,bo]
  go_wp2_with fail
  go_ret;rw[HS.o];exact(Fr.Nx (E:=jZ) (css:=[[.int .u8 1],[.int .u8 2],[.int .u8 3],[.int .u8 4]]) (n:=4) (F2.o.new 51 #[.int .u8 1,.int .u8 2,.int .u8 3,.int .u8 4]) rfl rfl (by
   intro i cs x hi hx
   have:i<4:=(ay.1 hi).1
   have hi4:i=0∨i=1∨i=2∨i=3:=by omega
   rcases hi4 with rfl|rfl|rfl|rfl<;>(simp at hi hx;subst hi hx;rfl)) rfl (by decide)).pZ
 |false=>
  have PX:=cN hb;have F2:Hid (Fr C.g w _ _ (PS C st) w2):=hF;clear hF hb;clear d0;have d0:=F2.o.cQ.cell 0;simp at d0;have Xe:=cN F2.o.cQ;have hbg:w.heap.size≠C.g:=by have:=F2.o.lt;omega
  have hbl:=Xe.o.lt;go_wp2_with fail
  with_reducible refine(Fr.mr F2.o (Ab C 237 #[] #[.pointer (some ⟨w.heap.size,0,none⟩)] #[.pointer (some ⟨w.heap.size,0,none⟩)] (fun w=>by simp[go_sem]) [(w.heap.size,.cells #[.pointer (some ⟨C.g,0,none⟩)] 70 (0,0))] (uY hbg) 16 16 rfl (by decide) (by decide) (I.lH C.text.size) (I.Cc _) st.r.length (wu fun st2 w2 hp hB=>DC C w.heap.size hbg st2 w2 hp hB) st _ (aa _) F2.o.q (oP Xe.o))).mono ?_
  rintro e w3 ⟨v3,xs3,s3,Ys,rfl,hF⟩;have X3:=cN Ys;have F3:=cN hF;clear hF Ys;have HS:Hid (I.fi C.text.size st=(xs3,s3)):=by show _=_;simp only[I.fi,PX.o,X3.o,aO,bx]
  go_wp2_with fail
  go_ret;rw[HS.o];exact F3.o.pZ
end
theorem KJ{a b:ByteArray}(h:a≠b):(a.toList==b.toList)=false:=by
 simp only[bm,ne_eq];intro e;rw[ByteArray.toList_eq,ByteArray.toList_eq]at e;exact h (by cases a;cases b;simp only[Array.toList_inj]at e;rw[e])
theorem xJ{a b:I.Bs}(h:a≠b):((I.bs a).toList==(I.bs b).toList)=false:=KJ fun e=>h (by rw[←dA a,e,dA])
theorem ID{a b:Cell.Val}(h:a≠b):zi a b=false:=by
 cases hv:zi a b with
 |false=>rfl
 |true=>exact absurd ((sl _ _).1 hv) h
theorem DP:∀{k:Ev.Ex} {ks:List Ev.Ex},k∈ks→I.depth k≤I.dI ks:=by
 intro k ks;induction ks with
 |nil=>intro h;cases h
 |cons a l ih=>
  intro h;rw[I.dI];rcases af.1 h with rfl|h
  ·omega
  ·have:=ih h;omega
theorem mu{n:Nat}{h:Ev.Hd}{ks:List Ev.Ex}{k:Ev.Ex}(hp:I.depth (.mk h ks)≤n+1)(hk:k∈ks):I.depth k≤n:=by
 have:=DP hk;rw[I.depth]at hp;omega
theorem LR{a b:Cell.Val}(h:a≠b):∀w:World,(binOp .eql 48 (.agg #[.int .u8 (a.k.toNat:Int),.int .i64 a.n,.string a.s]) (.agg #[.int .u8 (b.k.toNat:Int),.int .i64 b.n,.string b.s])).run Tryz.prog w=.ok (.bool false) w:=fun w=>by rw[Ls,ID h]
theorem int_ne{a b:Int}(h:a≠b):(a==b)=false:=bm.2 h
theorem qg{a b:Bool}(h:a≠b):(a==b)=false:=bm.2 h
theorem xp(a b:UInt8):(Hid (a=b)∧((a.toNat:Int)==(b.toNat:Int))=true)∨a≠b:=(Classical.em (a=b)).imp (fun h=>⟨h,by rw[h];simp⟩) id
theorem nf(a b:I.Bs):(Hid (a=b)∧((I.bs a).toList==(I.bs b).toList)=true)∨a≠b:=(Classical.em (a=b)).imp (fun h=>⟨h,by rw[h];simp⟩) id
theorem KH(a b:ByteArray):(Hid (a=b)∧(a.toList==b.toList)=true)∨a≠b:=(Classical.em (a=b)).imp (fun h=>⟨h,by rw[h];simp⟩) id
theorem D7(a b:Int):(Hid (a=b)∧(a==b)=true)∨a≠b:=(Classical.em (a=b)).imp (fun h=>⟨h,by rw[h];simp⟩) id
theorem mH(a b:Bool):(Hid (a=b)∧(a==b)=true)∨a≠b:=(Classical.em (a=b)).imp (fun h=>⟨h,by rw[h];simp⟩) id
theorem Mt(a b:Cell.Val):(Hid (a=b)∧∀w:World,(binOp .eql 48 (.agg #[.int .u8 (a.k.toNat:Int),.int .i64 a.n,.string a.s]) (.agg #[.int .u8 (b.k.toNat:Int),.int .i64 b.n,.string b.s])).run Tryz.prog w=.ok (.bool true) w)∨a≠b:=(Classical.em (a=b)).imp (fun h=>⟨h,fun w=>by rw[Ls,(sl _ _).2 h]⟩) id
section
set_option maxRecDepth 100000
theorem yg(n:Nat)(hL:WZ NI 98 #[] fun x=>I.depth x≤n):SE NI 172 iK (fun x=>I.depth x≤n+1):=by
 intro w cs cs' x y hp hx hy;have HP:=cN hp;clear hp;have HL:=cN hL;clear hL;obtain⟨⟨a0,a1,a2,a3,a4⟩,A5,m5,c5,a5,d,rfl,rfl,h1,h2,_,h3⟩:=hx;obtain⟨⟨b0,b1,b2,b3,b4⟩,V8,zm5,V9,b5,zd,rfl,rfl,h1',h2',_,h3'⟩:=hy;have L5:=cN (jK h3 h1 h2);have R5:=cN (jK h3' h1' h2');clear h1 h2 h3 h1' h2' h3';simp only[iK,cT,List.cons_append,aZ];go_enter Tryz.func172,Tryz.ntmps172;go_upto_region 1 with fail
 refine P8 fun w1 hw1=>?_
 obtain⟨HG,HR,HB⟩:=gT hw1;clear hw1;have NB:=cN (ax w1.heap.size w1);obtain⟨x0,x1,x2,x3,x4,x5,x6,x7⟩:=(HG.o.below NB.o HG.o.lt).y8 0 1 2 3 4 5 6 7;simp at x0 x1 x2 x3 x4 x5 x6 x7;obtain⟨y0,y1,y2,y3,y4,y5,y6,y7⟩:=(HR.o.below NB.o HR.o.lt).y8 0 1 2 3 4 5 6 7;simp at y0 y1 y2 y3 y4 y5 y6 y7;have gV:=Eb;rcases xp a0 b0 with⟨H0,t0⟩|h
 rcases Mt a1 b1 with⟨H1,t1⟩|h
 rcases KH a2 b2 with⟨H2,t2⟩|h
 rcases KH a3 b3 with⟨H3,t3⟩|h
 rcases D7 a4 b4 with⟨H4,t4⟩|h
 focus go_wp2_with fail
 refine(HL.o w1 _ _ a5 b5 (fun k hk=>mu HP.o hk) (Rr.up L5.o (HB.o.trans (NB.o.mono HB.o.size))) (Rr.up R5.o (HB.o.trans (NB.o.mono HB.o.size)))).mono ?_;rintro e SX ⟨rfl,hb⟩;have Oi:=cN (NB.o.trans (hb.mono NB.o.size));clear NB hb x0 y0 x1 y1 x2 y2 x3 y3 x4 y4 x5 y5 x6 y6 x7 y7;have NB:=Oi;clear Oi;rcases Classical.em (a5=b5)with h|h
 rw[eu h];have H5:=cN h;clear h
 ·go_wp2_with fail
  go_ret;exact⟨ku (by rw[H0.o,H1.o,H2.o,H3.o,H4.o,H5.o]),HB.o.trans (NB.o.mono HB.o.size)⟩
 all_goals
  first|have t:=xV h|have t:=KJ h|have t:=LR h|have t:=int_ne h|rw[gb h]
  go_wp2_with fail
  go_ret
  exact⟨kG fun e=>h (by cases e;rfl),HB.o.trans (NB.o.mono HB.o.size)⟩
theorem pI(p:Ev.Ex→Prop)(hC:SE NI 172 iK p):WZ NI 98 #[] p:=by
 intro w v v' xs ys hp hx hy;have HC:=cN (M6 172 (fun w a b=>by simp[go_sem]) p hC w v v' xs ys hp hx hy);show Calls Tryz.prog 98 #[v,v'] w _;obtain⟨A,m,c,rfl⟩:=dj hx;obtain⟨A',m',c',rfl⟩:=dj hy;clear hp hx hy;go_enter Tryz.func98,Tryz.ntmps98;go_wp2_with fail
 have cc:=HC.o;replace cc:Calls Tryz.prog 177 #[.slice A m c,.slice A' m' c',.func (.func 172) #[] #[]] w _:=cc;with_reducible refine cc.mono ?_
 rintro e w1 ⟨rfl,hb⟩;have HB:=cN hb;clear hb cc;go_wp2_with fail
 go_ret;exact⟨rfl,HB.o⟩
theorem Ag:∀n:Nat,SE NI 172 iK fun x=>I.depth x≤n:=by
 intro n;induction n with
 |zero=>intro w cs cs' x y hp;have:=I.iY x;omega
 |succ n ih=>exact yg n (pI _ ih)
theorem jA:SE NI 172 iK fun _=>True:=fun w cs cs' x y _ hx hy=>Ag (I.depth x) w cs cs' x y (aa _) hx hy
theorem gp:WZ NI 98 #[] fun _=>True:=pI _ jA
theorem xa:SE eM 94 iK (fun _=>True):=by
 intro w cs cs' x y hp hx hy;have HP:=cN hp;clear hp;obtain⟨a0,a1,a2,a3,a4,a5,a6,a7⟩:=x;obtain⟨b0,b1,b2,b3,b4,b5,b6,b7⟩:=y;obtain⟨v,rfl,hv,_,_⟩:=hx;obtain⟨u,rfl,hu,_,_⟩:=hy;obtain⟨A5,m5,c5,rfl⟩:=dj hv;obtain⟨V8,zm5,V9,rfl⟩:=dj hu;dsimp only at hv hu;have L5:=cN hv;have R5:=cN hu;clear hv hu;simp only[iK,cT,List.cons_append,List.nil_append];go_enter Tryz.func94,Tryz.ntmps94;go_upto_region 1 with fail
 refine P8 fun w1 hw1=>?_
 obtain⟨HG,HR,HB⟩:=gT hw1;clear hw1;have NB:=cN (ax w1.heap.size w1);obtain⟨x0,x1,x2,x3,x4,x5,x6,x7⟩:=(HG.o.below NB.o HG.o.lt).y8 0 1 2 3 4 5 6 7;simp at x0 x1 x2 x3 x4 x5 x6 x7;obtain⟨y0,y1,y2,y3,y4,y5,y6,y7⟩:=(HR.o.below NB.o HR.o.lt).y8 0 1 2 3 4 5 6 7;simp at y0 y1 y2 y3 y4 y5 y6 y7;rcases nf a0 b0 with⟨H0,t0⟩|h
 rcases xp a1 b1 with⟨H1,t1⟩|h
 rcases mH a2 b2 with⟨H2,t2⟩|h
 rcases mH a3 b3 with⟨H3,t3⟩|h
 rcases mH a4 b4 with⟨H4,t4⟩|h
 rcases nf a6 b6 with⟨H6,t6⟩|h
 rcases xp a7 b7 with⟨H7,t7⟩|h
 focus go_wp2_with fail
 refine(gp w1 _ _ a5 b5 (fun _ _=>trivial) (Rr.up L5.o (HB.o.trans (NB.o.mono HB.o.size))) (Rr.up R5.o (HB.o.trans (NB.o.mono HB.o.size)))).mono ?_;rintro e SX ⟨rfl,hb⟩;have Oi:=cN (NB.o.trans (hb.mono NB.o.size));clear NB hb x0 y0 x1 y1 x2 y2 x3 y3 x4 y4 x5 y5 x6 y6 x7 y7;have NB:=Oi;clear Oi;rcases Classical.em (a5=b5)with h|h
 rw[eu h];have H5:=cN h;clear h
 ·go_wp2_with fail
  go_ret;exact⟨ku (by rw[H0.o,H1.o,H2.o,H3.o,H4.o,H6.o,H7.o,H5.o]),HB.o.trans (NB.o.mono HB.o.size)⟩
 all_goals
  first|have t:=xV h|have t:=xJ h|have t:=qg h|rw[gb h]
  go_wp2_with fail
  go_ret
  exact⟨kG fun e=>h (by cases e;rfl),HB.o.trans (NB.o.mono HB.o.size)⟩
theorem vQ:SE fG 100 iK (fun _=>True):=by
 intro w cs cs' x y hp hx hy;have HP:=cN hp;clear hp;obtain⟨a0,a1⟩:=x;obtain⟨b0,b1⟩:=y;obtain⟨ce,rfl,hv,_⟩:=hx;obtain⟨de,rfl,hu,_⟩:=hy;obtain⟨H,A1,m1,c1,ks,rfl,hks⟩:=dC hv;obtain⟨zH,zA1,zm1,zc1,zks,rfl,Ty⟩:=dC hu;clear hks Ty;dsimp only at hv hu;have L1:=cN hv;have R1:=cN hu;clear hv hu;simp only[iK,cT,List.cons_append,List.nil_append];go_enter Tryz.func100,Tryz.ntmps100;go_upto_region 1 with fail
 refine P8 fun w1 hw1=>?_
 obtain⟨HG,HR,HB⟩:=gT hw1;clear hw1;have NB:=cN (ax w1.heap.size w1);obtain⟨x0,x1,x2,x3,x4,x5,x6,x7,x8⟩:=(HG.o.below NB.o HG.o.lt).y9 0 1 2 3 4 5 6 7 8;simp at x0 x1 x2 x3 x4 x5 x6 x7 x8;obtain⟨y0,y1,y2,y3,y4,y5,y6,y7,y8⟩:=(HR.o.below NB.o HR.o.lt).y9 0 1 2 3 4 5 6 7 8;simp at y0 y1 y2 y3 y4 y5 y6 y7 y8;rcases nf a0 b0 with⟨H0,t0⟩|h
 focus go_wp2_with fail
 refine(jA w1 _ _ a1 b1 trivial (El.up L1.o (HB.o.trans (NB.o.mono HB.o.size))) (El.up R1.o (HB.o.trans (NB.o.mono HB.o.size)))).mono ?_;rintro e PW ⟨rfl,hb⟩;have Oi:=cN (NB.o.trans (hb.mono NB.o.size));clear NB hb x0 y0 x1 y1 x2 y2 x3 y3 x4 y4 x5 y5 x6 y6 x7 y7 x8 y8;have NB:=Oi;clear Oi;rcases Classical.em (a1=b1)with h|h
 rw[eu h];have H1:=cN h;clear h
 ·go_wp2_with fail
  go_ret;exact⟨ku (by rw[H0.o,H1.o]),HB.o.trans (NB.o.mono HB.o.size)⟩
 all_goals
  first|have t:=xJ h|rw[gb h]
  go_wp2_with fail
  go_ret
  exact⟨kG fun e=>h (by cases e;rfl),HB.o.trans (NB.o.mono HB.o.size)⟩
theorem xE:SE ft 174 iK (fun _=>True):=by
 intro w cs cs' x y hp hx hy;have HP:=cN hp;clear hp;obtain⟨a0,a1,a2⟩:=x;obtain⟨b0,b1,b2⟩:=y;obtain⟨v,rfl,hv,_,_⟩:=hx;obtain⟨u,rfl,hu,_,_⟩:=hy;obtain⟨A2,m2,c2,rfl⟩:=dj hv;obtain⟨zA2,zm2,zc2,rfl⟩:=dj hu;dsimp only at hv hu;have L2:=cN hv;have R2:=cN hu;clear hv hu;simp only[iK,cT,List.cons_append,List.nil_append];go_enter Tryz.func174,Tryz.ntmps174;go_upto_region 1 with fail
 refine P8 fun w1 hw1=>?_
 obtain⟨HG,HR,HB⟩:=gT hw1;clear hw1;have NB:=cN (ax w1.heap.size w1);obtain⟨x0,x1,x2⟩:=(HG.o.below NB.o HG.o.lt).y3 0 1 2;simp at x0 x1 x2;obtain⟨y0,y1,y2⟩:=(HR.o.below NB.o HR.o.lt).y3 0 1 2;simp at y0 y1 y2;rcases nf a0 b0 with⟨H0,t0⟩|h
 rcases nf a1 b1 with⟨H1,t1⟩|h
 focus go_wp2_with fail
 refine(gp w1 _ _ a2 b2 (fun _ _=>trivial) (Rr.up L2.o (HB.o.trans (NB.o.mono HB.o.size))) (Rr.up R2.o (HB.o.trans (NB.o.mono HB.o.size)))).mono ?_;rintro e Qu ⟨rfl,hb⟩;have Oi:=cN (NB.o.trans (hb.mono NB.o.size));clear NB hb x0 y0 x1 y1 x2 y2;have NB:=Oi;clear Oi;rcases Classical.em (a2=b2)with h|h
 rw[eu h];have H2:=cN h;clear h
 ·go_wp2_with fail
  go_ret;exact⟨ku (by rw[H0.o,H1.o,H2.o]),HB.o.trans (NB.o.mono HB.o.size)⟩
 all_goals
  first|have t:=xJ h|rw[gb h]
  go_wp2_with fail
  go_ret
  exact⟨kG fun e=>h (by cases e;rfl),HB.o.trans (NB.o.mono HB.o.size)⟩
theorem xS:SE fL 171 iK (fun _=>True):=by
 intro w cs cs' x y hp hx hy;have HP:=cN hp;clear hp;obtain⟨a0,a1⟩:=x;obtain⟨b0,b1⟩:=y;obtain⟨ce,rfl,hv,_⟩:=hx;obtain⟨de,rfl,hu,_⟩:=hy;obtain⟨H,A0,m0,c0,ks,rfl,hks⟩:=dC hv;obtain⟨zH,zA0,zm0,zc0,zks,rfl,Ty⟩:=dC hu;clear hks Ty;dsimp only at hv hu;have L0:=cN hv;have R0:=cN hu;clear hv hu;simp only[iK,cT,List.cons_append,List.nil_append];go_enter Tryz.func171,Tryz.ntmps171;go_upto_region 1 with fail
 refine P8 fun w1 hw1=>?_
 obtain⟨HG,HR,HB⟩:=gT hw1;clear hw1;have NB:=cN (ax w1.heap.size w1);obtain⟨x0,x1,x2,x3,x4,x5,x6,x7,x8⟩:=(HG.o.below NB.o HG.o.lt).y9 0 1 2 3 4 5 6 7 8;simp at x0 x1 x2 x3 x4 x5 x6 x7 x8;obtain⟨y0,y1,y2,y3,y4,y5,y6,y7,y8⟩:=(HR.o.below NB.o HR.o.lt).y9 0 1 2 3 4 5 6 7 8;simp at y0 y1 y2 y3 y4 y5 y6 y7 y8;rcases nf a1 b1 with⟨H1,t1⟩|h
 focus go_wp2_with fail
 refine(jA w1 _ _ a0 b0 trivial (El.up L0.o (HB.o.trans (NB.o.mono HB.o.size))) (El.up R0.o (HB.o.trans (NB.o.mono HB.o.size)))).mono ?_;rintro e RU ⟨rfl,hb⟩;have Oi:=cN (NB.o.trans (hb.mono NB.o.size));clear NB hb x0 y0 x1 y1 x2 y2 x3 y3 x4 y4 x5 y5 x6 y6 x7 y7 x8 y8;have NB:=Oi;clear Oi;rcases Classical.em (a0=b0)with h|h
 rw[eu h];have H0:=cN h;clear h
 ·go_wp2_with fail
  go_ret;exact⟨ku (by rw[H1.o,H0.o]),HB.o.trans (NB.o.mono HB.o.size)⟩
 all_goals
  first|have t:=xJ h|rw[gb h]
  go_wp2_with fail
  go_ret
  exact⟨kG fun e=>h (by cases e;rfl),HB.o.trans (NB.o.mono HB.o.size)⟩
theorem xF:SE fY 176 iK (fun _=>True):=by
 intro w cs cs' x y hp hx hy;have HP:=cN hp;clear hp;obtain⟨a0,a1⟩:=x;obtain⟨b0,b1⟩:=y;obtain⟨ce,rfl,hv⟩:=hx;obtain⟨de,rfl,hu⟩:=hy;obtain⟨H,A0,m0,c0,ks,rfl,hks⟩:=dC hv;obtain⟨zH,zA0,zm0,zc0,zks,rfl,Ty⟩:=dC hu;clear hks Ty;dsimp only at hv hu;have L0:=cN hv;have R0:=cN hu;clear hv hu;simp only[iK,cT,List.cons_append,List.nil_append];go_enter Tryz.func176,Tryz.ntmps176;go_upto_region 1 with fail
 refine P8 fun w1 hw1=>?_
 obtain⟨HG,HR,HB⟩:=gT hw1;clear hw1;have NB:=cN (ax w1.heap.size w1);obtain⟨x0,x1,x2,x3,x4,x5,x6,x7,x8⟩:=(HG.o.below NB.o HG.o.lt).y9 0 1 2 3 4 5 6 7 8;simp at x0 x1 x2 x3 x4 x5 x6 x7 x8;obtain⟨y0,y1,y2,y3,y4,y5,y6,y7,y8⟩:=(HR.o.below NB.o HR.o.lt).y9 0 1 2 3 4 5 6 7 8;simp at y0 y1 y2 y3 y4 y5 y6 y7 y8;rcases mH a1 b1 with⟨H1,t1⟩|h
 focus go_wp2_with fail
 refine(jA w1 _ _ a0 b0 trivial (El.up L0.o (HB.o.trans (NB.o.mono HB.o.size))) (El.up R0.o (HB.o.trans (NB.o.mono HB.o.size)))).mono ?_;rintro e RU ⟨rfl,hb⟩;have Oi:=cN (NB.o.trans (hb.mono NB.o.size));clear NB hb x0 y0 x1 y1 x2 y2 x3 y3 x4 y4 x5 y5 x6 y6 x7 y7 x8 y8;have NB:=Oi;clear Oi;rcases Classical.em (a0=b0)with h|h
 rw[eu h];have H0:=cN h;clear h
 ·go_wp2_with fail
  go_ret;exact⟨ku (by rw[H1.o,H0.o]),HB.o.trans (NB.o.mono HB.o.size)⟩
 all_goals
  first|have t:=qg h|rw[gb h]
  go_wp2_with fail
  go_ret
  exact⟨kG fun e=>h (by cases e;rfl),HB.o.trans (NB.o.mono HB.o.size)⟩
end
end Go.Proofs.YtnicfobpclehkaaGreatDoor
