import Derived.Test.YtnicfobpclehkaaGreatDoorP25
set_option maxHeartbeats 3200000
set_option linter.unusedVariables false
set_option linter.unusedSimpArgs false
namespace Go.Proofs.YtnicfobpclehkaaGreatDoor
open Go.RowKit
section
set_option maxRecDepth 100000
theorem Ac(C:RC)(st:I.St)(w:World)(h:PS C st w):
 Calls Tryz.prog 54 #[.pointer (some ⟨C.g,0,none⟩)] w (EPost df C w (I.gj C.text.size st)):=by
 have F0:=cN (Fr.start h.lt h.eU);clear h;go_enter Tryz.func54,Tryz.ntmps54;have F1:=cN (F0.o.new 30 #[.int .u8 0,.string ⟨#[]⟩,.string ⟨#[]⟩,.string ⟨#[]⟩,.int .u8 0,.slice none 0 0,.slice none 0 0,.slice none 0 0,.slice none 0 0,.slice none 0 0,.slice none 0 0,.bool false,.string ⟨#[]⟩]);obtain⟨w1,hw⟩:∃x,x=w.alloc (.cells #[.int .u8 0,.string ⟨#[]⟩,.string ⟨#[]⟩,.string ⟨#[]⟩,.int .u8 0,.slice none 0 0,.slice none 0 0,.slice none 0 0,.slice none 0 0,.slice none 0 0,.slice none 0 0,.bool false,.string ⟨#[]⟩] 30):=⟨_,rfl⟩;go_upto_region 1 with fail
 rw[←hw]at F1;rw[←hw];clear hw;go_wp2_with fail
 with_reducible refine(Fr.rv F1.o (xj C 11 13 [102,114,111,109] 11 13 ⟨#[102,114,111,109]⟩ rfl rfl rfl _ _ F1.o.q)).mono ?_
 rintro e w2 ⟨A1,m1,c1,A2,m2,c2,A3,m3,c3,A4,m4,c4,A5,m5,c5,A6,m6,c6,x2,s2,hX2,rfl,hF⟩;have X2:=cN hX2;have F2:=cN hF;clear hF hX2;obtain⟨NU,NV,NW,NY,NZ,N0,N3,Og,Ot,OP,NP,NQ,NR⟩:=F2.o.cQ.y13 0 1 2 3 4 5 6 7 8 9 10 11 12;simp at NU NV NW NY NZ N0 N3 Og Ot OP NP NQ NR;obtain⟨O6,Pa,Pb,Pm,Pn,Pp,Pq,PQ,P9,QE,OQ,OR,OS⟩:=F2.o.cQ.Qj 0 1 2 3 4 5 6 7 8 9 10 11 12;go_wp2_with fail
 have FZ:=cN (F2.o.pj (fZ (Ch.refl _ _ _) (.inl rfl) _ _ _ _ _ _ _ _ _ _ _ _ _) (fe F2.o.cQ (.int .u8 (x2.k.toNat:Int)) (.string (I.bs x2.nm)) (.string (I.bs x2.on)) (.string (I.bs x2.NG)) (.int .u8 (x2.ev.toNat:Int)) (.slice A1 m1 c1) (.slice A2 m2 c2) (.slice A3 m3 c3) (.slice A4 m4 c4) (.slice A5 m5 c5) (.slice A6 m6 c6) (.bool x2.opt) (.string (I.bs x2.key))));have HS:Hid (I.gj C.text.size st=(x2,s2)):=by show _=_;simp only[I.gj,X2.o]
 refine ae (av rfl _ _ w.heap.size 30 _ (0,0) _ rfl FZ.o.cQ dd rfl cZ) rfl ?_;rw[HS.o];exact FZ.o.done (FZ.o.N6)
theorem BQ(C:RC)(st:I.St)(w:World)(h:PS C st w):
 Calls Tryz.prog 53 #[.pointer (some ⟨C.g,0,none⟩)] w (EPost df C w (I.fE C.text.size st)):=by
 have F0:=cN (Fr.start h.lt h.eU);clear h;go_enter Tryz.func53,Tryz.ntmps53;have F1:=cN (F0.o.new 30 #[.int .u8 0,.string ⟨#[]⟩,.string ⟨#[]⟩,.string ⟨#[]⟩,.int .u8 0,.slice none 0 0,.slice none 0 0,.slice none 0 0,.slice none 0 0,.slice none 0 0,.slice none 0 0,.bool false,.string ⟨#[]⟩]);obtain⟨w1,hw⟩:∃x,x=w.alloc (.cells #[.int .u8 0,.string ⟨#[]⟩,.string ⟨#[]⟩,.string ⟨#[]⟩,.int .u8 0,.slice none 0 0,.slice none 0 0,.slice none 0 0,.slice none 0 0,.slice none 0 0,.slice none 0 0,.bool false,.string ⟨#[]⟩] 30):=⟨_,rfl⟩;go_upto_region 1 with fail
 rw[←hw]at F1;rw[←hw];clear hw;go_wp2_with fail
 with_reducible refine(Fr.rv F1.o (xj C 10 12 [116,111] 10 12 ⟨#[116,111]⟩ rfl rfl rfl _ _ F1.o.q)).mono ?_
 rintro e w2 ⟨A1,m1,c1,A2,m2,c2,A3,m3,c3,A4,m4,c4,A5,m5,c5,A6,m6,c6,x2,s2,hX2,rfl,hF⟩;have X2:=cN hX2;have F2:=cN hF;clear hF hX2;go_upto_region 2 with fail
 have F3:=cN (F2.o.new 30 #[.int .u8 (x2.k.toNat:Int),.string (I.bs x2.nm),.string (I.bs x2.on),.string (I.bs x2.NG),.int .u8 (x2.ev.toNat:Int),.slice A1 m1 c1,.slice A2 m2 c2,.slice A3 m3 c3,.slice A4 m4 c4,.slice A5 m5 c5,.slice A6 m6 c6,.bool x2.opt,.string (I.bs x2.key)]);obtain⟨w3,hw⟩:∃x,x=w2.alloc (.cells #[.int .u8 (x2.k.toNat:Int),.string (I.bs x2.nm),.string (I.bs x2.on),.string (I.bs x2.NG),.int .u8 (x2.ev.toNat:Int),.slice A1 m1 c1,.slice A2 m2 c2,.slice A3 m3 c3,.slice A4 m4 c4,.slice A5 m5 c5,.slice A6 m6 c6,.bool x2.opt,.string (I.bs x2.key)] 30):=⟨_,rfl⟩;obtain⟨g3,hg⟩:∃x,x=w2.heap.size:=⟨_,rfl⟩;rw[←hw,←hg]at F3;rw[←hw,←hg];clear hw hg;have t0:=F3.o.cQ.cell 0;simp at t0;by_cases hk:x2.k=12
 ·have q3:((x2.k.toNat:Int)==12)=true:=by simp[hk]
  have H3:=cN hk;clear hk;go_wp2_with fail
  with_reducible refine(eh ⟨#[119,105,116,104]⟩ [119,105,116,104] rfl F3.o).mono ?_
  rintro e w4 ⟨b,hb,rfl,hF⟩;cases b with
  |true=>
   have V6:=cN hb;have F4:Hid (Fr C.g w _ _ (PS C (I.next s2)) w4):=hF;clear hF hb;clear t0;go_wp2_with fail
   with_reducible refine(dE F4.o (n:=2) (cells:=#[.string ⟨#[103,114,97,110,116]⟩,.string ⟨#[111,112,116,105,111,110]⟩]) [[103,114,97,110,116],[111,112,116,105,111,110]] rfl rfl (by decide)).mono ?_
   rintro e w5 ⟨s4,QD,rfl,hF⟩;have E4:=cN QD;have F5:=cN hF;clear hF QD;have YE:=F5.o.cQ.cell 11;simp at YE;have kz11:=F5.o.cQ.frozen 11;go_upto_region 5 with fail
   have F6:=cN (F5.o.ew 11 (.bool true) (cs':=#[.int .u8 (x2.k.toNat:Int),.string (I.bs x2.nm),.string (I.bs x2.on),.string (I.bs x2.NG),.int .u8 (x2.ev.toNat:Int),.slice A1 m1 c1,.slice A2 m2 c2,.slice A3 m3 c3,.slice A4 m4 c4,.slice A5 m5 c5,.slice A6 m6 c6,.bool true,.string (I.bs x2.key)]) rfl);obtain⟨w6,hw⟩:∃x,x=w5.setCell ⟨g3,11,none⟩ (.bool true):=⟨_,rfl⟩;rw[←hw]at F6;rw[←hw];clear hw YE kz11;obtain⟨Om,On,Oo,Ox,Oy,Oz,OA,OK,OU,PI,Oc,Od,Oe⟩:=F6.o.cQ.y13 0 1 2 3 4 5 6 7 8 9 10 11 12;simp at Om On Oo Ox Oy Oz OA OK OU PI Oc Od Oe;obtain⟨NU,NV,NW,NY,NZ,N0,N3,Og,Ot,OP,NP,NQ,NR⟩:=F6.o.cR.y13 0 1 2 3 4 5 6 7 8 9 10 11 12;simp at NU NV NW NY NZ N0 N3 Og Ot OP NP NQ NR;obtain⟨O6,Pa,Pb,Pm,Pn,Pp,Pq,PQ,P9,QE,OQ,OR,OS⟩:=F6.o.cR.Qj 0 1 2 3 4 5 6 7 8 9 10 11 12;go_wp2_with fail
   have FZ:=cN (F6.o.fA (fZ (Ch.refl _ _ _) (.inl rfl) _ _ _ _ _ _ _ _ _ _ _ _ _) (fe F6.o.cR (.int .u8 (x2.k.toNat:Int)) (.string (I.bs x2.nm)) (.string (I.bs x2.on)) (.string (I.bs x2.NG)) (.int .u8 (x2.ev.toNat:Int)) (.slice A1 m1 c1) (.slice A2 m2 c2) (.slice A3 m3 c3) (.slice A4 m4 c4) (.slice A5 m5 c5) (.slice A6 m6 c6) (.bool true) (.string (I.bs x2.key))));have HS:Hid (I.fE C.text.size st=(({x2 with opt:=true}:I.NC),s4)):=by show _=_;simp only[I.fE,X2.o,H3.o,V6.o,E4.o,and_self,bo]
   refine ae (av rfl _ _ w.heap.size 30 _ (0,0) _ rfl FZ.o.cR dd rfl cZ) rfl ?_;rw[HS.o];exact FZ.o.done (by
    obtain⟨v1,v2,v3,v4,v5,v6,he,hR⟩:=FZ.o.N6
    simp only[List.cons.injEq,and_true,true_and]at he
    obtain⟨rfl,rfl,rfl,rfl,rfl,rfl⟩:=he
    exact⟨_,_,_,_,_,_,rfl,hR⟩)
  |false=>
   have V6:=cN hb;have F4:Hid (Fr C.g w _ _ (PS C s2) w4):=hF;clear hF hb;clear t0;obtain⟨Om,On,Oo,Ox,Oy,Oz,OA,OK,OU,PI,Oc,Od,Oe⟩:=F4.o.cQ.y13 0 1 2 3 4 5 6 7 8 9 10 11 12;simp at Om On Oo Ox Oy Oz OA OK OU PI Oc Od Oe;obtain⟨NU,NV,NW,NY,NZ,N0,N3,Og,Ot,OP,NP,NQ,NR⟩:=F4.o.cR.y13 0 1 2 3 4 5 6 7 8 9 10 11 12;simp at NU NV NW NY NZ N0 N3 Og Ot OP NP NQ NR;obtain⟨O6,Pa,Pb,Pm,Pn,Pp,Pq,PQ,P9,QE,OQ,OR,OS⟩:=F4.o.cR.Qj 0 1 2 3 4 5 6 7 8 9 10 11 12;go_wp2_with fail
   have FZ:=cN (F4.o.fA (fZ (Ch.refl _ _ _) (.inl rfl) _ _ _ _ _ _ _ _ _ _ _ _ _) (fe F4.o.cR (.int .u8 (x2.k.toNat:Int)) (.string (I.bs x2.nm)) (.string (I.bs x2.on)) (.string (I.bs x2.NG)) (.int .u8 (x2.ev.toNat:Int)) (.slice A1 m1 c1) (.slice A2 m2 c2) (.slice A3 m3 c3) (.slice A4 m4 c4) (.slice A5 m5 c5) (.slice A6 m6 c6) (.bool x2.opt) (.string (I.bs x2.key))));have HS:Hid (I.fE C.text.size st=(x2,s2)):=by show _=_;simp only[I.fE,X2.o,V6.o,and_false,aO,bx]
   refine ae (av rfl _ _ w.heap.size 30 _ (0,0) _ rfl FZ.o.cR dd rfl cZ) rfl ?_;rw[HS.o];exact FZ.o.done (FZ.o.N6)
 ·have q3:((x2.k.toNat:Int)==12)=false:=xV (b:=12) hk;have H3:=cN hk;clear hk;obtain⟨Om,On,Oo,Ox,Oy,Oz,OA,OK,OU,PI,Oc,Od,Oe⟩:=F3.o.cQ.y13 0 1 2 3 4 5 6 7 8 9 10 11 12;simp at Om On Oo Ox Oy Oz OA OK OU PI Oc Od Oe;obtain⟨NU,NV,NW,NY,NZ,N0,N3,Og,Ot,OP,NP,NQ,NR⟩:=F3.o.cR.y13 0 1 2 3 4 5 6 7 8 9 10 11 12;simp at NU NV NW NY NZ N0 N3 Og Ot OP NP NQ NR;obtain⟨O6,Pa,Pb,Pm,Pn,Pp,Pq,PQ,P9,QE,OQ,OR,OS⟩:=F3.o.cR.Qj 0 1 2 3 4 5 6 7 8 9 10 11 12;go_wp2_with fail
  have FZ:=cN (F3.o.fA (fZ (Ch.refl _ _ _) (.inl rfl) _ _ _ _ _ _ _ _ _ _ _ _ _) (fe F3.o.cR (.int .u8 (x2.k.toNat:Int)) (.string (I.bs x2.nm)) (.string (I.bs x2.on)) (.string (I.bs x2.NG)) (.int .u8 (x2.ev.toNat:Int)) (.slice A1 m1 c1) (.slice A2 m2 c2) (.slice A3 m3 c3) (.slice A4 m4 c4) (.slice A5 m5 c5) (.slice A6 m6 c6) (.bool x2.opt) (.string (I.bs x2.key))));have HS:Hid (I.fE C.text.size st=(x2,s2)):=by show _=_;simp only[I.fE,X2.o,H3.o,false_and,bx]
  refine ae (av rfl _ _ w.heap.size 30 _ (0,0) _ rfl FZ.o.cR dd rfl cZ) rfl ?_;rw[HS.o];exact FZ.o.done (FZ.o.N6)
end
section
namespace I
open Ev (Ex)
theorem xD(T:Nat)(st:St):(fD T st).r.length≤st.r.length:=by
 unfold fD;split
 ·exact j6 T 300 st
 ·exact j6 T 3 st
theorem FY{α:Type}{T most:Nat}{one:St→α×St}(h:eZ one):∀(f:Nat) (l:List α) (st:St),(more T most one f l st).2.r.length≤st.r.length:=by
 intro f;induction f with
 |zero=>intro l st;exact aa _
 |succ f ih=>
  intro l st;unfold more;split
  ·split
   ·exact aw (xD T _) (dq st)
   ·exact aw (ih _ _) (aw (h _) (dq st))
  ·exact aa _
theorem CT{α:Type}{T most:Nat}{one:St→α×St}(h:eZ one):eZ (list T most one):=by
 intro st;unfold list;exact aw (FY h _ _ _) (h st)
theorem D3(T:Nat):eZ (row T):=ko (CT (ie T))
theorem DT(T:Nat):eZ (item T):=by
 intro st;unfold item;have h1:=ie T st;revert h1;cases expr T st with
 |mk e s=>
  intro h1;simp only at h1⊢;split
  ·exact aw (gC T _) (aw (dq s) h1)
  ·exact h1
theorem zX(T:Nat):eZ (order T):=by
 intro st;unfold order;have h1:=ie T st;revert h1;cases expr T st with
 |mk e s=>
  intro h1;simp only at h1⊢;split
  ·exact aw (dq s) h1
  ·split
   ·exact aw (dq s) h1
   ·exact h1
theorem Ck(T:Nat):eZ (ny T):=by
 intro st;unfold ny;have h1:=gC T st;revert h1;cases name T st with
 |mk e s=>
  intro h1;simp only at h1⊢;have h2:=ie T (expect T [[61]] s);have h3:=eH T [[61]] s;revert h2;cases expr T (expect T [[61]] s)with
  |mk x s2=>
   intro h2;simp only at h2⊢;omega
theorem wm(T:Nat):eZ (action T):=by
 intro st;unfold action;split
 ·have h1:=nT T [[114,101,115,116,114,105,99,116],[99,97,115,99,97,100,101],[115,101,116]] 0 (expect T [[100,101,108,101,116,101]] (next st));have h2:=eH T [[100,101,108,101,116,101]] (next st);have h3:=dq st;revert h1;cases choose T 0 [[114,101,115,116,114,105,99,116],[99,97,115,99,97,100,101],[115,101,116]] (expect T [[100,101,108,101,116,101]] (next st))with
  |mk i s=>
   intro h1;simp only at h1⊢;split
   ·have:=eH T [[110,117,108,108]] s;simp only;omega
   ·show s.r.length≤_;omega
 ·exact aa _
theorem DQ(T:Nat):eZ (fp T):=by
 intro st;unfold fp;have h1:=gC T st;revert h1;cases name T st with
 |mk e s=>
  intro h1;simp only at h1⊢;have h2:=nT T [[105,110,116],[100,101,99],[98,111,111,108],[116,101,120,116],[98,121,116,101,115]] 0 s;revert h2;cases choose T 0 [[105,110,116],[100,101,99],[98,111,111,108],[116,101,120,116],[98,121,116,101,115]] s with
  |mk i s2=>
   intro h2;simp only at h2⊢;omega
theorem BL(T:Nat)(c:Oj)(st:St):(fW T c st).2.r.length≤st.r.length:=by
 unfold fW;split
 ·exact aw (eH T _ _) (dq st)
 ·exact aa _
theorem Cn(T:Nat)(c:Oj)(st:St):(iu T c st).2.r.length≤st.r.length:=by
 unfold iu;split
 ·exact aw (eH T _ _) (dq st)
 ·exact aa _
theorem Cp(c:Oj)(st:St):(iM c st).2.r.length≤st.r.length:=by
 unfold iM;split
 ·exact dq st
 ·exact aa _
theorem CZ(T:Nat)(c:Oj)(st:St):(kH T c st).2.r.length≤st.r.length:=by
 unfold kH;split
 ·exact aw (ko (ie T) _) (dq st)
 ·exact aa _
theorem BV(T:Nat)(c:Oj)(st:St):(lF T c st).2.r.length≤st.r.length:=by
 unfold lF;split
 ·exact aw (wm T _) (aw (gC T _) (dq st))
 ·exact aa _
theorem Au(T:Nat)(st:St):column T st=lF T (kH T (iM (iu T (fW T (fp T st).1 (fp T st).2).1 (fW T (fp T st).1 (fp T st).2).2).1 (iu T (fW T (fp T st).1 (fp T st).2).1 (fW T (fp T st).1 (fp T st).2).2).2).1 (iM (iu T (fW T (fp T st).1 (fp T st).2).1 (fW T (fp T st).1 (fp T st).2).2).1 (iu T (fW T (fp T st).1 (fp T st).2).1 (fW T (fp T st).1 (fp T st).2).2).2).2).1 (kH T (iM (iu T (fW T (fp T st).1 (fp T st).2).1 (fW T (fp T st).1 (fp T st).2).2).1 (iu T (fW T (fp T st).1 (fp T st).2).1 (fW T (fp T st).1 (fp T st).2).2).2).1 (iM (iu T (fW T (fp T st).1 (fp T st).2).1 (fW T (fp T st).1 (fp T st).2).2).1 (iu T (fW T (fp T st).1 (fp T st).2).1 (fW T (fp T st).1 (fp T st).2).2).2).2).2:=rfl
theorem G5(T:Nat):eZ (column T):=by
 intro st;rw[Au];exact aw (BV T _ _) (aw (CZ T _ _) (aw (Cp _ _) (aw (Cn T _ _) (aw (BL T _ _) (DQ T st)))))
end I
end
section
set_option maxRecDepth 100000
section
variable{g:Nat}{w0 w w':World}{own:eP}{its:List It}{Q:World→Prop}
theorem Fr.Ig{α:Type}{E:El α}{cs:List Value}{x:α}{p:Nat×TypeId×Array Value}{b:Nat}{t:TypeId}{cells:Array Value}(h:Fr g w0 (p::(b,t,cells)::own) (It.el E cs x::its) Q w)(t':TypeId)(i:Nat){cells':Array Value}(e:cells.setIfInBounds i (.slice (some ⟨w.heap.size,0,none⟩) 1 1)=cells'):
 Fr g w0 (p::(b,t,cells')::own) (It.rr E (.slice (some ⟨w.heap.size,0,none⟩) 1 1) [x]::It.el E cs x::its) Q ((w.setCell ⟨b,i,none⟩ (.slice (some ⟨w.heap.size,0,none⟩) 1 1)).alloc (.cells cs.toArray t')):=
 (h.swap.sq t' i e).swap
theorem Fr.MU{v:Value}{xs:List Ev.Ex}(h:Fr g w0 own (It.rr NI v xs::its) Q w):Fr g w0 own (It.el fO [v] xs::It.rr NI v xs::its) Q w:=
 h.item _ ⟨v,rfl,h.N6⟩
theorem sW{b:Nat}{t:TypeId}{cs:Array Value}{L:List (Nat×Obj)}(h:iH ((b,.cells cs t (0,0))::L) w):NA w b t cs:=(show∀p∈_,_ from h) (b,.cells cs t (0,0)) ag
theorem Fr.Xf{F G K L:It}(h:Fr g w0 own (G::K::L::F::its) Q w):F.P w (ju w0.heap.size own w):=h.its F (by simp)
end
theorem Eg(C:RC)(gB:Nat)(hBg:gB≠C.g)(st:I.St)(w:World)(h:PS C st w)(hB:NA w gB 70 #[.pointer (some ⟨C.g,0,none⟩)]):
 Calls Tryz.prog 204 #[.pointer (some ⟨gB,0,none⟩)] w (kx NI C w (I.list C.text.size 16 (I.expr C.text.size) st)):=by
 have HB:=cN hB;have hBl:=lt_of_block hB;clear hB;have F0:=cN (Fr.start h.lt h.eU);clear h;go_enter Tryz.func204,Tryz.ntmps204;have d0:=HB.o.cell 0;simp at d0;go_wp2_with fail
 with_reducible refine(Fr.mr F0.o (sM C 138 #[.pointer (some ⟨C.g,0,none⟩)] #[] #[.pointer (some ⟨C.g,0,none⟩)] (fun w=>by simp[go_sem]) [] km 16 16 rfl (by decide) (by decide) (I.expr C.text.size) (I.ie _) st.r.length (ig fun st w hp=>iq C st w hp) st _ (aa _) F0.o.q (iH.none _))).mono ?_
 rintro e w1 ⟨v1,xs1,s1,hX1,rfl,hF⟩;have X1:=cN hX1;have F1:=cN hF;clear hF hX1;clear d0;have HS:Hid (I.list C.text.size 16 (I.expr C.text.size) st=(xs1,s1)):=by show _=_;simp only[X1.o]
 go_wp2_with fail
 go_ret;rw[HS.o];exact F1.o.pZ
theorem BG(C:RC)(st:I.St)(w:World)(h:PS C st w):
 Calls Tryz.prog 135 #[.pointer (some ⟨C.g,0,none⟩)] w (kx NI C w (I.row C.text.size st)):=by
 have F0:=cN (Fr.start h.lt h.eU);clear h;go_enter Tryz.func135,Tryz.ntmps135;have Q6:=cN (F0.o.new 70 #[.pointer (some ⟨C.g,0,none⟩)]);obtain⟨w1,hw⟩:∃x,x=w.alloc (.cells #[.pointer (some ⟨C.g,0,none⟩)] 70):=⟨_,rfl⟩;obtain⟨gB,hgB⟩:∃x,x=w.heap.size:=⟨_,rfl⟩;go_upto_region 1 with fail
 have F1:=cN Q6.o;rw[←hw,←hgB]at F1;rw[←hw,←hgB];clear hw Q6;have hBg:gB≠C.g:=by have:=F1.o.lt;omega
 clear hgB;have d0:=F1.o.cQ.cell 0;simp at d0;have HB:=cN F1.o.cQ;go_wp2_with fail
 with_reducible refine(Fr.mr F1.o (sH C 204 #[] #[.pointer (some ⟨gB,0,none⟩)] #[.pointer (some ⟨gB,0,none⟩)] (fun w=>by simp[go_sem]) [(gB,.cells #[.pointer (some ⟨C.g,0,none⟩)] 70 (0,0))] (uY hBg) (I.list C.text.size 16 (I.expr C.text.size)) (fun st2 w2 hp hL=>Eg C gB hBg st2 w2 hp (sW hL)) st _ F1.o.q (oP HB.o))).mono ?_
 rintro e w2 ⟨v2,Yr,s2,hX2,rfl,hF⟩;have X2:=cN hX2;have F2:=cN hF;clear hF hX2;clear d0;have HS:Hid (I.row C.text.size st=(Yr,s2)):=by show _=_;simp only[I.row,X2.o]
 go_wp2_with fail
 go_ret;rw[HS.o];exact F2.o.pZ
theorem zl(C:RC)(st:I.St)(w:World)(h:PS C st w):
 Calls Tryz.prog 55 #[.pointer (some ⟨C.g,0,none⟩)] w (EPost df C w (I.insert C.text.size st)):=by
 have F0:=cN (Fr.start h.lt h.eU);clear h;go_enter Tryz.func55,Tryz.ntmps55;have F1:=cN (F0.o.new 30 #[.int .u8 0,.string ⟨#[]⟩,.string ⟨#[]⟩,.string ⟨#[]⟩,.int .u8 0,.slice none 0 0,.slice none 0 0,.slice none 0 0,.slice none 0 0,.slice none 0 0,.slice none 0 0,.bool false,.string ⟨#[]⟩]);obtain⟨w1,hw⟩:∃x,x=w.alloc (.cells #[.int .u8 0,.string ⟨#[]⟩,.string ⟨#[]⟩,.string ⟨#[]⟩,.int .u8 0,.slice none 0 0,.slice none 0 0,.slice none 0 0,.slice none 0 0,.slice none 0 0,.slice none 0 0,.bool false,.string ⟨#[]⟩] 30):=⟨_,rfl⟩;go_upto_region 1 with fail
 rw[←hw]at F1;rw[←hw];clear hw;go_upto_region 2 with fail
 have F2:=cN (F1.o.new 30 #[.int .u8 14,.string ⟨#[]⟩,.string ⟨#[]⟩,.string ⟨#[]⟩,.int .u8 0,.slice none 0 0,.slice none 0 0,.slice none 0 0,.slice none 0 0,.slice none 0 0,.slice none 0 0,.bool false,.string ⟨#[]⟩]);obtain⟨w2,hw⟩:∃x,x=w1.alloc (.cells #[.int .u8 14,.string ⟨#[]⟩,.string ⟨#[]⟩,.string ⟨#[]⟩,.int .u8 0,.slice none 0 0,.slice none 0 0,.slice none 0 0,.slice none 0 0,.slice none 0 0,.slice none 0 0,.bool false,.string ⟨#[]⟩] 30):=⟨_,rfl⟩;obtain⟨g2,hg⟩:∃x,x=w1.heap.size:=⟨_,rfl⟩;rw[←hw,←hg]at F2;rw[←hw,←hg];clear hw hg;go_wp2_with fail
 with_reducible refine(dE F2.o (n:=1) (cells:=#[.string ⟨#[105,110,116,111]⟩]) [[105,110,116,111]] rfl rfl (by decide)).mono ?_
 rintro e w3 ⟨s3,SJ,rfl,hF⟩;have E3:=cN SJ;have F3:=cN hF;clear hF SJ;go_wp2_with fail
 with_reducible refine(fk F3.o).mono ?_
 rintro e w4 ⟨n4,s4,YF,YG,rfl,hF⟩;have N4:=cN YF;have Z4:=cN YG;have F4:=cN hF;clear hF YF YG;have QT:=F4.o.cQ.cell 1;simp at QT;have SD:=F4.o.cQ.frozen 1;go_upto_region 4 with fail
 have F5:=cN (F4.o.ew 1 (.string (I.bs n4)) (cs':=#[.int .u8 14,.string (I.bs n4),.string ⟨#[]⟩,.string ⟨#[]⟩,.int .u8 0,.slice none 0 0,.slice none 0 0,.slice none 0 0,.slice none 0 0,.slice none 0 0,.slice none 0 0,.bool false,.string ⟨#[]⟩]) rfl);obtain⟨w5,hw⟩:∃x,x=w4.setCell ⟨g2,1,none⟩ (.string (I.bs n4)):=⟨_,rfl⟩;rw[←hw]at F5;rw[←hw];clear hw QT SD;go_wp2_with fail
 with_reducible refine(dE F5.o (n:=1) (cells:=#[.string ⟨#[118,97,108,117,101,115]⟩]) [[118,97,108,117,101,115]] rfl rfl (by decide)).mono ?_
 rintro e w6 ⟨s6,Vj,rfl,hF⟩;have E6:=cN Vj;have F6:=cN hF;clear hF Vj;go_wp2_with fail
 with_reducible refine(Fr.mr F6.o (wz C 135 #[.pointer (some ⟨C.g,0,none⟩)] #[] #[.pointer (some ⟨C.g,0,none⟩)] (fun w=>by simp[go_sem]) [] km 16 16 rfl (by decide) (by decide) (I.row C.text.size) (I.D3 _) s6.r.length (ig fun st w hp=>BG C st w hp) s6 _ (aa _) F6.o.q (iH.none _))).mono ?_
 rintro e w7 ⟨v7,xs7,s7,YH,rfl,hF⟩;have X7:=cN YH;have F7:=cN hF;clear hF YH;obtain⟨A7,m7,c7,rfl⟩:=dj F7.o.N6;have Ui:=F7.o.cQ.cell 7;simp at Ui;have Xd:=F7.o.cQ.frozen 7;go_upto_region 6 with fail
 have F8:=cN (F7.o.ew 7 (.slice A7 m7 c7) (cs':=#[.int .u8 14,.string (I.bs n4),.string ⟨#[]⟩,.string ⟨#[]⟩,.int .u8 0,.slice none 0 0,.slice none 0 0,.slice A7 m7 c7,.slice none 0 0,.slice none 0 0,.slice none 0 0,.bool false,.string ⟨#[]⟩]) rfl);obtain⟨w8,hw⟩:∃x,x=w7.setCell ⟨g2,7,none⟩ (.slice A7 m7 c7):=⟨_,rfl⟩;rw[←hw]at F8;rw[←hw];clear hw Ui Xd;obtain⟨Om,On,Oo,Ox,Oy,Oz,OA,OK,OU,PI,Oc,Od,Oe⟩:=F8.o.cQ.y13 0 1 2 3 4 5 6 7 8 9 10 11 12;simp at Om On Oo Ox Oy Oz OA OK OU PI Oc Od Oe;obtain⟨NU,NV,NW,NY,NZ,N0,N3,Og,Ot,OP,NP,NQ,NR⟩:=F8.o.cR.y13 0 1 2 3 4 5 6 7 8 9 10 11 12;simp at NU NV NW NY NZ N0 N3 Og Ot OP NP NQ NR;obtain⟨O6,Pa,Pb,Pm,Pn,Pp,Pq,PQ,P9,QE,OQ,OR,OS⟩:=F8.o.cR.Qj 0 1 2 3 4 5 6 7 8 9 10 11 12;go_wp2_with fail
 have FZ:=cN (F8.o.fA (fZ (Ch.refl _ _ _) (.inl rfl) _ _ _ _ _ _ _ _ _ _ _ _ _) (fe F8.o.cR (.int .u8 14) (.string (I.bs n4)) (.string ⟨#[]⟩) (.string ⟨#[]⟩) (.int .u8 0) (.slice none 0 0) (.slice none 0 0) (.slice A7 m7 c7) (.slice none 0 0) (.slice none 0 0) (.slice none 0 0) (.bool false) (.string ⟨#[]⟩)));have HS:Hid (I.insert C.text.size st=(({I.NC.of 14 with nm:=n4,vals:=xs7}:I.NC),s7)):=by show _=_;simp only[I.insert,E3.o,N4.o,E6.o,X7.o]
 refine ae (av rfl _ _ w.heap.size 30 _ (0,0) _ rfl FZ.o.cR dd rfl cZ) rfl ?_;rw[HS.o];exact FZ.o.done (⟨_,_,_,_,_,_,rfl,Rr.nil _ _ _,Rr.nil _ _ _,FZ.o.N6,Rr.nil _ _ _,Rr.nil _ _ _,Rr.nil _ _ _,Sz.of Z4.o,Sz.of (ao _),Sz.of (ao _),Sz.of (ao _)⟩)
theorem yE(C:RC)(st:I.St)(w:World)(h:PS C st w):
 Calls Tryz.prog 57 #[.pointer (some ⟨C.g,0,none⟩)] w (EPost df C w (I.remove C.text.size st)):=by
 have F0:=cN (Fr.start h.lt h.eU);clear h;go_enter Tryz.func57,Tryz.ntmps57;have F1:=cN (F0.o.new 30 #[.int .u8 0,.string ⟨#[]⟩,.string ⟨#[]⟩,.string ⟨#[]⟩,.int .u8 0,.slice none 0 0,.slice none 0 0,.slice none 0 0,.slice none 0 0,.slice none 0 0,.slice none 0 0,.bool false,.string ⟨#[]⟩]);obtain⟨w1,hw⟩:∃x,x=w.alloc (.cells #[.int .u8 0,.string ⟨#[]⟩,.string ⟨#[]⟩,.string ⟨#[]⟩,.int .u8 0,.slice none 0 0,.slice none 0 0,.slice none 0 0,.slice none 0 0,.slice none 0 0,.slice none 0 0,.bool false,.string ⟨#[]⟩] 30):=⟨_,rfl⟩;go_upto_region 1 with fail
 rw[←hw]at F1;rw[←hw];clear hw;go_upto_region 2 with fail
 have F2:=cN (F1.o.new 30 #[.int .u8 16,.string ⟨#[]⟩,.string ⟨#[]⟩,.string ⟨#[]⟩,.int .u8 0,.slice none 0 0,.slice none 0 0,.slice none 0 0,.slice none 0 0,.slice none 0 0,.slice none 0 0,.bool false,.string ⟨#[]⟩]);obtain⟨w2,hw⟩:∃x,x=w1.alloc (.cells #[.int .u8 16,.string ⟨#[]⟩,.string ⟨#[]⟩,.string ⟨#[]⟩,.int .u8 0,.slice none 0 0,.slice none 0 0,.slice none 0 0,.slice none 0 0,.slice none 0 0,.slice none 0 0,.bool false,.string ⟨#[]⟩] 30):=⟨_,rfl⟩;obtain⟨g2,hg⟩:∃x,x=w1.heap.size:=⟨_,rfl⟩;rw[←hw,←hg]at F2;rw[←hw,←hg];clear hw hg;go_wp2_with fail
 with_reducible refine(dE F2.o (n:=1) (cells:=#[.string ⟨#[102,114,111,109]⟩]) [[102,114,111,109]] rfl rfl (by decide)).mono ?_
 rintro e w3 ⟨s3,SJ,rfl,hF⟩;have E3:=cN SJ;have F3:=cN hF;clear hF SJ;go_wp2_with fail
 with_reducible refine(fk F3.o).mono ?_
 rintro e w4 ⟨n4,s4,YF,YG,rfl,hF⟩;have N4:=cN YF;have Z4:=cN YG;have F4:=cN hF;clear hF YF YG;have QT:=F4.o.cQ.cell 1;simp at QT;have SD:=F4.o.cQ.frozen 1;go_upto_region 4 with fail
 have F5:=cN (F4.o.ew 1 (.string (I.bs n4)) (cs':=#[.int .u8 16,.string (I.bs n4),.string ⟨#[]⟩,.string ⟨#[]⟩,.int .u8 0,.slice none 0 0,.slice none 0 0,.slice none 0 0,.slice none 0 0,.slice none 0 0,.slice none 0 0,.bool false,.string ⟨#[]⟩]) rfl);obtain⟨w5,hw⟩:∃x,x=w4.setCell ⟨g2,1,none⟩ (.string (I.bs n4)):=⟨_,rfl⟩;rw[←hw]at F5;rw[←hw];clear hw QT SD;go_wp2_with fail
 with_reducible refine(Fr.mr F5.o (oU C _ _ F5.o.q)).mono ?_
 rintro e w6 ⟨v6,xs6,s6,YI,rfl,hF⟩;have X6:=cN YI;have F6:=cN hF;clear hF YI;obtain⟨A6,m6,c6,rfl⟩:=dj F6.o.N6;have Vk:=F6.o.cQ.cell 9;simp at Vk;have YJ:=F6.o.cQ.frozen 9;go_upto_region 5 with fail
 have F7:=cN (F6.o.ew 9 (.slice A6 m6 c6) (cs':=#[.int .u8 16,.string (I.bs n4),.string ⟨#[]⟩,.string ⟨#[]⟩,.int .u8 0,.slice none 0 0,.slice none 0 0,.slice none 0 0,.slice none 0 0,.slice A6 m6 c6,.slice none 0 0,.bool false,.string ⟨#[]⟩]) rfl);obtain⟨w7,hw⟩:∃x,x=w6.setCell ⟨g2,9,none⟩ (.slice A6 m6 c6):=⟨_,rfl⟩;rw[←hw]at F7;rw[←hw];clear hw Vk YJ;obtain⟨Om,On,Oo,Ox,Oy,Oz,OA,OK,OU,PI,Oc,Od,Oe⟩:=F7.o.cQ.y13 0 1 2 3 4 5 6 7 8 9 10 11 12;simp at Om On Oo Ox Oy Oz OA OK OU PI Oc Od Oe;obtain⟨NU,NV,NW,NY,NZ,N0,N3,Og,Ot,OP,NP,NQ,NR⟩:=F7.o.cR.y13 0 1 2 3 4 5 6 7 8 9 10 11 12;simp at NU NV NW NY NZ N0 N3 Og Ot OP NP NQ NR;obtain⟨O6,Pa,Pb,Pm,Pn,Pp,Pq,PQ,P9,QE,OQ,OR,OS⟩:=F7.o.cR.Qj 0 1 2 3 4 5 6 7 8 9 10 11 12;go_wp2_with fail
 have FZ:=cN (F7.o.fA (fZ (Ch.refl _ _ _) (.inl rfl) _ _ _ _ _ _ _ _ _ _ _ _ _) (fe F7.o.cR (.int .u8 16) (.string (I.bs n4)) (.string ⟨#[]⟩) (.string ⟨#[]⟩) (.int .u8 0) (.slice none 0 0) (.slice none 0 0) (.slice none 0 0) (.slice none 0 0) (.slice A6 m6 c6) (.slice none 0 0) (.bool false) (.string ⟨#[]⟩)));have HS:Hid (I.remove C.text.size st=(({I.NC.of 16 with nm:=n4,wh:=xs6}:I.NC),s6)):=by show _=_;simp only[I.remove,E3.o,N4.o,X6.o]
 refine ae (av rfl _ _ w.heap.size 30 _ (0,0) _ rfl FZ.o.cR dd rfl cZ) rfl ?_;rw[HS.o];exact FZ.o.done (⟨_,_,_,_,_,_,rfl,Rr.nil _ _ _,Rr.nil _ _ _,Rr.nil _ _ _,Rr.nil _ _ _,FZ.o.N6,Rr.nil _ _ _,Sz.of Z4.o,Sz.of (ao _),Sz.of (ao _),Sz.of (ao _)⟩)
theorem zp(C:RC)(st:I.St)(w:World)(h:PS C st w):
 Calls Tryz.prog 56 #[.pointer (some ⟨C.g,0,none⟩)] w (EPost df C w (I.update C.text.size st)):=by
 have F0:=cN (Fr.start h.lt h.eU);clear h;go_enter Tryz.func56,Tryz.ntmps56;have F1:Hid (Fr C.g w [(w.heap.size+1,30,#[.int .u8 0,.string ⟨#[]⟩,.string ⟨#[]⟩,.string ⟨#[]⟩,.int .u8 0,.slice none 0 0,.slice none 0 0,.slice none 0 0,.slice none 0 0,.slice none 0 0,.slice none 0 0,.bool false,.string ⟨#[]⟩]),(w.heap.size,70,#[.pointer (some ⟨C.g,0,none⟩)])] [] (PS C st) ((w.alloc (.cells #[.pointer (some ⟨C.g,0,none⟩)] 70)).alloc (.cells #[.int .u8 0,.string ⟨#[]⟩,.string ⟨#[]⟩,.string ⟨#[]⟩,.int .u8 0,.slice none 0 0,.slice none 0 0,.slice none 0 0,.slice none 0 0,.slice none 0 0,.slice none 0 0,.bool false,.string ⟨#[]⟩] 30))):=by have h1:=((F0.o.new 70 #[.pointer (some ⟨C.g,0,none⟩)]).new 30 #[.int .u8 0,.string ⟨#[]⟩,.string ⟨#[]⟩,.string ⟨#[]⟩,.int .u8 0,.slice none 0 0,.slice none 0 0,.slice none 0 0,.slice none 0 0,.slice none 0 0,.slice none 0 0,.bool false,.string ⟨#[]⟩]);rw[dc]at h1;exact h1
 obtain⟨w1,hw⟩:∃x,x=(w.alloc (.cells #[.pointer (some ⟨C.g,0,none⟩)] 70)).alloc (.cells #[.int .u8 0,.string ⟨#[]⟩,.string ⟨#[]⟩,.string ⟨#[]⟩,.int .u8 0,.slice none 0 0,.slice none 0 0,.slice none 0 0,.slice none 0 0,.slice none 0 0,.slice none 0 0,.bool false,.string ⟨#[]⟩] 30):=⟨_,rfl⟩;go_upto_region 1 with fail
 rw[←hw]at F1;rw[←hw];clear hw;obtain⟨gX,Ph⟩:∃g,g=w.heap.size+1:=⟨_,rfl⟩;obtain⟨gB,hgB⟩:∃g,g=w.heap.size:=⟨_,rfl⟩;rw[←Ph,←hgB]at F1;rw[←Ph,←hgB];have hBg:gB≠C.g:=by have:=F1.o.lt;omega
 clear Ph hgB;skip;have d0:=F1.o.cR.cell 0;simp at d0;go_wp2_with fail
 with_reducible refine(fk F1.o).mono ?_
 rintro e w2 ⟨n2,s2,Qn,hZ2,rfl,hF⟩;have N2:=cN Qn;have Z2:=cN hZ2;have F2:=cN hF;clear hF Qn hZ2;clear d0;have d0:=F2.o.cR.cell 0;simp at d0;go_upto_region 2 with fail
 have F3:=cN (F2.o.new 30 #[.int .u8 15,.string (I.bs n2),.string ⟨#[]⟩,.string ⟨#[]⟩,.int .u8 0,.slice none 0 0,.slice none 0 0,.slice none 0 0,.slice none 0 0,.slice none 0 0,.slice none 0 0,.bool false,.string ⟨#[]⟩]);obtain⟨w3,hw⟩:∃x,x=w2.alloc (.cells #[.int .u8 15,.string (I.bs n2),.string ⟨#[]⟩,.string ⟨#[]⟩,.int .u8 0,.slice none 0 0,.slice none 0 0,.slice none 0 0,.slice none 0 0,.slice none 0 0,.slice none 0 0,.bool false,.string ⟨#[]⟩] 30):=⟨_,rfl⟩;obtain⟨g3,hg⟩:∃x,x=w2.heap.size:=⟨_,rfl⟩;rw[←hw,←hg]at F3;rw[←hw,←hg];clear hw hg;clear d0;have d0:=F3.o.dR.cell 0;simp at d0;go_wp2_with fail
 with_reducible refine(dE F3.o (n:=1) (cells:=#[.string ⟨#[115,101,116]⟩]) [[115,101,116]] rfl rfl (by decide)).mono ?_
 rintro e w4 ⟨s4,QD,rfl,hF⟩;have E4:=cN QD;have F4:=cN hF;clear hF QD;clear d0;have d0:=F4.o.dR.cell 0;simp at d0;have HB:=cN F4.o.dR;go_wp2_with fail
 with_reducible refine(Fr.mr F4.o (uL C 137 #[] #[.pointer (some ⟨gB,0,none⟩)] #[.pointer (some ⟨gB,0,none⟩)] (fun w=>by simp[go_sem]) [(gB,.cells #[.pointer (some ⟨C.g,0,none⟩)] 70 (0,0))] (uY hBg) 16 16 rfl (by decide) (by decide) (I.ny C.text.size) (I.Ck _) s4.r.length (wu fun st w hp hB=>GV C gB hBg st w hp hB) s4 _ (aa _) F4.o.q (oP HB.o))).mono ?_
 rintro e w5 ⟨v5,xs5,s5,Vi,rfl,hF⟩;have X5:=cN Vi;have F5:=cN hF;clear hF Vi;obtain⟨A5,m5,c5,rfl⟩:=dj F5.o.N6;clear d0;have d0:=F5.o.dR.cell 0;simp at d0;have SI:=F5.o.cQ.cell 8;simp at SI;have UE:=F5.o.cQ.frozen 8;go_upto_region 4 with fail
 have F6:=cN (F5.o.ew 8 (.slice A5 m5 c5) (cs':=#[.int .u8 15,.string (I.bs n2),.string ⟨#[]⟩,.string ⟨#[]⟩,.int .u8 0,.slice none 0 0,.slice none 0 0,.slice none 0 0,.slice A5 m5 c5,.slice none 0 0,.slice none 0 0,.bool false,.string ⟨#[]⟩]) rfl);obtain⟨w6,hw⟩:∃x,x=w5.setCell ⟨g3,8,none⟩ (.slice A5 m5 c5):=⟨_,rfl⟩;rw[←hw]at F6;rw[←hw];clear hw SI UE;clear d0;have d0:=F6.o.dR.cell 0;simp at d0;go_wp2_with fail
 with_reducible refine(Fr.mr F6.o (oU C _ _ F6.o.q)).mono ?_
 rintro e w7 ⟨v7,xs7,s7,YH,rfl,hF⟩;have X7:=cN YH;have F7:=cN hF;clear hF YH;obtain⟨A7,m7,c7,rfl⟩:=dj F7.o.N6;clear d0;have Vk:=F7.o.cQ.cell 9;simp at Vk;have YJ:=F7.o.cQ.frozen 9;go_upto_region 5 with fail
 have F8:=cN (F7.o.ew 9 (.slice A7 m7 c7) (cs':=#[.int .u8 15,.string (I.bs n2),.string ⟨#[]⟩,.string ⟨#[]⟩,.int .u8 0,.slice none 0 0,.slice none 0 0,.slice none 0 0,.slice A5 m5 c5,.slice A7 m7 c7,.slice none 0 0,.bool false,.string ⟨#[]⟩]) rfl);obtain⟨w8,hw⟩:∃x,x=w7.setCell ⟨g3,9,none⟩ (.slice A7 m7 c7):=⟨_,rfl⟩;rw[←hw]at F8;rw[←hw];clear hw Vk YJ;obtain⟨Om,On,Oo,Ox,Oy,Oz,OA,OK,OU,PI,Oc,Od,Oe⟩:=F8.o.cQ.y13 0 1 2 3 4 5 6 7 8 9 10 11 12;simp at Om On Oo Ox Oy Oz OA OK OU PI Oc Od Oe;obtain⟨NU,NV,NW,NY,NZ,N0,N3,Og,Ot,OP,NP,NQ,NR⟩:=F8.o.cR.y13 0 1 2 3 4 5 6 7 8 9 10 11 12;simp at NU NV NW NY NZ N0 N3 Og Ot OP NP NQ NR;obtain⟨O6,Pa,Pb,Pm,Pn,Pp,Pq,PQ,P9,QE,OQ,OR,OS⟩:=F8.o.cR.Qj 0 1 2 3 4 5 6 7 8 9 10 11 12;go_wp2_with fail
 have FZ:=cN (F8.o.fA (fZ (Ch.refl _ _ _) (.inl rfl) _ _ _ _ _ _ _ _ _ _ _ _ _) (fe F8.o.cR (.int .u8 15) (.string (I.bs n2)) (.string ⟨#[]⟩) (.string ⟨#[]⟩) (.int .u8 0) (.slice none 0 0) (.slice none 0 0) (.slice none 0 0) (.slice A5 m5 c5) (.slice A7 m7 c7) (.slice none 0 0) (.bool false) (.string ⟨#[]⟩)));have HS:Hid (I.update C.text.size st=(({I.NC.of 15 with nm:=n2,dD:=xs5,wh:=xs7}:I.NC),s7)):=by show _=_;simp only[I.update,N2.o,E4.o,X5.o,X7.o]
 refine ae (av rfl _ _ gX 30 _ (0,0) _ rfl FZ.o.cR dd rfl cZ) rfl ?_;rw[HS.o];exact FZ.o.done (⟨_,_,_,_,_,_,rfl,Rr.nil _ _ _,Rr.nil _ _ _,Rr.nil _ _ _,FZ.o.VF,FZ.o.N6,Rr.nil _ _ _,Sz.of Z2.o,Sz.of (ao _),Sz.of (ao _),Sz.of (ao _)⟩)
theorem yP(C:RC)(st:I.St)(w:World)(h:PS C st w):
 Calls Tryz.prog 128 #[.pointer (some ⟨C.g,0,none⟩)] w (EPost df C w (I.fN C.text.size st)):=by
 have F0:=cN (Fr.start h.lt h.eU);clear h;go_enter Tryz.func128,Tryz.ntmps128;have F1:=cN (F0.o.new 30 #[.int .u8 0,.string ⟨#[]⟩,.string ⟨#[]⟩,.string ⟨#[]⟩,.int .u8 0,.slice none 0 0,.slice none 0 0,.slice none 0 0,.slice none 0 0,.slice none 0 0,.slice none 0 0,.bool false,.string ⟨#[]⟩]);obtain⟨w1,hw⟩:∃x,x=w.alloc (.cells #[.int .u8 0,.string ⟨#[]⟩,.string ⟨#[]⟩,.string ⟨#[]⟩,.int .u8 0,.slice none 0 0,.slice none 0 0,.slice none 0 0,.slice none 0 0,.slice none 0 0,.slice none 0 0,.bool false,.string ⟨#[]⟩] 30):=⟨_,rfl⟩;go_upto_region 1 with fail
 rw[←hw]at F1;rw[←hw];clear hw;go_wp2_with fail
 with_reducible refine(fk F1.o).mono ?_
 rintro e w2 ⟨n2,s2,Qn,hZ2,rfl,hF⟩;have N2:=cN Qn;have Z2:=cN hZ2;have F2:=cN hF;clear hF Qn hZ2;go_upto_region 2 with fail
 have F3:=cN (F2.o.new 30 #[.int .u8 7,.string (I.bs n2),.string ⟨#[]⟩,.string ⟨#[]⟩,.int .u8 0,.slice none 0 0,.slice none 0 0,.slice none 0 0,.slice none 0 0,.slice none 0 0,.slice none 0 0,.bool false,.string ⟨#[]⟩]);obtain⟨w3,hw⟩:∃x,x=w2.alloc (.cells #[.int .u8 7,.string (I.bs n2),.string ⟨#[]⟩,.string ⟨#[]⟩,.int .u8 0,.slice none 0 0,.slice none 0 0,.slice none 0 0,.slice none 0 0,.slice none 0 0,.slice none 0 0,.bool false,.string ⟨#[]⟩] 30):=⟨_,rfl⟩;obtain⟨g3,hg⟩:∃x,x=w2.heap.size:=⟨_,rfl⟩;rw[←hw,←hg]at F3;rw[←hw,←hg];clear hw hg;go_wp2_with fail
 with_reducible refine(dE F3.o (n:=1) (cells:=#[.string ⟨#[111,110]⟩]) [[111,110]] rfl rfl (by decide)).mono ?_
 rintro e w4 ⟨s4,QD,rfl,hF⟩;have E4:=cN QD;have F4:=cN hF;clear hF QD;go_wp2_with fail
 with_reducible refine(fk F4.o).mono ?_
 rintro e w5 ⟨n5,s5,YB,YC,rfl,hF⟩;have N5:=cN YB;have Z5:=cN YC;have F5:=cN hF;clear hF YB YC;have PZ:=F5.o.cQ.cell 2;simp at PZ;have Sl:=F5.o.cQ.frozen 2;go_upto_region 4 with fail
 have F6:=cN (F5.o.ew 2 (.string (I.bs n5)) (cs':=#[.int .u8 7,.string (I.bs n2),.string (I.bs n5),.string ⟨#[]⟩,.int .u8 0,.slice none 0 0,.slice none 0 0,.slice none 0 0,.slice none 0 0,.slice none 0 0,.slice none 0 0,.bool false,.string ⟨#[]⟩]) rfl);obtain⟨w6,hw⟩:∃x,x=w5.setCell ⟨g3,2,none⟩ (.string (I.bs n5)):=⟨_,rfl⟩;rw[←hw]at F6;rw[←hw];clear hw PZ Sl;go_wp2_with fail
 with_reducible refine(dE F6.o (n:=1) (cells:=#[.string ⟨#[116,111]⟩]) [[116,111]] rfl rfl (by decide)).mono ?_
 rintro e w7 ⟨s7,hE7,rfl,hF⟩;have E7:=cN hE7;have F7:=cN hF;clear hF hE7;go_wp2_with fail
 with_reducible refine(fk F7.o).mono ?_
 rintro e w8 ⟨n8,s8,hN8,hZ8,rfl,hF⟩;have N8:=cN hN8;have Z8:=cN hZ8;have F8:=cN hF;clear hF hN8 hZ8;have PF:=F8.o.cQ.cell 3;simp at PF;have QU:=F8.o.cQ.frozen 3;go_upto_region 6 with fail
 have F9:=cN (F8.o.ew 3 (.string (I.bs n8)) (cs':=#[.int .u8 7,.string (I.bs n2),.string (I.bs n5),.string (I.bs n8),.int .u8 0,.slice none 0 0,.slice none 0 0,.slice none 0 0,.slice none 0 0,.slice none 0 0,.slice none 0 0,.bool false,.string ⟨#[]⟩]) rfl);obtain⟨w9,hw⟩:∃x,x=w8.setCell ⟨g3,3,none⟩ (.string (I.bs n8)):=⟨_,rfl⟩;rw[←hw]at F9;rw[←hw];clear hw PF QU;go_wp2_with fail
 with_reducible refine(dE F9.o (n:=1) (cells:=#[.string ⟨#[117,115,105,110,103]⟩]) [[117,115,105,110,103]] rfl rfl (by decide)).mono ?_
 rintro e RU ⟨s10,YK,rfl,hF⟩;have E10:=cN YK;have Pj:=cN hF;clear hF YK;go_wp2_with fail
 with_reducible refine(Fr.xO Pj.o (kp C 138 #[.pointer (some ⟨C.g,0,none⟩)] #[] #[.pointer (some ⟨C.g,0,none⟩)] (fun w=>by simp[go_sem]) [] km (I.expr C.text.size) s10.r.length (ig fun st w hp=>iq C st w hp) s10 _ (by omega) (.inl (aa _)) Pj.o.q (iH.none _))).mono ?_
 rintro e PW ⟨h11,Vl,m11,c11,O1,s11,Tz,rfl,hF⟩;have X11:=cN Tz;have Pv:=cN hF;clear hF Tz;have Vk:=(Pv.o.cQ.alloc (.cells #[.int .u8 (h11.o.toNat:Int),.int .u8 (h11.v.k.toNat:Int),.int .i64 h11.v.n,.string h11.v.s,.string h11.nm,.string h11.of,.int .i64 h11.n,.slice Vl m11 c11] 50)).cell 9;have YJ:=(Pv.o.cQ.alloc (.cells #[.int .u8 (h11.o.toNat:Int),.int .u8 (h11.v.k.toNat:Int),.int .i64 h11.v.n,.string h11.v.s,.string h11.nm,.string h11.of,.int .i64 h11.n,.slice Vl m11 c11] 50)).frozen 9;have kl:=Pv.o.cQ.lt;simp at Vk;go_upto_region 8 with fail
 have PO:=cN ((Pv.o).sq (E:=NI) (cs:=[.int .u8 (h11.o.toNat:Int),.int .u8 (h11.v.k.toNat:Int),.int .i64 h11.v.n,.string h11.v.s,.string h11.nm,.string h11.of,.int .i64 h11.n,.slice Vl m11 c11]) 50 9 (cells':=#[.int .u8 7,.string (I.bs n2),.string (I.bs n5),.string (I.bs n8),.int .u8 0,.slice none 0 0,.slice none 0 0,.slice none 0 0,.slice none 0 0,.slice (some ⟨PW.heap.size,0,none⟩) 1 1,.slice none 0 0,.bool false,.string ⟨#[]⟩]) rfl);obtain⟨Qu,hw⟩:∃x,x=((PW.setCell ⟨g3,9,none⟩ (.slice (some ⟨PW.heap.size,0,none⟩) 1 1)).alloc (.cells #[.int .u8 (h11.o.toNat:Int),.int .u8 (h11.v.k.toNat:Int),.int .i64 h11.v.n,.string h11.v.s,.string h11.nm,.string h11.of,.int .i64 h11.n,.slice Vl m11 c11] 50)):=⟨_,rfl⟩;obtain⟨g12,hg⟩:∃x,x=PW.heap.size:=⟨_,rfl⟩;rw[←hw,←hg]at PO;rw[←hw,←hg];clear hw hg Vk YJ kl;obtain⟨Om,On,Oo,Ox,Oy,Oz,OA,OK,OU,PI,Oc,Od,Oe⟩:=PO.o.cQ.y13 0 1 2 3 4 5 6 7 8 9 10 11 12;simp at Om On Oo Ox Oy Oz OA OK OU PI Oc Od Oe;obtain⟨NU,NV,NW,NY,NZ,N0,N3,Og,Ot,OP,NP,NQ,NR⟩:=PO.o.cR.y13 0 1 2 3 4 5 6 7 8 9 10 11 12;simp at NU NV NW NY NZ N0 N3 Og Ot OP NP NQ NR;obtain⟨O6,Pa,Pb,Pm,Pn,Pp,Pq,PQ,P9,QE,OQ,OR,OS⟩:=PO.o.cR.Qj 0 1 2 3 4 5 6 7 8 9 10 11 12;go_wp2_with fail
 have FZ:=cN (PO.o.fA (fZ (Ch.refl _ _ _) (.inl rfl) _ _ _ _ _ _ _ _ _ _ _ _ _) (fe PO.o.cR (.int .u8 7) (.string (I.bs n2)) (.string (I.bs n5)) (.string (I.bs n8)) (.int .u8 0) (.slice none 0 0) (.slice none 0 0) (.slice none 0 0) (.slice none 0 0) (.slice (some ⟨g12,0,none⟩) 1 1) (.slice none 0 0) (.bool false) (.string ⟨#[]⟩)));have HS:Hid (I.fN C.text.size st=(({I.NC.of 7 with nm:=n2,on:=n5,NG:=n8,wh:=[O1]}:I.NC),s11)):=by show _=_;simp only[I.fN,N2.o,E4.o,N5.o,E7.o,N8.o,E10.o,X11.o]
 refine ae (av rfl _ _ w.heap.size 30 _ (0,0) _ rfl FZ.o.cR dd rfl cZ) rfl ?_;rw[HS.o];exact FZ.o.done (⟨_,_,_,_,_,_,rfl,Rr.nil _ _ _,Rr.nil _ _ _,Rr.nil _ _ _,Rr.nil _ _ _,FZ.o.N6,Rr.nil _ _ _,Sz.of Z2.o,Sz.of Z5.o,Sz.of Z8.o,Sz.of (ao _)⟩)
end
end Go.Proofs.YtnicfobpclehkaaGreatDoor
