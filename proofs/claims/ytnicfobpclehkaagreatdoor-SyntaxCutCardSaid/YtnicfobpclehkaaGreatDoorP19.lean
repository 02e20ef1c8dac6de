import Derived.Deep.MidRow
import Derived.Test.YtnicfobpclehkaaGreatDoorP18
set_option maxHeartbeats 6400000
set_option linter.unusedVariables false
set_option linter.unusedSimpArgs false
namespace Go.Proofs.YtnicfobpclehkaaGreatDoor
open Go.RowKit
section
set_option maxRecDepth 100000
theorem MF(C:RC):∀(M m:Nat),m<M→fH C 206 #[.pointer (some ⟨C.g,0,none⟩)] (I.Pw C.text.size M) m:=by
 intro M;induction M with
 |zero=>intro m h;omega
 |succ M ih=>
  intro m hm;have hX:I.eZ (I.Pw C.text.size M):=I.wv _ M;have h1:=zC C (I.Pw C.text.size M) m fun k hk=>ih k (by omega)
  have h2:=FE C (I.Pw C.text.size M) m h1;have h3:=Kq C (I.Pw C.text.size M) hX m h2;have h4:=KQ C (I.Pw C.text.size M) hX m h3;have h5:=Mo C (I.Pw C.text.size M) hX m h4;have h6:=LH C (I.Pw C.text.size M) m h5;have h7:=LB C (I.Pw C.text.size M) hX m h6;exact Np C (I.Pw C.text.size M) hX m h7
theorem KV(C:RC)(st:I.St)(w:World)(h:PS C st w):Calls Tryz.prog 206 #[.pointer (some ⟨C.g,0,none⟩)] w (ij C w (I.or C.text.size st)):=MF C (st.r.length+1) st.r.length (by omega) st w (aa _) h
theorem CD{h h':Ev.Hd}{A A':Option Addr}{m m' c c':Nat}(e:cT h A m c=cT h' A' m' c'):h=h'∧A=A'∧m=m'∧c=c':=by
 obtain⟨o,⟨k,n,s⟩,nm,of,i⟩:=h;obtain⟨o',⟨k',n',s'⟩,nm',of',i'⟩:=h';simp only[cT,List.cons.injEq,Value.int.injEq,Value.string.injEq,Value.slice.injEq,and_true,true_and]at e;obtain⟨e1,e2,e3,e4,e5,e6,e7,e8,e9,e10⟩:=e;have f1:o=o':=aF.1 (by exact_mod_cast e1);have f2:k=k':=aF.1 (by exact_mod_cast e2);subst f1 f2 e3 e4 e5 e6 e7 e8 e9 e10;exact⟨rfl,rfl,rfl,rfl⟩
theorem PS.len{C:RC}{st:I.St}{w:World}(h:PS C st w):st.r.length≤4096:=by
 obtain⟨⟨k,_,e,_⟩,_⟩:=h;have:=C.ok.len;have:=C.small;rw[e,aJ];omega
theorem PS.deep{C:RC}{st:I.St}{w:World}(h:PS C st w):PS C {st with d:=true} (w.setCell ⟨C.g,5,none⟩ (.bool true)):=by
 obtain⟨⟨k,hb,h2⟩,h3,h4⟩:=h;exact PS.put ⟨⟨k,hb,h2⟩,h3,h4⟩ ((Ch.refl C.g (C.g+1) w).set (p:=⟨C.g,5,none⟩) (.inl rfl) _) (k':=k) ⟨by simpa using hb.put 5 (.bool true),h2⟩
section
variable{C:RC}{w0 w:World}{own:eP}{its:List It}{st:I.St}{Q:World→Prop}{g:Nat}
theorem Jw{h:Ev.Hd}{A:Option Addr}{m c:Nat}{x:Ev.Ex}(F:Fr g w0 own (It.el NI (cT h A m c) x::its) Q w)(hd:I.depth x≤1000000000000000000):Calls Tryz.prog 15 #[.agg #[.int .u8 (h.o.toNat:Int),.int .u8 (h.v.k.toNat:Int),.int .i64 h.v.n,.string h.v.s,.string h.nm,.string h.of,.int .i64 h.n,.slice A m c]] w fun e w'=>∃D:Nat,I.depth x=D∧e=.returned (.int .i64 (D:Int))∧Fr g w0 own (It.el NI (cT h A m c) x::its) Q w':=by
 obtain⟨h',A',m',c',ks,d,e1,rfl,h3,h4,h5,h6⟩:=F.N6;obtain⟨rfl,rfl,rfl,rfl⟩:=CD e1;refine(tK d h A m c ks w (O5.dH (fun b hb=>hb.2.1) (fun _ _ _=>rfl) h6) (by rw[I.depth]at hd;omega) h3 h4).mono fun e w' ⟨r1,r2⟩=>⟨_,rfl,?_,F.quiet r2⟩
 rw[r1,I.depth]
theorem Fr.deep(F:Fr C.g w0 own its (PS C st) w):Fr C.g w0 own its (PS C {st with d:=true}) (w.setCell ⟨C.g,5,none⟩ (.bool true)):=
 F.call F.q.deep.eU ((Ch.refl C.g w.heap.size w).set (p:=⟨C.g,5,none⟩) (.inl rfl) _)
end
theorem lD:Tryz.prog.underlying 50=some (.struct (Tryz.prog.fieldsOf 50)):=by kernel_rfl
theorem kF:(Tryz.prog.info? 50).map (·.size)=some 8:=by kernel_rfl
theorem iq(C:RC)(st:I.St)(w:World)(h:PS C st w):
 Calls Tryz.prog 138 #[.pointer (some ⟨C.g,0,none⟩)] w (ij C w (I.expr C.text.size st)):=by
 have F0:=cN (Fr.start h.lt h.eU);clear h;go_enter Tryz.func138,Tryz.ntmps138;have Q6:=cN (F0.o.new 50 #[.int .u8 0,.int .u8 0,.int .i64 0,.string ⟨#[]⟩,.string ⟨#[]⟩,.string ⟨#[]⟩,.int .i64 0,.slice none 0 0]);have hlen:=(F0.o.q).len;go_wp2_with fail
 with_reducible refine(Fr.xO Q6.o (KV C st _ Q6.o.q)).mono ?_
 rintro e w1 ⟨h1,A1,m1,c1,x1,s1,hX1,rfl,hF⟩;have X1:=cN hX1;have F1:=cN hF;clear hF hX1;have hdx:I.depth x1≤1000000000000000000:=by have:=I.LK C.text.size st;rw[X1.o]at this;simp only at this;omega
 clear hlen;go_upto_region 2 with fail
 have F2:=cN (F1.o.new 50 #[.int .u8 (h1.o.toNat:Int),.int .u8 (h1.v.k.toNat:Int),.int .i64 h1.v.n,.string h1.v.s,.string h1.nm,.string h1.of,.int .i64 h1.n,.slice A1 m1 c1]);obtain⟨w2,hw⟩:∃x,x=w1.alloc (.cells #[.int .u8 (h1.o.toNat:Int),.int .u8 (h1.v.k.toNat:Int),.int .i64 h1.v.n,.string h1.v.s,.string h1.nm,.string h1.of,.int .i64 h1.n,.slice A1 m1 c1] 50):=⟨_,rfl⟩;obtain⟨g2,hg⟩:∃x,x=w1.heap.size:=⟨_,rfl⟩;rw[←hw,←hg]at F2;rw[←hw,←hg];clear hw hg;obtain⟨y0,y1,y2,y3,y4,y5,y6,y7⟩:=F2.o.cQ.y8 0 1 2 3 4 5 6 7;simp at y0 y1 y2 y3 y4 y5 y6 y7;go_wp2_with fail
 with_reducible refine(Jw F2.o hdx).mono ?_
 rintro e w3 ⟨D1,hE1,rfl,hF⟩;have E1:=cN hE1;have F3:=cN hF;clear hF hE1;clear hdx;clear y0 y1 y2 y3 y4 y5 y6 y7;by_cases hd:24<D1
 ·have t1:decide ((24:Int)<(D1:Int))=true:=aq (by omega);have HD:=cN hd;clear hd;obtain⟨⟨k,hB,_⟩,_⟩:=F3.o.q;have b5:=hB.cell 5;simp at b5;have z5:=hB.frozen 5;clear hB;go_upto_region 4 with fail
  have F4:=cN F3.o.deep;obtain⟨w4,hw⟩:∃x,x=w3.setCell ⟨C.g,5,none⟩ (.bool true):=⟨_,rfl⟩;rw[←hw]at F4;rw[←hw];clear hw b5 z5;obtain⟨y0,y1,y2,y3,y4,y5,y6,y7⟩:=F4.o.cQ.y8 0 1 2 3 4 5 6 7;simp at y0 y1 y2 y3 y4 y5 y6 y7;obtain⟨r0,r1,r2,r3,r4,r5,r6,r7⟩:=F4.o.cR.y8 0 1 2 3 4 5 6 7;simp at r0 r1 r2 r3 r4 r5 r6 r7;obtain⟨f0,f1,f2,f3,f4,f5,f6,f7⟩:=F4.o.cR.z8 0 1 2 3 4 5 6 7;go_wp2_with fail
  have FZ:=cN (F4.o.fA (ez (Ch.refl _ _ _) (.inl rfl) _ _ _ _ _ _ _ _) (eO F4.o.cR (.int .u8 (h1.o.toNat:Int)) (.int .u8 (h1.v.k.toNat:Int)) (.int .i64 h1.v.n) (.string h1.v.s) (.string h1.nm) (.string h1.of) (.int .i64 h1.n) (.slice A1 m1 c1)));have HS:Hid (I.expr C.text.size st=(x1,{s1 with d:=true})):=by show _=_;simp only[I.expr,X1.o,E1.o,if_pos HD.o]
  refine ae (av rfl _ _ w.heap.size 50 _ (0,0) _ rfl FZ.o.cR lD rfl kF) rfl ?_;rw[HS.o];exact FZ.o.done (E:=NI) (cs:=[.int .u8 (h1.o.toNat:Int),.int .u8 (h1.v.k.toNat:Int),.int .i64 h1.v.n,.string h1.v.s,.string h1.nm,.string h1.of,.int .i64 h1.n,.slice A1 m1 c1]) FZ.o.N6
 ·have t1:decide ((24:Int)<(D1:Int))=false:=ar (by omega);have HD:=cN hd;clear hd;obtain⟨y0,y1,y2,y3,y4,y5,y6,y7⟩:=F3.o.cQ.y8 0 1 2 3 4 5 6 7;simp at y0 y1 y2 y3 y4 y5 y6 y7;obtain⟨r0,r1,r2,r3,r4,r5,r6,r7⟩:=F3.o.cR.y8 0 1 2 3 4 5 6 7;simp at r0 r1 r2 r3 r4 r5 r6 r7;obtain⟨f0,f1,f2,f3,f4,f5,f6,f7⟩:=F3.o.cR.z8 0 1 2 3 4 5 6 7;go_wp2_with fail
  have FZ:=cN (F3.o.fA (ez (Ch.refl _ _ _) (.inl rfl) _ _ _ _ _ _ _ _) (eO F3.o.cR (.int .u8 (h1.o.toNat:Int)) (.int .u8 (h1.v.k.toNat:Int)) (.int .i64 h1.v.n) (.string h1.v.s) (.string h1.nm) (.string h1.of) (.int .i64 h1.n) (.slice A1 m1 c1)));have HS:Hid (I.expr C.text.size st=(x1,s1)):=by show _=_;simp only[I.expr,X1.o,E1.o,if_neg HD.o]
  refine ae (av rfl _ _ w.heap.size 50 _ (0,0) _ rfl FZ.o.cR lD rfl kF) rfl ?_;rw[HS.o];exact FZ.o.done (E:=NI) (cs:=[.int .u8 (h1.o.toNat:Int),.int .u8 (h1.v.k.toNat:Int),.int .i64 h1.v.n,.string h1.v.s,.string h1.nm,.string h1.of,.int .i64 h1.n,.slice A1 m1 c1]) FZ.o.N6
end
section
set_option maxRecDepth 100000
theorem ma:Tryz.prog.underlying 132=some (.struct (Tryz.prog.fieldsOf 132)):=by kernel_rfl
theorem lO:(Tryz.prog.info? 132).map (·.size)=some 3:=by kernel_rfl
theorem rk(C:RC)(st:I.St)(w:World)(h:PS C st w):
 Calls Tryz.prog 209 #[.pointer (some ⟨C.g,0,none⟩)] w (EPost ft C w (I.source C.text.size st)):=by
 have F0:=cN (Fr.start h.lt h.eU);clear h;go_enter Tryz.func209,Tryz.ntmps209;have Q6:=cN (F0.o.new 132 #[.string ⟨#[]⟩,.string ⟨#[]⟩,.slice none 0 0]);go_wp2_with fail
 with_reducible refine(fk Q6.o).mono ?_
 rintro e w1 ⟨n1,s1,hN1,hZ1,rfl,hF⟩;have N1:=cN hN1;have Z1:=cN hZ1;have F1:=cN hF;clear hF hN1 hZ1;go_upto_region 2 with fail
 have F2:=cN (F1.o.new 132 #[.string (I.bs n1),.string ⟨#[]⟩,.slice none 0 0]);obtain⟨w2,hw⟩:∃x,x=w1.alloc (.cells #[.string (I.bs n1),.string ⟨#[]⟩,.slice none 0 0] 132):=⟨_,rfl⟩;obtain⟨g2,hg⟩:∃x,x=w1.heap.size:=⟨_,rfl⟩;rw[←hw,←hg]at F2;rw[←hw,←hg];clear hw hg;go_wp2_with fail
 with_reducible refine(eh ⟨#[97,115]⟩ [97,115] rfl F2.o).mono ?_
 rintro e w3 ⟨b,hb,rfl,hF⟩;cases b with
 |true=>
  have PX:=cN hb;have F3:Hid (Fr C.g w _ _ (PS C (I.next s1)) w3):=hF;clear hF hb;go_wp2_with fail
  with_reducible refine(fk F3.o).mono ?_
  rintro e w4 ⟨n2,s2,Qn,hZ2,rfl,hF⟩;have N2:=cN Qn;have Z2:=cN hZ2;have F4:=cN hF;clear hF Qn hZ2;have QT:=F4.o.cQ.cell 1;simp at QT;have SD:=F4.o.cQ.frozen 1;go_upto_region 4 with fail
  have F5:=cN (F4.o.ew 1 (.string (I.bs n2)) (cs':=#[.string (I.bs n1),.string (I.bs n2),.slice none 0 0]) rfl);obtain⟨w5,hw⟩:∃x,x=w4.setCell ⟨g2,1,none⟩ (.string (I.bs n2)):=⟨_,rfl⟩;rw[←hw]at F5;rw[←hw];clear hw QT SD;obtain⟨Om,On,Oo⟩:=F5.o.cQ.y3 0 1 2;simp at Om On Oo;obtain⟨NU,NV,NW⟩:=F5.o.cR.y3 0 1 2;simp at NU NV NW;obtain⟨O6,Pa,Pb⟩:=F5.o.cR.z3 0 1 2;go_wp2_with fail
  have FZ:=cN (F5.o.fA (Iq (Ch.refl _ _ _) (.inl rfl) _ _ _) (xv F5.o.cR (.string (I.bs n1)) (.string (I.bs n2)) (.slice none 0 0)));have HS:Hid (I.source C.text.size st=((⟨n1,n2,[]⟩:I.Src),s2)):=by show _=_;simp only[I.source,N1.o,PX.o,N2.o,bo]
  refine ae (av rfl _ _ w.heap.size 132 _ (0,0) _ rfl FZ.o.cR ma rfl lO) rfl ?_;rw[HS.o];exact FZ.o.done (⟨_,rfl,Rr.nil _ _ _,Sz.of Z1.o,Sz.of Z2.o⟩)
 |false=>
  have PX:=cN hb;have F3:Hid (Fr C.g w _ _ (PS C s1) w3):=hF;clear hF hb;obtain⟨Om,On,Oo⟩:=F3.o.cQ.y3 0 1 2;simp at Om On Oo;obtain⟨NU,NV,NW⟩:=F3.o.cR.y3 0 1 2;simp at NU NV NW;obtain⟨O6,Pa,Pb⟩:=F3.o.cR.z3 0 1 2;go_wp2_with fail
  have FZ:=cN (F3.o.fA (Iq (Ch.refl _ _ _) (.inl rfl) _ _ _) (xv F3.o.cR (.string (I.bs n1)) (.string ⟨#[]⟩) (.slice none 0 0)));have HS:Hid (I.source C.text.size st=((⟨n1,[],[]⟩:I.Src),s1)):=by show _=_;simp only[I.source,N1.o,PX.o,aO,bx]
  refine ae (av rfl _ _ w.heap.size 132 _ (0,0) _ rfl FZ.o.cR ma rfl lO) rfl ?_;rw[HS.o];exact FZ.o.done (⟨_,rfl,Rr.nil _ _ _,Sz.of Z1.o,Sz.of (ao _)⟩)
end
section
variable{g:Nat}{w0 w w':World}{own:eP}{its:List It}{Q Q':World→Prop}
theorem Fr.old{b:Nat}{t:TypeId}{cs:Array Value}(h:Fr g w0 own its Q w)(hb:NA w0 b t cs)(hl:b<w0.heap.size)(hg:b≠g):NA w b t cs:=(h.ch.block b hl hg).trans hb
theorem Fr.gh{L:List (Nat×Obj)}(h:Fr g w0 own its Q w)(hL:iH L w0)(hg:∀p∈L,p.1≠g):iH L w:=hL.ch (hL.inn hg) h.ch
theorem Fr.pZ{α:Type}{E:El α}{C:RC}{st:I.St}{v:Value}{xs:List α}(h:Fr C.g w0 own (It.rr E v xs::its) (PS C st) w):kx E C w0 (xs,st) (.returned v) w:=
 ⟨v,rfl,(h.N6:Rr E w _ v xs).hp (fun _ hb=>⟨hb.1,hb.2.1⟩) fun _ _=>rfl,h.q,h.ch⟩
theorem Fr.Nn{α:Type}{E:El α}{C:RC}{st:I.St}(h:Fr C.g w0 own its (PS C st) w):kx E C w0 ([],st) (.returned (.slice none 0 0)) w:=
 ⟨_,rfl,Rr.nil _ _ _,h.q,h.ch⟩
theorem Fr.zz{α:Type}{E:El α}{cs:List Value}{x:α}(h:Fr g w0 own (It.el E cs x::its) Q w)(t:TypeId):Fr g w0 own (It.rr E (.slice (some ⟨w.heap.size,0,none⟩) 1 1) [x]::It.el E cs x::its) Q (w.alloc (.cells cs.toArray t)):=
 Fr.lit (cells:=cs.toArray) (h.new t cs.toArray)
theorem Fr.sq{α:Type}{E:El α}{cs:List Value}{x:α}{b:Nat}{t:TypeId}{cells:Array Value}(h:Fr g w0 ((b,t,cells)::own) (It.el E cs x::its) Q w)(t':TypeId)(i:Nat){cells':Array Value}(e:cells.setIfInBounds i (.slice (some ⟨w.heap.size,0,none⟩) 1 1)=cells'):
 Fr g w0 ((b,t,cells')::own) (It.rr E (.slice (some ⟨w.heap.size,0,none⟩) 1 1) [x]::It.el E cs x::its) Q ((w.setCell ⟨b,i,none⟩ (.slice (some ⟨w.heap.size,0,none⟩) 1 1)).alloc (.cells cs.toArray t')):=by
 have h2:=(h.ew i (.slice (some ⟨w.heap.size,0,none⟩) 1 1) e).zz t';have hs:(w.setCell ⟨b,i,none⟩ (.slice (some ⟨w.heap.size,0,none⟩) 1 1)).heap.size=w.heap.size:=by simp
 rw[hs]at h2;exact h2
end
theorem I.choose_lt(T:Nat):∀(l:List I.Bs) (k:Nat) (st:I.St),(I.choose T k l st).1<k+l.length∨(I.choose T k l st).1=0:=by
 intro l;induction l with
 |nil=>intro k st;exact .inr rfl
 |cons s l ih=>
  intro k st;unfold I.choose;split
  ·left;show k<_;simp
  ·rcases ih (k+1) st with h|h
   ·left;simp;omega
   ·exact .inr h
def Sf(C:RC)(st:I.St)(w:World):Prop:=PS C st w∧∃k,PB C st w k∧k≤C.ts.length
theorem Sf.eU{C:RC}{st:I.St}{w:World}(h:Sf C st w):ph C.g (Sf C st) w:=fun w' hk=>by
 obtain⟨h1,k,h2,h3⟩:=h
 exact⟨h1.eU w' hk,k,⟨(hk C.g (aa _)).trans h2.1,h2.2⟩,h3⟩
theorem PS.n{C:RC}{st:I.St}{w:World}(h:PS C st w)(hr:st.r≠[]):Sf C st w:=by
 obtain⟨⟨k,h1⟩,h2⟩:=h;refine⟨⟨⟨k,h1⟩,h2⟩,k,h1,?_⟩;by_cases hk:k≤C.ts.length
 ·exact hk
 ·refine absurd ?_ hr;rw[h1.2.1];exact bc (by omega)
theorem Sf.next{C:RC}{st:I.St}{w:World}{x:Int}(h:Sf C st w)(hx:w.cell? ⟨C.g,2,none⟩=some (.int .i64 x)):PS C (I.next st) (w.setCell ⟨C.g,2,none⟩ (.int .i64 (x+1))):=by
 obtain⟨h1,k,h2,h3⟩:=h;have e:=h2.1.cell 2;rw[hx]at e;simp at e;subst e;exact PS.put h1 ((Ch.refl C.g (C.g+1) w).set (p:=⟨C.g,2,none⟩) (.inl rfl) _) (k':=k+1) (h2.next h3)
theorem Sf.cell{C:RC}{st:I.St}{w:World}(h:Sf C st w):∃k:Nat,w.cell? ⟨C.g,2,none⟩=some (.int .i64 (k:Int))∧w.frozen? ⟨C.g,2,none⟩=false∧k≤4096:=by
 obtain⟨h1,k,h2,h3⟩:=h;have e:=h2.1.cell 2;simp at e;have:=C.ok.len;have:=C.small;exact⟨k,e,h2.1.frozen 2,by omega⟩
section
variable{C:RC}{w0 w:World}{own:eP}{its:List It}{st:I.St}{Q:World→Prop}
theorem Fr.n(F:Fr C.g w0 own its (PS C st) w)(hr:st.r≠[]):Fr C.g w0 own its (Sf C st) w:=⟨F.lt,(F.q.n hr).eU,F.ch,F.own,F.nd,F.its⟩
theorem Fr.un(F:Fr C.g w0 own its (Sf C st) w):Fr C.g w0 own its (PS C st) w:=⟨F.lt,F.q.1.eU,F.ch,F.own,F.nd,F.its⟩
theorem Fr.next{x:Int}(F:Fr C.g w0 own its (Sf C st) w)(hx:w.cell? ⟨C.g,2,none⟩=some (.int .i64 x)):Fr C.g w0 own its (PS C (I.next st)) (w.setCell ⟨C.g,2,none⟩ (.int .i64 (x+1))):=
 F.call (F.q.next hx).eU ((Ch.refl C.g w.heap.size w).set (p:=⟨C.g,2,none⟩) (.inl rfl) _)
theorem Ki(x:Int)(n:Nat)(hx:x=(n:Int))(F:Fr C.g w0 own its (PS C st) w):Calls Tryz.prog 26 #[.pointer (some ⟨C.g,0,none⟩),.int .i64 x] w fun e w'=>∃s,I.fail C.text.size n st=s∧e=.returned (.tuple #[])∧Fr C.g w0 own its (Sf C s) w':=
 (uD C x n st w F.q hx).mono fun _ _ ⟨h1,h2,h3,h4⟩=>⟨_,rfl,h1,F.call (Sf.eU ⟨h2,_,h4,aa _⟩) h3⟩
theorem gi(F:Fr C.g w0 own its (PS C st) w){n:Nat}{t:TypeId}{cells:Array Value}(ss:List I.Bs)(hc:cells.toList=ss.map fun s=>Value.string (I.bs s))(hn:n=ss.length)(hm:n≤1000)(hp:0<n):
 Calls Tryz.prog 130 #[.pointer (some ⟨C.g,0,none⟩),.slice (some ⟨w.heap.size,0,none⟩) n n] (w.alloc (.cells cells t)) fun e w'=>∃(i:Nat) (s:I.St),I.choose C.text.size 0 ss st=(i,s)∧i<n∧e=.returned (.int .i64 (i:Int))∧Fr C.g w0 own its (PS C s) w':=by
 refine(EH F ss hc hn hm).mono fun e w' ⟨i,s,h1,h2,h3⟩=>⟨i,s,h1,?_,h2,h3⟩
 have:=I.choose_lt C.text.size ss 0 st;rw[h1]at this;simp only at this;omega
theorem oP{b:Nat}{t:TypeId}{cs:Array Value}(h:NA w b t cs):iH [(b,.cells cs t (0,0))] w:=fun p hp=>by
 rw[List.mem_singleton.1 hp]
 exact h
theorem uY{g b:Nat}{o:Obj}(h:b≠g):∀p∈[(b,o)],p.1≠g:=fun p hp=>by
 rw[List.mem_singleton.1 hp]
 exact h
theorem km{g:Nat}:∀p∈([]:List (Nat×Obj)),p.1≠g:=fun p hp=>by cases hp
theorem wu{α:Type}{N:FuncId}{args:Array Value}{Post:RC→World→α×I.St→Ending→World→Prop}{kid:I.St→α×I.St}{n b:Nat}{t:TypeId}{cs:Array Value}(h:∀(st:I.St) (w:World),PS C st w→NA w b t cs→Calls Tryz.prog N args w (Post C w (kid st))):jS C N args [(b,.cells cs t (0,0))] Post kid n:=
 fun st w _ hp hL=>h st w hp (hL _ ag)
theorem ig{α:Type}{N:FuncId}{args:Array Value}{Post:RC→World→α×I.St→Ending→World→Prop}{kid:I.St→α×I.St}{n:Nat}(h:∀(st:I.St) (w:World),PS C st w→Calls Tryz.prog N args w (Post C w (kid st))):jS C N args [] Post kid n:=
 fun st w _ hp _=>h st w hp
theorem AP(l:I.Bs):0≤(I.kh l).1∧(I.kh l).1≤9223372036854775807:=by
 unfold I.kh;split
 ·exact uk l
 ·exact⟨Int.le_refl _,by decide⟩
theorem Da(s:ByteArray)(l:I.Bs)(hl:s.data.toList=l)(hs:l.length≤4096)(hn:Lex.mq l)(hr:st.r≠[])(F:Fr C.g w0 own its (PS C st) w):Calls Tryz.prog 240 #[.pointer (some ⟨C.g,0,none⟩),.string s] w fun e w'=>∃(n:Int) (er:Nat) (s':I.St),I.kh l=(n,er)∧(if er=0 then st else I.fail C.text.size 271 st)=s'∧(0≤n∧n≤9223372036854775807)∧e=.returned (.int .i64 n)∧Fr C.g w0 own its (Sf C s') w':=by
 subst hl;have hsz:s.size≤281474976710656:=by have:=eI s;omega
 refine(mg C s st w F.q hsz).mono fun e w' h=>?_
 unfold qj at h;rw[I.J8 hn]at h;obtain⟨h1,h2,h3,h4⟩:=h;refine⟨(I.kh s.data.toList).1,(I.kh s.data.toList).2,_,rfl,rfl,AP _,h1,F.call (Sf.eU ?_) h3⟩;by_cases he:(I.kh s.data.toList).2=0
 ·rw[if_pos he]at h2⊢;exact h2.n hr
 ·rw[if_neg he]at h2⊢;exact⟨h2,_,h4 he,aa _⟩
end
section
variable{w w' w0:World}{g b:Nat}{t:TypeId}{cs:Array Value}{own:eP}{its:List It}{Q:World→Prop}
theorem NA.there(h:NA w g t cs){n:Nat}(hn:n=cs.size):w.there g 0 n:=fun j hj=>by
 subst hn
 have h1:=h.cell j
 have h2:=h.frozen j
 rw[aW]
 refine⟨?_,h2⟩
 rw[h1]
 simp[hj]
theorem NA.range(h:NA w g t cs):w.rangeAt g 0 cs.toList:=fun j v hv=>by
 rw[aW,h.cell j]
 simpa using hv
theorem NA.dD:∀(vs:List Value) (o:Nat) {w:World} {cs:Array Value},NA w g t cs→o+vs.length≤cs.size→∃cs':Array Value,NA (w.setCells g o vs) g t cs'∧cs'.size=cs.size∧(∀j,j<o→cs'[j]?=cs[j]?)∧(∀j,j<vs.length→cs'[o+j]?=vs[j]?)∧(∀j,o+vs.length≤j→cs'[j]?=cs[j]?):=by
 intro vs;induction vs with
 |nil=>intro o w cs h _;exact⟨cs,h,rfl,fun _ _=>rfl,fun j hj=>by simp at hj,fun _ _=>rfl⟩
 |cons v vs ih=>
  intro o w cs h hl;rw[ab]at hl;obtain⟨cs',h1,h2,h3,h4,h5⟩:=ih (o+1) (h.put o v) (by simp;omega);refine⟨cs',h1,by simpa using h2,fun j hj=>?_,fun j hj=>?_,fun j hj=>?_⟩
  ·rw[h3 j (by omega)];simp[show o≠j by omega]
  ·cases j with
   |zero=>
    have:=h3 o (by omega);rw[bh,this,Array.getElem?_setIfInBounds_self_of_lt (by omega)];rfl
   |succ j=>
    have:=h4 j (by simp at hj;omega);rw[show o+(j+1)=o+1+j by omega,this];simp
  ·rw[ab]at hj;rw[h5 j (by omega)];simp[show o≠j by omega]
theorem NA.lB(h:NA w g t cs)(vs:List Value)(hl:vs.length=cs.size):NA (w.setCells g 0 vs) g t vs.toArray:=by
 obtain⟨cs',h1,h2,_,h4,_⟩:=NA.dD vs 0 h (by omega);have:cs'=vs.toArray:=by
  apply Array.ext_getElem?;intro j;by_cases hj:j<vs.length
  ·have:=h4 j hj;rw[aW]at this;rw[this];simp
  ·rw[Array.getElem?_eq_none (by omega),Array.getElem?_eq_none (by simp;omega)]
 rw[←this];exact h1
theorem Ch.dD{r B:Nat}:∀(vs:List Value) (o:Nat) {w:World},Ch r B w0 w→(g=r∨B≤g)→Ch r B w0 (w.setCells g o vs):=by
 intro vs;induction vs with
 |nil=>intro o w h _;exact h
 |cons v vs ih=>intro o w h hg;exact ih (o+1) (h.set (p:=⟨g,o,none⟩) hg v) hg
theorem Fr.AT(h:Fr g w0 ((b,t,cs)::own) its Q w)(vs:List Value)(hl:vs.length=cs.size):Fr g w0 ((b,t,vs.toArray)::own) its Q (w.setCells b 0 vs):=
 h.pj (Ch.dD vs 0 (Ch.refl b w.heap.size w) (.inl rfl)) (h.cQ.lB vs hl)
theorem Fr.BE{p:Nat×TypeId×Array Value}(h:Fr g w0 (p::(b,t,cs)::own) its Q w)(vs:List Value)(hl:vs.length=cs.size):Fr g w0 (p::(b,t,vs.toArray)::own) its Q (w.setCells b 0 vs):=(h.swap.AT vs hl).swap
end
noncomputable def Sg {α:Type} (x y:α):Bool:= @decide (x=y) (Classical.propDecidable _)
theorem eu{α:Type}{x y:α}(h:x=y):Sg x y=true:= @decide_eq_true _ (Classical.propDecidable _) h
theorem gb{α:Type}{x y:α}(h:x≠y):Sg x y=false:= @decide_eq_false _ (Classical.propDecidable _) h
theorem Hl{α:Type}{x y:α}(h:Sg x y=true):x=y:= @of_decide_eq_true _ (Classical.propDecidable _) h
theorem Du{α:Type}{x y:α}(h:Sg x y=false):x≠y:= @of_decide_eq_false _ (Classical.propDecidable _) h
theorem Io{α:Type}{xs ys:List α}(h:xs.length≠ys.length):Sg xs ys=false:=gb fun e=>h (by rw[e])
theorem yx{α:Type}{xs ys:List α}{k:Nat}{x y:α}(h1:xs[k]?=some x)(h2:ys[k]?=some y)(h:Sg x y=false):Sg xs ys=false:=gb fun e=>by
 rw[e,h2]at h1
 injection h1 with h1
 exact Du h h1.symm
theorem uI{α:Type}{xs ys:List α}{k:Nat}{x y:α}(ht:xs.take k=ys.take k)(h1:xs[k]?=some x)(h2:ys[k]?=some y)(h:Sg x y=true):xs.take (k+1)=ys.take (k+1):=by
 have e:=Hl h;subst e;rw[bq,bq,ht,h1,h2]
theorem ue{α:Type}{xs ys:List α}{k:Nat}(ht:xs.take k=ys.take k)(h1:xs.length=k)(h2:ys.length=k):Sg xs ys=true:=by
 rw[aS (by omega),aS (by omega)]at ht;exact eu ht
def SE{α:Type}(E:El α)(N:FuncId)(val:List Value→Value)(p:α→Prop):Prop:=∀(w:World) (cs cs':List Value) (x y:α),p x→E.R w (fun b=>b<w.heap.size) cs x→E.R w (fun b=>b<w.heap.size) cs' y→Calls Tryz.prog N #[val cs,val cs'] w fun e w'=>e=.returned (.bool (Sg x y))∧Below w.heap.size w w'
def WZ{α:Type}(E:El α)(N:FuncId)(args:Array Value)(p:α→Prop):Prop:=∀(w:World) (v v':Value) (xs ys:List α),(∀x∈xs,p x)→Rr E w (fun b=>b<w.heap.size) v xs→Rr E w (fun b=>b<w.heap.size) v' ys→Calls Tryz.prog N (#[v,v']++args) w fun e w'=>e=.returned (.bool (Sg xs ys))∧Below w.heap.size w w'
def UB(N:FuncId):Prop:=∀(w:World) (a b:Value),(callFunc N #[a,b]).run Tryz.prog w=.ok (.enter N #[a,b]) w
theorem Eu{w w':World}{b:Nat}(h:Below w.heap.size w w')(hb:b<w.heap.size):b<w'.heap.size:=aB hb h.size
theorem Rr.up{α:Type}{E:El α}{w w':World}{v:Value}{xs:List α}(h:Rr E w (fun b=>b<w.heap.size) v xs)(hb:Below w.heap.size w w'):Rr E w' (fun b=>b<w'.heap.size) v xs:=h.hp (fun _ hg=>Eu hb hg) fun b hg=>hb.block b hg
theorem El.up{α:Type}{E:El α}{w w':World}{cs:List Value}{x:α}(h:E.R w (fun b=>b<w.heap.size) cs x)(hb:Below w.heap.size w w'):E.R w' (fun b=>b<w'.heap.size) cs x:=El.hp h (fun _ hg=>Eu hb hg) fun b hg=>hb.block b hg
theorem Rr.range{α:Type}{E:El α}{w:World}{v:Value}{xs:List α}{i:Nat}(h:Rr E w (fun b=>b<w.heap.size) v xs)(hi:i<xs.length):∃g off c x cs,v=.slice (some ⟨g,off,none⟩) xs.length c∧xs.length≤c∧c≤9223372036854775807∧g<w.heap.size∧xs[i]?=some x∧E.R w (fun b=>b<w.heap.size) cs x∧cs.length=E.k∧w.rangeAt g (off+i*E.k) cs:=by
 obtain⟨A,c,rfl,h1,h2,h3⟩:=h;obtain⟨g,off,rfl,hg,hc⟩:=h3 (by omega);obtain⟨cs,hr,hcell⟩:=hc i xs[i] (aE hi);exact⟨g,off,c,xs[i],cs,rfl,h1,h2,hg,aE hi,hr,E.len hr,fun j u hu=>hcell j u hu⟩
theorem rangeAt.up{w w':World}{g o:Nat}{cs:List Value}(h:w.rangeAt g o cs)(hg:g<w.heap.size)(hb:Below w.heap.size w w'):w'.rangeAt g o cs:=fun j v hv=>(hb.cell (p:=⟨g,o+j,none⟩) hg).trans (h j v hv)
theorem Ch.toBelow{g B:Nat}{w w':World}(h:Ch g B w w')(hg:B≤g):Below B w w':=⟨h.os,h.tape,h.output,h.size,fun k hk=>h.block k hk (by omega)⟩
theorem Ch.lL{g B:Nat}{w w':World}(h:Below B w w'):Ch g B w w':=⟨h.os,h.tape,h.output,h.size,fun k hk _=>h.block k hk⟩
section
set_option maxRecDepth 100000
theorem gT{w w1:World}{c c':Array Value}{t t':TypeId}(h:w1=(w.alloc (.cells c t)).alloc (.cells c' t')):Hid (NA w1 w.heap.size t c)∧Hid (NA w1 (w.heap.size+1) t' c')∧Hid (Below w.heap.size w w1):=by
 subst h;refine⟨cN ((NA.new w _ _).alloc _),?_,cN (((ax _ _).alloc (aa _) _).alloc (by simp) _)⟩;have:=NA.new (w.alloc (.cells c t)) t' c';exact cN (by simpa using this)
theorem made{w w2:World}{z:Array Value}{t:TypeId}{cs:List Value}(h:w2=(w.alloc (.cells z t)).setCells w.heap.size 0 cs)(hl:cs.length=z.size):Hid (NA w2 w.heap.size t cs.toArray)∧Hid (Below w.heap.size w w2):=by
 subst h;exact⟨cN ((NA.new w t z).lB cs hl),cN ((Ch.dD cs 0 (Ch.lL ((ax _ w).alloc (aa _) _)) (.inr (aa _))).toBelow (g:=w.heap.size) (aa _))⟩
theorem j0{ops:Array Oper}{rest:List Oper}{op:Oper}{a:Act}{w:World}{Q:Exit→Act→World→Prop}{P:Program}(hgd:op.guard=none){ty:TypeId}{x:Operand}(ho:op.op=.load ty x){b o:Nat}(hx:a.eval x=.pointer (some ⟨b,o,none⟩)){cs:List Value}(hc:w.rangeAt b o cs)(hd:((P.underlying ty).map (·.isRow))=some true)(hi:(P.info? ty).map (·.size)=some cs.length)(h:wpList P ops Q rest (a.put op.dst (.agg cs.toArray)) w):wpList P ops Q (op::rest) a w:=by
 cases hu:P.underlying ty with
 |none=>rw[hu]at hd;cases hd
 |some d=>rw[hu]at hd;injection hd with hd;exact wpList_load_mid hgd ty x ho b o hx cs d hc hu hd hi h
theorem kG{α:Type}{x y:α}(h:x≠y):Ending.returned (.bool false)=.returned (.bool (Sg x y)):=by rw[gb h]
theorem ku{α:Type}{x y:α}(h:x=y):Ending.returned (.bool true)=.returned (.bool (Sg x y)):=by rw[eu h]
def SF{α:Type}(E:El α)(f:FuncId):Prop:=∀(N:FuncId),UB N→∀p:α→Prop,SE E N iK p→WZ E f #[.func (.func N) #[] #[]] p
theorem kP:Tryz.prog.underlying 50=some (.struct (Tryz.prog.fieldsOf 50)):=by kernel_rfl
theorem ji:(Tryz.prog.info? 50).map (·.size)=some 8:=by kernel_rfl
theorem zZ:Tryz.prog.underlying 40=some (.struct (Tryz.prog.fieldsOf 40)):=by kernel_rfl
theorem zc:(Tryz.prog.info? 40).map (·.size)=some 8:=by kernel_rfl
theorem qA:Tryz.prog.underlying 45=some (.struct (Tryz.prog.fieldsOf 45)):=by kernel_rfl
theorem lM:(Tryz.prog.info? 45).map (·.size)=some 7:=by kernel_rfl
theorem yW:Tryz.prog.underlying 132=some (.struct (Tryz.prog.fieldsOf 132)):=by kernel_rfl
theorem yM:(Tryz.prog.info? 132).map (·.size)=some 3:=by kernel_rfl
theorem lu:SF NI 177∧SF eM 93∧SF fw 95∧SF fG 99∧SF fL 170∧SF ft 173∧SF fY 175:=by
 refine⟨?_,?_,?_,?_,?_,?_,?_⟩;all_goals
  intro N hN p hC w v v' xs ys hp hx hy
  have HC:=cN hC
  have HP:=cN hp
  have HX:=cN hx
  have HY:=cN hy
  obtain⟨A,c,rfl,h1,h2⟩:=hx.form
  obtain⟨A',c',rfl,h1',h2'⟩:=hy.form
  clear hC hp hx hy
  first|go_enter Tryz.func177,Tryz.ntmps177|go_enter Tryz.func93,Tryz.ntmps93|go_enter Tryz.func95,Tryz.ntmps95|go_enter Tryz.func99,Tryz.ntmps99|go_enter Tryz.func170,Tryz.ntmps170|go_enter Tryz.func173,Tryz.ntmps173|go_enter Tryz.func175,Tryz.ntmps175
  by_cases hlen:xs.length=ys.length
  ·have t0:ys.length=xs.length:=hlen.symm;have T5:=cN hlen;have HT0:Hid (xs.take 0=ys.take 0):=rfl;have HB0:=cN (ax w.heap.size w);clear hlen;go_wp2_with fail
   go_loopg [17] xs.length (fun gg i wr=>∃k:Nat,k≤xs.length∧gg=xs.length-k∧i=.int .i64 (k:Int)∧Hid (xs.take k=ys.take k)∧Hid (Below w.heap.size w wr));case atStart=>exact⟨0,ao _,rfl,rfl,HT0,HB0⟩
   case round=>
    obtain⟨k,hk,rfl,rfl,HT,HB⟩:=hrel;obtain⟨w1,hw⟩:∃x,x=wr:=⟨_,rfl⟩;subst hw;clear HT0 HB0 t0;by_cases hlt:k<xs.length
    ·have hlt':k<ys.length:=by have:=T5.o;omega
     obtain⟨g,off,c2,x,cs,hv,q1,q2,hg,hi,hr,hl,hra⟩:=(HX.o.up HB.o).range hlt;obtain⟨g',off',c2',y,cs',hv',q1',q2',hg',hi',hr',hl',Of⟩:=(HY.o.up HB.o).range hlt';injection hv with e1 e2 e3
     injection hv' with VZ e2' e3'
     subst e1 e3 VZ e3';clear e2 e2' q1 q1' q2 q2';have t1:decide ((k:Int)<(xs.length:Int))=true:=aq (by omega);have b1:(k:Int)<(xs.length:Int):=by omega
     have b2:(k:Int)<(ys.length:Int):=by omega
     have HR:=cN hr;have W0:=cN hr';have HI:=cN hi;have Vc:=cN hi';have RH:=cN hra;have Yj:=cN Of;have HL:=cN hl;have Yk:=cN hl';have OX:=cN (all_oneCell_toArray (El.one _ HR.o));have OY:=cN (all_oneCell_toArray (El.one _ W0.o));clear hr hr' hi hi' hra Of hl hl';go_upto_region 6 with(first|refine j0 rfl rfl rfl RH.o (by kernel_rfl) (by rw[HL.o];kernel_rfl) ?_|refine wpList_store_mid rfl _ _ _ rfl _ 0 cs.toArray rfl rfl ((NA.new _ _ _).there (n:=cs.toArray.size) (by simp[HL.o];rfl)) (by rw[aQ,HL.o];kernel_rfl) OX.o ?_)
     refine P8 fun w2 hw2=>?_
     obtain⟨BX,HB2⟩:=made hw2 (by rw[HL.o];rfl);have RA':=cN (rangeAt.up Yj.o hg' HB2.o);clear RH Yj OX hw2;go_upto_region 7 with(first|refine j0 rfl rfl rfl RA'.o (by kernel_rfl) (by rw[Yk.o];kernel_rfl) ?_|refine wpList_store_mid rfl _ _ _ rfl _ 0 cs'.toArray rfl rfl ((NA.new _ _ _).there (n:=cs'.toArray.size) (by simp[Yk.o];rfl)) (by rw[aQ,Yk.o];kernel_rfl) OY.o ?_)
     refine P8 fun w3 hw3=>?_
     obtain⟨BY,HB3⟩:=made hw3 (by rw[Yk.o];rfl);have Yl:=(BX.o.below HB3.o BX.o.lt).range;have ZJ:=BY.o.range;rw[bV]at Yl ZJ;obtain⟨gx,hgx⟩:∃q,q=w1.heap.size:=⟨_,rfl⟩;obtain⟨gy,hgy⟩:∃q,q=w2.heap.size:=⟨_,rfl⟩;rw[←hgx]at Yl;rw[←hgy]at ZJ;rw[←hgx,←hgy];have Ym:=cN Yl;have Yn:=cN ZJ;have hF:∀(w:World) (a b:Value),(callFunc N #[a,b]).run Tryz.prog w=.ok (.enter N #[a,b]) w:=hN;clear RA' BX BY hw3 hgx hgy OY Yl ZJ;go_wp2_with (first|refine j0 rfl rfl rfl Ym.o (by kernel_rfl) (by rw[HL.o];kernel_rfl) ?_|refine j0 rfl rfl rfl Yn.o (by kernel_rfl) (by rw[Yk.o];kernel_rfl) ?_)
     have cc:=HC.o w3 cs cs' x y (HP.o x (aR HI.o)) (El.up (El.up HR.o HB2.o) HB3.o) (El.up (El.up W0.o HB2.o) HB3.o);unfold iK at cc;with_reducible refine cc.mono ?_
     clear cc;rintro e w4 ⟨rfl,hb4⟩;have Si:=cN (HB.o.trans ((HB2.o.trans ((HB3.o.trans (hb4.mono HB3.o.size)).mono HB2.o.size)).mono HB.o.size));clear hb4 hF Ym Yn HB2 HB3 HC HP HR W0;by_cases hxy:x=y
     ·have HT1:=cN (uI HT.o HI.o Vc.o (eu hxy));rw[eu hxy];clear hxy;go_wp2_with fail
      go_roundg (xs.length-(k+1));case measure=>omega
      case rel=>exact⟨k+1,by omega,rfl,by go_num,HT1,Si⟩
     ·have HE:=cN (yx HI.o Vc.o (gb hxy));rw[gb hxy];go_wp2_with fail
      go_ret;exact⟨by rw[HE.o];rfl,Si.o⟩
    ·obtain rfl:k=xs.length:=by omega
     have t1:decide ((xs.length:Int)<(xs.length:Int))=false:=ar (by omega);have HE:=cN (ue HT.o rfl T5.o.symm);go_wp2_with fail
     go_ret;exact⟨by rw[HE.o];rfl,HB.o⟩
  ·have t1:¬(xs.length:Int)=(ys.length:Int):=by omega
   go_wp2_with fail
   go_ret;exact⟨kG fun e=>hlen (by rw[e]),ax _ _⟩
theorem M6:SF NI 177:=lu.1
theorem Jj:SF eM 93:=lu.2.1
theorem Jp:SF fw 95:=lu.2.2.1
theorem IF:SF fG 99:=lu.2.2.2.1
theorem Ju:SF fL 170:=lu.2.2.2.2.1
theorem Jc:SF ft 173:=lu.2.2.2.2.2.1
theorem JB:SF fY 175:=lu.2.2.2.2.2.2
theorem Ie(N:FuncId)(hN:UB N)(p:_→Prop)(hC:SE fO N yw p):WZ fO 97 #[.func (.func N) #[] #[]] p:=by
 intro w v v' xs ys hp hx hy;have HC:=cN hC;have HP:=cN hp;have HX:=cN hx;have HY:=cN hy;obtain⟨A,c,rfl,h1,h2⟩:=hx.form;obtain⟨A',c',rfl,h1',h2'⟩:=hy.form;clear hC hp hx hy;go_enter Tryz.func97,Tryz.ntmps97;by_cases hlen:xs.length=ys.length
 ·have t0:ys.length=xs.length:=hlen.symm;have T5:=cN hlen;have HT0:Hid (xs.take 0=ys.take 0):=rfl;have HB0:=cN (ax w.heap.size w);clear hlen;go_wp2_with fail
  go_loopg [17] xs.length (fun gg i wr=>∃k:Nat,k≤xs.length∧gg=xs.length-k∧i=.int .i64 (k:Int)∧Hid (xs.take k=ys.take k)∧Hid (Below w.heap.size w wr));case atStart=>exact⟨0,ao _,rfl,rfl,HT0,HB0⟩
  case round=>
   obtain⟨k,hk,rfl,rfl,HT,HB⟩:=hrel;obtain⟨w1,hw⟩:∃x,x=wr:=⟨_,rfl⟩;subst hw;clear HT0 HB0 t0;by_cases hlt:k<xs.length
   ·have hlt':k<ys.length:=by have:=T5.o;omega
    obtain⟨g,off,c2,x,cs,hv,q1,q2,hg,hi,hr,hl,hra⟩:=(HX.o.up HB.o).range hlt;obtain⟨g',off',c2',y,cs',hv',q1',q2',hg',hi',hr',hl',Of⟩:=(HY.o.up HB.o).range hlt';injection hv with e1 e2 e3
    injection hv' with VZ e2' e3'
    subst e1 e3 VZ e3';clear e2 e2' q1 q1' q2 q2';have t1:decide ((k:Int)<(xs.length:Int))=true:=aq (by omega);have b1:(k:Int)<(xs.length:Int):=by omega
    have b2:(k:Int)<(ys.length:Int):=by omega
    have HR:=cN hr;have W0:=cN hr';have HI:=cN hi;have Vc:=cN hi';obtain⟨v1,rfl,hv1⟩:=hr;obtain⟨v2,rfl,hv2⟩:=hr';obtain⟨A1,m1,c1,rfl⟩:=dj hv1;obtain⟨A2,m2,c3,rfl⟩:=dj hv2;have k1:=hra 0 _ rfl;have k2:=Of 0 _ rfl;rw[show fO.k=1 from rfl,bZ,bh]at k1 k2;have hF:∀(w:World) (a b:Value),(callFunc N #[a,b]).run Tryz.prog w=.ok (.enter N #[a,b]) w:=hN;clear hi hi' hra Of hl hl' hv1 hv2;go_wp2_with fail
    have cc:=HC.o w1 _ _ x y (HP.o x (aR HI.o)) HR.o W0.o;unfold yw at cc;simp only[List.headD_cons]at cc;with_reducible refine cc.mono ?_
    clear cc;rintro e w4 ⟨rfl,hb4⟩;have Si:=cN (HB.o.trans (hb4.mono HB.o.size));clear hb4 hF k1 k2 HC HP HR W0;by_cases hxy:x=y
    ·have HT1:=cN (uI HT.o HI.o Vc.o (eu hxy));rw[eu hxy];clear hxy;go_wp2_with fail
     go_roundg (xs.length-(k+1));case measure=>omega
     case rel=>exact⟨k+1,by omega,rfl,by go_num,HT1,Si⟩
    ·have HE:=cN (yx HI.o Vc.o (gb hxy));rw[gb hxy];go_wp2_with fail
     go_ret;exact⟨by rw[HE.o];rfl,Si.o⟩
   ·obtain rfl:k=xs.length:=by omega
    have t1:decide ((xs.length:Int)<(xs.length:Int))=false:=ar (by omega);have HE:=cN (ue HT.o rfl T5.o.symm);go_wp2_with fail
    go_ret;exact⟨by rw[HE.o];rfl,HB.o⟩
 ·have t1:¬(xs.length:Int)=(ys.length:Int):=by omega
  go_wp2_with fail
  go_ret;exact⟨kG fun e=>hlen (by rw[e]),ax _ _⟩
end
end Go.Proofs.YtnicfobpclehkaaGreatDoor
