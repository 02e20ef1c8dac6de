import Derived.Test.YtnicfobpclehkaaGreatDoorP22
set_option maxHeartbeats 3200000
set_option linter.unusedVariables false
set_option linter.unusedSimpArgs false
namespace Go.Proofs.YtnicfobpclehkaaGreatDoor
open Go.RowKit
section
set_option maxRecDepth 100000
section
variable{g:Nat}{w0 w w':World}{own:bO}{its:List It}{Q:World→Prop}
end
theorem yK(C:RC)(st:I.St)(w:World)(h:PS C st w):
 Calls Tryz.prog 58 #[.p C.g] w (EPost aB C w (I.query C.text.size st)):=by
 have F0:=aa (Fr.start h.lt h.aJ);clear h;go_enter Tryz.func58,Tryz.ntmps58;have F1:=aa (F0.o.new 30 #[.b,.e,.e,.e,.b,.z,.z,.z,.z,.z,.z,.f,.e]);obtain⟨w1,hw⟩:=aab (w.alloc (.cells #[.b,.e,.e,.e,.b,.z,.z,.z,.z,.z,.z,.f,.e] 30));go_upto_region 1 with fail
 rw[←hw]at F1⊢;clear hw;go_wp2_with fail
 with_reducible refine(Fr.BV F1.o (kr C _ _ F1.o.q)).mono ?_
 rintro e w2 ⟨A1,m1,c1,A2,m2,c2,A3,m3,c3,A4,m4,c4,A5,m5,c5,x2,s2,(X2:Hid _),rfl,(F2:Hid _)⟩;have FL:=aa (F2.o.ff (E:=eB) (cs:=[.bool x2.all,.slice A1 m1 c1,.slice A2 m2 c2,.slice A3 m3 c3,.slice A4 m4 c4,.slice A5 m5 c5,.i x2.lim]) 45);have HT:=aa (FL.o.ab.there (n:=13) rfl);have Lv:=aa (show(#[.u 17,.e,.e,.e,.b,.z,.slice (some ⟨w2.heap.size,0,none⟩) 1 1,.z,.z,.z,.z,.f,.e]:Array Value).all (·.oneCell')=true by simp[Value.oneCell']);obtain⟨w3,hw⟩:=aab ((w2.alloc (.cells #[.bool x2.all,.slice A1 m1 c1,.slice A2 m2 c2,.slice A3 m3 c3,.slice A4 m4 c4,.slice A5 m5 c5,.i x2.lim] 45)).setCells w.heap.size 0 [.u 17,.e,.e,.e,.b,.z,.slice (some ⟨w2.heap.size,0,none⟩) 1 1,.z,.z,.z,.z,.f,.e]);go_wp2_with (refine wpList_store_mid rfl 30 (.tmp 2) (.tmp 6) rfl w.heap.size 0 #[.u 17,.e,.e,.e,.b,.z,.slice (some ⟨w2.heap.size,0,none⟩) 1 1,.z,.z,.z,.z,.f,.e] rfl rfl HT.o af Lv.o ?_;rw[←hw])
 have FZ:=aa (FL.o.mR [.u 17,.e,.e,.e,.b,.z,.slice (some ⟨w2.heap.size,0,none⟩) 1 1,.z,.z,.z,.z,.f,.e] rfl);rw[←hw]at FZ;clear hw;have HS:Hid (I.query C.text.size st=(({I.Km.of 17 with q:=[x2]}:I.Km),s2)):=by show _=_;simp only[I.query,X2.o]
 refine bodyPost_ret (results_cell_row rfl _ _ w.heap.size 30 _ (0,0) _ rfl FZ.o.ab ag rfl af) rfl ?_;rw[HS.o];exact FZ.o.done ⟨_,_,_,_,_,_,rfl,Rr.nil _ _ _,FZ.o.Kx,Rr.nil _ _ _,Rr.nil _ _ _,Rr.nil _ _ _,Rr.nil _ _ _,Sz.of (Nat.zero_le _),Sz.of (Nat.zero_le _),Sz.of (Nat.zero_le _),Sz.of (Nat.zero_le _)⟩
theorem Bx(C:RC)(st:I.St)(w:World)(h:PS C st w):
 Calls Tryz.prog 126 #[.p C.g] w (EPost aB C w (I.view C.text.size st)):=by
 have F0:=aa (Fr.start h.lt h.aJ);clear h;go_enter Tryz.func126,Tryz.ntmps126;have F1:=aa (F0.o.new 30 #[.b,.e,.e,.e,.b,.z,.z,.z,.z,.z,.z,.f,.e]);obtain⟨w1,hw⟩:=aab (w.alloc (.cells #[.b,.e,.e,.e,.b,.z,.z,.z,.z,.z,.z,.f,.e] 30));go_upto_region 1 with fail
 rw[←hw]at F1⊢;clear hw;go_wp2_with fail
 with_reducible refine(cG F1.o).mono ?_
 rintro e w2 ⟨n2,s2,(N2:Hid _),(Z2:Hid _),rfl,(F2:Hid _)⟩;go_upto_region 2 with fail
 have F3:=aa (F2.o.new 30 #[.u 3,.s (I.bs n2),.e,.e,.b,.z,.z,.z,.z,.z,.z,.f,.e]);obtain⟨w3,hw⟩:=aab (w2.alloc (.cells #[.u 3,.s (I.bs n2),.e,.e,.b,.z,.z,.z,.z,.z,.z,.f,.e] 30));obtain⟨g3,hg⟩:=aab w2.heap.size;rw[←hw,←hg]at F3;rw[←hw,←hg];clear hw hg;go_wp2_with fail
 with_reducible refine(aY F3.o (n:=2) (cells:=#[.s ⟨#[97,115]⟩,.s ⟨#[115,101,108,101,99,116]⟩]) [[97,115],[115,101,108,101,99,116]] rfl rfl (by decide)).mono ?_
 rintro e w4 ⟨s4,(E4:Hid _),rfl,(F4:Hid _)⟩;go_wp2_with fail
 with_reducible refine(Fr.BV F4.o (kr C _ _ F4.o.q)).mono ?_
 rintro e w5 ⟨A1,m1,c1,A2,m2,c2,A3,m3,c3,A4,m4,c4,A5,m5,c5,x5,s5,(X5:Hid _),rfl,(F5:Hid _)⟩;have Pq:=(F5.o.ab.alloc (.cells #[.bool x5.all,.slice A1 m1 c1,.slice A2 m2 c2,.slice A3 m3 c3,.slice A4 m4 c4,.slice A5 m5 c5,.i x5.lim] 45)).cell 6;have OB:=(F5.o.ab.alloc (.cells #[.bool x5.all,.slice A1 m1 c1,.slice A2 m2 c2,.slice A3 m3 c3,.slice A4 m4 c4,.slice A5 m5 c5,.i x5.lim] 45)).frozen 6;have kl:=F5.o.ab.lt;simp at Pq;go_upto_region 4 with fail
 have F6:=aa ((F5.o).gL (E:=eB) (cs:=[.bool x5.all,.slice A1 m1 c1,.slice A2 m2 c2,.slice A3 m3 c3,.slice A4 m4 c4,.slice A5 m5 c5,.i x5.lim]) 45 6 (cells':=#[.u 3,.s (I.bs n2),.e,.e,.b,.z,.slice (some ⟨w5.heap.size,0,none⟩) 1 1,.z,.z,.z,.z,.f,.e]) rfl);obtain⟨w6,hw⟩:=aab (((w5.setCell ⟨g3,6,none⟩ (.slice (some ⟨w5.heap.size,0,none⟩) 1 1)).alloc (.cells #[.bool x5.all,.slice A1 m1 c1,.slice A2 m2 c2,.slice A3 m3 c3,.slice A4 m4 c4,.slice A5 m5 c5,.i x5.lim] 45)));obtain⟨g6,hg⟩:=aab w5.heap.size;rw[←hw,←hg]at F6;rw[←hw,←hg];clear hw hg Pq OB kl;have Ks:=F6.o.ab.KI;simp at Ks;have cj2:=F6.o.ah.KI;simp at cj2;obtain⟨KQ,KS,KT,K4,K5,K6,K7,K9,Ma,MC,KX,KY,KZ⟩:=F6.o.ah.LW;go_wp2_with fail
 have FZ:=aa (F6.o.cN (cC (Ch.refl _ _ _) (.inl rfl) _ _ _ _ _ _ _ _ _ _ _ _ _) (bC F6.o.ah (.u 3) (.s (I.bs n2)) .e .e .b .z (.slice (some ⟨g6,0,none⟩) 1 1) .z .z .z .z .f .e));have HS:Hid (I.view C.text.size st=(({I.Km.of 3 with nm:=n2,q:=[x5]}:I.Km),s5)):=by show _=_;simp only[I.view,N2.o,E4.o,X5.o]
 refine bodyPost_ret (results_cell_row rfl _ _ w.heap.size 30 _ (0,0) _ rfl FZ.o.ah ag rfl af) rfl ?_;rw[HS.o];exact FZ.o.done (⟨_,_,_,_,_,_,rfl,Rr.nil _ _ _,FZ.o.Kx,Rr.nil _ _ _,Rr.nil _ _ _,Rr.nil _ _ _,Rr.nil _ _ _,Sz.of Z2.o,Sz.of (Nat.zero_le _),Sz.of (Nat.zero_le _),Sz.of (Nat.zero_le _)⟩)
theorem tY(C:RC)(st:I.St)(w:World)(h:PS C st w):
 Calls Tryz.prog 127 #[.p C.g] w (EPost aB C w (I.cu C.text.size st)):=by
 have F0:=aa (Fr.start h.lt h.aJ);clear h;go_enter Tryz.func127,Tryz.ntmps127;have F1:=aa (F0.o.new 30 #[.b,.e,.e,.e,.b,.z,.z,.z,.z,.z,.z,.f,.e]);obtain⟨w1,hw⟩:=aab (w.alloc (.cells #[.b,.e,.e,.e,.b,.z,.z,.z,.z,.z,.z,.f,.e] 30));go_upto_region 1 with fail
 rw[←hw]at F1⊢;clear hw;go_wp2_with fail
 with_reducible refine(cG F1.o).mono ?_
 rintro e w2 ⟨n2,s2,(N2:Hid _),(Z2:Hid _),rfl,(F2:Hid _)⟩;go_upto_region 2 with fail
 have F3:=aa (F2.o.new 30 #[.u 5,.s (I.bs n2),.e,.e,.b,.z,.z,.z,.z,.z,.z,.f,.e]);obtain⟨w3,hw⟩:=aab (w2.alloc (.cells #[.u 5,.s (I.bs n2),.e,.e,.b,.z,.z,.z,.z,.z,.z,.f,.e] 30));obtain⟨g3,hg⟩:=aab w2.heap.size;rw[←hw,←hg]at F3;rw[←hw,←hg];clear hw hg;go_wp2_with fail
 with_reducible refine(aY F3.o (n:=1) (cells:=#[.s ⟨#[97,102,116,101,114]⟩]) [[97,102,116,101,114]] rfl rfl (by decide)).mono ?_
 rintro e w4 ⟨s4,(E4:Hid _),rfl,(F4:Hid _)⟩;go_upto_region 4 with fail
 have F5:=aa (F4.o.new 217 #[.u 14,.u 15,.u 16]);obtain⟨w5,hw⟩:=aab (w4.alloc (.cells #[.u 14,.u 15,.u 16] 217));obtain⟨g5,hg⟩:=aab w4.heap.size;rw[←hw,←hg]at F5;rw[←hw,←hg];clear hw hg;go_wp2_with fail
 with_reducible refine(jz F5.o (n:=3) (cells:=#[.s ⟨#[105,110,115,101,114,116]⟩,.s ⟨#[117,112,100,97,116,101]⟩,.s ⟨#[100,101,108,101,116,101]⟩]) [[105,110,115,101,114,116],[117,112,100,97,116,101],[100,101,108,101,116,101]] rfl rfl (by decide) (by decide)).mono ?_
 rintro e w6 ⟨i6,s6,(E6:Hid _),hI6,rfl,(F6:Hid _)⟩;have I6:=aa hI6;clear hI6;obtain⟨SC,Pk⟩:∃q:UInt8,q=([14,15,16]:List UInt8).getD i6 0:=⟨_,rfl⟩;have Sr:w6.cell? ⟨g5,i6,none⟩=some (.u (SC.toNat:Int)):=by
  have hi:=I6.o;rw[F6.o.ab.cell i6,Pk];have:i6=0∨i6=1∨i6=2:=by omega
  rcases this with rfl|rfl|rfl<;>rfl
 have KV6:=aa Pk;clear Pk;have Ss:(i6:Int)<3:=by have:=I6.o;omega
 have O2:=F6.o.ah.cell 4;simp at O2;have Oj:=F6.o.ah.frozen 4;go_upto_region 5 with fail
 have F7:=aa (F6.o.iq 4 (.u (SC.toNat:Int)) (cs':=#[.u 5,.s (I.bs n2),.e,.e,.u (SC.toNat:Int),.z,.z,.z,.z,.z,.z,.f,.e]) rfl);obtain⟨w7,hw⟩:=aab (w6.setCell ⟨g3,4,none⟩ (.u (SC.toNat:Int)));rw[←hw]at F7⊢;clear hw O2 Oj;clear Sr Ss;go_wp2_with fail
 with_reducible refine(aY F7.o (n:=1) (cells:=#[.s ⟨#[111,110]⟩]) [[111,110]] rfl rfl (by decide)).mono ?_
 rintro e w8 ⟨s8,(E8:Hid _),rfl,(F8:Hid _)⟩;go_wp2_with fail
 with_reducible refine(cG F8.o).mono ?_
 rintro e w9 ⟨n9,s9,(N9:Hid _),(Z9:Hid _),rfl,(F9:Hid _)⟩;have KK:=F9.o.ah.cell 2;simp at KK;have Mb:=F9.o.ah.frozen 2;go_upto_region 7 with fail
 have KC:=aa (F9.o.iq 2 (.s (I.bs n9)) (cs':=#[.u 5,.s (I.bs n2),.s (I.bs n9),.e,.u (SC.toNat:Int),.z,.z,.z,.z,.z,.z,.f,.e]) rfl);obtain⟨Lo,hw⟩:=aab (w9.setCell ⟨g3,2,none⟩ (.s (I.bs n9)));rw[←hw]at KC⊢;clear hw KK Mb;go_wp2_with fail
 with_reducible refine(aY KC.o (n:=2) (cells:=#[.s ⟨#[105,110,115,101,114,116]⟩,.s ⟨#[105,110,116,111]⟩]) [[105,110,115,101,114,116],[105,110,116,111]] rfl rfl (by decide)).mono ?_
 rintro e Lh ⟨s11,(Un:Hid _),rfl,(K1:Hid _)⟩;go_wp2_with fail
 with_reducible refine(cG K1.o).mono ?_
 rintro e Mc ⟨n12,s12,(Tg:Hid _),(Th:Hid _),rfl,(Ll:Hid _)⟩;have LN:=Ll.o.ah.cell 3;simp at LN;have Mt:=Ll.o.ah.frozen 3;go_upto_region 9 with fail
 have OF:=aa (Ll.o.iq 3 (.s (I.bs n12)) (cs':=#[.u 5,.s (I.bs n2),.s (I.bs n9),.s (I.bs n12),.u (SC.toNat:Int),.z,.z,.z,.z,.z,.z,.f,.e]) rfl);obtain⟨PZ,hw⟩:=aab (Mc.setCell ⟨g3,3,none⟩ (.s (I.bs n12)));rw[←hw]at OF⊢;clear hw LN Mt;go_wp2_with fail
 with_reducible refine(aY OF.o (n:=1) (cells:=#[.s ⟨#[118,97,108,117,101,115]⟩]) [[118,97,108,117,101,115]] rfl rfl (by decide)).mono ?_
 rintro e Te ⟨ZS,(ZT:Hid _),rfl,(RR:Hid _)⟩;go_wp2_with fail
 with_reducible refine(Fr.jJ RR.o (xh C _ _ RR.o.q)).mono ?_
 rintro e QV ⟨v15,ZU,s15,(X15:Hid _),rfl,(Rc:Hid _)⟩;obtain⟨X0,m15,c15,rfl⟩:=ar Rc.o.Kx;have NY:=(Rc.o.ah.alloc (.cells #[.slice X0 m15 c15] 27)).cell 7;have NK:=(Rc.o.ah.alloc (.cells #[.slice X0 m15 c15] 27)).frozen 7;have kl:=Rc.o.ah.lt;simp at NY;go_upto_region 11 with fail
 have QE:=aa ((Rc.o.G3).GK (E:=dM) (cs:=[.slice X0 m15 c15]) 27 7 (cells':=#[.u 5,.s (I.bs n2),.s (I.bs n9),.s (I.bs n12),.u (SC.toNat:Int),.z,.z,.slice (some ⟨QV.heap.size,0,none⟩) 1 1,.z,.z,.z,.f,.e]) rfl);obtain⟨w16,hw⟩:=aab (((QV.setCell ⟨g3,7,none⟩ (.slice (some ⟨QV.heap.size,0,none⟩) 1 1)).alloc (.cells #[.slice X0 m15 c15] 27)));obtain⟨g16,hg⟩:=aab QV.heap.size;rw[←hw,←hg]at QE;rw[←hw,←hg];clear hw hg NY NK kl;have RU:=aa QE.o.swap;obtain⟨Zy,hw⟩:=aab w16;subst hw;have Ks:=RU.o.ab.KI;simp at Ks;have cj2:=RU.o.aS.KI;simp at cj2;obtain⟨KQ,KS,KT,K4,K5,K6,K7,K9,Ma,MC,KX,KY,KZ⟩:=RU.o.aS.LW;go_wp2_with fail
 have FZ:=aa (RU.o.lq (cC (Ch.refl _ _ _) (.inl rfl) _ _ _ _ _ _ _ _ _ _ _ _ _) (bC RU.o.aS (.u 5) (.s (I.bs n2)) (.s (I.bs n9)) (.s (I.bs n12)) (.u (SC.toNat:Int)) .z .z (.slice (some ⟨g16,0,none⟩) 1 1) .z .z .z .f .e));have HS:Hid (I.cu C.text.size st=(({I.Km.of 5 with nm:=n2,ev:=SC,on:=n9,aF:=n12,vals:=[ZU]}:I.Km),s15)):=by show _=_;simp only[I.cu,N2.o,E4.o,E6.o,E8.o,N9.o,Un.o,Tg.o,ZT.o,X15.o,KV6.o]
 refine bodyPost_ret (results_cell_row rfl _ _ w.heap.size 30 _ (0,0) _ rfl FZ.o.aS ag rfl af) rfl ?_;rw[HS.o];exact FZ.o.done (⟨_,_,_,_,_,_,rfl,Rr.nil _ _ _,Rr.nil _ _ _,FZ.o.Kx,Rr.nil _ _ _,Rr.nil _ _ _,Rr.nil _ _ _,Sz.of Z2.o,Sz.of Z9.o,Sz.of Th.o,Sz.of (Nat.zero_le _)⟩)
structure Vb where
 word:I.Bs
 N:FuncId
 bs:Array Value
 args:Array Value
 rd:I.St→I.Km×I.St
def WR:El Vb where
 t:=117
 k:=2
 by':=24
 R _ _ cs v:=cs=[.s (I.bs v.word),.func (.func v.N) v.bs #[]]
 pos:=by decide
 len:=by rintro w P cs v rfl;rfl
 one:=by rintro w P cs v rfl u hu;simp at hu;rcases hu with rfl|rfl<;>rfl
 aR:=by rintro w w' P P' cs v hP hk rfl;rfl
def Vb.ok(C:RC)(v:Vb):Prop:=(∀w:World,(callFunc v.N v.bs).run Tryz.prog w=.ok (.enter v.N v.args) w)∧∀(st:I.St) (w:World),PS C st w→Calls Tryz.prog v.N v.args w (EPost aB C w (v.rd st))
theorem I.zJ{T:Nat}{l:List Vb}{k:Nat}{v:Vb}(h:l[k]?=some v)(st:I.St):I.pick T ((l.drop k).map fun v=>(v.word,v.rd)) st=if I.ae v.word st=true then v.rd (I.next st)else I.pick T ((l.drop (k+1)).map fun v=>(v.word,v.rd)) st:=by
 obtain⟨h1,h2⟩:=List.getElem?_eq_some_iff.1 h;rw[List.drop_eq_getElem_cons h1,h2];rfl
theorem ti(C:RC)(v:Value)(l:List Vb)(hok:∀v∈l,v.ok C)(st:I.St)(w:World)(h:PS C st w)(hl:Rr WR w (Pg C w) v l):
 Calls Tryz.prog 23 #[.p C.g,v] w (EPost aB C w (I.pick C.text.size (l.map fun v=>(v.word,v.rd)) st)):=by
 obtain⟨A,c,rfl,hc1,hc2⟩:=hl.form;have HL:=aa hl;have HK:=aa hok;have F0:=aa (Fr.start h.lt h.aJ);have Kt:=h.lt;clear h hl hok;have FR:=aa (F0.o.new 30 #[.b,.e,.e,.e,.b,.z,.z,.z,.z,.z,.z,.f,.e]);go_enter Tryz.func23,Tryz.ntmps23;have SD:Hid (I.pick C.text.size (l.map fun v=>(v.word,v.rd)) st=I.pick C.text.size ((l.drop 0).map fun v=>(v.word,v.rd)) st):=rfl;go_wp2_with fail
 go_loopg [9] l.length (fun gg ix wr=>∃k:Nat,k≤l.length∧gg=l.length-k∧ix=.i (k:Int)∧Hid (I.pick C.text.size (l.map fun v=>(v.word,v.rd)) st=I.pick C.text.size ((l.drop k).map fun v=>(v.word,v.rd)) st)∧Hid (Fr C.g w [(w.heap.size,30,#[.b,.e,.e,.e,.b,.z,.z,.z,.z,.z,.z,.f,.e])] [] (PS C st) wr));case atStart=>exact⟨0,by omega,by omega,rfl,SD,FR⟩
 case round=>
  obtain⟨k,hkl,rfl,rfl,HS,HF⟩:=hrel;obtain⟨w1,hw⟩:=aab wr;subst hw;clear SD FR F0;have hs1:=HF.o.ch.size;have Ox:=aa (HL.o.hp (P':=Pg C w1) (fun b hb=>⟨hb.1,by have:=hb.2;omega⟩) fun b hb=>HF.o.ch.block b hb.2 (by have:=hb.1;omega));by_cases hlt:k<l.length
  ·obtain⟨g,off,v,cs,rfl,hg,hi,hcs,hcell⟩:=Ox.o.at hlt;have hcs':cs=[.s (I.bs v.word),.func (.func v.N) v.bs #[]]:=hcs;subst hcs';obtain⟨hN,hV⟩:=HK.o v (List.mem_of_getElem? hi);have HV:=aa hV;have HN:=aa hN;have HP:=aa (I.zJ (T:=C.text.size) hi st);have e0:=hcell 0 _ rfl;have e1:=hcell 1 _ rfl;rw[show WR.k=2 from rfl]at e0 e1;rw[Nat.add_zero]at e0;have t1:decide ((k:Int)<(l.length:Int))=true:=decide_eq_true (by omega);have q2:(k:Int)<(l.length:Int):=by omega
   have hgl:=hg.2;obtain⟨vw,vN,vb,va,vr⟩:=v;simp only at e0 e1 HV HN HP;clear hcell hi hcs hV hN hg;obtain⟨w2,hw⟩:=aab (w1.alloc (.cells #[.s (I.bs vw),.func (.func vN) vb #[]] 117));have F2:=aa (HF.o.new 117 #[.s (I.bs vw),.func (.func vN) vb #[]]);rw[←hw]at F2;obtain⟨gv,hgv⟩:=aab w1.heap.size;rw[←hgv]at F2;have ks:∀(W:World) (a:Addr),(store a (.func (.func vN) vb #[])).run Tryz.prog W=stored Tryz.prog W a (.func (.func vN) vb #[]) .plain:=fun W a=>run_store _ W a _ _ rfl
   go_upto_region 4 with fail
   rw[←hw,←hgv];clear hw hgv e0 e1 ks;obtain⟨c0,c1⟩:=F2.o.ab.Y2;simp at c0 c1;go_wp2_with fail
   with_reducible refine(bF (I.bs vw) vw (cL vw) F2.o).mono ?_
   rintro e w3 ⟨b,hb,rfl,hF⟩;clear c0 c1;cases b with
   |true=>
    have F3:Hid (Fr C.g w _ _ (PS C (I.next st)) w3):=hF;have HZ:Hid (I.pick C.text.size (l.map fun v=>(v.word,v.rd)) st=vr (I.next st)):=by show _=_;rw[HS.o,HP.o,if_pos hb]
    have hN:=HN.o;clear hF hb HP HS;have kd1:=F3.o.ab.cell 1;simp at kd1;have cr0:=F3.o.ah.cell 0;go_wp2_with fail
    with_reducible refine(Fr.oR F3.o (HV.o _ _ F3.o.q)).mono ?_
    rintro e w4 ⟨A1,m1,c1,A2,m2,c2,A3,m3,c3,A4,m4,c4,A5,m5,c5,A6,m6,c6,x4,s4,(X4:Hid _),rfl,(F4:Hid _)⟩;clear kd1 cr0;have Ks:=F4.o.ah.KI;simp at Ks;obtain⟨KQ,KS,KT,K4,K5,K6,K7,K9,Ma,MC,KX,KY,KZ⟩:=F4.o.ah.LW;go_wp2_with fail
    have FZ:=aa (F4.o.cN (cC (Ch.refl _ _ _) (.inl rfl) _ _ _ _ _ _ _ _ _ _ _ _ _) (bC F4.o.ah (.u (x4.k.toNat:Int)) (.s (I.bs x4.nm)) (.s (I.bs x4.on)) (.s (I.bs x4.aF)) (.u (x4.ev.toNat:Int)) (.slice A1 m1 c1) (.slice A2 m2 c2) (.slice A3 m3 c3) (.slice A4 m4 c4) (.slice A5 m5 c5) (.slice A6 m6 c6) (.bool x4.opt) (.s (I.bs x4.key))));have HS:Hid (I.pick C.text.size (l.map fun v=>(v.word,v.rd)) st=(x4,s4)):=by show _=_;simp only[HZ.o,X4.o]
    refine bodyPost_ret (results_cell_row rfl _ _ w.heap.size 30 _ (0,0) _ rfl FZ.o.ah ag rfl af) rfl ?_;rw[HS.o];exact FZ.o.done (FZ.o.Kx)
   |false=>
    have F3:Hid (Fr C.g w _ _ (PS C st) w3):=hF;have HZ:Hid (I.pick C.text.size (l.map fun v=>(v.word,v.rd)) st=I.pick C.text.size ((l.drop (k+1)).map fun v=>(v.word,v.rd)) st):=by show _=_;rw[HS.o,HP.o,if_neg (by rw[hb];decide)]
    clear hF hb HP HS;go_wp2_with fail
    go_roundg (l.length-(k+1));case measure=>omega
    case rel=>exact⟨k+1,by omega,rfl,by go_num,HZ,F3.o.G8⟩
  ·have t1:decide ((k:Int)<(l.length:Int))=false:=decide_eq_false (by omega);have q2:¬(k:Int)<(l.length:Int):=by omega
   have hk:k=l.length:=by omega
   have HZ:Hid (I.pick C.text.size (l.map fun v=>(v.word,v.rd)) st=(I.Km.zero,I.fail C.text.size 300 st)):=by show _=_;rw[HS.o,hk,List.drop_length];rfl
   clear HS hk;go_wp2_with fail
   with_reducible refine(rC 300 300 rfl HF.o).mono ?_
   rintro e w3 ⟨s3,(E3:Hid _),rfl,(F3:Hid _)⟩;have cj2:=F3.o.ab.KI;simp at cj2;obtain⟨KQ,KS,KT,K4,K5,K6,K7,K9,Ma,MC,KX,KY,KZ⟩:=F3.o.ab.LW;go_wp2_with fail
   have FZ:=aa (F3.o.gu (cC (Ch.refl _ _ _) (.inl rfl) _ _ _ _ _ _ _ _ _ _ _ _ _) (bC F3.o.ab .b .e .e .e .b .z .z .z .z .z .z .f .e));have HS:Hid (I.pick C.text.size (l.map fun v=>(v.word,v.rd)) st=(I.Km.zero,s3)):=by show _=_;simp only[HZ.o,E3.o]
   refine bodyPost_ret (results_cell_row rfl _ _ w.heap.size 30 _ (0,0) _ rfl FZ.o.ab ag rfl af) rfl ?_;rw[HS.o];exact FZ.o.done (⟨_,_,_,_,_,_,rfl,Rr.nil _ _ _,Rr.nil _ _ _,Rr.nil _ _ _,Rr.nil _ _ _,Rr.nil _ _ _,Rr.nil _ _ _,Sz.of (Nat.zero_le _),Sz.of (Nat.zero_le _),Sz.of (Nat.zero_le _),Sz.of (Nat.zero_le _)⟩)
end
section
set_option maxRecDepth 100000
theorem Hm{C:RC}{w:World}{b:Nat}(h1:C.g<b)(h2:b<w.heap.size):Pg C w b:=⟨h1,h2⟩
theorem uH{w:World}{P:Nat→Prop}{g n:Nat}{t:TypeId}{cells:Array Value}{vs:List Vb}(h:Kn w g t cells)(hc:cells.toList=(vs.map fun v=>[Value.string (I.bs v.word),.func (.func v.N) v.bs #[]]).flatten)(hP:P g)(hn:n=vs.length)(hm:n≤1000):Rr WR w P (.slice (some ⟨g,0,none⟩) n n) vs:=
 Rr.blk (E:=WR) h hc (by simp) (fun i cs x hi hx=>by
  rw[List.getElem?_map,hx]at hi
  simp at hi
  exact hi.symm) hP hn (by omega)
def ri(C:RC):List Vb:=[⟨[116,97,98,108,101],125,#[.p C.g],#[.p C.g],I.table C.text.size⟩,⟨[118,105,101,119],126,#[.p C.g],#[.p C.g],I.view C.text.size⟩,⟨[116,114,105,103,103,101,114],127,#[.p C.g],#[.p C.g],I.cu C.text.size⟩,⟨[112,111,108,105,99,121],128,#[.p C.g],#[.p C.g],I.dE C.text.size⟩,⟨[114,111,108,101],129,#[.p C.g],#[.p C.g],I.role C.text.size⟩]
theorem wE(C:RC):∀v∈ri C,v.ok C:=by
 intro v hv;simp only[ri,List.mem_cons,List.not_mem_nil,or_false]at hv;rcases hv with rfl|rfl|rfl|rfl|rfl
 ·exact⟨fun w=>by simp[go_sem],fun st w h=>zz C st w h⟩
 ·exact⟨fun w=>by simp[go_sem],fun st w h=>Bx C st w h⟩
 ·exact⟨fun w=>by simp[go_sem],fun st w h=>tY C st w h⟩
 ·exact⟨fun w=>by simp[go_sem],fun st w h=>wm C st w h⟩
 ·exact⟨fun w=>by simp[go_sem],fun st w h=>Di C st w h⟩
theorem wv(C:RC)(st:I.St)(w:World)(h:PS C st w):
 Calls Tryz.prog 51 #[.p C.g] w (EPost aB C w (I.create C.text.size st)):=by
 have F0:=aa (Fr.start h.lt h.aJ);clear h;go_enter Tryz.func51,Tryz.ntmps51;have F1:=aa (F0.o.new 30 #[.b,.e,.e,.e,.b,.z,.z,.z,.z,.z,.z,.f,.e]);obtain⟨w1,hw⟩:=aab (w.alloc (.cells #[.b,.e,.e,.e,.b,.z,.z,.z,.z,.z,.z,.f,.e] 30));go_upto_region 1 with fail
 rw[←hw]at F1⊢;clear hw;have FT:=aa (F1.o.tmp (.cells #[.s ⟨#[116,97,98,108,101]⟩,.func (.func 125) #[.p C.g] #[],.s ⟨#[118,105,101,119]⟩,.func (.func 126) #[.p C.g] #[],.s ⟨#[116,114,105,103,103,101,114]⟩,.func (.func 127) #[.p C.g] #[],.s ⟨#[112,111,108,105,99,121]⟩,.func (.func 128) #[.p C.g] #[],.s ⟨#[114,111,108,101]⟩,.func (.func 129) #[.p C.g] #[]] 117));go_wp2_with fail
 with_reducible refine(Fr.oR FT.o (ti C _ (ri C) (wE C) st _ FT.o.q (uH (n:=5) (Kn.new w1 117 #[.s ⟨#[116,97,98,108,101]⟩,.func (.func 125) #[.p C.g] #[],.s ⟨#[118,105,101,119]⟩,.func (.func 126) #[.p C.g] #[],.s ⟨#[116,114,105,103,103,101,114]⟩,.func (.func 127) #[.p C.g] #[],.s ⟨#[112,111,108,105,99,121]⟩,.func (.func 128) #[.p C.g] #[],.s ⟨#[114,111,108,101]⟩,.func (.func 129) #[.p C.g] #[]]) rfl (Hm (by have:=F1.o.lt;have:=F1.o.ch.size;omega) (by simp)) rfl (by decide)))).mono ?_
 rintro e w2 ⟨A1,m1,c1,A2,m2,c2,A3,m3,c3,A4,m4,c4,A5,m5,c5,A6,m6,c6,x2,s2,(X2:Hid _),rfl,(F2:Hid _)⟩;have X3:Hid (I.create C.text.size st=(x2,s2)):=X2.o;have Ks:=F2.o.ab.KI;simp at Ks;obtain⟨KQ,KS,KT,K4,K5,K6,K7,K9,Ma,MC,KX,KY,KZ⟩:=F2.o.ab.LW;go_wp2_with fail
 have FZ:=aa (F2.o.gu (cC (Ch.refl _ _ _) (.inl rfl) _ _ _ _ _ _ _ _ _ _ _ _ _) (bC F2.o.ab (.u (x2.k.toNat:Int)) (.s (I.bs x2.nm)) (.s (I.bs x2.on)) (.s (I.bs x2.aF)) (.u (x2.ev.toNat:Int)) (.slice A1 m1 c1) (.slice A2 m2 c2) (.slice A3 m3 c3) (.slice A4 m4 c4) (.slice A5 m5 c5) (.slice A6 m6 c6) (.bool x2.opt) (.s (I.bs x2.key))));have HS:Hid (I.create C.text.size st=(x2,s2)):=by show _=_;simp only[X3.o]
 refine bodyPost_ret (results_cell_row rfl _ _ w.heap.size 30 _ (0,0) _ rfl FZ.o.ab ag rfl af) rfl ?_;rw[HS.o];exact FZ.o.done (FZ.o.Kx)
theorem vn(C:RC)(st:I.St)(w:World)(h:PS C st w):
 Calls Tryz.prog 59 #[] w (EPost aB C w (I.Km.of 18,st)):=by
 have F0:=aa (Fr.start h.lt h.aJ);clear h;go_enter Tryz.func59,Tryz.ntmps59;have F1:=aa (F0.o.new 30 #[.b,.e,.e,.e,.b,.z,.z,.z,.z,.z,.z,.f,.e]);obtain⟨w1,hw⟩:=aab (w.alloc (.cells #[.b,.e,.e,.e,.b,.z,.z,.z,.z,.z,.z,.f,.e] 30));go_upto_region 1 with fail
 rw[←hw]at F1⊢;clear hw;have Ks:=F1.o.ab.KI;simp at Ks;obtain⟨KQ,KS,KT,K4,K5,K6,K7,K9,Ma,MC,KX,KY,KZ⟩:=F1.o.ab.LW;go_wp2_with fail
 have FZ:=aa (F1.o.gu (cC (Ch.refl _ _ _) (.inl rfl) _ _ _ _ _ _ _ _ _ _ _ _ _) (bC F1.o.ab (.u 18) .e .e .e .b .z .z .z .z .z .z .f .e));have HS:Hid (((I.Km.of 18,st):I.Km×I.St)=(I.Km.of 18,st)):=rfl;refine bodyPost_ret (results_cell_row rfl _ _ w.heap.size 30 _ (0,0) _ rfl FZ.o.ab ag rfl af) rfl ?_;rw[HS.o];exact FZ.o.done (⟨_,_,_,_,_,_,rfl,Rr.nil _ _ _,Rr.nil _ _ _,Rr.nil _ _ _,Rr.nil _ _ _,Rr.nil _ _ _,Rr.nil _ _ _,Sz.of (Nat.zero_le _),Sz.of (Nat.zero_le _),Sz.of (Nat.zero_le _),Sz.of (Nat.zero_le _)⟩)
theorem uY(C:RC)(st:I.St)(w:World)(h:PS C st w):
 Calls Tryz.prog 60 #[] w (EPost aB C w (I.Km.of 19,st)):=by
 have F0:=aa (Fr.start h.lt h.aJ);clear h;go_enter Tryz.func60,Tryz.ntmps60;have F1:=aa (F0.o.new 30 #[.b,.e,.e,.e,.b,.z,.z,.z,.z,.z,.z,.f,.e]);obtain⟨w1,hw⟩:=aab (w.alloc (.cells #[.b,.e,.e,.e,.b,.z,.z,.z,.z,.z,.z,.f,.e] 30));go_upto_region 1 with fail
 rw[←hw]at F1⊢;clear hw;have Ks:=F1.o.ab.KI;simp at Ks;obtain⟨KQ,KS,KT,K4,K5,K6,K7,K9,Ma,MC,KX,KY,KZ⟩:=F1.o.ab.LW;go_wp2_with fail
 have FZ:=aa (F1.o.gu (cC (Ch.refl _ _ _) (.inl rfl) _ _ _ _ _ _ _ _ _ _ _ _ _) (bC F1.o.ab (.u 19) .e .e .e .b .z .z .z .z .z .z .f .e));have HS:Hid (((I.Km.of 19,st):I.Km×I.St)=(I.Km.of 19,st)):=rfl;refine bodyPost_ret (results_cell_row rfl _ _ w.heap.size 30 _ (0,0) _ rfl FZ.o.ab ag rfl af) rfl ?_;rw[HS.o];exact FZ.o.done (⟨_,_,_,_,_,_,rfl,Rr.nil _ _ _,Rr.nil _ _ _,Rr.nil _ _ _,Rr.nil _ _ _,Rr.nil _ _ _,Rr.nil _ _ _,Sz.of (Nat.zero_le _),Sz.of (Nat.zero_le _),Sz.of (Nat.zero_le _),Sz.of (Nat.zero_le _)⟩)
theorem uX(C:RC)(st:I.St)(w:World)(h:PS C st w):
 Calls Tryz.prog 61 #[] w (EPost aB C w (I.Km.of 20,st)):=by
 have F0:=aa (Fr.start h.lt h.aJ);clear h;go_enter Tryz.func61,Tryz.ntmps61;have F1:=aa (F0.o.new 30 #[.b,.e,.e,.e,.b,.z,.z,.z,.z,.z,.z,.f,.e]);obtain⟨w1,hw⟩:=aab (w.alloc (.cells #[.b,.e,.e,.e,.b,.z,.z,.z,.z,.z,.z,.f,.e] 30));go_upto_region 1 with fail
 rw[←hw]at F1⊢;clear hw;have Ks:=F1.o.ab.KI;simp at Ks;obtain⟨KQ,KS,KT,K4,K5,K6,K7,K9,Ma,MC,KX,KY,KZ⟩:=F1.o.ab.LW;go_wp2_with fail
 have FZ:=aa (F1.o.gu (cC (Ch.refl _ _ _) (.inl rfl) _ _ _ _ _ _ _ _ _ _ _ _ _) (bC F1.o.ab (.u 20) .e .e .e .b .z .z .z .z .z .z .f .e));have HS:Hid (((I.Km.of 20,st):I.Km×I.St)=(I.Km.of 20,st)):=rfl;refine bodyPost_ret (results_cell_row rfl _ _ w.heap.size 30 _ (0,0) _ rfl FZ.o.ab ag rfl af) rfl ?_;rw[HS.o];exact FZ.o.done (⟨_,_,_,_,_,_,rfl,Rr.nil _ _ _,Rr.nil _ _ _,Rr.nil _ _ _,Rr.nil _ _ _,Rr.nil _ _ _,Rr.nil _ _ _,Sz.of (Nat.zero_le _),Sz.of (Nat.zero_le _),Sz.of (Nat.zero_le _),Sz.of (Nat.zero_le _)⟩)
def oY(C:RC):List Vb:=[⟨[99,114,101,97,116,101],51,#[.p C.g],#[.p C.g],I.create C.text.size⟩,⟨[100,114,111,112],52,#[.p C.g],#[.p C.g],I.drop C.text.size⟩,⟨[103,114,97,110,116],53,#[.p C.g],#[.p C.g],I.dk C.text.size⟩,⟨[114,101,118,111,107,101],54,#[.p C.g],#[.p C.g],I.iG C.text.size⟩,⟨[105,110,115,101,114,116],55,#[.p C.g],#[.p C.g],I.insert C.text.size⟩,⟨[117,112,100,97,116,101],56,#[.p C.g],#[.p C.g],I.update C.text.size⟩,⟨[100,101,108,101,116,101],57,#[.p C.g],#[.p C.g],I.remove C.text.size⟩,⟨[115,101,108,101,99,116],58,#[.p C.g],#[.p C.g],I.query C.text.size⟩,⟨[98,101,103,105,110],59,#[],#[],fun st=>(I.Km.of 18,st)⟩,⟨[99,111,109,109,105,116],60,#[],#[],fun st=>(I.Km.of 19,st)⟩,⟨[114,111,108,108,98,97,99,107],61,#[],#[],fun st=>(I.Km.of 20,st)⟩]
theorem zx(C:RC):∀v∈oY C,v.ok C:=by
 intro v hv;simp only[oY,List.mem_cons,List.not_mem_nil,or_false]at hv;rcases hv with rfl|rfl|rfl|rfl|rfl|rfl|rfl|rfl|rfl|rfl|rfl
 ·exact⟨fun w=>by simp[go_sem],fun st w h=>wv C st w h⟩
 ·exact⟨fun w=>by simp[go_sem],fun st w h=>AU C st w h⟩
 ·exact⟨fun w=>by simp[go_sem],fun st w h=>Ad C st w h⟩
 ·exact⟨fun w=>by simp[go_sem],fun st w h=>vQ C st w h⟩
 ·exact⟨fun w=>by simp[go_sem],fun st w h=>wB C st w h⟩
 ·exact⟨fun w=>by simp[go_sem],fun st w h=>vS C st w h⟩
 ·exact⟨fun w=>by simp[go_sem],fun st w h=>wN C st w h⟩
 ·exact⟨fun w=>by simp[go_sem],fun st w h=>yK C st w h⟩
 ·exact⟨fun w=>by simp[go_sem],fun st w h=>vn C st w h⟩
 ·exact⟨fun w=>by simp[go_sem],fun st w h=>uY C st w h⟩
 ·exact⟨fun w=>by simp[go_sem],fun st w h=>uX C st w h⟩
theorem yV(C:RC)(w:World):
 Calls Tryz.prog 24 #[.p C.g] w fun e w'=>e=.returned (.slice (some ⟨w.heap.size,0,none⟩) 11 11)∧w'=w.alloc (.cells #[.s ⟨#[99,114,101,97,116,101]⟩,.func (.func 51) #[.p C.g] #[],.s ⟨#[100,114,111,112]⟩,.func (.func 52) #[.p C.g] #[],.s ⟨#[103,114,97,110,116]⟩,.func (.func 53) #[.p C.g] #[],.s ⟨#[114,101,118,111,107,101]⟩,.func (.func 54) #[.p C.g] #[],.s ⟨#[105,110,115,101,114,116]⟩,.func (.func 55) #[.p C.g] #[],.s ⟨#[117,112,100,97,116,101]⟩,.func (.func 56) #[.p C.g] #[],.s ⟨#[100,101,108,101,116,101]⟩,.func (.func 57) #[.p C.g] #[],.s ⟨#[115,101,108,101,99,116]⟩,.func (.func 58) #[.p C.g] #[],.s ⟨#[98,101,103,105,110]⟩,.func (.func 59) #[] #[],.s ⟨#[99,111,109,109,105,116]⟩,.func (.func 60) #[] #[],.s ⟨#[114,111,108,108,98,97,99,107]⟩,.func (.func 61) #[] #[]] 117):=by
 go_enter Tryz.func24,Tryz.ntmps24;go_wp2_with fail
 go_ret;exact⟨rfl,rfl⟩
theorem C6(C:RC)(w:World)(h:C.g<w.heap.size):Rr WR (w.alloc (.cells #[.s ⟨#[99,114,101,97,116,101]⟩,.func (.func 51) #[.p C.g] #[],.s ⟨#[100,114,111,112]⟩,.func (.func 52) #[.p C.g] #[],.s ⟨#[103,114,97,110,116]⟩,.func (.func 53) #[.p C.g] #[],.s ⟨#[114,101,118,111,107,101]⟩,.func (.func 54) #[.p C.g] #[],.s ⟨#[105,110,115,101,114,116]⟩,.func (.func 55) #[.p C.g] #[],.s ⟨#[117,112,100,97,116,101]⟩,.func (.func 56) #[.p C.g] #[],.s ⟨#[100,101,108,101,116,101]⟩,.func (.func 57) #[.p C.g] #[],.s ⟨#[115,101,108,101,99,116]⟩,.func (.func 58) #[.p C.g] #[],.s ⟨#[98,101,103,105,110]⟩,.func (.func 59) #[] #[],.s ⟨#[99,111,109,109,105,116]⟩,.func (.func 60) #[] #[],.s ⟨#[114,111,108,108,98,97,99,107]⟩,.func (.func 61) #[] #[]] 117)) (Pg C (w.alloc (.cells #[.s ⟨#[99,114,101,97,116,101]⟩,.func (.func 51) #[.p C.g] #[],.s ⟨#[100,114,111,112]⟩,.func (.func 52) #[.p C.g] #[],.s ⟨#[103,114,97,110,116]⟩,.func (.func 53) #[.p C.g] #[],.s ⟨#[114,101,118,111,107,101]⟩,.func (.func 54) #[.p C.g] #[],.s ⟨#[105,110,115,101,114,116]⟩,.func (.func 55) #[.p C.g] #[],.s ⟨#[117,112,100,97,116,101]⟩,.func (.func 56) #[.p C.g] #[],.s ⟨#[100,101,108,101,116,101]⟩,.func (.func 57) #[.p C.g] #[],.s ⟨#[115,101,108,101,99,116]⟩,.func (.func 58) #[.p C.g] #[],.s ⟨#[98,101,103,105,110]⟩,.func (.func 59) #[] #[],.s ⟨#[99,111,109,109,105,116]⟩,.func (.func 60) #[] #[],.s ⟨#[114,111,108,108,98,97,99,107]⟩,.func (.func 61) #[] #[]] 117))) (.slice (some ⟨w.heap.size,0,none⟩) 11 11) (oY C):=uH (n:=11) (Kn.new w 117 #[.s ⟨#[99,114,101,97,116,101]⟩,.func (.func 51) #[.p C.g] #[],.s ⟨#[100,114,111,112]⟩,.func (.func 52) #[.p C.g] #[],.s ⟨#[103,114,97,110,116]⟩,.func (.func 53) #[.p C.g] #[],.s ⟨#[114,101,118,111,107,101]⟩,.func (.func 54) #[.p C.g] #[],.s ⟨#[105,110,115,101,114,116]⟩,.func (.func 55) #[.p C.g] #[],.s ⟨#[117,112,100,97,116,101]⟩,.func (.func 56) #[.p C.g] #[],.s ⟨#[100,101,108,101,116,101]⟩,.func (.func 57) #[.p C.g] #[],.s ⟨#[115,101,108,101,99,116]⟩,.func (.func 58) #[.p C.g] #[],.s ⟨#[98,101,103,105,110]⟩,.func (.func 59) #[] #[],.s ⟨#[99,111,109,109,105,116]⟩,.func (.func 60) #[] #[],.s ⟨#[114,111,108,108,98,97,99,107]⟩,.func (.func 61) #[] #[]]) rfl (Hm h (by simp)) rfl (by decide)
end
end Go.Proofs.YtnicfobpclehkaaGreatDoor
