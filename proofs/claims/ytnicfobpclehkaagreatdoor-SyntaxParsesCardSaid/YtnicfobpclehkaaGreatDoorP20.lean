import Derived.Test.YtnicfobpclehkaaGreatDoorP19
set_option maxHeartbeats 3200000
set_option linter.unusedVariables false
set_option linter.unusedSimpArgs false
namespace Go.Proofs.YtnicfobpclehkaaGreatDoor
open Go.RowKit
section
set_option maxRecDepth 100000
theorem yM(C:RC)(ro pv:UInt8)(wd:I.Bs)(st:I.St)(w:World)(h:PS C st w):
 Calls Tryz.prog 132 #[.p C.g,.u (ro.toNat:Int),.u (pv.toNat:Int),.s (I.bs wd)] w (EPost aB C w (I.share C.text.size ro pv wd st)):=by
 have F0:=aa (Fr.start h.lt h.aJ);clear h;go_enter Tryz.func132,Tryz.ntmps132;have F1:=aa (F0.o.new 30 #[.b,.e,.e,.e,.b,.z,.z,.z,.z,.z,.z,.f,.e]);obtain⟨w1,hw⟩:=aab (w.alloc (.cells #[.b,.e,.e,.e,.b,.z,.z,.z,.z,.z,.z,.f,.e] 30));go_upto_region 1 with fail
 rw[←hw]at F1⊢;clear hw;go_upto_region 2 with fail
 have F2:=aa (F1.o.new 30 #[.u (ro.toNat:Int),.e,.e,.e,.b,.z,.z,.z,.z,.z,.z,.f,.e]);obtain⟨w2,hw⟩:=aab (w1.alloc (.cells #[.u (ro.toNat:Int),.e,.e,.e,.b,.z,.z,.z,.z,.z,.z,.f,.e] 30));obtain⟨g2,hg⟩:=aab w1.heap.size;rw[←hw,←hg]at F2;rw[←hw,←hg];clear hw hg;go_wp2_with fail
 with_reducible refine(D4 F2.o).mono ?_
 rintro e w3 ⟨b,hb,rfl,hF⟩;cases b with
 |true=>
  have ZB:=aa hb;have F3:Hid (Fr C.g w _ _ (PS C st) w3):=hF;clear hF hb;go_wp2_with fail
  with_reducible refine(cG F3.o).mono ?_
  rintro e w4 ⟨n7,s7,(N7:Hid _),(Z7:Hid _),rfl,(F4:Hid _)⟩;have M5:=F4.o.ab.cell 1;simp at M5;have M9:=F4.o.ab.frozen 1;go_upto_region 7 with fail
  have F5:=aa (F4.o.aO 1 (.s (I.bs n7)) (cs':=#[.u (ro.toNat:Int),.s (I.bs n7),.e,.e,.b,.z,.z,.z,.z,.z,.z,.f,.e]) rfl);obtain⟨w5,hw⟩:=aab (w4.setCell ⟨g2,1,none⟩ (.s (I.bs n7)));rw[←hw]at F5⊢;clear hw M5 M9;go_wp2_with fail
  with_reducible refine(aY F5.o (n:=1) (cells:=#[.s (I.bs wd)]) [wd] rfl rfl (by decide)).mono ?_
  rintro e w6 ⟨s8,(E8:Hid _),rfl,(F6:Hid _)⟩;go_wp2_with fail
  with_reducible refine(cG F6.o).mono ?_
  rintro e w7 ⟨n9,s9,(N9:Hid _),(Z9:Hid _),rfl,hF⟩;have F7:=aa hF;clear hF;have KK:=F7.o.ab.cell 2;simp at KK;have Mb:=F7.o.ab.frozen 2;go_upto_region 9 with fail
  have F8:=aa (F7.o.aO 2 (.s (I.bs n9)) (cs':=#[.u (ro.toNat:Int),.s (I.bs n7),.s (I.bs n9),.e,.b,.z,.z,.z,.z,.z,.z,.f,.e]) rfl);obtain⟨w8,hw⟩:=aab (w7.setCell ⟨g2,2,none⟩ (.s (I.bs n9)));rw[←hw]at F8⊢;clear hw KK Mb;have Ks:=F8.o.ab.KI;simp at Ks;have cj2:=F8.o.ah.KI;simp at cj2;obtain⟨KQ,KS,KT,K4,K5,K6,K7,K9,Ma,MC,KX,KY,KZ⟩:=F8.o.ah.LW;go_wp2_with fail
  have FZ:=aa (F8.o.cN (cC (Ch.refl _ _ _) (.inl rfl) _ _ _ _ _ _ _ _ _ _ _ _ _) (bC F8.o.ah (.u (ro.toNat:Int)) (.s (I.bs n7)) (.s (I.bs n9)) .e .b .z .z .z .z .z .z .f .e));have HS:Hid (I.share C.text.size ro pv wd st=(({I.Km.of ro with nm:=n7,on:=n9}:I.Km),s9)):=by show _=_;simp only[I.share,ZB.o,if_true,N7.o,E8.o,N9.o]
  refine bodyPost_ret (results_cell_row rfl _ _ w.heap.size 30 _ (0,0) _ rfl FZ.o.ah ag rfl af) rfl ?_;rw[HS.o];exact FZ.o.done (⟨_,_,_,_,_,_,rfl,Rr.nil _ _ _,Rr.nil _ _ _,Rr.nil _ _ _,Rr.nil _ _ _,Rr.nil _ _ _,Rr.nil _ _ _,Sz.of Z7.o,Sz.of Z9.o,Sz.of (Nat.zero_le _),Sz.of (Nat.zero_le _)⟩)
 |false=>
  have ZB:=aa hb;have F3:Hid (Fr C.g w _ _ (PS C st) w3):=hF;clear hF hb;have OG:=F3.o.ab.cell 0;simp at OG;have Qk:=F3.o.ab.frozen 0;go_upto_region 4 with fail
  have F4:=aa (F3.o.aO 0 (.u (pv.toNat:Int)) (cs':=#[.u (pv.toNat:Int),.e,.e,.e,.b,.z,.z,.z,.z,.z,.z,.f,.e]) rfl);obtain⟨w4,hw⟩:=aab (w3.setCell ⟨g2,0,none⟩ (.u (pv.toNat:Int)));rw[←hw]at F4⊢;clear hw OG Qk;go_wp2_with fail
  with_reducible refine(Fr.jJ F4.o (xS C _ _ F4.o.q)).mono ?_
  rintro e w5 ⟨v5,ps5,s5,(X5:Hid _),rfl,(F5:Hid _)⟩;obtain⟨A5,m5,c5,rfl⟩:=ar F5.o.Kx;have Wt:=F5.o.ab.cell 10;simp at Wt;have ZC:=F5.o.ab.frozen 10;go_upto_region 5 with fail
  have F6:=aa (F5.o.aO 10 (.slice A5 m5 c5) (cs':=#[.u (pv.toNat:Int),.e,.e,.e,.b,.z,.z,.z,.z,.z,.slice A5 m5 c5,.f,.e]) rfl);obtain⟨w6,hw⟩:=aab (w5.setCell ⟨g2,10,none⟩ (.slice A5 m5 c5));rw[←hw]at F6⊢;clear hw Wt ZC;go_wp2_with fail
  with_reducible refine(aY F6.o (n:=1) (cells:=#[.s ⟨#[111,110]⟩]) [[111,110]] rfl rfl (by decide)).mono ?_
  rintro e w7 ⟨s6,(E6:Hid _),rfl,(F7:Hid _)⟩;go_wp2_with fail
  with_reducible refine(cG F7.o).mono ?_
  rintro e w8 ⟨n7,s7,(N7:Hid _),(Z7:Hid _),rfl,(F8:Hid _)⟩;have M5:=F8.o.ab.cell 1;simp at M5;have M9:=F8.o.ab.frozen 1;go_upto_region 7 with fail
  have F9:=aa (F8.o.aO 1 (.s (I.bs n7)) (cs':=#[.u (pv.toNat:Int),.s (I.bs n7),.e,.e,.b,.z,.z,.z,.z,.z,.slice A5 m5 c5,.f,.e]) rfl);obtain⟨w9,hw⟩:=aab (w8.setCell ⟨g2,1,none⟩ (.s (I.bs n7)));rw[←hw]at F9⊢;clear hw M5 M9;go_wp2_with fail
  with_reducible refine(aY F9.o (n:=1) (cells:=#[.s (I.bs wd)]) [wd] rfl rfl (by decide)).mono ?_
  rintro e Lo ⟨s8,(E8:Hid _),rfl,(KC:Hid _)⟩;go_wp2_with fail
  with_reducible refine(cG KC.o).mono ?_
  rintro e Lh ⟨n9,s9,(N9:Hid _),(Z9:Hid _),rfl,(K1:Hid _)⟩;have KK:=K1.o.ab.cell 2;simp at KK;have Mb:=K1.o.ab.frozen 2;go_upto_region 9 with fail
  have Ll:=aa (K1.o.aO 2 (.s (I.bs n9)) (cs':=#[.u (pv.toNat:Int),.s (I.bs n7),.s (I.bs n9),.e,.b,.z,.z,.z,.z,.z,.slice A5 m5 c5,.f,.e]) rfl);obtain⟨Mc,hw⟩:=aab (Lh.setCell ⟨g2,2,none⟩ (.s (I.bs n9)));rw[←hw]at Ll⊢;clear hw KK Mb;have K0:=Ll.o.ab.KI;simp at K0;have Le:=Ll.o.ah.KI;simp at Le;obtain⟨KQ,KS,KT,K4,K5,K6,K7,K9,Ma,MC,KX,KY,KZ⟩:=Ll.o.ah.LW;go_wp2_with fail
  have FZ:=aa (Ll.o.cN (cC (Ch.refl _ _ _) (.inl rfl) _ _ _ _ _ _ _ _ _ _ _ _ _) (bC Ll.o.ah (.u (pv.toNat:Int)) (.s (I.bs n7)) (.s (I.bs n9)) .e .b .z .z .z .z .z (.slice A5 m5 c5) .f .e));have HS:Hid (I.share C.text.size ro pv wd st=(({{I.Km.of pv with pv:=ps5}with nm:=n7,on:=n9}:I.Km),s9)):=by show _=_;simp only[I.share,ZB.o,Bool.false_eq_true,if_false,X5.o,E6.o,N7.o,E8.o,N9.o]
  refine bodyPost_ret (results_cell_row rfl _ _ w.heap.size 30 _ (0,0) _ rfl FZ.o.ah ag rfl af) rfl ?_;rw[HS.o];exact FZ.o.done (⟨_,_,_,_,_,_,rfl,Rr.nil _ _ _,Rr.nil _ _ _,Rr.nil _ _ _,Rr.nil _ _ _,Rr.nil _ _ _,FZ.o.Kx,Sz.of Z7.o,Sz.of Z9.o,Sz.of (Nat.zero_le _),Sz.of (Nat.zero_le _)⟩)
theorem tG(C:RC)(ro pv:UInt8)(wd:I.Bs)(a b:Int)(s:ByteArray)(ha:a=(ro.toNat:Int))(hb:b=(pv.toNat:Int))(hs:s=I.bs wd)(st:I.St)(w:World)(h:PS C st w):
 Calls Tryz.prog 132 #[.p C.g,.u a,.u b,.s s] w (EPost aB C w (I.share C.text.size ro pv wd st)):=by
 subst ha hb hs;exact yM C ro pv wd st w h
theorem AU(C:RC)(st:I.St)(w:World)(h:PS C st w):
 Calls Tryz.prog 52 #[.p C.g] w (EPost aB C w (I.drop C.text.size st)):=by
 have F0:=aa (Fr.start h.lt h.aJ);clear h;go_enter Tryz.func52,Tryz.ntmps52;have F1:=aa (F0.o.new 30 #[.b,.e,.e,.e,.b,.z,.z,.z,.z,.z,.z,.f,.e]);obtain⟨w1,hw⟩:=aab (w.alloc (.cells #[.b,.e,.e,.e,.b,.z,.z,.z,.z,.z,.z,.f,.e] 30));go_upto_region 1 with fail
 rw[←hw]at F1⊢;clear hw;go_upto_region 2 with fail
 have F2:=aa (F1.o.new 165 #[.u 2,.u 4,.u 6,.u 8]);obtain⟨w2,hw⟩:=aab (w1.alloc (.cells #[.u 2,.u 4,.u 6,.u 8] 165));obtain⟨g2,hg⟩:=aab w1.heap.size;rw[←hw,←hg]at F2;rw[←hw,←hg];clear hw hg;go_wp2_with fail
 with_reducible refine(jz F2.o (n:=4) (cells:=#[.s ⟨#[116,97,98,108,101]⟩,.s ⟨#[118,105,101,119]⟩,.s ⟨#[116,114,105,103,103,101,114]⟩,.s ⟨#[112,111,108,105,99,121]⟩]) [[116,97,98,108,101],[118,105,101,119],[116,114,105,103,103,101,114],[112,111,108,105,99,121]] rfl rfl (by decide) (by decide)).mono ?_
 rintro e w3 ⟨i4,s4,(E4:Hid _),We,rfl,(F3:Hid _)⟩;have I4:=aa We;clear We;have Sr:w3.cell? ⟨g2,i4,none⟩=some (.u ((([2,4,6,8]:List UInt8).getD i4 0).toNat:Int)):=by
  have hi:=I4.o;rw[F3.o.ab.cell i4];have:i4=0∨i4=1∨i4=2∨i4=3:=by omega
  rcases this with rfl|rfl|rfl|rfl<;>rfl
 have Ss:(i4:Int)<4:=by have:=I4.o;omega
 go_wp2_with fail
 with_reducible refine(cG F3.o).mono ?_
 rintro e w4 ⟨n5,s5,(N5:Hid _),(Z5:Hid _),rfl,(F4:Hid _)⟩;have Ks:=F4.o.ah.KI;simp at Ks;obtain⟨KQ,KS,KT,K4,K5,K6,K7,K9,Ma,MC,KX,KY,KZ⟩:=F4.o.ah.LW;go_wp2_with fail
 have FZ:=aa (F4.o.cN (cC (Ch.refl _ _ _) (.inl rfl) _ _ _ _ _ _ _ _ _ _ _ _ _) (bC F4.o.ah (.u ((([2,4,6,8]:List UInt8).getD i4 0).toNat:Int)) (.s (I.bs n5)) .e .e .b .z .z .z .z .z .z .f .e));have HS:Hid (I.drop C.text.size st=(({I.Km.of ([2,4,6,8].getD i4 0)with nm:=n5}:I.Km),s5)):=by show _=_;simp only[I.drop,E4.o,N5.o]
 refine bodyPost_ret (results_cell_row rfl _ _ w.heap.size 30 _ (0,0) _ rfl FZ.o.ah ag rfl af) rfl ?_;rw[HS.o];exact FZ.o.done (⟨_,_,_,_,_,_,rfl,Rr.nil _ _ _,Rr.nil _ _ _,Rr.nil _ _ _,Rr.nil _ _ _,Rr.nil _ _ _,Rr.nil _ _ _,Sz.of Z5.o,Sz.of (Nat.zero_le _),Sz.of (Nat.zero_le _),Sz.of (Nat.zero_le _)⟩)
theorem Di(C:RC)(st:I.St)(w:World)(h:PS C st w):
 Calls Tryz.prog 129 #[.p C.g] w (EPost aB C w (I.role C.text.size st)):=by
 have F0:=aa (Fr.start h.lt h.aJ);clear h;go_enter Tryz.func129,Tryz.ntmps129;have F1:=aa (F0.o.new 30 #[.b,.e,.e,.e,.b,.z,.z,.z,.z,.z,.z,.f,.e]);obtain⟨w1,hw⟩:=aab (w.alloc (.cells #[.b,.e,.e,.e,.b,.z,.z,.z,.z,.z,.z,.f,.e] 30));go_upto_region 1 with fail
 rw[←hw]at F1⊢;clear hw;go_wp2_with fail
 with_reducible refine(cG F1.o).mono ?_
 rintro e w2 ⟨n2,s2,(N2:Hid _),(Z2:Hid _),rfl,(F2:Hid _)⟩;go_upto_region 2 with fail
 have F3:=aa (F2.o.new 30 #[.u 9,.s (I.bs n2),.e,.e,.b,.z,.z,.z,.z,.z,.z,.f,.e]);obtain⟨w3,hw⟩:=aab (w2.alloc (.cells #[.u 9,.s (I.bs n2),.e,.e,.b,.z,.z,.z,.z,.z,.z,.f,.e] 30));obtain⟨g3,hg⟩:=aab w2.heap.size;rw[←hw,←hg]at F3;rw[←hw,←hg];clear hw hg;go_wp2_with fail
 with_reducible refine(bF ⟨#[107,101,121]⟩ [107,101,121] rfl F3.o).mono ?_
 rintro e w4 ⟨b,hb,rfl,hF⟩;cases b with
 |true=>
  have Ku:=aa hb;have F4:Hid (Fr C.g w _ _ (PS C (I.next s2)) w4):=hF;clear hF hb;have Pj:=oX F4.o.q;go_wp2_with fail
  with_reducible refine(BA F4.o).mono ?_
  rintro e w5 ⟨t,hT,rfl,(F5:Hid _)⟩;have T:=aa hT;clear hT;obtain⟨tk,ts,ta⟩:=t;unfold gd;simp only;go_upto_region 4 with fail
  have F6:=aa (F5.o.new 113 #[.u (tk.toNat:Int),.s ⟨ts.toArray⟩,.i (ta:Int)]);obtain⟨w6,hw⟩:=aab (w5.alloc (.cells #[.u (tk.toNat:Int),.s ⟨ts.toArray⟩,.i (ta:Int)] 113));obtain⟨g6,hg⟩:=aab w5.heap.size;rw[←hw,←hg]at F6;rw[←hw,←hg];clear hw hg;have hK:=(I.jL C.text.size (I.next s2));rw[T.o]at hK Pj;simp only at hK Pj;have RL:=aa hK.1;have Oq:=aa hK.2;clear hK;have Ks:=F6.o.ab.Y3;simp at Ks;by_cases h3:tk=3
  ·subst h3;have hr:(I.next s2).r≠[]:=I.xu T.o (show(3:UInt8)≠0 by decide);have q3:(((3:UInt8).toNat:Int) !=3)=false:=by decide
   have QX:=F6.o.ah.cell 12;simp at QX;have Ug:=F6.o.ah.frozen 12;go_upto_region 8 with fail
   have F7:=aa (F6.o.iq 12 (.s ⟨ts.toArray⟩) (cs':=#[.u 9,.s (I.bs n2),.e,.e,.b,.z,.z,.z,.z,.z,.z,.f,.s ⟨ts.toArray⟩]) rfl);obtain⟨w7,hw⟩:=aab (w6.setCell ⟨g3,12,none⟩ (.s ⟨ts.toArray⟩));rw[←hw]at F7⊢;clear hw QX Ug;have F7n:=aa (F7.o.n hr);clear hr Ks;obtain⟨k,hk,hz,hkl⟩:=F7n.o.q.cell;go_upto_region 9 with fail
   have F8:=aa (F7n.o.next hk).swap;obtain⟨w8,hw⟩:=aab (w7.setCell ⟨C.g,2,none⟩ (.i ((k:Int)+1)));rw[←hw]at F8⊢;clear hw hk hz;have cj2:=F8.o.ab.KI;simp at cj2;have K0:=F8.o.aS.KI;simp at K0;obtain⟨KQ,KS,KT,K4,K5,K6,K7,K9,Ma,MC,KX,KY,KZ⟩:=F8.o.aS.LW;go_wp2_with fail
   have FZ:=aa (F8.o.lq (cC (Ch.refl _ _ _) (.inl rfl) _ _ _ _ _ _ _ _ _ _ _ _ _) (bC F8.o.aS (.u 9) (.s (I.bs n2)) .e .e .b .z .z .z .z .z .z .f (.s ⟨ts.toArray⟩)));have HS:Hid (I.role C.text.size st=(({I.Km.of 9 with nm:=n2,key:=ts}:I.Km),(I.next (I.next s2)))):=by show _=_;simp only[I.role,N2.o,Ku.o,RL.o,Oq.o,if_true]
   refine bodyPost_ret (results_cell_row rfl _ _ w.heap.size 30 _ (0,0) _ rfl FZ.o.aS ag rfl af) rfl ?_;rw[HS.o];exact FZ.o.done (⟨_,_,_,_,_,_,rfl,Rr.nil _ _ _,Rr.nil _ _ _,Rr.nil _ _ _,Rr.nil _ _ _,Rr.nil _ _ _,Rr.nil _ _ _,Sz.of Z2.o,Sz.of (Nat.zero_le _),Sz.of (Nat.zero_le _),Sz.of Pj⟩)
  ·have q3:((tk.toNat:Int) !=3)=true:=iz (b:=3) h3;have H3:=aa h3;clear h3;go_wp2_with fail
   with_reducible refine(rC 300 300 rfl F6.o).mono ?_
   rintro e w7 ⟨s5,(E5:Hid _),rfl,hF⟩;have F7:=aa hF;clear hF;have FW:=aa F7.o.swap;clear Ks;have Le:=FW.o.ab.KI;simp at Le;have Ly:=FW.o.aS.KI;simp at Ly;obtain⟨KQ,KS,KT,K4,K5,K6,K7,K9,Ma,MC,KX,KY,KZ⟩:=FW.o.aS.LW;go_wp2_with fail
   have FZ:=aa (FW.o.lq (cC (Ch.refl _ _ _) (.inl rfl) _ _ _ _ _ _ _ _ _ _ _ _ _) (bC FW.o.aS (.u 9) (.s (I.bs n2)) .e .e .b .z .z .z .z .z .z .f .e));have HS:Hid (I.role C.text.size st=(({I.Km.of 9 with nm:=n2}:I.Km),s5)):=by show _=_;simp only[I.role,N2.o,Ku.o,RL.o,if_neg H3.o,E5.o,if_true]
   refine bodyPost_ret (results_cell_row rfl _ _ w.heap.size 30 _ (0,0) _ rfl FZ.o.aS ag rfl af) rfl ?_;rw[HS.o];exact FZ.o.done (⟨_,_,_,_,_,_,rfl,Rr.nil _ _ _,Rr.nil _ _ _,Rr.nil _ _ _,Rr.nil _ _ _,Rr.nil _ _ _,Rr.nil _ _ _,Sz.of Z2.o,Sz.of (Nat.zero_le _),Sz.of (Nat.zero_le _),Sz.of (Nat.zero_le _)⟩)
 |false=>
  have Ku:=aa hb;have F4:Hid (Fr C.g w _ _ (PS C s2) w4):=hF;clear hF hb;have Mj:=F4.o.ab.KI;simp at Mj;have MY:=F4.o.ah.KI;simp at MY;obtain⟨KQ,KS,KT,K4,K5,K6,K7,K9,Ma,MC,KX,KY,KZ⟩:=F4.o.ah.LW;go_wp2_with fail
  have FZ:=aa (F4.o.cN (cC (Ch.refl _ _ _) (.inl rfl) _ _ _ _ _ _ _ _ _ _ _ _ _) (bC F4.o.ah (.u 9) (.s (I.bs n2)) .e .e .b .z .z .z .z .z .z .f .e));have HS:Hid (I.role C.text.size st=(({I.Km.of 9 with nm:=n2}:I.Km),s2)):=by show _=_;simp only[I.role,N2.o,Ku.o,Bool.false_eq_true,if_false]
  refine bodyPost_ret (results_cell_row rfl _ _ w.heap.size 30 _ (0,0) _ rfl FZ.o.ah ag rfl af) rfl ?_;rw[HS.o];exact FZ.o.done (⟨_,_,_,_,_,_,rfl,Rr.nil _ _ _,Rr.nil _ _ _,Rr.nil _ _ _,Rr.nil _ _ _,Rr.nil _ _ _,Rr.nil _ _ _,Sz.of Z2.o,Sz.of (Nat.zero_le _),Sz.of (Nat.zero_le _),Sz.of (Nat.zero_le _)⟩)
end
section
set_option maxRecDepth 100000
theorem vQ(C:RC)(st:I.St)(w:World)(h:PS C st w):
 Calls Tryz.prog 54 #[.p C.g] w (EPost aB C w (I.iG C.text.size st)):=by
 have F0:=aa (Fr.start h.lt h.aJ);clear h;go_enter Tryz.func54,Tryz.ntmps54;have F1:=aa (F0.o.new 30 #[.b,.e,.e,.e,.b,.z,.z,.z,.z,.z,.z,.f,.e]);obtain⟨w1,hw⟩:=aab (w.alloc (.cells #[.b,.e,.e,.e,.b,.z,.z,.z,.z,.z,.z,.f,.e] 30));go_upto_region 1 with fail
 rw[←hw]at F1⊢;clear hw;go_wp2_with fail
 with_reducible refine(Fr.oR F1.o (tG C 11 13 [102,114,111,109] 11 13 ⟨#[102,114,111,109]⟩ rfl rfl rfl _ _ F1.o.q)).mono ?_
 rintro e w2 ⟨A1,m1,c1,A2,m2,c2,A3,m3,c3,A4,m4,c4,A5,m5,c5,A6,m6,c6,x2,s2,(X2:Hid _),rfl,(F2:Hid _)⟩;have Ks:=F2.o.ab.KI;simp at Ks;obtain⟨KQ,KS,KT,K4,K5,K6,K7,K9,Ma,MC,KX,KY,KZ⟩:=F2.o.ab.LW;go_wp2_with fail
 have FZ:=aa (F2.o.gu (cC (Ch.refl _ _ _) (.inl rfl) _ _ _ _ _ _ _ _ _ _ _ _ _) (bC F2.o.ab (.u (x2.k.toNat:Int)) (.s (I.bs x2.nm)) (.s (I.bs x2.on)) (.s (I.bs x2.aF)) (.u (x2.ev.toNat:Int)) (.slice A1 m1 c1) (.slice A2 m2 c2) (.slice A3 m3 c3) (.slice A4 m4 c4) (.slice A5 m5 c5) (.slice A6 m6 c6) (.bool x2.opt) (.s (I.bs x2.key))));have HS:Hid (I.iG C.text.size st=(x2,s2)):=by show _=_;simp only[I.iG,X2.o]
 refine bodyPost_ret (results_cell_row rfl _ _ w.heap.size 30 _ (0,0) _ rfl FZ.o.ab ag rfl af) rfl ?_;rw[HS.o];exact FZ.o.done (FZ.o.Kx)
theorem Ad(C:RC)(st:I.St)(w:World)(h:PS C st w):
 Calls Tryz.prog 53 #[.p C.g] w (EPost aB C w (I.dk C.text.size st)):=by
 have F0:=aa (Fr.start h.lt h.aJ);clear h;go_enter Tryz.func53,Tryz.ntmps53;have F1:=aa (F0.o.new 30 #[.b,.e,.e,.e,.b,.z,.z,.z,.z,.z,.z,.f,.e]);obtain⟨w1,hw⟩:=aab (w.alloc (.cells #[.b,.e,.e,.e,.b,.z,.z,.z,.z,.z,.z,.f,.e] 30));go_upto_region 1 with fail
 rw[←hw]at F1⊢;clear hw;go_wp2_with fail
 with_reducible refine(Fr.oR F1.o (tG C 10 12 [116,111] 10 12 ⟨#[116,111]⟩ rfl rfl rfl _ _ F1.o.q)).mono ?_
 rintro e w2 ⟨A1,m1,c1,A2,m2,c2,A3,m3,c3,A4,m4,c4,A5,m5,c5,A6,m6,c6,x2,s2,(X2:Hid _),rfl,(F2:Hid _)⟩;go_upto_region 2 with fail
 have F3:=aa (F2.o.new 30 #[.u (x2.k.toNat:Int),.s (I.bs x2.nm),.s (I.bs x2.on),.s (I.bs x2.aF),.u (x2.ev.toNat:Int),.slice A1 m1 c1,.slice A2 m2 c2,.slice A3 m3 c3,.slice A4 m4 c4,.slice A5 m5 c5,.slice A6 m6 c6,.bool x2.opt,.s (I.bs x2.key)]);obtain⟨w3,hw⟩:=aab (w2.alloc (.cells #[.u (x2.k.toNat:Int),.s (I.bs x2.nm),.s (I.bs x2.on),.s (I.bs x2.aF),.u (x2.ev.toNat:Int),.slice A1 m1 c1,.slice A2 m2 c2,.slice A3 m3 c3,.slice A4 m4 c4,.slice A5 m5 c5,.slice A6 m6 c6,.bool x2.opt,.s (I.bs x2.key)] 30));obtain⟨g3,hg⟩:=aab w2.heap.size;rw[←hw,←hg]at F3;rw[←hw,←hg];clear hw hg;have t0:=F3.o.ab.cell 0;simp at t0;by_cases hk:x2.k=12
 ·have q3:((x2.k.toNat:Int)==12)=true:=by simp[hk]
  have H3:=aa hk;clear hk;go_wp2_with fail
  with_reducible refine(bF ⟨#[119,105,116,104]⟩ [119,105,116,104] rfl F3.o).mono ?_
  rintro e w4 ⟨b,hb,rfl,hF⟩;cases b with
  |true=>
   have Lp:=aa hb;have F4:Hid (Fr C.g w _ _ (PS C (I.next s2)) w4):=hF;clear hF hb;clear t0;go_wp2_with fail
   with_reducible refine(aY F4.o (n:=2) (cells:=#[.s ⟨#[103,114,97,110,116]⟩,.s ⟨#[111,112,116,105,111,110]⟩]) [[103,114,97,110,116],[111,112,116,105,111,110]] rfl rfl (by decide)).mono ?_
   rintro e w5 ⟨s4,(E4:Hid _),rfl,hF⟩;have F5:=aa hF;clear hF;have QY:=F5.o.ab.cell 11;simp at QY;have Uh:=F5.o.ab.frozen 11;go_upto_region 5 with fail
   have F6:=aa (F5.o.aO 11 (.bool true) (cs':=#[.u (x2.k.toNat:Int),.s (I.bs x2.nm),.s (I.bs x2.on),.s (I.bs x2.aF),.u (x2.ev.toNat:Int),.slice A1 m1 c1,.slice A2 m2 c2,.slice A3 m3 c3,.slice A4 m4 c4,.slice A5 m5 c5,.slice A6 m6 c6,.bool true,.s (I.bs x2.key)]) rfl);obtain⟨w6,hw⟩:=aab (w5.setCell ⟨g3,11,none⟩ (.bool true));rw[←hw]at F6⊢;clear hw QY Uh;have Ks:=F6.o.ab.KI;simp at Ks;have cj2:=F6.o.ah.KI;simp at cj2;obtain⟨KQ,KS,KT,K4,K5,K6,K7,K9,Ma,MC,KX,KY,KZ⟩:=F6.o.ah.LW;go_wp2_with fail
   have FZ:=aa (F6.o.cN (cC (Ch.refl _ _ _) (.inl rfl) _ _ _ _ _ _ _ _ _ _ _ _ _) (bC F6.o.ah (.u (x2.k.toNat:Int)) (.s (I.bs x2.nm)) (.s (I.bs x2.on)) (.s (I.bs x2.aF)) (.u (x2.ev.toNat:Int)) (.slice A1 m1 c1) (.slice A2 m2 c2) (.slice A3 m3 c3) (.slice A4 m4 c4) (.slice A5 m5 c5) (.slice A6 m6 c6) (.bool true) (.s (I.bs x2.key))));have HS:Hid (I.dk C.text.size st=(({x2 with opt:=true}:I.Km),s4)):=by show _=_;simp only[I.dk,X2.o,H3.o,Lp.o,E4.o,and_self,if_true]
   refine bodyPost_ret (results_cell_row rfl _ _ w.heap.size 30 _ (0,0) _ rfl FZ.o.ah ag rfl af) rfl ?_;rw[HS.o];exact FZ.o.done (by
    obtain⟨v1,v2,v3,v4,v5,v6,he,hR⟩:=FZ.o.Kx
    simp only[List.cons.injEq,and_true,true_and]at he
    obtain⟨rfl,rfl,rfl,rfl,rfl,rfl⟩:=he
    exact⟨_,_,_,_,_,_,rfl,hR⟩)
  |false=>
   have Lp:=aa hb;have F4:Hid (Fr C.g w _ _ (PS C s2) w4):=hF;clear hF hb;clear t0;have K0:=F4.o.ab.KI;simp at K0;have Le:=F4.o.ah.KI;simp at Le;obtain⟨KQ,KS,KT,K4,K5,K6,K7,K9,Ma,MC,KX,KY,KZ⟩:=F4.o.ah.LW;go_wp2_with fail
   have FZ:=aa (F4.o.cN (cC (Ch.refl _ _ _) (.inl rfl) _ _ _ _ _ _ _ _ _ _ _ _ _) (bC F4.o.ah (.u (x2.k.toNat:Int)) (.s (I.bs x2.nm)) (.s (I.bs x2.on)) (.s (I.bs x2.aF)) (.u (x2.ev.toNat:Int)) (.slice A1 m1 c1) (.slice A2 m2 c2) (.slice A3 m3 c3) (.slice A4 m4 c4) (.slice A5 m5 c5) (.slice A6 m6 c6) (.bool x2.opt) (.s (I.bs x2.key))));have HS:Hid (I.dk C.text.size st=(x2,s2)):=by show _=_;simp only[I.dk,X2.o,Lp.o,and_false,Bool.false_eq_true,if_false]
   refine bodyPost_ret (results_cell_row rfl _ _ w.heap.size 30 _ (0,0) _ rfl FZ.o.ah ag rfl af) rfl ?_;rw[HS.o];exact FZ.o.done (FZ.o.Kx)
 ·have q3:((x2.k.toNat:Int)==12)=false:=tH (b:=12) hk;have H3:=aa hk;clear hk;have Ly:=F3.o.ab.KI;simp at Ly;have Mj:=F3.o.ah.KI;simp at Mj;obtain⟨KQ,KS,KT,K4,K5,K6,K7,K9,Ma,MC,KX,KY,KZ⟩:=F3.o.ah.LW;go_wp2_with fail
  have FZ:=aa (F3.o.cN (cC (Ch.refl _ _ _) (.inl rfl) _ _ _ _ _ _ _ _ _ _ _ _ _) (bC F3.o.ah (.u (x2.k.toNat:Int)) (.s (I.bs x2.nm)) (.s (I.bs x2.on)) (.s (I.bs x2.aF)) (.u (x2.ev.toNat:Int)) (.slice A1 m1 c1) (.slice A2 m2 c2) (.slice A3 m3 c3) (.slice A4 m4 c4) (.slice A5 m5 c5) (.slice A6 m6 c6) (.bool x2.opt) (.s (I.bs x2.key))));have HS:Hid (I.dk C.text.size st=(x2,s2)):=by show _=_;simp only[I.dk,X2.o,H3.o,false_and,if_false]
  refine bodyPost_ret (results_cell_row rfl _ _ w.heap.size 30 _ (0,0) _ rfl FZ.o.ah ag rfl af) rfl ?_;rw[HS.o];exact FZ.o.done (FZ.o.Kx)
end
section
namespace I
open Ev (Ex)
theorem jM(T:Nat)(st:St):(br T st).r.length≤st.r.length:=by
 unfold br;split
 ·exact dt T 300 st
 ·exact dt T 3 st
theorem Ci{α:Type}{T most:Nat}{one:St→α×St}(h:ct one):∀(f:Nat) (l:List α) (st:St),(more T most one f l st).2.r.length≤st.r.length:=by
 intro f;induction f with
 |zero=>intro l st;exact Nat.le_refl _
 |succ f ih=>
  intro l st;unfold more;split
  ·split
   ·exact Nat.le_trans (jM T _) (aE st)
   ·exact Nat.le_trans (ih _ _) (Nat.le_trans (h _) (aE st))
  ·exact Nat.le_refl _
theorem ye{α:Type}{T most:Nat}{one:St→α×St}(h:ct one):ct (list T most one):=by
 intro st;unfold list;exact Nat.le_trans (Ci h _ _ _) (h st)
theorem DS(T:Nat):ct (row T):=iB (ye (eh T))
theorem zf(T:Nat):ct (item T):=by
 intro st;unfold item;have h1:=eh T st;revert h1;cases expr T st with
 |mk e s=>
  intro h1;simp only at h1⊢;split
  ·exact Nat.le_trans (dO T _) (Nat.le_trans (aE s) h1)
  ·exact h1
theorem vt(T:Nat):ct (order T):=by
 intro st;unfold order;have h1:=eh T st;revert h1;cases expr T st with
 |mk e s=>
  intro h1;simp only at h1⊢;split
  ·exact Nat.le_trans (aE s) h1
  ·split
   ·exact Nat.le_trans (aE s) h1
   ·exact h1
theorem yW(T:Nat):ct (du T):=by
 intro st;unfold du;have h1:=dO T st;revert h1;cases name T st with
 |mk e s=>
  intro h1;simp only at h1⊢;have h2:=eh T (expect T [[61]] s);have h3:=av T [[61]] s;revert h2;cases expr T (expect T [[61]] s)with
  |mk x s2=>
   intro h2;simp only at h2⊢;omega
theorem mH(T:Nat):ct (action T):=by
 intro st;unfold action;split
 ·have h1:=iY T [[114,101,115,116,114,105,99,116],[99,97,115,99,97,100,101],[115,101,116]] 0 (expect T [[100,101,108,101,116,101]] (next st));have h2:=av T [[100,101,108,101,116,101]] (next st);have h3:=aE st;revert h1;cases choose T 0 [[114,101,115,116,114,105,99,116],[99,97,115,99,97,100,101],[115,101,116]] (expect T [[100,101,108,101,116,101]] (next st))with
  |mk i s=>
   intro h1;simp only at h1⊢;split
   ·have:=av T [[110,117,108,108]] s;simp only;omega
   ·show s.r.length≤_;omega
 ·exact Nat.le_refl _
theorem yz(T:Nat):ct (aC T):=by
 intro st;unfold aC;have h1:=dO T st;revert h1;cases name T st with
 |mk e s=>
  intro h1;simp only at h1⊢;have h2:=iY T [[105,110,116],[100,101,99],[98,111,111,108],[116,101,120,116],[98,121,116,101,115]] 0 s;revert h2;cases choose T 0 [[105,110,116],[100,101,99],[98,111,111,108],[116,101,120,116],[98,121,116,101,115]] s with
  |mk i s2=>
   intro h2;simp only at h2⊢;omega
theorem ya(T:Nat)(c:Ky)(st:St):(bc T c st).2.r.length≤st.r.length:=by
 unfold bc;split
 ·exact Nat.le_trans (av T _ _) (aE st)
 ·exact Nat.le_refl _
theorem zj(T:Nat)(c:Ky)(st:St):(bY T c st).2.r.length≤st.r.length:=by
 unfold bY;split
 ·exact Nat.le_trans (av T _ _) (aE st)
 ·exact Nat.le_refl _
theorem yg(c:Ky)(st:St):(cp c st).2.r.length≤st.r.length:=by
 unfold cp;split
 ·exact aE st
 ·exact Nat.le_refl _
theorem zr(T:Nat)(c:Ky)(st:St):(cM T c st).2.r.length≤st.r.length:=by
 unfold cM;split
 ·exact Nat.le_trans (iB (eh T) _) (aE st)
 ·exact Nat.le_refl _
theorem yd(T:Nat)(c:Ky)(st:St):(dK T c st).2.r.length≤st.r.length:=by
 unfold dK;split
 ·exact Nat.le_trans (mH T _) (Nat.le_trans (dO T _) (aE st))
 ·exact Nat.le_refl _
theorem kR(T:Nat)(st:St):column T st=dK T (cM T (cp (bY T (bc T (aC T st).1 (aC T st).2).1 (bc T (aC T st).1 (aC T st).2).2).1 (bY T (bc T (aC T st).1 (aC T st).2).1 (bc T (aC T st).1 (aC T st).2).2).2).1 (cp (bY T (bc T (aC T st).1 (aC T st).2).1 (bc T (aC T st).1 (aC T st).2).2).1 (bY T (bc T (aC T st).1 (aC T st).2).1 (bc T (aC T st).1 (aC T st).2).2).2).2).1 (cM T (cp (bY T (bc T (aC T st).1 (aC T st).2).1 (bc T (aC T st).1 (aC T st).2).2).1 (bY T (bc T (aC T st).1 (aC T st).2).1 (bc T (aC T st).1 (aC T st).2).2).2).1 (cp (bY T (bc T (aC T st).1 (aC T st).2).1 (bc T (aC T st).1 (aC T st).2).2).1 (bY T (bc T (aC T st).1 (aC T st).2).1 (bc T (aC T st).1 (aC T st).2).2).2).2).2:=rfl
theorem C7(T:Nat):ct (column T):=by
 intro st;rw[kR];exact Nat.le_trans (yd T _ _) (Nat.le_trans (zr T _ _) (Nat.le_trans (yg _ _) (Nat.le_trans (zj T _ _) (Nat.le_trans (ya T _ _) (yz T st)))))
end I
end
section
set_option maxRecDepth 100000
section
variable{g:Nat}{w0 w w':World}{own:bO}{its:List It}{Q:World→Prop}
theorem Fr.GK{α:Type}{E:El α}{cs:List Value}{x:α}{p:Nat×TypeId×Array Value}{b:Nat}{t:TypeId}{cells:Array Value}(h:Fr g w0 (p::(b,t,cells)::own) (It.el E cs x::its) Q w)(t':TypeId)(i:Nat){cells':Array Value}(e:cells.setIfInBounds i (.slice (some ⟨w.heap.size,0,none⟩) 1 1)=cells'):
 Fr g w0 (p::(b,t,cells')::own) (It.rr E (.slice (some ⟨w.heap.size,0,none⟩) 1 1) [x]::It.el E cs x::its) Q ((w.setCell ⟨b,i,none⟩ (.slice (some ⟨w.heap.size,0,none⟩) 1 1)).alloc (.cells cs.toArray t')):=
 (h.swap.gL t' i e).swap
theorem Fr.G3{v:Value}{xs:List Ev.Ex}(h:Fr g w0 own (It.rr Kr v xs::its) Q w):Fr g w0 own (It.el dM [v] xs::It.rr Kr v xs::its) Q w:=
 h.item _ ⟨v,rfl,h.Kx⟩
theorem qG{b:Nat}{t:TypeId}{cs:Array Value}{L:List (Nat×Obj)}(h:ey ((b,.cells cs t (0,0))::L) w):Kn w b t cs:=(show∀p∈_,_ from h) (b,.cells cs t (0,0)) List.mem_cons_self
theorem Fr.RP{F G K L:It}(h:Fr g w0 own (G::K::L::F::its) Q w):F.P w (fq w0.heap.size own w):=h.its F (by simp)
end
theorem C3(C:RC)(gB:Nat)(hBg:gB≠C.g)(st:I.St)(w:World)(h:PS C st w)(hB:Kn w gB 70 #[.p C.g]):
 Calls Tryz.prog 204 #[.p gB] w (iC Kr C w (I.list C.text.size 16 (I.expr C.text.size) st)):=by
 have HB:=aa hB;have hBl:=lt_of_block hB;clear hB;have F0:=aa (Fr.start h.lt h.aJ);clear h;go_enter Tryz.func204,Tryz.ntmps204;have d0:=HB.o.cell 0;simp at d0;go_wp2_with fail
 with_reducible refine(Fr.jJ F0.o (pP C 138 #[.p C.g] #[] #[.p C.g] (fun w=>by simp[go_sem]) [] iy 16 16 rfl (by decide) (by decide) (I.expr C.text.size) (I.eh _) st.r.length (eU fun st w hp=>fh C st w hp) st _ (Nat.le_refl _) F0.o.q (ey.none _))).mono ?_
 rintro e w1 ⟨v1,M6,s1,(X1:Hid _),rfl,(F1:Hid _)⟩;clear d0;have HS:Hid (I.list C.text.size 16 (I.expr C.text.size) st=(M6,s1)):=by show _=_;simp only[X1.o]
 go_wp2_with fail
 go_ret;rw[HS.o];exact F1.o.nk
theorem xh(C:RC)(st:I.St)(w:World)(h:PS C st w):
 Calls Tryz.prog 135 #[.p C.g] w (iC Kr C w (I.row C.text.size st)):=by
 have F0:=aa (Fr.start h.lt h.aJ);clear h;go_enter Tryz.func135,Tryz.ntmps135;have K8:=aa (F0.o.new 70 #[.p C.g]);obtain⟨w1,hw⟩:=aab (w.alloc (.cells #[.p C.g] 70));obtain⟨gB,hgB⟩:=aab w.heap.size;go_upto_region 1 with fail
 have F1:=aa K8.o;rw[←hw,←hgB]at F1;rw[←hw,←hgB];clear hw K8;have hBg:gB≠C.g:=by have:=F1.o.lt;omega
 clear hgB;have d0:=F1.o.ab.cell 0;simp at d0;have HB:=aa F1.o.ab;go_wp2_with fail
 with_reducible refine(Fr.jJ F1.o (pE C 204 #[] #[.p gB] #[.p gB] (fun w=>by simp[go_sem]) [(gB,.cells #[.p C.g] 70 (0,0))] (qU hBg) (I.list C.text.size 16 (I.expr C.text.size)) (fun st2 w2 hp hL=>C3 C gB hBg st2 w2 hp (qG hL)) st _ F1.o.q (kZ HB.o))).mono ?_
 rintro e w2 ⟨v2,Wd,s2,(X2:Hid _),rfl,(F2:Hid _)⟩;clear d0;have HS:Hid (I.row C.text.size st=(Wd,s2)):=by show _=_;simp only[I.row,X2.o]
 go_wp2_with fail
 go_ret;rw[HS.o];exact F2.o.nk
theorem wB(C:RC)(st:I.St)(w:World)(h:PS C st w):
 Calls Tryz.prog 55 #[.p C.g] w (EPost aB C w (I.insert C.text.size st)):=by
 have F0:=aa (Fr.start h.lt h.aJ);clear h;go_enter Tryz.func55,Tryz.ntmps55;have F1:=aa (F0.o.new 30 #[.b,.e,.e,.e,.b,.z,.z,.z,.z,.z,.z,.f,.e]);obtain⟨w1,hw⟩:=aab (w.alloc (.cells #[.b,.e,.e,.e,.b,.z,.z,.z,.z,.z,.z,.f,.e] 30));go_upto_region 1 with fail
 rw[←hw]at F1⊢;clear hw;go_upto_region 2 with fail
 have F2:=aa (F1.o.new 30 #[.u 14,.e,.e,.e,.b,.z,.z,.z,.z,.z,.z,.f,.e]);obtain⟨w2,hw⟩:=aab (w1.alloc (.cells #[.u 14,.e,.e,.e,.b,.z,.z,.z,.z,.z,.z,.f,.e] 30));obtain⟨g2,hg⟩:=aab w1.heap.size;rw[←hw,←hg]at F2;rw[←hw,←hg];clear hw hg;go_wp2_with fail
 with_reducible refine(aY F2.o (n:=1) (cells:=#[.s ⟨#[105,110,116,111]⟩]) [[105,110,116,111]] rfl rfl (by decide)).mono ?_
 rintro e w3 ⟨s3,(E3:Hid _),rfl,(F3:Hid _)⟩;go_wp2_with fail
 with_reducible refine(cG F3.o).mono ?_
 rintro e w4 ⟨n4,s4,(N4:Hid _),(Z4:Hid _),rfl,(F4:Hid _)⟩;have M5:=F4.o.ab.cell 1;simp at M5;have M9:=F4.o.ab.frozen 1;go_upto_region 4 with fail
 have F5:=aa (F4.o.aO 1 (.s (I.bs n4)) (cs':=#[.u 14,.s (I.bs n4),.e,.e,.b,.z,.z,.z,.z,.z,.z,.f,.e]) rfl);obtain⟨w5,hw⟩:=aab (w4.setCell ⟨g2,1,none⟩ (.s (I.bs n4)));rw[←hw]at F5⊢;clear hw M5 M9;go_wp2_with fail
 with_reducible refine(aY F5.o (n:=1) (cells:=#[.s ⟨#[118,97,108,117,101,115]⟩]) [[118,97,108,117,101,115]] rfl rfl (by decide)).mono ?_
 rintro e w6 ⟨s6,(E6:Hid _),rfl,(F6:Hid _)⟩;go_wp2_with fail
 with_reducible refine(Fr.jJ F6.o (tT C 135 #[.p C.g] #[] #[.p C.g] (fun w=>by simp[go_sem]) [] iy 16 16 rfl (by decide) (by decide) (I.row C.text.size) (I.DS _) s6.r.length (eU fun st w hp=>xh C st w hp) s6 _ (Nat.le_refl _) F6.o.q (ey.none _))).mono ?_
 rintro e w7 ⟨v7,ZD,s7,(X7:Hid _),rfl,(F7:Hid _)⟩;obtain⟨A7,m7,c7,rfl⟩:=ar F7.o.Kx;have NY:=F7.o.ab.cell 7;simp at NY;have NK:=F7.o.ab.frozen 7;go_upto_region 6 with fail
 have F8:=aa (F7.o.aO 7 (.slice A7 m7 c7) (cs':=#[.u 14,.s (I.bs n4),.e,.e,.b,.z,.z,.slice A7 m7 c7,.z,.z,.z,.f,.e]) rfl);obtain⟨w8,hw⟩:=aab (w7.setCell ⟨g2,7,none⟩ (.slice A7 m7 c7));rw[←hw]at F8⊢;clear hw NY NK;have Ks:=F8.o.ab.KI;simp at Ks;have cj2:=F8.o.ah.KI;simp at cj2;obtain⟨KQ,KS,KT,K4,K5,K6,K7,K9,Ma,MC,KX,KY,KZ⟩:=F8.o.ah.LW;go_wp2_with fail
 have FZ:=aa (F8.o.cN (cC (Ch.refl _ _ _) (.inl rfl) _ _ _ _ _ _ _ _ _ _ _ _ _) (bC F8.o.ah (.u 14) (.s (I.bs n4)) .e .e .b .z .z (.slice A7 m7 c7) .z .z .z .f .e));have HS:Hid (I.insert C.text.size st=(({I.Km.of 14 with nm:=n4,vals:=ZD}:I.Km),s7)):=by show _=_;simp only[I.insert,E3.o,N4.o,E6.o,X7.o]
 refine bodyPost_ret (results_cell_row rfl _ _ w.heap.size 30 _ (0,0) _ rfl FZ.o.ah ag rfl af) rfl ?_;rw[HS.o];exact FZ.o.done (⟨_,_,_,_,_,_,rfl,Rr.nil _ _ _,Rr.nil _ _ _,FZ.o.Kx,Rr.nil _ _ _,Rr.nil _ _ _,Rr.nil _ _ _,Sz.of Z4.o,Sz.of (Nat.zero_le _),Sz.of (Nat.zero_le _),Sz.of (Nat.zero_le _)⟩)
theorem wN(C:RC)(st:I.St)(w:World)(h:PS C st w):
 Calls Tryz.prog 57 #[.p C.g] w (EPost aB C w (I.remove C.text.size st)):=by
 have F0:=aa (Fr.start h.lt h.aJ);clear h;go_enter Tryz.func57,Tryz.ntmps57;have F1:=aa (F0.o.new 30 #[.b,.e,.e,.e,.b,.z,.z,.z,.z,.z,.z,.f,.e]);obtain⟨w1,hw⟩:=aab (w.alloc (.cells #[.b,.e,.e,.e,.b,.z,.z,.z,.z,.z,.z,.f,.e] 30));go_upto_region 1 with fail
 rw[←hw]at F1⊢;clear hw;go_upto_region 2 with fail
 have F2:=aa (F1.o.new 30 #[.u 16,.e,.e,.e,.b,.z,.z,.z,.z,.z,.z,.f,.e]);obtain⟨w2,hw⟩:=aab (w1.alloc (.cells #[.u 16,.e,.e,.e,.b,.z,.z,.z,.z,.z,.z,.f,.e] 30));obtain⟨g2,hg⟩:=aab w1.heap.size;rw[←hw,←hg]at F2;rw[←hw,←hg];clear hw hg;go_wp2_with fail
 with_reducible refine(aY F2.o (n:=1) (cells:=#[.s ⟨#[102,114,111,109]⟩]) [[102,114,111,109]] rfl rfl (by decide)).mono ?_
 rintro e w3 ⟨s3,(E3:Hid _),rfl,(F3:Hid _)⟩;go_wp2_with fail
 with_reducible refine(cG F3.o).mono ?_
 rintro e w4 ⟨n4,s4,(N4:Hid _),(Z4:Hid _),rfl,(F4:Hid _)⟩;have M5:=F4.o.ab.cell 1;simp at M5;have M9:=F4.o.ab.frozen 1;go_upto_region 4 with fail
 have F5:=aa (F4.o.aO 1 (.s (I.bs n4)) (cs':=#[.u 16,.s (I.bs n4),.e,.e,.b,.z,.z,.z,.z,.z,.z,.f,.e]) rfl);obtain⟨w5,hw⟩:=aab (w4.setCell ⟨g2,1,none⟩ (.s (I.bs n4)));rw[←hw]at F5⊢;clear hw M5 M9;go_wp2_with fail
 with_reducible refine(Fr.jJ F5.o (lW C _ _ F5.o.q)).mono ?_
 rintro e w6 ⟨v6,ZE,s6,(X6:Hid _),rfl,(F6:Hid _)⟩;obtain⟨A6,m6,c6,rfl⟩:=ar F6.o.Kx;have OH:=F6.o.ab.cell 9;simp at OH;have QZ:=F6.o.ab.frozen 9;go_upto_region 5 with fail
 have F7:=aa (F6.o.aO 9 (.slice A6 m6 c6) (cs':=#[.u 16,.s (I.bs n4),.e,.e,.b,.z,.z,.z,.z,.slice A6 m6 c6,.z,.f,.e]) rfl);obtain⟨w7,hw⟩:=aab (w6.setCell ⟨g2,9,none⟩ (.slice A6 m6 c6));rw[←hw]at F7⊢;clear hw OH QZ;have Ks:=F7.o.ab.KI;simp at Ks;have cj2:=F7.o.ah.KI;simp at cj2;obtain⟨KQ,KS,KT,K4,K5,K6,K7,K9,Ma,MC,KX,KY,KZ⟩:=F7.o.ah.LW;go_wp2_with fail
 have FZ:=aa (F7.o.cN (cC (Ch.refl _ _ _) (.inl rfl) _ _ _ _ _ _ _ _ _ _ _ _ _) (bC F7.o.ah (.u 16) (.s (I.bs n4)) .e .e .b .z .z .z .z (.slice A6 m6 c6) .z .f .e));have HS:Hid (I.remove C.text.size st=(({I.Km.of 16 with nm:=n4,wh:=ZE}:I.Km),s6)):=by show _=_;simp only[I.remove,E3.o,N4.o,X6.o]
 refine bodyPost_ret (results_cell_row rfl _ _ w.heap.size 30 _ (0,0) _ rfl FZ.o.ah ag rfl af) rfl ?_;rw[HS.o];exact FZ.o.done (⟨_,_,_,_,_,_,rfl,Rr.nil _ _ _,Rr.nil _ _ _,Rr.nil _ _ _,Rr.nil _ _ _,FZ.o.Kx,Rr.nil _ _ _,Sz.of Z4.o,Sz.of (Nat.zero_le _),Sz.of (Nat.zero_le _),Sz.of (Nat.zero_le _)⟩)
theorem vS(C:RC)(st:I.St)(w:World)(h:PS C st w):
 Calls Tryz.prog 56 #[.p C.g] w (EPost aB C w (I.update C.text.size st)):=by
 have F0:=aa (Fr.start h.lt h.aJ);clear h;go_enter Tryz.func56,Tryz.ntmps56;have F1:Hid (Fr C.g w [(w.heap.size+1,30,#[.b,.e,.e,.e,.b,.z,.z,.z,.z,.z,.z,.f,.e]),(w.heap.size,70,#[.p C.g])] [] (PS C st) ((w.alloc (.cells #[.p C.g] 70)).alloc (.cells #[.b,.e,.e,.e,.b,.z,.z,.z,.z,.z,.z,.f,.e] 30))):=by have h1:=((F0.o.new 70 #[.p C.g]).new 30 #[.b,.e,.e,.e,.b,.z,.z,.z,.z,.z,.z,.f,.e]);rw[ay]at h1;exact h1
 obtain⟨w1,hw⟩:=aab ((w.alloc (.cells #[.p C.g] 70)).alloc (.cells #[.b,.e,.e,.e,.b,.z,.z,.z,.z,.z,.z,.f,.e] 30));go_upto_region 1 with fail
 rw[←hw]at F1⊢;clear hw;obtain⟨gX,RM⟩:=aab (w.heap.size+1);obtain⟨gB,hgB⟩:=aab w.heap.size;rw[←RM,←hgB]at F1;rw[←RM,←hgB];have hBg:gB≠C.g:=by have:=F1.o.lt;omega
 clear RM hgB;skip;have d0:=F1.o.ah.cell 0;simp at d0;go_wp2_with fail
 with_reducible refine(cG F1.o).mono ?_
 rintro e w2 ⟨n2,s2,(N2:Hid _),(Z2:Hid _),rfl,(F2:Hid _)⟩;clear d0;have d0:=F2.o.ah.cell 0;simp at d0;go_upto_region 2 with fail
 have F3:=aa (F2.o.new 30 #[.u 15,.s (I.bs n2),.e,.e,.b,.z,.z,.z,.z,.z,.z,.f,.e]);obtain⟨w3,hw⟩:=aab (w2.alloc (.cells #[.u 15,.s (I.bs n2),.e,.e,.b,.z,.z,.z,.z,.z,.z,.f,.e] 30));obtain⟨g3,hg⟩:=aab w2.heap.size;rw[←hw,←hg]at F3;rw[←hw,←hg];clear hw hg;clear d0;have d0:=F3.o.aS.cell 0;simp at d0;go_wp2_with fail
 with_reducible refine(aY F3.o (n:=1) (cells:=#[.s ⟨#[115,101,116]⟩]) [[115,101,116]] rfl rfl (by decide)).mono ?_
 rintro e w4 ⟨s4,(E4:Hid _),rfl,(F4:Hid _)⟩;clear d0;have d0:=F4.o.aS.cell 0;simp at d0;have HB:=aa F4.o.aS;go_wp2_with fail
 with_reducible refine(Fr.jJ F4.o (rF C 137 #[] #[.p gB] #[.p gB] (fun w=>by simp[go_sem]) [(gB,.cells #[.p C.g] 70 (0,0))] (qU hBg) 16 16 rfl (by decide) (by decide) (I.du C.text.size) (I.yW _) s4.r.length (sS fun st w hp hB=>Dq C gB hBg st w hp hB) s4 _ (Nat.le_refl _) F4.o.q (kZ HB.o))).mono ?_
 rintro e w5 ⟨v5,xs5,s5,(X5:Hid _),rfl,(F5:Hid _)⟩;obtain⟨A5,m5,c5,rfl⟩:=ar F5.o.Kx;clear d0;have d0:=F5.o.aS.cell 0;simp at d0;have NJ:=F5.o.ab.cell 8;simp at NJ;have OA:=F5.o.ab.frozen 8;go_upto_region 4 with fail
 have F6:=aa (F5.o.aO 8 (.slice A5 m5 c5) (cs':=#[.u 15,.s (I.bs n2),.e,.e,.b,.z,.z,.z,.slice A5 m5 c5,.z,.z,.f,.e]) rfl);obtain⟨w6,hw⟩:=aab (w5.setCell ⟨g3,8,none⟩ (.slice A5 m5 c5));rw[←hw]at F6⊢;clear hw NJ OA;clear d0;have d0:=F6.o.aS.cell 0;simp at d0;go_wp2_with fail
 with_reducible refine(Fr.jJ F6.o (lW C _ _ F6.o.q)).mono ?_
 rintro e w7 ⟨v7,ZD,s7,(X7:Hid _),rfl,(F7:Hid _)⟩;obtain⟨A7,m7,c7,rfl⟩:=ar F7.o.Kx;clear d0;have OH:=F7.o.ab.cell 9;simp at OH;have QZ:=F7.o.ab.frozen 9;go_upto_region 5 with fail
 have F8:=aa (F7.o.aO 9 (.slice A7 m7 c7) (cs':=#[.u 15,.s (I.bs n2),.e,.e,.b,.z,.z,.z,.slice A5 m5 c5,.slice A7 m7 c7,.z,.f,.e]) rfl);obtain⟨w8,hw⟩:=aab (w7.setCell ⟨g3,9,none⟩ (.slice A7 m7 c7));rw[←hw]at F8⊢;clear hw OH QZ;have Ks:=F8.o.ab.KI;simp at Ks;have cj2:=F8.o.ah.KI;simp at cj2;obtain⟨KQ,KS,KT,K4,K5,K6,K7,K9,Ma,MC,KX,KY,KZ⟩:=F8.o.ah.LW;go_wp2_with fail
 have FZ:=aa (F8.o.cN (cC (Ch.refl _ _ _) (.inl rfl) _ _ _ _ _ _ _ _ _ _ _ _ _) (bC F8.o.ah (.u 15) (.s (I.bs n2)) .e .e .b .z .z .z (.slice A5 m5 c5) (.slice A7 m7 c7) .z .f .e));have HS:Hid (I.update C.text.size st=(({I.Km.of 15 with nm:=n2,bu:=xs5,wh:=ZD}:I.Km),s7)):=by show _=_;simp only[I.update,N2.o,E4.o,X5.o,X7.o]
 refine bodyPost_ret (results_cell_row rfl _ _ gX 30 _ (0,0) _ rfl FZ.o.ah ag rfl af) rfl ?_;rw[HS.o];exact FZ.o.done (⟨_,_,_,_,_,_,rfl,Rr.nil _ _ _,Rr.nil _ _ _,Rr.nil _ _ _,FZ.o.Nz,FZ.o.Kx,Rr.nil _ _ _,Sz.of Z2.o,Sz.of (Nat.zero_le _),Sz.of (Nat.zero_le _),Sz.of (Nat.zero_le _)⟩)
theorem wm(C:RC)(st:I.St)(w:World)(h:PS C st w):
 Calls Tryz.prog 128 #[.p C.g] w (EPost aB C w (I.dE C.text.size st)):=by
 have F0:=aa (Fr.start h.lt h.aJ);clear h;go_enter Tryz.func128,Tryz.ntmps128;have F1:=aa (F0.o.new 30 #[.b,.e,.e,.e,.b,.z,.z,.z,.z,.z,.z,.f,.e]);obtain⟨w1,hw⟩:=aab (w.alloc (.cells #[.b,.e,.e,.e,.b,.z,.z,.z,.z,.z,.z,.f,.e] 30));go_upto_region 1 with fail
 rw[←hw]at F1⊢;clear hw;go_wp2_with fail
 with_reducible refine(cG F1.o).mono ?_
 rintro e w2 ⟨n2,s2,(N2:Hid _),(Z2:Hid _),rfl,(F2:Hid _)⟩;go_upto_region 2 with fail
 have F3:=aa (F2.o.new 30 #[.u 7,.s (I.bs n2),.e,.e,.b,.z,.z,.z,.z,.z,.z,.f,.e]);obtain⟨w3,hw⟩:=aab (w2.alloc (.cells #[.u 7,.s (I.bs n2),.e,.e,.b,.z,.z,.z,.z,.z,.z,.f,.e] 30));obtain⟨g3,hg⟩:=aab w2.heap.size;rw[←hw,←hg]at F3;rw[←hw,←hg];clear hw hg;go_wp2_with fail
 with_reducible refine(aY F3.o (n:=1) (cells:=#[.s ⟨#[111,110]⟩]) [[111,110]] rfl rfl (by decide)).mono ?_
 rintro e w4 ⟨s4,(E4:Hid _),rfl,(F4:Hid _)⟩;go_wp2_with fail
 with_reducible refine(cG F4.o).mono ?_
 rintro e w5 ⟨n5,s5,(N5:Hid _),(Z5:Hid _),rfl,(F5:Hid _)⟩;have KK:=F5.o.ab.cell 2;simp at KK;have Mb:=F5.o.ab.frozen 2;go_upto_region 4 with fail
 have F6:=aa (F5.o.aO 2 (.s (I.bs n5)) (cs':=#[.u 7,.s (I.bs n2),.s (I.bs n5),.e,.b,.z,.z,.z,.z,.z,.z,.f,.e]) rfl);obtain⟨w6,hw⟩:=aab (w5.setCell ⟨g3,2,none⟩ (.s (I.bs n5)));rw[←hw]at F6⊢;clear hw KK Mb;go_wp2_with fail
 with_reducible refine(aY F6.o (n:=1) (cells:=#[.s ⟨#[116,111]⟩]) [[116,111]] rfl rfl (by decide)).mono ?_
 rintro e w7 ⟨s7,(E7:Hid _),rfl,(F7:Hid _)⟩;go_wp2_with fail
 with_reducible refine(cG F7.o).mono ?_
 rintro e w8 ⟨n8,s8,(N8:Hid _),(Z8:Hid _),rfl,(F8:Hid _)⟩;have LN:=F8.o.ab.cell 3;simp at LN;have Mt:=F8.o.ab.frozen 3;go_upto_region 6 with fail
 have F9:=aa (F8.o.aO 3 (.s (I.bs n8)) (cs':=#[.u 7,.s (I.bs n2),.s (I.bs n5),.s (I.bs n8),.b,.z,.z,.z,.z,.z,.z,.f,.e]) rfl);obtain⟨w9,hw⟩:=aab (w8.setCell ⟨g3,3,none⟩ (.s (I.bs n8)));rw[←hw]at F9⊢;clear hw LN Mt;go_wp2_with fail
 with_reducible refine(aY F9.o (n:=1) (cells:=#[.s ⟨#[117,115,105,110,103]⟩]) [[117,115,105,110,103]] rfl rfl (by decide)).mono ?_
 rintro e Lo ⟨s10,(E10:Hid _),rfl,(KC:Hid _)⟩;go_wp2_with fail
 with_reducible refine(Fr.ux KC.o (ir C 138 #[.p C.g] #[] #[.p C.g] (fun w=>by simp[go_sem]) [] iy (I.expr C.text.size) s10.r.length (eU fun st w hp=>fh C st w hp) s10 _ (by omega) (.inl (Nat.le_refl _)) KC.o.q (ey.none _))).mono ?_
 rintro e Lh ⟨h11,Ql,m11,c11,Om,s11,(Wu:Hid _),rfl,(K1:Hid _)⟩;have OH:=(K1.o.ab.alloc (.cells #[.u (h11.o.toNat:Int),.u (h11.v.k.toNat:Int),.i h11.v.n,.s h11.v.s,.s h11.nm,.s h11.of,.i h11.n,.slice Ql m11 c11] 50)).cell 9;have QZ:=(K1.o.ab.alloc (.cells #[.u (h11.o.toNat:Int),.u (h11.v.k.toNat:Int),.i h11.v.n,.s h11.v.s,.s h11.nm,.s h11.of,.i h11.n,.slice Ql m11 c11] 50)).frozen 9;have kl:=K1.o.ab.lt;simp at OH;go_upto_region 8 with fail
 have Ll:=aa ((K1.o).gL (E:=Kr) (cs:=[.u (h11.o.toNat:Int),.u (h11.v.k.toNat:Int),.i h11.v.n,.s h11.v.s,.s h11.nm,.s h11.of,.i h11.n,.slice Ql m11 c11]) 50 9 (cells':=#[.u 7,.s (I.bs n2),.s (I.bs n5),.s (I.bs n8),.b,.z,.z,.z,.z,.slice (some ⟨Lh.heap.size,0,none⟩) 1 1,.z,.f,.e]) rfl);obtain⟨Mc,hw⟩:=aab (((Lh.setCell ⟨g3,9,none⟩ (.slice (some ⟨Lh.heap.size,0,none⟩) 1 1)).alloc (.cells #[.u (h11.o.toNat:Int),.u (h11.v.k.toNat:Int),.i h11.v.n,.s h11.v.s,.s h11.nm,.s h11.of,.i h11.n,.slice Ql m11 c11] 50)));obtain⟨g12,hg⟩:=aab Lh.heap.size;rw[←hw,←hg]at Ll;rw[←hw,←hg];clear hw hg OH QZ kl;have Ks:=Ll.o.ab.KI;simp at Ks;have cj2:=Ll.o.ah.KI;simp at cj2;obtain⟨KQ,KS,KT,K4,K5,K6,K7,K9,Ma,MC,KX,KY,KZ⟩:=Ll.o.ah.LW;go_wp2_with fail
 have FZ:=aa (Ll.o.cN (cC (Ch.refl _ _ _) (.inl rfl) _ _ _ _ _ _ _ _ _ _ _ _ _) (bC Ll.o.ah (.u 7) (.s (I.bs n2)) (.s (I.bs n5)) (.s (I.bs n8)) .b .z .z .z .z (.slice (some ⟨g12,0,none⟩) 1 1) .z .f .e));have HS:Hid (I.dE C.text.size st=(({I.Km.of 7 with nm:=n2,on:=n5,aF:=n8,wh:=[Om]}:I.Km),s11)):=by show _=_;simp only[I.dE,N2.o,E4.o,N5.o,E7.o,N8.o,E10.o,Wu.o]
 refine bodyPost_ret (results_cell_row rfl _ _ w.heap.size 30 _ (0,0) _ rfl FZ.o.ah ag rfl af) rfl ?_;rw[HS.o];exact FZ.o.done (⟨_,_,_,_,_,_,rfl,Rr.nil _ _ _,Rr.nil _ _ _,Rr.nil _ _ _,Rr.nil _ _ _,FZ.o.Kx,Rr.nil _ _ _,Sz.of Z2.o,Sz.of Z5.o,Sz.of Z8.o,Sz.of (Nat.zero_le _)⟩)
end
end Go.Proofs.YtnicfobpclehkaaGreatDoor
