import Derived.Test.YtnicfobpclehkaaGreatDoorP39
set_option maxHeartbeats 20000000
set_option linter.unusedVariables false
set_option linter.unusedSimpArgs false
namespace Go.Proofs.YtnicfobpclehkaaGreatDoor
open Go.RowKit
section
set_option maxRecDepth 100000
theorem pN{w:World}{P:Nat→Prop}{v:Value}{x:List Ev.Ex}(h:dM.R w P [v] x):∃A m c,v=.slice A m c:=by
 obtain⟨u,hu,h⟩:=h;injection hu with hu
 subst hu;exact ar h
theorem Fl.CT{C:RC}{w0 w:World}{lo:Nat}{own:bO}{its:List It}{Q:World→Prop}{f:FuncId}{args:Array Value}{r:List Ev.Ex×I.St}(F:Fl C.g w0 lo own its Q w)(h:Calls Tryz.prog f args w (VR Kr C w r)):Calls Tryz.prog f args w fun e w'=>∃v x s,r=(x,s)∧e=.returned v∧dM.R w' (In w.heap.size w'.heap.size) [v] x∧Ch C.g w.heap.size w w'∧Fl C.g w0 lo own its (RS C s) w':=
 h.mono fun _ _ ⟨v,h1,h2,h3,h4⟩=>⟨v,r.1,r.2,rfl,h1,⟨v,rfl,h2⟩,h4,F.call h3.aJ h4⟩
theorem Fl.EB{C:RC}{w0 w:World}{lo:Nat}{own:bO}{its:List It}{Q:World→Prop}{f:FuncId}{args:Array Value}{r:List Ev.Ex×I.St}(F:Fl C.g w0 lo own its Q w)(h:Calls Tryz.prog f args w.drew (VR Kr C w.drew r)):Calls Tryz.prog f args w.drew fun e w'=>∃v x s,r=(x,s)∧e=.returned v∧dM.R w' (In w.heap.size w'.heap.size) [v] x∧Ch C.g w.heap.size w w'∧Fl C.g w0 lo own its (RS C s) w':=
 (F.drew.CT h).mono fun _ _ ⟨v,x,s,h1,h2,h3,h4,h5⟩=>⟨v,x,s,h1,h2,h3,h4.sk,h5⟩
theorem o3(C:RC)(st:I.St)(w:World)(h:RS C st w):
 Calls Tryz.prog 28 #[.p C.g] w (ER aB C w (Rp.aP C.text.size st)):=by
 have F0:=aa (Fr.start h.lt h.aJ);clear h;go_enter Tryz.func28,Tryz.ntmps28;have K8:=aa (F0.o.new 30 #[.b,.e,.e,.e,.b,.z,.z,.z,.z,.z,.z,.f,.e]);go_wp2_with fail
 with_reducible refine(aG ⟨#[99,114,101,97,116,101]⟩ [99,114,101,97,116,101] rfl K8.o).mono ?_
 rintro e w1 ⟨b,hb,rfl,hF⟩;cases b with
 |true=>
  have MF:=aa hb;have F1:Hid (Fr C.g w _ _ (RS C (I.next st)) w1):=hF;clear hF hb;go_wp2_with fail
  with_reducible refine(F1.o.jw (sx C _ _ F1.o.q)).mono ?_
  rintro e w2 ⟨cz,x9,s9,(X9:Hid _),rfl,hF⟩;have F2:=aa hF;clear hF;have LC:=aa (aB.len F2.o.Kx);have TH:=aa (F2.o.ab.there (n:=cz.toArray.size) (by rw[List.size_toArray,LC.o];rfl));have OC:=aa (jO F2.o.Kx);go_wp2_with (refine wpList_store_mid rfl _ _ _ rfl _ 0 cz.toArray rfl rfl TH.o (by rw[List.size_toArray,LC.o];kernel_rfl) OC.o ?_)
  have FZ:=aa (F2.o.mR cz (by rw[LC.o];rfl));have HS:Hid (Rp.aP C.text.size st=(x9,s9)):=by show _=_;unfold Rp.aP;rw[if_pos MF.o,X9.o]
  refine bodyPost_ret (v:=.agg cz.toArray) (results_cell_row rfl _ _ w.heap.size 30 _ (0,0) _ rfl FZ.o.ab ag rfl (by rw[List.size_toArray,LC.o];exact af)) rfl ?_;rw[HS.o];exact FZ.o.aK (cs:=cz) FZ.o.Kx
 |false=>
  have MF:=aa hb;have F1:Hid (Fr C.g w _ _ (RS C st) w1):=hF;clear hF hb;go_wp2_with fail
  with_reducible refine(aG ⟨#[100,114,111,112]⟩ [100,114,111,112] rfl F1.o).mono ?_
  rintro e w2 ⟨b,hb,rfl,hF⟩;cases b with
  |true=>
   have Ku:=aa hb;have F2:Hid (Fr C.g w _ _ (RS C (I.next st)) w2):=hF;clear hF hb;go_wp2_with fail
   with_reducible refine(F2.o.jw (zB C _ _ F2.o.q)).mono ?_
   rintro e w3 ⟨cz,x9,s9,(X9:Hid _),rfl,hF⟩;have F3:=aa hF;clear hF;have LC:=aa (aB.len F3.o.Kx);have TH:=aa (F3.o.ab.there (n:=cz.toArray.size) (by rw[List.size_toArray,LC.o];rfl));have OC:=aa (jO F3.o.Kx);go_wp2_with (refine wpList_store_mid rfl _ _ _ rfl _ 0 cz.toArray rfl rfl TH.o (by rw[List.size_toArray,LC.o];kernel_rfl) OC.o ?_)
   have FZ:=aa (F3.o.mR cz (by rw[LC.o];rfl));have HS:Hid (Rp.aP C.text.size st=(x9,s9)):=by show _=_;unfold Rp.aP;rw[if_neg (by rw[MF.o];decide),if_pos Ku.o,X9.o]
   refine bodyPost_ret (v:=.agg cz.toArray) (results_cell_row rfl _ _ w.heap.size 30 _ (0,0) _ rfl FZ.o.ab ag rfl (by rw[List.size_toArray,LC.o];exact af)) rfl ?_;rw[HS.o];exact FZ.o.aK (cs:=cz) FZ.o.Kx
  |false=>
   have Ku:=aa hb;have F2:Hid (Fr C.g w _ _ (RS C st) w2):=hF;clear hF hb;go_wp2_with fail
   with_reducible refine(aG ⟨#[103,114,97,110,116]⟩ [103,114,97,110,116] rfl F2.o).mono ?_
   rintro e w3 ⟨b,hb,rfl,hF⟩;cases b with
   |true=>
    have Lp:=aa hb;have F3:Hid (Fr C.g w _ _ (RS C (I.next st)) w3):=hF;clear hF hb;go_wp2_with fail
    with_reducible refine(F3.o.jw (ui C _ _ F3.o.q)).mono ?_
    rintro e w4 ⟨cz,x9,s9,(X9:Hid _),rfl,hF⟩;have F4:=aa hF;clear hF;have LC:=aa (aB.len F4.o.Kx);have TH:=aa (F4.o.ab.there (n:=cz.toArray.size) (by rw[List.size_toArray,LC.o];rfl));have OC:=aa (jO F4.o.Kx);go_wp2_with (refine wpList_store_mid rfl _ _ _ rfl _ 0 cz.toArray rfl rfl TH.o (by rw[List.size_toArray,LC.o];kernel_rfl) OC.o ?_)
    have FZ:=aa (F4.o.mR cz (by rw[LC.o];rfl));have HS:Hid (Rp.aP C.text.size st=(x9,s9)):=by show _=_;unfold Rp.aP;rw[if_neg (by rw[MF.o];decide),if_neg (by rw[Ku.o];decide),if_pos Lp.o,X9.o]
    refine bodyPost_ret (v:=.agg cz.toArray) (results_cell_row rfl _ _ w.heap.size 30 _ (0,0) _ rfl FZ.o.ab ag rfl (by rw[List.size_toArray,LC.o];exact af)) rfl ?_;rw[HS.o];exact FZ.o.aK (cs:=cz) FZ.o.Kx
   |false=>
    have Lp:=aa hb;have F3:Hid (Fr C.g w _ _ (RS C st) w3):=hF;clear hF hb;go_wp2_with fail
    with_reducible refine(aG ⟨#[114,101,118,111,107,101]⟩ [114,101,118,111,107,101] rfl F3.o).mono ?_
    rintro e w4 ⟨b,hb,rfl,hF⟩;cases b with
    |true=>
     have M7:=aa hb;have F4:Hid (Fr C.g w _ _ (RS C (I.next st)) w4):=hF;clear hF hb;go_wp2_with fail
     with_reducible refine(F4.o.jw (qX C _ _ F4.o.q)).mono ?_
     rintro e w5 ⟨cz,x9,s9,(X9:Hid _),rfl,hF⟩;have F5:=aa hF;clear hF;have LC:=aa (aB.len F5.o.Kx);have TH:=aa (F5.o.ab.there (n:=cz.toArray.size) (by rw[List.size_toArray,LC.o];rfl));have OC:=aa (jO F5.o.Kx);go_wp2_with (refine wpList_store_mid rfl _ _ _ rfl _ 0 cz.toArray rfl rfl TH.o (by rw[List.size_toArray,LC.o];kernel_rfl) OC.o ?_)
     have FZ:=aa (F5.o.mR cz (by rw[LC.o];rfl));have HS:Hid (Rp.aP C.text.size st=(x9,s9)):=by show _=_;unfold Rp.aP;rw[if_neg (by rw[MF.o];decide),if_neg (by rw[Ku.o];decide),if_neg (by rw[Lp.o];decide),if_pos M7.o,X9.o]
     refine bodyPost_ret (v:=.agg cz.toArray) (results_cell_row rfl _ _ w.heap.size 30 _ (0,0) _ rfl FZ.o.ab ag rfl (by rw[List.size_toArray,LC.o];exact af)) rfl ?_;rw[HS.o];exact FZ.o.aK (cs:=cz) FZ.o.Kx
    |false=>
     have M7:=aa hb;have F4:Hid (Fr C.g w _ _ (RS C st) w4):=hF;clear hF hb;go_wp2_with fail
     with_reducible refine(aG ⟨#[105,110,115,101,114,116]⟩ [105,110,115,101,114,116] rfl F4.o).mono ?_
     rintro e w5 ⟨b,hb,rfl,hF⟩;cases b with
     |true=>
      have Oo:=aa hb;have F5:Hid (Fr C.g w _ _ (RS C (I.next st)) w5):=hF;clear hF hb;go_wp2_with fail
      with_reducible refine(aN F5.o (n:=1) (cells:=#[.s ⟨#[105,110,116,111]⟩]) [[105,110,116,111]] rfl rfl (by decide)).mono ?_
      rintro e w6 ⟨s2,(E2:Hid _),rfl,(F6:Hid _)⟩;go_wp2_with fail
      with_reducible refine(bh F6.o).mono ?_
      rintro e w7 ⟨n3,s3,(N3:Hid _),(Z3:Hid _),rfl,(F7:Hid _)⟩;go_upto_region 12 with fail
      have F8:=aa (F7.o.new 30 #[.u 14,.s (I.bs n3),.e,.e,.b,.z,.z,.z,.z,.z,.z,.f,.e]);obtain⟨w8,hw⟩:=aab (w7.alloc (.cells #[.u 14,.s (I.bs n3),.e,.e,.b,.z,.z,.z,.z,.z,.z,.f,.e] 30));obtain⟨g8,hg⟩:=aab w7.heap.size;rw[←hw,←hg]at F8;rw[←hw,←hg];clear hw hg;go_wp2_with fail
      with_reducible refine(aN F8.o (n:=1) (cells:=#[.s ⟨#[118,97,108,117,101,115]⟩]) [[118,97,108,117,101,115]] rfl rfl (by decide)).mono ?_
      rintro e w9 ⟨s4,(E4:Hid _),rfl,hF⟩;have F9:=aa hF;clear hF;have M8:=aa (show∀st:I.St,Rp.Inv st→(Rp.row C.text.size st).2.r.length≤st.r.length from fun st hi=>by rw[(Rp.rX (T:=C.text.size) st hi).1];exact(I.lD C.text.size st).s.length_le);go_wp2_with fail
      obtain⟨lo,hlo⟩:=aab w9.heap.size;have L9:=aa (Fl.start F9.o);rw[←hlo]at L9;have hlo1:lo≤w9.heap.size:=by omega
      have hlo2:w9.heap.size≤lo:=by omega
      have Ls:g8<lo:=L9.o.lt _ List.mem_cons_self;clear hlo;with_reducible refine(Fl.CT L9.o (oh C _ _ L9.o.q)).mono ?_
      rintro e Lo ⟨cs10,O0,s10,(UW:Hid _),rfl,PF,No,Ry⟩;have Pm:=aa Ry;clear Ry;obtain⟨NV,m10,c10,rfl⟩:=pN PF;have Sm:=No.size;have kc:=Pm.o.ab.cell 7;simp at kc;have kz:=Pm.o.ab.frozen 7;have kl:g8<Lo.heap.size:=by omega
      go_upto_region 14 with fail
      obtain⟨Lh,hw⟩:=aab ((Lo.setCell ⟨g8,7,none⟩ (.slice (some ⟨Lo.heap.size,0,none⟩) 1 1)).alloc (.cells #[.slice NV m10 c10] 27));have Rz:=aa (Ro.kS (E:=dM) (lo:=lo) (cs:=[.slice NV m10 c10]) (w1:=Lo) hw Ls (by omega) (El.hp (E:=dM) PF (fun b hb=>⟨by have:=hb.1;omega,hb.2⟩) fun _ _=>rfl));have Qu:=aa ((Pm.o.aO 7 (.slice (some ⟨Lo.heap.size,0,none⟩) 1 1) (cs':=#[.u 14,.s (I.bs n3),.e,.e,.b,.z,.z,.slice (some ⟨Lo.heap.size,0,none⟩) 1 1,.z,.z,.z,.f,.e]) rfl).tmp (.cells #[.slice NV m10 c10] 27));rw[←hw]at Qu⊢;have HF:=aa (Rp.eM (T:=C.text.size) (most:=16) (one:=(Rp.row C.text.size)) UW.o);have hln:s10.r.length≤4096:=(Pm.o.q).len;clear PF No Pm L9 hw kc kz kl;go_wp2_with fail
      go_loopg [] s10.r.length (fun gg wr=>∃(f:Nat) (xs:List (List Ev.Ex)) (s0:I.St) (A:Option Addr) (c:Nat),gg=s0.r.length∧s0.r.length<f∧xs.length+s0.r.length≤4098∧Hid (Rp.list C.text.size 16 (Rp.row C.text.size) s4=Rp.dB C.text.size 16 (Rp.row C.text.size) f xs s0)∧Hid (Ro dM wr lo (.slice A xs.length c) xs)∧Hid (Fl C.g w lo [(g8,30,#[.u 14,.s (I.bs n3),.e,.e,.b,.z,.z,.slice A xs.length c,.z,.z,.z,.f,.e]),(w.heap.size,30,#[.b,.e,.e,.e,.b,.z,.z,.z,.z,.z,.z,.f,.e])] [] (RS C s0) wr));case atStart=>exact⟨_,[O0],_,_,_,rfl,by omega,by simp;omega,HF,Rz,Qu⟩
      case round=>
       clear HF Rz Qu UW F9 Sm hln hlo1 hlo2;obtain⟨f,xs,s0,A,c,rfl,Lu,hxl,HF,HO,HL⟩:=hrel;obtain⟨NX,hw⟩:=aab wr;subst hw;have hgl:=HL.o.gl;have Oe:=HL.o.l2;have hcap:=HO.o.form;have kc:=HL.o.ab.cell 7;simp at kc;go_wp2_with fail
       with_reducible refine(jH HL.o xs.length 16 (xs.length:Int) 16 rfl rfl).mono ?_
       rintro e Nc ⟨b,Qd,hM,rfl,hL,hc21⟩;have HM:=aa hM;have KM:=aa hL;have KE:=aa (HO.o.ch hc21 hgl);clear hM hL hc21 HL kc;cases b with
       |false=>
        have HZ:=aa (HF.o.trans (Rp.eP Lu HM.o));have MU:=aa (KM.o.done KE.o);clear KM KE HO HF HM hcap;obtain⟨cz,hcz⟩:∃z:List Value,z=[.u 14,.s (I.bs n3),.e,.e,.b,.z,.z,.slice A xs.length c,.z,.z,.z,.f,.e]:=⟨_,rfl⟩;rw[←hcz]at MU;obtain⟨RS,TH,LC,OC⟩:=MU.o.Mg (k:=13) (by rw[hcz];rfl) rfl (by rw[hcz];rfl);have KN:=aa hcz;clear hcz;go_wp2_with (first|refine aU rfl rfl rfl RS.o (by kernel_rfl) (by rw[LC.o];kernel_rfl) ?_|refine wpList_store_mid rfl _ _ _ rfl _ 0 cz.toArray rfl rfl TH.o (by rw[List.size_toArray,LC.o];kernel_rfl) OC.o ?_)
        have FZ:=aa (MU.o.bS cz (by rw[LC.o];rfl));have HS:Hid (Rp.aP C.text.size st=(({I.Km.of 14 with nm:=n3,vals:=xs}:I.Km),Qd)):=by show _=_;unfold Rp.aP;rw[if_neg (by rw[MF.o];decide),if_neg (by rw[Ku.o];decide),if_neg (by rw[Lp.o];decide),if_neg (by rw[M7.o];decide),if_pos Oo.o];exact Rp.tW (T:=C.text.size) (I.next st) (n:=n3) (s1:=s3) (v:=xs) (s2:=Qd) (by rw[E2.o];exact N3.o) (by rw[E4.o];exact HZ.o)
        refine bodyPost_ret (v:=.agg cz.toArray) (results_cell_row rfl _ _ w.heap.size 30 _ (0,0) _ rfl FZ.o.ah ag rfl (by rw[List.size_toArray,LC.o];exact af)) rfl ?_;rw[HS.o];exact FZ.o.aK (cs:=cz) (El.cz KN.o (⟨_,_,_,_,_,_,rfl,Rr.nil _ _ _,Rr.nil _ _ _,FZ.o.Kx,Rr.nil _ _ _,Rr.nil _ _ _,Rr.nil _ _ _,Sz.of Z3.o,Sz.of (Nat.zero_le _),Sz.of (Nat.zero_le _),Sz.of (Nat.zero_le _)⟩))
       |true=>
        obtain⟨rfl,hacc⟩:=I.dW HM.o;have hlt:=I.bx hacc;clear hacc HO;have Py:=KM.o.l2;have kc:=KM.o.ab.cell 7;simp at kc;go_wp2_with fail
        go_region_law (first|(refine fD rfl 70 (.tmp 49) _ rfl _ (by first|rfl|simp[Act.eval]|simp[Act.eval,Act.put]) (fun w=>by simp[go_sem]) (Fl.EB KM.o (oh C _ _ KM.o.drew.q)) ?_;rintro e KO ⟨Qt,KW,Lx,LK,rfl,Lg,hc22,LH⟩;obtain⟨LU,m22,LV,rfl⟩:=pN Lg;have LD:=aa LK;have My:=aa LH;have Ob:=hc22.size;have LJ:=aa (KE.o.ch hc22 hgl);have Mn:=aa (El.hp (E:=dM) Lg (P':=In Nc.heap.size (KO.alloc (.cells #[.slice LU m22 LV] 27)).heap.size) (fun b hb=>⟨hb.1,by have:=hb.2;simp;omega⟩) (w':=KO.alloc (.cells #[.slice LU m22 LV] 27)) fun b hb=>Below.heap_alloc KO _ b hb.2);clear LK LH Lg hc22;have KK:=My.o.ab.cell 7;simp at KK;have Rw:g8<KO.heap.size:=(by omega);refine⟨_,rfl,?_⟩)|(refine fA pL rfl (.tmp 48) (.tmp 51) Tryz.underlying25 rfl lo (.slice A xs.length c) xs (by first|rfl|simp[Act.eval]|simp[Act.eval,Act.put]) (LJ.o.alloc _) KO.heap.size 1 [.slice LU m22 LV] KW (by first|rfl|simp[Act.eval]|simp[Act.eval,Act.put]) (Kn.new KO _ _) (KE.o.pow (by omega) Mn.o fun b hb=>hb) (by show(xs.length+1)*24≤140737488355328;omega) (by unfold maxLen;omega) (by simp;omega) ?_;intro v24 Mi Lj MW LI;obtain⟨Mo,c24,hv24,Ns⟩:=Lj.form;rw[List.length_append,List.length_singleton]at hv24;subst hv24;clear Ns;have Lt:=aa Lj;have Me:=aa ((My.o.tmp _).low LI);clear Lj MW LI;have LN:=Me.o.ab.cell 7;have Mt:=Me.o.ab.frozen 7;simp at LN));all_goals
         have hls:=M8.o _ KM.o.q.inv
         rw[LD.o]at hls
         simp only at hls
         have Mm:=aa (HF.o.trans (Rp.dJ Lu HM.o LD.o))
         obtain⟨Oc,hw⟩:=aab (Mi.setCell ⟨g8,7,none⟩ (.slice Mo (xs.length+1) c24))
         have NG:=aa (Me.o.aO 7 (.slice Mo (xs.length+1) c24) (cs':=#[.u 14,.s (I.bs n3),.e,.e,.b,.z,.z,.slice Mo (xs.length+1) c24,.z,.z,.z,.f,.e]) rfl)
         have MG:Hid (Ro dM Oc lo (.slice Mo (xs.length+1) c24) (xs++[KW])):=hw▸Lt.o.aR (fun b h1 _=>Below.heap_setCell Mi ⟨g8,7,none⟩ _ b (by show b≠g8;omega)) (by simp)
         rw[←hw]at NG⊢
         clear hw Me Lt My LJ Mn KM KE HM HF LD KK LN Mt kc
         go_wp2_with fail
         go_roundg Lx.r.length
         case measure=>omega
         case rel=>exact⟨f-1,xs++[KW],Lx,Mo,c24,rfl,by omega,by simp;omega,Mm,by rw[List.length_append,List.length_singleton];exact MG,by rw[List.length_append,List.length_singleton];exact NG⟩
     |false=>
      have Oo:=aa hb;have F5:Hid (Fr C.g w _ _ (RS C st) w5):=hF;clear hF hb;go_wp2_with fail
      with_reducible refine(aG ⟨#[117,112,100,97,116,101]⟩ [117,112,100,97,116,101] rfl F5.o).mono ?_
      rintro e w6 ⟨b,hb,rfl,hF⟩;cases b with
      |true=>
       have UX:=aa hb;have F6:Hid (Fr C.g w _ _ (RS C (I.next st)) w6):=hF;clear hF hb;go_wp2_with fail
       with_reducible refine(bh F6.o).mono ?_
       rintro e w7 ⟨n3,s3,(N3:Hid _),(Z3:Hid _),rfl,(F7:Hid _)⟩;go_upto_region 19 with fail
       have F8:=aa (F7.o.new 30 #[.u 15,.s (I.bs n3),.e,.e,.b,.z,.z,.z,.z,.z,.z,.f,.e]);obtain⟨w8,hw⟩:=aab (w7.alloc (.cells #[.u 15,.s (I.bs n3),.e,.e,.b,.z,.z,.z,.z,.z,.z,.f,.e] 30));obtain⟨g8,hg⟩:=aab w7.heap.size;rw[←hw,←hg]at F8;rw[←hw,←hg];clear hw hg;go_wp2_with fail
       with_reducible refine(aN F8.o (n:=1) (cells:=#[.s ⟨#[115,101,116]⟩]) [[115,101,116]] rfl rfl (by decide)).mono ?_
       rintro e w9 ⟨s4,(E4:Hid _),rfl,(F9:Hid _)⟩;have M8:=aa (show∀st:I.St,Rp.Inv st→(Rp.du C.text.size st).2.r.length≤st.r.length from fun st hi=>by rw[(Rp.tb (T:=C.text.size) st hi).1];exact(I.jI C.text.size st).s.length_le);go_wp2_with fail
       obtain⟨lo,hlo⟩:=aab w9.heap.size;have L9:=aa (Fl.start F9.o);rw[←hlo]at L9;have hlo1:lo≤w9.heap.size:=by omega
       have hlo2:w9.heap.size≤lo:=by omega
       have Ls:g8<lo:=L9.o.lt _ List.mem_cons_self;clear hlo;with_reducible refine(Fl.jw L9.o (qz C _ _ L9.o.q)).mono ?_
       rintro e Lo ⟨cs10,O0,s10,(UW:Hid _),rfl,PF,No,Ry⟩;have Pm:=aa Ry;clear Ry;obtain⟨h10,NV,m10,c10,n10,rfl⟩:=kh PF;unfold ai;have Sm:=No.size;have kc:=Pm.o.ab.cell 8;simp at kc;have kz:=Pm.o.ab.frozen 8;have kl:g8<Lo.heap.size:=by omega
       go_upto_region 21 with fail
       obtain⟨Lh,hw⟩:=aab ((Lo.setCell ⟨g8,8,none⟩ (.slice (some ⟨Lo.heap.size,0,none⟩) 1 1)).alloc (.cells #[.s n10,.u (h10.o.toNat:Int),.u (h10.v.k.toNat:Int),.i h10.v.n,.s h10.v.s,.s h10.nm,.s h10.of,.i h10.n,.slice NV m10 c10] 85));have Rz:=aa (Ro.kS (E:=dG) (lo:=lo) (cs:=[.s n10,.u (h10.o.toNat:Int),.u (h10.v.k.toNat:Int),.i h10.v.n,.s h10.v.s,.s h10.nm,.s h10.of,.i h10.n,.slice NV m10 c10]) (w1:=Lo) hw Ls (by omega) (El.hp (E:=dG) PF (fun b hb=>⟨by have:=hb.1;omega,hb.2⟩) fun _ _=>rfl));have Qu:=aa ((Pm.o.aO 8 (.slice (some ⟨Lo.heap.size,0,none⟩) 1 1) (cs':=#[.u 15,.s (I.bs n3),.e,.e,.b,.z,.z,.z,.slice (some ⟨Lo.heap.size,0,none⟩) 1 1,.z,.z,.f,.e]) rfl).tmp (.cells #[.s n10,.u (h10.o.toNat:Int),.u (h10.v.k.toNat:Int),.i h10.v.n,.s h10.v.s,.s h10.nm,.s h10.of,.i h10.n,.slice NV m10 c10] 85));rw[←hw]at Qu⊢;have HF:=aa (Rp.eM (T:=C.text.size) (most:=16) (one:=(Rp.du C.text.size)) UW.o);have hln:s10.r.length≤4096:=(Pm.o.q).len;clear PF No Pm L9 hw kc kz kl;go_wp2_with fail
       go_loopg [] s10.r.length (fun gg wr=>∃(f:Nat) (xs:List I.La) (s0:I.St) (A:Option Addr) (c:Nat),gg=s0.r.length∧s0.r.length<f∧xs.length+s0.r.length≤4098∧Hid (Rp.list C.text.size 16 (Rp.du C.text.size) s4=Rp.dB C.text.size 16 (Rp.du C.text.size) f xs s0)∧Hid (Ro dG wr lo (.slice A xs.length c) xs)∧Hid (Fl C.g w lo [(g8,30,#[.u 15,.s (I.bs n3),.e,.e,.b,.z,.z,.z,.slice A xs.length c,.z,.z,.f,.e]),(w.heap.size,30,#[.b,.e,.e,.e,.b,.z,.z,.z,.z,.z,.z,.f,.e])] [] (RS C s0) wr));case atStart=>exact⟨_,[O0],_,_,_,rfl,by omega,by simp;omega,HF,Rz,Qu⟩
       case round=>
        clear HF Rz Qu UW F9 Sm hln hlo1 hlo2;obtain⟨f,xs,s0,A,c,rfl,Lu,hxl,HF,HO,HL⟩:=hrel;obtain⟨NX,hw⟩:=aab wr;subst hw;have hgl:=HL.o.gl;have Oe:=HL.o.l2;have hcap:=HO.o.form;have kc:=HL.o.ab.cell 8;simp at kc;go_wp2_with fail
        with_reducible refine(jH HL.o xs.length 16 (xs.length:Int) 16 rfl rfl).mono ?_
        rintro e Nc ⟨b,Qd,hM,rfl,hL,hc21⟩;have HM:=aa hM;have KM:=aa hL;have KE:=aa (HO.o.ch hc21 hgl);clear hM hL hc21 HL kc;cases b with
        |false=>
         have HZ:=aa (HF.o.trans (Rp.eP Lu HM.o));have MU:=aa (KM.o.done KE.o);clear KM KE HO HF HM hcap;obtain⟨w21',hw⟩:=aab Nc;clear hw w21';go_wp2_with fail
         with_reducible refine(Fr.pH MU.o (kF C _ _ MU.o.q)).mono ?_
         rintro e KO ⟨v22,RA,Lx,LK,rfl,hF⟩;have LD:=aa LK;have ME:=aa hF;clear hF LK;obtain⟨LU,m22,LV,rfl⟩:=ar ME.o.Kx;have OH:=ME.o.ab.cell 9;simp at OH;have QZ:=ME.o.ab.frozen 9;go_upto_region 24 with fail
         have MM:=aa (ME.o.aO 9 (.slice LU m22 LV) (cs':=#[.u 15,.s (I.bs n3),.e,.e,.b,.z,.z,.z,.slice A xs.length c,.slice LU m22 LV,.z,.f,.e]) rfl);obtain⟨NM,hw⟩:=aab (KO.setCell ⟨g8,9,none⟩ (.slice LU m22 LV));rw[←hw]at MM⊢;clear hw OH QZ;obtain⟨cz,hcz⟩:∃z:List Value,z=[.u 15,.s (I.bs n3),.e,.e,.b,.z,.z,.z,.slice A xs.length c,.slice LU m22 LV,.z,.f,.e]:=⟨_,rfl⟩;rw[←hcz]at MM;obtain⟨RS,TH,LC,OC⟩:=MM.o.Mg (k:=13) (by rw[hcz];rfl) rfl (by rw[hcz];rfl);have KN:=aa hcz;clear hcz;go_wp2_with (first|refine aU rfl rfl rfl RS.o (by kernel_rfl) (by rw[LC.o];kernel_rfl) ?_|refine wpList_store_mid rfl _ _ _ rfl _ 0 cz.toArray rfl rfl TH.o (by rw[List.size_toArray,LC.o];kernel_rfl) OC.o ?_)
         have FZ:=aa (MM.o.bS cz (by rw[LC.o];rfl));have HS:Hid (Rp.aP C.text.size st=(({I.Km.of 15 with nm:=n3,bu:=xs,wh:=RA}:I.Km),Lx)):=by show _=_;unfold Rp.aP;rw[if_neg (by rw[MF.o];decide),if_neg (by rw[Ku.o];decide),if_neg (by rw[Lp.o];decide),if_neg (by rw[M7.o];decide),if_neg (by rw[Oo.o];decide),if_pos UX.o];exact Rp.uz (T:=C.text.size) (I.next st) (n:=n3) (s1:=s3) (l:=xs) (s2:=Qd) (w:=RA) (s3:=Lx) N3.o (by rw[E4.o];exact HZ.o) LD.o
         refine bodyPost_ret (v:=.agg cz.toArray) (results_cell_row rfl _ _ w.heap.size 30 _ (0,0) _ rfl FZ.o.ah ag rfl (by rw[List.size_toArray,LC.o];exact af)) rfl ?_;rw[HS.o];exact FZ.o.aK (cs:=cz) (El.cz KN.o (⟨_,_,_,_,_,_,rfl,Rr.nil _ _ _,Rr.nil _ _ _,Rr.nil _ _ _,FZ.o.Nz,FZ.o.Kx,Rr.nil _ _ _,Sz.of Z3.o,Sz.of (Nat.zero_le _),Sz.of (Nat.zero_le _),Sz.of (Nat.zero_le _)⟩))
        |true=>
         obtain⟨rfl,hacc⟩:=I.dW HM.o;have hlt:=I.bx hacc;clear hacc HO;have Py:=KM.o.l2;have kc:=KM.o.ab.cell 8;simp at kc;go_wp2_with fail
         go_region_law (first|(refine fD rfl 72 (.tmp 75) _ rfl _ (by first|rfl|simp[Act.eval]|simp[Act.eval,Act.put]) (fun w=>by simp[go_sem]) (Fl.sJ KM.o (qz C _ _ KM.o.drew.q)) ?_;rintro e KO ⟨Qt,KW,Lx,LK,rfl,Lg,hc22,LH⟩;obtain⟨h22,LU,m22,LV,n22,rfl⟩:=kh Lg;unfold ai;have LD:=aa LK;have My:=aa LH;have Ob:=hc22.size;have LJ:=aa (KE.o.ch hc22 hgl);have Mn:=aa (El.hp (E:=dG) Lg (P':=In Nc.heap.size (KO.alloc (.cells #[.s n22,.u (h22.o.toNat:Int),.u (h22.v.k.toNat:Int),.i h22.v.n,.s h22.v.s,.s h22.nm,.s h22.of,.i h22.n,.slice LU m22 LV] 85)).heap.size) (fun b hb=>⟨hb.1,by have:=hb.2;simp;omega⟩) (w':=KO.alloc (.cells #[.s n22,.u (h22.o.toNat:Int),.u (h22.v.k.toNat:Int),.i h22.v.n,.s h22.v.s,.s h22.nm,.s h22.of,.i h22.n,.slice LU m22 LV] 85)) fun b hb=>Below.heap_alloc KO _ b hb.2);clear LK LH Lg hc22;have KK:=My.o.ab.cell 8;simp at KK;have Rw:g8<KO.heap.size:=(by omega);refine⟨_,rfl,?_⟩)|(refine fA pd rfl (.tmp 74) (.tmp 77) Tryz.underlying26 rfl lo (.slice A xs.length c) xs (by first|rfl|simp[Act.eval]|simp[Act.eval,Act.put]) (LJ.o.alloc _) KO.heap.size 1 [.s n22,.u (h22.o.toNat:Int),.u (h22.v.k.toNat:Int),.i h22.v.n,.s h22.v.s,.s h22.nm,.s h22.of,.i h22.n,.slice LU m22 LV] KW (by first|rfl|simp[Act.eval]|simp[Act.eval,Act.put]) (Kn.new KO _ _) (KE.o.pow (by omega) Mn.o fun b hb=>hb) (by show(xs.length+1)*120≤140737488355328;omega) (by unfold maxLen;omega) (by simp;omega) ?_;intro v24 Mi Lj MW LI;obtain⟨Mo,c24,hv24,Ns⟩:=Lj.form;rw[List.length_append,List.length_singleton]at hv24;subst hv24;clear Ns;have Lt:=aa Lj;have Me:=aa ((My.o.tmp _).low LI);clear Lj MW LI;have LN:=Me.o.ab.cell 8;have Mt:=Me.o.ab.frozen 8;simp at LN));all_goals
          have hls:=M8.o _ KM.o.q.inv
          rw[LD.o]at hls
          simp only at hls
          have Mm:=aa (HF.o.trans (Rp.dJ Lu HM.o LD.o))
          obtain⟨Oc,hw⟩:=aab (Mi.setCell ⟨g8,8,none⟩ (.slice Mo (xs.length+1) c24))
          have NG:=aa (Me.o.aO 8 (.slice Mo (xs.length+1) c24) (cs':=#[.u 15,.s (I.bs n3),.e,.e,.b,.z,.z,.z,.slice Mo (xs.length+1) c24,.z,.z,.f,.e]) rfl)
          have MG:Hid (Ro dG Oc lo (.slice Mo (xs.length+1) c24) (xs++[KW])):=hw▸Lt.o.aR (fun b h1 _=>Below.heap_setCell Mi ⟨g8,8,none⟩ _ b (by show b≠g8;omega)) (by simp)
          rw[←hw]at NG⊢
          clear hw Me Lt My LJ Mn KM KE HM HF LD KK LN Mt kc
          go_wp2_with fail
          go_roundg Lx.r.length
          case measure=>omega
          case rel=>exact⟨f-1,xs++[KW],Lx,Mo,c24,rfl,by omega,by simp;omega,Mm,by rw[List.length_append,List.length_singleton];exact MG,by rw[List.length_append,List.length_singleton];exact NG⟩
      |false=>
       have UX:=aa hb;have F6:Hid (Fr C.g w _ _ (RS C st) w6):=hF;clear hF hb;go_wp2_with fail
       with_reducible refine(aG ⟨#[100,101,108,101,116,101]⟩ [100,101,108,101,116,101] rfl F6.o).mono ?_
       rintro e w7 ⟨b,hb,rfl,hF⟩;cases b with
       |true=>
        have RZ:=aa hb;have F7:Hid (Fr C.g w _ _ (RS C (I.next st)) w7):=hF;clear hF hb;go_wp2_with fail
        with_reducible refine(aN F7.o (n:=1) (cells:=#[.s ⟨#[102,114,111,109]⟩]) [[102,114,111,109]] rfl rfl (by decide)).mono ?_
        rintro e w8 ⟨s2,(E2:Hid _),rfl,(F8:Hid _)⟩;go_wp2_with fail
        with_reducible refine(bh F8.o).mono ?_
        rintro e w9 ⟨n3,s3,(N3:Hid _),(Z3:Hid _),rfl,(F9:Hid _)⟩;go_upto_region 28 with fail
        have KC:=aa (F9.o.new 30 #[.u 16,.s (I.bs n3),.e,.e,.b,.z,.z,.z,.z,.z,.z,.f,.e]);obtain⟨Lo,hw⟩:=aab (w9.alloc (.cells #[.u 16,.s (I.bs n3),.e,.e,.b,.z,.z,.z,.z,.z,.z,.f,.e] 30));obtain⟨g10,hg⟩:=aab w9.heap.size;rw[←hw,←hg]at KC;rw[←hw,←hg];clear hw hg;go_wp2_with fail
        with_reducible refine(Fr.pH KC.o (kF C _ _ KC.o.q)).mono ?_
        rintro e Lh ⟨v22,RA,Lx,(LD:Hid _),rfl,hF⟩;have K1:=aa hF;clear hF;obtain⟨LU,m22,LV,rfl⟩:=ar K1.o.Kx;have OH:=K1.o.ab.cell 9;simp at OH;have QZ:=K1.o.ab.frozen 9;go_upto_region 29 with fail
        have Ll:=aa (K1.o.aO 9 (.slice LU m22 LV) (cs':=#[.u 16,.s (I.bs n3),.e,.e,.b,.z,.z,.z,.z,.slice LU m22 LV,.z,.f,.e]) rfl);obtain⟨Mc,hw⟩:=aab (Lh.setCell ⟨g10,9,none⟩ (.slice LU m22 LV));rw[←hw]at Ll⊢;clear hw OH QZ;obtain⟨cz,hcz⟩:∃z:List Value,z=[.u 16,.s (I.bs n3),.e,.e,.b,.z,.z,.z,.z,.slice LU m22 LV,.z,.f,.e]:=⟨_,rfl⟩;rw[←hcz]at Ll;obtain⟨RS,TH,LC,OC⟩:=Ll.o.Mg (k:=13) (by rw[hcz];rfl) rfl (by rw[hcz];rfl);have KN:=aa hcz;clear hcz;go_wp2_with (first|refine aU rfl rfl rfl RS.o (by kernel_rfl) (by rw[LC.o];kernel_rfl) ?_|refine wpList_store_mid rfl _ _ _ rfl _ 0 cz.toArray rfl rfl TH.o (by rw[List.size_toArray,LC.o];kernel_rfl) OC.o ?_)
        have FZ:=aa (Ll.o.bS cz (by rw[LC.o];rfl));have HS:Hid (Rp.aP C.text.size st=(({I.Km.of 16 with nm:=n3,wh:=RA}:I.Km),Lx)):=by show _=_;unfold Rp.aP;rw[if_neg (by rw[MF.o];decide),if_neg (by rw[Ku.o];decide),if_neg (by rw[Lp.o];decide),if_neg (by rw[M7.o];decide),if_neg (by rw[Oo.o];decide),if_neg (by rw[UX.o];decide),if_pos RZ.o];exact Rp.ud (T:=C.text.size) (I.next st) (n:=n3) (s1:=s3) (w:=RA) (s2:=Lx) (by rw[E2.o];exact N3.o) LD.o
        refine bodyPost_ret (v:=.agg cz.toArray) (results_cell_row rfl _ _ w.heap.size 30 _ (0,0) _ rfl FZ.o.ah ag rfl (by rw[List.size_toArray,LC.o];exact af)) rfl ?_;rw[HS.o];exact FZ.o.aK (cs:=cz) (El.cz KN.o (⟨_,_,_,_,_,_,rfl,Rr.nil _ _ _,Rr.nil _ _ _,Rr.nil _ _ _,Rr.nil _ _ _,FZ.o.Kx,Rr.nil _ _ _,Sz.of Z3.o,Sz.of (Nat.zero_le _),Sz.of (Nat.zero_le _),Sz.of (Nat.zero_le _)⟩))
       |false=>
        have RZ:=aa hb;have F7:Hid (Fr C.g w _ _ (RS C st) w7):=hF;clear hF hb;go_wp2_with fail
        with_reducible refine(aG ⟨#[98,101,103,105,110]⟩ [98,101,103,105,110] rfl F7.o).mono ?_
        rintro e w8 ⟨b,hb,rfl,hF⟩;cases b with
        |true=>
         have Sa:=aa hb;have F8:Hid (Fr C.g w _ _ (RS C (I.next st)) w8):=hF;clear hF hb;have Ks:=F8.o.ab.KI;simp at Ks;obtain⟨KQ,KS,KT,K4,K5,K6,K7,K9,Ma,MC,KX,KY,KZ⟩:=F8.o.ab.LW;go_wp2_with fail
         have FZ:=aa (F8.o.gu (cC (Ch.refl _ _ _) (.inl rfl) (.u 18) .e .e .e .b .z .z .z .z .z .z .f .e) (bC F8.o.ab (.u 18) .e .e .e .b .z .z .z .z .z .z .f .e));have HS:Hid (Rp.aP C.text.size st=((I.Km.of 18:I.Km),(I.next st))):=by show _=_;unfold Rp.aP;rw[if_neg (by rw[MF.o];decide),if_neg (by rw[Ku.o];decide),if_neg (by rw[Lp.o];decide),if_neg (by rw[M7.o];decide),if_neg (by rw[Oo.o];decide),if_neg (by rw[UX.o];decide),if_neg (by rw[RZ.o];decide),if_pos Sa.o]
         refine bodyPost_ret (v:=.agg #[.u 18,.e,.e,.e,.b,.z,.z,.z,.z,.z,.z,.f,.e]) (results_cell_row rfl _ _ w.heap.size 30 _ (0,0) _ rfl FZ.o.ab ag rfl af) rfl ?_;rw[HS.o];exact FZ.o.aK (cs:=[.u 18,.e,.e,.e,.b,.z,.z,.z,.z,.z,.z,.f,.e]) (⟨_,_,_,_,_,_,rfl,Rr.nil _ _ _,Rr.nil _ _ _,Rr.nil _ _ _,Rr.nil _ _ _,Rr.nil _ _ _,Rr.nil _ _ _,Sz.of (Nat.zero_le _),Sz.of (Nat.zero_le _),Sz.of (Nat.zero_le _),Sz.of (Nat.zero_le _)⟩)
        |false=>
         have Sa:=aa hb;have F8:Hid (Fr C.g w _ _ (RS C st) w8):=hF;clear hF hb;go_wp2_with fail
         with_reducible refine(aG ⟨#[99,111,109,109,105,116]⟩ [99,111,109,109,105,116] rfl F8.o).mono ?_
         rintro e w9 ⟨b,hb,rfl,hF⟩;cases b with
         |true=>
          have Yp:=aa hb;have F9:Hid (Fr C.g w _ _ (RS C (I.next st)) w9):=hF;clear hF hb;have cj2:=F9.o.ab.KI;simp at cj2;obtain⟨KQ,KS,KT,K4,K5,K6,K7,K9,Ma,MC,KX,KY,KZ⟩:=F9.o.ab.LW;go_wp2_with fail
          have FZ:=aa (F9.o.gu (cC (Ch.refl _ _ _) (.inl rfl) (.u 19) .e .e .e .b .z .z .z .z .z .z .f .e) (bC F9.o.ab (.u 19) .e .e .e .b .z .z .z .z .z .z .f .e));have HS:Hid (Rp.aP C.text.size st=((I.Km.of 19:I.Km),(I.next st))):=by show _=_;unfold Rp.aP;rw[if_neg (by rw[MF.o];decide),if_neg (by rw[Ku.o];decide),if_neg (by rw[Lp.o];decide),if_neg (by rw[M7.o];decide),if_neg (by rw[Oo.o];decide),if_neg (by rw[UX.o];decide),if_neg (by rw[RZ.o];decide),if_neg (by rw[Sa.o];decide),if_pos Yp.o]
          refine bodyPost_ret (v:=.agg #[.u 19,.e,.e,.e,.b,.z,.z,.z,.z,.z,.z,.f,.e]) (results_cell_row rfl _ _ w.heap.size 30 _ (0,0) _ rfl FZ.o.ab ag rfl af) rfl ?_;rw[HS.o];exact FZ.o.aK (cs:=[.u 19,.e,.e,.e,.b,.z,.z,.z,.z,.z,.z,.f,.e]) (⟨_,_,_,_,_,_,rfl,Rr.nil _ _ _,Rr.nil _ _ _,Rr.nil _ _ _,Rr.nil _ _ _,Rr.nil _ _ _,Rr.nil _ _ _,Sz.of (Nat.zero_le _),Sz.of (Nat.zero_le _),Sz.of (Nat.zero_le _),Sz.of (Nat.zero_le _)⟩)
         |false=>
          have Yp:=aa hb;have F9:Hid (Fr C.g w _ _ (RS C st) w9):=hF;clear hF hb;go_wp2_with fail
          with_reducible refine(aG ⟨#[114,111,108,108,98,97,99,107]⟩ [114,111,108,108,98,97,99,107] rfl F9.o).mono ?_
          rintro e Lo ⟨b,hb,rfl,hF⟩;cases b with
          |true=>
           have Ac9:=aa hb;have KC:Hid (Fr C.g w _ _ (RS C (I.next st)) Lo):=hF;clear hF hb;have K0:=KC.o.ab.KI;simp at K0;obtain⟨KQ,KS,KT,K4,K5,K6,K7,K9,Ma,MC,KX,KY,KZ⟩:=KC.o.ab.LW;go_wp2_with fail
           have FZ:=aa (KC.o.gu (cC (Ch.refl _ _ _) (.inl rfl) (.u 20) .e .e .e .b .z .z .z .z .z .z .f .e) (bC KC.o.ab (.u 20) .e .e .e .b .z .z .z .z .z .z .f .e));have HS:Hid (Rp.aP C.text.size st=((I.Km.of 20:I.Km),(I.next st))):=by show _=_;unfold Rp.aP;rw[if_neg (by rw[MF.o];decide),if_neg (by rw[Ku.o];decide),if_neg (by rw[Lp.o];decide),if_neg (by rw[M7.o];decide),if_neg (by rw[Oo.o];decide),if_neg (by rw[UX.o];decide),if_neg (by rw[RZ.o];decide),if_neg (by rw[Sa.o];decide),if_neg (by rw[Yp.o];decide),if_pos Ac9.o]
           refine bodyPost_ret (v:=.agg #[.u 20,.e,.e,.e,.b,.z,.z,.z,.z,.z,.z,.f,.e]) (results_cell_row rfl _ _ w.heap.size 30 _ (0,0) _ rfl FZ.o.ab ag rfl af) rfl ?_;rw[HS.o];exact FZ.o.aK (cs:=[.u 20,.e,.e,.e,.b,.z,.z,.z,.z,.z,.z,.f,.e]) (⟨_,_,_,_,_,_,rfl,Rr.nil _ _ _,Rr.nil _ _ _,Rr.nil _ _ _,Rr.nil _ _ _,Rr.nil _ _ _,Rr.nil _ _ _,Sz.of (Nat.zero_le _),Sz.of (Nat.zero_le _),Sz.of (Nat.zero_le _),Sz.of (Nat.zero_le _)⟩)
          |false=>
           have Ac9:=aa hb;have KC:Hid (Fr C.g w _ _ (RS C st) Lo):=hF;clear hF hb;go_wp2_with fail
           with_reducible refine(Fr.xc KC.o (oZ C _ _ KC.o.q)).mono ?_
           rintro e Lh ⟨A1,m1,c1,A2,m2,c2,A3,m3,c3,A4,m4,c4,A5,m5,c5,x5,s5,(X5:Hid _),rfl,(K1:Hid _)⟩;have FL:=aa (K1.o.ff (E:=eB) (cs:=[.bool x5.all,.slice A1 m1 c1,.slice A2 m2 c2,.slice A3 m3 c3,.slice A4 m4 c4,.slice A5 m5 c5,.i x5.lim]) 45);have HT:=aa (FL.o.ab.there (n:=13) rfl);have Lv:=aa (show(#[.u 17,.e,.e,.e,.b,.z,.slice (some ⟨Lh.heap.size,0,none⟩) 1 1,.z,.z,.z,.z,.f,.e]:Array Value).all (·.oneCell')=true by simp[Value.oneCell']);obtain⟨wz,hw⟩:=aab ((Lh.alloc (.cells #[.bool x5.all,.slice A1 m1 c1,.slice A2 m2 c2,.slice A3 m3 c3,.slice A4 m4 c4,.slice A5 m5 c5,.i x5.lim] 45)).setCells w.heap.size 0 [.u 17,.e,.e,.e,.b,.z,.slice (some ⟨Lh.heap.size,0,none⟩) 1 1,.z,.z,.z,.z,.f,.e]);go_wp2_with (refine wpList_store_mid rfl 30 (.tmp 2) (.tmp 112) rfl w.heap.size 0 #[.u 17,.e,.e,.e,.b,.z,.slice (some ⟨Lh.heap.size,0,none⟩) 1 1,.z,.z,.z,.z,.f,.e] rfl rfl HT.o af Lv.o ?_;rw[←hw])
           have FZ:=aa (FL.o.mR [.u 17,.e,.e,.e,.b,.z,.slice (some ⟨Lh.heap.size,0,none⟩) 1 1,.z,.z,.z,.z,.f,.e] rfl);rw[←hw]at FZ;clear hw;have HS:Hid (Rp.aP C.text.size st=(({I.Km.of 17 with q:=[x5]}:I.Km),s5)):=by show _=_;unfold Rp.aP;rw[if_neg (by rw[MF.o];decide),if_neg (by rw[Ku.o];decide),if_neg (by rw[Lp.o];decide),if_neg (by rw[M7.o];decide),if_neg (by rw[Oo.o];decide),if_neg (by rw[UX.o];decide),if_neg (by rw[RZ.o];decide),if_neg (by rw[Sa.o];decide),if_neg (by rw[Yp.o];decide),if_neg (by rw[Ac9.o];decide)];exact Rp.G9 _ X5.o
           refine bodyPost_ret (v:=.agg #[.u 17,.e,.e,.e,.b,.z,.slice (some ⟨Lh.heap.size,0,none⟩) 1 1,.z,.z,.z,.z,.f,.e]) (results_cell_row rfl _ _ w.heap.size 30 _ (0,0) _ rfl FZ.o.ab ag rfl af) rfl ?_;rw[HS.o];exact FZ.o.aK (cs:=[.u 17,.e,.e,.e,.b,.z,.slice (some ⟨Lh.heap.size,0,none⟩) 1 1,.z,.z,.z,.z,.f,.e]) ⟨_,_,_,_,_,_,rfl,Rr.nil _ _ _,FZ.o.Kx,Rr.nil _ _ _,Rr.nil _ _ _,Rr.nil _ _ _,Rr.nil _ _ _,Sz.of (Nat.zero_le _),Sz.of (Nat.zero_le _),Sz.of (Nat.zero_le _),Sz.of (Nat.zero_le _)⟩
end
section
set_option maxRecDepth 100000
def MS(l:List UInt8)(i:Nat):UInt8:=(l[i]?).getD 0
theorem mN(l:List UInt8)(i:Nat)(c:UInt8)(hc:c≠0)(x:Int)(hx:x=(c.toNat:Int)):(((MS l i).toNat:Int)==x)=Lex.aZ l i c:=by
 subst hx;unfold MS Lex.aZ;rw[Bool.eq_iff_iff];simp only[beq_iff_eq,decide_eq_true_eq];cases h:l[i]? with
 |none=>simp;exact fun e=>hc (UInt8.toNat_inj.1 (by simpa using(Int.ofNat.inj e).symm))
 |some d=>simp;exact⟨fun e=>UInt8.toNat_inj.1 (by omega),fun e=>by rw[e]⟩
theorem fN(text:ByteArray)(i:Int)(at_:Nat)(w:World)(hi:i=(at_:Int)):
 Calls Tryz.prog 141 #[.s text,.i i] w fun e w'=>e=.returned (.u ((MS text.data.toList at_).toNat:Int))∧w=w':=by
 subst hi;have HL:=aa (aH text);by_cases hlt:at_<text.size
 ·obtain⟨d,hd,hs⟩:=bW hlt;have HF:Hid (MS text.data.toList at_=d):=by show _=_;unfold MS;rw[hd];rfl
  have VC:(at_:Int)<(text.size:Int):=by omega
  clear hd;go_enter Tryz.func141,Tryz.ntmps141;go_wp2;go_ret;exact⟨by rw[HF.o];rfl,rfl⟩
 ·have HF:Hid (MS text.data.toList at_=0):=by show _=_;unfold MS;rw[List.getElem?_eq_none (by rw[HL.o];omega)];rfl
  have VC:¬(at_:Int)<(text.size:Int):=by omega
  go_enter Tryz.func141,Tryz.ntmps141;go_wp2;go_ret;exact⟨by rw[HF.o];rfl,rfl⟩
def mr(c:UInt8):Nat:=if Lex.hex c=true then Lex.df c else 0
theorem sR(c:UInt8)(w:World):Calls Tryz.prog 213 #[.u (c.toNat:Int)] w fun e w'=>e=.returned (.tuple #[.u ((mr c:Nat):Int),.bool (Lex.hex c)])∧w=w':=by
 have hl:=c.toNat_lt;unfold mr Lex.df;cases hd:Lex.digit c with
 |true=>
  have H2:=aa hd;have HX:Hid (Lex.hex c=true):=by show _=_;unfold Lex.hex;rw[hd];rfl
  unfold Lex.digit at hd;rw[decide_eq_true_eq]at hd;obtain⟨hd1,hd2⟩:=hd;rw[HX.o,if_pos rfl,if_pos rfl];go_enter Tryz.func213,Tryz.ntmps213;go_wp2_with fail
  with_reducible refine(cg c _).mono ?_
  rintro e w' ⟨rfl,rfl⟩;rw[H2.o];go_wp2_with fail
  go_ret2;exact⟨by rw[show((c.toNat-48:Nat):Int)=(c.toNat:Int)-48 by omega];rfl,rfl⟩
 |false=>
  have H2:=aa hd;rw[if_neg (show¬false=true by simp)];by_cases h1:97≤c.toNat
  ·by_cases h2:c.toNat≤102
   ·have HX:Hid (Lex.hex c=true):=by show _=_;unfold Lex.hex;rw[hd];simp;omega
    rw[HX.o,if_pos rfl];clear hd;go_enter Tryz.func213,Tryz.ntmps213;go_wp2_with fail
    with_reducible refine(cg c _).mono ?_
    rintro e w' ⟨rfl,rfl⟩;rw[H2.o];go_wp2_with fail
    go_ret2;exact⟨by rw[show((c.toNat-87:Nat):Int)=(c.toNat:Int)-97+10 by omega];rfl,rfl⟩
   ·have HX:Hid (Lex.hex c=false):=by show _=_;unfold Lex.hex;rw[hd];simp;omega
    rw[HX.o,if_neg (show¬false=true by simp)];clear hd;go_enter Tryz.func213,Tryz.ntmps213;go_wp2_with fail
    with_reducible refine(cg c _).mono ?_
    rintro e w' ⟨rfl,rfl⟩;rw[H2.o];go_wp2_with fail
    go_ret2;exact⟨rfl,rfl⟩
  ·have HX:Hid (Lex.hex c=false):=by show _=_;unfold Lex.hex;rw[hd];simp;omega
   rw[HX.o,if_neg (show¬false=true by simp)];clear hd;go_enter Tryz.func213,Tryz.ntmps213;go_wp2_with fail
   with_reducible refine(cg c _).mono ?_
   rintro e w' ⟨rfl,rfl⟩;rw[H2.o];go_wp2_with fail
   go_ret2;exact⟨rfl,rfl⟩
theorem gW{c:UInt8}{r:List UInt8}(h:c.toNat≠10):Lex.skip true (c::r)=Lex.skip true r:=by simp only[Lex.skip];rw[if_neg h]
theorem oS{c:UInt8}{r:List UInt8}(h:c.toNat=10):Lex.skip true (c::r)=Lex.skip false (c::r):=by
 rw[Lex.pI];simp only[Lex.span];rw[if_neg (by simp[Lex.fi,h]),List.drop_zero]
theorem dX{c:UInt8}{r:List UInt8}(h:Lex.blank c=true):Lex.skip false (c::r)=Lex.skip false r:=by simp only[Lex.skip];rw[if_pos h]
theorem nt{c:UInt8}{r:List UInt8}(h:c.toNat=45)(h1:Lex.aZ r 0 45=true):Lex.skip false (c::r)=Lex.skip true (c::r):=by
 rw[gW (by omega)];simp only[Lex.skip];rw[if_neg (by simp[Lex.blank,h]),if_pos ⟨h,h1⟩]
theorem qO(text:ByteArray)(i0:Int)(at_:Nat)(w:World)(hi0:i0=(at_:Int))(hm:text.size+4≤9223372036854775807)(hat:at_≤text.size):
 Calls Tryz.prog 63 #[.s text,.i i0] w fun e w'=>e=.returned (.i ((Lex.bZ text.data.toList at_:Nat):Int))∧w=w':=by
 subst hi0;have HL:=aa (aH text);go_enter Tryz.func63,Tryz.ntmps63;go_wp2_with fail
 go_loopg [1] (text.size-at_) (fun g a wr=>∃k:Nat,g=text.size-k∧wr=w∧a=.i (k:Nat)∧k≤text.size∧Hid (Lex.skip false (text.data.toList.drop at_)=Lex.skip false (text.data.toList.drop k)));case atStart=>exact⟨at_,rfl,rfl,rfl,hat,rfl⟩
 case round=>
  obtain⟨k,rfl,rfl,rfl,hk,HS⟩:=hrel;by_cases hlt:k<text.size
  ·obtain⟨c,hc,hs⟩:=bW hlt;have HC:=aa (drop_at hc);have hcl:=c.toNat_lt;have Nv:(k:Int)<(text.size:Int):=by omega
   clear hc;by_cases h32:c.toNat=32
   ·have q32:((c.toNat:Int)==32)=true:=by simp;omega
    have HN:Hid (Lex.skip false (text.data.toList.drop at_)=Lex.skip false (text.data.toList.drop (k+1))):=by show _=_;rw[HS.o,HC.o,dX (by simp[Lex.blank,h32])]
    clear h32;go_wp2_with fail
    go_roundg (text.size-(k+1));case measure=>omega
    case rel=>exact⟨k+1,rfl,rfl,by go_num,by omega,HN.o⟩
   have q32:((c.toNat:Int)==32)=false:=by simp;omega
   by_cases h9:c.toNat=9
   ·have q9:((c.toNat:Int)==9)=true:=by simp;omega
    have HN:Hid (Lex.skip false (text.data.toList.drop at_)=Lex.skip false (text.data.toList.drop (k+1))):=by show _=_;rw[HS.o,HC.o,dX (by simp[Lex.blank,h9])]
    clear h32 h9;go_wp2_with fail
    go_roundg (text.size-(k+1));case measure=>omega
    case rel=>exact⟨k+1,rfl,rfl,by go_num,by omega,HN.o⟩
   have q9:((c.toNat:Int)==9)=false:=by simp;omega
   by_cases h10:c.toNat=10
   ·have RN:((c.toNat:Int)==10)=true:=by simp;omega
    have HN:Hid (Lex.skip false (text.data.toList.drop at_)=Lex.skip false (text.data.toList.drop (k+1))):=by show _=_;rw[HS.o,HC.o,dX (by simp[Lex.blank,h10])]
    clear h32 h9 h10;go_wp2_with fail
    go_roundg (text.size-(k+1));case measure=>omega
    case rel=>exact⟨k+1,rfl,rfl,by go_num,by omega,HN.o⟩
   have RN:((c.toNat:Int)==10)=false:=by simp;omega
   by_cases Yq:c.toNat=13
   ·have q13:((c.toNat:Int)==13)=true:=by simp;omega
    have HN:Hid (Lex.skip false (text.data.toList.drop at_)=Lex.skip false (text.data.toList.drop (k+1))):=by show _=_;rw[HS.o,HC.o,dX (by simp[Lex.blank,Yq])]
    clear h32 h9 h10 Yq;go_wp2_with fail
    go_roundg (text.size-(k+1));case measure=>omega
    case rel=>exact⟨k+1,rfl,rfl,by go_num,by omega,HN.o⟩
   have q13:((c.toNat:Int)==13)=false:=by simp;omega
   have VD:Hid (Lex.blank c=false):=by show _=_;simp[Lex.blank,h32,h9,h10,Yq]
   clear h32 h9 h10 Yq;by_cases h45:c.toNat=45
   ·have Yr:((c.toNat:Int)==45)=true:=by simp;omega
    obtain⟨b2,hb2⟩:=aab (Lex.aZ text.data.toList (k+1) 45);have H2:=aa hb2;have H45:=aa h45;clear hb2 h45;go_wp2_with fail
    with_reducible refine(fN text _ (k+1) _ (by omega)).mono ?_
    rintro e w' ⟨rfl,rfl⟩;obtain⟨a,ha⟩:=aab (MS text.data.toList (k+1));have qa:=mN text.data.toList (k+1) 45 (by decide) 45 rfl;rw[←ha,←H2.o]at qa;rw[←ha];clear ha;cases b2 with
    |false=>
     have HF:Hid (Lex.bZ text.data.toList at_=k):=by
      refine Lex.gI ?_ (by rw[HL.o];exact hk);rw[HS.o];refine Lex.j0 ?_ (Or.inr (by rw[Lex.bX];exact H2.o.symm));intro d hd;rw[HC.o]at hd;injection hd with hd
      rw[←hd];exact VD.o
     go_wp2_with fail
     go_ret;exact⟨gi (by rw[HF.o]),rfl⟩
    |true=>
     have HT:Hid (Lex.skip false (text.data.toList.drop at_)=Lex.skip true (text.data.toList.drop k)):=by show _=_;rw[HS.o,HC.o];exact nt H45.o (by rw[Lex.bX];exact H2.o.symm)
     have HT1:Hid (Lex.skip false (text.data.toList.drop at_)=Lex.skip true (text.data.toList.drop (k+1))):=by show _=_;rw[HT.o,HC.o];exact gW (by rw[H45.o];decide)
     go_wp2_with fail
     go_loopg [1] (text.size-k) (fun g a wz=>∃j:Nat,g=text.size-j∧wz=wr∧a=.i (j:Nat)∧k≤j∧j≤text.size∧Hid (Lex.skip false (text.data.toList.drop at_)=Lex.skip true (text.data.toList.drop j)));case atStart=>exact⟨k,rfl,rfl,rfl,Nat.le_refl _,hk,HT.o⟩
     case round=>
      obtain⟨j,rfl,rfl,rfl,hkj,hj,HJ⟩:=hrel;by_cases hltj:j<text.size
      ·obtain⟨d,hd,hsd⟩:=bW hltj;have HD:=aa (drop_at hd);have hdl:=d.toNat_lt;have hjI:(j:Int)<(text.size:Int):=by omega
       clear hd;by_cases SM:d.toNat=10
       ·have qd:((d.toNat:Int)==10)=true:=by simp;omega
        have HN:Hid (Lex.skip false (text.data.toList.drop at_)=Lex.skip false (text.data.toList.drop j)):=by show _=_;rw[HJ.o,HD.o];exact oS SM
        have hne:k<j:=by
         rcases Nat.lt_or_ge k j with h|h
         ·exact h
         ·obtain rfl:j=k:=by omega
          have h2:=HD.o;rw[HC.o]at h2;injection h2 with h2
          have h3:=H45.o;rw[h2]at h3;omega
        clear SM;go_wp2_with fail
        go_roundg (text.size-j);case measure=>omega
        case rel=>exact⟨j,rfl,rfl,rfl,by omega,HN.o⟩
       ·have qd:((d.toNat:Int)==10)=false:=by simp;omega
        have HN:Hid (Lex.skip false (text.data.toList.drop at_)=Lex.skip true (text.data.toList.drop (j+1))):=by show _=_;rw[HJ.o,HD.o];exact gW SM
        clear SM;go_wp2_with fail
        go_roundg (text.size-(j+1));case measure=>omega
        case rel=>exact⟨j+1,rfl,rfl,by go_num,by omega,by omega,HN.o⟩
      ·have hjI:¬(j:Int)<(text.size:Int):=by omega
       have hkjl:k<j:=by omega
       have HN:Hid (Lex.skip false (text.data.toList.drop at_)=Lex.skip false (text.data.toList.drop j)):=by show _=_;rw[HJ.o,List.drop_of_length_le (by rw[HL.o];omega)];rfl
       go_wp2_with fail
       go_roundg (text.size-j);case measure=>omega
       case rel=>exact⟨j,rfl,rfl,rfl,by omega,HN.o⟩
   ·have Yr:((c.toNat:Int)==45)=false:=by simp;omega
    have HF:Hid (Lex.bZ text.data.toList at_=k):=by
     refine Lex.gI ?_ (by rw[HL.o];exact hk);rw[HS.o];refine Lex.j0 ?_ (Or.inl ?_)
     ·intro d hd;rw[HC.o]at hd;injection hd with hd
      rw[←hd];exact VD.o
     ·rw[HC.o];simp[Lex.aZ];intro e;rw[e]at h45;exact h45 rfl
    clear h45;go_wp2_with fail
    go_ret;exact⟨gi (by rw[HF.o]),rfl⟩
  ·have HF:Hid (Lex.bZ text.data.toList at_=k):=by refine Lex.gI ?_ (by rw[HL.o];exact hk);rw[HS.o,List.drop_of_length_le (by rw[HL.o];omega)];rfl
   have Nv:¬(k:Int)<(text.size:Int):=by omega
   go_wp2_with fail
   go_ret;exact⟨gi (by rw[HF.o]),rfl⟩
end
end Go.Proofs.YtnicfobpclehkaaGreatDoor
