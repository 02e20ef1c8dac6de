import Derived.Test.YtnicfobpclehkaaGreatDoorP38
set_option maxHeartbeats 3200000
set_option linter.unusedVariables false
set_option linter.unusedSimpArgs false
namespace Go.Proofs.YtnicfobpclehkaaGreatDoor
open Go.RowKit
section
set_option maxRecDepth 100000
theorem Fr.xc{C:RC}{w0 w:World}{own:bO}{its:List It}{Q:World→Prop}{f:FuncId}{args:Array Value}{r:I.Kz×I.St}(F:Fr C.g w0 own its Q w)(h:Calls Tryz.prog f args w (ER eB C w r)):Calls Tryz.prog f args w fun e w'=>∃A1 m1 c1 A2 m2 c2 A3 m3 c3 A4 m4 c4 A5 m5 c5 x s,r=(x,s)∧e=.returned (.agg #[.bool x.all,.slice A1 m1 c1,.slice A2 m2 c2,.slice A3 m3 c3,.slice A4 m4 c4,.slice A5 m5 c5,.i x.lim])∧Fr C.g w0 own (It.el eB [.bool x.all,.slice A1 m1 c1,.slice A2 m2 c2,.slice A3 m3 c3,.slice A4 m4 c4,.slice A5 m5 c5,.i x.lim] x::its) (RS C s) w':=
 (F.jw h).mono fun e w' ⟨cs,x,s,h1,h2,h3⟩=>by
  obtain⟨A1,m1,c1,A2,m2,c2,A3,m3,c3,A4,m4,c4,A5,m5,c5,rfl⟩:=ql h3.Kx
  exact⟨A1,m1,c1,A2,m2,c2,A3,m3,c3,A4,m4,c4,A5,m5,c5,x,s,h1,h2,h3⟩
theorem sx(C:RC)(st:I.St)(w:World)(h:RS C st w):
 Calls Tryz.prog 65 #[.p C.g] w (ER aB C w (Rp.create C.text.size st)):=by
 have F0:=aa (Fr.start h.lt h.aJ);clear h;go_enter Tryz.func65,Tryz.ntmps65;have K8:=aa (F0.o.new 30 #[.b,.e,.e,.e,.b,.z,.z,.z,.z,.z,.z,.f,.e]);go_wp2_with fail
 with_reducible refine(aG ⟨#[116,97,98,108,101]⟩ [116,97,98,108,101] rfl K8.o).mono ?_
 rintro e w1 ⟨b,hb,rfl,hF⟩;cases b with
 |true=>
  have Ku:=aa hb;have F1:Hid (Fr C.g w _ _ (RS C (I.next st)) w1):=hF;clear hF hb;go_wp2_with fail
  with_reducible refine(bh F1.o).mono ?_
  rintro e w2 ⟨n2,s2,(N2:Hid _),(Z2:Hid _),rfl,(F2:Hid _)⟩;go_upto_region 3 with fail
  have F3:=aa (F2.o.new 30 #[.u 1,.s (I.bs n2),.e,.e,.b,.z,.z,.z,.z,.z,.z,.f,.e]);obtain⟨w3,hw⟩:=aab (w2.alloc (.cells #[.u 1,.s (I.bs n2),.e,.e,.b,.z,.z,.z,.z,.z,.z,.f,.e] 30));obtain⟨g3,hg⟩:=aab w2.heap.size;rw[←hw,←hg]at F3;rw[←hw,←hg];clear hw hg;go_wp2_with fail
  with_reducible refine(aN F3.o (n:=1) (cells:=#[.s ⟨#[40]⟩]) [[40]] rfl rfl (by decide)).mono ?_
  rintro e w4 ⟨s3,(E3:Hid _),rfl,(F4:Hid _)⟩;have M8:=aa (show∀st:I.St,Rp.Inv st→(Rp.column C.text.size st).2.r.length≤st.r.length from fun st hi=>by rw[(Rp.nT (T:=C.text.size) st hi).1];exact(I.nA C.text.size st).s.length_le);go_wp2_with fail
  obtain⟨lo,hlo⟩:=aab w4.heap.size;have L4:=aa (Fl.start F4.o);rw[←hlo]at L4;have hlo1:lo≤w4.heap.size:=by omega
  have hlo2:w4.heap.size≤lo:=by omega
  have Ls:g3<lo:=L4.o.lt _ List.mem_cons_self;clear hlo;with_reducible refine(Fl.jw L4.o (mW C _ _ L4.o.q)).mono ?_
  rintro e w5 ⟨cs5,x5,s5,(X5:Hid _),rfl,hx5,Mk,hL5⟩;have L5:=aa hL5;clear hL5;obtain⟨n5,k5,a5,b5,u5,A5,m5,c5,f5,y5,rfl⟩:=lK hx5;have hs5:=Mk.size;have kc:=L5.o.ab.cell 5;simp at kc;have kz:=L5.o.ab.frozen 5;have kl:g3<w5.heap.size:=by omega
  go_upto_region 5 with fail
  obtain⟨w6,hw⟩:=aab ((w5.setCell ⟨g3,5,none⟩ (.slice (some ⟨w5.heap.size,0,none⟩) 1 1)).alloc (.cells #[.s n5,.u k5,.bool a5,.bool b5,.bool u5,.slice A5 m5 c5,.s f5,.u y5] 40));have Vc:=aa (Ro.kS (E:=dC) (lo:=lo) (cs:=[.s n5,.u k5,.bool a5,.bool b5,.bool u5,.slice A5 m5 c5,.s f5,.u y5]) (w1:=w5) hw Ls (by omega) (El.hp (E:=dC) hx5 (fun b hb=>⟨by have:=hb.1;omega,hb.2⟩) fun _ _=>rfl));have L6:=aa ((L5.o.aO 5 (.slice (some ⟨w5.heap.size,0,none⟩) 1 1) (cs':=#[.u 1,.s (I.bs n2),.e,.e,.b,.slice (some ⟨w5.heap.size,0,none⟩) 1 1,.z,.z,.z,.z,.z,.f,.e]) rfl).tmp (.cells #[.s n5,.u k5,.bool a5,.bool b5,.bool u5,.slice A5 m5 c5,.s f5,.u y5] 40));rw[←hw]at L6⊢;have HF:=aa (Rp.eM (T:=C.text.size) (most:=12) (one:=(Rp.column C.text.size)) X5.o);have hln:s5.r.length≤4096:=(L5.o.q).len;clear hx5 Mk L5 L4 hw kc kz kl;go_wp2_with fail
  go_loopg [] s5.r.length (fun gg wr=>∃(f:Nat) (xs:List I.Ky) (s0:I.St) (A:Option Addr) (c:Nat),gg=s0.r.length∧s0.r.length<f∧xs.length+s0.r.length≤4098∧Hid (Rp.list C.text.size 12 (Rp.column C.text.size) s3=Rp.dB C.text.size 12 (Rp.column C.text.size) f xs s0)∧Hid (Ro dC wr lo (.slice A xs.length c) xs)∧Hid (Fl C.g w lo [(g3,30,#[.u 1,.s (I.bs n2),.e,.e,.b,.slice A xs.length c,.z,.z,.z,.z,.z,.f,.e]),(w.heap.size,30,#[.b,.e,.e,.e,.b,.z,.z,.z,.z,.z,.z,.f,.e])] [] (RS C s0) wr));case atStart=>exact⟨_,[x5],_,_,_,rfl,by omega,by simp;omega,HF,Vc,L6⟩
  case round=>
   clear HF Vc L6 X5 F4 hs5 hln hlo1 hlo2;obtain⟨f,xs,s0,A,c,rfl,Lu,hxl,HF,HO,HL⟩:=hrel;obtain⟨NX,hw⟩:=aab wr;subst hw;have hgl:=HL.o.gl;have Oe:=HL.o.l2;have hcap:=HO.o.form;have kc:=HL.o.ab.cell 5;simp at kc;go_wp2_with fail
   with_reducible refine(jH HL.o xs.length 12 (xs.length:Int) 12 rfl rfl).mono ?_
   rintro e Nc ⟨b,Qd,hM,rfl,hL,hc21⟩;have HM:=aa hM;have KM:=aa hL;have KE:=aa (HO.o.ch hc21 hgl);clear hM hL hc21 HL kc;cases b with
   |false=>
    have HZ:=aa (HF.o.trans (Rp.eP Lu HM.o));have MU:=aa (KM.o.done KE.o);clear KM KE HO HF HM hcap;go_wp2_with fail
    with_reducible refine(aN MU.o (n:=1) (cells:=#[.s ⟨#[41]⟩]) [[41]] rfl rfl (by decide)).mono ?_
    rintro e KO ⟨Lx,(WL:Hid _),rfl,hF⟩;have ME:=aa hF;clear hF;obtain⟨cz,hcz⟩:∃z:List Value,z=[.u 1,.s (I.bs n2),.e,.e,.b,.slice A xs.length c,.z,.z,.z,.z,.z,.f,.e]:=⟨_,rfl⟩;rw[←hcz]at ME;obtain⟨RS,TH,LC,OC⟩:=ME.o.Mg (k:=13) (by rw[hcz];rfl) rfl (by rw[hcz];rfl);have KN:=aa hcz;clear hcz;go_wp2_with (first|refine aU rfl rfl rfl RS.o (by kernel_rfl) (by rw[LC.o];kernel_rfl) ?_|refine wpList_store_mid rfl _ _ _ rfl _ 0 cz.toArray rfl rfl TH.o (by rw[List.size_toArray,LC.o];kernel_rfl) OC.o ?_)
    have FZ:=aa (ME.o.bS cz (by rw[LC.o];rfl));have HS:Hid (Rp.create C.text.size st=(({I.Km.of 1 with nm:=n2,Kv:=xs}:I.Km),Lx)):=by
     show _=_;unfold Rp.create;rw[if_pos Ku.o];have h9:Rp.list C.text.size 12 (Rp.column C.text.size) (I.expect C.text.size [[40]] s2)=(xs,Qd):=by rw[E3.o];exact HZ.o
     exact Rp.wW _ N2.o ((Rp.Cn h9).trans (by rw[WL.o]))
    refine bodyPost_ret (v:=.agg cz.toArray) (results_cell_row rfl _ _ w.heap.size 30 _ (0,0) _ rfl FZ.o.ah ag rfl (by rw[List.size_toArray,LC.o];exact af)) rfl ?_;rw[HS.o];exact FZ.o.aK (cs:=cz) (El.cz KN.o (⟨_,_,_,_,_,_,rfl,FZ.o.Kx,Rr.nil _ _ _,Rr.nil _ _ _,Rr.nil _ _ _,Rr.nil _ _ _,Rr.nil _ _ _,Sz.of Z2.o,Sz.of (Nat.zero_le _),Sz.of (Nat.zero_le _),Sz.of (Nat.zero_le _)⟩))
   |true=>
    obtain⟨rfl,hacc⟩:=I.dW HM.o;have hlt:=I.bx hacc;clear hacc HO;have Py:=KM.o.l2;have kc:=KM.o.ab.cell 5;simp at kc;go_wp2_with fail
    go_region_law (first|(refine fD rfl 146 (.tmp 29) _ rfl _ (by first|rfl|simp[Act.eval]|simp[Act.eval,Act.put]) (fun w=>by simp[go_sem]) (Fl.sJ KM.o (mW C _ _ KM.o.drew.q)) ?_;rintro e KO ⟨Qt,KW,Lx,LK,rfl,Lg,hc22,LH⟩;obtain⟨n22,k22,a22,b22,u22,LU,m22,LV,f22,y22,rfl⟩:=lK Lg;have LD:=aa LK;have My:=aa LH;have Ob:=hc22.size;have LJ:=aa (KE.o.ch hc22 hgl);have Mn:=aa (El.hp (E:=dC) Lg (P':=In Nc.heap.size (KO.alloc (.cells #[.s n22,.u k22,.bool a22,.bool b22,.bool u22,.slice LU m22 LV,.s f22,.u y22] 40)).heap.size) (fun b hb=>⟨hb.1,by have:=hb.2;simp;omega⟩) (w':=KO.alloc (.cells #[.s n22,.u k22,.bool a22,.bool b22,.bool u22,.slice LU m22 LV,.s f22,.u y22] 40)) fun b hb=>Below.heap_alloc KO _ b hb.2);clear LK LH Lg hc22;have KK:=My.o.ab.cell 5;simp at KK;have Rw:g3<KO.heap.size:=(by omega);refine⟨_,rfl,?_⟩)|(refine fA qL rfl (.tmp 28) (.tmp 31) Tryz.underlying23 rfl lo (.slice A xs.length c) xs (by first|rfl|simp[Act.eval]|simp[Act.eval,Act.put]) (LJ.o.alloc _) KO.heap.size 1 [.s n22,.u k22,.bool a22,.bool b22,.bool u22,.slice LU m22 LV,.s f22,.u y22] KW (by first|rfl|simp[Act.eval]|simp[Act.eval,Act.put]) (Kn.new KO _ _) (KE.o.pow (by omega) Mn.o fun b hb=>hb) (by show(xs.length+1)*72≤140737488355328;omega) (by unfold maxLen;omega) (by simp;omega) ?_;intro v24 Mi Lj MW LI;obtain⟨Mo,c24,hv24,Ns⟩:=Lj.form;rw[List.length_append,List.length_singleton]at hv24;subst hv24;clear Ns;have Lt:=aa Lj;have Me:=aa ((My.o.tmp _).low LI);clear Lj MW LI;have LN:=Me.o.ab.cell 5;have Mt:=Me.o.ab.frozen 5;simp at LN));all_goals
     have hls:=M8.o _ KM.o.q.inv
     rw[LD.o]at hls
     simp only at hls
     have Mm:=aa (HF.o.trans (Rp.dJ Lu HM.o LD.o))
     obtain⟨Oc,hw⟩:=aab (Mi.setCell ⟨g3,5,none⟩ (.slice Mo (xs.length+1) c24))
     have NG:=aa (Me.o.aO 5 (.slice Mo (xs.length+1) c24) (cs':=#[.u 1,.s (I.bs n2),.e,.e,.b,.slice Mo (xs.length+1) c24,.z,.z,.z,.z,.z,.f,.e]) rfl)
     have MG:Hid (Ro dC Oc lo (.slice Mo (xs.length+1) c24) (xs++[KW])):=hw▸Lt.o.aR (fun b h1 _=>Below.heap_setCell Mi ⟨g3,5,none⟩ _ b (by show b≠g3;omega)) (by simp)
     rw[←hw]at NG⊢
     clear hw Me Lt My LJ Mn KM KE HM HF LD KK LN Mt kc
     go_wp2_with fail
     go_roundg Lx.r.length
     case measure=>omega
     case rel=>exact⟨f-1,xs++[KW],Lx,Mo,c24,rfl,by omega,by simp;omega,Mm,by rw[List.length_append,List.length_singleton];exact MG,by rw[List.length_append,List.length_singleton];exact NG⟩
 |false=>
  have Ku:=aa hb;have F1:Hid (Fr C.g w _ _ (RS C st) w1):=hF;clear hF hb;go_wp2_with fail
  with_reducible refine(aG ⟨#[118,105,101,119]⟩ [118,105,101,119] rfl F1.o).mono ?_
  rintro e w2 ⟨b,hb,rfl,hF⟩;cases b with
  |true=>
   have Lp:=aa hb;have F2:Hid (Fr C.g w _ _ (RS C (I.next st)) w2):=hF;clear hF hb;go_wp2_with fail
   with_reducible refine(bh F2.o).mono ?_
   rintro e w3 ⟨n2,s2,(N2:Hid _),(Z2:Hid _),rfl,(F3:Hid _)⟩;go_upto_region 11 with fail
   have F4:=aa (F3.o.new 30 #[.u 3,.s (I.bs n2),.e,.e,.b,.z,.z,.z,.z,.z,.z,.f,.e]);obtain⟨w4,hw⟩:=aab (w3.alloc (.cells #[.u 3,.s (I.bs n2),.e,.e,.b,.z,.z,.z,.z,.z,.z,.f,.e] 30));obtain⟨g4,hg⟩:=aab w3.heap.size;rw[←hw,←hg]at F4;rw[←hw,←hg];clear hw hg;go_wp2_with fail
   with_reducible refine(aN F4.o (n:=1) (cells:=#[.s ⟨#[97,115]⟩]) [[97,115]] rfl rfl (by decide)).mono ?_
   rintro e w5 ⟨s3,(E3:Hid _),rfl,(F5:Hid _)⟩;go_wp2_with fail
   with_reducible refine(Fr.xc F5.o (oZ C _ _ F5.o.q)).mono ?_
   rintro e w6 ⟨A1,m1,c1,A2,m2,c2,A3,m3,c3,A4,m4,c4,A5,m5,c5,x5,s5,(X5:Hid _),rfl,hF⟩;have F6:=aa hF;clear hF;have Pq:=(F6.o.ab.alloc (.cells #[.bool x5.all,.slice A1 m1 c1,.slice A2 m2 c2,.slice A3 m3 c3,.slice A4 m4 c4,.slice A5 m5 c5,.i x5.lim] 45)).cell 6;have OB:=(F6.o.ab.alloc (.cells #[.bool x5.all,.slice A1 m1 c1,.slice A2 m2 c2,.slice A3 m3 c3,.slice A4 m4 c4,.slice A5 m5 c5,.i x5.lim] 45)).frozen 6;have kl:=F6.o.ab.lt;simp at Pq;go_upto_region 13 with fail
   have F7:=aa ((F6.o).gL (E:=eB) (cs:=[.bool x5.all,.slice A1 m1 c1,.slice A2 m2 c2,.slice A3 m3 c3,.slice A4 m4 c4,.slice A5 m5 c5,.i x5.lim]) 45 6 (cells':=#[.u 3,.s (I.bs n2),.e,.e,.b,.z,.slice (some ⟨w6.heap.size,0,none⟩) 1 1,.z,.z,.z,.z,.f,.e]) rfl);obtain⟨w7,hw⟩:=aab (((w6.setCell ⟨g4,6,none⟩ (.slice (some ⟨w6.heap.size,0,none⟩) 1 1)).alloc (.cells #[.bool x5.all,.slice A1 m1 c1,.slice A2 m2 c2,.slice A3 m3 c3,.slice A4 m4 c4,.slice A5 m5 c5,.i x5.lim] 45)));obtain⟨g7,hg⟩:=aab w6.heap.size;rw[←hw,←hg]at F7;rw[←hw,←hg];clear hw hg Pq OB kl;obtain⟨cz,hcz⟩:∃z:List Value,z=[.u 3,.s (I.bs n2),.e,.e,.b,.z,.slice (some ⟨g7,0,none⟩) 1 1,.z,.z,.z,.z,.f,.e]:=⟨_,rfl⟩;rw[←hcz]at F7;obtain⟨RS,TH,LC,OC⟩:=F7.o.Mg (k:=13) (by rw[hcz];rfl) rfl (by rw[hcz];rfl);have KN:=aa hcz;clear hcz;go_wp2_with (first|refine aU rfl rfl rfl RS.o (by kernel_rfl) (by rw[LC.o];kernel_rfl) ?_|refine wpList_store_mid rfl _ _ _ rfl _ 0 cz.toArray rfl rfl TH.o (by rw[List.size_toArray,LC.o];kernel_rfl) OC.o ?_)
   have FZ:=aa (F7.o.bS cz (by rw[LC.o];rfl));have HS:Hid (Rp.create C.text.size st=(({I.Km.of 3 with nm:=n2,q:=[x5]}:I.Km),s5)):=by show _=_;unfold Rp.create;rw[if_neg (by rw[Ku.o];decide),if_pos Lp.o];exact Rp.Bp _ N2.o (by rw[E3.o];exact X5.o)
   refine bodyPost_ret (v:=.agg cz.toArray) (results_cell_row rfl _ _ w.heap.size 30 _ (0,0) _ rfl FZ.o.ah ag rfl (by rw[List.size_toArray,LC.o];exact af)) rfl ?_;rw[HS.o];exact FZ.o.aK (cs:=cz) (El.cz KN.o (⟨_,_,_,_,_,_,rfl,Rr.nil _ _ _,FZ.o.Kx,Rr.nil _ _ _,Rr.nil _ _ _,Rr.nil _ _ _,Rr.nil _ _ _,Sz.of Z2.o,Sz.of (Nat.zero_le _),Sz.of (Nat.zero_le _),Sz.of (Nat.zero_le _)⟩))
  |false=>
   have Lp:=aa hb;have F2:Hid (Fr C.g w _ _ (RS C st) w2):=hF;clear hF hb;go_wp2_with fail
   with_reducible refine(aG ⟨#[116,114,105,103,103,101,114]⟩ [116,114,105,103,103,101,114] rfl F2.o).mono ?_
   rintro e w3 ⟨b,hb,rfl,hF⟩;cases b with
   |true=>
    have M7:=aa hb;have F3:Hid (Fr C.g w _ _ (RS C (I.next st)) w3):=hF;clear hF hb;go_wp2_with fail
    with_reducible refine(bh F3.o).mono ?_
    rintro e w4 ⟨n2,s2,(N2:Hid _),(Z2:Hid _),rfl,(F4:Hid _)⟩;go_upto_region 16 with fail
    have F5:=aa (F4.o.new 30 #[.u 5,.s (I.bs n2),.e,.e,.b,.z,.z,.z,.z,.z,.z,.f,.e]);obtain⟨w5,hw⟩:=aab (w4.alloc (.cells #[.u 5,.s (I.bs n2),.e,.e,.b,.z,.z,.z,.z,.z,.z,.f,.e] 30));obtain⟨g5,hg⟩:=aab w4.heap.size;rw[←hw,←hg]at F5;rw[←hw,←hg];clear hw hg;go_wp2_with fail
    with_reducible refine(aN F5.o (n:=1) (cells:=#[.s ⟨#[97,102,116,101,114]⟩]) [[97,102,116,101,114]] rfl rfl (by decide)).mono ?_
    rintro e w6 ⟨s3,(E3:Hid _),rfl,(F6:Hid _)⟩;go_wp2_with fail
    with_reducible refine(Fr.BJ F6.o (vj C _ _ F6.o.q)).mono ?_
    rintro e w7 ⟨Tq,s4,(X4:Hid _),rfl,(F7:Hid _)⟩;have O2:=F7.o.ab.cell 4;simp at O2;have Oj:=F7.o.ab.frozen 4;go_upto_region 18 with fail
    have F8:=aa (F7.o.aO 4 (.u (Tq.toNat:Int)) (cs':=#[.u 5,.s (I.bs n2),.e,.e,.u (Tq.toNat:Int),.z,.z,.z,.z,.z,.z,.f,.e]) rfl);obtain⟨w8,hw⟩:=aab (w7.setCell ⟨g5,4,none⟩ (.u (Tq.toNat:Int)));rw[←hw]at F8⊢;clear hw O2 Oj;go_wp2_with fail
    with_reducible refine(aN F8.o (n:=1) (cells:=#[.s ⟨#[111,110]⟩]) [[111,110]] rfl rfl (by decide)).mono ?_
    rintro e w9 ⟨s5,(E5:Hid _),rfl,(F9:Hid _)⟩;go_wp2_with fail
    with_reducible refine(bh F9.o).mono ?_
    rintro e Lo ⟨n6,s6,(N6:Hid _),(Z6:Hid _),rfl,(KC:Hid _)⟩;have KK:=KC.o.ab.cell 2;simp at KK;have Mb:=KC.o.ab.frozen 2;go_upto_region 20 with fail
    have K1:=aa (KC.o.aO 2 (.s (I.bs n6)) (cs':=#[.u 5,.s (I.bs n2),.s (I.bs n6),.e,.u (Tq.toNat:Int),.z,.z,.z,.z,.z,.z,.f,.e]) rfl);obtain⟨Lh,hw⟩:=aab (Lo.setCell ⟨g5,2,none⟩ (.s (I.bs n6)));rw[←hw]at K1⊢;clear hw KK Mb;go_wp2_with fail
    with_reducible refine(aN K1.o (n:=2) (cells:=#[.s ⟨#[105,110,115,101,114,116]⟩,.s ⟨#[105,110,116,111]⟩]) [[105,110,115,101,114,116],[105,110,116,111]] rfl rfl (by decide)).mono ?_
    rintro e Mc ⟨s7,(E7:Hid _),rfl,(Ll:Hid _)⟩;go_wp2_with fail
    with_reducible refine(bh Ll.o).mono ?_
    rintro e PZ ⟨n8,s8,(N8:Hid _),(Z8:Hid _),rfl,(OF:Hid _)⟩;have LN:=OF.o.ab.cell 3;simp at LN;have Mt:=OF.o.ab.frozen 3;go_upto_region 22 with fail
    have RR:=aa (OF.o.aO 3 (.s (I.bs n8)) (cs':=#[.u 5,.s (I.bs n2),.s (I.bs n6),.s (I.bs n8),.u (Tq.toNat:Int),.z,.z,.z,.z,.z,.z,.f,.e]) rfl);obtain⟨Te,hw⟩:=aab (PZ.setCell ⟨g5,3,none⟩ (.s (I.bs n8)));rw[←hw]at RR⊢;clear hw LN Mt;go_wp2_with fail
    with_reducible refine(aN RR.o (n:=1) (cells:=#[.s ⟨#[118,97,108,117,101,115]⟩]) [[118,97,108,117,101,115]] rfl rfl (by decide)).mono ?_
    rintro e QV ⟨s9,(E9:Hid _),rfl,(Rc:Hid _)⟩;go_wp2_with fail
    with_reducible refine(Fr.pH Rc.o (oh C _ _ Rc.o.q)).mono ?_
    rintro e w16 ⟨v10,xs10,s10,(UW:Hid _),rfl,hF⟩;have QE:=aa hF;clear hF;obtain⟨NV,m10,c10,rfl⟩:=ar QE.o.Kx;have NY:=(QE.o.ab.alloc (.cells #[.slice NV m10 c10] 27)).cell 7;have NK:=(QE.o.ab.alloc (.cells #[.slice NV m10 c10] 27)).frozen 7;have kl:=QE.o.ab.lt;simp at NY;go_upto_region 24 with fail
    have RU:=aa ((QE.o.G3).gL (E:=dM) (cs:=[.slice NV m10 c10]) 27 7 (cells':=#[.u 5,.s (I.bs n2),.s (I.bs n6),.s (I.bs n8),.u (Tq.toNat:Int),.z,.z,.slice (some ⟨w16.heap.size,0,none⟩) 1 1,.z,.z,.z,.f,.e]) rfl);obtain⟨Zy,hw⟩:=aab (((w16.setCell ⟨g5,7,none⟩ (.slice (some ⟨w16.heap.size,0,none⟩) 1 1)).alloc (.cells #[.slice NV m10 c10] 27)));obtain⟨g17,hg⟩:=aab w16.heap.size;rw[←hw,←hg]at RU;rw[←hw,←hg];clear hw hg NY NK kl;obtain⟨cz,hcz⟩:∃z:List Value,z=[.u 5,.s (I.bs n2),.s (I.bs n6),.s (I.bs n8),.u (Tq.toNat:Int),.z,.z,.slice (some ⟨g17,0,none⟩) 1 1,.z,.z,.z,.f,.e]:=⟨_,rfl⟩;rw[←hcz]at RU;obtain⟨RS,TH,LC,OC⟩:=RU.o.Mg (k:=13) (by rw[hcz];rfl) rfl (by rw[hcz];rfl);have KN:=aa hcz;clear hcz;go_wp2_with (first|refine aU rfl rfl rfl RS.o (by kernel_rfl) (by rw[LC.o];kernel_rfl) ?_|refine wpList_store_mid rfl _ _ _ rfl _ 0 cz.toArray rfl rfl TH.o (by rw[List.size_toArray,LC.o];kernel_rfl) OC.o ?_)
    have FZ:=aa (RU.o.bS cz (by rw[LC.o];rfl));have HS:Hid (Rp.create C.text.size st=(({I.Km.of 5 with nm:=n2,ev:=Tq,on:=n6,aF:=n8,vals:=[xs10]}:I.Km),s10)):=by show _=_;unfold Rp.create;rw[if_neg (by rw[Ku.o];decide),if_neg (by rw[Lp.o];decide),if_pos M7.o];exact Rp.pM _ N2.o (by rw[E3.o];exact X4.o) (by rw[E5.o];exact N6.o) (by rw[E7.o];exact N8.o) (by rw[E9.o];exact UW.o)
    refine bodyPost_ret (v:=.agg cz.toArray) (results_cell_row rfl _ _ w.heap.size 30 _ (0,0) _ rfl FZ.o.ah ag rfl (by rw[List.size_toArray,LC.o];exact af)) rfl ?_;rw[HS.o];exact FZ.o.aK (cs:=cz) (El.cz KN.o (⟨_,_,_,_,_,_,rfl,Rr.nil _ _ _,Rr.nil _ _ _,FZ.o.Kx,Rr.nil _ _ _,Rr.nil _ _ _,Rr.nil _ _ _,Sz.of Z2.o,Sz.of Z6.o,Sz.of Z8.o,Sz.of (Nat.zero_le _)⟩))
   |false=>
    have M7:=aa hb;have F3:Hid (Fr C.g w _ _ (RS C st) w3):=hF;clear hF hb;go_wp2_with fail
    with_reducible refine(aG ⟨#[112,111,108,105,99,121]⟩ [112,111,108,105,99,121] rfl F3.o).mono ?_
    rintro e w4 ⟨b,hb,rfl,hF⟩;cases b with
    |true=>
     have Oo:=aa hb;have F4:Hid (Fr C.g w _ _ (RS C (I.next st)) w4):=hF;clear hF hb;go_wp2_with fail
     with_reducible refine(bh F4.o).mono ?_
     rintro e w5 ⟨n2,s2,(N2:Hid _),(Z2:Hid _),rfl,(F5:Hid _)⟩;go_upto_region 27 with fail
     have F6:=aa (F5.o.new 30 #[.u 7,.s (I.bs n2),.e,.e,.b,.z,.z,.z,.z,.z,.z,.f,.e]);obtain⟨w6,hw⟩:=aab (w5.alloc (.cells #[.u 7,.s (I.bs n2),.e,.e,.b,.z,.z,.z,.z,.z,.z,.f,.e] 30));obtain⟨g6,hg⟩:=aab w5.heap.size;rw[←hw,←hg]at F6;rw[←hw,←hg];clear hw hg;go_wp2_with fail
     with_reducible refine(aN F6.o (n:=1) (cells:=#[.s ⟨#[111,110]⟩]) [[111,110]] rfl rfl (by decide)).mono ?_
     rintro e w7 ⟨s3,(E3:Hid _),rfl,(F7:Hid _)⟩;go_wp2_with fail
     with_reducible refine(bh F7.o).mono ?_
     rintro e w8 ⟨n4,s4,(N4:Hid _),(Z4:Hid _),rfl,(F8:Hid _)⟩;have KK:=F8.o.ab.cell 2;simp at KK;have Mb:=F8.o.ab.frozen 2;go_upto_region 29 with fail
     have F9:=aa (F8.o.aO 2 (.s (I.bs n4)) (cs':=#[.u 7,.s (I.bs n2),.s (I.bs n4),.e,.b,.z,.z,.z,.z,.z,.z,.f,.e]) rfl);obtain⟨w9,hw⟩:=aab (w8.setCell ⟨g6,2,none⟩ (.s (I.bs n4)));rw[←hw]at F9⊢;clear hw KK Mb;go_wp2_with fail
     with_reducible refine(aN F9.o (n:=1) (cells:=#[.s ⟨#[116,111]⟩]) [[116,111]] rfl rfl (by decide)).mono ?_
     rintro e Lo ⟨s5,(E5:Hid _),rfl,(KC:Hid _)⟩;go_wp2_with fail
     with_reducible refine(bh KC.o).mono ?_
     rintro e Lh ⟨n6,s6,(N6:Hid _),(Z6:Hid _),rfl,(K1:Hid _)⟩;have LN:=K1.o.ab.cell 3;simp at LN;have Mt:=K1.o.ab.frozen 3;go_upto_region 31 with fail
     have Ll:=aa (K1.o.aO 3 (.s (I.bs n6)) (cs':=#[.u 7,.s (I.bs n2),.s (I.bs n4),.s (I.bs n6),.b,.z,.z,.z,.z,.z,.z,.f,.e]) rfl);obtain⟨Mc,hw⟩:=aab (Lh.setCell ⟨g6,3,none⟩ (.s (I.bs n6)));rw[←hw]at Ll⊢;clear hw LN Mt;go_wp2_with fail
     with_reducible refine(aN Ll.o (n:=2) (cells:=#[.s ⟨#[117,115,105,110,103]⟩,.s ⟨#[40]⟩]) [[117,115,105,110,103],[40]] rfl rfl (by decide)).mono ?_
     rintro e PZ ⟨s7,(E7:Hid _),rfl,(OF:Hid _)⟩;go_wp2_with fail
     with_reducible refine(Fr.jD OF.o (dw C _ _ OF.o.q)).mono ?_
     rintro e Te ⟨h8,A8,m8,c8,x8,s8,(X8:Hid _),rfl,(RR:Hid _)⟩;have OH:=(RR.o.ab.alloc (.cells #[.u (h8.o.toNat:Int),.u (h8.v.k.toNat:Int),.i h8.v.n,.s h8.v.s,.s h8.nm,.s h8.of,.i h8.n,.slice A8 m8 c8] 50)).cell 9;have QZ:=(RR.o.ab.alloc (.cells #[.u (h8.o.toNat:Int),.u (h8.v.k.toNat:Int),.i h8.v.n,.s h8.v.s,.s h8.nm,.s h8.of,.i h8.n,.slice A8 m8 c8] 50)).frozen 9;have kl:=RR.o.ab.lt;simp at OH;go_upto_region 33 with fail
     have Rc:=aa ((RR.o).gL (E:=Kr) (cs:=[.u (h8.o.toNat:Int),.u (h8.v.k.toNat:Int),.i h8.v.n,.s h8.v.s,.s h8.nm,.s h8.of,.i h8.n,.slice A8 m8 c8]) 50 9 (cells':=#[.u 7,.s (I.bs n2),.s (I.bs n4),.s (I.bs n6),.b,.z,.z,.z,.z,.slice (some ⟨Te.heap.size,0,none⟩) 1 1,.z,.f,.e]) rfl);obtain⟨QV,hw⟩:=aab (((Te.setCell ⟨g6,9,none⟩ (.slice (some ⟨Te.heap.size,0,none⟩) 1 1)).alloc (.cells #[.u (h8.o.toNat:Int),.u (h8.v.k.toNat:Int),.i h8.v.n,.s h8.v.s,.s h8.nm,.s h8.of,.i h8.n,.slice A8 m8 c8] 50)));obtain⟨g15,hg⟩:=aab Te.heap.size;rw[←hw,←hg]at Rc;rw[←hw,←hg];clear hw hg OH QZ kl;go_wp2_with fail
     with_reducible refine(aN Rc.o (n:=1) (cells:=#[.s ⟨#[41]⟩]) [[41]] rfl rfl (by decide)).mono ?_
     rintro e w16 ⟨s9,(E9:Hid _),rfl,hF⟩;have QE:=aa hF;clear hF;obtain⟨cz,hcz⟩:∃z:List Value,z=[.u 7,.s (I.bs n2),.s (I.bs n4),.s (I.bs n6),.b,.z,.z,.z,.z,.slice (some ⟨g15,0,none⟩) 1 1,.z,.f,.e]:=⟨_,rfl⟩;rw[←hcz]at QE;obtain⟨RS,TH,LC,OC⟩:=QE.o.Mg (k:=13) (by rw[hcz];rfl) rfl (by rw[hcz];rfl);have KN:=aa hcz;clear hcz;go_wp2_with (first|refine aU rfl rfl rfl RS.o (by kernel_rfl) (by rw[LC.o];kernel_rfl) ?_|refine wpList_store_mid rfl _ _ _ rfl _ 0 cz.toArray rfl rfl TH.o (by rw[List.size_toArray,LC.o];kernel_rfl) OC.o ?_)
     have FZ:=aa (QE.o.bS cz (by rw[LC.o];rfl));have HS:Hid (Rp.create C.text.size st=(({I.Km.of 7 with nm:=n2,on:=n4,aF:=n6,wh:=[x8]}:I.Km),s9)):=by show _=_;unfold Rp.create;rw[if_neg (by rw[Ku.o];decide),if_neg (by rw[Lp.o];decide),if_neg (by rw[M7.o];decide),if_pos Oo.o];exact(Rp.sU (T:=C.text.size) (I.next st) (n:=n2) (s1:=s2) (on:=n4) (s2:=s4) (tt:=n6) (s3:=s6) (e:=x8) (s4:=s8) N2.o (by rw[E3.o];exact N4.o) (by rw[E5.o];exact N6.o) (by rw[E7.o];exact X8.o)).trans (by rw[E9.o])
     refine bodyPost_ret (v:=.agg cz.toArray) (results_cell_row rfl _ _ w.heap.size 30 _ (0,0) _ rfl FZ.o.ah ag rfl (by rw[List.size_toArray,LC.o];exact af)) rfl ?_;rw[HS.o];exact FZ.o.aK (cs:=cz) (El.cz KN.o (⟨_,_,_,_,_,_,rfl,Rr.nil _ _ _,Rr.nil _ _ _,Rr.nil _ _ _,Rr.nil _ _ _,FZ.o.Kx,Rr.nil _ _ _,Sz.of Z2.o,Sz.of Z4.o,Sz.of Z6.o,Sz.of (Nat.zero_le _)⟩))
    |false=>
     have Oo:=aa hb;have F4:Hid (Fr C.g w _ _ (RS C st) w4):=hF;clear hF hb;go_wp2_with fail
     with_reducible refine(aN F4.o (n:=1) (cells:=#[.s ⟨#[114,111,108,101]⟩]) [[114,111,108,101]] rfl rfl (by decide)).mono ?_
     rintro e w5 ⟨s5,(E5:Hid _),rfl,(F5:Hid _)⟩;go_wp2_with fail
     with_reducible refine(bh F5.o).mono ?_
     rintro e w6 ⟨n6,s6,(N6:Hid _),(Z6:Hid _),rfl,(F6:Hid _)⟩;go_upto_region 37 with fail
     have F7:=aa (F6.o.new 30 #[.u 9,.s (I.bs n6),.e,.e,.b,.z,.z,.z,.z,.z,.z,.f,.e]);obtain⟨w7,hw⟩:=aab (w6.alloc (.cells #[.u 9,.s (I.bs n6),.e,.e,.b,.z,.z,.z,.z,.z,.z,.f,.e] 30));obtain⟨g7,hg⟩:=aab w6.heap.size;rw[←hw,←hg]at F7;rw[←hw,←hg];clear hw hg;go_wp2_with fail
     with_reducible refine(aG ⟨#[107,101,121]⟩ [107,101,121] rfl F7.o).mono ?_
     rintro e w8 ⟨b,hb,rfl,hF⟩;cases b with
     |true=>
      have Sa:=aa hb;have F8:Hid (Fr C.g w _ _ (RS C (I.next s6)) w8):=hF;clear hF hb;have HT:=aa (I.mn (I.next s6));have HP:=aa F8.o.q;go_wp2_with fail
      with_reducible refine(gZ F8.o).mono ?_
      rintro e w9 ⟨t8,hT8,rfl,(F9:Hid _)⟩;have T8:=aa hT8;clear hT8;obtain⟨tk,tx,ta⟩:=t8;unfold gd;simp only;have hkd:I.au (I.next s6)=tk:=by rw[HT.o.1,T8.o]
      have hsd:I.Mv (I.next s6)=tx:=by rw[HT.o.2,T8.o]
      have O9:=aa hkd;have UJ:=aa hsd;clear hkd hsd;go_upto_region 39 with fail
      have KC:=aa (F9.o.new 113 #[.u (tk.toNat:Int),.s ⟨tx.toArray⟩,.i (ta:Int)]);obtain⟨Lo,hw⟩:=aab (w9.alloc (.cells #[.u (tk.toNat:Int),.s ⟨tx.toArray⟩,.i (ta:Int)] 113));obtain⟨g10,hg⟩:=aab w9.heap.size;rw[←hw,←hg]at KC;rw[←hw,←hg];clear hw hg;have Ks:=KC.o.ab.Y3;simp at Ks;by_cases h3:tk=3
      ·have k2:((tk.toNat:Int) !=3)=false:=by rw[h3];decide
       have Nf:Hid ((I.next s6).r≠[]):=by show _≠_;intro e;have q1:=O9.o;unfold I.au at q1;rw[e,h3]at q1;exact absurd q1 (by decide)
       have HLen:Hid (tx.length≤4096):=by
        show _≤_;have q2:=UJ.o;unfold I.Mv at q2;cases hr:(I.next s6).r with
        |nil=>exact absurd hr Nf.o
        |cons t r=>
         rw[hr]at q2;have:=(HP.o.tok hr).2.1;rw[←q2];exact this
       have RE:Hid (I.au (I.next s6)=3):=by show _=_;rw[O9.o,h3]
       obtain⟨pk,hpk,hpz,hpl⟩:=KC.o.q.cell;have hb0:=(KC.o.own _ List.mem_cons_self).1;have hbl:=KC.o.lt;simp only at hb0;have n1:¬C.g=g10:=by omega
       have n2:¬g10=C.g:=by omega
       clear hb0 hbl h3;go_upto_region 43 with fail
       have K1:=aa (KC.o.fj Nf.o hpk);obtain⟨Lh,hw⟩:=aab (Lo.setCell ⟨C.g,1,none⟩ (.i ((pk:Int)+1)));rw[←hw]at K1⊢;clear hw hpk hpz hpl n1 n2 Ks;have e1:=K1.o.ab.cell 1;simp at e1;have QX:=K1.o.ah.cell 12;simp at QX;have Ug:=K1.o.ah.frozen 12;go_upto_region 44 with fail
       have Ll:=aa (K1.o.iq 12 (.s ⟨tx.toArray⟩) (cs':=#[.u 9,.s (I.bs n6),.e,.e,.b,.z,.z,.z,.z,.z,.z,.f,.s ⟨tx.toArray⟩]) rfl);obtain⟨Mc,hw⟩:=aab (Lh.setCell ⟨g7,12,none⟩ (.s ⟨tx.toArray⟩));rw[←hw]at Ll⊢;clear hw QX Ug;clear e1;have OF:=aa Ll.o.swap;obtain⟨PZ,hw⟩:=aab Mc;subst hw;have cj2:=OF.o.ab.KI;simp at cj2;have K0:=OF.o.aS.KI;simp at K0;obtain⟨KQ,KS,KT,K4,K5,K6,K7,K9,Ma,MC,KX,KY,KZ⟩:=OF.o.aS.LW;go_wp2_with fail
       have FZ:=aa (OF.o.lq (cC (Ch.refl _ _ _) (.inl rfl) (.u 9) (.s (I.bs n6)) .e .e .b .z .z .z .z .z .z .f (.s ⟨tx.toArray⟩)) (bC OF.o.aS (.u 9) (.s (I.bs n6)) .e .e .b .z .z .z .z .z .z .f (.s ⟨tx.toArray⟩)));have HS:Hid (Rp.create C.text.size st=(({I.Km.of 9 with nm:=n6,key:=tx}:I.Km),(I.next (I.next s6)))):=by show _=_;unfold Rp.create;rw[if_neg (by rw[Ku.o];decide),if_neg (by rw[Lp.o];decide),if_neg (by rw[M7.o];decide),if_neg (by rw[Oo.o];decide)];rw[E5.o];unfold I.role;rw[N6.o];simp only[Sa.o,if_true,RE.o,UJ.o]
       refine bodyPost_ret (v:=.agg #[.u 9,.s (I.bs n6),.e,.e,.b,.z,.z,.z,.z,.z,.z,.f,.s ⟨tx.toArray⟩]) (results_cell_row rfl _ _ w.heap.size 30 _ (0,0) _ rfl FZ.o.aS ag rfl af) rfl ?_;rw[HS.o];exact FZ.o.aK (cs:=[.u 9,.s (I.bs n6),.e,.e,.b,.z,.z,.z,.z,.z,.z,.f,.s ⟨tx.toArray⟩]) (⟨_,_,_,_,_,_,rfl,Rr.nil _ _ _,Rr.nil _ _ _,Rr.nil _ _ _,Rr.nil _ _ _,Rr.nil _ _ _,Rr.nil _ _ _,Sz.of Z6.o,Sz.of (Nat.zero_le _),Sz.of (Nat.zero_le _),Sz.of HLen.o⟩)
      ·have k2:((tk.toNat:Int) !=3)=true:=iz (b:=3) h3;have RE:Hid (I.au (I.next s6)≠3):=by show _≠_;rw[O9.o];exact h3
       clear h3;go_wp2_with fail
       with_reducible refine(dh KC.o).mono ?_
       rintro e Lh ⟨s9,(E9:Hid _),rfl,hF⟩;have K1:=aa hF;clear hF;clear Ks;have Ll:=aa K1.o.swap;obtain⟨Mc,hw⟩:=aab Lh;subst hw;have Le:=Ll.o.ab.KI;simp at Le;have Ly:=Ll.o.aS.KI;simp at Ly;obtain⟨KQ,KS,KT,K4,K5,K6,K7,K9,Ma,MC,KX,KY,KZ⟩:=Ll.o.aS.LW;go_wp2_with fail
       have FZ:=aa (Ll.o.lq (cC (Ch.refl _ _ _) (.inl rfl) (.u 9) (.s (I.bs n6)) .e .e .b .z .z .z .z .z .z .f .e) (bC Ll.o.aS (.u 9) (.s (I.bs n6)) .e .e .b .z .z .z .z .z .z .f .e));have HS:Hid (Rp.create C.text.size st=(({I.Km.of 9 with nm:=n6}:I.Km),s9)):=by show _=_;unfold Rp.create;rw[if_neg (by rw[Ku.o];decide),if_neg (by rw[Lp.o];decide),if_neg (by rw[M7.o];decide),if_neg (by rw[Oo.o];decide)];rw[E5.o];unfold I.role;rw[N6.o];simp only[Sa.o,if_true,if_neg RE.o,E9.o]
       refine bodyPost_ret (v:=.agg #[.u 9,.s (I.bs n6),.e,.e,.b,.z,.z,.z,.z,.z,.z,.f,.e]) (results_cell_row rfl _ _ w.heap.size 30 _ (0,0) _ rfl FZ.o.aS ag rfl af) rfl ?_;rw[HS.o];exact FZ.o.aK (cs:=[.u 9,.s (I.bs n6),.e,.e,.b,.z,.z,.z,.z,.z,.z,.f,.e]) (⟨_,_,_,_,_,_,rfl,Rr.nil _ _ _,Rr.nil _ _ _,Rr.nil _ _ _,Rr.nil _ _ _,Rr.nil _ _ _,Rr.nil _ _ _,Sz.of Z6.o,Sz.of (Nat.zero_le _),Sz.of (Nat.zero_le _),Sz.of (Nat.zero_le _)⟩)
     |false=>
      have Sa:=aa hb;have F8:Hid (Fr C.g w _ _ (RS C s6) w8):=hF;clear hF hb;obtain⟨cz,hcz⟩:∃z:List Value,z=[.u 9,.s (I.bs n6),.e,.e,.b,.z,.z,.z,.z,.z,.z,.f,.e]:=⟨_,rfl⟩;rw[←hcz]at F8;obtain⟨RS,TH,LC,OC⟩:=F8.o.Mg (k:=13) (by rw[hcz];rfl) rfl (by rw[hcz];rfl);have KN:=aa hcz;clear hcz;go_wp2_with (first|refine aU rfl rfl rfl RS.o (by kernel_rfl) (by rw[LC.o];kernel_rfl) ?_|refine wpList_store_mid rfl _ _ _ rfl _ 0 cz.toArray rfl rfl TH.o (by rw[List.size_toArray,LC.o];kernel_rfl) OC.o ?_)
      have FZ:=aa (F8.o.bS cz (by rw[LC.o];rfl));have HS:Hid (Rp.create C.text.size st=(({I.Km.of 9 with nm:=n6}:I.Km),s6)):=by show _=_;unfold Rp.create;rw[if_neg (by rw[Ku.o];decide),if_neg (by rw[Lp.o];decide),if_neg (by rw[M7.o];decide),if_neg (by rw[Oo.o];decide)];rw[E5.o];unfold I.role;rw[N6.o];simp only[Sa.o,Bool.false_eq_true,if_false]
      refine bodyPost_ret (v:=.agg cz.toArray) (results_cell_row rfl _ _ w.heap.size 30 _ (0,0) _ rfl FZ.o.ah ag rfl (by rw[List.size_toArray,LC.o];exact af)) rfl ?_;rw[HS.o];exact FZ.o.aK (cs:=cz) (El.cz KN.o (⟨_,_,_,_,_,_,rfl,Rr.nil _ _ _,Rr.nil _ _ _,Rr.nil _ _ _,Rr.nil _ _ _,Rr.nil _ _ _,Rr.nil _ _ _,Sz.of Z6.o,Sz.of (Nat.zero_le _),Sz.of (Nat.zero_le _),Sz.of (Nat.zero_le _)⟩))
end
end Go.Proofs.YtnicfobpclehkaaGreatDoor
