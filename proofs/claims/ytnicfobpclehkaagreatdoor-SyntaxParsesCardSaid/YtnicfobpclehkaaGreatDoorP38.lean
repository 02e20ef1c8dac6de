import Derived.Test.YtnicfobpclehkaaGreatDoorP37
set_option maxHeartbeats 3200000
set_option linter.unusedVariables false
set_option linter.unusedSimpArgs false
namespace Go.Proofs.YtnicfobpclehkaaGreatDoor
open Go.RowKit
section
set_option maxRecDepth 100000
def og(C:RC)(w:World)(gq:Nat)(T:I.Kz×I.St)(wx:World):Prop:=∃A1 m1 c1 A2 m2 c2 A3 m3 c3 A4 m4 c4 A5 m5 c5,Fr C.g w [(gq,45,nr T.1 (.slice A1 m1 c1) (.slice A2 m2 c2) (.slice A3 m3 c3) (.slice A4 m4 c4) (.slice A5 m5 c5)),(w.heap.size,45,#[.f,.z,.z,.z,.z,.z,.o])] [It.rr cS (.slice A1 m1 c1) T.1.its,It.rr bV (.slice A2 m2 c2) T.1.fr,It.rr Kr (.slice A3 m3 c3) T.1.wh,It.rr Kr (.slice A4 m4 c4) T.1.gr,It.rr dx (.slice A5 m5 c5) T.1.od] (RS C T.2) wx∧ -9223372036854775808≤T.1.lim∧T.1.lim≤9223372036854775807
theorem tJ{w:World}{P:Nat→Prop}{cs:List Value}{x:I.Src}(h:bV.R w P cs x):∃(n a:ByteArray) (A:Option Addr) (m c:Nat),cs=[.s n,.s a,.slice A m c]:=by
 obtain⟨v,rfl,hv,_⟩:=h;obtain⟨A,c,rfl,_⟩:=hv;exact⟨_,_,_,_,_,rfl⟩
theorem Fr.it6{g:Nat}{w0 w:World}{own:bO}{its:List It}{Q:World→Prop}{F G K L M N O:It}(h:Fr g w0 own (G::K::L::M::N::O::F::its) Q w):F.P w (fq w0.heap.size own w):=h.its F (by simp)
theorem Rp.lT{T f:Nat}{l:List I.Src}{st:I.St}(hf:st.r.length<f)(ha:I.ae [106,111,105,110] st=false):Rp.aI T f l st=(l,st):=by
 obtain⟨f,rfl⟩:∃k,f=k+1:=⟨f-1,by omega⟩;rw[Rp.tw,if_neg (by rw[ha];decide)]
theorem Rp.kU{T f:Nat}{l:List I.Src}{st s0 s1 s2 s3:I.St}{a:I.Src}{b:Ev.Ex}(hf:st.r.length<f)(ha:I.ae [106,111,105,110] st=true)(h0:I.bM T (l.length-1) 16 (I.next st)=s0)(h:I.source T s0=(a,s1))(h1:I.expect T [[111,110]] s1=s2)(h2:Rp.expr T s2=(b,s3)):Rp.aI T f l st=Rp.aI T (f-1) (l++[{a with on:=[b]}]) s3:=by
 obtain⟨f,rfl⟩:∃k,f=k+1:=⟨f-1,by omega⟩;subst h0;subst h1;rw[Rp.xO f l st h h2,if_pos ha];rfl
theorem I.zh(T n most:Nat)(st:I.St):(I.bM T n most st).r.length≤st.r.length:=by
 unfold I.bM;split
 ·exact I.dt T 3 st
 ·exact Nat.le_refl _
theorem Rp.pj(T:Nat)(st:I.St):0≤(Rp.bA T st).1∧(Rp.bA T st).1≤9223372036854775807:=by
 have h:=rI (I.Mv st);unfold Rp.bA;split
 ·split
  ·exact h
  ·exact⟨Int.le_refl _,by show(0:Int)≤9223372036854775807;decide⟩
 ·exact⟨Int.le_refl _,by show(0:Int)≤9223372036854775807;decide⟩
theorem IC{C:RC}{w0 w:World}{own:bO}{its:List It}{st:I.St}(F:Fr C.g w0 own its (RS C st) w)(n most:Nat)(x y:Int)(hx:x=(n:Int))(hy:y=(most:Int)):Calls Tryz.prog 152 #[.p C.g,.i x,.i y] w fun e w'=>∃s,I.bM C.text.size n most st=s∧e=.returned (.tuple #[])∧Fr C.g w0 own its (RS C s) w':=by
 subst hx hy;exact(uv C n most st w F.q).mono fun _ _ ⟨h1,h2,h3⟩=>⟨_,rfl,h1,F.call h2.aJ h3⟩
theorem oZ(C:RC)(st:I.St)(w:World)(h:RS C st w):
 Calls Tryz.prog 74 #[.p C.g] w (ER eB C w (Rp.query C.text.size st)):=by
 have F0:=aa (Fr.start h.lt h.aJ);clear h;go_enter Tryz.func74,Tryz.ntmps74;have F1:=aa (F0.o.new 45 #[.f,.z,.z,.z,.z,.z,.o]);obtain⟨w1,hw⟩:=aab (w.alloc (.cells #[.f,.z,.z,.z,.z,.z,.o] 45));go_upto_region 1 with fail
 rw[←hw]at F1⊢;clear hw;go_upto_region 2 with fail
 have F2:=aa (F1.o.new 45 #[.f,.z,.z,.z,.z,.z,.i (-1)]);obtain⟨w2,hw⟩:=aab (w1.alloc (.cells #[.f,.z,.z,.z,.z,.z,.i (-1)] 45));obtain⟨g2,hg⟩:=aab w1.heap.size;rw[←hw,←hg]at F2;rw[←hw,←hg];clear hw hg;go_wp2_with fail
 with_reducible refine(aN F2.o (n:=1) (cells:=#[.s ⟨#[115,101,108,101,99,116]⟩]) [[115,101,108,101,99,116]] rfl rfl (by decide)).mono ?_
 rintro e w3 ⟨s3,(E3:Hid _),rfl,(F3:Hid _)⟩;go_wp2_with fail
 with_reducible refine(aG ⟨#[42]⟩ [42] rfl F3.o).mono ?_
 rintro e wS ⟨b,hb,rfl,hF⟩;have FS:=aa hF;have HB:=aa hb;clear hF hb;have OG:=FS.o.ab.cell 0;simp at OG;have Qk:=FS.o.ab.frozen 0;go_upto_region 4 with fail
 have F4:=aa (FS.o.aO 0 (.bool b) (cs':=#[.bool b,.z,.z,.z,.z,.z,.i (-1)]) rfl);obtain⟨w4,hw⟩:=aab (wS.setCell ⟨g2,0,none⟩ (.bool b));rw[←hw]at F4⊢;clear hw OG Qk FS F3;have OG:=F4.o.ab.cell 0;simp at OG;go_upto_if 14 with fail
 clear OG;go_cut [] (fun wx=>Hid (og C w g2 (Rp.cO C.text.size s3) wx));case first=>
  cases b with
  |true=>
   have F5:Hid (Fr C.g w _ _ (RS C (I.next s3)) w4):=F4.o;go_wp2_with fail
   go_meet;have e:Rp.cO C.text.size s3=(⟨true,[],[],[],[],[],-1⟩,I.next s3):=by unfold Rp.cO;rw[if_pos HB.o]
   rw[e];exact⟨none,0,0,none,0,0,none,0,0,none,0,0,none,0,0,F5.o.fs (Rr.nil _ _ _) (Rr.nil _ _ _) (Rr.nil _ _ _) (Rr.nil _ _ _) (Rr.nil _ _ _),by show(-9223372036854775808:Int)≤ -1;decide,by show(-1:Int)≤9223372036854775807;decide⟩
  |false=>
   obtain⟨w5,hw⟩:=aab w4;subst hw;have F5:Hid (Fr C.g w _ _ (RS C s3) w5):=F4.o;clear F4;have Rn:Hid (Fr C.g w [(g2,45,#[.f,.z,.z,.z,.z,.z,.i (-1)]),(w.heap.size,45,#[.f,.z,.z,.z,.z,.z,.o])] [] (RS C s3) w5):=F5.o.only fun F hF=>absurd hF (by simp)
   clear F5;have F5:=Rn;clear Rn;have M8:=aa (show∀st:I.St,Rp.Inv st→(Rp.item C.text.size st).2.r.length≤st.r.length from fun st hi=>by rw[(Rp.sH (T:=C.text.size) st hi).1];exact(I.lC C.text.size st).s.length_le);go_wp2_with fail
   obtain⟨lo,hlo⟩:=aab w5.heap.size;have L5:=aa (Fl.start F5.o);rw[←hlo]at L5;have hlo1:lo≤w5.heap.size:=by omega
   have hlo2:w5.heap.size≤lo:=by omega
   have Ls:g2<lo:=L5.o.lt _ List.mem_cons_self;clear hlo;with_reducible refine(Fl.jw L5.o (qN C _ _ L5.o.q)).mono ?_
   rintro e w6 ⟨XF,x6,s6,(X6:Hid _),rfl,hx6,hc6,hL6⟩;have L6:=aa hL6;clear hL6;obtain⟨h6,A6,m6,c6,n6,rfl⟩:=lr hx6;unfold ai;have hs6:=hc6.size;have kc:=L6.o.ab.cell 1;simp at kc;have kz:=L6.o.ab.frozen 1;have kl:g2<w6.heap.size:=by omega
   go_upto_region 6 with fail
   obtain⟨w7,hw⟩:=aab ((w6.setCell ⟨g2,1,none⟩ (.slice (some ⟨w6.heap.size,0,none⟩) 1 1)).alloc (.cells #[.u (h6.o.toNat:Int),.u (h6.v.k.toNat:Int),.i h6.v.n,.s h6.v.s,.s h6.nm,.s h6.of,.i h6.n,.slice A6 m6 c6,.s n6] 130));have XI:=aa (Ro.kS (E:=cS) (lo:=lo) (cs:=[.u (h6.o.toNat:Int),.u (h6.v.k.toNat:Int),.i h6.v.n,.s h6.v.s,.s h6.nm,.s h6.of,.i h6.n,.slice A6 m6 c6,.s n6]) (w1:=w6) hw Ls (by omega) (El.hp (E:=cS) hx6 (fun b hb=>⟨by have:=hb.1;omega,hb.2⟩) fun _ _=>rfl));have L7:=aa ((L6.o.aO 1 (.slice (some ⟨w6.heap.size,0,none⟩) 1 1) (cs':=#[.f,.slice (some ⟨w6.heap.size,0,none⟩) 1 1,.z,.z,.z,.z,.i (-1)]) rfl).tmp (.cells #[.u (h6.o.toNat:Int),.u (h6.v.k.toNat:Int),.i h6.v.n,.s h6.v.s,.s h6.nm,.s h6.of,.i h6.n,.slice A6 m6 c6,.s n6] 130));rw[←hw]at L7⊢;have HF:=aa (Rp.eM (T:=C.text.size) (most:=16) (one:=(Rp.item C.text.size)) X6.o);have hln:s6.r.length≤4096:=(L6.o.q).len;clear hx6 hc6 L6 L5 hw kc kz kl;go_wp2_with fail
   go_loopg [] s6.r.length (fun gg wr=>∃(f:Nat) (xs:List I.LL) (s0:I.St) (A:Option Addr) (c:Nat),gg=s0.r.length∧s0.r.length<f∧xs.length+s0.r.length≤4098∧Hid (Rp.list C.text.size 16 (Rp.item C.text.size) s3=Rp.dB C.text.size 16 (Rp.item C.text.size) f xs s0)∧Hid (Ro cS wr lo (.slice A xs.length c) xs)∧Hid (Fl C.g w lo [(g2,45,#[.f,.slice A xs.length c,.z,.z,.z,.z,.i (-1)]),(w.heap.size,45,#[.f,.z,.z,.z,.z,.z,.o])] [] (RS C s0) wr));case atStart=>exact⟨_,[x6],_,_,_,rfl,by omega,by simp;omega,HF,XI,L7⟩
   case round=>
    clear HF XI L7 X6 F5 hs6 hln hlo1 hlo2;obtain⟨f,xs,s0,A,c,rfl,Lu,hxl,HF,HO,HL⟩:=hrel;obtain⟨NX,hw⟩:=aab wr;subst hw;have hgl:=HL.o.gl;have Oe:=HL.o.l2;have hcap:=HO.o.form;have kc:=HL.o.ab.cell 1;simp at kc;go_wp2_with fail
    with_reducible refine(jH HL.o xs.length 16 (xs.length:Int) 16 rfl rfl).mono ?_
    rintro e Nc ⟨b,Qd,hM,rfl,hL,hc21⟩;have HM:=aa hM;have KM:=aa hL;have KE:=aa (HO.o.ch hc21 hgl);clear hM hL hc21 HL kc;cases b with
    |false=>
     have HZ:=aa (HF.o.trans (Rp.eP Lu HM.o));have MU:=aa (KM.o.done KE.o);clear KM KE HO HF HM hcap;go_wp2_with fail
     go_meet;have e:Rp.cO C.text.size s3=(⟨false,xs,[],[],[],[],-1⟩,Qd):=by rw[Rp.BC s3 HZ.o,if_neg (by rw[HB.o];decide)]
     rw[e];exact⟨A,_,c,none,0,0,none,0,0,none,0,0,none,0,0,MU.o.fs MU.o.Kx (Rr.nil _ _ _) (Rr.nil _ _ _) (Rr.nil _ _ _) (Rr.nil _ _ _),by show(-9223372036854775808:Int)≤ -1;decide,by show(-1:Int)≤9223372036854775807;decide⟩
    |true=>
     obtain⟨rfl,hacc⟩:=I.dW HM.o;have hlt:=I.bx hacc;clear hacc HO;have Py:=KM.o.l2;have kc:=KM.o.ab.cell 1;simp at kc;go_wp2_with fail
     go_region_law (first|(refine fD rfl 153 (.tmp 26) _ rfl _ (by first|rfl|simp[Act.eval]|simp[Act.eval,Act.put]) (fun w=>by simp[go_sem]) (Fl.sJ KM.o (qN C _ _ KM.o.drew.q)) ?_;rintro e KO ⟨Qt,KW,Lx,LK,rfl,Lg,hc22,LH⟩;obtain⟨h22,LU,m22,LV,n22,rfl⟩:=lr Lg;unfold ai;have LD:=aa LK;have My:=aa LH;have Ob:=hc22.size;have LJ:=aa (KE.o.ch hc22 hgl);have Mn:=aa (El.hp (E:=cS) Lg (P':=In Nc.heap.size (KO.alloc (.cells #[.u (h22.o.toNat:Int),.u (h22.v.k.toNat:Int),.i h22.v.n,.s h22.v.s,.s h22.nm,.s h22.of,.i h22.n,.slice LU m22 LV,.s n22] 130)).heap.size) (fun b hb=>⟨hb.1,by have:=hb.2;simp;omega⟩) (w':=KO.alloc (.cells #[.u (h22.o.toNat:Int),.u (h22.v.k.toNat:Int),.i h22.v.n,.s h22.v.s,.s h22.nm,.s h22.of,.i h22.n,.slice LU m22 LV,.s n22] 130)) fun b hb=>Below.heap_alloc KO _ b hb.2);clear LK LH Lg hc22;have KK:=My.o.ab.cell 1;simp at KK;have Rw:g2<KO.heap.size:=(by omega);refine⟨_,rfl,?_⟩)|(refine fA qw rfl (.tmp 25) (.tmp 28) Tryz.underlying41 rfl lo (.slice A xs.length c) xs (by first|rfl|simp[Act.eval]|simp[Act.eval,Act.put]) (LJ.o.alloc _) KO.heap.size 1 [.u (h22.o.toNat:Int),.u (h22.v.k.toNat:Int),.i h22.v.n,.s h22.v.s,.s h22.nm,.s h22.of,.i h22.n,.slice LU m22 LV,.s n22] KW (by first|rfl|simp[Act.eval]|simp[Act.eval,Act.put]) (Kn.new KO _ _) (KE.o.pow (by omega) Mn.o fun b hb=>hb) (by show(xs.length+1)*120≤140737488355328;omega) (by unfold maxLen;omega) (by simp;omega) ?_;intro v24 Mi Lj MW LI;obtain⟨Mo,c24,hv24,Ns⟩:=Lj.form;rw[List.length_append,List.length_singleton]at hv24;subst hv24;clear Ns;have Lt:=aa Lj;have Me:=aa ((My.o.tmp _).low LI);clear Lj MW LI;have LN:=Me.o.ab.cell 1;have Mt:=Me.o.ab.frozen 1;simp at LN));all_goals
      have hls:=M8.o _ KM.o.q.inv
      rw[LD.o]at hls
      simp only at hls
      have Mm:=aa (HF.o.trans (Rp.dJ Lu HM.o LD.o))
      obtain⟨Oc,hw⟩:=aab (Mi.setCell ⟨g2,1,none⟩ (.slice Mo (xs.length+1) c24))
      have NG:=aa (Me.o.aO 1 (.slice Mo (xs.length+1) c24) (cs':=#[.f,.slice Mo (xs.length+1) c24,.z,.z,.z,.z,.i (-1)]) rfl)
      have MG:Hid (Ro cS Oc lo (.slice Mo (xs.length+1) c24) (xs++[KW])):=hw▸Lt.o.aR (fun b h1 _=>Below.heap_setCell Mi ⟨g2,1,none⟩ _ b (by show b≠g2;omega)) (by simp)
      rw[←hw]at NG⊢
      clear hw Me Lt My LJ Mn KM KE HM HF LD KK LN Mt kc
      go_wp2_with fail
      go_roundg Lx.r.length
      case measure=>omega
      case rel=>exact⟨f-1,xs++[KW],Lx,Mo,c24,rfl,by omega,by simp;omega,Mm,by rw[List.length_append,List.length_singleton];exact MG,by rw[List.length_append,List.length_singleton];exact NG⟩
 case rest=>
  clear HB F4;obtain⟨q0,hq⟩:=aab (Rp.cO C.text.size s3);obtain⟨KU,Nb⟩:=q0;rw[←hq]at hcut;have RQ:=aa hq;obtain⟨Lo,hw⟩:=aab wc;subst hw;have HC:=aa hcut.o;clear hq hcut;obtain⟨A1,m1,c1,A2,m2,c2,A3,m3,c3,A4,m4,c4,A5,m5,c5,(KC:Hid _),hl1,hl2⟩:=HC.o;have Mw:=aa hl1;have Mx:=aa hl2;clear hl1 hl2 HC;unfold nr at KC;go_wp2_with fail
  with_reducible refine(aN KC.o (n:=1) (cells:=#[.s ⟨#[102,114,111,109]⟩]) [[102,114,111,109]] rfl rfl (by decide)).mono ?_
  rintro e Lh ⟨s11,(Un:Hid _),rfl,(K1:Hid _)⟩;have M8:=aa (show∀st:I.St,Rp.Inv st→(Rp.expr C.text.size st).2.r.length≤st.r.length from fun st hi=>((Rp.rZ (T:=C.text.size)).aF hi).1);go_wp2_with fail
  obtain⟨lo,hlo⟩:=aab Lh.heap.size;have Qu:=aa (Fl.start K1.o);rw[←hlo]at Qu;have hlo1:lo≤Lh.heap.size:=by omega
  have hlo2:Lh.heap.size≤lo:=by omega
  have Ls:g2<lo:=Qu.o.lt _ List.mem_cons_self;clear hlo;with_reducible refine(Fl.jw Qu.o (nh C _ _ Qu.o.q)).mono ?_
  rintro e Mc ⟨cs12,Ml,s12,(WE:Hid _),rfl,UT,Xl,Xm⟩;have Xn:=aa Xm;clear Xm;obtain⟨ns,al0,As,ms,cz,rfl⟩:=tJ UT;have Uo:=Xl.size;have kc:=Xn.o.ab.cell 2;simp at kc;have kz:=Xn.o.ab.frozen 2;have kl:g2<Mc.heap.size:=by omega
  go_upto_region 10 with fail
  obtain⟨PZ,hw⟩:=aab ((Mc.setCell ⟨g2,2,none⟩ (.slice (some ⟨Mc.heap.size,0,none⟩) 1 1)).alloc (.cells #[.s ns,.s al0,.slice As ms cz] 132));have Xo:=aa (Ro.kS (E:=bV) (lo:=lo) (cs:=[.s ns,.s al0,.slice As ms cz]) (w1:=Mc) hw Ls (by omega) (El.hp (E:=bV) UT (fun b hb=>⟨by have:=hb.1;omega,hb.2⟩) fun _ _=>rfl));have L13:=aa ((Xn.o.aO 2 (.slice (some ⟨Mc.heap.size,0,none⟩) 1 1) (cs':=#[.bool KU.all,.slice A1 m1 c1,.slice (some ⟨Mc.heap.size,0,none⟩) 1 1,.slice A3 m3 c3,.slice A4 m4 c4,.slice A5 m5 c5,.i KU.lim]) rfl).tmp (.cells #[.s ns,.s al0,.slice As ms cz] 132));rw[←hw]at L13⊢;have hln:s12.r.length≤4096:=(Xn.o.q).len;clear UT Xl Xn Qu hw kc kz kl;go_wp2_with fail
  have HF:Hid (Rp.aI C.text.size (s12.r.length+1) [Ml] s12=Rp.aI C.text.size (s12.r.length+1) [Ml] s12):=rfl;go_loopg [] s12.r.length (fun gg wr=>∃(f:Nat) (xs:List I.Src) (s0:I.St) (A:Option Addr) (c:Nat),gg=s0.r.length∧s0.r.length<f∧1≤xs.length∧xs.length+s0.r.length≤4098∧Hid (Rp.aI C.text.size (s12.r.length+1) [Ml] s12=Rp.aI C.text.size f xs s0)∧Hid (Ro bV wr lo (.slice A xs.length c) xs)∧Hid (Fl C.g w lo [(g2,45,#[.bool KU.all,.slice A1 m1 c1,.slice A xs.length c,.slice A3 m3 c3,.slice A4 m4 c4,.slice A5 m5 c5,.i KU.lim]),(w.heap.size,45,#[.f,.z,.z,.z,.z,.z,.o])] [It.rr cS (.slice A1 m1 c1) KU.its,It.rr bV (.slice A2 m2 c2) KU.fr,It.rr Kr (.slice A3 m3 c3) KU.wh,It.rr Kr (.slice A4 m4 c4) KU.gr,It.rr dx (.slice A5 m5 c5) KU.od] (RS C s0) wr));case atStart=>exact⟨_,[Ml],_,_,_,rfl,by omega,by simp,by simp;omega,HF,Xo,L13⟩
  case round=>
   clear HF Xo L13 K1 Uo hln hlo1 hlo2 KC;obtain⟨f,xs,s0,A,c,rfl,Lu,hx0,hxl,HF,HO,HL⟩:=hrel;obtain⟨NX,hw⟩:=aab wr;subst hw;have hgl:=HL.o.gl;have Oe:=HL.o.l2;have WC:C.g<NX.heap.size:=by omega
   have FI:=aa (Fr.start (g:=C.g) WC HL.o.fr.ps);clear WC;go_wp2_with fail
   with_reducible refine(aG ⟨#[106,111,105,110]⟩ [106,111,105,110] rfl FI.o).mono ?_
   rintro e Nc ⟨b,hb,rfl,hF⟩;have HB:=aa hb;cases b with
   |false=>
    have HZ:=aa (HF.o.trans (Rp.lT Lu HB.o));have ME:=aa ((HL.o.call (Q':=RS C s0) hF.ps hF.ch).done (HO.o.ch hF.ch hgl));clear hF hb HL HF HO FI HB hx0 hxl Lu hgl Oe;obtain⟨KO,hw⟩:=aab Nc;subst hw;go_wp2_with fail
    with_reducible refine(Fr.pH ME.o (kF C _ _ ME.o.q)).mono ?_
    rintro e NM ⟨v23,Ur,NZ,(Ti:Hid _),rfl,(MM:Hid _)⟩;obtain⟨QD,m23,c23,rfl⟩:=ar MM.o.Kx;have LN:=MM.o.ab.cell 3;simp at LN;have Mt:=MM.o.ab.frozen 3;go_upto_region 17 with fail
    have Nd:=aa (MM.o.aO 3 (.slice QD m23 c23) (cs':=#[.bool KU.all,.slice A1 m1 c1,.slice A xs.length c,.slice QD m23 c23,.slice A4 m4 c4,.slice A5 m5 c5,.i KU.lim]) rfl);obtain⟨Mi,hw⟩:=aab (NM.setCell ⟨g2,3,none⟩ (.slice QD m23 c23));rw[←hw]at Nd⊢;clear hw LN Mt;obtain⟨Mq,hq2⟩:∃q:I.Kz,q={KU with fr:=xs,wh:=Ur}:=⟨_,rfl⟩;have HC:Hid (og C w g2 (Mq,NZ) Mi):=⟨A1,m1,c1,A,xs.length,c,QD,m23,c23,A4,m4,c4,A5,m5,c5,by rw[hq2];exact Nd.o.fs Nd.o.PN Nd.o.Nz Nd.o.Kx Nd.o.XU Nd.o.it6,by rw[hq2];exact Mw.o,by rw[hq2];exact Mx.o⟩;have HSF:=aa (Rp.DA KU Nb (by rw[Un.o];exact WE.o) HZ.o Ti.o);rw[←hq2]at HSF;clear hq2 ME MM Nd Mw Mx HZ Ti WE Un M8 Ls;obtain⟨A1,m1,c1,A2,m2,c2,A3,m3,c3,A4,m4,c4,A5,m5,c5,(Nq:Hid _),hl1,hl2⟩:=HC.o;have Mw:=aa hl1;have Mx:=aa hl2;clear hl1 hl2 HC;unfold nr at Nq;go_wp2_with fail
    with_reducible refine(aG ⟨#[103,114,111,117,112]⟩ [103,114,111,117,112] rfl Nq.o).mono ?_
    rintro e Su ⟨b,hb,rfl,hF⟩;have FB:=aa hF;have Lm:=aa hb;clear hF hb Nq;go_upto_if 65 with fail
    go_cut [] (fun wx=>Hid (og C w g2 (Rp.dH C.text.size Mq NZ) wx));case first=>
     cases b with
     |true=>
      obtain⟨Ln,hw⟩:=aab Su;subst hw;have Lc:Hid (Fr C.g w _ _ (RS C (I.next NZ)) Ln):=FB.o;clear FB;go_wp2_with fail
      with_reducible refine(aN Lc.o (n:=1) (cells:=#[.s ⟨#[98,121]⟩]) [[98,121]] rfl rfl (by decide)).mono ?_
      rintro e LP ⟨LB,(MD:Hid _),rfl,(KD:Hid _)⟩;have M8:=aa (show∀st:I.St,Rp.Inv st→(Rp.expr C.text.size st).2.r.length≤st.r.length from fun st hi=>((Rp.rZ (T:=C.text.size)).aF hi).1);go_wp2_with fail
      obtain⟨lo,hlo⟩:=aab LP.heap.size;have Nt:=aa (Fl.start KD.o);rw[←hlo]at Nt;have hlo1:lo≤LP.heap.size:=by omega
      have hlo2:LP.heap.size≤lo:=by omega
      have Ls:g2<lo:=Nt.o.lt _ List.mem_cons_self;clear hlo;with_reducible refine(Fl.jw Nt.o (dw C _ _ Nt.o.q)).mono ?_
      rintro e LF ⟨Xp,x102,N0,(Oa:Hid _),rfl,hx102,hc102,OQ⟩;have Nu:=aa OQ;clear OQ;obtain⟨KG,PA,PC,PD,ks102,rfl,Xq⟩:=aV hx102;clear Xq;unfold ai;have Rx:=hc102.size;have kc:=Nu.o.ab.cell 4;simp at kc;have kz:=Nu.o.ab.frozen 4;have kl:g2<LF.heap.size:=by omega
      go_upto_region 20 with fail
      obtain⟨Um,hw⟩:=aab ((LF.setCell ⟨g2,4,none⟩ (.slice (some ⟨LF.heap.size,0,none⟩) 1 1)).alloc (.cells #[.u (KG.o.toNat:Int),.u (KG.v.k.toNat:Int),.i KG.v.n,.s KG.v.s,.s KG.nm,.s KG.of,.i KG.n,.slice PA PC PD] 50));have OR:=aa (Ro.kS (E:=Kr) (lo:=lo) (cs:=[.u (KG.o.toNat:Int),.u (KG.v.k.toNat:Int),.i KG.v.n,.s KG.v.s,.s KG.nm,.s KG.of,.i KG.n,.slice PA PC PD]) (w1:=LF) hw Ls (by omega) (El.hp (E:=Kr) hx102 (fun b hb=>⟨by have:=hb.1;omega,hb.2⟩) fun _ _=>rfl));have PE:=aa ((Nu.o.aO 4 (.slice (some ⟨LF.heap.size,0,none⟩) 1 1) (cs':=#[.bool Mq.all,.slice A1 m1 c1,.slice A2 m2 c2,.slice A3 m3 c3,.slice (some ⟨LF.heap.size,0,none⟩) 1 1,.slice A5 m5 c5,.i Mq.lim]) rfl).tmp (.cells #[.u (KG.o.toNat:Int),.u (KG.v.k.toNat:Int),.i KG.v.n,.s KG.v.s,.s KG.nm,.s KG.of,.i KG.n,.slice PA PC PD] 50));rw[←hw]at PE⊢;have HF:=aa (Rp.eM (T:=C.text.size) (most:=16) (one:=(Rp.expr C.text.size)) Oa.o);have hln:N0.r.length≤4096:=(Nu.o.q).len;clear hx102 hc102 Nu Nt hw kc kz kl;go_wp2_with fail
      go_loopg [] N0.r.length (fun gg wr=>∃(f:Nat) (xs:List Ev.Ex) (s0:I.St) (A:Option Addr) (c:Nat),gg=s0.r.length∧s0.r.length<f∧xs.length+s0.r.length≤4098∧Hid (Rp.list C.text.size 16 (Rp.expr C.text.size) LB=Rp.dB C.text.size 16 (Rp.expr C.text.size) f xs s0)∧Hid (Ro Kr wr lo (.slice A xs.length c) xs)∧Hid (Fl C.g w lo [(g2,45,#[.bool Mq.all,.slice A1 m1 c1,.slice A2 m2 c2,.slice A3 m3 c3,.slice A xs.length c,.slice A5 m5 c5,.i Mq.lim]),(w.heap.size,45,#[.f,.z,.z,.z,.z,.z,.o])] [It.rr cS (.slice A1 m1 c1) Mq.its,It.rr bV (.slice A2 m2 c2) Mq.fr,It.rr Kr (.slice A3 m3 c3) Mq.wh,It.rr Kr (.slice A4 m4 c4) Mq.gr,It.rr dx (.slice A5 m5 c5) Mq.od] (RS C s0) wr));case atStart=>exact⟨_,[x102],_,_,_,rfl,by omega,by simp;omega,HF,OR,PE⟩
      case round=>
       clear HF OR PE Oa KD Rx hln hlo1 hlo2;obtain⟨f,xs,s0,A,c,rfl,Lu,hxl,HF,HO,HL⟩:=hrel;obtain⟨NX,hw⟩:=aab wr;subst hw;have hgl:=HL.o.gl;have Oe:=HL.o.l2;have hcap:=HO.o.form;have kc:=HL.o.ab.cell 4;simp at kc;go_wp2_with fail
       with_reducible refine(jH HL.o xs.length 16 (xs.length:Int) 16 rfl rfl).mono ?_
       rintro e Nc ⟨b,Qd,hM,rfl,hL,hc21⟩;have HM:=aa hM;have KM:=aa hL;have KE:=aa (HO.o.ch hc21 hgl);clear hM hL hc21 HL kc;cases b with
       |false=>
        have HZ:=aa (HF.o.trans (Rp.eP Lu HM.o));have MU:=aa (KM.o.done KE.o);clear KM KE HO HF HM hcap;go_wp2_with fail
        go_meet;have e:Rp.dH C.text.size Mq NZ=({Mq with gr:=xs},Qd):=by unfold Rp.dH;rw[if_pos Lm.o,MD.o,HZ.o]
        rw[e];have FM:=MU.o;exact⟨A1,m1,c1,A2,m2,c2,A3,m3,c3,A,xs.length,c,A5,m5,c5,FM.fs FM.Nz FM.PN FM.RP FM.Kx FM.XU,Mw.o,Mx.o⟩
       |true=>
        obtain⟨rfl,hacc⟩:=I.dW HM.o;have hlt:=I.bx hacc;clear hacc HO;have Py:=KM.o.l2;have kc:=KM.o.ab.cell 4;simp at kc;go_wp2_with fail
        go_region_law (first|(refine fD rfl 148 (.tmp 80) _ rfl _ (by first|rfl|simp[Act.eval]|simp[Act.eval,Act.put]) (fun w=>by simp[go_sem]) (Fl.sJ KM.o (dw C _ _ KM.o.drew.q)) ?_;rintro e KO ⟨Qt,KW,Lx,LK,rfl,Lg,hc22,LH⟩;obtain⟨h22,LU,m22,LV,ks22,rfl,UK⟩:=aV Lg;clear UK;unfold ai;have LD:=aa LK;have My:=aa LH;have Ob:=hc22.size;have LJ:=aa (KE.o.ch hc22 hgl);have Mn:=aa (El.hp (E:=Kr) Lg (P':=In Nc.heap.size (KO.alloc (.cells #[.u (h22.o.toNat:Int),.u (h22.v.k.toNat:Int),.i h22.v.n,.s h22.v.s,.s h22.nm,.s h22.of,.i h22.n,.slice LU m22 LV] 50)).heap.size) (fun b hb=>⟨hb.1,by have:=hb.2;simp;omega⟩) (w':=KO.alloc (.cells #[.u (h22.o.toNat:Int),.u (h22.v.k.toNat:Int),.i h22.v.n,.s h22.v.s,.s h22.nm,.s h22.of,.i h22.n,.slice LU m22 LV] 50)) fun b hb=>Below.heap_alloc KO _ b hb.2);clear LK LH Lg hc22;have KK:=My.o.ab.cell 4;simp at KK;have Rw:g2<KO.heap.size:=(by omega);refine⟨_,rfl,?_⟩)|(refine fA re rfl (.tmp 79) (.tmp 82) Tryz.underlying27 rfl lo (.slice A xs.length c) xs (by first|rfl|simp[Act.eval]|simp[Act.eval,Act.put]) (LJ.o.alloc _) KO.heap.size 1 [.u (h22.o.toNat:Int),.u (h22.v.k.toNat:Int),.i h22.v.n,.s h22.v.s,.s h22.nm,.s h22.of,.i h22.n,.slice LU m22 LV] KW (by first|rfl|simp[Act.eval]|simp[Act.eval,Act.put]) (Kn.new KO _ _) (KE.o.pow (by omega) Mn.o fun b hb=>hb) (by show(xs.length+1)*104≤140737488355328;omega) (by unfold maxLen;omega) (by simp;omega) ?_;intro v24 Mi Lj MW LI;obtain⟨Mo,c24,hv24,Ns⟩:=Lj.form;rw[List.length_append,List.length_singleton]at hv24;subst hv24;clear Ns;have Lt:=aa Lj;have Me:=aa ((My.o.tmp _).low LI);clear Lj MW LI;have LN:=Me.o.ab.cell 4;have Mt:=Me.o.ab.frozen 4;simp at LN));all_goals
         have hls:=M8.o _ KM.o.q.inv
         rw[LD.o]at hls
         simp only at hls
         have Mm:=aa (HF.o.trans (Rp.dJ Lu HM.o LD.o))
         obtain⟨Oc,hw⟩:=aab (Mi.setCell ⟨g2,4,none⟩ (.slice Mo (xs.length+1) c24))
         have NG:=aa (Me.o.aO 4 (.slice Mo (xs.length+1) c24) (cs':=#[.bool Mq.all,.slice A1 m1 c1,.slice A2 m2 c2,.slice A3 m3 c3,.slice Mo (xs.length+1) c24,.slice A5 m5 c5,.i Mq.lim]) rfl)
         have MG:Hid (Ro Kr Oc lo (.slice Mo (xs.length+1) c24) (xs++[KW])):=hw▸Lt.o.aR (fun b h1 _=>Below.heap_setCell Mi ⟨g2,4,none⟩ _ b (by show b≠g2;omega)) (by simp)
         rw[←hw]at NG⊢
         clear hw Me Lt My LJ Mn KM KE HM HF LD KK LN Mt kc
         go_wp2_with fail
         go_roundg Lx.r.length
         case measure=>omega
         case rel=>exact⟨f-1,xs++[KW],Lx,Mo,c24,rfl,by omega,by simp;omega,Mm,by rw[List.length_append,List.length_singleton];exact MG,by rw[List.length_append,List.length_singleton];exact NG⟩
     |false=>
      have FC:Hid (Fr C.g w _ _ (RS C NZ) Su):=FB.o;clear FB;go_wp2_with fail
      go_meet;have e:Rp.dH C.text.size Mq NZ=(Mq,NZ):=by unfold Rp.dH;rw[if_neg (by rw[Lm.o];decide)]
      rw[e];exact⟨A1,m1,c1,A2,m2,c2,A3,m3,c3,A4,m4,c4,A5,m5,c5,FC.o,Mw.o,Mx.o⟩
    case rest=>
     clear FB Mw Mx Lm;obtain⟨q3,hq⟩:=aab (Rp.dH C.text.size Mq NZ);obtain⟨Lk,LQ⟩:=q3;rw[←hq]at hcut;have Uk:=aa hq;obtain⟨wr3,hw⟩:=aab wc;subst hw;have HC:=aa hcut.o;clear hq hcut;obtain⟨A1,m1,c1,A2,m2,c2,A3,m3,c3,A4,m4,c4,A5,m5,c5,(Nq:Hid _),hl1,hl2⟩:=HC.o;have Mw:=aa hl1;have Mx:=aa hl2;clear hl1 hl2 HC;unfold nr at Nq;go_wp2_with fail
     with_reducible refine(aG ⟨#[111,114,100,101,114]⟩ [111,114,100,101,114] rfl Nq.o).mono ?_
     rintro e Q0 ⟨b,hb,rfl,hF⟩;have FB:=aa hF;have Lm:=aa hb;clear hF hb Nq;go_upto_if 86 with fail
     go_cut [] (fun wx=>Hid (og C w g2 (Rp.dm C.text.size Lk LQ) wx));case first=>
      cases b with
      |true=>
       obtain⟨Ln,hw⟩:=aab Q0;subst hw;have Lc:Hid (Fr C.g w _ _ (RS C (I.next LQ)) Ln):=FB.o;clear FB;go_wp2_with fail
       with_reducible refine(aN Lc.o (n:=1) (cells:=#[.s ⟨#[98,121]⟩]) [[98,121]] rfl rfl (by decide)).mono ?_
       rintro e LP ⟨LB,(MD:Hid _),rfl,(KD:Hid _)⟩;have M8:=aa (show∀st:I.St,Rp.Inv st→(Rp.order C.text.size st).2.r.length≤st.r.length from fun st hi=>by rw[(Rp.pV (T:=C.text.size) st hi).1];exact(I.ka C.text.size st).s.length_le);go_wp2_with fail
       obtain⟨lo,hlo⟩:=aab LP.heap.size;have Nt:=aa (Fl.start KD.o);rw[←hlo]at Nt;have hlo1:lo≤LP.heap.size:=by omega
       have hlo2:LP.heap.size≤lo:=by omega
       have Ls:g2<lo:=Nt.o.lt _ List.mem_cons_self;clear hlo;with_reducible refine(Fl.jw Nt.o (oI C _ _ Nt.o.q)).mono ?_
       rintro e LF ⟨Xp,x102,N0,(Oa:Hid _),rfl,hx102,hc102,OQ⟩;have Nu:=aa OQ;clear OQ;obtain⟨KG,PA,PC,PD,n102,rfl⟩:=ln hx102;unfold ai;have Rx:=hc102.size;have kc:=Nu.o.ab.cell 5;simp at kc;have kz:=Nu.o.ab.frozen 5;have kl:g2<LF.heap.size:=by omega
       go_upto_region 25 with fail
       obtain⟨Um,hw⟩:=aab ((LF.setCell ⟨g2,5,none⟩ (.slice (some ⟨LF.heap.size,0,none⟩) 1 1)).alloc (.cells #[.u (KG.o.toNat:Int),.u (KG.v.k.toNat:Int),.i KG.v.n,.s KG.v.s,.s KG.nm,.s KG.of,.i KG.n,.slice PA PC PD,.bool n102] 134));have OR:=aa (Ro.kS (E:=dx) (lo:=lo) (cs:=[.u (KG.o.toNat:Int),.u (KG.v.k.toNat:Int),.i KG.v.n,.s KG.v.s,.s KG.nm,.s KG.of,.i KG.n,.slice PA PC PD,.bool n102]) (w1:=LF) hw Ls (by omega) (El.hp (E:=dx) hx102 (fun b hb=>⟨by have:=hb.1;omega,hb.2⟩) fun _ _=>rfl));have PE:=aa ((Nu.o.aO 5 (.slice (some ⟨LF.heap.size,0,none⟩) 1 1) (cs':=#[.bool Lk.all,.slice A1 m1 c1,.slice A2 m2 c2,.slice A3 m3 c3,.slice A4 m4 c4,.slice (some ⟨LF.heap.size,0,none⟩) 1 1,.i Lk.lim]) rfl).tmp (.cells #[.u (KG.o.toNat:Int),.u (KG.v.k.toNat:Int),.i KG.v.n,.s KG.v.s,.s KG.nm,.s KG.of,.i KG.n,.slice PA PC PD,.bool n102] 134));rw[←hw]at PE⊢;have HF:=aa (Rp.eM (T:=C.text.size) (most:=16) (one:=(Rp.order C.text.size)) Oa.o);have hln:N0.r.length≤4096:=(Nu.o.q).len;clear hx102 hc102 Nu Nt hw kc kz kl;go_wp2_with fail
       go_loopg [] N0.r.length (fun gg wr=>∃(f:Nat) (xs:List I.Ord) (s0:I.St) (A:Option Addr) (c:Nat),gg=s0.r.length∧s0.r.length<f∧xs.length+s0.r.length≤4098∧Hid (Rp.list C.text.size 16 (Rp.order C.text.size) LB=Rp.dB C.text.size 16 (Rp.order C.text.size) f xs s0)∧Hid (Ro dx wr lo (.slice A xs.length c) xs)∧Hid (Fl C.g w lo [(g2,45,#[.bool Lk.all,.slice A1 m1 c1,.slice A2 m2 c2,.slice A3 m3 c3,.slice A4 m4 c4,.slice A xs.length c,.i Lk.lim]),(w.heap.size,45,#[.f,.z,.z,.z,.z,.z,.o])] [It.rr cS (.slice A1 m1 c1) Lk.its,It.rr bV (.slice A2 m2 c2) Lk.fr,It.rr Kr (.slice A3 m3 c3) Lk.wh,It.rr Kr (.slice A4 m4 c4) Lk.gr,It.rr dx (.slice A5 m5 c5) Lk.od] (RS C s0) wr));case atStart=>exact⟨_,[x102],_,_,_,rfl,by omega,by simp;omega,HF,OR,PE⟩
       case round=>
        clear HF OR PE Oa KD Rx hln hlo1 hlo2;obtain⟨f,xs,s0,A,c,rfl,Lu,hxl,HF,HO,HL⟩:=hrel;obtain⟨NX,hw⟩:=aab wr;subst hw;have hgl:=HL.o.gl;have Oe:=HL.o.l2;have hcap:=HO.o.form;have kc:=HL.o.ab.cell 5;simp at kc;go_wp2_with fail
        with_reducible refine(jH HL.o xs.length 16 (xs.length:Int) 16 rfl rfl).mono ?_
        rintro e Nc ⟨b,Qd,hM,rfl,hL,hc21⟩;have HM:=aa hM;have KM:=aa hL;have KE:=aa (HO.o.ch hc21 hgl);clear hM hL hc21 HL kc;cases b with
        |false=>
         have HZ:=aa (HF.o.trans (Rp.eP Lu HM.o));have MU:=aa (KM.o.done KE.o);clear KM KE HO HF HM hcap;go_wp2_with fail
         go_meet;have e:Rp.dm C.text.size Lk LQ=({Lk with od:=xs},Qd):=by unfold Rp.dm;rw[if_pos Lm.o,MD.o,HZ.o]
         rw[e];have FM:=MU.o;exact⟨A1,m1,c1,A2,m2,c2,A3,m3,c3,A4,m4,c4,A,xs.length,c,FM.fs FM.Nz FM.PN FM.RP FM.Sv FM.Kx,Mw.o,Mx.o⟩
        |true=>
         obtain⟨rfl,hacc⟩:=I.dW HM.o;have hlt:=I.bx hacc;clear hacc HO;have Py:=KM.o.l2;have kc:=KM.o.ab.cell 5;simp at kc;go_wp2_with fail
         go_region_law (first|(refine fD rfl 155 (.tmp 101) _ rfl _ (by first|rfl|simp[Act.eval]|simp[Act.eval,Act.put]) (fun w=>by simp[go_sem]) (Fl.sJ KM.o (oI C _ _ KM.o.drew.q)) ?_;rintro e KO ⟨Qt,KW,Lx,LK,rfl,Lg,hc22,LH⟩;obtain⟨h22,LU,m22,LV,n22,rfl⟩:=ln Lg;unfold ai;have LD:=aa LK;have My:=aa LH;have Ob:=hc22.size;have LJ:=aa (KE.o.ch hc22 hgl);have Mn:=aa (El.hp (E:=dx) Lg (P':=In Nc.heap.size (KO.alloc (.cells #[.u (h22.o.toNat:Int),.u (h22.v.k.toNat:Int),.i h22.v.n,.s h22.v.s,.s h22.nm,.s h22.of,.i h22.n,.slice LU m22 LV,.bool n22] 134)).heap.size) (fun b hb=>⟨hb.1,by have:=hb.2;simp;omega⟩) (w':=KO.alloc (.cells #[.u (h22.o.toNat:Int),.u (h22.v.k.toNat:Int),.i h22.v.n,.s h22.v.s,.s h22.nm,.s h22.of,.i h22.n,.slice LU m22 LV,.bool n22] 134)) fun b hb=>Below.heap_alloc KO _ b hb.2);clear LK LH Lg hc22;have KK:=My.o.ab.cell 5;simp at KK;have Rw:g2<KO.heap.size:=(by omega);refine⟨_,rfl,?_⟩)|(refine fA pK rfl (.tmp 100) (.tmp 103) Tryz.underlying43 rfl lo (.slice A xs.length c) xs (by first|rfl|simp[Act.eval]|simp[Act.eval,Act.put]) (LJ.o.alloc _) KO.heap.size 1 [.u (h22.o.toNat:Int),.u (h22.v.k.toNat:Int),.i h22.v.n,.s h22.v.s,.s h22.nm,.s h22.of,.i h22.n,.slice LU m22 LV,.bool n22] KW (by first|rfl|simp[Act.eval]|simp[Act.eval,Act.put]) (Kn.new KO _ _) (KE.o.pow (by omega) Mn.o fun b hb=>hb) (by show(xs.length+1)*112≤140737488355328;omega) (by unfold maxLen;omega) (by simp;omega) ?_;intro v24 Mi Lj MW LI;obtain⟨Mo,c24,hv24,Ns⟩:=Lj.form;rw[List.length_append,List.length_singleton]at hv24;subst hv24;clear Ns;have Lt:=aa Lj;have Me:=aa ((My.o.tmp _).low LI);clear Lj MW LI;have LN:=Me.o.ab.cell 5;have Mt:=Me.o.ab.frozen 5;simp at LN));all_goals
          have hls:=M8.o _ KM.o.q.inv
          rw[LD.o]at hls
          simp only at hls
          have Mm:=aa (HF.o.trans (Rp.dJ Lu HM.o LD.o))
          obtain⟨Oc,hw⟩:=aab (Mi.setCell ⟨g2,5,none⟩ (.slice Mo (xs.length+1) c24))
          have NG:=aa (Me.o.aO 5 (.slice Mo (xs.length+1) c24) (cs':=#[.bool Lk.all,.slice A1 m1 c1,.slice A2 m2 c2,.slice A3 m3 c3,.slice A4 m4 c4,.slice Mo (xs.length+1) c24,.i Lk.lim]) rfl)
          have MG:Hid (Ro dx Oc lo (.slice Mo (xs.length+1) c24) (xs++[KW])):=hw▸Lt.o.aR (fun b h1 _=>Below.heap_setCell Mi ⟨g2,5,none⟩ _ b (by show b≠g2;omega)) (by simp)
          rw[←hw]at NG⊢
          clear hw Me Lt My LJ Mn KM KE HM HF LD KK LN Mt kc
          go_wp2_with fail
          go_roundg Lx.r.length
          case measure=>omega
          case rel=>exact⟨f-1,xs++[KW],Lx,Mo,c24,rfl,by omega,by simp;omega,Mm,by rw[List.length_append,List.length_singleton];exact MG,by rw[List.length_append,List.length_singleton];exact NG⟩
      |false=>
       have FC:Hid (Fr C.g w _ _ (RS C LQ) Q0):=FB.o;clear FB;go_wp2_with fail
       go_meet;have e:Rp.dm C.text.size Lk LQ=(Lk,LQ):=by unfold Rp.dm;rw[if_neg (by rw[Lm.o];decide)]
       rw[e];exact⟨A1,m1,c1,A2,m2,c2,A3,m3,c3,A4,m4,c4,A5,m5,c5,FC.o,Mw.o,Mx.o⟩
     case rest=>
      clear FB Mw Mx Lm;obtain⟨q4,hq⟩:=aab (Rp.dm C.text.size Lk LQ);obtain⟨KH,Mh⟩:=q4;rw[←hq]at hcut;have Ul:=aa hq;obtain⟨wr4,hw⟩:=aab wc;subst hw;have HC:=aa hcut.o;clear hq hcut;obtain⟨A1,m1,c1,A2,m2,c2,A3,m3,c3,A4,m4,c4,A5,m5,c5,(Nq:Hid _),hl1,hl2⟩:=HC.o;have Mw:=aa hl1;have Mx:=aa hl2;clear hl1 hl2 HC;unfold nr at Nq;go_wp2_with fail
      with_reducible refine(aG ⟨#[108,105,109,105,116]⟩ [108,105,109,105,116] rfl Nq.o).mono ?_
      rintro e Tf ⟨b,hb,rfl,hF⟩;have FB:=aa hF;have Lm:=aa hb;clear hF hb Nq;go_upto_if 107 with fail
      go_cut [] (fun wx=>Hid (og C w g2 (Rp.db C.text.size KH Mh) wx));case first=>
       cases b with
       |true=>
        obtain⟨Ln,hw⟩:=aab Tf;subst hw;have Lc:Hid (Fr C.g w _ _ (RS C (I.next Mh)) Ln):=FB.o;clear FB;go_wp2_with fail
        with_reducible refine(Fr.Kd Lc.o (wL C _ _ Lc.o.q)).mono ?_
        rintro e LP ⟨n101,LB,(Q9:Hid _),rfl,(KD:Hid _)⟩;have Pq:=KD.o.ab.cell 6;simp at Pq;have OB:=KD.o.ab.frozen 6;have hlim:=Rp.pj C.text.size (I.next Mh);rw[Q9.o]at hlim;have Ra:=aa hlim;clear hlim;go_wp2_with fail
        go_meet;have e:Rp.db C.text.size KH Mh=({KH with lim:=n101},LB):=by unfold Rp.db;rw[if_pos Lm.o,Q9.o]
        rw[e];have FM:=KD.o.aO 6 (.i n101) rfl;exact⟨A1,m1,c1,A2,m2,c2,A3,m3,c3,A4,m4,c4,A5,m5,c5,FM.fs FM.Kx FM.Nz FM.PN FM.RP FM.Sv,by have h1:=Ra.o.1;simp only at h1⊢;omega,Ra.o.2⟩
       |false=>
        have FC:Hid (Fr C.g w _ _ (RS C Mh) Tf):=FB.o;clear FB;go_wp2_with fail
        go_meet;have e:Rp.db C.text.size KH Mh=(KH,Mh):=by unfold Rp.db;rw[if_neg (by rw[Lm.o];decide)]
        rw[e];exact⟨A1,m1,c1,A2,m2,c2,A3,m3,c3,A4,m4,c4,A5,m5,c5,FC.o,Mw.o,Mx.o⟩
      case rest=>
       clear FB Mw Mx Lm;obtain⟨q5,hq⟩:=aab (Rp.db C.text.size KH Mh);obtain⟨O6,Vu⟩:=q5;rw[←hq]at hcut;have WA:=aa hq;obtain⟨WB,hw⟩:=aab wc;subst hw;have HC:=aa hcut.o;clear hq hcut;obtain⟨A1,m1,c1,A2,m2,c2,A3,m3,c3,A4,m4,c4,A5,m5,c5,hF,hl1,hl2⟩:=HC.o;have LR:=aa hF;have Mw:=aa hl1;have Mx:=aa hl2;clear hF hl1 hl2 HC;unfold nr at LR;obtain⟨Q6,hw⟩:=aab WB;subst hw;obtain⟨cz,hcz⟩:∃z:List Value,z=[.bool O6.all,.slice A1 m1 c1,.slice A2 m2 c2,.slice A3 m3 c3,.slice A4 m4 c4,.slice A5 m5 c5,.i O6.lim]:=⟨_,rfl⟩;rw[←hcz]at LR;obtain⟨RS,TH,LC,OC⟩:=LR.o.Mg (k:=7) (by rw[hcz];rfl) rfl (by rw[hcz];rfl);have KN:=aa hcz;clear hcz;go_wp2_with (first|refine aU rfl rfl rfl RS.o (by kernel_rfl) (by rw[LC.o];kernel_rfl) ?_|refine wpList_store_mid rfl _ _ _ rfl _ 0 cz.toArray rfl rfl TH.o (by rw[List.size_toArray,LC.o];kernel_rfl) OC.o ?_)
       have FZ:=aa (LR.o.bS cz (by rw[LC.o];rfl));have HS:Hid (Rp.query C.text.size st=(O6,Vu)):=by show _=_;exact(Rp.xg st (by rw[E3.o];exact RQ.o.symm) HSF.o Uk.o.symm Ul.o.symm).trans WA.o.symm
       refine bodyPost_ret (v:=.agg cz.toArray) (results_cell_row rfl _ _ w.heap.size 45 _ (0,0) _ rfl FZ.o.ah gK rfl (by rw[List.size_toArray,LC.o];exact ga)) rfl ?_;rw[HS.o];exact FZ.o.aK (cs:=cz) (El.cz KN.o (⟨_,_,_,_,_,rfl,FZ.o.Kx,FZ.o.Nz,FZ.o.PN,FZ.o.RP,FZ.o.Sv,Mw.o,Mx.o⟩))
   |true=>
    have hlen:=I.bx hb;have MU:Hid (Fr C.g NX [] [] (RS C (I.next s0)) Nc):=hF;have KM:=aa (HL.o.call (Q':=RS C (I.next s0)) hF.ps hF.ch);have Sw:=KM.o.ab;have KK:=Sw.cell 2;simp at KK;have kw:IntKind.i64.wrap ((xs.length:Int)-1)=((xs.length-1:Nat):Int):=by rw[show(xs.length:Int)-1=((xs.length-1:Nat):Int) by omega];exact IntWalk.i64_in _ (by omega)
    clear hF hb Sw;go_wp2_with fail
    with_reducible refine(IC MU.o (xs.length-1) 16 _ 16 rfl rfl).mono ?_
    rintro e KO ⟨Lx,(LD:Hid _),rfl,(ME:Hid _)⟩;clear KK kw KM;go_wp2_with fail
    with_reducible refine(Fr.jw ME.o (nh C _ _ ME.o.q)).mono ?_
    rintro e NM ⟨cs23,x23,NZ,(Ti:Hid _),rfl,(MM:Hid _)⟩;obtain⟨n23,a23,QD,m23,c23,hcs⟩:=tJ MM.o.Kx;subst hcs;go_upto_region 13 with fail
    have Nd:=aa (MM.o.new 132 #[.s n23,.s a23,.slice QD m23 c23]);obtain⟨Mi,hw⟩:=aab (NM.alloc (.cells #[.s n23,.s a23,.slice QD m23 c23] 132));obtain⟨g24,hg⟩:=aab NM.heap.size;rw[←hw,←hg]at Nd;rw[←hw,←hg];clear hw hg;go_wp2_with fail
    with_reducible refine(aN Nd.o (n:=1) (cells:=#[.s ⟨#[111,110]⟩]) [[111,110]] rfl rfl (by decide)).mono ?_
    rintro e Oc ⟨WM,(E25:Hid _),rfl,(Sy:Hid _)⟩;go_wp2_with fail
    with_reducible refine(Fr.jD Sy.o (dw C _ _ Sy.o.q)).mono ?_
    rintro e Qn ⟨MR,Yl,Ym,Yn,x26,Yo,(X26:Hid _),rfl,(O7:Hid _)⟩;have KK:=(O7.o.ab.alloc (.cells #[.u (MR.o.toNat:Int),.u (MR.v.k.toNat:Int),.i MR.v.n,.s MR.v.s,.s MR.nm,.s MR.of,.i MR.n,.slice Yl Ym Yn] 50)).cell 2;have Mb:=(O7.o.ab.alloc (.cells #[.u (MR.o.toNat:Int),.u (MR.v.k.toNat:Int),.i MR.v.n,.s MR.v.s,.s MR.nm,.s MR.of,.i MR.n,.slice Yl Ym Yn] 50)).frozen 2;have kl:=O7.o.ab.lt;simp at KK;go_upto_region 15 with fail
    have F27:=aa ((O7.o).gL (E:=Kr) (cs:=[.u (MR.o.toNat:Int),.u (MR.v.k.toNat:Int),.i MR.v.n,.s MR.v.s,.s MR.nm,.s MR.of,.i MR.n,.slice Yl Ym Yn]) 50 2 (cells':=#[.s n23,.s a23,.slice (some ⟨Qn.heap.size,0,none⟩) 1 1]) rfl);obtain⟨O8,hw⟩:=aab (((Qn.setCell ⟨g24,2,none⟩ (.slice (some ⟨Qn.heap.size,0,none⟩) 1 1)).alloc (.cells #[.u (MR.o.toNat:Int),.u (MR.v.k.toNat:Int),.i MR.v.n,.s MR.v.s,.s MR.nm,.s MR.of,.i MR.n,.slice Yl Ym Yn] 50)));obtain⟨Xr,hg⟩:=aab Qn.heap.size;rw[←hw,←hg]at F27;rw[←hw,←hg];clear hw hg KK Mb kl;have hfl:=I.zh C.text.size (xs.length-1) 16 (I.next s0);rw[LD.o]at hfl;have hsl:=I.pc C.text.size Lx;rw[Ti.o]at hsl;have hel:=I.av C.text.size [[111,110]] NZ;rw[E25.o]at hel;have Xs:=M8.o _ Sy.o.q.inv;rw[X26.o]at Xs;simp only at hsl Xs;have WO:=aa (HF.o.trans (Rp.kU Lu HB.o LD.o Ti.o E25.o X26.o));have WQ:=F27.o.ch.size;have LO:=aa (HL.o.call (Q':=RS C Yo) F27.o.ps F27.o.ch);have Lb:=aa (HO.o.ch F27.o.ch hgl);obtain⟨SA,Ps⟩:∃y:I.Src,y={x23 with on:=[x26]}:=⟨_,rfl⟩;have HY:Hid (bV.R O8 (In NX.heap.size O8.heap.size) [.s n23,.s a23,.slice (some ⟨Xr,0,none⟩) 1 1] SA):=by
     obtain⟨v,he,h1,h2,h3⟩:=(F27.o.PN:bV.R _ _ _ _);injection he with e1 e2
     injection e2 with e2 e3
     rw[Ps,e1,e2];exact⟨_,rfl,Rr.hp (F27.o.Kx:Rr Kr _ _ _ _) (fun b hb=>⟨hb.1,hb.2.1⟩) (fun _ _=>rfl),h2,h3⟩
    rw[←Ps]at WO;clear Ps;have Ks:=F27.o.ab.Y3;simp at Ks;have KK:=LO.o.ab.cell 2;simp at KK;obtain⟨wJ,VA⟩:=aab (O8.alloc (.cells #[.s n23,.s a23,.slice (some ⟨Xr,0,none⟩) 1 1] 132));have HBJ:=aa (show Kn wJ O8.heap.size 132 #[.s n23,.s a23,.slice (some ⟨Xr,0,none⟩) 1 1] by rw[VA];exact Kn.new O8 _ _);have HOJ:=aa (show Ro bV wJ lo (.slice A xs.length c) xs by rw[VA];exact Lb.o.alloc _);have HXJ:=aa (show bV.R wJ (Pow wJ lo (.slice A xs.length c)) [.s n23,.s a23,.slice (some ⟨Xr,0,none⟩) 1 1] SA by
     rw[VA]
     exact HO.o.pow (by omega) (El.hp (E:=bV) HY.o (P':=In NX.heap.size O8.heap.size) (fun b hb=>hb) fun b hb=>Below.heap_alloc O8 _ b hb.2) fun b hb=>⟨by have:=hb.1;omega,by have:=hb.2;simp;omega⟩)
    have LOJ:=aa (show Fl C.g w lo _ _ (RS C Yo) wJ by rw[VA];exact LO.o.tmp _);have hzJ:lo≤wJ.heap.size:=by rw[VA];simp;omega
    clear HL HO FI F27 Lb LO HY MU ME MM Nd Sy O7 LD Ti X26 E25 HF;go_wp2_with (at_builtin;rw[←VA];refine dZ pJ rfl (.tmp 56) (.tmp 58) Tryz.underlying42 rfl lo _ xs rfl HOJ.o O8.heap.size 1 [.s n23,.s a23,.slice (some ⟨Xr,0,none⟩) 1 1] SA rfl HBJ.o HXJ.o (by show(xs.length+1)*56≤140737488355328;omega) (by unfold maxLen;omega) hzJ ?_;intro v28 XZ Pu SB Qo;obtain⟨Us,c28,hv28,hc28⟩:=Pu.form;rw[List.length_append,List.length_singleton]at hv28;subst hv28;have Ut:=aa Pu;have UU:=aa (LOJ.o.low Qo);clear Pu SB Qo hc28 KK;have KK:=UU.o.ab.cell 2;simp at KK;have Mb:=UU.o.ab.frozen 2)
    go_roundg Yo.r.length;case measure=>omega
    case rel=>exact⟨f-1,xs++[SA],Yo,Us,c28,rfl,by omega,by simp,by simp;omega,WO,by rw[List.length_append,List.length_singleton];exact Ut.o.aR (fun b h1 _=>Below.heap_setCell XZ ⟨g2,2,none⟩ _ b (by show b≠g2;omega)) (by simp),by rw[List.length_append,List.length_singleton];exact UU.o.aO 2 (.slice Us (xs.length+1) c28) (cs':=#[.bool KU.all,.slice A1 m1 c1,.slice Us (xs.length+1) c28,.slice A3 m3 c3,.slice A4 m4 c4,.slice A5 m5 c5,.i KU.lim]) rfl⟩
end
end Go.Proofs.YtnicfobpclehkaaGreatDoor
