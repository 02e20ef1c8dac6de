import Derived.Test.YtnicfobpclehkaaGreatDoorP31
set_option maxHeartbeats 3200000
set_option linter.unusedVariables false
set_option linter.unusedSimpArgs false
namespace Go.Proofs.YtnicfobpclehkaaGreatDoor
open Go.RowKit
section
set_option maxRecDepth 100000
theorem I.Bd{t:Lex.Tok}{r:List Lex.Tok}{st:I.St}(hr:st.r=t::r):(I.next st).r.length<st.r.length:=by simp[I.next,hr]
theorem Ag(C:RC)(X:I.St→Ev.Ex×I.St)(n:Nat)(hK:∀k,k<n→ig C 148 #[.p C.g] X k)(s:ByteArray)(t:Lex.Tok)(r:List Lex.Tok)(st:I.St)(w:World)(h:RS C st w)(hn:st.r.length≤n)(hr:st.r=t::r)(h1:t.1=1)(hs:s.data.toList=t.2.1):
 Calls Tryz.prog 285 #[.p C.g,.s s] w (ER Kr C w (Rp.word C.text.size X st)):=by
 have hlen:=I.Bd hr;have Nf:Hid (st.r≠[]):=by show _≠_;rw[hr];simp
 have hac:=fun s=>I.nF (st:=st) hr s
 have hkind:Hid (I.au st=1):=by show _=_;unfold I.au;rw[hr];exact h1
 have HK:=aa hK;have HL:=aa (Lib.toList_data s);obtain⟨tk,tx,ta⟩:=t;simp only at h1 hs hac;subst h1;have KB:∀l,I.ae l st=decide (tx=l):=fun l=>by rw[hac];simp
 obtain⟨l,hl⟩:=aab s.toList;have hsl:tx=l:=by rw[←hs,hl,HL.o]
 subst hsl;clear hac hr hK;have F0:=aa (Fr.start h.lt h.aJ);clear h;go_enter Tryz.func285,Tryz.ntmps285;have F1:=aa (F0.o.new 50 #[.b,.b,.o,.e,.e,.e,.o,.z]);obtain⟨w1,hw⟩:=aab (w.alloc (.cells #[.b,.b,.o,.e,.e,.e,.o,.z] 50));go_upto_region 1 with fail
 rw[←hw]at F1⊢;clear hw;by_cases h0:tx=[110,117,108,108]
 ·have t0:(s.toList==[110,117,108,108])=true:=by rw[←hl,h0];decide
  have P0:=aa (show I.ae [110,117,108,108] st=true by rw[KB,decide_eq_true_eq];exact h0);clear KB hl hs h0;obtain⟨pk,hpk,hpz,hpl⟩:=F1.o.q.cell;go_upto_region 4 with fail
  have F2:=aa (F1.o.fj Nf.o hpk);obtain⟨w2,hw⟩:=aab (w1.setCell ⟨C.g,1,none⟩ (.i ((pk:Int)+1)));rw[←hw]at F2⊢;clear hw hpk hpz hpl;have Ks:=F2.o.ab.Y8;simp at Ks;obtain⟨KQ,KS,KT,K4,K5,K6,K7,K9⟩:=F2.o.ab.Z8;go_wp2_with fail
  have FZ:=aa (F2.o.gu (bd (Ch.refl _ _ _) (.inl rfl) (.u 1) .b .o .e .e .e .o .z) (aW F2.o.ab (.u 1) .b .o .e .e .e .o .z));have HS:Hid (Rp.word C.text.size X st=((.mk (I.hd 1) []:Ev.Ex),(I.next st))):=by show _=_;unfold Rp.word;rw[if_pos P0.o]
  refine bodyPost_ret (v:=.agg #[.u 1,.b,.o,.e,.e,.e,.o,.z]) (results_cell_row rfl _ _ w.heap.size 50 _ (0,0) _ rfl FZ.o.ab ao rfl aj) rfl ?_;rw[HS.o];exact FZ.o.aK (cs:=[.u 1,.b,.o,.e,.e,.e,.o,.z]) ((bU (jx 1):XR _ _ (ai (I.hd 1) none 0 0) _))
 ·have t0:(s.toList==[110,117,108,108])=false:=by rw[←hl];simpa using h0
  by_cases h1:tx=[116,114,117,101]
  ·have t1:(s.toList==[116,114,117,101])=true:=by rw[←hl,h1];decide
   have ON:=aa (show¬I.ae [110,117,108,108] st=true by rw[KB,decide_eq_true_eq];exact h0);have P1:=aa (show I.ae [116,114,117,101] st=true by rw[KB,decide_eq_true_eq];exact h1);clear KB hl hs h0 h1;obtain⟨pk,hpk,hpz,hpl⟩:=F1.o.q.cell;go_upto_region 8 with fail
   have F2:=aa (F1.o.fj Nf.o hpk);obtain⟨w2,hw⟩:=aab (w1.setCell ⟨C.g,1,none⟩ (.i ((pk:Int)+1)));rw[←hw]at F2⊢;clear hw hpk hpz hpl;go_upto_region 9 with fail
   have F3:=aa (F2.o.new 48 #[.u 1,.o,.e]);obtain⟨w3,hw⟩:=aab (w2.alloc (.cells #[.u 1,.o,.e] 48));obtain⟨g3,hg⟩:=aab w2.heap.size;rw[←hw,←hg]at F3;rw[←hw,←hg];clear hw hg;have M5:=F3.o.ab.cell 1;simp at M5;have M9:=F3.o.ab.frozen 1;go_upto_region 11 with fail
   have F4:=aa (F3.o.aO 1 (.i 1) (cs':=#[.u 1,.i 1,.e]) rfl);obtain⟨w4,hw⟩:=aab (w3.setCell ⟨g3,1,none⟩ (.i 1));rw[←hw]at F4⊢;clear hw M5 M9;have cj2:=F4.o.ab.Y3;simp at cj2;have K0:=F4.o.ah.Y8;simp at K0;obtain⟨KQ,KS,KT,K4,K5,K6,K7,K9⟩:=F4.o.ah.Z8;go_wp2_with fail
   have FZ:=aa (F4.o.cN (bd (Ch.refl _ _ _) (.inl rfl) (.u 1) (.u 1) (.i 1) .e .e .e .o .z) (aW F4.o.ah (.u 1) (.u 1) (.i 1) .e .e .e .o .z));have HS:Hid (Rp.word C.text.size X st=((I.lit ⟨1,1,I.aQ⟩:Ev.Ex),(I.next st))):=by show _=_;unfold Rp.word;rw[if_neg ON.o,if_pos P1.o]
   refine bodyPost_ret (v:=.agg #[.u 1,.u 1,.i 1,.e,.e,.e,.o,.z]) (results_cell_row rfl _ _ w.heap.size 50 _ (0,0) _ rfl FZ.o.ah ao rfl aj) rfl ?_;rw[HS.o];exact FZ.o.aK (cs:=[.u 1,.u 1,.i 1,.e,.e,.e,.o,.z]) ((bU (fT (l:=[]) (by decide) (by decide) (by decide)):XR _ _ (ai ⟨1,⟨1,1,I.aQ⟩,I.aQ,I.aQ,0⟩ none 0 0) _))
  ·have t1:(s.toList==[116,114,117,101])=false:=by rw[←hl];simpa using h1
   by_cases h2:tx=[102,97,108,115,101]
   ·have t2:(s.toList==[102,97,108,115,101])=true:=by rw[←hl,h2];decide
    have ON:=aa (show¬I.ae [110,117,108,108] st=true by rw[KB,decide_eq_true_eq];exact h0);have Pw:=aa (show¬I.ae [116,114,117,101] st=true by rw[KB,decide_eq_true_eq];exact h1);have P2:=aa (show I.ae [102,97,108,115,101] st=true by rw[KB,decide_eq_true_eq];exact h2);have Xz:(s.toList==[116,114,117,101])=false:=by rw[←hl,h2];decide
    clear KB hl hs h0 h1 h2;obtain⟨pk,hpk,hpz,hpl⟩:=F1.o.q.cell;go_upto_region 8 with fail
    have F2:=aa (F1.o.fj Nf.o hpk);obtain⟨w2,hw⟩:=aab (w1.setCell ⟨C.g,1,none⟩ (.i ((pk:Int)+1)));rw[←hw]at F2⊢;clear hw hpk hpz hpl;go_upto_region 9 with fail
    have F3:=aa (F2.o.new 48 #[.u 1,.o,.e]);obtain⟨w3,hw⟩:=aab (w2.alloc (.cells #[.u 1,.o,.e] 48));obtain⟨g3,hg⟩:=aab w2.heap.size;rw[←hw,←hg]at F3;rw[←hw,←hg];clear hw hg;have Le:=F3.o.ab.Y3;simp at Le;have Ly:=F3.o.ah.Y8;simp at Ly;obtain⟨KQ,KS,KT,K4,K5,K6,K7,K9⟩:=F3.o.ah.Z8;go_wp2_with fail
    have FZ:=aa (F3.o.cN (bd (Ch.refl _ _ _) (.inl rfl) (.u 1) (.u 1) .o .e .e .e .o .z) (aW F3.o.ah (.u 1) (.u 1) .o .e .e .e .o .z));have HS:Hid (Rp.word C.text.size X st=((I.lit ⟨1,0,I.aQ⟩:Ev.Ex),(I.next st))):=by show _=_;unfold Rp.word;rw[if_neg ON.o,if_neg Pw.o,if_pos P2.o]
    refine bodyPost_ret (v:=.agg #[.u 1,.u 1,.o,.e,.e,.e,.o,.z]) (results_cell_row rfl _ _ w.heap.size 50 _ (0,0) _ rfl FZ.o.ah ao rfl aj) rfl ?_;rw[HS.o];exact FZ.o.aK (cs:=[.u 1,.u 1,.o,.e,.e,.e,.o,.z]) ((bU (fT (l:=[]) (by decide) (by decide) (by decide)):XR _ _ (ai ⟨1,⟨1,0,I.aQ⟩,I.aQ,I.aQ,0⟩ none 0 0) _))
   ·have t2:(s.toList==[102,97,108,115,101])=false:=by rw[←hl];simpa using h2
    by_cases h3:tx=[117,115,101,114]
    ·have t3:(s.toList==[117,115,101,114])=true:=by rw[←hl,h3];decide
     have ON:=aa (show¬I.ae [110,117,108,108] st=true by rw[KB,decide_eq_true_eq];exact h0);have Pw:=aa (show¬I.ae [116,114,117,101] st=true by rw[KB,decide_eq_true_eq];exact h1);have Qr:=aa (show¬I.ae [102,97,108,115,101] st=true by rw[KB,decide_eq_true_eq];exact h2);have P3:=aa (show I.ae [117,115,101,114] st=true by rw[KB,decide_eq_true_eq];exact h3);clear KB hl hs h0 h1 h2 h3;obtain⟨pk,hpk,hpz,hpl⟩:=F1.o.q.cell;go_upto_region 14 with fail
     have F2:=aa (F1.o.fj Nf.o hpk);obtain⟨w2,hw⟩:=aab (w1.setCell ⟨C.g,1,none⟩ (.i ((pk:Int)+1)));rw[←hw]at F2⊢;clear hw hpk hpz hpl;have Mj:=F2.o.ab.Y8;simp at Mj;obtain⟨KQ,KS,KT,K4,K5,K6,K7,K9⟩:=F2.o.ab.Z8;go_wp2_with fail
     have FZ:=aa (F2.o.gu (bd (Ch.refl _ _ _) (.inl rfl) (.u 21) .b .o .e .e .e .o .z) (aW F2.o.ab (.u 21) .b .o .e .e .e .o .z));have HS:Hid (Rp.word C.text.size X st=((.mk (I.hd 21) []:Ev.Ex),(I.next st))):=by show _=_;unfold Rp.word;rw[if_neg ON.o,if_neg Pw.o,if_neg Qr.o,if_pos P3.o]
     refine bodyPost_ret (v:=.agg #[.u 21,.b,.o,.e,.e,.e,.o,.z]) (results_cell_row rfl _ _ w.heap.size 50 _ (0,0) _ rfl FZ.o.ab ao rfl aj) rfl ?_;rw[HS.o];exact FZ.o.aK (cs:=[.u 21,.b,.o,.e,.e,.e,.o,.z]) ((bU (jx 21):XR _ _ (ai (I.hd 21) none 0 0) _))
    ·have t3:(s.toList==[117,115,101,114])=false:=by rw[←hl];simpa using h3
     by_cases h4:tx=[99,111,117,110,116]
     ·have t4:(s.toList==[99,111,117,110,116])=true:=by rw[←hl,h4];decide
      have ON:=aa (show¬I.ae [110,117,108,108] st=true by rw[KB,decide_eq_true_eq];exact h0);have Pw:=aa (show¬I.ae [116,114,117,101] st=true by rw[KB,decide_eq_true_eq];exact h1);have Qr:=aa (show¬I.ae [102,97,108,115,101] st=true by rw[KB,decide_eq_true_eq];exact h2);have Rm:=aa (show¬I.ae [117,115,101,114] st=true by rw[KB,decide_eq_true_eq];exact h3);have P4:=aa (show I.ae [99,111,117,110,116] st=true by rw[KB,decide_eq_true_eq];exact h4);clear KB hl hs h0 h1 h2 h3 h4;obtain⟨pk,hpk,hpz,hpl⟩:=F1.o.q.cell;go_upto_region 17 with fail
      have F2:=aa (F1.o.fj Nf.o hpk);obtain⟨w2,hw⟩:=aab (w1.setCell ⟨C.g,1,none⟩ (.i ((pk:Int)+1)));rw[←hw]at F2⊢;clear hw hpk hpz hpl;go_wp2_with fail
      with_reducible refine(aN F2.o (n:=1) (cells:=#[.s ⟨#[40]⟩]) [[40]] rfl rfl (by decide)).mono ?_
      rintro e w3 ⟨s3,(E3:Hid _),rfl,(F3:Hid _)⟩;have hl3:=I.av C.text.size [[40]] (I.next st);rw[E3.o]at hl3;go_upto_region 19 with fail
      have F4:=aa (F3.o.new 50 #[.u 17,.b,.o,.e,.e,.e,.o,.z]);obtain⟨w4,hw⟩:=aab (w3.alloc (.cells #[.u 17,.b,.o,.e,.e,.e,.o,.z] 50));obtain⟨g4,hg⟩:=aab w3.heap.size;rw[←hw,←hg]at F4;rw[←hw,←hg];clear hw hg;have HO:Hid (I.one I.dd st=(17,I.next st)):=by show _=_;unfold I.dd;rw[I.aA,if_pos P4.o]
      go_wp2_with fail
      with_reducible refine(aG ⟨#[42]⟩ [42] rfl F4.o).mono ?_
      rintro e w5 ⟨b,hb,rfl,hF⟩;cases b with
      |true=>
       have Ku:=aa hb;have F5:Hid (Fr C.g w _ _ (RS C (I.next s3)) w5):=hF;clear hF hb;go_wp2_with fail
       with_reducible refine(aN F5.o (n:=1) (cells:=#[.s ⟨#[41]⟩]) [[41]] rfl rfl (by decide)).mono ?_
       rintro e w6 ⟨s6,(E6:Hid _),rfl,hF⟩;have F6:=aa hF;clear hF;obtain⟨cz,hcz⟩:∃z:List Value,z=[.u 17,.b,.o,.e,.e,.e,.o,.z]:=⟨_,rfl⟩;rw[←hcz]at F6;obtain⟨RS,TH,LC,OC⟩:=F6.o.Mg (k:=8) (by rw[hcz];rfl) rfl (by rw[hcz];rfl);have KN:=aa hcz;clear hcz;go_wp2_with (first|refine aU rfl rfl rfl RS.o (by kernel_rfl) (by rw[LC.o];kernel_rfl) ?_|refine wpList_store_mid rfl _ _ _ rfl _ 0 cz.toArray rfl rfl TH.o (by rw[List.size_toArray,LC.o];kernel_rfl) OC.o ?_)
       have FZ:=aa (F6.o.bS cz (by rw[LC.o];rfl));have HS:Hid (Rp.word C.text.size X st=((.mk (I.hd 17) []:Ev.Ex),s6)):=by show _=_;unfold Rp.word;rw[if_neg ON.o,if_neg Pw.o,if_neg Qr.o,if_neg Rm.o,HO.o,if_neg (by show¬(17:UInt8)=0;decide)];show I.fold C.text.size X 17 (I.next st)=_;unfold I.fold I.inside;rw[E3.o];simp only[Ku.o,and_self,if_true];rw[E6.o]
       refine bodyPost_ret (v:=.agg cz.toArray) (results_cell_row rfl _ _ w.heap.size 50 _ (0,0) _ rfl FZ.o.ah ao rfl (by rw[List.size_toArray,LC.o];exact aj)) rfl ?_;rw[HS.o];exact FZ.o.aK (cs:=cz) (El.cz KN.o ((bU (jx 17):XR _ _ (ai (I.hd 17) none 0 0) _)))
      |false=>
       have Ku:=aa hb;have F5:Hid (Fr C.g w _ _ (RS C s3) w5):=hF;clear hF hb;go_wp2_with fail
       with_reducible refine((HK.o s3.r.length (by omega)).f F5.o (Nat.le_refl _)).mono ?_
       rintro e w6 ⟨h6,A6,m6,c6,x6,s6,(X6:Hid _),rfl,(F6:Hid _)⟩;have NY:=F6.o.ab.cell 7;simp at NY;have NK:=F6.o.ab.frozen 7;have hzz:=F6.o.ab.lt;go_upto_region 21 with fail
       have F7:=aa (Fr.gL (E:=Kr) (cs:=[.u (h6.o.toNat:Int),.u (h6.v.k.toNat:Int),.i h6.v.n,.s h6.v.s,.s h6.nm,.s h6.of,.i h6.n,.slice A6 m6 c6]) F6.o 50 7 (cells':=#[.u 17,.b,.o,.e,.e,.e,.o,.slice (some ⟨w6.heap.size,0,none⟩) 1 1]) rfl);obtain⟨w7,hw⟩:=aab ((w6.setCell ⟨g4,7,none⟩ (.slice (some ⟨w6.heap.size,0,none⟩) 1 1)).alloc (.cells #[.u (h6.o.toNat:Int),.u (h6.v.k.toNat:Int),.i h6.v.n,.s h6.v.s,.s h6.nm,.s h6.of,.i h6.n,.slice A6 m6 c6] 50));rw[show([.u (h6.o.toNat:Int),.u (h6.v.k.toNat:Int),.i h6.v.n,.s h6.v.s,.s h6.nm,.s h6.of,.i h6.n,.slice A6 m6 c6]:List Value).toArray=#[.u (h6.o.toNat:Int),.u (h6.v.k.toNat:Int),.i h6.v.n,.s h6.v.s,.s h6.nm,.s h6.of,.i h6.n,.slice A6 m6 c6]from rfl,←hw]at F7;rw[←hw];clear hw NY NK hzz;go_wp2_with fail
       with_reducible refine(aN F7.o (n:=1) (cells:=#[.s ⟨#[41]⟩]) [[41]] rfl rfl (by decide)).mono ?_
       rintro e w8 ⟨s7,(E7:Hid _),rfl,(F8:Hid _)⟩;obtain⟨cz,hcz⟩:∃z:List Value,z=[.u 17,.b,.o,.e,.e,.e,.o,.slice (some ⟨w6.heap.size,0,none⟩) 1 1]:=⟨_,rfl⟩;rw[←hcz]at F8;obtain⟨RS,TH,LC,OC⟩:=F8.o.Mg (k:=8) (by rw[hcz];rfl) rfl (by rw[hcz];rfl);have KN:=aa hcz;clear hcz;go_wp2_with (first|refine aU rfl rfl rfl RS.o (by kernel_rfl) (by rw[LC.o];kernel_rfl) ?_|refine wpList_store_mid rfl _ _ _ rfl _ 0 cz.toArray rfl rfl TH.o (by rw[List.size_toArray,LC.o];kernel_rfl) OC.o ?_)
       have FZ:=aa (F8.o.bS cz (by rw[LC.o];rfl));have HS:Hid (Rp.word C.text.size X st=((I.un 17 x6:Ev.Ex),s7)):=by show _=_;unfold Rp.word;rw[if_neg ON.o,if_neg Pw.o,if_neg Qr.o,if_neg Rm.o,HO.o,if_neg (by show¬(17:UInt8)=0;decide)];show I.fold C.text.size X 17 (I.next st)=_;unfold I.fold I.inside;rw[E3.o];simp only[Ku.o,and_false,Bool.false_eq_true,if_false,X6.o];rw[E7.o]
       refine bodyPost_ret (v:=.agg cz.toArray) (results_cell_row rfl _ _ w.heap.size 50 _ (0,0) _ rfl FZ.o.ah ao rfl (by rw[List.size_toArray,LC.o];exact aj)) rfl ?_;rw[HS.o];exact FZ.o.aK (cs:=cz) (El.cz KN.o (Fr.RV 17 rfl FZ.o))
     ·have t4:(s.toList==[99,111,117,110,116])=false:=by rw[←hl];simpa using h4
      by_cases h5:tx=[115,117,109]
      ·have t5:(s.toList==[115,117,109])=true:=by rw[←hl,h5];decide
       have ON:=aa (show¬I.ae [110,117,108,108] st=true by rw[KB,decide_eq_true_eq];exact h0);have Pw:=aa (show¬I.ae [116,114,117,101] st=true by rw[KB,decide_eq_true_eq];exact h1);have Qr:=aa (show¬I.ae [102,97,108,115,101] st=true by rw[KB,decide_eq_true_eq];exact h2);have Rm:=aa (show¬I.ae [117,115,101,114] st=true by rw[KB,decide_eq_true_eq];exact h3);have UI:=aa (show¬I.ae [99,111,117,110,116] st=true by rw[KB,decide_eq_true_eq];exact h4);have P5:=aa (show I.ae [115,117,109] st=true by rw[KB,decide_eq_true_eq];exact h5);have Xf:Hid (I.fe s.data.toList=18):=by show _=_;rw[hs,h5];rfl
       clear KB hl hs h0 h1 h2 h3 h4 h5;obtain⟨pk,hpk,hpz,hpl⟩:=F1.o.q.cell;go_upto_region 27 with fail
       have F2:=aa (F1.o.fj Nf.o hpk);obtain⟨w2,hw⟩:=aab (w1.setCell ⟨C.g,1,none⟩ (.i ((pk:Int)+1)));rw[←hw]at F2⊢;clear hw hpk hpz hpl;go_wp2_with fail
       with_reducible refine(aN F2.o (n:=1) (cells:=#[.s ⟨#[40]⟩]) [[40]] rfl rfl (by decide)).mono ?_
       rintro e w3 ⟨s3,(E3:Hid _),rfl,(F3:Hid _)⟩;have hl3:=I.av C.text.size [[40]] (I.next st);rw[E3.o]at hl3;have HO:Hid (I.one I.dd st=(18,I.next st)):=by show _=_;unfold I.dd;rw[I.aA,if_neg UI.o,I.aA,if_pos P5.o]
       go_wp2_with fail
       with_reducible refine(kM s _).mono ?_
       rintro e w4 ⟨rfl,rfl⟩;rw[Xf.o];go_wp2_with fail
       with_reducible refine((HK.o s3.r.length (by omega)).f F3.o (Nat.le_refl _)).mono ?_
       rintro e w4 ⟨h6,A6,m6,c6,x6,s6,(X6:Hid _),rfl,(F4:Hid _)⟩;go_upto_region 29 with fail
       have Rn:=aa ((Fr.ff (E:=Kr) (cs:=[.u (h6.o.toNat:Int),.u (h6.v.k.toNat:Int),.i h6.v.n,.s h6.v.s,.s h6.nm,.s h6.of,.i h6.n,.slice A6 m6 c6]) F4.o 50).new 50 #[.u 18,.b,.o,.e,.e,.e,.o,.slice (some ⟨w4.heap.size,0,none⟩) 1 1]);obtain⟨w5,hw⟩:=aab ((w4.alloc (.cells #[.u (h6.o.toNat:Int),.u (h6.v.k.toNat:Int),.i h6.v.n,.s h6.v.s,.s h6.nm,.s h6.of,.i h6.n,.slice A6 m6 c6] 50)).alloc (.cells #[.u 18,.b,.o,.e,.e,.e,.o,.slice (some ⟨w4.heap.size,0,none⟩) 1 1] 50));have F5:Hid (Fr C.g w (((w4.alloc (.cells #[.u (h6.o.toNat:Int),.u (h6.v.k.toNat:Int),.i h6.v.n,.s h6.v.s,.s h6.nm,.s h6.of,.i h6.n,.slice A6 m6 c6] 50)).heap.size,50,#[.u 18,.b,.o,.e,.e,.e,.o,.slice (some ⟨w4.heap.size,0,none⟩) 1 1])::_) _ _ w5):=hw▸Rn;obtain⟨g5,hg⟩:=aab ((w4.alloc (.cells #[.u (h6.o.toNat:Int),.u (h6.v.k.toNat:Int),.i h6.v.n,.s h6.v.s,.s h6.nm,.s h6.of,.i h6.n,.slice A6 m6 c6] 50)).heap.size);rw[←hg]at F5;have hg2:w4.heap.size+1=g5:=by rw[hg];simp
       rw[←hw];try rw[hg2]
       try rw[←hg]
       clear hw hg hg2 Rn;go_wp2_with fail
       with_reducible refine(aN F5.o (n:=1) (cells:=#[.s ⟨#[41]⟩]) [[41]] rfl rfl (by decide)).mono ?_
       rintro e w6 ⟨s7,(E7:Hid _),rfl,(F6:Hid _)⟩;obtain⟨cz,hcz⟩:∃z:List Value,z=[.u 18,.b,.o,.e,.e,.e,.o,.slice (some ⟨w4.heap.size,0,none⟩) 1 1]:=⟨_,rfl⟩;rw[←hcz]at F6;obtain⟨RS,TH,LC,OC⟩:=F6.o.Mg (k:=8) (by rw[hcz];rfl) rfl (by rw[hcz];rfl);have KN:=aa hcz;clear hcz;go_wp2_with (first|refine aU rfl rfl rfl RS.o (by kernel_rfl) (by rw[LC.o];kernel_rfl) ?_|refine wpList_store_mid rfl _ _ _ rfl _ 0 cz.toArray rfl rfl TH.o (by rw[List.size_toArray,LC.o];kernel_rfl) OC.o ?_)
       have FZ:=aa (F6.o.bS cz (by rw[LC.o];rfl));have HS:Hid (Rp.word C.text.size X st=((I.un 18 x6:Ev.Ex),s7)):=by show _=_;unfold Rp.word;rw[if_neg ON.o,if_neg Pw.o,if_neg Qr.o,if_neg Rm.o,HO.o,if_neg (by show¬(18:UInt8)=0;decide)];show I.fold C.text.size X 18 (I.next st)=_;unfold I.fold I.inside;rw[E3.o];simp only[show¬((18:UInt8)=17∧I.ae [42] s3=true)from fun q=>absurd q.1 (by decide),if_false,X6.o];rw[E7.o]
       refine bodyPost_ret (v:=.agg cz.toArray) (results_cell_row rfl _ _ w.heap.size 50 _ (0,0) _ rfl FZ.o.ah ao rfl (by rw[List.size_toArray,LC.o];exact aj)) rfl ?_;rw[HS.o];exact FZ.o.aK (cs:=cz) (El.cz KN.o (Fr.RV 18 rfl FZ.o))
      ·have t5:(s.toList==[115,117,109])=false:=by rw[←hl];simpa using h5
       by_cases h6:tx=[109,105,110]
       ·have t6:(s.toList==[109,105,110])=true:=by rw[←hl,h6];decide
        have ON:=aa (show¬I.ae [110,117,108,108] st=true by rw[KB,decide_eq_true_eq];exact h0);have Pw:=aa (show¬I.ae [116,114,117,101] st=true by rw[KB,decide_eq_true_eq];exact h1);have Qr:=aa (show¬I.ae [102,97,108,115,101] st=true by rw[KB,decide_eq_true_eq];exact h2);have Rm:=aa (show¬I.ae [117,115,101,114] st=true by rw[KB,decide_eq_true_eq];exact h3);have UI:=aa (show¬I.ae [99,111,117,110,116] st=true by rw[KB,decide_eq_true_eq];exact h4);have Xg:=aa (show¬I.ae [115,117,109] st=true by rw[KB,decide_eq_true_eq];exact h5);have P6:=aa (show I.ae [109,105,110] st=true by rw[KB,decide_eq_true_eq];exact h6);have Xf:Hid (I.fe s.data.toList=19):=by show _=_;rw[hs,h6];rfl
        clear KB hl hs h0 h1 h2 h3 h4 h5 h6;obtain⟨pk,hpk,hpz,hpl⟩:=F1.o.q.cell;go_upto_region 27 with fail
        have F2:=aa (F1.o.fj Nf.o hpk);obtain⟨w2,hw⟩:=aab (w1.setCell ⟨C.g,1,none⟩ (.i ((pk:Int)+1)));rw[←hw]at F2⊢;clear hw hpk hpz hpl;go_wp2_with fail
        with_reducible refine(aN F2.o (n:=1) (cells:=#[.s ⟨#[40]⟩]) [[40]] rfl rfl (by decide)).mono ?_
        rintro e w3 ⟨s3,(E3:Hid _),rfl,(F3:Hid _)⟩;have hl3:=I.av C.text.size [[40]] (I.next st);rw[E3.o]at hl3;have HO:Hid (I.one I.dd st=(19,I.next st)):=by show _=_;unfold I.dd;rw[I.aA,if_neg UI.o,I.aA,if_neg Xg.o,I.aA,if_pos P6.o]
        go_wp2_with fail
        with_reducible refine(kM s _).mono ?_
        rintro e w4 ⟨rfl,rfl⟩;rw[Xf.o];go_wp2_with fail
        with_reducible refine((HK.o s3.r.length (by omega)).f F3.o (Nat.le_refl _)).mono ?_
        rintro e w4 ⟨h6,A6,m6,c6,x6,s6,(X6:Hid _),rfl,(F4:Hid _)⟩;go_upto_region 29 with fail
        have Rn:=aa ((Fr.ff (E:=Kr) (cs:=[.u (h6.o.toNat:Int),.u (h6.v.k.toNat:Int),.i h6.v.n,.s h6.v.s,.s h6.nm,.s h6.of,.i h6.n,.slice A6 m6 c6]) F4.o 50).new 50 #[.u 19,.b,.o,.e,.e,.e,.o,.slice (some ⟨w4.heap.size,0,none⟩) 1 1]);obtain⟨w5,hw⟩:=aab ((w4.alloc (.cells #[.u (h6.o.toNat:Int),.u (h6.v.k.toNat:Int),.i h6.v.n,.s h6.v.s,.s h6.nm,.s h6.of,.i h6.n,.slice A6 m6 c6] 50)).alloc (.cells #[.u 19,.b,.o,.e,.e,.e,.o,.slice (some ⟨w4.heap.size,0,none⟩) 1 1] 50));have F5:Hid (Fr C.g w (((w4.alloc (.cells #[.u (h6.o.toNat:Int),.u (h6.v.k.toNat:Int),.i h6.v.n,.s h6.v.s,.s h6.nm,.s h6.of,.i h6.n,.slice A6 m6 c6] 50)).heap.size,50,#[.u 19,.b,.o,.e,.e,.e,.o,.slice (some ⟨w4.heap.size,0,none⟩) 1 1])::_) _ _ w5):=hw▸Rn;obtain⟨g5,hg⟩:=aab ((w4.alloc (.cells #[.u (h6.o.toNat:Int),.u (h6.v.k.toNat:Int),.i h6.v.n,.s h6.v.s,.s h6.nm,.s h6.of,.i h6.n,.slice A6 m6 c6] 50)).heap.size);rw[←hg]at F5;have hg2:w4.heap.size+1=g5:=by rw[hg];simp
        rw[←hw];try rw[hg2]
        try rw[←hg]
        clear hw hg hg2 Rn;go_wp2_with fail
        with_reducible refine(aN F5.o (n:=1) (cells:=#[.s ⟨#[41]⟩]) [[41]] rfl rfl (by decide)).mono ?_
        rintro e w6 ⟨s7,(E7:Hid _),rfl,(F6:Hid _)⟩;obtain⟨cz,hcz⟩:∃z:List Value,z=[.u 19,.b,.o,.e,.e,.e,.o,.slice (some ⟨w4.heap.size,0,none⟩) 1 1]:=⟨_,rfl⟩;rw[←hcz]at F6;obtain⟨RS,TH,LC,OC⟩:=F6.o.Mg (k:=8) (by rw[hcz];rfl) rfl (by rw[hcz];rfl);have KN:=aa hcz;clear hcz;go_wp2_with (first|refine aU rfl rfl rfl RS.o (by kernel_rfl) (by rw[LC.o];kernel_rfl) ?_|refine wpList_store_mid rfl _ _ _ rfl _ 0 cz.toArray rfl rfl TH.o (by rw[List.size_toArray,LC.o];kernel_rfl) OC.o ?_)
        have FZ:=aa (F6.o.bS cz (by rw[LC.o];rfl));have HS:Hid (Rp.word C.text.size X st=((I.un 19 x6:Ev.Ex),s7)):=by show _=_;unfold Rp.word;rw[if_neg ON.o,if_neg Pw.o,if_neg Qr.o,if_neg Rm.o,HO.o,if_neg (by show¬(19:UInt8)=0;decide)];show I.fold C.text.size X 19 (I.next st)=_;unfold I.fold I.inside;rw[E3.o];simp only[show¬((19:UInt8)=17∧I.ae [42] s3=true)from fun q=>absurd q.1 (by decide),if_false,X6.o];rw[E7.o]
        refine bodyPost_ret (v:=.agg cz.toArray) (results_cell_row rfl _ _ w.heap.size 50 _ (0,0) _ rfl FZ.o.ah ao rfl (by rw[List.size_toArray,LC.o];exact aj)) rfl ?_;rw[HS.o];exact FZ.o.aK (cs:=cz) (El.cz KN.o (Fr.RV 19 rfl FZ.o))
       ·have t6:(s.toList==[109,105,110])=false:=by rw[←hl];simpa using h6
        by_cases h7:tx=[109,97,120]
        ·have t7:(s.toList==[109,97,120])=true:=by rw[←hl,h7];decide
         have ON:=aa (show¬I.ae [110,117,108,108] st=true by rw[KB,decide_eq_true_eq];exact h0);have Pw:=aa (show¬I.ae [116,114,117,101] st=true by rw[KB,decide_eq_true_eq];exact h1);have Qr:=aa (show¬I.ae [102,97,108,115,101] st=true by rw[KB,decide_eq_true_eq];exact h2);have Rm:=aa (show¬I.ae [117,115,101,114] st=true by rw[KB,decide_eq_true_eq];exact h3);have UI:=aa (show¬I.ae [99,111,117,110,116] st=true by rw[KB,decide_eq_true_eq];exact h4);have Xg:=aa (show¬I.ae [115,117,109] st=true by rw[KB,decide_eq_true_eq];exact h5);have Ng6:=aa (show¬I.ae [109,105,110] st=true by rw[KB,decide_eq_true_eq];exact h6);have P7:=aa (show I.ae [109,97,120] st=true by rw[KB,decide_eq_true_eq];exact h7);have Xf:Hid (I.fe s.data.toList=20):=by show _=_;rw[hs,h7];rfl
         clear KB hl hs h0 h1 h2 h3 h4 h5 h6 h7;obtain⟨pk,hpk,hpz,hpl⟩:=F1.o.q.cell;go_upto_region 27 with fail
         have F2:=aa (F1.o.fj Nf.o hpk);obtain⟨w2,hw⟩:=aab (w1.setCell ⟨C.g,1,none⟩ (.i ((pk:Int)+1)));rw[←hw]at F2⊢;clear hw hpk hpz hpl;go_wp2_with fail
         with_reducible refine(aN F2.o (n:=1) (cells:=#[.s ⟨#[40]⟩]) [[40]] rfl rfl (by decide)).mono ?_
         rintro e w3 ⟨s3,(E3:Hid _),rfl,(F3:Hid _)⟩;have hl3:=I.av C.text.size [[40]] (I.next st);rw[E3.o]at hl3;have HO:Hid (I.one I.dd st=(20,I.next st)):=by show _=_;unfold I.dd;rw[I.aA,if_neg UI.o,I.aA,if_neg Xg.o,I.aA,if_neg Ng6.o,I.aA,if_pos P7.o]
         go_wp2_with fail
         with_reducible refine(kM s _).mono ?_
         rintro e w4 ⟨rfl,rfl⟩;rw[Xf.o];go_wp2_with fail
         with_reducible refine((HK.o s3.r.length (by omega)).f F3.o (Nat.le_refl _)).mono ?_
         rintro e w4 ⟨h6,A6,m6,c6,x6,s6,(X6:Hid _),rfl,(F4:Hid _)⟩;go_upto_region 29 with fail
         have Rn:=aa ((Fr.ff (E:=Kr) (cs:=[.u (h6.o.toNat:Int),.u (h6.v.k.toNat:Int),.i h6.v.n,.s h6.v.s,.s h6.nm,.s h6.of,.i h6.n,.slice A6 m6 c6]) F4.o 50).new 50 #[.u 20,.b,.o,.e,.e,.e,.o,.slice (some ⟨w4.heap.size,0,none⟩) 1 1]);obtain⟨w5,hw⟩:=aab ((w4.alloc (.cells #[.u (h6.o.toNat:Int),.u (h6.v.k.toNat:Int),.i h6.v.n,.s h6.v.s,.s h6.nm,.s h6.of,.i h6.n,.slice A6 m6 c6] 50)).alloc (.cells #[.u 20,.b,.o,.e,.e,.e,.o,.slice (some ⟨w4.heap.size,0,none⟩) 1 1] 50));have F5:Hid (Fr C.g w (((w4.alloc (.cells #[.u (h6.o.toNat:Int),.u (h6.v.k.toNat:Int),.i h6.v.n,.s h6.v.s,.s h6.nm,.s h6.of,.i h6.n,.slice A6 m6 c6] 50)).heap.size,50,#[.u 20,.b,.o,.e,.e,.e,.o,.slice (some ⟨w4.heap.size,0,none⟩) 1 1])::_) _ _ w5):=hw▸Rn;obtain⟨g5,hg⟩:=aab ((w4.alloc (.cells #[.u (h6.o.toNat:Int),.u (h6.v.k.toNat:Int),.i h6.v.n,.s h6.v.s,.s h6.nm,.s h6.of,.i h6.n,.slice A6 m6 c6] 50)).heap.size);rw[←hg]at F5;have hg2:w4.heap.size+1=g5:=by rw[hg];simp
         rw[←hw];try rw[hg2]
         try rw[←hg]
         clear hw hg hg2 Rn;go_wp2_with fail
         with_reducible refine(aN F5.o (n:=1) (cells:=#[.s ⟨#[41]⟩]) [[41]] rfl rfl (by decide)).mono ?_
         rintro e w6 ⟨s7,(E7:Hid _),rfl,(F6:Hid _)⟩;obtain⟨cz,hcz⟩:∃z:List Value,z=[.u 20,.b,.o,.e,.e,.e,.o,.slice (some ⟨w4.heap.size,0,none⟩) 1 1]:=⟨_,rfl⟩;rw[←hcz]at F6;obtain⟨RS,TH,LC,OC⟩:=F6.o.Mg (k:=8) (by rw[hcz];rfl) rfl (by rw[hcz];rfl);have KN:=aa hcz;clear hcz;go_wp2_with (first|refine aU rfl rfl rfl RS.o (by kernel_rfl) (by rw[LC.o];kernel_rfl) ?_|refine wpList_store_mid rfl _ _ _ rfl _ 0 cz.toArray rfl rfl TH.o (by rw[List.size_toArray,LC.o];kernel_rfl) OC.o ?_)
         have FZ:=aa (F6.o.bS cz (by rw[LC.o];rfl));have HS:Hid (Rp.word C.text.size X st=((I.un 20 x6:Ev.Ex),s7)):=by show _=_;unfold Rp.word;rw[if_neg ON.o,if_neg Pw.o,if_neg Qr.o,if_neg Rm.o,HO.o,if_neg (by show¬(20:UInt8)=0;decide)];show I.fold C.text.size X 20 (I.next st)=_;unfold I.fold I.inside;rw[E3.o];simp only[show¬((20:UInt8)=17∧I.ae [42] s3=true)from fun q=>absurd q.1 (by decide),if_false,X6.o];rw[E7.o]
         refine bodyPost_ret (v:=.agg cz.toArray) (results_cell_row rfl _ _ w.heap.size 50 _ (0,0) _ rfl FZ.o.ah ao rfl (by rw[List.size_toArray,LC.o];exact aj)) rfl ?_;rw[HS.o];exact FZ.o.aK (cs:=cz) (El.cz KN.o (Fr.RV 20 rfl FZ.o))
        ·have t7:(s.toList==[109,97,120])=false:=by rw[←hl];simpa using h7
         have ON:=aa (show¬I.ae [110,117,108,108] st=true by rw[KB,decide_eq_true_eq];exact h0);have Pw:=aa (show¬I.ae [116,114,117,101] st=true by rw[KB,decide_eq_true_eq];exact h1);have Qr:=aa (show¬I.ae [102,97,108,115,101] st=true by rw[KB,decide_eq_true_eq];exact h2);have Rm:=aa (show¬I.ae [117,115,101,114] st=true by rw[KB,decide_eq_true_eq];exact h3);have UI:=aa (show¬I.ae [99,111,117,110,116] st=true by rw[KB,decide_eq_true_eq];exact h4);have Xg:=aa (show¬I.ae [115,117,109] st=true by rw[KB,decide_eq_true_eq];exact h5);have Ng6:=aa (show¬I.ae [109,105,110] st=true by rw[KB,decide_eq_true_eq];exact h6);have Ng7:=aa (show¬I.ae [109,97,120] st=true by rw[KB,decide_eq_true_eq];exact h7);clear KB hl hs h0 h1 h2 h3 h4 h5 h6 h7;have HO:Hid (I.one I.dd st=(0,st)):=by show _=_;unfold I.dd;rw[I.aA,if_neg UI.o,I.aA,if_neg Xg.o,I.aA,if_neg Ng6.o,I.aA,if_neg Ng7.o];rfl
         go_wp2_with fail
         with_reducible refine(bh F1.o).mono ?_
         rintro e w2 ⟨n1,s1,(N1:Hid _),(Z1:Hid _),rfl,(F2:Hid _)⟩;go_upto_region 32 with fail
         have F3:=aa (F2.o.new 50 #[.u 2,.b,.o,.e,.s (I.bs n1),.e,.o,.z]);obtain⟨w3,hw⟩:=aab (w2.alloc (.cells #[.u 2,.b,.o,.e,.s (I.bs n1),.e,.o,.z] 50));obtain⟨g3,hg⟩:=aab w2.heap.size;rw[←hw,←hg]at F3;rw[←hw,←hg];clear hw hg;go_wp2_with fail
         with_reducible refine(aG ⟨#[46]⟩ [46] rfl F3.o).mono ?_
         rintro e w4 ⟨b,hb,rfl,hF⟩;cases b with
         |true=>
          have Ku:=aa hb;have F4:Hid (Fr C.g w _ _ (RS C (I.next s1)) w4):=hF;clear hF hb;have kq4:=F4.o.ab.cell 4;simp at kq4;have QC:=F4.o.ab.cell 5;simp at QC;have Ph:=F4.o.ab.frozen 5;go_upto_region 34 with fail
          have F5:=aa (F4.o.aO 5 (.s (I.bs n1)) (cs':=#[.u 2,.b,.o,.e,.s (I.bs n1),.s (I.bs n1),.o,.z]) rfl);obtain⟨w5,hw⟩:=aab (w4.setCell ⟨g3,5,none⟩ (.s (I.bs n1)));rw[←hw]at F5⊢;clear hw QC Ph;skip;go_wp2_with fail
          with_reducible refine(bh F5.o).mono ?_
          rintro e w6 ⟨n2,s2,(N2:Hid _),(Z2:Hid _),rfl,hF⟩;have F6:=aa hF;clear hF;have O2:=F6.o.ab.cell 4;simp at O2;have Oj:=F6.o.ab.frozen 4;go_upto_region 35 with fail
          have F7:=aa (F6.o.aO 4 (.s (I.bs n2)) (cs':=#[.u 2,.b,.o,.e,.s (I.bs n2),.s (I.bs n1),.o,.z]) rfl);obtain⟨w7,hw⟩:=aab (w6.setCell ⟨g3,4,none⟩ (.s (I.bs n2)));rw[←hw]at F7⊢;clear hw O2 Oj;obtain⟨cz,hcz⟩:∃z:List Value,z=[.u 2,.b,.o,.e,.s (I.bs n2),.s (I.bs n1),.o,.z]:=⟨_,rfl⟩;rw[←hcz]at F7;obtain⟨RS,TH,LC,OC⟩:=F7.o.Mg (k:=8) (by rw[hcz];rfl) rfl (by rw[hcz];rfl);have KN:=aa hcz;clear hcz;go_wp2_with (first|refine aU rfl rfl rfl RS.o (by kernel_rfl) (by rw[LC.o];kernel_rfl) ?_|refine wpList_store_mid rfl _ _ _ rfl _ 0 cz.toArray rfl rfl TH.o (by rw[List.size_toArray,LC.o];kernel_rfl) OC.o ?_)
          have FZ:=aa (F7.o.bS cz (by rw[LC.o];rfl));have HS:Hid (Rp.word C.text.size X st=((.mk ⟨2,⟨0,0,I.aQ⟩,I.bs n2,I.bs n1,0⟩ []:Ev.Ex),s2)):=by show _=_;unfold Rp.word;rw[if_neg ON.o,if_neg Pw.o,if_neg Qr.o,if_neg Rm.o,HO.o,if_pos rfl,if_pos hkind.o];unfold I.cm;rw[N1.o];simp only;rw[if_pos Ku.o,N2.o]
          refine bodyPost_ret (v:=.agg cz.toArray) (results_cell_row rfl _ _ w.heap.size 50 _ (0,0) _ rfl FZ.o.ah ao rfl (by rw[List.size_toArray,LC.o];exact aj)) rfl ?_;rw[HS.o];exact FZ.o.aK (cs:=cz) (El.cz KN.o ((bU (lH Z2.o Z1.o):XR _ _ (ai ⟨2,⟨0,0,I.aQ⟩,I.bs n2,I.bs n1,0⟩ none 0 0) _)))
         |false=>
          have Ku:=aa hb;have F4:Hid (Fr C.g w _ _ (RS C s1) w4):=hF;clear hF hb;obtain⟨cz,hcz⟩:∃z:List Value,z=[.u 2,.b,.o,.e,.s (I.bs n1),.e,.o,.z]:=⟨_,rfl⟩;rw[←hcz]at F4;obtain⟨RS,TH,LC,OC⟩:=F4.o.Mg (k:=8) (by rw[hcz];rfl) rfl (by rw[hcz];rfl);have KN:=aa hcz;clear hcz;go_wp2_with (first|refine aU rfl rfl rfl RS.o (by kernel_rfl) (by rw[LC.o];kernel_rfl) ?_|refine wpList_store_mid rfl _ _ _ rfl _ 0 cz.toArray rfl rfl TH.o (by rw[List.size_toArray,LC.o];kernel_rfl) OC.o ?_)
          have FZ:=aa (F4.o.bS cz (by rw[LC.o];rfl));have HS:Hid (Rp.word C.text.size X st=((.mk ⟨2,⟨0,0,I.aQ⟩,I.bs n1,I.aQ,0⟩ []:Ev.Ex),s1)):=by show _=_;unfold Rp.word;rw[if_neg ON.o,if_neg Pw.o,if_neg Qr.o,if_neg Rm.o,HO.o,if_pos rfl,if_pos hkind.o];unfold I.cm;rw[N1.o];simp only;rw[if_neg (by rw[Ku.o];decide)]
          refine bodyPost_ret (v:=.agg cz.toArray) (results_cell_row rfl _ _ w.heap.size 50 _ (0,0) _ rfl FZ.o.ah ao rfl (by rw[List.size_toArray,LC.o];exact aj)) rfl ?_;rw[HS.o];exact FZ.o.aK (cs:=cz) (El.cz KN.o ((bU (lH (o:=[]) Z1.o (Nat.zero_le _)):XR _ _ (ai ⟨2,⟨0,0,I.aQ⟩,I.bs n1,I.aQ,0⟩ none 0 0) _)))
end
end Go.Proofs.YtnicfobpclehkaaGreatDoor
