import Derived.Test.YtnicfobpclehkaaGreatDoorP32
set_option maxHeartbeats 3200000
set_option linter.unusedVariables false
set_option linter.unusedSimpArgs false
namespace Go.Proofs.YtnicfobpclehkaaGreatDoor
open Go.RowKit
section
set_option maxRecDepth 100000
theorem I.mn(st:I.St):I.au st=(I.dV st).1∧I.Mv st=(I.dV st).2.1:=by
 unfold I.au I.Mv I.dV;cases st.r<;>exact⟨rfl,rfl⟩
theorem me{v:Cell.Val}(hv:Tt v):pG ⟨1,v,I.aQ,I.aQ,0⟩:=by
 have h0:(I.aQ).size≤maxLen:=by show(I.bs []).size≤_;unfold I.bs maxLen;decide
 exact⟨hv,h0,h0,by show(-9223372036854775808:Int)≤0;decide,by show(0:Int)≤9223372036854775807;decide⟩
theorem su{C:RC}{st:I.St}{w:World}(X:I.St→Ev.Ex×I.St)(h:RS C st w)(hk:I.au st≠1):Rp.word C.text.size X st=(.mk (I.hd 0) [],I.fail C.text.size 300 st):=by
 have hno:∀s∈([[110,117,108,108],[116,114,117,101],[102,97,108,115,101],[117,115,101,114],[99,111,117,110,116],[115,117,109],[109,105,110],[109,97,120]]:List I.Bs),I.ae s st=false:=fun s hs=>by
  cases hr:st.r with
  |nil=>exact I.bI hr
  |cons t r=>
   rw[I.nF hr]
   have hok:=h.tok hr
   have h1:t.1≠1:=by unfold I.au at hk;rw[hr]at hk;exact hk
   by_cases h5:t.1=5
   ·have hw:=hok.2.2.2.2 h5;rw[Bool.and_eq_false_iff];right;refine decide_eq_false fun e=>?_
    rw[e]at hw;simp only[List.mem_cons,List.not_mem_nil,or_false]at hs;rcases hs with rfl|rfl|rfl|rfl|rfl|rfl|rfl|rfl<;>exact absurd hw (by decide)
   ·simp[h1,h5]
 have n0:¬I.ae [110,117,108,108] st=true:=by rw[hno _ (by simp)];decide
 have n1:¬I.ae [116,114,117,101] st=true:=by rw[hno _ (by simp)];decide
 have n2:¬I.ae [102,97,108,115,101] st=true:=by rw[hno _ (by simp)];decide
 have n3:¬I.ae [117,115,101,114] st=true:=by rw[hno _ (by simp)];decide
 have n4:¬I.ae [99,111,117,110,116] st=true:=by rw[hno _ (by simp)];decide
 have n5:¬I.ae [115,117,109] st=true:=by rw[hno _ (by simp)];decide
 have n6:¬I.ae [109,105,110] st=true:=by rw[hno _ (by simp)];decide
 have n7:¬I.ae [109,97,120] st=true:=by rw[hno _ (by simp)];decide
 have HO:I.one I.dd st=(0,st):=by unfold I.dd;rw[I.aA,if_neg n4,I.aA,if_neg n5,I.aA,if_neg n6,I.aA,if_neg n7];rfl
 unfold Rp.word;rw[if_neg n0,if_neg n1,if_neg n2,if_neg n3,HO,if_pos rfl,if_neg hk]
theorem tV(C:RC)(X:I.St→Ev.Ex×I.St)(n:Nat)(hK:∀k,k<n→ig C 148 #[.p C.g] X k)(st:I.St)(w:World)(h:RS C st w)(hn:st.r.length≤n):
 Calls Tryz.prog 282 #[.p C.g] w (ER Kr C w (Rp.aD C.text.size X st)):=by
 have HK:=aa hK;have HT:=aa (I.mn st);have HP:=aa h;clear hK;have F0:=aa (Fr.start h.lt h.aJ);clear h;go_enter Tryz.func282,Tryz.ntmps282;have K8:=aa (F0.o.new 50 #[.b,.b,.o,.e,.e,.e,.o,.z]);go_wp2_with fail
 with_reducible refine(gZ K8.o).mono ?_
 rintro e w1 ⟨t3,Rl,rfl,(F1:Hid _)⟩;have T3:=aa Rl;clear Rl;obtain⟨tk,tx,ta⟩:=t3;unfold gd;simp only;have hkd:I.au st=tk:=by rw[HT.o.1,T3.o]
 have hsd:I.Mv st=tx:=by rw[HT.o.2,T3.o]
 have O9:=aa hkd;have UJ:=aa hsd;clear hkd hsd;go_upto_region 2 with fail
 have F2:=aa (F1.o.new 113 #[.u (tk.toNat:Int),.s ⟨tx.toArray⟩,.i (ta:Int)]);obtain⟨w2,hw⟩:=aab (w1.alloc (.cells #[.u (tk.toNat:Int),.s ⟨tx.toArray⟩,.i (ta:Int)] 113));obtain⟨g2,hg⟩:=aab w1.heap.size;rw[←hw,←hg]at F2;rw[←hw,←hg];clear hw hg;have Ks:=F2.o.ab.Y3;simp at Ks;by_cases h2:tk=2
 ·skip;have k2:((tk.toNat:Int)==2)=true:=by rw[h2];decide
  have hkk:I.au st=2∨I.au st=3∨I.au st=4:=by rw[O9.o,h2];decide
  clear h2;go_wp2_with fail
  with_reducible refine(Fr.Du F2.o (iZ C _ _ F2.o.q hkk)).mono ?_
  rintro e w3 ⟨v4,s4,(X4:Hid _),To,rfl,(F3:Hid _)⟩;have V4:=aa To;clear To;have cj2:=F3.o.ah.Y8;simp at cj2;obtain⟨KQ,KS,KT,K4,K5,K6,K7,K9⟩:=F3.o.ah.Z8;go_wp2_with fail
  have FZ:=aa (F3.o.cN (bd (Ch.refl _ _ _) (.inl rfl) (.u 1) (.u (v4.k.toNat:Int)) (.i v4.n) (.s v4.s) .e .e .o .z) (aW F3.o.ah (.u 1) (.u (v4.k.toNat:Int)) (.i v4.n) (.s v4.s) .e .e .o .z));have HS:Hid (Rp.aD C.text.size X st=((I.lit v4:Ev.Ex),s4)):=by show _=_;unfold Rp.aD;rw[if_pos hkk,X4.o]
  refine bodyPost_ret (v:=.agg #[.u 1,.u (v4.k.toNat:Int),.i v4.n,.s v4.s,.e,.e,.o,.z]) (results_cell_row rfl _ _ w.heap.size 50 _ (0,0) _ rfl FZ.o.ah ao rfl aj) rfl ?_;rw[HS.o];exact FZ.o.aK (cs:=[.u 1,.u (v4.k.toNat:Int),.i v4.n,.s v4.s,.e,.e,.o,.z]) ((bU (me V4.o):XR _ _ (ai ⟨1,v4,I.aQ,I.aQ,0⟩ none 0 0) _))
 ·skip;by_cases h3:tk=3
  ·skip;have k2:((tk.toNat:Int)==2)=false:=by rw[h3];decide
   have k3:((tk.toNat:Int)==3)=true:=by rw[h3];decide
   have hkk:I.au st=2∨I.au st=3∨I.au st=4:=by rw[O9.o,h3];decide
   clear h2 h3;go_wp2_with fail
   with_reducible refine(Fr.Du F2.o (iZ C _ _ F2.o.q hkk)).mono ?_
   rintro e w3 ⟨v4,s4,(X4:Hid _),To,rfl,(F3:Hid _)⟩;have V4:=aa To;clear To;have K0:=F3.o.ah.Y8;simp at K0;obtain⟨KQ,KS,KT,K4,K5,K6,K7,K9⟩:=F3.o.ah.Z8;go_wp2_with fail
   have FZ:=aa (F3.o.cN (bd (Ch.refl _ _ _) (.inl rfl) (.u 1) (.u (v4.k.toNat:Int)) (.i v4.n) (.s v4.s) .e .e .o .z) (aW F3.o.ah (.u 1) (.u (v4.k.toNat:Int)) (.i v4.n) (.s v4.s) .e .e .o .z));have HS:Hid (Rp.aD C.text.size X st=((I.lit v4:Ev.Ex),s4)):=by show _=_;unfold Rp.aD;rw[if_pos hkk,X4.o]
   refine bodyPost_ret (v:=.agg #[.u 1,.u (v4.k.toNat:Int),.i v4.n,.s v4.s,.e,.e,.o,.z]) (results_cell_row rfl _ _ w.heap.size 50 _ (0,0) _ rfl FZ.o.ah ao rfl aj) rfl ?_;rw[HS.o];exact FZ.o.aK (cs:=[.u 1,.u (v4.k.toNat:Int),.i v4.n,.s v4.s,.e,.e,.o,.z]) ((bU (me V4.o):XR _ _ (ai ⟨1,v4,I.aQ,I.aQ,0⟩ none 0 0) _))
  ·skip;by_cases h4:tk=4
   ·skip;have k2:((tk.toNat:Int)==2)=false:=by rw[h4];decide
    have k3:((tk.toNat:Int)==3)=false:=by rw[h4];decide
    have k4:((tk.toNat:Int)==4)=true:=by rw[h4];decide
    have hkk:I.au st=2∨I.au st=3∨I.au st=4:=by rw[O9.o,h4];decide
    clear h2 h3 h4;go_wp2_with fail
    with_reducible refine(Fr.Du F2.o (iZ C _ _ F2.o.q hkk)).mono ?_
    rintro e w3 ⟨v4,s4,(X4:Hid _),To,rfl,(F3:Hid _)⟩;have V4:=aa To;clear To;have Le:=F3.o.ah.Y8;simp at Le;obtain⟨KQ,KS,KT,K4,K5,K6,K7,K9⟩:=F3.o.ah.Z8;go_wp2_with fail
    have FZ:=aa (F3.o.cN (bd (Ch.refl _ _ _) (.inl rfl) (.u 1) (.u (v4.k.toNat:Int)) (.i v4.n) (.s v4.s) .e .e .o .z) (aW F3.o.ah (.u 1) (.u (v4.k.toNat:Int)) (.i v4.n) (.s v4.s) .e .e .o .z));have HS:Hid (Rp.aD C.text.size X st=((I.lit v4:Ev.Ex),s4)):=by show _=_;unfold Rp.aD;rw[if_pos hkk,X4.o]
    refine bodyPost_ret (v:=.agg #[.u 1,.u (v4.k.toNat:Int),.i v4.n,.s v4.s,.e,.e,.o,.z]) (results_cell_row rfl _ _ w.heap.size 50 _ (0,0) _ rfl FZ.o.ah ao rfl aj) rfl ?_;rw[HS.o];exact FZ.o.aK (cs:=[.u 1,.u (v4.k.toNat:Int),.i v4.n,.s v4.s,.e,.e,.o,.z]) ((bU (me V4.o):XR _ _ (ai ⟨1,v4,I.aQ,I.aQ,0⟩ none 0 0) _))
   ·skip;have Hn:=aa (show¬(I.au st=2∨I.au st=3∨I.au st=4) by rw[O9.o];rintro(q|q|q);exact h2 q;exact h3 q;exact h4 q);by_cases h5:tk=5
    ·skip;have k2:((tk.toNat:Int)==2)=false:=by rw[h5];decide
     have k3:((tk.toNat:Int)==3)=false:=by rw[h5];decide
     have k4:((tk.toNat:Int)==4)=false:=by rw[h5];decide
     have k5:((tk.toNat:Int)==5)=true:=by rw[h5];decide
     have k1:((tk.toNat:Int)==1)=false:=by rw[h5];decide
     have Hk5:=aa (O9.o.trans h5);clear h2 h3 h4 h5;go_wp2_with fail
     with_reducible refine(aG ⟨#[40]⟩ [40] rfl F2.o).mono ?_
     rintro e w3 ⟨b,hb,rfl,hF⟩;cases b with
     |true=>
      have Ku:=aa hb;have F3:Hid (Fr C.g w _ _ (RS C (I.next st)) w3):=hF;clear hF hb;clear Ks;have hlen:=I.bx Ku.o;have Qs:Hid (I.Mv st=[40]):=by
       show _=_;have q:=Ku.o;unfold I.ae I.hit at q;unfold I.Mv;cases hr:st.r with
       |nil=>rw[hr]at q;exact absurd q (by decide)
       |cons t r=>
        rw[hr]at q;simp only[Bool.and_eq_true,decide_eq_true_eq]at q;exact q.2
      go_wp2_with fail
      with_reducible refine((HK.o (I.next st).r.length (by omega)).f F3.o (Nat.le_refl _)).mono ?_
      rintro e w4 ⟨h5,A5,m5,c5,x5,s5,(X5:Hid _),rfl,(F4:Hid _)⟩;go_upto_region 10 with fail
      have F5:=aa (F4.o.new 50 #[.u (h5.o.toNat:Int),.u (h5.v.k.toNat:Int),.i h5.v.n,.s h5.v.s,.s h5.nm,.s h5.of,.i h5.n,.slice A5 m5 c5]);obtain⟨w5,hw⟩:=aab (w4.alloc (.cells #[.u (h5.o.toNat:Int),.u (h5.v.k.toNat:Int),.i h5.v.n,.s h5.v.s,.s h5.nm,.s h5.of,.i h5.n,.slice A5 m5 c5] 50));obtain⟨g5,hg⟩:=aab w4.heap.size;rw[←hw,←hg]at F5;rw[←hw,←hg];clear hw hg;go_wp2_with fail
      with_reducible refine(aN F5.o (n:=1) (cells:=#[.s ⟨#[41]⟩]) [[41]] rfl rfl (by decide)).mono ?_
      rintro e w6 ⟨s6,(E6:Hid _),rfl,hF⟩;have F6:=aa hF;clear hF;have Ly:=F6.o.ab.Y8;simp at Ly;have Mj:=F6.o.aS.Y8;simp at Mj;obtain⟨KQ,KS,KT,K4,K5,K6,K7,K9⟩:=F6.o.aS.Z8;go_wp2_with fail
      have FZ:=aa (F6.o.lq (bd (Ch.refl _ _ _) (.inl rfl) (.u (h5.o.toNat:Int)) (.u (h5.v.k.toNat:Int)) (.i h5.v.n) (.s h5.v.s) (.s h5.nm) (.s h5.of) (.i h5.n) (.slice A5 m5 c5)) (aW F6.o.aS (.u (h5.o.toNat:Int)) (.u (h5.v.k.toNat:Int)) (.i h5.v.n) (.s h5.v.s) (.s h5.nm) (.s h5.of) (.i h5.n) (.slice A5 m5 c5)));have HS:Hid (Rp.aD C.text.size X st=(x5,s6)):=by show _=_;unfold Rp.aD;rw[if_neg Hn.o,if_pos ⟨Hk5.o,Qs.o⟩];unfold I.inside;rw[show I.expect C.text.size [[40]] st=I.next st by unfold I.expect;rw[if_pos Ku.o];rfl,X5.o];simp only;rw[E6.o]
      refine bodyPost_ret (v:=.agg #[.u (h5.o.toNat:Int),.u (h5.v.k.toNat:Int),.i h5.v.n,.s h5.v.s,.s h5.nm,.s h5.of,.i h5.n,.slice A5 m5 c5]) (results_cell_row rfl _ _ w.heap.size 50 _ (0,0) _ rfl FZ.o.aS ao rfl aj) rfl ?_;rw[HS.o];exact FZ.o.aK (cs:=[.u (h5.o.toNat:Int),.u (h5.v.k.toNat:Int),.i h5.v.n,.s h5.v.s,.s h5.nm,.s h5.of,.i h5.n,.slice A5 m5 c5]) (FZ.o.Kx)
     |false=>
      have Ku:=aa hb;have F3:Hid (Fr C.g w _ _ (RS C st) w3):=hF;clear hF hb;have Qs:Hid (¬(I.au st=5∧I.Mv st=[40])):=by
       rintro⟨q1,q2⟩;have q:=Ku.o;unfold I.ae I.hit at q;unfold I.au at q1;unfold I.Mv at q2;cases hr:st.r with
       |nil=>rw[hr]at q1;exact absurd q1 (by decide)
       |cons t r=>
        rw[hr]at q q1 q2;simp only at q q1 q2;rw[q1,q2]at q;exact absurd q (by decide)
      clear Ks;go_wp2_with fail
      with_reducible refine(dh F3.o).mono ?_
      rintro e w4 ⟨s9,(E9:Hid _),rfl,(F4:Hid _)⟩;have MY:=F4.o.ah.Y8;simp at MY;obtain⟨KQ,KS,KT,K4,K5,K6,K7,K9⟩:=F4.o.ah.Z8;go_wp2_with fail
      have FZ:=aa (F4.o.cN (bd (Ch.refl _ _ _) (.inl rfl) .b .b .o .e .e .e .o .z) (aW F4.o.ah .b .b .o .e .e .e .o .z));have HS:Hid (Rp.aD C.text.size X st=((.mk (I.hd 0) []:Ev.Ex),s9)):=by show _=_;unfold Rp.aD;rw[if_neg Hn.o,if_neg Qs.o,su X HP.o (by rw[Hk5.o];decide)];rw[E9.o]
      refine bodyPost_ret (v:=.agg #[.b,.b,.o,.e,.e,.e,.o,.z]) (results_cell_row rfl _ _ w.heap.size 50 _ (0,0) _ rfl FZ.o.ah ao rfl aj) rfl ?_;rw[HS.o];exact FZ.o.aK (cs:=[.b,.b,.o,.e,.e,.e,.o,.z]) ((bU (jx 0):XR _ _ (ai (I.hd 0) none 0 0) _))
    ·skip;have Qs:Hid (¬(I.au st=5∧I.Mv st=[40])):=by rintro⟨q1,_⟩;rw[O9.o]at q1;exact h5 q1
     by_cases h1:tk=1
     ·skip;have k2:((tk.toNat:Int)==2)=false:=beq_eq_false_iff_ne.2 fun e=>h2 (UInt8.toNat_inj.1 (show tk.toNat=2 by omega))
      have k3:((tk.toNat:Int)==3)=false:=beq_eq_false_iff_ne.2 fun e=>h3 (UInt8.toNat_inj.1 (show tk.toNat=3 by omega))
      have k4:((tk.toNat:Int)==4)=false:=beq_eq_false_iff_ne.2 fun e=>h4 (UInt8.toNat_inj.1 (show tk.toNat=4 by omega))
      have k5:((tk.toNat:Int)==5)=false:=beq_eq_false_iff_ne.2 fun e=>h5 (UInt8.toNat_inj.1 (show tk.toNat=5 by omega))
      have k1:((tk.toNat:Int)==1)=true:=by rw[h1];decide
      obtain⟨t,r,hr,ht1,htx⟩:∃t r,st.r=t::r∧t.1=1∧t.2.1=tx:=by
       have q1:=O9.o;have q2:=UJ.o;unfold I.au at q1;unfold I.Mv at q2;cases hr:st.r with
       |nil=>rw[hr]at q1;rw[h1]at q1;exact absurd q1 (by decide)
       |cons t r=>
        rw[hr]at q1 q2;exact⟨t,r,rfl,q1.trans h1,q2⟩
      have Hr:=aa hr;have Ht:=aa ht1;have Hx:=aa htx;have Hs:Hid ((⟨tx.toArray⟩:ByteArray).data.toList=t.2.1):=by show _=_;rw[Hx.o]
      clear h1 h2 h3 h4 h5 hr ht1 htx;go_wp2_with fail
      with_reducible refine(Fr.jD F2.o (Ag C X n HK.o ⟨tx.toArray⟩ t r st _ F2.o.q hn Hr.o Ht.o Hs.o)).mono ?_
      rintro e w3 ⟨h6,A6,m6,c6,x6,s6,(X6:Hid _),rfl,(F3:Hid _)⟩;have NP:=F3.o.ah.Y8;simp at NP;obtain⟨KQ,KS,KT,K4,K5,K6,K7,K9⟩:=F3.o.ah.Z8;go_wp2_with fail
      have FZ:=aa (F3.o.cN (bd (Ch.refl _ _ _) (.inl rfl) (.u (h6.o.toNat:Int)) (.u (h6.v.k.toNat:Int)) (.i h6.v.n) (.s h6.v.s) (.s h6.nm) (.s h6.of) (.i h6.n) (.slice A6 m6 c6)) (aW F3.o.ah (.u (h6.o.toNat:Int)) (.u (h6.v.k.toNat:Int)) (.i h6.v.n) (.s h6.v.s) (.s h6.nm) (.s h6.of) (.i h6.n) (.slice A6 m6 c6)));have HS:Hid (Rp.aD C.text.size X st=(x6,s6)):=by show _=_;unfold Rp.aD;rw[if_neg Hn.o,if_neg Qs.o,X6.o]
      refine bodyPost_ret (v:=.agg #[.u (h6.o.toNat:Int),.u (h6.v.k.toNat:Int),.i h6.v.n,.s h6.v.s,.s h6.nm,.s h6.of,.i h6.n,.slice A6 m6 c6]) (results_cell_row rfl _ _ w.heap.size 50 _ (0,0) _ rfl FZ.o.ah ao rfl aj) rfl ?_;rw[HS.o];exact FZ.o.aK (cs:=[.u (h6.o.toNat:Int),.u (h6.v.k.toNat:Int),.i h6.v.n,.s h6.v.s,.s h6.nm,.s h6.of,.i h6.n,.slice A6 m6 c6]) (FZ.o.Kx)
     ·skip;have k2:((tk.toNat:Int)==2)=false:=beq_eq_false_iff_ne.2 fun e=>h2 (UInt8.toNat_inj.1 (show tk.toNat=2 by omega))
      have k3:((tk.toNat:Int)==3)=false:=beq_eq_false_iff_ne.2 fun e=>h3 (UInt8.toNat_inj.1 (show tk.toNat=3 by omega))
      have k4:((tk.toNat:Int)==4)=false:=beq_eq_false_iff_ne.2 fun e=>h4 (UInt8.toNat_inj.1 (show tk.toNat=4 by omega))
      have k5:((tk.toNat:Int)==5)=false:=beq_eq_false_iff_ne.2 fun e=>h5 (UInt8.toNat_inj.1 (show tk.toNat=5 by omega))
      have k1:((tk.toNat:Int)==1)=false:=beq_eq_false_iff_ne.2 fun e=>h1 (UInt8.toNat_inj.1 (show tk.toNat=1 by omega))
      have Hn1:=aa h1;clear h1 h2 h3 h4 h5;go_wp2_with fail
      with_reducible refine(dh F2.o).mono ?_
      rintro e w3 ⟨s9,(E9:Hid _),rfl,(F3:Hid _)⟩;have NQ:=F3.o.ah.Y8;simp at NQ;obtain⟨KQ,KS,KT,K4,K5,K6,K7,K9⟩:=F3.o.ah.Z8;go_wp2_with fail
      have FZ:=aa (F3.o.cN (bd (Ch.refl _ _ _) (.inl rfl) .b .b .o .e .e .e .o .z) (aW F3.o.ah .b .b .o .e .e .e .o .z));have HS:Hid (Rp.aD C.text.size X st=((.mk (I.hd 0) []:Ev.Ex),s9)):=by show _=_;unfold Rp.aD;rw[if_neg Hn.o,if_neg Qs.o,su X HP.o (by rw[O9.o];exact Hn1.o)];rw[E9.o]
      refine bodyPost_ret (v:=.agg #[.b,.b,.o,.e,.e,.e,.o,.z]) (results_cell_row rfl _ _ w.heap.size 50 _ (0,0) _ rfl FZ.o.ah ao rfl aj) rfl ?_;rw[HS.o];exact FZ.o.aK (cs:=[.b,.b,.o,.e,.e,.e,.o,.z]) ((bU (jx 0):XR _ _ (ai (I.hd 0) none 0 0) _))
theorem ox(C:RC):∀(M m:Nat),m<M→ig C 148 #[.p C.g] (Rp.Lw C.text.size M) m:=by
 intro M;induction M with
 |zero=>intro m h;omega
 |succ M ih=>
  intro m hm;have hX:Rp.NF (Rp.Lw C.text.size M):=Rp.Jo M;have h1:ig C 282 #[.p C.g] (Rp.aD C.text.size (Rp.Lw C.text.size M)) m:=fun st w hn h=>tV C (Rp.Lw C.text.size M) m (fun k hk=>ih k (by omega)) st w h hn
  have h2:=yb C (Rp.Lw C.text.size M) m h1;have h3:ig C 272 #[.p C.g] (Rp.prod C.text.size (Rp.Lw C.text.size M)) m:=fun st w hn h=>uu C _ hX m h2 st w h hn
  have h4:ig C 259 #[.p C.g] (Rp.sum C.text.size (Rp.Lw C.text.size M)) m:=fun st w hn h=>Ej C _ hX m h3 st w h hn
  have h5:ig C 250 #[.p C.g] (Rp.cmp C.text.size (Rp.Lw C.text.size M)) m:=fun st w hn h=>nU C _ hX m h4 st w h hn
  have h6:=rQ C (Rp.Lw C.text.size M) m h5;have h7:ig C 215 #[.p C.g] (Rp.gz C.text.size (Rp.Lw C.text.size M)) m:=fun st w hn h=>nq C _ hX m h6 st w h hn
  exact fun st w hn h=>nX C _ hX m h7 st w h hn
theorem RS.flag{C:RC}{st st':I.St}{w:World}(h:RS C st w)(hr:st'.r=st.r)(he:st'.e=st.e)(hc:st'.c=st.c):RS C st' w:=by
 obtain⟨⟨k,hB,hk,h1,h2⟩,h3,h4⟩:=h;exact⟨⟨k,by rw[he,hc];exact hB,hk,fun e=>by rw[hr];exact h1 (he▸e),fun e=>by rw[hr];exact h2 (he▸e)⟩,h3,h4⟩
theorem sM(T:Nat)(st:I.St){x:Ev.Ex}{s:I.St}(h:Rp.Lw T (st.r.length+1) st=(x,s)):Rp.expr T st=(x,{s with d:=(I.expr T st).2.d}):=by
 unfold Rp.expr Rp.or;rewrite [h];rfl
theorem ER.flag{C:RC}{w:World}{x:Ev.Ex}{s:I.St}{b:Bool}{e:Ending}{w':World}(h:ER Kr C w (x,s) e w'):ER Kr C w (x,{s with d:=b}) e w':=by
 obtain⟨cs,h1,h2,h3,h4⟩:=h;exact⟨cs,h1,h2,h3.flag rfl rfl rfl,h4⟩
theorem dw(C:RC)(st:I.St)(w:World)(h:RS C st w):Calls Tryz.prog 148 #[.p C.g] w (ER Kr C w (Rp.expr C.text.size st)):=by
 have hc:=ox C (st.r.length+1) st.r.length (by omega) st w (Nat.le_refl _) h;obtain⟨x,s,e⟩:∃x s,Rp.Lw C.text.size (st.r.length+1) st=(x,s):=⟨_,_,(Prod.eta _).symm⟩;rewrite [e]at hc;rewrite [sM _ _ e];exact hc.mono fun _ _ h=>h.flag
end
section
namespace Rp
open I
open Ev (Ex)
section
variable{T:Nat}{α β:Type}
theorem Kw.mk{f g:St→α×St}(h:∀st,Inv st→(f st).2=(g st).2∧((g st).2.e=0→(f st).1=(g st).1)):Kw f g:=h
theorem bg{f g:St→α×St}{F G:α→St→β×St}(h:Kw f g)(hg:KA g)(hF:∀a,Kw (F a) (G a))(hE:∀a,Eo T (G a))(_hG:∀a,KA (G a)):Kw (fun st=>F (f st).1 (f st).2) (fun st=>G (g st).1 (g st).2):=by
 intro st hi;obtain⟨h1,h2⟩:=h st hi;have hi2:Inv (g st).2:=hi.aF (hg st);show(F (f st).1 (f st).2).2=(G (g st).1 (g st).2).2∧((G (g st).1 (g st).2).2.e=0→(F (f st).1 (f st).2).1=(G (g st).1 (g st).2).1);rw[h1];by_cases he:(g st).2.e=0
 ·rw[h2 he];exact hF _ _ hi2
 ·have hr:=hi2 he;have hs:∀a,(G a (g st).2).2=(g st).2:=fun a=>by
   rcases hE a _ hr with q|q
   ·exact q
   ·rw[q,jZ he hr]
  rw[(hF (f st).1 _ hi2).1,hs,hs];exact⟨rfl,fun q=>absurd q he⟩
theorem jb{s:Bs}{f g f' g':St→α×St}(h:Kw f g)(h':Kw f' g'):Kw (fun st=>if ae s st=true then f st else f' st) (fun st=>if ae s st=true then g st else g' st):=by
 intro st hi;show(if ae s st=true then f st else f' st).2=(if ae s st=true then g st else g' st).2∧((if ae s st=true then g st else g' st).2.e=0→(if ae s st=true then f st else f' st).1=(if ae s st=true then g st else g' st).1);by_cases ha:ae s st=true
 ·rw[if_pos ha,if_pos ha];exact h st hi
 ·rw[if_neg ha,if_neg ha];exact h' st hi
theorem iM{f g:St→α×St}(h:Kw f g):Kw (fun st=>f (next st)) (fun st=>g (next st)):=fun _ hi=>h _ (dN hi)
theorem eI{l:List Bs}{f g:St→α×St}(h:Kw f g):Kw (fun st=>f (expect T l st)) (fun st=>g (expect T l st)):=fun _ hi=>h _ (fw hi)
theorem dI{f g:St→α×St}(h:Kw f g)(φ:α→β):Kw (fun st=>(φ (f st).1,(f st).2)) (fun st=>(φ (g st).1,(g st).2)):=fun st hi=>⟨(h st hi).1,fun q=>by show φ _=φ _;rw[(h st hi).2 q]⟩
theorem xz{a:St→α}:KA (fun st=>(a st,st)):=fun st=>LS.refl st
theorem rT{s:Bs}{f g:St→α×St}(h:KA f)(k:KA g):KA (fun st=>if ae s st=true then f st else g st):=by
 intro st;show LS st (if ae s st=true then f st else g st).2;split
 ·exact h st
 ·exact k st
theorem dq{f:St→α×St}{F:α→St→β×St}(h:KA f)(hF:∀a,KA (F a)):KA (fun st=>F (f st).1 (f st).2):=fun st=>(h st).trans (hF _ _)
theorem eD{l:List Bs}{f:St→α×St}(h:KA f):KA (fun st=>f (expect T l st)):=fun st=>(aM T l st).trans (h _)
theorem Dm{f:St→α×St}(h:KA f):KA (fun st=>f (next st)):=fun st=>(ax st).trans (h _)
theorem pq{s s':Bs}{st:St}(h:ae s st=true)(hn:s≠s'):ae s' st=false:=by
 unfold ae hit at*;cases hr:st.r with
 |nil=>rfl
 |cons t r=>
  rw[hr]at h;simp only[Bool.and_eq_true,decide_eq_true_eq]at h;simp only[Bool.and_eq_false_imp,decide_eq_false_iff_not];exact fun _ q=>hn (h.2.symm.trans q)
theorem uR(a b:List Bs):∀st,expect T (a++b) st=expect T b (expect T a st):=by
 induction a with
 |nil=>exact fun st=>rfl
 |cons s a ih=>
  intro st;rw[List.cons_append];by_cases ha:ae s st=true
  ·rw[show expect T (s::(a++b)) st=expect T (a++b) (next st) by rw[expect,if_pos ha],show expect T (s::a) st=expect T a (next st) by rw[expect,if_pos ha]];exact ih _
  ·rw[show expect T (s::(a++b)) st=fail T 300 st by rw[expect,if_neg ha],show expect T (s::a) st=fail T 300 st by rw[expect,if_neg ha]];cases b with
   |nil=>rfl
   |cons s' b=>exact((cK (bq T 300 st) (by simp)).trans (cf _ _ _ (by decide))).symm
theorem jf{s:Bs}{st:St}(h:ae s st=true):expect T [s] st=next st:=by unfold expect;rw[if_pos h];rfl
theorem j7{s:Bs}{l:List Bs}{st:St}(h:ae s st=false):expect T (s::l) st=fail T 300 st:=by unfold expect;rw[if_neg (by rw[h];decide)]
theorem rX:Kw (row T) (I.row T):=fy (ic dL (cd T) ez (by decide))
theorem lR:Kw (aq T) (I.aq T):=
 jb (f:=fun st=>([(expr T (next st)).1],(expr T (next st)).2)) (g:=fun st=>([(I.expr T (next st)).1],(I.expr T (next st)).2)) (dI (iM dL) fun e=>[e]) (Kw.refl _)
theorem pr{α β:Type}(p:α×β):∃a b,p=(a,b):=⟨p.1,p.2,rfl⟩
theorem bnd{α γ σ:Type}(F:α→σ→γ){p:α×σ}{a:α}{s:σ}:p=(a,s)→(match p with|(n,st)=>F n st)=F a s:=by
 intro h;subst h;rfl
theorem Jx(st:St){a s}(h:expr T st=(a,s)):item T st=(fun e st=>if ae [97,115] st=true then((⟨e,(name T (next st)).1⟩:LL),(name T (next st)).2)else(⟨e,[]⟩,st)) (expr T st).1 (expr T st).2:=by
 rw[h];unfold item;rw[h]
theorem JB(st:St):item T st=(fun e st=>if ae [97,115] st=true then((⟨e,(name T (next st)).1⟩:LL),(name T (next st)).2)else(⟨e,[]⟩,st)) (expr T st).1 (expr T st).2:=Jx st (Prod.eta _).symm
theorem Ei(st:St){a s}(h:I.expr T st=(a,s)):I.item T st=(fun e st=>if ae [97,115] st=true then((⟨e,(name T (next st)).1⟩:LL),(name T (next st)).2)else(⟨e,[]⟩,st)) (I.expr T st).1 (I.expr T st).2:=by
 rw[h];unfold I.item;rw[h]
theorem Gq(st:St):I.item T st=(fun e st=>if ae [97,115] st=true then((⟨e,(name T (next st)).1⟩:LL),(name T (next st)).2)else(⟨e,[]⟩,st)) (I.expr T st).1 (I.expr T st).2:=Ei st (Prod.eta _).symm
theorem Gz(st:St){a s}(h:expr T st=(a,s)):order T st=(fun e st=>if ae [100,101,115,99] st=true then((⟨e,true⟩:Ord),next st)else(⟨e,false⟩,acc [97,115,99] st)) (expr T st).1 (expr T st).2:=by
 rw[h];unfold order;rw[h]
theorem EU(st:St):order T st=(fun e st=>if ae [100,101,115,99] st=true then((⟨e,true⟩:Ord),next st)else(⟨e,false⟩,acc [97,115,99] st)) (expr T st).1 (expr T st).2:=Gz st (Prod.eta _).symm
theorem BB(st:St){a s}(h:I.expr T st=(a,s)):I.order T st=(fun e st=>if ae [97,115,99] st=true then((⟨e,false⟩:Ord),next st)else if ae [100,101,115,99] st=true then(⟨e,true⟩,next st)else(⟨e,false⟩,st)) (I.expr T st).1 (I.expr T st).2:=by
 rw[h];unfold I.order;rw[h]
theorem CD(st:St):I.order T st=(fun e st=>if ae [97,115,99] st=true then((⟨e,false⟩:Ord),next st)else if ae [100,101,115,99] st=true then(⟨e,true⟩,next st)else(⟨e,false⟩,st)) (I.expr T st).1 (I.expr T st).2:=BB st (Prod.eta _).symm
theorem CS(st:St){a s b s1}(h:name T st=(a,s))(h1:expr T (expect T [[61]] s)=(b,s1)):du T st=(⟨a,b⟩,s1):=by
 unfold du;exact(bnd (fun n st=>match expr T (expect T [[61]] st)with|(e,st)=>((⟨n,e⟩:La),st)) h).trans (bnd (fun e st=>((⟨a,e⟩:La),st)) h1)
theorem Is(st:St):du T st=(fun n st=>((⟨n,(expr T (expect T [[61]] st)).1⟩:La),(expr T (expect T [[61]] st)).2)) (name T st).1 (name T st).2:=CS st (Prod.eta _).symm (Prod.eta _).symm
theorem Gt(st:St){a s b s1}(h:name T st=(a,s))(h1:I.expr T (expect T [[61]] s)=(b,s1)):I.du T st=(⟨a,b⟩,s1):=by
 unfold I.du;exact(bnd (fun n st=>match I.expr T (expect T [[61]] st)with|(e,st)=>((⟨n,e⟩:La),st)) h).trans (bnd (fun e st=>((⟨a,e⟩:La),st)) h1)
theorem Gf(st:St):I.du T st=(fun n st=>((⟨n,(I.expr T (expect T [[61]] st)).1⟩:La),(I.expr T (expect T [[61]] st)).2)) (name T st).1 (name T st).2:=Gt st (Prod.eta _).symm (Prod.eta _).symm
theorem dU{f f' g g':St→α×St}(e:∀st,f' st=f st)(k:∀st,g' st=g st)(h:Kw f g):Kw f' g':=fun st hi=>by rw[e,k];exact h st hi
theorem sH:Kw (item T) (I.item T):=
 dU JB Gq<|bg (T:=T) (F:=fun e st=>if ae [97,115] st=true then((⟨e,(name T (next st)).1⟩:LL),(name T (next st)).2)else(⟨e,[]⟩,st)) (G:=fun e st=>if ae [97,115] st=true then((⟨e,(name T (next st)).1⟩:LL),(name T (next st)).2)else(⟨e,[]⟩,st))
  dL (cd T) (fun _=>Kw.refl _) (fun _=>Eo.acc (Eo.ret _)) fun _=>rT (Dm (f:=fun st=>(_,(name T st).2)) (bp T)) xz
theorem pV:Kw (order T) (I.order T):=
 dU EU CD<|bg (T:=T) (F:=fun e st=>if ae [100,101,115,99] st=true then((⟨e,true⟩:Ord),next st)else(⟨e,false⟩,acc [97,115,99] st)) (G:=fun e st=>if ae [97,115,99] st=true then((⟨e,false⟩:Ord),next st)else if ae [100,101,115,99] st=true then(⟨e,true⟩,next st)else(⟨e,false⟩,st))
  dL (cd T) (fun e=>by
   intro st hi
   simp only
   by_cases h1:ae [97,115,99] st=true
   ·rw[if_pos h1,if_neg (by rw[pq h1 (by decide)];decide)]
    unfold acc
    rw[if_pos h1]
    exact⟨rfl,fun _=>rfl⟩
   ·rw[if_neg h1]
    unfold acc
    rw[if_neg h1]
    exact⟨rfl,fun _=>rfl⟩) (fun _=>Eo.acc (Eo.acc (Eo.ret _))) fun _=>rT (fun st=>ax st) (rT (fun st=>ax st) xz)
theorem tb:Kw (du T) (I.du T):=
 dU Is Gf<|bg (T:=T) (F:=fun n st=>((⟨n,(expr T (expect T [[61]] st)).1⟩:La),(expr T (expect T [[61]] st)).2)) (G:=fun n st=>((⟨n,(I.expr T (expect T [[61]] st)).1⟩:La),(I.expr T (expect T [[61]] st)).2))
  (Kw.refl _) (bp T) (fun n=>dI (eI dL) fun e=>(⟨n,e⟩:La)) (fun _=>(Eo.fst (f:=fun st=>I.expr T (expect T [[61]] st)) (bJ.exp ez.eo (by simp)).eo _)) fun _=>eD (f:=fun st=>(_,(I.expr T st).2)) (cd T)
theorem zb:Kw (bA T) (I.bA T):=by
 intro st hi;unfold bA I.bA;by_cases hk:au st=2
 ·rw[if_pos hk,if_pos hk];by_cases h0:(fU (Mv st)).2=0
  ·rw[if_pos h0];by_cases h1:(fU (Mv st)).1≤1000000
   ·rw[if_pos ⟨h0,h1⟩,if_neg (by omega)];exact⟨rfl,fun _=>rfl⟩
   ·rw[if_neg (fun q=>h1 q.2),if_pos (by omega)];refine⟨(gH 271 st).symm,fun q=>absurd q ?_⟩;rw[gH];exact bz (by decide)
  ·rw[if_neg (fun q=>h0 q.1),if_neg h0];refine⟨(gH 271 st).symm,fun q=>absurd q ?_⟩;show(next (fail T 271 st)).e≠0;rw[gH];exact bz (by decide)
 ·rw[if_neg hk,if_neg hk];exact⟨rfl,fun _=>rfl⟩
theorem pS{f:Nat}{l:List Src}{st:St}(h:st.r=[]):aI T f l st=(l,st):=by
 cases f with
 |zero=>rfl
 |succ f=>
  unfold aI;rw[if_neg (by rw[bI h];decide)]
theorem fX{f:St→α×St}(h:Eo T f){st:St}(he:st.e≠0)(hr:st.r=[]):(f st).2=st:=by
 rcases h st hr with q|q
 ·exact q
 ·rw[q,jZ he hr]
theorem Fv(l:List Src)(st:St){a s b s1}(h:source T (bM T (l.length-1) 16 (next st))=(a,s))(h1:expr T (expect T [[111,110]] s)=(b,s1)):xr T l st=(l++[{a with on:=[b]}],s1):=by
 unfold xr;exact(bnd (fun s st=>match expr T (expect T [[111,110]] st)with|(e,st)=>(l++[{s with on:=[e]}],st)) h).trans (bnd (fun e st=>(l++[{a with on:=[e]}],st)) h1)
theorem xO(f:Nat)(l:List Src)(st:St){a s b s1}(h:source T (bM T (l.length-1) 16 (next st))=(a,s))(h1:expr T (expect T [[111,110]] s)=(b,s1)):aI T (f+1) l st=if ae [106,111,105,110] st=true then aI T f (l++[{a with on:=[b]}]) s1 else(l,st):=by
 rewrite [aI,Fv l st h h1];rfl
theorem tw(f:Nat)(l:List Src)(st:St):aI T (f+1) l st=if ae [106,111,105,110] st=true then aI T f (l++[{(source T (bM T (l.length-1) 16 (next st))).1 with on:=[(expr T (expect T [[111,110]] (source T (bM T (l.length-1) 16 (next st))).2)).1]}]) (expr T (expect T [[111,110]] (source T (bM T (l.length-1) 16 (next st))).2)).2 else(l,st):=xO f l st (Prod.eta _).symm (Prod.eta _).symm
theorem AG(f:Nat)(l:List Src)(st:St){a s b s1}(h:source T (next st)=(a,s))(h1:I.expr T (expect T [[111,110]] s)=(b,s1)):I.aI T (f+1) l st=if ae [106,111,105,110] st=true then(if 16<l.length then(l,br T (next st),true)else I.aI T f (l++[{a with on:=[b]}]) s1)else(l,st,false):=by
 rewrite [I.aI];refine ite_congr rfl (fun _=>ite_congr rfl (fun _=>rfl) fun _=>?_) fun _=>rfl
 exact(bnd (fun s st=>match I.expr T (expect T [[111,110]] st)with|(e,st)=>I.aI T f (l++[{s with on:=[e]}]) st) h).trans (bnd (fun e st=>I.aI T f (l++[{a with on:=[e]}]) st) h1)
theorem l7(f:Nat)(l:List Src)(st:St):I.aI T (f+1) l st=if ae [106,111,105,110] st=true then(if 16<l.length then(l,br T (next st),true)else I.aI T f (l++[{(source T (next st)).1 with on:=[(I.expr T (expect T [[111,110]] (source T (next st)).2)).1]}]) (I.expr T (expect T [[111,110]] (source T (next st)).2)).2)else(l,st,false):=AG f l st (Prod.eta _).symm (Prod.eta _).symm
theorem qu:∀(n:Nat) (l l':List Src) (st:St),Inv st→(st.e=0→l=l')→l.length=l'.length→1≤l.length→l.length≤17→(aI T n l st).2=(I.aI T n l' st).2.1∧((I.aI T n l' st).2.2=true→(I.aI T n l' st).2.1.e≠0)∧((I.aI T n l' st).2.1.e=0→(aI T n l st).1=(I.aI T n l' st).1):=by
 intro n;induction n with
 |zero=>exact fun l l' st _ he _ _ _=>⟨rfl,fun q=>absurd q Bool.false_ne_true,he⟩
 |succ n ih=>
  intro l l' st hi he hl h1 SZ;rw[tw,l7];cases ha:ae [106,111,105,110] st with
  |false=>
   simp only[Bool.false_eq_true,if_false];exact⟨trivial,fun q=>q.elim,he⟩
  |true=>
   have hr:=fm ha;have h0:st.e=0:=by
    by_cases h0:st.e=0
    ·exact h0
    ·exact absurd (hi h0) hr
   simp only[if_true];by_cases hq:16<l'.length
   ·rw[if_pos hq];have key:∀s:St,s.e≠0→s.r=[]→(aI T n (l++[{(source T s).1 with on:=[(expr T (expect T [[111,110]] (source T s).2)).1]}]) (expr T (expect T [[111,110]] (source T s).2)).2).2=s:=fun s hs hr=>by
     have e1:(source T s).2=s:=fX kK.eo hs hr
     have e2:expect T [[111,110]] s=s:=by rw[cK hr (by simp),jZ hs hr]
     have e3:(expr T s).2=s:=by rw[(dL s fun _=>hr).1,fX ez.eo hs hr]
     rw[e1,e2,e3,pS hr]
    have e:(aI T n (l++[{(source T (bM T (l.length-1) 16 (next st))).1 with on:=[(expr T (expect T [[111,110]] (source T (bM T (l.length-1) 16 (next st))).2)).1]}]) (expr T (expect T [[111,110]] (source T (bM T (l.length-1) 16 (next st))).2)).2).2=br T (next st):=by
     by_cases hz:(next st).r=[]
     ·have hf:bM T (l.length-1) 16 (next st)=next st:=by unfold bM;rw[if_neg];rintro⟨_,q⟩;exact q hz
      have hlong:br T (next st)=fail T 300 (next st):=by unfold br;rw[if_pos hz]
      have e1:(source T (next st)).2=fail T 300 (next st):=kK _ hz;have hn:=bq T 300 (next st);have hne:=bz (T:=T) (n:=300) (st:=next st) (by decide);rw[hf,hlong,e1];have e2:expect T [[111,110]] (fail T 300 (next st))=fail T 300 (next st):=by rw[cK hn (by simp),jZ hne hn]
      have e3:(expr T (fail T 300 (next st))).2=fail T 300 (next st):=by rw[(dL _ fun _=>hn).1,fX ez.eo hne hn]
      rw[e2,e3,pS hn]
     ·have hf:bM T (l.length-1) 16 (next st)=fail T 3 (next st):=by unfold bM;rw[if_pos ⟨by omega,hz⟩]
      have hlong:br T (next st)=fail T 3 (next st):=by unfold br;rw[if_neg hz]
      rw[hf,hlong];exact key _ (bz (by decide)) (bq T 3 _)
    exact⟨e,fun _=>ji,fun q=>absurd q ji⟩
   ·rw[if_neg hq];have hf:bM T (l.length-1) 16 (next st)=next st:=by unfold bM;rw[if_neg];rintro⟨q,_⟩;omega
    rw[hf];have hi1:Inv (expect T [[111,110]] (source T (next st)).2):=fw ((dN hi).aF (eO T _));obtain⟨k1,k2⟩:=dL (T:=T) _ hi1;rw[k1];refine ih _ _ _ (hi1.aF (cd T _)) (fun q=>?_) (by simp[hl]) (by simp) (by simp;omega);rw[k2 q,he h0]
theorem BC(st:St){l s}(h:list T 16 (item T) st=(l,s)):cO T st=if ae [42] st=true then((⟨true,[],[],[],[],[],-1⟩:Kz),next st)else((⟨false,l,[],[],[],[],-1⟩:Kz),s):=by
 unfold cO;rewrite [h];rfl
theorem Iu(st:St):cO T st=if ae [42] st=true then((⟨true,[],[],[],[],[],-1⟩:Kz),next st)else((⟨false,(list T 16 (item T) st).1,[],[],[],[],-1⟩:Kz),(list T 16 (item T) st).2):=BC st (Prod.eta _).symm
theorem Gr(st:St){l s}(h:I.list T 16 (I.item T) st=(l,s)):I.cO T st=if ae [42] st=true then((⟨true,[],[],[],[],[],-1⟩:Kz),next st)else((⟨false,l,[],[],[],[],-1⟩:Kz),s):=by
 unfold I.cO;rewrite [h];rfl
theorem xp(st:St):I.cO T st=if ae [42] st=true then((⟨true,[],[],[],[],[],-1⟩:Kz),next st)else((⟨false,(I.list T 16 (I.item T) st).1,[],[],[],[],-1⟩:Kz),(I.list T 16 (I.item T) st).2):=Gr st (Prod.eta _).symm
theorem Aw:Kw (cO T) (I.cO T):=
 dU Iu xp<|jb (f:=fun st=>((⟨true,[],[],[],[],[],-1⟩:Kz),next st)) (Kw.refl _) (dI (φ:=fun l=>(⟨false,l,[],[],[],[],-1⟩:Kz)) (ic sH (lC T) uj (by decide)))
theorem C8(q:Kz):Kw (dH T q) (I.dH T q):=
 jb (f:=fun st=>(({q with gr:=(list T 16 (expr T) (expect T [[98,121]] (next st))).1}:Kz),(list T 16 (expr T) (expect T [[98,121]] (next st))).2)) (iM (f:=fun st=>(({q with gr:=(list T 16 (expr T) (expect T [[98,121]] st)).1}:Kz),(list T 16 (expr T) (expect T [[98,121]] st)).2)) (dI (φ:=fun l=>({q with gr:=l}:Kz)) (eI (ic dL (cd T) ez (by decide))))) (Kw.refl _)
theorem AV(q:Kz):Kw (dm T q) (I.dm T q):=
 jb (f:=fun st=>(({q with od:=(list T 16 (order T) (expect T [[98,121]] (next st))).1}:Kz),(list T 16 (order T) (expect T [[98,121]] (next st))).2)) (iM (f:=fun st=>(({q with od:=(list T 16 (order T) (expect T [[98,121]] st)).1}:Kz),(list T 16 (order T) (expect T [[98,121]] st)).2)) (dI (φ:=fun l=>({q with od:=l}:Kz)) (eI (ic pV (ka T) zQ (by decide))))) (Kw.refl _)
theorem AD(q:Kz):Kw (db T q) (I.db T q):=
 jb (f:=fun st=>(({q with lim:=(bA T (next st)).1}:Kz),(bA T (next st)).2)) (iM (f:=fun st=>(({q with lim:=(bA T st).1}:Kz),(bA T st).2)) (dI (φ:=fun l=>({q with lim:=l}:Kz)) zb)) (Kw.refl _)
theorem Es(q:Kz):Eo T (I.dH T q):=Eo.acc (f:=fun st=>({q with gr:=(I.list T 16 (I.expr T) (expect T [[98,121]] (next st))).1},(I.list T 16 (I.expr T) (expect T [[98,121]] (next st))).2)) (Eo.ret _)
theorem En(q:Kz):Eo T (I.dm T q):=Eo.acc (f:=fun st=>({q with od:=(I.list T 16 (I.order T) (expect T [[98,121]] (next st))).1},(I.list T 16 (I.order T) (expect T [[98,121]] (next st))).2)) (Eo.ret _)
theorem wY(q:Kz):Eo T (I.db T q):=Eo.acc (f:=fun st=>({q with lim:=(I.bA T (next st)).1},(I.bA T (next st)).2)) (Eo.ret _)
theorem Fq:bJ T (I.cO T):=fun st hr=>by
 rw[xp]
 exact bJ.acc (f:=fun st=>((⟨true,[],[],[],[],[],-1⟩:Kz),next st)) (bJ.fst (f:=I.list T 16 (I.item T)) (jN uj) fun st=>(⟨false,(I.list T 16 (I.item T) st).1,[],[],[],[],-1⟩:Kz)) st hr
def sF(T:Nat)(q:Kz)(st:St):Kz×St:=
 ({q with fr:=(I.aI T ((source T (expect T [[102,114,111,109]] st)).2.r.length+1) [(source T (expect T [[102,114,111,109]] st)).1] (source T (expect T [[102,114,111,109]] st)).2).1,wh:=(I.aq T (I.aI T ((source T (expect T [[102,114,111,109]] st)).2.r.length+1) [(source T (expect T [[102,114,111,109]] st)).1] (source T (expect T [[102,114,111,109]] st)).2).2.1).1},
  (I.aq T (I.aI T ((source T (expect T [[102,114,111,109]] st)).2.r.length+1) [(source T (expect T [[102,114,111,109]] st)).1] (source T (expect T [[102,114,111,109]] st)).2).2.1).2)
theorem JP(q:Kz)(st:St){a s}(h:source T (expect T [[102,114,111,109]] st)=(a,s)):sF T q st=({q with fr:=(I.aI T (s.r.length+1) [a] s).1,wh:=(I.aq T (I.aI T (s.r.length+1) [a] s).2.1).1},(I.aq T (I.aI T (s.r.length+1) [a] s).2.1).2):=by
 unfold sF;rewrite [h];rfl
theorem DA(q:Kz)(st:St){a s l s1 wh s2}(h:source T (expect T [[102,114,111,109]] st)=(a,s))(h1:aI T (s.r.length+1) [a] s=(l,s1))(h2:aq T s1=(wh,s2)):rj T q st=({q with fr:=l,wh:=wh},s2):=by
 unfold rj;exact(bnd (fun a st=>match aI T (st.r.length+1) [a] st with
  |(l,st)=>match aq T st with
   |(wh,st)=>({q with fr:=l,wh:=wh},st)) h).trans ((bnd (fun l st=>match aq T st with
   |(wh,st)=>({q with fr:=l,wh:=wh},st)) h1).trans (bnd (fun wh st=>({q with fr:=l,wh:=wh},st)) h2))
theorem Cg(q:Kz):Kw (rj T q) (sF T q):=by
 intro st hi;obtain⟨a,s1,e⟩:∃a s1,source T (expect T [[102,114,111,109]] st)=(a,s1):=⟨_,_,rfl⟩;have hi1:Inv s1:=(fw hi).aF (da (eO T) e);obtain⟨h1,_,h3⟩:=qu (T:=T) (s1.r.length+1) [a] [a] s1 hi1 (fun _=>rfl) rfl (by simp) (by simp);have hv:=gG T (s1.r.length+1) [a] s1;obtain⟨l,s2',ej⟩:=pr (aI T (s1.r.length+1) [a] s1);obtain⟨wh,s3',ew⟩:=pr (aq T s2');have eF:rj T q st=({q with fr:=l,wh:=wh},s3'):=DA q st e ej ew;rw[ej]at h1 h3;simp only at h1 h3;rw[eF];have eG:=JP (T:=T) q st e;rw[eG];obtain⟨k1,k2⟩:=lR (T:=T) (I.aI T (s1.r.length+1) [a] s1).2.1 (hi1.aF hv);rw[←h1]at k1 k2 h3⊢;rw[ew]at k1 k2;exact⟨k1,fun q=>by rw[←k2 q,←h3 ((fB T _).e q)]⟩
theorem BS(q:Kz):KA (sF T q):=fun st=>(aM T _ st).trans ((eO T _).trans ((gG T _ _ _).trans (fB T _)))
theorem Js(q:Kz):bJ T (sF T q):=by
 intro st hr;have hn:=bq T 300 st;have e1:(source T (expect T [[102,114,111,109]] st)).2=fail T 300 st:=by rw[cK hr (by simp),kK _ hn,cf _ _ _ (by decide)]
 unfold sF;simp only;rw[e1,hn];have e2:∀a,(I.aI T ([]:List Tok).length.succ [a] (fail T 300 st)).2.1=fail T 300 st:=fun a=>by
  rw[l7,if_neg (by rw[bI hn];decide)]
 have e3:=e2 (source T (expect T [[102,114,111,109]] st)).1;show(I.aq T (I.aI T ([]:List Tok).length.succ _ (fail T 300 st)).2.1).2=_;rw[e3,fX ld (bz (by decide)) hn]
def t1(T:Nat)(q:Kz)(st:St):Kz×St:=db T (dm T q st).1 (dm T q st).2
def t2(T:Nat)(q:Kz)(st:St):Kz×St:=t1 T (dH T q st).1 (dH T q st).2
def t3(T:Nat)(q:Kz)(st:St):Kz×St:=t2 T (rj T q st).1 (rj T q st).2
def s1(T:Nat)(q:Kz)(st:St):Kz×St:=I.db T (I.dm T q st).1 (I.dm T q st).2
def s2(T:Nat)(q:Kz)(st:St):Kz×St:=s1 T (I.dH T q st).1 (I.dH T q st).2
def s3(T:Nat)(q:Kz)(st:St):Kz×St:=s2 T (sF T q st).1 (sF T q st).2
def Fh(T:Nat)(st:St):Kz×St:=s3 T (I.cO T st).1 (I.cO T st).2
theorem C5(q:Kz):KA (s1 T q):=dq (F:=fun q st=>I.db T q st) (lB q) fun q=>lN q
theorem CJ(q:Kz):KA (s2 T q):=dq (F:=s1 T) (lk q) C5
theorem Jk(q:Kz):KA (s3 T q):=dq (F:=s2 T) (BS q) CJ
theorem Hb(q:Kz):Eo T (s1 T q):=Eo.bind (F:=fun q st=>I.db T q st) (En q) wY
theorem CE(q:Kz):Eo T (s2 T q):=Eo.bind (F:=s1 T) (Es q) Hb
theorem GW(q:Kz):Eo T (s3 T q):=Eo.bind (F:=s2 T) (Js q).eo CE
theorem JJ(q:Kz):Kw (t1 T q) (s1 T q):=bg (T:=T) (F:=db T) (G:=I.db T) (AV q) (lB q) AD wY lN
theorem JK(q:Kz):Kw (t2 T q) (s2 T q):=bg (T:=T) (F:=t1 T) (G:=s1 T) (C8 q) (lk q) JJ Hb C5
theorem JZ(q:Kz):Kw (t3 T q) (s3 T q):=bg (T:=T) (F:=t2 T) (G:=s2 T) (Cg q) (BS q) JK CE CJ
theorem Kf:Kw (fun st=>t3 T (cO T st).1 (cO T st).2) (Fh T):=bg (T:=T) (F:=t3 T) (G:=s3 T) Aw (oL T) JZ GW Jk
theorem xg(st:St){q s q1 s1 q2 s2 q3 s3}(h:cO T (expect T [[115,101,108,101,99,116]] st)=(q,s))(h1:rj T q s=(q1,s1))(h2:dH T q1 s1=(q2,s2))(h3:dm T q2 s2=(q3,s3)):query T st=db T q3 s3:=by
 unfold query;exact(bnd (fun q st=>match rj T q st with
  |(q,st)=>match dH T q st with
   |(q,st)=>match dm T q st with
    |(q,st)=>db T q st) h).trans ((bnd (fun q st=>match dH T q st with
   |(q,st)=>match dm T q st with
    |(q,st)=>db T q st) h1).trans ((bnd (fun q st=>match dm T q st with
    |(q,st)=>db T q st) h2).trans (bnd (fun q st=>db T q st) h3)))
theorem GD(st:St):query T st=t3 T (cO T (expect T [[115,101,108,101,99,116]] st)).1 (cO T (expect T [[115,101,108,101,99,116]] st)).2:=xg st (Prod.eta _).symm (Prod.eta _).symm (Prod.eta _).symm (Prod.eta _).symm
theorem Jf(q:Kz)(st:St){wh s q2 s2 q3 s3}(h:I.aq T st=(wh,s))(h1:I.dH T {q with wh:=wh} s=(q2,s2))(h2:I.dm T q2 s2=(q3,s3)):I.nu T q st=I.db T q3 s3:=by
 unfold I.nu;exact(bnd (fun wh st=>match I.dH T {q with wh:=wh} st with
  |(q,st)=>match I.dm T q st with
   |(q,st)=>I.db T q st) h).trans ((bnd (fun q st=>match I.dm T q st with
   |(q,st)=>I.db T q st) h1).trans (bnd (fun q st=>I.db T q st) h2))
theorem uG(st:St){q s0 a s1 l s2 b}(h:I.cO T st=(q,s0))(h1:source T (expect T [[102,114,111,109]] s0)=(a,s1))(h2:I.aI T (s1.r.length+1) [a] s1=(l,s2,b)):I.selection T st=if b=true then({q with fr:=l},s2)else I.nu T {q with fr:=l} s2:=by
 unfold I.selection;refine(bnd (fun q st=>match source T (expect T [[102,114,111,109]] st)with
  |(s,st)=>match I.aI T (st.r.length+1) [s] st with
   |(l,st,true)=>({q with fr:=l},st)
   |(l,st,false)=>I.nu T {q with fr:=l} st) h).trans ((bnd (fun s st=>match I.aI T (st.r.length+1) [s] st with
   |(l,st,true)=>({q with fr:=l},st)
   |(l,st,false)=>I.nu T {q with fr:=l} st) h1).trans ?_)
 rewrite [h2];cases b<;>rfl
theorem xx:Kw (Fh T) (I.selection T):=by
 intro st hi;obtain⟨q,s0,e0⟩:=pr (I.cO T st);obtain⟨a,s1',e⟩:=pr (source T (expect T [[102,114,111,109]] s0));have hi0:Inv s0:=hi.aF (da (oL T) e0);have hi1:Inv s1':=(fw hi0).aF (da (eO T) e);obtain⟨_,h2,_⟩:=qu (T:=T) (s1'.r.length+1) [a] [a] s1' hi1 (fun _=>rfl) rfl (by simp) (by simp);have hv:=gG T (s1'.r.length+1) [a] s1';obtain⟨l,s2',b,ej⟩:∃l s2 b,I.aI T (s1'.r.length+1) [a] s1'=(l,s2,b):=⟨_,_,_,rfl⟩;rw[ej]at h2 hv;simp only at h2 hv;have eF:sF T q s0=({q with fr:=l,wh:=(I.aq T s2').1},(I.aq T s2').2):=by rewrite [JP q s0 e,ej];rfl
 have eS:Fh T st=s2 T {q with fr:=l,wh:=(I.aq T s2').1} (I.aq T s2').2:=by unfold Fh s3;rewrite [e0];show s2 T (sF T q s0).1 (sF T q s0).2=_;rewrite [eF];rfl
 have eL:=uG (T:=T) st e0 e ej;rw[eS,eL];cases b with
 |false=>
  have eW:I.nu T {q with fr:=l} s2'=s2 T {q with fr:=l,wh:=(I.aq T s2').1} (I.aq T s2').2:=by exact Jf _ _ (Prod.eta _).symm (Prod.eta _).symm (Prod.eta _).symm
  rw[if_neg (by decide),eW];exact⟨rfl,fun _=>rfl⟩
 |true=>
  have he:=h2 rfl;have hr:=(hi1.aF hv) he;have w1:(I.aq T s2').2=s2':=fX ld he hr;have w2:(s2 T {q with fr:=l,wh:=(I.aq T s2').1} s2').2=s2':=fX (CE _) he hr;rw[if_pos rfl,w1,w2];exact⟨rfl,fun q=>absurd q he⟩
theorem Kw.trans{f g h:St→α×St}(a:Kw f g)(b:Kw g h):Kw f h:=fun st hi=>⟨(a st hi).1.trans (b st hi).1,fun q=>((a st hi).2 (by rw[(b st hi).1];exact q)).trans ((b st hi).2 q)⟩
theorem qt:Kw (query T) (fun st=>I.selection T (expect T [[115,101,108,101,99,116]] st)):=dU GD (fun _=>rfl) (eI (T:=T) (l:=[[115,101,108,101,99,116]]) (Kf.trans xx))
theorem kn:bJ T (I.selection T):=by
 intro st hr;rw[←(xx (T:=T) st fun _=>hr).1];exact bJ.bind (F:=s3 T) Fq GW st hr
end
end Rp
end
end Go.Proofs.YtnicfobpclehkaaGreatDoor
