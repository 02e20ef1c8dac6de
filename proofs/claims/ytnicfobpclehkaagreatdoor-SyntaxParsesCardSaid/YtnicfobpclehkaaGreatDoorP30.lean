import Derived.Test.YtnicfobpclehkaaGreatDoorP29
set_option maxHeartbeats 9600000
set_option linter.unusedVariables false
set_option linter.unusedSimpArgs false
namespace Go.Proofs.YtnicfobpclehkaaGreatDoor
open Go.RowKit
section
set_option maxRecDepth 100000
theorem I.sr{s:I.Bs}{o:UInt8}{st:I.St}(h:I.ae s st=true):I.one [(s,o)] st=(o,I.next st):=by simp only[I.one,if_pos h]
theorem I.D3{s:I.Bs}{o:UInt8}{st:I.St}(h:I.ae s st=false):I.one [(s,o)] st=(0,st):=by simp only[I.one,h,Bool.false_eq_true,if_false]
theorem kP(C:RC)(X:I.St→Ev.Ex×I.St)(hX:Rp.NF X)(n:Nat):
 (∀(_:ig C 280 #[.p C.g] (Rp.unary C.text.size X) n) (st:I.St) (w:World) (_:RS C st w) (_:st.r.length≤n),Calls Tryz.prog 272 #[.p C.g] w (ER Kr C w (Rp.prod C.text.size X st)))∧
 (∀(_:ig C 241 #[.p C.g] (Rp.dz C.text.size X) n) (st:I.St) (w:World) (_:RS C st w) (_:st.r.length≤n),Calls Tryz.prog 215 #[.p C.g] w (ER Kr C w (Rp.gz C.text.size X st)))∧
 (∀(_:ig C 215 #[.p C.g] (Rp.gz C.text.size X) n) (st:I.St) (w:World) (_:RS C st w) (_:st.r.length≤n),Calls Tryz.prog 148 #[.p C.g] w (ER Kr C w (Rp.PK C.text.size X st))):=by
 refine⟨?Xa,?Xb,?gor_⟩;all_goals
  intro hK st w h hn
  have HK:=aa hK
  clear hK
 case' Xa=>
  have HX:=aa (Rp.Dx (T:=C.text.size) hX)
  obtain⟨S,SD⟩:∃S:I.Bs,Hid (S=[42]):=⟨_,rfl⟩
  obtain⟨o,Ho⟩:∃o:UInt8,Hid (o=6):=⟨_,rfl⟩
  have H0:Hid (o≠0):=by show _≠_;rw[Ho.o];decide
  have HC:Hid (Rp.prod C.text.size X st=I.ba (Rp.unary C.text.size X) [(S,o)] ((Rp.unary C.text.size X st).2.r.length+1) (Rp.unary C.text.size X st).1 (Rp.unary C.text.size X st).2):=by rw[SD.o,Ho.o];rfl
  obtain⟨R,hR⟩:=aab (Rp.prod C.text.size X st)
  obtain⟨K,hK2⟩:=aab (Rp.unary C.text.size X)
  rw[←hR,←hK2]at HC
  rw[←hR]
  rw[←hK2]at HK HX
  clear hR hK2
 case' Xb=>
  have HX:=aa (Rp.IU (T:=C.text.size) hX)
  obtain⟨S,SD⟩:∃S:I.Bs,Hid (S=[97,110,100]):=⟨_,rfl⟩
  obtain⟨o,Ho⟩:∃o:UInt8,Hid (o=13):=⟨_,rfl⟩
  have H0:Hid (o≠0):=by show _≠_;rw[Ho.o];decide
  have HC:Hid (Rp.gz C.text.size X st=I.ba (Rp.dz C.text.size X) [(S,o)] ((Rp.dz C.text.size X st).2.r.length+1) (Rp.dz C.text.size X st).1 (Rp.dz C.text.size X st).2):=by rw[SD.o,Ho.o];rfl
  obtain⟨R,hR⟩:=aab (Rp.gz C.text.size X st)
  obtain⟨K,hK2⟩:=aab (Rp.dz C.text.size X)
  rw[←hR,←hK2]at HC
  rw[←hR]
  rw[←hK2]at HK HX
  clear hR hK2
 case' gor_=>
  have HX:=aa (Rp.JC (T:=C.text.size) hX)
  obtain⟨S,SD⟩:∃S:I.Bs,Hid (S=[111,114]):=⟨_,rfl⟩
  obtain⟨o,Ho⟩:∃o:UInt8,Hid (o=14):=⟨_,rfl⟩
  have H0:Hid (o≠0):=by show _≠_;rw[Ho.o];decide
  have HC:Hid (Rp.PK C.text.size X st=I.ba (Rp.gz C.text.size X) [(S,o)] ((Rp.gz C.text.size X st).2.r.length+1) (Rp.gz C.text.size X st).1 (Rp.gz C.text.size X st).2):=by rw[SD.o,Ho.o];rfl
  obtain⟨R,hR⟩:=aab (Rp.PK C.text.size X st)
  obtain⟨K,hK2⟩:=aab (Rp.gz C.text.size X)
  rw[←hR,←hK2]at HC
  rw[←hR]
  rw[←hK2]at HK HX
  clear hR hK2
 all_goals
  have F0:=aa (Fr.start h.lt h.aJ)
  clear h
  first|go_enter Tryz.func272,Tryz.ntmps272|go_enter Tryz.func215,Tryz.ntmps215|go_enter Tryz.func148,Tryz.ntmps148
  have K8:=aa (F0.o.new 50 #[.b,.b,.o,.e,.e,.e,.o,.z])
  go_wp2_with fail
  with_reducible refine(HK.o.f K8.o hn).mono ?_
  rintro e w1 ⟨h1,A1,m1,c1,x1,s1,(X1:Hid _),rfl,(F1:Hid _)⟩
  have hl1:=HX.o.aF F0.o.q.inv
  rw[X1.o]at hl1
  simp only at hl1
  replace hl1:=hl1.1
  go_upto_region 2 with fail
  have F2:=aa (F1.o.new 50 #[.u (h1.o.toNat:Int),.u (h1.v.k.toNat:Int),.i h1.v.n,.s h1.v.s,.s h1.nm,.s h1.of,.i h1.n,.slice A1 m1 c1])
  obtain⟨w2,hw⟩:=aab (w1.alloc (.cells #[.u (h1.o.toNat:Int),.u (h1.v.k.toNat:Int),.i h1.v.n,.s h1.v.s,.s h1.nm,.s h1.of,.i h1.n,.slice A1 m1 c1] 50))
  obtain⟨g2,hg⟩:=aab w1.heap.size
  rw[←hw,←hg]at F2
  rw[←hw,←hg]
  clear hw hg
  have HF:Hid (R=I.ba (K) [(S,o)] (s1.r.length+1) x1 s1):=by show _=_;rw[HC.o,X1.o]
  go_wp2_with fail
  go_loopg [] s1.r.length (fun gg wr=>∃(f:Nat) (e1:Ev.Ex) (s0:I.St) (h1:Ev.Hd) (A1:Option Addr) (m1 c1:Nat),gg=s0.r.length∧s0.r.length≤n∧s0.r.length<f∧Hid (R=I.ba (K) [(S,o)] f e1 s0)∧Hid (Fr C.g w [(g2,50,(ai h1 A1 m1 c1).toArray),(w.heap.size,50,#[.b,.b,.o,.e,.e,.e,.o,.z])] [It.el Kr (ai h1 A1 m1 c1) e1] (RS C s0) wr))
  case atStart=>exact⟨_,x1,s1,h1,A1,m1,c1,rfl,by omega,by omega,HF,F2.o⟩
  case round=>
   clear F2 HF X1 K8 hl1
   obtain⟨f,e1,s0,h1,A1,m1,c1,rfl,hsn,Lu,HF,HR⟩:=hrel
   obtain⟨w5,hw⟩:=aab wr
   subst hw
   have F5:=HR
   clear HR
   go_wp2_with fail
   first|with_reducible refine(aG ⟨#[42]⟩ [42] rfl F5.o).mono ?_|with_reducible refine(aG ⟨#[97,110,100]⟩ [97,110,100] rfl F5.o).mono ?_|with_reducible refine(aG ⟨#[111,114]⟩ [111,114] rfl F5.o).mono ?_
   rintro e w6 ⟨b,hb,rfl,hF⟩
   rw[←SD.o]at hb
   cases b with
   |true=>
    have Ku:=aa hb
    have F6:Hid (Fr C.g w _ _ (RS C (I.next s0)) w6):=hF
    clear hF hb
    have hlen:=I.bx Ku.o
    have HS:Hid (I.ba (K) [(S,o)] f e1 s0=I.ba (K) [(S,o)] (f-1) (I.bin o e1 (K (I.next s0)).1) (K (I.next s0)).2):=by show _=_;have:=I.iD (kid:=K) (e:=e1) (l:=[(S,o)]) (f:=f) (st:=s0) Lu (by rw[I.sr Ku.o];exact H0.o);rw[I.sr Ku.o]at this;exact this
    have hlk:=(HX.o.aF (st:=I.next s0) F6.o.q.inv).1
    have Xc:Hid (Fr C.g w [(g2,50,#[.u (h1.o.toNat:Int),.u (h1.v.k.toNat:Int),.i h1.v.n,.s h1.v.s,.s h1.nm,.s h1.of,.i h1.n,.slice A1 m1 c1]),(w.heap.size,50,#[.b,.b,.o,.e,.e,.e,.o,.z])] [It.el Kr (ai h1 A1 m1 c1) e1] (RS C (I.next s0)) w6):=F6
    clear F6
    have F6:=Xc
    clear Xc
    have Ks:=F6.o.ab.Y8
    simp at Ks
    go_wp2_with fail
    go_region_with ((with_reducible refine(HK.o.fd F6.o (by omega)).mono ?_);rintro e w7 ⟨h7,A7,m7,c7,x7,s7,Rj,rfl,hF⟩;have X7:=aa Rj;have F7:=aa hF;have Vk:=hF.ab.lt;clear Rj hF;have y0:=F7.o.ab.cell 0;have y1:=F7.o.ab.cell 1;have y2:=F7.o.ab.cell 2;have y3:=F7.o.ab.cell 3;have y4:=F7.o.ab.cell 4;have y5:=F7.o.ab.cell 5;have y6:=F7.o.ab.cell 6;have y7:=F7.o.ab.cell 7;simp at y0 y1 y2 y3 y4 y5 y6 y7;have z0:=F7.o.ab.frozen 0;have z1:=F7.o.ab.frozen 1;have z2:=F7.o.ab.frozen 2;have z3:=F7.o.ab.frozen 3;have z4:=F7.o.ab.frozen 4;have z5:=F7.o.ab.frozen 5;have z6:=F7.o.ab.frozen 6;have z7:=F7.o.ab.frozen 7)
    all_goals
     rw[X7.o]at hlk
     have Qc:=HS.o
     rw[X7.o]at Qc
     simp only at Qc hlk
     have F8:=aa (Fr.bin o F7.o (bd (Ch.refl _ _ _) (.inl rfl) _ _ _ _ _ _ _ _) (aW F7.o.ab _ _ _ _ _ _ _ _) (by simp) (t':=50))
     have Sd:=aa (HF.o.trans Qc)
     have hq:=congrArg (fun q=>I.bin q e1 x7) Ho.o
     rw[hq]at Sd
     rw[Ho.o]at F8
     clear hq
     clear Qc HF HS F7 F6 F5 Ks y0 y1 y2 y3 y4 y5 y6 y7 z0 z1 z2 z3 z4 z5 z6 z7
     go_wp2_with fail
     go_roundg s7.r.length
     case measure=>omega
     case rel=>exact⟨f-1,_,s7,_,_,_,_,rfl,by omega,by omega,Sd,F8.o.only (fun F hF=>by simp only[List.mem_singleton]at hF;subst hF;exact List.mem_cons_self)⟩
   |false=>
    have Ku:=aa hb
    have F6:Hid (Fr C.g w _ _ (RS C s0) w6):=hF
    clear hF hb
    have Qg:Hid (R=(e1,s0)):=by show _=_;rw[HF.o];exact I.kJ Lu (by rw[I.D3 Ku.o])
    have Xc:Hid (Fr C.g w [(g2,50,#[.u (h1.o.toNat:Int),.u (h1.v.k.toNat:Int),.i h1.v.n,.s h1.v.s,.s h1.nm,.s h1.of,.i h1.n,.slice A1 m1 c1]),(w.heap.size,50,#[.b,.b,.o,.e,.e,.e,.o,.z])] [It.el Kr (ai h1 A1 m1 c1) e1] (RS C s0) w6):=F6
    clear F6
    have F6:=Xc
    clear Xc
    obtain⟨cz,hcz⟩:∃z:List Value,z=[.u (h1.o.toNat:Int),.u (h1.v.k.toNat:Int),.i h1.v.n,.s h1.v.s,.s h1.nm,.s h1.of,.i h1.n,.slice A1 m1 c1]:=⟨_,rfl⟩
    rw[←hcz]at F6
    obtain⟨RS,TH,LC,OC⟩:=F6.o.Mg (k:=8) (by rw[hcz];rfl) rfl (by rw[hcz];rfl)
    have KN:=aa hcz
    clear hcz
    go_wp2_with (first|refine aU rfl rfl rfl RS.o (by kernel_rfl) (by rw[LC.o];kernel_rfl) ?_|refine wpList_store_mid rfl _ _ _ rfl _ 0 cz.toArray rfl rfl TH.o (by rw[List.size_toArray,LC.o];kernel_rfl) OC.o ?_)
    have FZ:=aa (F6.o.bS cz (by rw[LC.o];rfl))
    have HS:Hid (R=(e1,s0)):=by show _=_;rw[Qg.o]
    refine bodyPost_ret (v:=.agg cz.toArray) (results_cell_row rfl _ _ w.heap.size 50 _ (0,0) _ rfl FZ.o.ah ao rfl (by rw[List.size_toArray,LC.o];exact aj)) rfl ?_
    rw[HS.o]
    exact FZ.o.aK (cs:=cz) (El.cz KN.o (FZ.o.Kx))
abbrev uu (C:RC) (X:I.St→Ev.Ex×I.St) (hX:Rp.NF X) (n:Nat):=(kP C X hX n).1
abbrev nq (C:RC) (X:I.St→Ev.Ex×I.St) (hX:Rp.NF X) (n:Nat):=(kP C X hX n).2.1
abbrev nX (C:RC) (X:I.St→Ev.Ex×I.St) (hX:Rp.NF X) (n:Nat):=(kP C X hX n).2.2
end
section
set_option maxRecDepth 100000
theorem fG:Tryz.prog.underlying 48=some (.struct (Tryz.prog.fieldsOf 48)):=J8
theorem fp:(Tryz.prog.info? 48).map (·.size)=some 3:=ID
theorem Bh{s:I.Bs}(h:Lex.jt s):∀c∈s,c=46∨Lex.digit c=true:=by
 obtain⟨a,b,ha,NI,Vf,⟨rfl,rfl⟩|⟨rfl,h1,h4⟩⟩:=h
 ·exact fun c hc=>.inr (NI c hc)
 ·intro c hc;rcases List.mem_append.1 hc with h|h
  ·exact .inr (NI c h)
  ·rcases List.mem_cons.1 h with h|h
   ·exact .inl h
   ·exact .inr (Vf c h)
theorem mQ(l:I.Bs)(w:World)(hn:Lex.jt l)(hs:l.length≤4096):
 Calls Tryz.prog 218 #[.s ⟨l.toArray⟩] w (eZ w (if(I.cR (I.bN l).1).2=0 then some (I.df (I.bN l).1,(I.bN l).2)else none)):=by
 have hsz:(⟨l.toArray⟩:ByteArray).size=l.length:=by have:=aH ⟨l.toArray⟩;simpa using this.symm
 have:=sY ⟨l.toArray⟩ w (by simpa using Bh hn) (by rw[hsz];exact hs);simp only at this;rw[I.GH hn]at this;exact this
theorem sE{l:I.Bs}(h:(I.cR l).2=0):(I.cR l).1=(I.df l:Int):=by
 unfold I.cR at*;split
 ·rfl
 ·rename_i hh;rw[if_neg hh]at h;exact absurd h (by decide)
theorem rq{k:UInt8}{n:Int}{l:I.Bs}(h1: -9223372036854775808≤n)(h2:n≤9223372036854775807)(hl:l.length≤4096):Tt ⟨k,n,I.bs l⟩:=by
 have hs:(I.bs l).size≤maxLen:=by have:=aH (I.bs l);rw[cL]at this;unfold maxLen;omega
 exact⟨hs,h1,h2⟩
theorem iZ(C:RC)(st:I.St)(w:World)(h:RS C st w)(hk:I.au st=2∨I.au st=3∨I.au st=4):
 Calls Tryz.prog 284 #[.p C.g] w (I9 C w (Rp.nv C.text.size st)):=by
 have HP:=aa h;obtain⟨t,r,hr⟩:∃t r,st.r=t::r:=by
  cases hr:st.r with
  |nil=>exact absurd hk (by unfold I.au;rw[hr];decide)
  |cons t r=>exact⟨t,r,rfl⟩
 have hne:st.r≠[]:=by rw[hr];simp
 have Nf:=aa hne;have hok:=h.tok hr;obtain⟨tk,tx,ta⟩:=t;have hT:I.dV st=(tk,tx,ta):=by unfold I.dV;rw[hr]
 have HT:=aa hT;have hkk:tk=2∨tk=3∨tk=4:=by unfold I.au at hk;rw[hr]at hk;exact hk
 have Tn:=aa (h.e0 hne);have Mf:Hid ((I.next st).e=0):=Tn;have HFl:∀x,Hid (x=I.place C.text.size st→I.fail C.text.size 271 st=⟨[],271,x,(I.next st).d⟩):=fun x=>aa (fun hx=>by unfold I.fail;rw[if_pos Tn.o,hx];rfl)
 have Xd:=aa HFl;clear HFl;have HLen:=aa (show tx.length≤4096 from hok.2.1);have Ua:=aa (show tk=2→Lex.jt tx from hok.2.2.1);have HV:Hid (Rp.nv C.text.size st=if tk=3 then(⟨4,0,I.bs tx⟩,I.next st)else if tk=4 then(⟨5,0,I.bs tx⟩,I.next st)else if(I.cR (I.bN tx).1).2=0 then(⟨(I.bN tx).2,(I.cR (I.bN tx).1).1,I.aQ⟩,I.next st)else(⟨0,0,I.aQ⟩,I.fail C.text.size 271 st)):=by show _=_;unfold Rp.nv;rw[hr]
 clear hr hne hok hT hk;have F0:=aa (Fr.start h.lt h.aJ);clear h;go_enter Tryz.func284,Tryz.ntmps284;have K8:=aa (F0.o.new 48 #[.b,.o,.e]);go_wp2_with fail
 with_reducible refine(gZ K8.o).mono ?_
 rintro e w1 ⟨t1,hT1,rfl,(F1:Hid _)⟩;have T1:=aa hT1;clear hT1;have hT1:t1=(tk,tx,ta):=T1.o.symm.trans HT.o;subst hT1;clear T1;unfold gd;simp only;go_upto_region 2 with fail
 have F2:=aa (F1.o.new 113 #[.u (tk.toNat:Int),.s ⟨tx.toArray⟩,.i (ta:Int)]);obtain⟨w2,hw⟩:=aab (w1.alloc (.cells #[.u (tk.toNat:Int),.s ⟨tx.toArray⟩,.i (ta:Int)] 113));obtain⟨g2,hg⟩:=aab w1.heap.size;rw[←hw,←hg]at F2;rw[←hw,←hg];clear hw hg;go_wp2_with fail
 with_reducible refine(nE F2.o).mono ?_
 rintro e w3 ⟨x3,(X3:Hid _),rfl,(F3:Hid _)⟩;have hb0:=(F3.o.own _ List.mem_cons_self).1;have hbl:=F3.o.lt;simp only at hb0;have n1:¬C.g=g2:=by omega
 have n2:¬g2=C.g:=by omega
 clear hb0 hbl;obtain⟨pk,hpk,hpz,hpl⟩:=F3.o.q.cell;go_upto_region 4 with fail
 have F4:=aa (F3.o.fj Nf.o hpk);obtain⟨w4,hw⟩:=aab (w3.setCell ⟨C.g,1,none⟩ (.i ((pk:Int)+1)));rw[←hw]at F4⊢;clear hw hpk hpz hpl;have Ks:=F4.o.ab.Y3;simp at Ks;by_cases h3:tk=3
 ·have k3:((tk.toNat:Int)==3)=true:=by rw[h3];decide
  have Lf:=aa (HV.o.trans (if_pos h3));clear h3 hkk;skip;have cj2:=F4.o.ah.Y3;simp at cj2;obtain⟨KQ,KS,KT⟩:=F4.o.ah.Z3;go_wp2_with fail
  have FZ:=aa (F4.o.cN (sL (Ch.refl _ _ _) (.inl rfl) (.u 4) .o (.s ⟨tx.toArray⟩)) (fS F4.o.ah (.u 4) .o (.s ⟨tx.toArray⟩)));have HS:Hid (Rp.nv C.text.size st=((⟨4,0,I.bs tx⟩:Cell.Val),(I.next st))):=by show _=_;exact Lf.o
  refine bodyPost_ret (v:=.agg #[.u 4,.o,.s ⟨tx.toArray⟩]) (results_cell_row rfl _ _ w.heap.size 48 _ (0,0) _ rfl FZ.o.ah fG rfl fp) rfl ?_;rw[HS.o];exact FZ.o.rE (rq (by decide) (by decide) HLen.o)
 ·by_cases h4:tk=4
  ·have k3:((tk.toNat:Int)==3)=false:=by rw[h4];decide
   have k4:((tk.toNat:Int)==4)=true:=by rw[h4];decide
   have Lf:=aa ((HV.o.trans (if_neg h3)).trans (if_pos h4));clear h3 h4 hkk;have K0:=F4.o.ah.Y3;simp at K0;obtain⟨KQ,KS,KT⟩:=F4.o.ah.Z3;go_wp2_with fail
   have FZ:=aa (F4.o.cN (sL (Ch.refl _ _ _) (.inl rfl) (.u 5) .o (.s ⟨tx.toArray⟩)) (fS F4.o.ah (.u 5) .o (.s ⟨tx.toArray⟩)));have HS:Hid (Rp.nv C.text.size st=((⟨5,0,I.bs tx⟩:Cell.Val),(I.next st))):=by show _=_;exact Lf.o
   refine bodyPost_ret (v:=.agg #[.u 5,.o,.s ⟨tx.toArray⟩]) (results_cell_row rfl _ _ w.heap.size 48 _ (0,0) _ rfl FZ.o.ah fG rfl fp) rfl ?_;rw[HS.o];exact FZ.o.rE (rq (by decide) (by decide) HLen.o)
  ·have h2:tk=2:=by
    rcases hkk with h|h|h
    ·exact h
    ·exact absurd h h3
    ·exact absurd h h4
   have k3:((tk.toNat:Int)==3)=false:=by rw[h2];decide
   have k4:((tk.toNat:Int)==4)=false:=by rw[h2];decide
   have Og:=aa ((HV.o.trans (if_neg h3)).trans (if_neg h4));have HN:=aa (Ua.o h2);clear h2 h3 h4 hkk;go_wp2_with fail
   with_reducible refine(mQ tx _ HN.o HLen.o).mono ?_
   rintro e w5 ⟨he,hb⟩;have F5:=aa (F4.o.quiet hb);clear hb F4;by_cases h0:(I.cR (I.bN tx).1).2=0
   ·rw[if_pos h0]at he;obtain⟨rfl,hN⟩:=he;have Lf:=aa (Og.o.trans (if_pos h0));obtain⟨kd,hkd⟩:=aab ((I.bN tx).2);obtain⟨N,UH⟩:=aab (I.df (I.bN tx).1);rw[sE h0]at Lf;rw[←hkd,←UH]at Lf⊢;rw[←UH]at hN;clear hkd UH h0;clear Ks;go_upto_region 10 with fail
    have F6:=aa (F5.o.new 48 #[.u (kd.toNat:Int),.i (N:Int),.e]);obtain⟨w6,hw⟩:=aab (w5.alloc (.cells #[.u (kd.toNat:Int),.i (N:Int),.e] 48));obtain⟨g6,hg⟩:=aab w5.heap.size;rw[←hw,←hg]at F6;rw[←hw,←hg];clear hw hg;have Le:=F6.o.ab.Y3;simp at Le;have Ly:=F6.o.aS.Y3;simp at Ly;obtain⟨KQ,KS,KT⟩:=F6.o.aS.Z3;go_wp2_with fail
    have FZ:=aa (F6.o.lq (sL (Ch.refl _ _ _) (.inl rfl) (.u (kd.toNat:Int)) (.i (N:Int)) .e) (fS F6.o.aS (.u (kd.toNat:Int)) (.i (N:Int)) .e));have HS:Hid (Rp.nv C.text.size st=((⟨kd,(N:Int),I.aQ⟩:Cell.Val),(I.next st))):=by show _=_;exact Lf.o
    refine bodyPost_ret (v:=.agg #[.u (kd.toNat:Int),.i (N:Int),.e]) (results_cell_row rfl _ _ w.heap.size 48 _ (0,0) _ rfl FZ.o.aS fG rfl fp) rfl ?_;rw[HS.o];exact FZ.o.rE (rq (l:=[]) (by omega) (by omega) (Nat.zero_le _))
   ·rw[if_neg h0]at he;have he':=he;clear he;subst he';have Lf:=aa (Og.o.trans (if_neg h0));clear h0;clear Ks;go_upto_region 10 with fail
    have F6:=aa (F5.o.new 48 #[.b,.o,.e]);obtain⟨w6,hw⟩:=aab (w5.alloc (.cells #[.b,.o,.e] 48));obtain⟨g6,hg⟩:=aab w5.heap.size;rw[←hw,←hg]at F6;rw[←hw,←hg];clear hw hg;go_wp2_with fail
    with_reducible refine(nG 271 x3 (by decide) (I.fail C.text.size 271 st) F6.o (fun _=>(Xd.o x3).o (X3.o Tn.o)) (fun he=>absurd Mf.o he) 271 rfl).mono ?_
    rintro e w7 ⟨rfl,(F7:Hid _)⟩;have Mj:=F7.o.ab.Y3;simp at Mj;have MY:=F7.o.aS.Y3;simp at MY;obtain⟨KQ,KS,KT⟩:=F7.o.aS.Z3;go_wp2_with fail
    have FZ:=aa (F7.o.lq (sL (Ch.refl _ _ _) (.inl rfl) .b .o .e) (fS F7.o.aS .b .o .e));have HS:Hid (Rp.nv C.text.size st=((⟨0,0,I.aQ⟩:Cell.Val),(I.fail C.text.size 271 st))):=by show _=_;exact Lf.o
    refine bodyPost_ret (v:=.agg #[.b,.o,.e]) (results_cell_row rfl _ _ w.heap.size 48 _ (0,0) _ rfl FZ.o.aS fG rfl fp) rfl ?_;rw[HS.o];exact FZ.o.rE (rq (l:=[]) (by decide) (by decide) (Nat.zero_le _))
end
section
set_option maxRecDepth 100000
theorem nc(C:RC)(X:I.St→Ev.Ex×I.St)(n:Nat)(hK:ig C 282 #[.p C.g] (Rp.aD C.text.size X) n)(st:I.St)(w:World)(hn:st.r.length≤n)(h:RS C st w)(ih:∀(s1:I.St) (w1:World),s1.r.length<st.r.length→RS C s1 w1→Calls Tryz.prog 280 #[.p C.g] w1 (ER Kr C w1 (Rp.unary C.text.size X s1))):
 Calls Tryz.prog 280 #[.p C.g] w (ER Kr C w (Rp.unary C.text.size X st)):=by
 have HK:=aa hK;have IH:=aa ih;clear hK ih;have F0:=aa (Fr.start h.lt h.aJ);clear h;go_enter Tryz.func280,Tryz.ntmps280;have K8:=aa (F0.o.new 50 #[.b,.b,.o,.e,.e,.e,.o,.z]);go_wp2_with fail
 with_reducible refine(aG ⟨#[45]⟩ [45] rfl K8.o).mono ?_
 rintro e w1 ⟨b,hb,rfl,hF⟩;cases b with
 |true=>
  have Ku:=aa hb;have F1:Hid (Fr C.g w _ _ (RS C (I.next st)) w1):=hF;clear hF hb;have hlen:=I.bx Ku.o;go_wp2_with fail
  with_reducible refine(Fr.jD F1.o (IH.o (I.next st) _ hlen F1.o.q)).mono ?_
  rintro e w2 ⟨h2,A2,m2,c2,x2,s2,(X2:Hid _),rfl,hF⟩;have F2:=aa hF;clear hF;obtain⟨w3,hw⟩:=aac (w2.alloc (.cells #[.u (h2.o.toNat:Int),.u (h2.v.k.toNat:Int),.i h2.v.n,.s h2.v.s,.s h2.nm,.s h2.of,.i h2.n,.slice A2 m2 c2] 50));have F3:Hid (Fr C.g w [(w.heap.size,50,#[.b,.b,.o,.e,.e,.e,.o,.z])] [It.rr Kr (.slice (some ⟨w2.heap.size,0,none⟩) 1 1) [x2],It.el Kr (ai h2 A2 m2 c2) x2] (RS C s2) w3):=hw▸aa (Fr.ff (E:=Kr) (cs:=[.u (h2.o.toNat:Int),.u (h2.v.k.toNat:Int),.i h2.v.n,.s h2.v.s,.s h2.nm,.s h2.of,.i h2.n,.slice A2 m2 c2]) F2.o 50);clear F2;skip;have Ks:=F3.o.ab.Y8;simp at Ks;obtain⟨KQ,KS,KT,K4,K5,K6,K7,K9⟩:=F3.o.ab.Z8;skip;go_wp2_with fail
  have FZ:=aa (F3.o.gu (bd (Ch.refl _ _ _) (.inl rfl) (.u 3) .b .o .e .e .e .o (.slice (some ⟨w2.heap.size,0,none⟩) 1 1)) (aW F3.o.ab (.u 3) .b .o .e .e .e .o (.slice (some ⟨w2.heap.size,0,none⟩) 1 1)));have HS:Hid (Rp.unary C.text.size X st=(I.un 3 x2,s2)):=by show _=_;unfold Rp.unary;rw[I.j1 Ku.o];have:=X2.o;unfold Rp.unary at this;rw[this]
  refine bodyPost_ret (v:=.agg #[.u 3,.b,.o,.e,.e,.e,.o,.slice (some ⟨w2.heap.size,0,none⟩) 1 1]) (results_cell_row rfl _ _ w.heap.size 50 _ (0,0) _ rfl FZ.o.ab ao rfl aj) rfl ?_;rw[HS.o];exact FZ.o.aK (E:=Kr) (cs:=[.u 3,.b,.o,.e,.e,.e,.o,.slice (some ⟨w2.heap.size,0,none⟩) 1 1]) (Fr.RV 3 rfl FZ.o)
 |false=>
  have Ku:=aa hb;have F1:Hid (Fr C.g w _ _ (RS C st) w1):=hF;clear hF hb;go_wp2_with fail
  with_reducible refine(HK.o.f F1.o hn).mono ?_
  rintro e w2 ⟨h2,A2,m2,c2,x2,s2,(X2:Hid _),rfl,(F2:Hid _)⟩;have cj2:=F2.o.ab.Y8;simp at cj2;obtain⟨KQ,KS,KT,K4,K5,K6,K7,K9⟩:=F2.o.ab.Z8;go_wp2_with fail
  have FZ:=aa (F2.o.gu (bd (Ch.refl _ _ _) (.inl rfl) (.u (h2.o.toNat:Int)) (.u (h2.v.k.toNat:Int)) (.i h2.v.n) (.s h2.v.s) (.s h2.nm) (.s h2.of) (.i h2.n) (.slice A2 m2 c2)) (aW F2.o.ab (.u (h2.o.toNat:Int)) (.u (h2.v.k.toNat:Int)) (.i h2.v.n) (.s h2.v.s) (.s h2.nm) (.s h2.of) (.i h2.n) (.slice A2 m2 c2)));have HS:Hid (Rp.unary C.text.size X st=(x2,s2)):=by show _=_;unfold Rp.unary;rw[I.lI Ku.o];exact X2.o
  refine bodyPost_ret (v:=.agg #[.u (h2.o.toNat:Int),.u (h2.v.k.toNat:Int),.i h2.v.n,.s h2.v.s,.s h2.nm,.s h2.of,.i h2.n,.slice A2 m2 c2]) (results_cell_row rfl _ _ w.heap.size 50 _ (0,0) _ rfl FZ.o.ab ao rfl aj) rfl ?_;rw[HS.o];exact FZ.o.aK (E:=Kr) (cs:=[.u (h2.o.toNat:Int),.u (h2.v.k.toNat:Int),.i h2.v.n,.s h2.v.s,.s h2.nm,.s h2.of,.i h2.n,.slice A2 m2 c2]) FZ.o.Kx
theorem yb(C:RC)(X:I.St→Ev.Ex×I.St)(n:Nat)(hK:ig C 282 #[.p C.g] (Rp.aD C.text.size X) n):ig C 280 #[.p C.g] (Rp.unary C.text.size X) n:=by
 have:∀(m:Nat) (st:I.St) (w:World),st.r.length≤m→st.r.length≤n→RS C st w→Calls Tryz.prog 280 #[.p C.g] w (ER Kr C w (Rp.unary C.text.size X st)):=by
  intro m;induction m with
  |zero=>exact fun st w hm hn h=>nc C X n hK st w hn h fun s1 w1 hl _=>absurd hl (by omega)
  |succ m ih=>exact fun st w hm hn h=>nc C X n hK st w hn h fun s1 w1 hl h1=>ih s1 w1 (by omega) (by omega) h1
 exact fun st w hn h=>this _ st w (Nat.le_refl _) hn h
theorem jT(C:RC)(X:I.St→Ev.Ex×I.St)(n:Nat)(hK:ig C 250 #[.p C.g] (Rp.cmp C.text.size X) n)(st:I.St)(w:World)(hn:st.r.length≤n)(h:RS C st w)(ih:∀(s1:I.St) (w1:World),s1.r.length<st.r.length→RS C s1 w1→Calls Tryz.prog 241 #[.p C.g] w1 (ER Kr C w1 (Rp.dz C.text.size X s1))):
 Calls Tryz.prog 241 #[.p C.g] w (ER Kr C w (Rp.dz C.text.size X st)):=by
 have HK:=aa hK;have IH:=aa ih;clear hK ih;have F0:=aa (Fr.start h.lt h.aJ);clear h;go_enter Tryz.func241,Tryz.ntmps241;have K8:=aa (F0.o.new 50 #[.b,.b,.o,.e,.e,.e,.o,.z]);go_wp2_with fail
 with_reducible refine(aG ⟨#[110,111,116]⟩ [110,111,116] rfl K8.o).mono ?_
 rintro e w1 ⟨b,hb,rfl,hF⟩;cases b with
 |true=>
  have Ku:=aa hb;have F1:Hid (Fr C.g w _ _ (RS C (I.next st)) w1):=hF;clear hF hb;have hlen:=I.bx Ku.o;go_wp2_with fail
  with_reducible refine(Fr.jD F1.o (IH.o (I.next st) _ hlen F1.o.q)).mono ?_
  rintro e w2 ⟨h2,A2,m2,c2,x2,s2,(X2:Hid _),rfl,hF⟩;have F2:=aa hF;clear hF;obtain⟨w3,hw⟩:=aac (w2.alloc (.cells #[.u (h2.o.toNat:Int),.u (h2.v.k.toNat:Int),.i h2.v.n,.s h2.v.s,.s h2.nm,.s h2.of,.i h2.n,.slice A2 m2 c2] 50));have F3:Hid (Fr C.g w [(w.heap.size,50,#[.b,.b,.o,.e,.e,.e,.o,.z])] [It.rr Kr (.slice (some ⟨w2.heap.size,0,none⟩) 1 1) [x2],It.el Kr (ai h2 A2 m2 c2) x2] (RS C s2) w3):=hw▸aa (Fr.ff (E:=Kr) (cs:=[.u (h2.o.toNat:Int),.u (h2.v.k.toNat:Int),.i h2.v.n,.s h2.v.s,.s h2.nm,.s h2.of,.i h2.n,.slice A2 m2 c2]) F2.o 50);clear F2;skip;have Ks:=F3.o.ab.Y8;simp at Ks;obtain⟨KQ,KS,KT,K4,K5,K6,K7,K9⟩:=F3.o.ab.Z8;skip;go_wp2_with fail
  have FZ:=aa (F3.o.gu (bd (Ch.refl _ _ _) (.inl rfl) (.u 15) .b .o .e .e .e .o (.slice (some ⟨w2.heap.size,0,none⟩) 1 1)) (aW F3.o.ab (.u 15) .b .o .e .e .e .o (.slice (some ⟨w2.heap.size,0,none⟩) 1 1)));have HS:Hid (Rp.dz C.text.size X st=(I.un 15 x2,s2)):=by show _=_;unfold Rp.dz;rw[I.j1 Ku.o];have:=X2.o;unfold Rp.dz at this;rw[this]
  refine bodyPost_ret (v:=.agg #[.u 15,.b,.o,.e,.e,.e,.o,.slice (some ⟨w2.heap.size,0,none⟩) 1 1]) (results_cell_row rfl _ _ w.heap.size 50 _ (0,0) _ rfl FZ.o.ab ao rfl aj) rfl ?_;rw[HS.o];exact FZ.o.aK (E:=Kr) (cs:=[.u 15,.b,.o,.e,.e,.e,.o,.slice (some ⟨w2.heap.size,0,none⟩) 1 1]) (Fr.RV 15 rfl FZ.o)
 |false=>
  have Ku:=aa hb;have F1:Hid (Fr C.g w _ _ (RS C st) w1):=hF;clear hF hb;go_wp2_with fail
  with_reducible refine(HK.o.f F1.o hn).mono ?_
  rintro e w2 ⟨h2,A2,m2,c2,x2,s2,(X2:Hid _),rfl,(F2:Hid _)⟩;have cj2:=F2.o.ab.Y8;simp at cj2;obtain⟨KQ,KS,KT,K4,K5,K6,K7,K9⟩:=F2.o.ab.Z8;go_wp2_with fail
  have FZ:=aa (F2.o.gu (bd (Ch.refl _ _ _) (.inl rfl) (.u (h2.o.toNat:Int)) (.u (h2.v.k.toNat:Int)) (.i h2.v.n) (.s h2.v.s) (.s h2.nm) (.s h2.of) (.i h2.n) (.slice A2 m2 c2)) (aW F2.o.ab (.u (h2.o.toNat:Int)) (.u (h2.v.k.toNat:Int)) (.i h2.v.n) (.s h2.v.s) (.s h2.nm) (.s h2.of) (.i h2.n) (.slice A2 m2 c2)));have HS:Hid (Rp.dz C.text.size X st=(x2,s2)):=by show _=_;unfold Rp.dz;rw[I.lI Ku.o];exact X2.o
  refine bodyPost_ret (v:=.agg #[.u (h2.o.toNat:Int),.u (h2.v.k.toNat:Int),.i h2.v.n,.s h2.v.s,.s h2.nm,.s h2.of,.i h2.n,.slice A2 m2 c2]) (results_cell_row rfl _ _ w.heap.size 50 _ (0,0) _ rfl FZ.o.ab ao rfl aj) rfl ?_;rw[HS.o];exact FZ.o.aK (E:=Kr) (cs:=[.u (h2.o.toNat:Int),.u (h2.v.k.toNat:Int),.i h2.v.n,.s h2.v.s,.s h2.nm,.s h2.of,.i h2.n,.slice A2 m2 c2]) FZ.o.Kx
theorem rQ(C:RC)(X:I.St→Ev.Ex×I.St)(n:Nat)(hK:ig C 250 #[.p C.g] (Rp.cmp C.text.size X) n):ig C 241 #[.p C.g] (Rp.dz C.text.size X) n:=by
 have:∀(m:Nat) (st:I.St) (w:World),st.r.length≤m→st.r.length≤n→RS C st w→Calls Tryz.prog 241 #[.p C.g] w (ER Kr C w (Rp.dz C.text.size X st)):=by
  intro m;induction m with
  |zero=>exact fun st w hm hn h=>jT C X n hK st w hn h fun s1 w1 hl _=>absurd hl (by omega)
  |succ m ih=>exact fun st w hm hn h=>jT C X n hK st w hn h fun s1 w1 hl h1=>ih s1 w1 (by omega) (by omega) h1
 exact fun st w hn h=>this _ st w (Nat.le_refl _) hn h
end
section
set_option maxRecDepth 100000
theorem I.Da{s s':I.Bs}{o o':UInt8}{st:I.St}(h:I.ae s st=true):I.one [(s,o),(s',o')] st=(o,I.next st):=by simp only[I.one,if_pos h]
theorem I.Dr{s s':I.Bs}{o o':UInt8}{st:I.St}(h:I.ae s st=false)(h':I.ae s' st=true):I.one [(s,o),(s',o')] st=(o',I.next st):=by simp only[I.one,h,Bool.false_eq_true,if_false,if_pos h']
theorem I.FH{s s':I.Bs}{o o':UInt8}{st:I.St}(h:I.ae s st=false)(h':I.ae s' st=false):I.one [(s,o),(s',o')] st=(0,st):=by simp only[I.one,h,h',Bool.false_eq_true,if_false]
theorem I.pq{s s':I.Bs}{st:I.St}(h:I.ae s st=true)(hn:s≠s'):I.ae s' st=false:=by
 unfold I.ae I.hit at*;cases hr:st.r with
 |nil=>rfl
 |cons t r=>
  rw[hr]at h;simp only[Bool.and_eq_true,decide_eq_true_eq]at h;simp only[Bool.and_eq_false_imp,decide_eq_false_iff_not];exact fun _ q=>hn (h.2.symm.trans q)
theorem Ej(C:RC)(X:I.St→Ev.Ex×I.St)(hX:Rp.NF X)(n:Nat)(hK:ig C 272 #[.p C.g] (Rp.prod C.text.size X) n)(st:I.St)(w:World)(h:RS C st w)(hn:st.r.length≤n):
 Calls Tryz.prog 259 #[.p C.g] w (ER Kr C w (Rp.sum C.text.size X st)):=by
 have HK:=aa hK;have HX:=aa hX;clear hK hX;have F0:=aa (Fr.start h.lt h.aJ);clear h;go_enter Tryz.func259,Tryz.ntmps259;have K8:=aa (F0.o.new 50 #[.b,.b,.o,.e,.e,.e,.o,.z]);go_wp2_with fail
 with_reducible refine(HK.o.f K8.o hn).mono ?_
 rintro e w1 ⟨h1,A1,m1,c1,x1,s1,(X1:Hid _),rfl,(F1:Hid _)⟩;have hl1:=(Rp.rN (T:=C.text.size) HX.o).aF F0.o.q.inv;rw[X1.o]at hl1;simp only at hl1;replace hl1:=hl1.1;go_upto_region 2 with fail
 have F2:=aa (F1.o.new 50 #[.u (h1.o.toNat:Int),.u (h1.v.k.toNat:Int),.i h1.v.n,.s h1.v.s,.s h1.nm,.s h1.of,.i h1.n,.slice A1 m1 c1]);obtain⟨w2,hw⟩:=aab (w1.alloc (.cells #[.u (h1.o.toNat:Int),.u (h1.v.k.toNat:Int),.i h1.v.n,.s h1.v.s,.s h1.nm,.s h1.of,.i h1.n,.slice A1 m1 c1] 50));obtain⟨g2,hg⟩:=aab w1.heap.size;rw[←hw,←hg]at F2;rw[←hw,←hg];clear hw hg;have HF:Hid (Rp.sum C.text.size X st=I.ba (Rp.prod C.text.size X) [([43],4),([45],5)] (s1.r.length+1) x1 s1):=by show _=_;unfold Rp.sum I.chain;rw[X1.o]
 go_wp2_with fail
 go_loopg [4] s1.r.length (fun gg sl wr=>∃(f:Nat) (e1:Ev.Ex) (s0:I.St) (h1:Ev.Hd) (A1:Option Addr) (m1 c1:Nat),gg=s0.r.length∧s0.r.length≤n∧s0.r.length<f∧Hid (Rp.sum C.text.size X st=I.ba (Rp.prod C.text.size X) [([43],4),([45],5)] f e1 s0)∧Hid (Fr C.g w [(g2,50,(ai h1 A1 m1 c1).toArray),(w.heap.size,50,#[.b,.b,.o,.e,.e,.e,.o,.z])] [It.el Kr (ai h1 A1 m1 c1) e1] (RS C s0) wr));case atStart=>exact⟨_,x1,s1,h1,A1,m1,c1,rfl,by omega,by omega,HF,F2.o⟩
 case round=>
  clear F2 HF X1 K8 hl1;obtain⟨f,e1,s0,h1,A1,m1,c1,rfl,hsn,Lu,HF,HR⟩:=hrel;obtain⟨w5,hw⟩:=aab wr;subst hw;have F5:Hid (Fr C.g w [(g2,50,#[.u (h1.o.toNat:Int),.u (h1.v.k.toNat:Int),.i h1.v.n,.s h1.v.s,.s h1.nm,.s h1.of,.i h1.n,.slice A1 m1 c1]),(w.heap.size,50,#[.b,.b,.o,.e,.e,.e,.o,.z])] [It.el Kr (ai h1 A1 m1 c1) e1] (RS C s0) w5):=HR;clear HR;go_wp2_with fail
  with_reducible refine(Gs ⟨#[43]⟩ [43] rfl F5.o).mono ?_
  rintro e w6 ⟨b,hb,rfl,(F6:Hid _)⟩;cases b with
  |true=>
   have Aa:=aa hb;clear hb;go_wp2_with fail
   with_reducible refine(Gs ⟨#[45]⟩ [45] rfl F6.o).mono ?_
   rintro e w7 ⟨b,hb,rfl,hF⟩;have F7:=aa hF;clear hF;have e:=(I.pq (s':=[45]) Aa.o (by decide)).symm.trans hb;subst e;clear hb;obtain⟨pk,hpk,hpz,hpl⟩:=F7.o.q.cell;have hne:=I.fm Aa.o;have hb0:=(F7.o.own _ List.mem_cons_self).1;have hbl:=F7.o.lt;simp only at hb0;have n1:¬C.g=g2:=by omega
   have n2:¬g2=C.g:=by omega
   clear hb0 hbl;go_upto_region 7 with fail
   have F8:=aa (F7.o.fj hne hpk);obtain⟨w8,hw⟩:=aab (w7.setCell ⟨C.g,1,none⟩ (.i ((pk:Int)+1)));rw[←hw]at F8⊢;clear hw hpk hpz hpl hne n1 n2;have hlen:=I.bx Aa.o;have HS:Hid (I.ba (Rp.prod C.text.size X) [([43],4),([45],5)] f e1 s0=I.ba (Rp.prod C.text.size X) [([43],4),([45],5)] (f-1) (I.bin 4 e1 (Rp.prod C.text.size X (I.next s0)).1) (Rp.prod C.text.size X (I.next s0)).2):=by show _=_;have:=I.iD (kid:=Rp.prod C.text.size X) (e:=e1) (l:=[([43],4),([45],5)]) (f:=f) (st:=s0) Lu (by rw[I.Da Aa.o];show(4:UInt8)≠0;decide);rw[I.Da Aa.o]at this;exact this
   have hlk:=((Rp.rN (T:=C.text.size) HX.o).aF (st:=I.next s0) F8.o.q.inv).1;have Ks:=F8.o.ab.Y8;simp at Ks;go_wp2_with fail
   go_region_with ((with_reducible refine(HK.o.fd F8.o (by omega)).mono ?_);rintro e w9 ⟨h7,A7,m7,c7,x7,s7,Rj,rfl,hF⟩;have X7:=aa Rj;have F9:=aa hF;have Vk:=hF.ab.lt;clear Rj hF;have y0:=F9.o.ab.cell 0;have y1:=F9.o.ab.cell 1;have y2:=F9.o.ab.cell 2;have y3:=F9.o.ab.cell 3;have y4:=F9.o.ab.cell 4;have y5:=F9.o.ab.cell 5;have y6:=F9.o.ab.cell 6;have y7:=F9.o.ab.cell 7;simp at y0 y1 y2 y3 y4 y5 y6 y7;have z0:=F9.o.ab.frozen 0;have z1:=F9.o.ab.frozen 1;have z2:=F9.o.ab.frozen 2;have z3:=F9.o.ab.frozen 3;have z4:=F9.o.ab.frozen 4;have z5:=F9.o.ab.frozen 5;have z6:=F9.o.ab.frozen 6;have z7:=F9.o.ab.frozen 7)
   all_goals
    rw[X7.o]at hlk
    have Qc:=HS.o
    rw[X7.o]at Qc
    simp only at Qc hlk
    have FB:=aa (Fr.bin 4 F9.o (bd (Ch.refl _ _ _) (.inl rfl) _ _ _ _ _ _ _ _) (aW F9.o.ab _ _ _ _ _ _ _ _) (by simp) (t':=50))
    have HFB:=aa (HF.o.trans Qc)
    clear Qc HF HS F9 F8 Ks y0 y1 y2 y3 y4 y5 y6 y7 z0 z1 z2 z3 z4 z5 z6 z7
    go_wp2_with fail
    go_roundg s7.r.length
    case measure=>omega
    case rel=>exact⟨f-1,_,s7,_,_,_,_,rfl,by omega,by omega,HFB,FB.o.only (fun F hF=>by simp only[List.mem_singleton]at hF;subst hF;exact List.mem_cons_self)⟩
  |false=>
   have Aa:=aa hb;clear hb;go_wp2_with fail
   with_reducible refine(Gs ⟨#[45]⟩ [45] rfl F6.o).mono ?_
   rintro e w7 ⟨b,hb,rfl,(F7:Hid _)⟩;cases b with
   |true=>
    have Ab:=aa hb;clear hb;go_wp2_with fail
    with_reducible refine(Gs ⟨#[45]⟩ [45] rfl F7.o).mono ?_
    rintro e w8 ⟨b,hb,rfl,hF⟩;have F8:=aa hF;clear hF;have e:=Ab.o.symm.trans hb;subst e;clear hb;obtain⟨pk,hpk,hpz,hpl⟩:=F8.o.q.cell;have hne:=I.fm Ab.o;have hb0:=(F8.o.own _ List.mem_cons_self).1;have hbl:=F8.o.lt;simp only at hb0;have n1:¬C.g=g2:=by omega
    have n2:¬g2=C.g:=by omega
    clear hb0 hbl;go_upto_region 7 with fail
    have F9:=aa (F8.o.fj hne hpk);obtain⟨w9,hw⟩:=aab (w8.setCell ⟨C.g,1,none⟩ (.i ((pk:Int)+1)));rw[←hw]at F9⊢;clear hw hpk hpz hpl hne n1 n2;have hlen:=I.bx Ab.o;have HS:Hid (I.ba (Rp.prod C.text.size X) [([43],4),([45],5)] f e1 s0=I.ba (Rp.prod C.text.size X) [([43],4),([45],5)] (f-1) (I.bin 5 e1 (Rp.prod C.text.size X (I.next s0)).1) (Rp.prod C.text.size X (I.next s0)).2):=by show _=_;have:=I.iD (kid:=Rp.prod C.text.size X) (e:=e1) (l:=[([43],4),([45],5)]) (f:=f) (st:=s0) Lu (by rw[I.Dr Aa.o Ab.o];show(5:UInt8)≠0;decide);rw[I.Dr Aa.o Ab.o]at this;exact this
    have hlk:=((Rp.rN (T:=C.text.size) HX.o).aF (st:=I.next s0) F9.o.q.inv).1;have cj2:=F9.o.ab.Y8;simp at cj2;go_wp2_with fail
    go_region_with ((with_reducible refine(HK.o.fd F9.o (by omega)).mono ?_);rintro e Lo ⟨h7,A7,m7,c7,x7,s7,Rj,rfl,hF⟩;have X7:=aa Rj;have KC:=aa hF;have Vk:=hF.ab.lt;clear Rj hF;have y0:=KC.o.ab.cell 0;have y1:=KC.o.ab.cell 1;have y2:=KC.o.ab.cell 2;have y3:=KC.o.ab.cell 3;have y4:=KC.o.ab.cell 4;have y5:=KC.o.ab.cell 5;have y6:=KC.o.ab.cell 6;have y7:=KC.o.ab.cell 7;simp at y0 y1 y2 y3 y4 y5 y6 y7;have z0:=KC.o.ab.frozen 0;have z1:=KC.o.ab.frozen 1;have z2:=KC.o.ab.frozen 2;have z3:=KC.o.ab.frozen 3;have z4:=KC.o.ab.frozen 4;have z5:=KC.o.ab.frozen 5;have z6:=KC.o.ab.frozen 6;have z7:=KC.o.ab.frozen 7)
    all_goals
     rw[X7.o]at hlk
     have Qc:=HS.o
     rw[X7.o]at Qc
     simp only at Qc hlk
     have FB:=aa (Fr.bin 5 KC.o (bd (Ch.refl _ _ _) (.inl rfl) _ _ _ _ _ _ _ _) (aW KC.o.ab _ _ _ _ _ _ _ _) (by simp) (t':=50))
     have HFB:=aa (HF.o.trans Qc)
     clear Qc HF HS KC F9 cj2 y0 y1 y2 y3 y4 y5 y6 y7 z0 z1 z2 z3 z4 z5 z6 z7
     go_wp2_with fail
     go_roundg s7.r.length
     case measure=>omega
     case rel=>exact⟨f-1,_,s7,_,_,_,_,rfl,by omega,by omega,HFB,FB.o.only (fun F hF=>by simp only[List.mem_singleton]at hF;subst hF;exact List.mem_cons_self)⟩
   |false=>
    have Ab:=aa hb;clear hb;have Qg:Hid (Rp.sum C.text.size X st=(e1,s0)):=by show _=_;rw[HF.o];exact I.kJ Lu (by rw[I.FH Aa.o Ab.o])
    obtain⟨cz,hcz⟩:∃z:List Value,z=[.u (h1.o.toNat:Int),.u (h1.v.k.toNat:Int),.i h1.v.n,.s h1.v.s,.s h1.nm,.s h1.of,.i h1.n,.slice A1 m1 c1]:=⟨_,rfl⟩;rw[←hcz]at F7;obtain⟨RS,TH,LC,OC⟩:=F7.o.Mg (k:=8) (by rw[hcz];rfl) rfl (by rw[hcz];rfl);have KN:=aa hcz;clear hcz;go_wp2_with (first|refine aU rfl rfl rfl RS.o (by kernel_rfl) (by rw[LC.o];kernel_rfl) ?_|refine wpList_store_mid rfl _ _ _ rfl _ 0 cz.toArray rfl rfl TH.o (by rw[List.size_toArray,LC.o];kernel_rfl) OC.o ?_)
    have FZ:=aa (F7.o.bS cz (by rw[LC.o];rfl));have HS:Hid (Rp.sum C.text.size X st=(e1,s0)):=by show _=_;rw[Qg.o]
    refine bodyPost_ret (v:=.agg cz.toArray) (results_cell_row rfl _ _ w.heap.size 50 _ (0,0) _ rfl FZ.o.ah ao rfl (by rw[List.size_toArray,LC.o];exact aj)) rfl ?_;rw[HS.o];exact FZ.o.aK (cs:=cz) (El.cz KN.o (FZ.o.Kx))
end
end Go.Proofs.YtnicfobpclehkaaGreatDoor
