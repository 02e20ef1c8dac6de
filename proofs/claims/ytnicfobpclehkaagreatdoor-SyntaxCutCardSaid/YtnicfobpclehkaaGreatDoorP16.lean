import Derived.Test.YtnicfobpclehkaaGreatDoorP9
import Derived.Test.YtnicfobpclehkaaGreatDoorP15
set_option maxHeartbeats 6400000
set_option linter.unusedVariables false
set_option linter.unusedSimpArgs false
namespace Go.Proofs.YtnicfobpclehkaaGreatDoor
open Go.RowKit
section
set_option maxRecDepth 100000
theorem kR{k:UInt8}{n:Int}{l:I.Bs}(h1: -9223372036854775808≤n)(h2:n≤9223372036854775807)(hl:l.length≤4096):qd ⟨1,⟨k,n,I.bs l⟩,I.dp,I.dp,0⟩:=by
 have hs:(I.bs l).size≤maxLen:=by have:=eI (I.bs l);rw[dA]at this;unfold maxLen;omega
 have h0:(I.dp).size≤maxLen:=by show(I.bs []).size≤_;unfold I.bs maxLen;decide
 exact⟨⟨hs,h1,h2⟩,h0,h0,by show(-9223372036854775808:Int)≤0;decide,by show(0:Int)≤9223372036854775807;decide⟩
theorem Jo(l:I.Bs)(m:Int)(w:World)(hl:l.length≤4096)(hm:w.cell? ⟨0,0,none⟩=some (.int .i64 m)):Calls Tryz.prog 289 #[.string ⟨l.toArray⟩,.string ⟨#[46]⟩] w fun e w'=>e=.returned (.tuple #[.string (I.bs (I.cut l).1),.string (I.bs ((I.cut l).2.getD [])),.bool (I.cut l).2.isSome])∧∃n,w'=w.drewN n:=by
 have hs:(⟨l.toArray⟩:ByteArray).size<4294967281:=by have:=eI ⟨l.toArray⟩;simp at this;omega
 refine(Tryz.strings_Cut ⟨l.toArray⟩ ⟨#[46]⟩ m w hs hm).mono fun e w' h=>?_
 have e1:Lib.cut (⟨l.toArray⟩:ByteArray).data.toList (⟨#[46]⟩:ByteArray).data.toList=((I.cut l).1,((I.cut l).2).getD [],((I.cut l).2).isSome):=by have:=I.Mc l;simpa using this
 rw[e1]at h;exact h
theorem I.uE:∀l:I.Bs,(I.cut l).1.length≤l.length:=by
 intro l;induction l with
 |nil=>exact aa _
 |cons c l ih=>
  simp only[I.cut];split
  ·simp
  ·simp;exact ih
theorem FV(a b:I.Bs):(I.bs a++(I.bs b++⟨#[48,48,48]⟩).extract 0 4).data.toList=a++(b++[48,48,48]).take 4:=by
 rw[bj,Array.toList_append,dA,ByteArray.data_extract,Array.toList_extract,bj,Array.toList_append,dA];simp[List.extract_eq_take_drop]
theorem uk(l:I.Bs):0≤(I.fR l).1∧(I.fR l).1≤9223372036854775807:=by
 unfold I.fR;split
 ·simp only;omega
 ·simp
theorem qh{C:RC}{st:I.St}{w:World}(h:PS C st w){t:Lex.Tok}{r:List Lex.Tok}(hr:st.r=t::r):t.2.1.length≤4096∧(t.1=2→Lex.mq t.2.1):=by
 obtain⟨⟨k,hB,hd,_⟩,_⟩:=h;have hm:t∈C.ts:=by rw[hd]at hr;exact List.mem_of_mem_drop (i:=k) (by rw[hr];exact ag)
 have:=C.ok.str t hm;have:=C.small;exact⟨by omega,C.ok.num t hm⟩
theorem wg(C:RC)(st:I.St)(w:World)(h:PS C st w)(hk:I.dF st=2∨I.dF st=3∨I.dF st=4):Calls Tryz.prog 286 #[.pointer (some ⟨C.g,0,none⟩)] w (ij C w (I.literal C.text.size st)):=by
 have NK:=h.lt;have hN:=C.ok.len;have hCs:=C.small;obtain⟨t,r,hr⟩:∃t r,st.r=t::r:=by
  cases hq:st.r with
  |nil=>unfold I.dF at hk;rw[hq]at hk;rcases hk with h|h|h<;>exact absurd h (by decide)
  |cons t r=>exact⟨t,r,rfl⟩
 have hkt:t.1=2∨t.1=3∨t.1=4:=by unfold I.dF at hk;rw[hr]at hk;exact hk
 obtain⟨hts,Ru⟩:=qh h hr;have HT:Hid (I.fj C.text.size st=t):=by show _=_;unfold I.fj;rw[hr]
 obtain⟨tk,ts,ta⟩:=t;simp only at hkt hts Ru;have HNm:=cN Ru;have HS:Hid (I.literal C.text.size st=(if tk=4 then(I.lit ⟨5,0,I.bs ts⟩,I.next st)else if tk=2 then(if(I.fR (I.fq ts).1).2=0 then(I.lit ⟨(I.fq ts).2,(I.fR (I.fq ts).1).1,I.dp⟩,I.next st)else(I.lit ⟨(I.fq ts).2,0,I.dp⟩,I.next (I.fail C.text.size 271 st)))else(I.lit ⟨4,0,I.bs ts⟩,I.next st))):=by show _=_;unfold I.literal;rw[hr]
 have HP:=cN h;have Hr:=cN hr;clear h hk hr Ru;go_enter Tryz.func286,Tryz.ntmps286;go_wp2_with fail
 with_reducible refine(jX C st _ (HP.o.alloc _)).mono ?_
 rintro e w1 ⟨rfl,hb1⟩;rw[HT.o];unfold qa;simp only;have hs1:=hb1.size;rw[dc]at hs1;have Oa:=cN ((HP.o.alloc _).below hb1 (by simp;omega));have Oh:=cN (((Ch.refl C.g w.heap.size w).alloc (aa _) _).below hb1 (by simp));have HR1:=cN ((NA.new w _ _).below hb1 (by simp));clear hb1;obtain⟨w2,hw2⟩:∃x,x=(w1.alloc (.cells #[.int .u8 (tk.toNat:Int),.string ⟨ts.toArray⟩,.int .i64 (ta:Int)] 113)).alloc (.cells #[.int .u8 4,.int .i64 0,.string ⟨ts.toArray⟩] 48):=⟨_,rfl⟩;go_upto_region 3 with fail
 rw[←hw2];have HT2:=cN (show NA w2 w1.heap.size 113 #[.int .u8 (tk.toNat:Int),.string ⟨ts.toArray⟩,.int .i64 (ta:Int)] by rw[hw2];exact(NA.new w1 _ _).alloc _);have WJ:=cN (show NA w2 (w1.heap.size+1) 48 #[.int .u8 4,.int .i64 0,.string ⟨ts.toArray⟩] by rw[hw2];exact NA.oK _ _ _ _);have Ow:=cN (show PS C st w2 by rw[hw2];exact(Oa.o.alloc _).alloc _);have HR2:=cN (show NA w2 w.heap.size _ _ by rw[hw2];exact(HR1.o.alloc _).alloc _);have P7:=cN (show Ch C.g w.heap.size w w2 by rw[hw2];exact(Oh.o.alloc (by omega) _).alloc (by simp;omega) _);have hs2:w1.heap.size+1<w2.heap.size:=WJ.o.lt;obtain⟨g3,hg3⟩:∃g,g=w1.heap.size:=⟨_,rfl⟩;have hg3b:w.heap.size<g3:=by omega
 rw[←hg3]at HT2 WJ hs2⊢;clear hw2 hg3 Oa Oh HR1 hs1;obtain⟨g4,hg4⟩:∃g,g=g3+1:=⟨_,rfl⟩;rw[←hg4]at WJ hs2⊢;have hg34:g3<g4:=by omega
 clear hg4;have hkl:∀k,PB C st w2 k→k<C.ts.length:=fun k hpb=>by
  by_cases h2:k<C.ts.length
  ·exact h2
  ·have h1:=hpb.2.1;rw[Hr.o,bc (by omega)]at h1;cases h1
 have Hkl:=cN hkl;clear hkl;obtain⟨t0,t1,t2⟩:=HT2.o.y3 0 1 2;simp at t0 t1 t2;obtain⟨v0,v1,v2⟩:=WJ.o.y3 0 1 2;simp at v0 v1 v2;obtain⟨z0,z1,z2⟩:=WJ.o.z3 0 1 2;obtain⟨r0,r1,r2,r3,r4,r5,r6,r7⟩:=HR2.o.y8 0 1 2 3 4 5 6 7;simp at r0 r1 r2 r3 r4 r5 r6 r7;obtain⟨f0,f1,f2,f3,f4,f5,f6,f7⟩:=HR2.o.z8 0 1 2 3 4 5 6 7;by_cases h2:tk=2
 ·subst h2;have t4:(((2:UInt8).toNat:Int)==4)=false:=by decide
  have hnk:=HNm.o rfl;obtain⟨hd1,hd2,hd3⟩:=I.wV hnk;have HI0:=cN (I.pX hd1 hd2);obtain⟨m,te,pe,tf,pf,hm,-,-⟩:=Ow.o.2.2;have h6:=C.six;clear hkt hnk hd1 hd2;obtain⟨w3,hw3⟩:∃x,x=((w2.setCell ⟨g4,0,none⟩ (.int .u8 2)).setCell ⟨g4,1,none⟩ (.int .i64 0)).setCell ⟨g4,2,none⟩ (.string ⟨#[]⟩):=⟨_,rfl⟩;go_upto_region 8 with fail
  rw[←hw3];have HT3:=cN (show NA w3 g3 _ _ by rw[hw3];exact((HT2.o.far (p:=⟨g4,0,none⟩) (by show g3≠g4;omega) _).far (p:=⟨g4,1,none⟩) (by show g3≠g4;omega) _).far (p:=⟨g4,2,none⟩) (by show g3≠g4;omega) _);have HR3:=cN (show NA w3 w.heap.size _ _ by rw[hw3];exact((HR2.o.far (p:=⟨g4,0,none⟩) (by show w.heap.size≠g4;omega) _).far (p:=⟨g4,1,none⟩) (by show w.heap.size≠g4;omega) _).far (p:=⟨g4,2,none⟩) (by show w.heap.size≠g4;omega) _);have XU:=cN (show NA w3 g4 48 #[.int .u8 2,.int .i64 0,.string ⟨#[]⟩] by rw[hw3];exact xv WJ.o _ _ _);have Rl:=cN (show PS C st w3 by rw[hw3];exact ps3' Ow.o (by omega) _ _ _);have Rv:=cN (show Ch C.g w.heap.size w w3 by rw[hw3];exact Iq P7.o (.inr (by omega)) _ _ _);have hs3:w3.heap.size=w2.heap.size:=by rw[hw3];simp
  have hm3:w3.cell? ⟨0,0,none⟩=some (.int .i64 m):=by rw[←hm,hw3];exact(Iq (Ch.refl g4 (g4+1) w2) (.inl rfl) (.int .u8 2) (.int .i64 0) (.string ⟨#[]⟩)).cell (by omega) (by omega)
  clear hw3 hm t0 t1 t2 v0 v1 v2 z0 z1 z2 r0 r1 r2 r3 r4 r5 r6 r7 f0 f1 f2 f3 f4 f5 f6 f7;obtain⟨t0,t1,t2⟩:=HT3.o.y3 0 1 2;simp at t0 t1 t2;have HM3:=cN hm3;clear hm3;go_wp2_with fail
  with_reducible refine(Jo ts m _ hts HM3.o).mono ?_
  rintro e w4 ⟨rfl,nd,hw4⟩;have U5:=cN (show NA w4 g4 _ _ by rw[hw4];exact XU.o);have HR4:=cN (show NA w4 w.heap.size _ _ by rw[hw4];exact HR3.o);have Q2:=cN (show PS C st w4 by rw[hw4];exact Rl.o.drew _);have Rm:=cN (show Ch C.g w.heap.size w w4 by rw[hw4];exact Rv.o.drew _);have hs4:w4.heap.size=w2.heap.size:=by rw[hw4];exact hs3
  clear hw4 t0 t1 t2;cases hcut:(I.cut ts).2 with
  |none=>
   have HI:Hid (I.oA (I.bs (I.cut ts).1).data.toList=I.fR (I.fq ts).1):=by show _=_;rw[←HI0.o,dA];unfold I.fq;rw[hcut]
   have HDk:Hid ((I.fq ts).2=2):=by show _=_;unfold I.fq;rw[hcut]
   have hsz:(I.bs (I.cut ts).1).size≤281474976710656:=by have h1:=eI (I.bs (I.cut ts).1);rw[dA]at h1;have h2:=I.uE ts;omega
   clear hcut hd3;obtain⟨v0,v1,v2⟩:=U5.o.y3 0 1 2;simp at v0 v1 v2;obtain⟨z0,z1,z2⟩:=U5.o.z3 0 1 2;obtain⟨r0,r1,r2,r3,r4,r5,r6,r7⟩:=HR4.o.y8 0 1 2 3 4 5 6 7;simp at r0 r1 r2 r3 r4 r5 r6 r7;obtain⟨f0,f1,f2,f3,f4,f5,f6,f7⟩:=HR4.o.z8 0 1 2 3 4 5 6 7;go_wp2_with fail
   with_reducible refine(mg C (I.bs (I.cut ts).1) st _ Q2.o hsz).mono ?_
   rintro e w5 ⟨rfl,QS,PN,Tu⟩;have SB:=cN QS;have hs5:=PN.size;have Tb:=cN (Rm.o.trans PN (by omega));have HV5:=cN (U5.o.ch PN (by omega) (by omega));have Q3:=cN (HR4.o.ch PN (by omega) (by omega));rw[HI.o]at QS⊢;clear QS PN;obtain⟨VM,PV⟩:∃s,s=(if(I.fR (I.fq ts).1).2=0 then st else I.fail C.text.size 271 st):=⟨_,rfl⟩;have PE:Hid (PS C VM w5):=by have:=SB.o;rw[HI.o,←PV]at this;exact this
   have HL:Hid (I.literal C.text.size st=(I.lit ⟨2,(I.fR (I.fq ts).1).1,I.dp⟩,I.next VM)):=by
    show _=_;rw[HS.o,if_neg (by decide),if_pos (by trivial),PV,HDk.o];by_cases h0:(I.fR (I.fq ts).1).2=0
    ·rw[if_pos h0,if_pos h0]
    ·rw[if_neg h0,if_neg h0];have:(I.fR (I.fq ts).1).1=0:=by
      unfold I.fR at h0⊢;split at h0
      ·exact absurd rfl h0
      ·rename_i h1;rw[if_neg h1]
     rw[this]
   have hex:∃k,k≤C.ts.length∧PB C VM w5 k:=by
    by_cases h0:(I.fR (I.fq ts).1).2=0
    ·rw[if_pos h0]at PV;obtain⟨k,hk⟩:=PE.o.1;refine⟨k,?_,hk⟩;have h1:=hk.2.1;rw[PV,Hr.o]at h1;by_cases h2:k<C.ts.length
     ·omega
     ·rw[bc (by omega)]at h1;cases h1
    ·rw[if_neg h0]at PV;rw[PV];exact⟨_,aa _,Tu (by rw[HI.o];exact h0)⟩
   clear PV Tu;obtain⟨k,hkn,hpb⟩:=hex;obtain⟨x0,x1,x2,x3,x4,x5,xf⟩:=hpb.cells;have VE:=xf 2;have HB:=cN hpb;clear hpb x0 x1 x3 x4 x5 xf;clear v0 v1 v2 z0 z1 z2 r0 r1 r2 r3 r4 r5 r6 r7 f0 f1 f2 f3 f4 f5 f6 f7;obtain⟨v0,v1,v2⟩:=HV5.o.y3 0 1 2;simp at v0 v1 v2;obtain⟨z0,z1,z2⟩:=HV5.o.z3 0 1 2;obtain⟨r0,r1,r2,r3,r4,r5,r6,r7⟩:=Q3.o.y8 0 1 2 3 4 5 6 7;simp at r0 r1 r2 r3 r4 r5 r6 r7;obtain⟨f0,f1,f2,f3,f4,f5,f6,f7⟩:=Q3.o.z8 0 1 2 3 4 5 6 7;have n1:C.g≠g4:=by omega
   have n2:C.g≠w.heap.size:=by omega
   have n3:g4≠w.heap.size:=by omega
   have hin:=uk (I.fq ts).1;obtain⟨N,XV⟩:∃N,N=(I.fR (I.fq ts).1).1:=⟨_,rfl⟩;rw[←XV]at HL hin⊢;clear XV;go_wp2_with fail
   refine ae (v:=.agg (cT ⟨1,⟨2,N,I.dp⟩,I.dp,I.dp,0⟩ none 0 0).toArray) (av rfl _ _ w.heap.size 50 _ (0,0) _ rfl (eO ((Q3.o.far (p:=⟨g4,1,none⟩) (by show w.heap.size≠g4;omega) _).far (p:=⟨C.g,2,none⟩) (by show w.heap.size≠C.g;omega) _) _ _ _ _ _ _ _ _) hZ rfl fo) rfl ⟨_,rfl,?_,?_,?_⟩
   ·rw[HL.o];exact iI (kR (l:=[]) (by omega) (by omega) (by simp))
   ·rw[HL.o];exact gz ((PE.o.set (p:=⟨g4,1,none⟩) _ (by show C.g<g4;omega)).put ((Ch.refl _ _ _).set (p:=⟨C.g,2,none⟩) (.inl rfl) _) (PB.next ⟨HB.o.1.far (p:=⟨g4,1,none⟩) (by show C.g≠g4;omega) _,HB.o.2⟩ hkn)) NK _ _ _ _ _ _ _ _
   ·exact ez ((Tb.o.set (p:=⟨g4,1,none⟩) (.inr (by show w.heap.size≤g4;omega)) _).set (p:=⟨C.g,2,none⟩) (.inl rfl) _) (.inr (aa _)) _ _ _ _ _ _ _ _
  |some b=>
   obtain⟨hb1,hb2⟩:=hd3 b hcut;have hbs:(I.bs b).size=b.length:=by have:=eI (I.bs b);rw[dA]at this;omega
   have has:(I.bs (I.cut ts).1).size≤4096:=by have h1:=eI (I.bs (I.cut ts).1);rw[dA]at h1;have h2:=I.uE ts;omega
   have HDk:Hid ((I.fq ts).2=3):=by show _=_;unfold I.fq;rw[hcut]
   have HD1:Hid ((I.fq ts).1=(I.cut ts).1++(b++[48,48,48]).take 4):=by show _=_;unfold I.fq;rw[hcut]
   rw[Option.getD_some,Option.isSome_some];have hbI:(1:Int)≤((I.bs b).size:Int):=by omega
   have hbJ:((I.bs b).size:Int)≤4:=by omega
   clear hcut hd3 hb1 hb2;obtain⟨v0,v1,v2⟩:=U5.o.y3 0 1 2;simp at v0 v1 v2;obtain⟨z0,z1,z2⟩:=U5.o.z3 0 1 2;obtain⟨r0,r1,r2,r3,r4,r5,r6,r7⟩:=HR4.o.y8 0 1 2 3 4 5 6 7;simp at r0 r1 r2 r3 r4 r5 r6 r7;obtain⟨f0,f1,f2,f3,f4,f5,f6,f7⟩:=HR4.o.z8 0 1 2 3 4 5 6 7;go_wp2_with fail
   obtain⟨XW,RZ⟩:∃x,x=w4.setCell ⟨g4,0,none⟩ (.int .u8 3):=⟨_,rfl⟩;rw[←RZ];have U5:=cN (show NA XW g4 48 #[.int .u8 3,.int .i64 0,.string ⟨#[]⟩] by rw[RZ];simpa using U5.o.put 0 (.int .u8 3));have HR4:=cN (show NA XW w.heap.size _ _ by rw[RZ];exact HR4.o.far (p:=⟨g4,0,none⟩) (by show w.heap.size≠g4;omega) _);have Q2:=cN (show PS C st XW by rw[RZ];exact Q2.o.set (p:=⟨g4,0,none⟩) _ (by show C.g<g4;omega));have Rm:=cN (show Ch C.g w.heap.size w XW by rw[RZ];exact Rm.o.set (p:=⟨g4,0,none⟩) (.inr (by show w.heap.size≤g4;omega)) _);have hs4:XW.heap.size=w2.heap.size:=by rw[RZ];simpa using hs4
   clear RZ;have hdd:=FV (I.cut ts).1 b;obtain⟨sd,hsd⟩:∃x,x=I.bs (I.cut ts).1++(I.bs b++⟨#[48,48,48]⟩).extract 0 4:=⟨_,rfl⟩;rw[←hsd]at hdd⊢;have HI:Hid (I.oA sd.data.toList=I.fR (I.fq ts).1):=by show _=_;rw[hdd,←HD1.o];exact HI0.o
   have hsz:sd.size≤281474976710656:=by have h1:=eI sd;rw[hdd,ah,aP]at h1;have h2:=I.uE ts;omega
   clear hdd hsd;with_reducible refine(mg C sd st _ Q2.o hsz).mono ?_
   rintro e w5 ⟨rfl,QS,PN,Tu⟩;have SB:=cN QS;have hs5:=PN.size;have Tb:=cN (Rm.o.trans PN (by omega));have HV5:=cN (U5.o.ch PN (by omega) (by omega));have Q3:=cN (HR4.o.ch PN (by omega) (by omega));rw[HI.o]at QS⊢;clear QS PN;obtain⟨VM,PV⟩:∃s,s=(if(I.fR (I.fq ts).1).2=0 then st else I.fail C.text.size 271 st):=⟨_,rfl⟩;have PE:Hid (PS C VM w5):=by have:=SB.o;rw[HI.o,←PV]at this;exact this
   have HL:Hid (I.literal C.text.size st=(I.lit ⟨3,(I.fR (I.fq ts).1).1,I.dp⟩,I.next VM)):=by
    show _=_;rw[HS.o,if_neg (by decide),if_pos (by trivial),PV,HDk.o];by_cases h0:(I.fR (I.fq ts).1).2=0
    ·rw[if_pos h0,if_pos h0]
    ·rw[if_neg h0,if_neg h0];have:(I.fR (I.fq ts).1).1=0:=by
      unfold I.fR at h0⊢;split at h0
      ·exact absurd rfl h0
      ·rename_i h1;rw[if_neg h1]
     rw[this]
   have hex:∃k,k≤C.ts.length∧PB C VM w5 k:=by
    by_cases h0:(I.fR (I.fq ts).1).2=0
    ·rw[if_pos h0]at PV;obtain⟨k,hk⟩:=PE.o.1;refine⟨k,?_,hk⟩;have h1:=hk.2.1;rw[PV,Hr.o]at h1;by_cases h2:k<C.ts.length
     ·omega
     ·rw[bc (by omega)]at h1;cases h1
    ·rw[if_neg h0]at PV;rw[PV];exact⟨_,aa _,Tu (by rw[HI.o];exact h0)⟩
   clear PV Tu;obtain⟨k,hkn,hpb⟩:=hex;obtain⟨x0,x1,x2,x3,x4,x5,xf⟩:=hpb.cells;have VE:=xf 2;have HB:=cN hpb;clear hpb x0 x1 x3 x4 x5 xf;clear v0 v1 v2 z0 z1 z2 r0 r1 r2 r3 r4 r5 r6 r7 f0 f1 f2 f3 f4 f5 f6 f7;obtain⟨v0,v1,v2⟩:=HV5.o.y3 0 1 2;simp at v0 v1 v2;obtain⟨z0,z1,z2⟩:=HV5.o.z3 0 1 2;obtain⟨r0,r1,r2,r3,r4,r5,r6,r7⟩:=Q3.o.y8 0 1 2 3 4 5 6 7;simp at r0 r1 r2 r3 r4 r5 r6 r7;obtain⟨f0,f1,f2,f3,f4,f5,f6,f7⟩:=Q3.o.z8 0 1 2 3 4 5 6 7;have n1:C.g≠g4:=by omega
   have n2:C.g≠w.heap.size:=by omega
   have n3:g4≠w.heap.size:=by omega
   have hin:=uk (I.fq ts).1;obtain⟨N,XV⟩:∃N,N=(I.fR (I.fq ts).1).1:=⟨_,rfl⟩;rw[←XV]at HL hin⊢;clear XV;go_wp2_with fail
   refine ae (v:=.agg (cT ⟨1,⟨3,N,I.dp⟩,I.dp,I.dp,0⟩ none 0 0).toArray) (av rfl _ _ w.heap.size 50 _ (0,0) _ rfl (eO ((Q3.o.far (p:=⟨g4,1,none⟩) (by show w.heap.size≠g4;omega) _).far (p:=⟨C.g,2,none⟩) (by show w.heap.size≠C.g;omega) _) _ _ _ _ _ _ _ _) hZ rfl fo) rfl ⟨_,rfl,?_,?_,?_⟩
   ·rw[HL.o];exact iI (kR (l:=[]) (by omega) (by omega) (by simp))
   ·rw[HL.o];exact gz ((PE.o.set (p:=⟨g4,1,none⟩) _ (by show C.g<g4;omega)).put ((Ch.refl _ _ _).set (p:=⟨C.g,2,none⟩) (.inl rfl) _) (PB.next ⟨HB.o.1.far (p:=⟨g4,1,none⟩) (by show C.g≠g4;omega) _,HB.o.2⟩ hkn)) NK _ _ _ _ _ _ _ _
   ·exact ez ((Tb.o.set (p:=⟨g4,1,none⟩) (.inr (by show w.heap.size≤g4;omega)) _).set (p:=⟨C.g,2,none⟩) (.inl rfl) _) (.inr (aa _)) _ _ _ _ _ _ _ _
 ·obtain⟨k,hpb⟩:=Ow.o.1;have hkn:=Hkl.o k hpb;obtain⟨x0,x1,x2,x3,x4,x5,xf⟩:=hpb.cells;have VE:=xf 2;have HB:=cN hpb;clear hpb x0 x1 x3 x4 x5 xf;have n1:C.g≠g4:=by omega
  have n2:C.g≠w.heap.size:=by omega
  have n3:g4≠w.heap.size:=by omega
  by_cases h4:tk=4
  ·have HS2:Hid (I.literal C.text.size st=(I.lit ⟨5,0,I.bs ts⟩,I.next st)):=by show _=_;rw[HS.o,if_pos h4]
   have q4:((tk.toNat:Int)==4)=true:=by rw[h4];decide
   clear h2 h4 hkt;go_wp2_with fail
   refine ae (v:=.agg (cT ⟨1,⟨5,0,I.bs ts⟩,I.dp,I.dp,0⟩ none 0 0).toArray) (av rfl _ _ w.heap.size 50 _ (0,0) _ rfl (eO ((HR2.o.far (p:=⟨g4,0,none⟩) (by show w.heap.size≠g4;omega) _).far (p:=⟨C.g,2,none⟩) (by show w.heap.size≠C.g;omega) _) _ _ _ _ _ _ _ _) hZ rfl fo) rfl ⟨_,rfl,?_,?_,?_⟩
   ·rw[HS2.o];exact iI (kR (by omega) (by omega) hts)
   ·rw[HS2.o];exact gz ((Ow.o.set (p:=⟨g4,0,none⟩) _ (by show C.g<g4;omega)).put ((Ch.refl _ _ _).set (p:=⟨C.g,2,none⟩) (.inl rfl) _) (PB.next ⟨HB.o.1.far (p:=⟨g4,0,none⟩) (by show C.g≠g4;omega) _,HB.o.2⟩ (by omega))) NK _ _ _ _ _ _ _ _
   ·exact ez ((P7.o.set (p:=⟨g4,0,none⟩) (.inr (by show w.heap.size≤g4;omega)) _).set (p:=⟨C.g,2,none⟩) (.inl rfl) _) (.inr (aa _)) _ _ _ _ _ _ _ _
  ·have HS2:Hid (I.literal C.text.size st=(I.lit ⟨4,0,I.bs ts⟩,I.next st)):=by show _=_;rw[HS.o,if_neg h4,if_neg h2]
   have q4:((tk.toNat:Int)==4)=false:=by simp;exact fun e=>h4 (aF.1 (by rw[show((4:UInt8).toNat)=4 from rfl];omega))
   have q2:((tk.toNat:Int)==2)=false:=by simp;exact fun e=>h2 (aF.1 (by rw[show((2:UInt8).toNat)=2 from rfl];omega))
   clear h2 h4 hkt;go_wp2_with fail
   refine ae (v:=.agg (cT ⟨1,⟨4,0,I.bs ts⟩,I.dp,I.dp,0⟩ none 0 0).toArray) (av rfl _ _ w.heap.size 50 _ (0,0) _ rfl (eO (HR2.o.far (p:=⟨C.g,2,none⟩) (by show w.heap.size≠C.g;omega) _) _ _ _ _ _ _ _ _) hZ rfl fo) rfl ⟨_,rfl,?_,?_,?_⟩
   ·rw[HS2.o];exact iI (kR (by omega) (by omega) hts)
   ·rw[HS2.o];exact gz (Ow.o.put ((Ch.refl _ _ _).set (p:=⟨C.g,2,none⟩) (.inl rfl) _) (HB.o.next (by omega))) NK _ _ _ _ _ _ _ _
   ·exact ez (P7.o.set (p:=⟨C.g,2,none⟩) (.inl rfl) _) (.inr (aa _)) _ _ _ _ _ _ _ _
end
theorem Ik{C:RC}{st:I.St}{w:World}(h:PS C st w):(I.name C.text.size st).1.length≤4096:=by
 unfold I.name;cases hr:st.r with
 |nil=>exact ao _
 |cons t r=>
  simp only;split
  ·exact(qh h hr).1
  ·exact ao _
section
variable{C:RC}{w0 w:World}{own:eP}{its:List It}{st:I.St}
theorem fk(F:Fr C.g w0 own its (PS C st) w):Calls Tryz.prog 131 #[.pointer (some ⟨C.g,0,none⟩)] w fun e w'=>∃n s,I.name C.text.size st=(n,s)∧n.length≤4096∧e=.returned (.string (I.bs n))∧Fr C.g w0 own its (PS C s) w':=
 (rb C st w F.q).mono fun _ _ ⟨h1,h2,h3⟩=>⟨_,_,rfl,Ik F.q,h1,F.call h2.eU h3⟩
theorem eh(s:ByteArray)(l:I.Bs)(hl:s.data.toList=l)(F:Fr C.g w0 own its (PS C st) w):Calls Tryz.prog 25 #[.pointer (some ⟨C.g,0,none⟩),.string s] w fun e w'=>∃b,I.dh l st=b∧e=.returned (.bool b)∧Fr C.g w0 own its (PS C (if b=true then I.next st else st)) w':=by
 subst hl;refine(eF C s st w F.q).mono fun _ _ ⟨h1,h2,h3⟩=>⟨_,rfl,h1,F.call (PS.eU ?_) h3⟩
 exact h2
theorem JR(F:Fr C.g w0 own its (PS C st) w):Calls Tryz.prog 200 #[.pointer (some ⟨C.g,0,none⟩)] w fun e w'=>∃b,I.named st=b∧e=.returned (.bool b)∧Fr C.g w0 own its (PS C st) w':=
 (sP C st w F.q).mono fun _ _ ⟨h1,h2⟩=>⟨_,rfl,h1,F.quiet h2⟩
theorem Fy(F:Fr C.g w0 own its (PS C st) w):Calls Tryz.prog 62 #[.pointer (some ⟨C.g,0,none⟩)] w fun e w'=>∃t,I.fj C.text.size st=t∧e=.returned (qa t)∧Fr C.g w0 own its (PS C st) w':=
 (jX C st w F.q).mono fun _ _ ⟨h1,h2⟩=>⟨_,rfl,h1,F.quiet h2⟩
theorem uw(x:Int)(n:Nat)(hx:x=(n:Int))(F:Fr C.g w0 own its (PS C st) w):Calls Tryz.prog 26 #[.pointer (some ⟨C.g,0,none⟩),.int .i64 x] w fun e w'=>∃s,I.fail C.text.size n st=s∧e=.returned (.tuple #[])∧Fr C.g w0 own its (PS C s) w':=
 (kV C x n st w F.q hx).mono fun _ _ ⟨h1,h2,h3⟩=>⟨_,rfl,h1,F.call h2.eU h3⟩
theorem BP(F:Fr C.g w0 own its (PS C st) w):Calls Tryz.prog 202 #[.pointer (some ⟨C.g,0,none⟩)] w fun e w'=>∃s,I.fD C.text.size st=s∧e=.returned (.tuple #[])∧Fr C.g w0 own its (PS C s) w':=
 (pT C st w F.q).mono fun _ _ ⟨h1,h2,h3⟩=>⟨_,rfl,h1,F.call h2.eU h3⟩
theorem sY(F:Fr C.g w0 own its (PS C st) w){n:Nat}{t:TypeId}{cells:Array Value}{ss:List I.Bs}(hc:cells.toList=ss.map fun s=>Value.string (I.bs s))(hn:n=ss.length)(hm:n≤1000):Rr Ql (w.alloc (.cells cells t)) (Pg C (w.alloc (.cells cells t))) (.slice (some ⟨w.heap.size,0,none⟩) n n) ss:=
 oF (NA.new w t cells) hc (aB F.lt F.ch.size) hn hm
theorem dE(F:Fr C.g w0 own its (PS C st) w){n:Nat}{t:TypeId}{cells:Array Value}(ss:List I.Bs)(hc:cells.toList=ss.map fun s=>Value.string (I.bs s))(hn:n=ss.length)(hm:n≤1000):
 Calls Tryz.prog 133 #[.pointer (some ⟨C.g,0,none⟩),.slice (some ⟨w.heap.size,0,none⟩) n n] (w.alloc (.cells cells t)) fun e w'=>∃s,I.expect C.text.size ss st=s∧e=.returned (.tuple #[])∧Fr C.g w0 own its (PS C s) w':=
 (lG C _ ss st _ (F.tmp _).q (sY F hc hn hm)).mono fun _ _ ⟨h1,h2,h3⟩=>⟨_,rfl,h1,(F.tmp _).call h2.eU h3⟩
theorem EH(F:Fr C.g w0 own its (PS C st) w){n:Nat}{t:TypeId}{cells:Array Value}(ss:List I.Bs)(hc:cells.toList=ss.map fun s=>Value.string (I.bs s))(hn:n=ss.length)(hm:n≤1000):
 Calls Tryz.prog 130 #[.pointer (some ⟨C.g,0,none⟩),.slice (some ⟨w.heap.size,0,none⟩) n n] (w.alloc (.cells cells t)) fun e w'=>∃(i:Nat) (s:I.St),I.choose C.text.size 0 ss st=(i,s)∧e=.returned (.int .i64 (i:Int))∧Fr C.g w0 own its (PS C s) w':=
 (Ad C _ ss st _ (F.tmp _).q (sY F hc hn hm)).mono fun _ _ ⟨h1,h2,h3⟩=>⟨_,_,rfl,h1,(F.tmp _).call h2.eU h3⟩
def kx{α:Type}(E:El α)(C:RC)(w:World)(r:List α×I.St)(e:Ending)(w':World):Prop:=∃v,e=.returned v∧Rr E w' (In w.heap.size w'.heap.size) v r.1∧PS C r.2 w'∧Ch C.g w.heap.size w w'
theorem Fr.sub{α:Type}{E:El α}{f:FuncId}{args:Array Value}{r:α×I.St}(F:Fr C.g w0 own its (PS C st) w)(h:Calls Tryz.prog f args w (EPost E C w r)):Calls Tryz.prog f args w fun e w'=>∃cs x s,r=(x,s)∧e=.returned (.agg cs.toArray)∧Fr C.g w0 own (It.el E cs x::its) (PS C s) w':=
 h.mono fun _ _ ⟨cs,h1,h2,h3,h4⟩=>⟨cs,r.1,r.2,rfl,h1,F.BC (It.el E cs r.1) h3.eU h4 h2⟩
theorem Fr.mr{α:Type}{E:El α}{f:FuncId}{args:Array Value}{r:List α×I.St}(F:Fr C.g w0 own its (PS C st) w)(h:Calls Tryz.prog f args w (kx E C w r)):Calls Tryz.prog f args w fun e w'=>∃v xs s,r=(xs,s)∧e=.returned v∧Fr C.g w0 own (It.rr E v xs::its) (PS C s) w':=
 h.mono fun _ _ ⟨v,h1,h2,h3,h4⟩=>⟨v,r.1,r.2,rfl,h1,F.BC (It.rr E v r.1) h3.eU h4 h2⟩
theorem Fr.xO{f:FuncId}{args:Array Value}{r:Ev.Ex×I.St}(F:Fr C.g w0 own its (PS C st) w)(h:Calls Tryz.prog f args w (ij C w r)):Calls Tryz.prog f args w fun e w'=>∃h A m c x s,r=(x,s)∧e=.returned (.agg #[.int .u8 (h.o.toNat:Int),.int .u8 (h.v.k.toNat:Int),.int .i64 h.v.n,.string h.v.s,.string h.nm,.string h.of,.int .i64 h.n,.slice A m c])∧Fr C.g w0 own (It.el NI (cT h A m c) x::its) (PS C s) w':=
 h.mono fun _ _ ⟨cs,h1,h2,h3,h4⟩=>by
  obtain⟨h,A,m,c,ks,rfl,hk⟩:=dC h2
  exact⟨h,A,m,c,r.1,r.2,rfl,h1,F.BC (It.el NI (cT h A m c) r.1) h3.eU h4 h2⟩
theorem Sz.of{l:I.Bs}(h:l.length≤4096):Sz l:=by unfold Sz maxLen;omega
end
section
set_option maxRecDepth 100000
def iH(L:List (Nat×Obj))(w:World):Prop:=∀p∈L,w.heap[p.1]?=some p.2
def GG(L:List (Nat×Obj))(g B:Nat):Prop:=∀p∈L,p.1≠g∧p.1<B
theorem iH.ch{L:List (Nat×Obj)}{g B:Nat}{w w':World}(h:iH L w)(hL:GG L g B)(hc:Ch g B w w'):iH L w':=fun p hp=>(hc.block p.1 (hL p hp).2 (hL p hp).1).trans (h p hp)
theorem iH.inn{L:List (Nat×Obj)}{w:World}{g:Nat}(h:iH L w)(hg:∀p∈L,p.1≠g):GG L g w.heap.size:=fun p hp=>⟨hg p hp,lt_of_block (h p hp)⟩
theorem iH.none(w:World):iH [] w:=fun p hp=>by cases hp
def jS{α:Type}(C:RC)(N:FuncId)(args:Array Value)(L:List (Nat×Obj))(Post:RC→World→α×I.St→Ending→World→Prop)(kid:I.St→α×I.St)(n:Nat):Prop:=∀(st:I.St) (w:World),st.r.length≤n→PS C st w→iH L w→Calls Tryz.prog N args w (Post C w (kid st))
theorem jS.at{α:Type}{C:RC}{N:FuncId}{args:Array Value}{L:List (Nat×Obj)}{Post:RC→World→α×I.St→Ending→World→Prop}{kid:I.St→α×I.St}{n:Nat}(h:jS C N args L Post kid n)(st:I.St)(w:World)(hn:st.r.length≤n)(hp:PS C st w)(hL:iH L w):Calls Tryz.prog N args w (Post C w (kid st)):=h st w hn hp hL
theorem jS.of{C:RC}{N:FuncId}{args:Array Value}{kid:I.St→Ev.Ex×I.St}{n:Nat}(h:fH C N args kid n):jS C N args [] ij kid n:=fun st w hn hp _=>h st w hn hp
theorem kp(C:RC)(N:FuncId)(bs cs args:Array Value)(hN:∀w:World,(callFunc N (bs++cs)).run Tryz.prog w=.ok (.enter N args) w)(L:List (Nat×Obj))(Rf:∀p∈L,p.1≠C.g)(kid:I.St→Ev.Ex×I.St)(n:Nat)(hK:jS C N args L ij kid n)
 (st:I.St) (w:World) (hn:st.r.length≤n+1) (hx0:st.r.length≤n∨I.dh [40] st=true) (h:PS C st w) (hL:iH L w):
 Calls Tryz.prog 199 #[.pointer (some ⟨C.g,0,none⟩),.func (.func N) bs cs] w (ij C w (I.inside C.text.size kid st)):=by
 have NK:=h.lt;have HP:=cN h;have HK:=cN hK;have HL:=cN hL;have HLg:=cN Rf;have hn1:(I.expect C.text.size [[40]] st).r.length≤n:=by
  rcases hx0 with h1|h1
  ·exact aw (I.eH _ _ _) h1
  ·have:=I.gZ h1;simp only[I.expect,if_pos h1];omega
 clear h hK hL Rf hx0;go_enter Tryz.func199,Tryz.ntmps199;go_wp2_with fail
 with_reducible refine(lG C _ [[40]] st _ ((HP.o.alloc _).alloc _) (oF (C:=C) (n:=1) (cells:=#[.string ⟨#[40]⟩]) (NA.oK _ _ _ _) rfl (by omega) rfl (by decide))).mono ?_
 rintro e w1 ⟨rfl,hp1,hc1⟩;have hs1:=hc1.size;simp at hs1;obtain⟨s1,VN⟩:∃s,s=I.expect C.text.size [[40]] st:=⟨_,rfl⟩;rw[←VN]at hp1 hn1;have WA:=cN VN;have Oa:=cN hp1;have Oh:=cN ((((Ch.refl C.g w.heap.size w).alloc (aa _) _).alloc (by simp) _).trans hc1 (by simp;omega));have HR1:=cN (((NA.new w _ _).alloc _).ch hc1 (by simp;omega) (by omega));have Ut:=cN (HL.o.ch (HL.o.inn HLg.o) Oh.o);clear hp1 hc1 VN;go_wp2_with fail
 with_reducible refine(HK.o.at s1 _ hn1 Oa.o Ut.o).mono ?_
 rintro e w2 ⟨cs2,rfl,hx2,hp2,hc2⟩;have hs2:=hc2.size;obtain⟨h2,A2,m2,c2,Rt,rfl,hk2⟩:=dC hx2;have Px:=cN hx2;have Ow:=cN hp2;have P7:=cN (Oh.o.trans hc2 (by omega));have HR2:=cN (HR1.o.ch hc2 (by omega) (by omega));clear hx2 hp2 hc2 hk2;unfold cT;go_wp2_with fail
 have hlt2:=Ow.o.lt;with_reducible refine(lG C _ [[41]] (kid s1).2 _ ((Ow.o.alloc _).alloc _) (oF (C:=C) (n:=1) (cells:=#[.string ⟨#[41]⟩]) (NA.oK _ _ _ _) rfl (by omega) rfl (by decide))).mono ?_
 rintro e w3 ⟨rfl,hp3,hc3⟩;have hs3:=hc3.size;simp at hs3;have Rl:=cN hp3;have Rv:=cN (((P7.o.alloc (by omega) _).alloc (by simp;omega) _).trans hc3 (by simp;omega));have HR3:=cN (((HR2.o.alloc _).alloc _).ch hc3 (by simp;omega) (by omega));have ZD:=cN (((NA.new w2 _ _).alloc _).ch hc3 (by simp;omega) (by omega));have Tc:=cN (Px.o.hp (w':=w3) (fun _ h=>h) (fun b hb=>by
  have h1:=hb.1
  have h2:=hb.2
  exact(hc3.block b (by simp;omega) (by omega)).trans ((aL _ _ b (by simp;omega)).trans (aL w2 _ b h2))))
 clear hp3 hc3;obtain⟨x0,x1,x2,x3,x4,x5,x6,x7⟩:=ZD.o.y8 0 1 2 3 4 5 6 7;simp at x0 x1 x2 x3 x4 x5 x6 x7;obtain⟨r0,r1,r2,r3,r4,r5,r6,r7⟩:=HR3.o.y8 0 1 2 3 4 5 6 7;simp at r0 r1 r2 r3 r4 r5 r6 r7;obtain⟨f0,f1,f2,f3,f4,f5,f6,f7⟩:=HR3.o.z8 0 1 2 3 4 5 6 7;go_wp2_with fail
 refine ae (v:=.agg (cT h2 A2 m2 c2).toArray) (av rfl _ _ w.heap.size 50 _ (0,0) _ rfl (eO HR3.o _ _ _ _ _ _ _ _) hZ rfl fo) rfl ⟨_,rfl,?_,?_,?_⟩
 ·unfold I.inside;rw[←WA.o];exact Tc.o.hp (fun b hb=>⟨by have:=hb.1;omega,by have:=hb.2;simp;omega⟩) fun b hb=>(ez (Ch.refl w.heap.size w3.heap.size w3) (.inl rfl) _ _ _ _ _ _ _ _).block b (by have:=hb.2;omega) (by have:=hb.1;omega)
 ·unfold I.inside;rw[←WA.o];exact gz Rl.o NK _ _ _ _ _ _ _ _
 ·exact ez Rv.o (.inr (aa _)) _ _ _ _ _ _ _ _
end
section
set_option maxRecDepth 100000
section
variable{w:World}{P:Nat→Prop}{cs:List Value}
theorem xX{x:I.Qq}(h:fL.R w P cs x):∃h A m c n,cs=cT h A m c++[.string n]:=by
 obtain⟨ce,rfl,hx,_⟩:=h;obtain⟨h,A,m,c,ks,rfl,_⟩:=dC hx;exact⟨h,A,m,c,_,rfl⟩
theorem vB{x:I.Ord}(h:fY.R w P cs x):∃h A m c n,cs=cT h A m c++[.bool n]:=by
 obtain⟨ce,rfl,hx⟩:=h;obtain⟨h,A,m,c,ks,rfl,_⟩:=dC hx;exact⟨h,A,m,c,_,rfl⟩
theorem tO{x:I.OI}(h:fG.R w P cs x):∃h A m c n,cs=.string n::cT h A m c:=by
 obtain⟨ce,rfl,hx,_⟩:=h;obtain⟨h,A,m,c,ks,rfl,_⟩:=dC hx;exact⟨h,A,m,c,_,rfl⟩
theorem dj{α:Type}{E:El α}{v:Value}{xs:List α}(h:Rr E w P v xs):∃A m c,v=.slice A m c:=by
 obtain⟨A,c,rfl,_⟩:=h.form;exact⟨A,_,c,rfl⟩
theorem rn{x:I.Oj}(h:eM.R w P cs x):∃n k a b u A m c f y,cs=[.string n,.int .u8 k,.bool a,.bool b,.bool u,.slice A m c,.string f,.int .u8 y]:=by
 obtain⟨v,rfl,hv,_⟩:=h;obtain⟨A,m,c,rfl⟩:=dj hv;exact⟨_,_,_,_,_,_,_,_,_,_,rfl⟩
end
def iK(cs:List Value):Value:=.agg cs.toArray
def yw(cs:List Value):Value:=cs.headD undef
def KP{α:Type}(E:El α)(val:List Value→Value)(C:RC)(w:World)(r:α×I.St)(e:Ending)(w':World):Prop:=∃cs,e=.returned (val cs)∧E.R w' (In w.heap.size w'.heap.size) cs r.1∧PS C r.2 w'∧Ch C.g w.heap.size w w'
abbrev ir {α:Type} (E:El α) (Post:RC→World→α×I.St→Ending→World→Prop) (f:FuncId):Prop:=∀(C:RC) (N:FuncId) (bs cs args:Array Value) (_:∀w:World,(callFunc N (bs++cs)).run Tryz.prog w=.ok (.enter N args) w) (L:List (Nat×Obj)) (_:∀p∈L,p.1≠C.g) (most:Nat) (mo:Int) (_:mo=(most:Int)) (_:most≤1000) (_:1≤most) (kid:I.St→α×I.St) (_:I.eZ kid) (n:Nat) (_:jS C N args L Post kid n) (st:I.St) (w:World) (_:st.r.length≤n) (_:PS C st w) (_:iH L w),Calls Tryz.prog f #[.pointer (some ⟨C.g,0,none⟩),.int .i64 mo,.func (.func N) bs cs] w (kx E C w (I.list C.text.size most kid st))
theorem P8{P:Program}{s:Code}{Q:Exit→Act→World→Prop}{a:Act}{w:World}(h:∀w',w'=w→s.wp P Q a w'):s.wp P Q a w:=h w rfl
theorem wpLN{P:Program}{ops:Array Oper}{l:List Oper}{Q:Exit→Act→World→Prop}{a:Act}{w:World}(h:∀w',w'=w→wpList P ops Q l a w'):wpList P ops Q l a w:=h w rfl
section
variable{α:Type}{E:El α}{w w1 w2 w4 w5 w6:World}{v:Value}{xs:List α}{cs:List Value}{x:α}{arr:Array Value}{lo:Nat}
theorem Ro.lit1(h:w2=w1.alloc (.cells arr E.t))(ha:arr=cs.toArray)(hs:w.heap.size≤w1.heap.size)(hx:E.R w1 (In w.heap.size w1.heap.size) cs x):Ro E w2 w.heap.size (.slice (some ⟨w1.heap.size,0,none⟩) 1 1) [x]:=by
 subst h ha;exact Ro.lit (NA.new w1 _ _) hs (El.hp hx (fun b hb=>⟨by have:=hb.1;omega,by have:=hb.2;simp;omega,by have:=hb.2;omega⟩) fun b hb=>aL w1 _ b hb.2)
theorem app6(h:w6=w5.alloc (.cells arr E.t))(ha:arr=cs.toArray)(hO:Ro E w4 lo v xs)(hlo:lo≤w4.heap.size)(hO5:Ro E w5 lo v xs)(hx:E.R w5 (In w4.heap.size w5.heap.size) cs x):Hid (Ro E w6 lo v xs)∧Hid (E.R w6 (Pow w6 lo v) cs x)∧Hid (NA w6 w5.heap.size E.t cs.toArray):=by
 subst h ha;exact⟨cN (hO5.alloc _),cN (hO.pow hlo (El.hp hx (fun b hb=>hb) fun b hb=>aL w5 _ b hb.2) fun b hb=>⟨by have:=hb.1;omega,by have:=hb.2;simp;omega⟩),cN (NA.new w5 _ _)⟩
end
def vj(C:RC)(w:World)(r:UInt8×I.St)(e:Ending)(w':World):Prop:=e=.returned (.int .u8 (r.1.toNat:Int))∧PS C r.2 w'∧Ch C.g w.heap.size w w'
theorem I.BO{α:Type}{T most f:Nat}{one:I.St→α×I.St}{l:List α}{st:I.St}(hf:st.r.length<f)(ha:I.dh [44] st=true)(hl:l.length=most):I.more T most one f l st=(l,I.fD T (I.next st)):=by
 obtain⟨f,rfl⟩:∃k,f=k+1:=⟨f-1,by omega⟩;simp only[I.more,if_pos ha,if_pos hl]
theorem I.BU{α:Type}{T most f:Nat}{one:I.St→α×I.St}{l:List α}{st:I.St}(hf:st.r.length<f)(ha:I.dh [44] st=true)(hl:l.length≠most):I.more T most one f l st=I.more T most one (f-1) (l++[(one (I.next st)).1]) (one (I.next st)).2:=by
 obtain⟨f,rfl⟩:∃k,f=k+1:=⟨f-1,by omega⟩;simp only[I.more,if_pos ha,if_neg hl,Nat.add_sub_cancel]
theorem I.Fg{α:Type}{T most f:Nat}{one:I.St→α×I.St}{l:List α}{st:I.St}(hf:st.r.length<f)(ha:I.dh [44] st=false):I.more T most one f l st=(l,st):=by
 obtain⟨f,rfl⟩:∃k,f=k+1:=⟨f-1,by omega⟩;simp only[I.more,if_neg (show¬I.dh [44] st=true by rw[ha];decide)]
theorem xm{w:World}{P:Nat→Prop}{cs:List Value}{x:List Ev.Ex}(h:fO.R w P cs x):∃A m c,cs=[.slice A m c]:=by
 obtain⟨v,rfl,hv⟩:=h;obtain⟨A,m,c,rfl⟩:=dj hv;exact⟨A,m,c,rfl⟩
theorem AZ{w:World}{P:Nat→Prop}{cs:List Value}{x:UInt8}(h:jZ.R w P cs x):cs=[.int .u8 (x.toNat:Int)]:=h
abbrev Lm {α:Type} {E:El α} {val:List Value→Value} {C:RC} {N:FuncId} {args:Array Value} {L:List (Nat×Obj)} {kid:I.St→α×I.St} {n:Nat} (_:Hid (jS C N args L (KP E val) kid n)):El α:=E
theorem iV:ir NI (KP NI iK) 205∧ir fL (KP fL iK) 207∧ir fY (KP fY iK) 210∧ir fG (KP fG iK) 136∧ir eM (KP eM iK) 197∧ir fO (KP fO yw) 134∧ir jZ (KP jZ yw) 236:=by
 refine⟨?_,?_,?_,?_,?_,?_,?_⟩;all_goals
  intro C N bs cs args hN L Rf most mo hme hmo hm0 kid WK n hK st w hn h hL
  subst hme
  have NK:=h.lt
  have HP:=cN h
  have HK:=cN hK
  have VL:=cN WK
  have HL:=cN hL
  have HLi:=cN (hL.inn Rf)
  clear h hK WK hL Rf
  first|go_enter Tryz.func205,Tryz.ntmps205|go_enter Tryz.func207,Tryz.ntmps207|go_enter Tryz.func210,Tryz.ntmps210|go_enter Tryz.func136,Tryz.ntmps136|go_enter Tryz.func197,Tryz.ntmps197|go_enter Tryz.func134,Tryz.ntmps134|go_enter Tryz.func236,Tryz.ntmps236
  go_wp2_with fail
  with_reducible refine(HK.o.at st _ hn HP.o HL.o).mono ?_
  rintro e w1 ⟨cs1,rfl,hx1,hp1,hc1⟩
  obtain⟨r1,hr1⟩:∃r,r=kid st:=⟨_,rfl⟩
  obtain⟨x1,s1⟩:=r1
  rw[←hr1]at hp1 hx1
  simp only at hp1 hx1
  first|(obtain⟨h1,A1,m1,c1,UU,rfl,hk1⟩:=dC hx1;clear hk1)|obtain⟨h1,A1,m1,c1,n1,rfl⟩:=xX hx1|obtain⟨h1,A1,m1,c1,n1,rfl⟩:=vB hx1|obtain⟨h1,A1,m1,c1,n1,rfl⟩:=tO hx1|obtain⟨n1,k1,a1,b1,u1,A1,m1,c1,f1,y1,rfl⟩:=rn hx1|obtain⟨A1,m1,c1,rfl⟩:=xm hx1|obtain rfl:=AZ hx1
  simp only[iK,yw,cT,List.cons_append,aZ,List.headD_cons]
  have XX:=VL.o st
  rw[←hr1]at XX
  simp only at XX
  have hs1:=hc1.size
  obtain⟨v0,hv0⟩:∃v,v=Value.slice (some ⟨w1.heap.size,0,none⟩) 1 1:=⟨_,rfl⟩
  have HF:Hid (I.list C.text.size most kid st=I.more C.text.size most kid (s1.r.length+1) [x1] s1):=by show _=_;unfold I.list;rw[←hr1]
  clear hr1
  go_wp2_with fail
  refine P8 fun w2 hw2=>?_
  have OD:=cN (Ro.lit1 (E:=Lm HK) hw2 rfl hs1 hx1)
  have Ow:=cN (show PS C s1 w2 by rw[hw2];exact hp1.alloc _)
  have P7:=cN (show Ch C.g w.heap.size w w2 by rw[hw2];exact hc1.alloc hs1 _)
  rw[←hv0]at OD
  rw[←hv0]
  clear hw2 hv0 hx1 hp1 hc1
  go_loopg [7] s1.r.length (fun gg v wr=>∃(f:Nat) (xs:List _) (s0:I.St),gg=s0.r.length∧s0.r.length≤n∧s0.r.length<f∧1≤xs.length∧xs.length≤most∧Hid (I.list C.text.size most kid st=I.more C.text.size most kid f xs s0)∧Hid (Ro (Lm HK) wr w.heap.size v xs)∧Hid (PS C s0 wr)∧Hid (Ch C.g w.heap.size w wr))
  case atStart=>exact⟨_,_,_,rfl,by omega,by omega,by simp,by simpa using hm0,HF,OD,Ow,P7⟩
  case round=>
   obtain⟨f,xs,s0,rfl,hsn,T6,hx0,hxm,HF,HO,XP,HC⟩:=hrel
   obtain⟨w3,hw3⟩:∃x,x=wr:=⟨_,rfl⟩
   subst hw3
   clear OD Ow P7
   obtain⟨A,c,rfl,hc1,hc2⟩:=HO.o.form
   have hs3:=HC.o.size
   go_wp2_with fail
   with_reducible refine(eF C ⟨#[44]⟩ s0 _ XP.o).mono ?_
   rintro e w4 ⟨rfl,Tv,hc4⟩
   rw[show(⟨#[44]⟩:ByteArray).data.toList=[44]from rfl]at Tv⊢
   have hs4:=hc4.size
   have VB:=cN (HO.o.ch hc4 NK)
   have Rm:=cN (HC.o.trans hc4 hs3)
   have HL4:=cN (HL.o.ch HLi.o Rm.o)
   have HPa:=cN Tv
   clear Tv hc4
   cases ha:I.dh [44] s0 with
   |false=>
    have Q2:Hid (PS C s0 w4):=by have:=HPa.o;rw[I.ic ha]at this;exact this
    have HZ:=cN (HF.o.trans (I.Fg T6 ha))
    clear ha
    go_wp2_with fail
    go_ret
    exact⟨_,rfl,by rw[HZ.o];exact VB.o.rr,by rw[HZ.o];exact Q2.o,Rm.o⟩
   |true=>
    have Q2:Hid (PS C (I.next s0) w4):=by have:=HPa.o;rw[I.ga ha]at this;exact this
    have hlen:=I.gZ ha
    by_cases hm:xs.length=most
    ·have HZ:=cN (HF.o.trans (I.BO T6 ha hm));have t1:((xs.length:Int)==(most:Int))=true:=by simp[hm]
     clear ha hm;go_wp2_with fail
     with_reducible refine(pT C (I.next s0) _ Q2.o).mono ?_
     rintro e w5 ⟨rfl,QS,PN⟩;have SB:=cN QS;have HO5:=cN (VB.o.ch PN NK);have Tb:=cN (Rm.o.trans PN (by omega));clear QS PN;go_wp2_with fail
     go_ret;exact⟨_,rfl,by rw[HZ.o];exact HO5.o.rr,by rw[HZ.o];exact SB.o,Tb.o⟩
    ·have HS:=cN (I.BU (one:=kid) (T:=C.text.size) T6 ha hm);have t1:((xs.length:Int)==(most:Int))=false:=bm.2 (by omega);have hxlt:xs.length<most:=by omega
     have XY:=VL.o (I.next s0);clear ha hm;go_wp2_with fail
     with_reducible refine(HK.o.at (I.next s0) _ (by omega) Q2.o HL4.o).mono ?_
     rintro e w5 ⟨cs5,rfl,hx5,QS,PN⟩;obtain⟨r5,ZE⟩:∃r,r=kid (I.next s0):=⟨_,rfl⟩;obtain⟨x5,s5⟩:=r5;rw[←ZE]at QS hx5;simp only at QS hx5;first|(obtain⟨h5,A5,m5,c5,ks5,rfl,hk5⟩:=dC hx5;clear hk5)|obtain⟨h5,A5,m5,c5,n5,rfl⟩:=xX hx5|obtain⟨h5,A5,m5,c5,n5,rfl⟩:=vB hx5|obtain⟨h5,A5,m5,c5,n5,rfl⟩:=tO hx5|obtain⟨n5,k5,a5,b5,u5,A5,m5,c5,f5,y5,rfl⟩:=rn hx5|obtain⟨A5,m5,c5,rfl⟩:=xm hx5|obtain rfl:=AZ hx5
     simp only[iK,yw,cT,List.cons_append,aZ,List.headD_cons];rw[←ZE]at XY;simp only at XY;have VO:Hid (I.list C.text.size most kid st=I.more C.text.size most kid (f-1) (xs++[x5]) s5):=by show _=_;rw[HF.o,HS.o,←ZE]
     have hs5:=PN.size;have HO5:=cN (VB.o.ch PN NK);have Tb:=cN (Rm.o.trans PN (by omega));have U6:=cN hx5;have SB:=cN QS;clear hx5 QS PN ZE HPa;go_wp2_with (at_builtin;refine wpLN fun w6 Qd=>?_;obtain⟨HO6,RR,Us⟩:=app6 (E:=Lm HK) Qd rfl VB.o (by omega) HO5.o U6.o;have PE:=cN (show PS C s5 w6 by rw[Qd];exact SB.o.alloc _);have Qm:=cN (show Ch C.g w.heap.size w w6 by rw[Qd];exact Tb.o.alloc (by omega) _);have XT:w.heap.size≤w6.heap.size:=(by rw[Qd];simp;omega);clear Qd;refine eW (by first|exact Ba|exact sV|exact sQ|exact qO|exact sZ|exact tJ|exact wi) rfl (.tmp 20) (.tmp 23) (by first|exact Tryz.underlying27|exact Tryz.underlying41|exact Tryz.underlying43|exact Tryz.underlying26|exact Tryz.underlying23|exact Tryz.underlying25|exact Tryz.underlying28) rfl w.heap.size _ xs rfl HO6.o w5.heap.size 1 _ x5 rfl Us.o RR.o (by first|(show(xs.length+1)*1≤140737488355328;omega)|(show(xs.length+1)*24≤140737488355328;omega)|(show(xs.length+1)*72≤140737488355328;omega)|(show(xs.length+1)*104≤140737488355328;omega)|(show(xs.length+1)*112≤140737488355328;omega)|(show(xs.length+1)*120≤140737488355328;omega)) (by unfold maxLen;omega) XT ?_;intro v7 w7 WG T0 S9;have XZ:=cN WG;have QA:=cN (PE.o.below S9 NK);have T8:=cN (Qm.o.below S9 (aa _));clear WG T0 S9)
     go_roundg s5.r.length;case measure=>omega
     case rel=>exact⟨f-1,xs++[x5],s5,rfl,by omega,by omega,by simp,by simp;omega,VO,XZ,QA,T8⟩
theorem sM:ir NI ij 205:=iV.1
theorem xx:ir fL (EPost fL) 207:=iV.2.1
theorem xY:ir fY (EPost fY) 210:=iV.2.2.1
theorem uL:ir fG (EPost fG) 136:=iV.2.2.2.1
theorem wP:ir eM (EPost eM) 197:=iV.2.2.2.2.1
theorem wz:ir fO (kx NI) 134:=fun C N bs cs args hN L Rf most mo hme hmo hm0 kid WK n hK=>iV.2.2.2.2.2.1 C N bs cs args hN L Rf most mo hme hmo hm0 kid WK n fun st w hn h hL=>(hK st w hn h hL).mono fun _ _ ⟨v,e,hv,hp,hc⟩=>⟨[v],e,⟨v,rfl,hv⟩,hp,hc⟩
theorem Ab:ir jZ vj 236:=fun C N bs cs args hN L Rf most mo hme hmo hm0 kid WK n hK=>iV.2.2.2.2.2.2 C N bs cs args hN L Rf most mo hme hmo hm0 kid WK n fun st w hn h hL=>(hK st w hn h hL).mono fun _ _ ⟨e,hp,hc⟩=>⟨[_],e,rfl,hp,hc⟩
end
end Go.Proofs.YtnicfobpclehkaaGreatDoor
