import Derived.Lib.ParseIntB
import Derived.Lib.IndexMore
import Derived.Lib.ConvBytes
import Derived.Test.YtnicfobpclehkaaGreatDoorP9
set_option maxHeartbeats 3200000
set_option linter.unusedVariables false
set_option linter.unusedSimpArgs false
namespace Go.Proofs.YtnicfobpclehkaaGreatDoor
open Go.RowKit
section
namespace I
open Go
def wf(n:Nat)(l:Bs):Nat:=l.foldl (fun n c=>n*10+(c.toNat-48)) n
theorem qE:∀(l:Bs) (n:Nat),n≤wf n l:=by
 intro l;induction l with
 |nil=>intro n;exact Nat.le_refl _
 |cons c l ih=>
  intro n;have:=ih (n*10+(c.toNat-48));show n≤wf (n*10+(c.toNat-48)) l;omega
theorem IV:∀(l:Bs) (n:Nat),(∀c∈l,Lex.digit c=true)→n≤18446744073709551615→Lib.parseUintM 18446744073709551615 n l=if wf n l≤18446744073709551615 then .ok (wf n l)else .range:=by
 intro l;induction l with
 |nil=>intro n _ h;rw[Lib.parseUintM,if_pos (by exact h)];rfl
 |cons c l ih=>
  intro n hd hn;have hc:48≤c.toNat∧c.toNat≤57:=by simpa[Lex.digit]using hd c List.mem_cons_self
  rw[Lib.parseUintM,if_pos hc];have hge:=qE l (n*10+(c.toNat-48));have e:wf n (c::l)=wf (n*10+(c.toNat-48)) l:=rfl;rw[e];by_cases h1:1844674407370955162≤n
  ·rw[if_pos h1,if_neg (by omega)]
  ·rw[if_neg h1];by_cases h2:18446744073709551615<n*10+(c.toNat-48)
   ·rw[if_pos h2,if_neg (by omega)]
   ·rw[if_neg h2];exact ih _ (fun c hc=>hd c (List.mem_cons_of_mem _ hc)) (by omega)
theorem vL:∀(l:Bs) (n:Nat),(46:UInt8)∈l→∀u,Lib.parseUintM 18446744073709551615 n l≠ .ok u:=by
 intro l;induction l with
 |nil=>intro n h;cases h
 |cons c l ih=>
  intro n h u;rw[Lib.parseUintM];by_cases hc:48≤c.toNat∧c.toNat≤57
  ·rw[if_pos hc];have hne:c≠46:=fun e=>by rw[e]at hc;exact absurd hc (by decide)
   have hm:(46:UInt8)∈l:=by
    rcases List.mem_cons.1 h with e|e
    ·exact absurd e.symm hne
    ·exact e
   split
   ·simp
   ·split
    ·simp
    ·exact ih _ hm u
  ·rw[if_neg hc];simp
def ll(l:Bs):Int×Nat:=match Lib.parseIntB 64 l with
 | .ok v=>(v,0)
 |_=>(0,271)
theorem mK{l:Bs}(h0:l≠[])(hd:∀c∈l,Lex.digit c=true):ll l=cR l:=by
 cases l with
 |nil=>exact absurd rfl h0
 |cons c r=>
  have hc:48≤c.toNat∧c.toNat≤57:=by simpa[Lex.digit]using hd c List.mem_cons_self
  unfold ll cR Lib.parseIntB;simp only;rw[if_neg (by omega)];unfold Lib.parseUintB;rw[if_neg (by simp),show 2^64-1=18446744073709551615 from rfl,IV _ 0 hd (by omega)];have e:wf 0 (c::r)=df (c::r):=rfl;rw[e];by_cases h1:df (c::r)≤18446744073709551615
  ·rw[if_pos h1];simp only;by_cases h2:df (c::r)≤9223372036854775807
   ·rw[if_neg (by rintro⟨-,h⟩;rw[show 2^(64-1)=9223372036854775808 from rfl]at h;omega),if_neg (by rintro⟨h,-⟩;omega),if_neg (by omega),if_pos h2]
   ·rw[if_pos ⟨by omega,by rw[show 2^(64-1)=9223372036854775808 from rfl];omega⟩,if_neg h2]
  ·rw[if_neg h1,if_neg (by omega)]
theorem Dt{l:Bs}(h0:∃c r,l=c::r∧Lex.digit c=true)(hd:(46:UInt8)∈l):ll l=(0,271):=by
 obtain⟨c,r,rfl,hc⟩:=h0;have hc':48≤c.toNat∧c.toNat≤57:=by simpa[Lex.digit]using hc
 unfold ll Lib.parseIntB;simp only;rw[if_neg (by omega)];unfold Lib.parseUintB;rw[if_neg (by simp),show 2^64-1=18446744073709551615 from rfl];have:=vL (c::r) 0 hd;cases hp:Lib.parseUintM 18446744073709551615 0 (c::r)with
 |ok u=>exact absurd hp (this u)
 |_=>rfl
theorem AN:∀l:Bs,(Lib.index l [46]= -1∧cut l=(l,none))∨∃i:Nat,Lib.index l [46]=i∧cut l=(l.take i,some (l.drop (i+1))):=by
 intro l;induction l with
 |nil=>exact .inl ⟨by rfl,rfl⟩
 |cons b l ih=>
  by_cases hb:b=46
  ·subst hb;exact .inr ⟨0,by simp[Lib.index,List.isPrefixOf],by simp[cut]⟩
  ·have e:Lib.index (b::l) [46]=if Lib.index l [46]== -1 then -1 else Lib.index l [46]+1:=by
    conv=>lhs;unfold Lib.index
    rw[if_neg];simp[List.isPrefixOf];exact fun h=>hb h.symm
   rcases ih with⟨h1,h2⟩|⟨i,h1,h2⟩
   ·refine .inl ⟨by rw[e,h1];rfl,?_⟩;simp only[cut];rw[if_neg hb,h2]
   ·refine .inr ⟨i+1,?_,?_⟩
    ·rw[e,h1,if_neg (by simp)];omega
    ·simp only[cut];rw[if_neg hb,h2];simp
theorem IP(l:Bs):Lib.cut l [46]=((cut l).1,((cut l).2).getD [],((cut l).2).isSome):=by
 unfold Lib.cut;rcases AN l with⟨h1,h2⟩|⟨i,h1,h2⟩
 ·rw[h1,if_neg (by omega),h2];rfl
 ·rw[h1,if_pos (by omega),h2];simp
theorem lY{l:Bs}(h:∀c∈l,Lex.digit c=true):cut l=(l,none):=by
 induction l with
 |nil=>rfl
 |cons c l ih=>
  have hc:=h c List.mem_cons_self;simp only[cut];rw[if_neg (fun e=>by rw[e]at hc;exact absurd hc (by decide)),ih fun c hc=>h c (List.mem_cons_of_mem _ hc)]
theorem ml{a b:Bs}(h:∀c∈a,Lex.digit c=true):cut (a++46::b)=(a,some b):=by
 induction a with
 |nil=>simp[cut]
 |cons c a ih=>
  have hc:=h c List.mem_cons_self;simp only[List.cons_append,cut];rw[if_neg (fun e=>by rw[e]at hc;exact absurd hc (by decide)),ih fun c hc=>h c (List.mem_cons_of_mem _ hc)]
theorem tq{s:Bs}(h:Lex.jt s):(bN s).1≠[]∧(∀c∈(bN s).1,Lex.digit c=true)∧(∀b,(cut s).2=some b→1≤b.length∧b.length≤4):=by
 obtain⟨a,b,ha,NI,Vf,⟨rfl,rfl⟩|⟨rfl,h1,h2⟩⟩:=h
 ·unfold bN;rw[lY NI];exact⟨ha,NI,fun b h=>by cases h⟩
 ·unfold bN;rw[ml NI];refine⟨by simp[ha],fun c hc=>?_,fun b' h=>by injection h with h;rw[←h];exact⟨h1,h2⟩⟩;rcases List.mem_append.1 hc with hc|hc
  ·exact NI c hc
  ·have:=List.mem_of_mem_take hc;rcases List.mem_append.1 this with hc|hc
   ·exact Vf c hc
   ·simp at hc;rcases hc with rfl
    decide
theorem Em{s:Bs}(h:Lex.jt s):ll s=fU s:=by
 obtain⟨a,b,ha,NI,Vf,⟨rfl,rfl⟩|⟨rfl,h1,h2⟩⟩:=h
 ·unfold fU;rw[lY NI,if_pos rfl];exact mK ha NI
 ·unfold fU;rw[ml NI,if_neg (by simp)];refine Dt ?_ (by simp);cases a with
  |nil=>exact absurd rfl ha
  |cons c a=>exact⟨c,_,rfl,NI c List.mem_cons_self⟩
end I
end
section
set_option maxRecDepth 100000
def nI(C:RC)(w:World)(l:I.Bs)(st:I.St)(e:Ending)(w':World):Prop:=e=.returned (.i (I.ll l).1)∧PS C (if(I.ll l).2=0 then st else I.fail C.text.size 271 st) w'∧Ch C.g w.heap.size w w'∧((I.ll l).2≠0→PB C (I.fail C.text.size 271 st) w' C.ts.length)
theorem jB(C:RC)(s:ByteArray)(st:I.St)(w:World)(h:PS C st w)(hs:s.size≤281474976710656):
 Calls Tryz.prog 240 #[.p C.g,.s s] w (nI C w s.data.toList st):=by
 have Kt:=h.lt;have HP:=aa h;obtain⟨m,te,pe,tf,pf,hm,h4,h5⟩:=h.2.2;have H4:=aa h4;have H5:=aa h5;clear h hm h4 h5;go_enter Tryz.func240,Tryz.ntmps240;go_wp2_with fail
 cases hq:Lib.parseIntB 64 s.data.toList with
 |ok v=>
  have HI:Hid (I.ll s.data.toList=(v,0)):=by show _=_;unfold I.ll;rw[hq]
  have HQ:=aa hq;clear hq;with_reducible refine(Tryz.strconv_ParseInt_10_at64_ok s (by omega) v HQ.o _).mono ?_
  rintro e w1 ⟨rfl,hw⟩;have hb:Below w.heap.size w w1:=by
   rcases hw with rfl|⟨t,rfl⟩
   ·exact Below.refl _ _
   ·exact Lib.bytesWorld_below _ _ _
  have KL:=aa (HP.o.below hb Kt);have KJ:=aa ((Ch.refl C.g w.heap.size w).below hb (Nat.le_refl _));clear hw hb;go_wp2_with fail
  go_ret;unfold nI;exact⟨by rw[HI.o]<;>rfl,by rw[HI.o];exact KL.o,KJ.o,fun h=>absurd (by rw[HI.o]) h⟩
 |_=>
  have HI:Hid (I.ll s.data.toList=(0,271)):=by show _=_;unfold I.ll;rw[hq]
  have HQ:=aa hq;clear hq;first
   |(with_reducible refine(Tryz.strconv_ParseInt_10_at64_syntax s hs HQ.o _ _ H4.o (.inr ⟨_,_,rfl⟩)).mono ?_)
   |(with_reducible refine(Tryz.strconv_ParseInt_10_at64_range s hs HQ.o _ _ H5.o (.inr ⟨_,_,rfl⟩)).mono ?_)
  rintro e w1 ⟨N,rfl,hN,hblk,hb⟩;have KL:=aa (HP.o.below hb Kt);have KJ:=aa ((Ch.refl C.g w.heap.size w).below hb (Nat.le_refl _));have hs1:=hb.size;clear hN hblk hb;go_wp2_with fail
  with_reducible refine(ru C 271 271 st _ KL.o rfl).mono ?_
  rintro e w2 ⟨rfl,hp,hc,hpb⟩;have HB2:=aa hpb;have Ld:=aa hp;have Ms:=aa (KJ.o.trans hc hs1);clear hp hc hpb;go_wp2_with fail
  go_ret;unfold nI;exact⟨by rw[HI.o]<;>rfl,by rw[HI.o,if_neg (by decide)];exact Ld.o,Ms.o,fun _=>HB2.o⟩
end
section
set_option maxRecDepth 100000
theorem fT{k:UInt8}{n:Int}{l:I.Bs}(h1: -9223372036854775808≤n)(h2:n≤9223372036854775807)(hl:l.length≤4096):pG ⟨1,⟨k,n,I.bs l⟩,I.aQ,I.aQ,0⟩:=by
 have hs:(I.bs l).size≤maxLen:=by have:=aH (I.bs l);rw[cL]at this;unfold maxLen;omega
 have h0:(I.aQ).size≤maxLen:=by show(I.bs []).size≤_;unfold I.bs maxLen;decide
 exact⟨⟨hs,h1,h2⟩,h0,h0,by show(-9223372036854775808:Int)≤0;decide,by show(0:Int)≤9223372036854775807;decide⟩
theorem Eg(l:I.Bs)(m:Int)(w:World)(hl:l.length≤4096)(hm:w.cell? ⟨0,0,none⟩=some (.i m)):Calls Tryz.prog 289 #[.s ⟨l.toArray⟩,.s ⟨#[46]⟩] w fun e w'=>e=.returned (.tuple #[.s (I.bs (I.cut l).1),.s (I.bs ((I.cut l).2.getD [])),.bool (I.cut l).2.isSome])∧∃n,w'=w.drewN n:=by
 have hs:(⟨l.toArray⟩:ByteArray).size<4294967281:=by have:=aH ⟨l.toArray⟩;simp at this;omega
 refine(Tryz.strings_Cut ⟨l.toArray⟩ ⟨#[46]⟩ m w hs hm).mono fun e w' h=>?_
 have e1:Lib.cut (⟨l.toArray⟩:ByteArray).data.toList (⟨#[46]⟩:ByteArray).data.toList=((I.cut l).1,((I.cut l).2).getD [],((I.cut l).2).isSome):=by have:=I.IP l;simpa using this
 rw[e1]at h;exact h
theorem I.rm:∀l:I.Bs,(I.cut l).1.length≤l.length:=by
 intro l;induction l with
 |nil=>exact Nat.le_refl _
 |cons c l ih=>
  simp only[I.cut];split
  ·simp
  ·simp;exact ih
theorem At(a b:I.Bs):(I.bs a++(I.bs b++⟨#[48,48,48]⟩).extract 0 4).data.toList=a++(b++[48,48,48]).take 4:=by
 rw[ByteArray.data_append,Array.toList_append,cL,ByteArray.data_extract,Array.toList_extract,ByteArray.data_append,Array.toList_append,cL];simp[List.extract_eq_take_drop]
theorem rn(l:I.Bs):0≤(I.cR l).1∧(I.cR l).1≤9223372036854775807:=by
 unfold I.cR;split
 ·simp only;omega
 ·simp
theorem nJ{C:RC}{st:I.St}{w:World}(h:PS C st w){t:Lex.Tok}{r:List Lex.Tok}(hr:st.r=t::r):t.2.1.length≤4096∧(t.1=2→Lex.jt t.2.1):=by
 obtain⟨⟨k,hB,hd,_⟩,_⟩:=h;have hm:t∈C.ts:=by rw[hd]at hr;exact List.mem_of_mem_drop (i:=k) (by rw[hr];exact List.mem_cons_self)
 have:=C.ok.str t hm;have:=C.small;exact⟨by omega,C.ok.num t hm⟩
theorem ub(C:RC)(st:I.St)(w:World)(h:PS C st w)(hk:I.au st=2∨I.au st=3∨I.au st=4):Calls Tryz.prog 286 #[.p C.g] w (eY C w (I.literal C.text.size st)):=by
 have Kt:=h.lt;have hN:=C.ok.len;have hCs:=C.small;obtain⟨t,r,hr⟩:∃t r,st.r=t::r:=by
  cases hq:st.r with
  |nil=>unfold I.au at hk;rw[hq]at hk;rcases hk with h|h|h<;>exact absurd h (by decide)
  |cons t r=>exact⟨t,r,rfl⟩
 have hkt:t.1=2∨t.1=3∨t.1=4:=by unfold I.au at hk;rw[hr]at hk;exact hk
 obtain⟨hts,Qh⟩:=nJ h hr;have HT:Hid (I.cI C.text.size st=t):=by show _=_;unfold I.cI;rw[hr]
 obtain⟨tk,ts,ta⟩:=t;simp only at hkt hts Qh;have YT:=aa Qh;have HS:Hid (I.literal C.text.size st=(if tk=4 then(I.lit ⟨5,0,I.bs ts⟩,I.next st)else if tk=2 then(if(I.cR (I.bN ts).1).2=0 then(I.lit ⟨(I.bN ts).2,(I.cR (I.bN ts).1).1,I.aQ⟩,I.next st)else(I.lit ⟨(I.bN ts).2,0,I.aQ⟩,I.next (I.fail C.text.size 271 st)))else(I.lit ⟨4,0,I.bs ts⟩,I.next st))):=by show _=_;unfold I.literal;rw[hr]
 have HP:=aa h;have Hr:=aa hr;clear h hk hr Qh;go_enter Tryz.func286,Tryz.ntmps286;go_wp2_with fail
 with_reducible refine(gY C st _ (HP.o.alloc _)).mono ?_
 rintro e w1 ⟨rfl,hb1⟩;rw[HT.o];unfold gd;simp only;have hs1:=hb1.size;rw[ay]at hs1;have KL:=aa ((HP.o.alloc _).below hb1 (by simp;omega));have KJ:=aa (((Ch.refl C.g w.heap.size w).alloc (Nat.le_refl _) _).below hb1 (by simp));have HR1:=aa ((Kn.new w _ _).below hb1 (by simp));clear hb1;obtain⟨w2,hw2⟩:=aab ((w1.alloc (.cells #[.u (tk.toNat:Int),.s ⟨ts.toArray⟩,.i (ta:Int)] 113)).alloc (.cells #[.u 4,.o,.s ⟨ts.toArray⟩] 48));go_upto_region 3 with fail
 rw[←hw2];have HT2:=aa (show Kn w2 w1.heap.size 113 #[.u (tk.toNat:Int),.s ⟨ts.toArray⟩,.i (ta:Int)] by rw[hw2];exact(Kn.new w1 _ _).alloc _);have Vg:=aa (show Kn w2 (w1.heap.size+1) 48 #[.u 4,.o,.s ⟨ts.toArray⟩] by rw[hw2];exact Kn.mD _ _ _ _);have Ld:=aa (show PS C st w2 by rw[hw2];exact(KL.o.alloc _).alloc _);have HR2:=aa (show Kn w2 w.heap.size _ _ by rw[hw2];exact(HR1.o.alloc _).alloc _);have Ms:=aa (show Ch C.g w.heap.size w w2 by rw[hw2];exact(KJ.o.alloc (by omega) _).alloc (by simp;omega) _);have hs2:w1.heap.size+1<w2.heap.size:=Vg.o.lt;obtain⟨g3,hg3⟩:=aab w1.heap.size;have YU:w.heap.size<g3:=by omega
 rw[←hg3]at HT2 Vg hs2⊢;clear hw2 hg3 KL KJ HR1 hs1;obtain⟨g4,hg4⟩:=aab (g3+1);rw[←hg4]at Vg hs2⊢;have hg34:g3<g4:=by omega
 clear hg4;have hkl:∀k,PB C st w2 k→k<C.ts.length:=fun k hpb=>by
  by_cases h2:k<C.ts.length
  ·exact h2
  ·have h1:=hpb.2.1;rw[Hr.o,List.drop_of_length_le (by omega)]at h1;cases h1
 have Hkl:=aa hkl;clear hkl;have Ks:=HT2.o.Y3;simp at Ks;have cj2:=Vg.o.Y3;simp at cj2;have K0:=Vg.o.Z3;have Le:=HR2.o.Y8;simp at Le;obtain⟨f0,f1,f2,f3,f4,f5,f6,f7⟩:=HR2.o.Z8;by_cases h2:tk=2
 ·subst h2;have t4:(((2:UInt8).toNat:Int)==4)=false:=by decide
  have hnk:=YT.o rfl;obtain⟨hd1,hd2,hd3⟩:=I.tq hnk;have HI0:=aa (I.mK hd1 hd2);obtain⟨m,te,pe,tf,pf,hm,-,-⟩:=Ld.o.2.2;have h6:=C.six;clear hkt hnk hd1 hd2;obtain⟨w3,hw3⟩:=aab (((w2.setCell ⟨g4,0,none⟩ (.u 2)).setCell ⟨g4,1,none⟩ .o).setCell ⟨g4,2,none⟩ .e);go_upto_region 8 with fail
  rw[←hw3];have HT3:=aa (show Kn w3 g3 _ _ by rw[hw3];exact((HT2.o.far (p:=⟨g4,0,none⟩) (by show g3≠g4;omega) _).far (p:=⟨g4,1,none⟩) (by show g3≠g4;omega) _).far (p:=⟨g4,2,none⟩) (by show g3≠g4;omega) _);have HR3:=aa (show Kn w3 w.heap.size _ _ by rw[hw3];exact((HR2.o.far (p:=⟨g4,0,none⟩) (by show w.heap.size≠g4;omega) _).far (p:=⟨g4,1,none⟩) (by show w.heap.size≠g4;omega) _).far (p:=⟨g4,2,none⟩) (by show w.heap.size≠g4;omega) _);have Sf:=aa (show Kn w3 g4 48 #[.u 2,.o,.e] by rw[hw3];exact fS Vg.o _ _ _);have Oh:=aa (show PS C st w3 by rw[hw3];exact YF Ld.o (by omega) _ _ _);have Ov:=aa (show Ch C.g w.heap.size w w3 by rw[hw3];exact sL Ms.o (.inr (by omega)) _ _ _);have hs3:w3.heap.size=w2.heap.size:=by rw[hw3];simp
  have hm3:w3.cell? ⟨0,0,none⟩=some (.i m):=by rw[←hm,hw3];exact(sL (Ch.refl g4 (g4+1) w2) (.inl rfl) (.u 2) .o .e).cell (by omega) (by omega)
  clear hw3 hm Ks cj2 K0 Le f0 f1 f2 f3 f4 f5 f6 f7;have Ly:=HT3.o.Y3;simp at Ly;have HM3:=aa hm3;clear hm3;go_wp2_with fail
  with_reducible refine(Eg ts m _ hts HM3.o).mono ?_
  rintro e w4 ⟨rfl,nd,hw4⟩;have SY:=aa (show Kn w4 g4 _ _ by rw[hw4];exact Sf.o);have HR4:=aa (show Kn w4 w.heap.size _ _ by rw[hw4];exact HR3.o);have NA:=aa (show PS C st w4 by rw[hw4];exact Oh.o.drew _);have Oi:=aa (show Ch C.g w.heap.size w w4 by rw[hw4];exact Ov.o.drew _);have hs4:w4.heap.size=w2.heap.size:=by rw[hw4];exact hs3
  clear hw4 Ly;cases hcut:(I.cut ts).2 with
  |none=>
   have HI:Hid (I.ll (I.bs (I.cut ts).1).data.toList=I.cR (I.bN ts).1):=by show _=_;rw[←HI0.o,cL];unfold I.bN;rw[hcut]
   have Ow:Hid ((I.bN ts).2=2):=by show _=_;unfold I.bN;rw[hcut]
   have hsz:(I.bs (I.cut ts).1).size≤281474976710656:=by have h1:=aH (I.bs (I.cut ts).1);rw[cL]at h1;have h2:=I.rm ts;omega
   clear hcut hd3;have Mj:=SY.o.Y3;simp at Mj;have MY:=SY.o.Z3;have NP:=HR4.o.Y8;simp at NP;obtain⟨f0,f1,f2,f3,f4,f5,f6,f7⟩:=HR4.o.Z8;go_wp2_with fail
   with_reducible refine(jB C (I.bs (I.cut ts).1) st _ NA.o hsz).mono ?_
   rintro e w5 ⟨rfl,Nw,Mk,QJ⟩;have PT:=aa Nw;have hs5:=Mk.size;have Qz:=aa (Oi.o.trans Mk (by omega));have HV5:=aa (SY.o.ch Mk (by omega) (by omega));have PU:=aa (HR4.o.ch Mk (by omega) (by omega));rw[HI.o]at Nw⊢;clear Nw Mk;obtain⟨TL,MB⟩:∃s,s=(if(I.cR (I.bN ts).1).2=0 then st else I.fail C.text.size 271 st):=⟨_,rfl⟩;have Mp:Hid (PS C TL w5):=by have:=PT.o;rw[HI.o,←MB]at this;exact this
   have HL:Hid (I.literal C.text.size st=(I.lit ⟨2,(I.cR (I.bN ts).1).1,I.aQ⟩,I.next TL)):=by
    show _=_;rw[HS.o,if_neg (by decide),if_pos (by trivial),MB,Ow.o];by_cases h0:(I.cR (I.bN ts).1).2=0
    ·rw[if_pos h0,if_pos h0]
    ·rw[if_neg h0,if_neg h0];have:(I.cR (I.bN ts).1).1=0:=by
      unfold I.cR at h0⊢;split at h0
      ·exact absurd rfl h0
      ·rename_i h1;rw[if_neg h1]
     rw[this]
   have hex:∃k,k≤C.ts.length∧PB C TL w5 k:=by
    by_cases h0:(I.cR (I.bN ts).1).2=0
    ·rw[if_pos h0]at MB;obtain⟨k,hk⟩:=Mp.o.1;refine⟨k,?_,hk⟩;have h1:=hk.2.1;rw[MB,Hr.o]at h1;by_cases h2:k<C.ts.length
     ·omega
     ·rw[List.drop_of_length_le (by omega)]at h1;cases h1
    ·rw[if_neg h0]at MB;rw[MB];exact⟨_,Nat.le_refl _,QJ (by rw[HI.o];exact h0)⟩
   clear MB QJ;obtain⟨k,hkn,hpb⟩:=hex;obtain⟨x0,x1,x2,x3,x4,x5,xf⟩:=hpb.cells;have TG:=xf 2;have HB:=aa hpb;clear hpb x0 x1 x3 x4 x5 xf;clear Mj MY NP f0 f1 f2 f3 f4 f5 f6 f7;have NQ:=HV5.o.Y3;simp at NQ;have M1:=HV5.o.Z3;have NB:=PU.o.Y8;simp at NB;obtain⟨f0,f1,f2,f3,f4,f5,f6,f7⟩:=PU.o.Z8;have n1:C.g≠g4:=by omega
   have n2:C.g≠w.heap.size:=by omega
   have n3:g4≠w.heap.size:=by omega
   have hin:=rn (I.bN ts).1;obtain⟨N,VP⟩:=aab ((I.cR (I.bN ts).1).1);rw[←VP]at HL hin⊢;clear VP;go_wp2_with fail
   refine bodyPost_ret (v:=.agg (ai ⟨1,⟨2,N,I.aQ⟩,I.aQ,I.aQ,0⟩ none 0 0).toArray) (results_cell_row rfl _ _ w.heap.size 50 _ (0,0) _ rfl (aW ((PU.o.far (p:=⟨g4,1,none⟩) (by show w.heap.size≠g4;omega) _).far (p:=⟨C.g,2,none⟩) (by show w.heap.size≠C.g;omega) _) _ _ _ _ _ _ _ _) eK rfl cD) rfl ⟨_,rfl,?_,?_,?_⟩
   ·rw[HL.o];exact bU (fT (l:=[]) (by omega) (by omega) (by simp))
   ·rw[HL.o];exact eg ((Mp.o.set (p:=⟨g4,1,none⟩) _ (by show C.g<g4;omega)).put ((Ch.refl _ _ _).set (p:=⟨C.g,2,none⟩) (.inl rfl) _) (PB.next ⟨HB.o.1.far (p:=⟨g4,1,none⟩) (by show C.g≠g4;omega) _,HB.o.2⟩ hkn)) Kt _ _ _ _ _ _ _ _
   ·exact bd ((Qz.o.set (p:=⟨g4,1,none⟩) (.inr (by show w.heap.size≤g4;omega)) _).set (p:=⟨C.g,2,none⟩) (.inl rfl) _) (.inr (Nat.le_refl _)) _ _ _ _ _ _ _ _
  |some b=>
   obtain⟨hb1,hb2⟩:=hd3 b hcut;have hbs:(I.bs b).size=b.length:=by have:=aH (I.bs b);rw[cL]at this;omega
   have has:(I.bs (I.cut ts).1).size≤4096:=by have h1:=aH (I.bs (I.cut ts).1);rw[cL]at h1;have h2:=I.rm ts;omega
   have Ow:Hid ((I.bN ts).2=3):=by show _=_;unfold I.bN;rw[hcut]
   have HD1:Hid ((I.bN ts).1=(I.cut ts).1++(b++[48,48,48]).take 4):=by show _=_;unfold I.bN;rw[hcut]
   rw[Option.getD_some,Option.isSome_some];have hbI:(1:Int)≤((I.bs b).size:Int):=by omega
   have hbJ:((I.bs b).size:Int)≤4:=by omega
   clear hcut hd3 hb1 hb2;have Nn:=SY.o.Y3;simp at Nn;have QK:=SY.o.Z3;have Sg:=HR4.o.Y8;simp at Sg;obtain⟨f0,f1,f2,f3,f4,f5,f6,f7⟩:=HR4.o.Z8;go_wp2_with fail
   obtain⟨VQ,Pd⟩:=aab (w4.setCell ⟨g4,0,none⟩ (.u 3));rw[←Pd];have SY:=aa (show Kn VQ g4 48 #[.u 3,.o,.e] by rw[Pd];simpa using SY.o.put 0 (.u 3));have HR4:=aa (show Kn VQ w.heap.size _ _ by rw[Pd];exact HR4.o.far (p:=⟨g4,0,none⟩) (by show w.heap.size≠g4;omega) _);have NA:=aa (show PS C st VQ by rw[Pd];exact NA.o.set (p:=⟨g4,0,none⟩) _ (by show C.g<g4;omega));have Oi:=aa (show Ch C.g w.heap.size w VQ by rw[Pd];exact Oi.o.set (p:=⟨g4,0,none⟩) (.inr (by show w.heap.size≤g4;omega)) _);have hs4:VQ.heap.size=w2.heap.size:=by rw[Pd];simpa using hs4
   clear Pd;have hdd:=At (I.cut ts).1 b;obtain⟨sd,hsd⟩:=aab (I.bs (I.cut ts).1++(I.bs b++⟨#[48,48,48]⟩).extract 0 4);rw[←hsd]at hdd⊢;have HI:Hid (I.ll sd.data.toList=I.cR (I.bN ts).1):=by show _=_;rw[hdd,←HD1.o];exact HI0.o
   have hsz:sd.size≤281474976710656:=by have h1:=aH sd;rw[hdd,List.length_append,List.length_take]at h1;have h2:=I.rm ts;omega
   clear hdd hsd;with_reducible refine(jB C sd st _ NA.o hsz).mono ?_
   rintro e w5 ⟨rfl,Nw,Mk,QJ⟩;have PT:=aa Nw;have hs5:=Mk.size;have Qz:=aa (Oi.o.trans Mk (by omega));have HV5:=aa (SY.o.ch Mk (by omega) (by omega));have PU:=aa (HR4.o.ch Mk (by omega) (by omega));rw[HI.o]at Nw⊢;clear Nw Mk;obtain⟨TL,MB⟩:∃s,s=(if(I.cR (I.bN ts).1).2=0 then st else I.fail C.text.size 271 st):=⟨_,rfl⟩;have Mp:Hid (PS C TL w5):=by have:=PT.o;rw[HI.o,←MB]at this;exact this
   have HL:Hid (I.literal C.text.size st=(I.lit ⟨3,(I.cR (I.bN ts).1).1,I.aQ⟩,I.next TL)):=by
    show _=_;rw[HS.o,if_neg (by decide),if_pos (by trivial),MB,Ow.o];by_cases h0:(I.cR (I.bN ts).1).2=0
    ·rw[if_pos h0,if_pos h0]
    ·rw[if_neg h0,if_neg h0];have:(I.cR (I.bN ts).1).1=0:=by
      unfold I.cR at h0⊢;split at h0
      ·exact absurd rfl h0
      ·rename_i h1;rw[if_neg h1]
     rw[this]
   have hex:∃k,k≤C.ts.length∧PB C TL w5 k:=by
    by_cases h0:(I.cR (I.bN ts).1).2=0
    ·rw[if_pos h0]at MB;obtain⟨k,hk⟩:=Mp.o.1;refine⟨k,?_,hk⟩;have h1:=hk.2.1;rw[MB,Hr.o]at h1;by_cases h2:k<C.ts.length
     ·omega
     ·rw[List.drop_of_length_le (by omega)]at h1;cases h1
    ·rw[if_neg h0]at MB;rw[MB];exact⟨_,Nat.le_refl _,QJ (by rw[HI.o];exact h0)⟩
   clear MB QJ;obtain⟨k,hkn,hpb⟩:=hex;obtain⟨x0,x1,x2,x3,x4,x5,xf⟩:=hpb.cells;have TG:=xf 2;have HB:=aa hpb;clear hpb x0 x1 x3 x4 x5 xf;clear Nn QK Sg f0 f1 f2 f3 f4 f5 f6 f7;have TM:=HV5.o.Y3;simp at TM;have VS:=HV5.o.Z3;have TN:=PU.o.Y8;simp at TN;obtain⟨f0,f1,f2,f3,f4,f5,f6,f7⟩:=PU.o.Z8;have n1:C.g≠g4:=by omega
   have n2:C.g≠w.heap.size:=by omega
   have n3:g4≠w.heap.size:=by omega
   have hin:=rn (I.bN ts).1;obtain⟨N,VP⟩:=aab ((I.cR (I.bN ts).1).1);rw[←VP]at HL hin⊢;clear VP;go_wp2_with fail
   refine bodyPost_ret (v:=.agg (ai ⟨1,⟨3,N,I.aQ⟩,I.aQ,I.aQ,0⟩ none 0 0).toArray) (results_cell_row rfl _ _ w.heap.size 50 _ (0,0) _ rfl (aW ((PU.o.far (p:=⟨g4,1,none⟩) (by show w.heap.size≠g4;omega) _).far (p:=⟨C.g,2,none⟩) (by show w.heap.size≠C.g;omega) _) _ _ _ _ _ _ _ _) eK rfl cD) rfl ⟨_,rfl,?_,?_,?_⟩
   ·rw[HL.o];exact bU (fT (l:=[]) (by omega) (by omega) (by simp))
   ·rw[HL.o];exact eg ((Mp.o.set (p:=⟨g4,1,none⟩) _ (by show C.g<g4;omega)).put ((Ch.refl _ _ _).set (p:=⟨C.g,2,none⟩) (.inl rfl) _) (PB.next ⟨HB.o.1.far (p:=⟨g4,1,none⟩) (by show C.g≠g4;omega) _,HB.o.2⟩ hkn)) Kt _ _ _ _ _ _ _ _
   ·exact bd ((Qz.o.set (p:=⟨g4,1,none⟩) (.inr (by show w.heap.size≤g4;omega)) _).set (p:=⟨C.g,2,none⟩) (.inl rfl) _) (.inr (Nat.le_refl _)) _ _ _ _ _ _ _ _
 ·obtain⟨k,hpb⟩:=Ld.o.1;have hkn:=Hkl.o k hpb;obtain⟨x0,x1,x2,x3,x4,x5,xf⟩:=hpb.cells;have TG:=xf 2;have HB:=aa hpb;clear hpb x0 x1 x3 x4 x5 xf;have n1:C.g≠g4:=by omega
  have n2:C.g≠w.heap.size:=by omega
  have n3:g4≠w.heap.size:=by omega
  by_cases h4:tk=4
  ·have HS2:Hid (I.literal C.text.size st=(I.lit ⟨5,0,I.bs ts⟩,I.next st)):=by show _=_;rw[HS.o,if_pos h4]
   have q4:((tk.toNat:Int)==4)=true:=by rw[h4];decide
   clear h2 h4 hkt;go_wp2_with fail
   refine bodyPost_ret (v:=.agg (ai ⟨1,⟨5,0,I.bs ts⟩,I.aQ,I.aQ,0⟩ none 0 0).toArray) (results_cell_row rfl _ _ w.heap.size 50 _ (0,0) _ rfl (aW ((HR2.o.far (p:=⟨g4,0,none⟩) (by show w.heap.size≠g4;omega) _).far (p:=⟨C.g,2,none⟩) (by show w.heap.size≠C.g;omega) _) _ _ _ _ _ _ _ _) eK rfl cD) rfl ⟨_,rfl,?_,?_,?_⟩
   ·rw[HS2.o];exact bU (fT (by omega) (by omega) hts)
   ·rw[HS2.o];exact eg ((Ld.o.set (p:=⟨g4,0,none⟩) _ (by show C.g<g4;omega)).put ((Ch.refl _ _ _).set (p:=⟨C.g,2,none⟩) (.inl rfl) _) (PB.next ⟨HB.o.1.far (p:=⟨g4,0,none⟩) (by show C.g≠g4;omega) _,HB.o.2⟩ (by omega))) Kt _ _ _ _ _ _ _ _
   ·exact bd ((Ms.o.set (p:=⟨g4,0,none⟩) (.inr (by show w.heap.size≤g4;omega)) _).set (p:=⟨C.g,2,none⟩) (.inl rfl) _) (.inr (Nat.le_refl _)) _ _ _ _ _ _ _ _
  ·have HS2:Hid (I.literal C.text.size st=(I.lit ⟨4,0,I.bs ts⟩,I.next st)):=by show _=_;rw[HS.o,if_neg h4,if_neg h2]
   have q4:((tk.toNat:Int)==4)=false:=by simp;exact fun e=>h4 (UInt8.toNat_inj.1 (by rw[show((4:UInt8).toNat)=4 from rfl];omega))
   have q2:((tk.toNat:Int)==2)=false:=by simp;exact fun e=>h2 (UInt8.toNat_inj.1 (by rw[show((2:UInt8).toNat)=2 from rfl];omega))
   clear h2 h4 hkt;go_wp2_with fail
   refine bodyPost_ret (v:=.agg (ai ⟨1,⟨4,0,I.bs ts⟩,I.aQ,I.aQ,0⟩ none 0 0).toArray) (results_cell_row rfl _ _ w.heap.size 50 _ (0,0) _ rfl (aW (HR2.o.far (p:=⟨C.g,2,none⟩) (by show w.heap.size≠C.g;omega) _) _ _ _ _ _ _ _ _) eK rfl cD) rfl ⟨_,rfl,?_,?_,?_⟩
   ·rw[HS2.o];exact bU (fT (by omega) (by omega) hts)
   ·rw[HS2.o];exact eg (Ld.o.put ((Ch.refl _ _ _).set (p:=⟨C.g,2,none⟩) (.inl rfl) _) (HB.o.next (by omega))) Kt _ _ _ _ _ _ _ _
   ·exact bd (Ms.o.set (p:=⟨C.g,2,none⟩) (.inl rfl) _) (.inr (Nat.le_refl _)) _ _ _ _ _ _ _ _
end
theorem rO{C:RC}{st:I.St}{w:World}(h:PS C st w):(I.name C.text.size st).1.length≤4096:=by
 unfold I.name;cases hr:st.r with
 |nil=>exact Nat.zero_le _
 |cons t r=>
  simp only;split
  ·exact(nJ h hr).1
  ·exact Nat.zero_le _
section
variable{C:RC}{w0 w:World}{own:bO}{its:List It}{st:I.St}
theorem cG(F:Fr C.g w0 own its (PS C st) w):Calls Tryz.prog 131 #[.p C.g] w fun e w'=>∃n s,I.name C.text.size st=(n,s)∧n.length≤4096∧e=.returned (.s (I.bs n))∧Fr C.g w0 own its (PS C s) w':=
 (nP C st w F.q).mono fun _ _ ⟨h1,h2,h3⟩=>⟨_,_,rfl,rO F.q,h1,F.call h2.aJ h3⟩
theorem bF(s:ByteArray)(l:I.Bs)(hl:s.data.toList=l)(F:Fr C.g w0 own its (PS C st) w):Calls Tryz.prog 25 #[.p C.g,.s s] w fun e w'=>∃b,I.ae l st=b∧e=.returned (.bool b)∧Fr C.g w0 own its (PS C (if b=true then I.next st else st)) w':=by
 subst hl;refine(bK C s st w F.q).mono fun _ _ ⟨h1,h2,h3⟩=>⟨_,rfl,h1,F.call (PS.aJ ?_) h3⟩
 exact h2
theorem D4(F:Fr C.g w0 own its (PS C st) w):Calls Tryz.prog 200 #[.p C.g] w fun e w'=>∃b,I.named st=b∧e=.returned (.bool b)∧Fr C.g w0 own its (PS C st) w':=
 (qP C st w F.q).mono fun _ _ ⟨h1,h2⟩=>⟨_,rfl,h1,F.quiet h2⟩
theorem BA(F:Fr C.g w0 own its (PS C st) w):Calls Tryz.prog 62 #[.p C.g] w fun e w'=>∃t,I.cI C.text.size st=t∧e=.returned (gd t)∧Fr C.g w0 own its (PS C st) w':=
 (gY C st w F.q).mono fun _ _ ⟨h1,h2⟩=>⟨_,rfl,h1,F.quiet h2⟩
theorem rC(x:Int)(n:Nat)(hx:x=(n:Int))(F:Fr C.g w0 own its (PS C st) w):Calls Tryz.prog 26 #[.p C.g,.i x] w fun e w'=>∃s,I.fail C.text.size n st=s∧e=.returned (.tuple #[])∧Fr C.g w0 own its (PS C s) w':=
 (iO C x n st w F.q hx).mono fun _ _ ⟨h1,h2,h3⟩=>⟨_,rfl,h1,F.call h2.aJ h3⟩
theorem Al(F:Fr C.g w0 own its (PS C st) w):Calls Tryz.prog 202 #[.p C.g] w fun e w'=>∃s,I.br C.text.size st=s∧e=.returned (.tuple #[])∧Fr C.g w0 own its (PS C s) w':=
 (mV C st w F.q).mono fun _ _ ⟨h1,h2,h3⟩=>⟨_,rfl,h1,F.call h2.aJ h3⟩
theorem qh(F:Fr C.g w0 own its (PS C st) w){n:Nat}{t:TypeId}{cells:Array Value}{ss:List I.Bs}(hc:cells.toList=ss.map fun s=>Value.string (I.bs s))(hn:n=ss.length)(hm:n≤1000):Rr MP (w.alloc (.cells cells t)) (Pg C (w.alloc (.cells cells t))) (.slice (some ⟨w.heap.size,0,none⟩) n n) ss:=
 jK (Kn.new w t cells) hc (Nat.lt_of_lt_of_le F.lt F.ch.size) hn hm
theorem aY(F:Fr C.g w0 own its (PS C st) w){n:Nat}{t:TypeId}{cells:Array Value}(ss:List I.Bs)(hc:cells.toList=ss.map fun s=>Value.string (I.bs s))(hn:n=ss.length)(hm:n≤1000):
 Calls Tryz.prog 133 #[.p C.g,.slice (some ⟨w.heap.size,0,none⟩) n n] (w.alloc (.cells cells t)) fun e w'=>∃s,I.expect C.text.size ss st=s∧e=.returned (.tuple #[])∧Fr C.g w0 own its (PS C s) w':=
 (iW C _ ss st _ (F.tmp _).q (qh F hc hn hm)).mono fun _ _ ⟨h1,h2,h3⟩=>⟨_,rfl,h1,(F.tmp _).call h2.aJ h3⟩
theorem DK(F:Fr C.g w0 own its (PS C st) w){n:Nat}{t:TypeId}{cells:Array Value}(ss:List I.Bs)(hc:cells.toList=ss.map fun s=>Value.string (I.bs s))(hn:n=ss.length)(hm:n≤1000):
 Calls Tryz.prog 130 #[.p C.g,.slice (some ⟨w.heap.size,0,none⟩) n n] (w.alloc (.cells cells t)) fun e w'=>∃(i:Nat) (s:I.St),I.choose C.text.size 0 ss st=(i,s)∧e=.returned (.i (i:Int))∧Fr C.g w0 own its (PS C s) w':=
 (wI C _ ss st _ (F.tmp _).q (qh F hc hn hm)).mono fun _ _ ⟨h1,h2,h3⟩=>⟨_,_,rfl,h1,(F.tmp _).call h2.aJ h3⟩
def iC{α:Type}(E:El α)(C:RC)(w:World)(r:List α×I.St)(e:Ending)(w':World):Prop:=∃v,e=.returned v∧Rr E w' (In w.heap.size w'.heap.size) v r.1∧PS C r.2 w'∧Ch C.g w.heap.size w w'
theorem Fr.sub{α:Type}{E:El α}{f:FuncId}{args:Array Value}{r:α×I.St}(F:Fr C.g w0 own its (PS C st) w)(h:Calls Tryz.prog f args w (EPost E C w r)):Calls Tryz.prog f args w fun e w'=>∃cs x s,r=(x,s)∧e=.returned (.agg cs.toArray)∧Fr C.g w0 own (It.el E cs x::its) (PS C s) w':=
 h.mono fun _ _ ⟨cs,h1,h2,h3,h4⟩=>⟨cs,r.1,r.2,rfl,h1,F.nS (It.el E cs r.1) h3.aJ h4 h2⟩
theorem Fr.jJ{α:Type}{E:El α}{f:FuncId}{args:Array Value}{r:List α×I.St}(F:Fr C.g w0 own its (PS C st) w)(h:Calls Tryz.prog f args w (iC E C w r)):Calls Tryz.prog f args w fun e w'=>∃v xs s,r=(xs,s)∧e=.returned v∧Fr C.g w0 own (It.rr E v xs::its) (PS C s) w':=
 h.mono fun _ _ ⟨v,h1,h2,h3,h4⟩=>⟨v,r.1,r.2,rfl,h1,F.nS (It.rr E v r.1) h3.aJ h4 h2⟩
theorem Fr.ux{f:FuncId}{args:Array Value}{r:Ev.Ex×I.St}(F:Fr C.g w0 own its (PS C st) w)(h:Calls Tryz.prog f args w (eY C w r)):Calls Tryz.prog f args w fun e w'=>∃h A m c x s,r=(x,s)∧e=.returned (.agg #[.u (h.o.toNat:Int),.u (h.v.k.toNat:Int),.i h.v.n,.s h.v.s,.s h.nm,.s h.of,.i h.n,.slice A m c])∧Fr C.g w0 own (It.el Kr (ai h A m c) x::its) (PS C s) w':=
 h.mono fun _ _ ⟨cs,h1,h2,h3,h4⟩=>by
  obtain⟨h,A,m,c,ks,rfl,hk⟩:=aV h2
  exact⟨h,A,m,c,r.1,r.2,rfl,h1,F.nS (It.el Kr (ai h A m c) r.1) h3.aJ h4 h2⟩
theorem Sz.of{l:I.Bs}(h:l.length≤4096):Sz l:=by unfold Sz maxLen;omega
end
section
set_option maxRecDepth 100000
def ey(L:List (Nat×Obj))(w:World):Prop:=∀p∈L,w.heap[p.1]?=some p.2
def Bc(L:List (Nat×Obj))(g B:Nat):Prop:=∀p∈L,p.1≠g∧p.1<B
theorem ey.ch{L:List (Nat×Obj)}{g B:Nat}{w w':World}(h:ey L w)(hL:Bc L g B)(hc:Ch g B w w'):ey L w':=fun p hp=>(hc.block p.1 (hL p hp).2 (hL p hp).1).trans (h p hp)
theorem ey.alloc{L:List (Nat×Obj)}{w:World}(h:ey L w)(o:Obj):ey L (w.alloc o):=fun p hp=>(Below.heap_alloc w o p.1 (lt_of_block (h p hp))).trans (h p hp)
theorem ey.YV{L:List (Nat×Obj)}{w:World}{g:Nat}(h:ey L w)(hg:∀p∈L,p.1≠g):Bc L g w.heap.size:=fun p hp=>⟨hg p hp,lt_of_block (h p hp)⟩
theorem ey.none(w:World):ey [] w:=fun p hp=>by cases hp
def gM{α:Type}(C:RC)(N:FuncId)(args:Array Value)(L:List (Nat×Obj))(Post:RC→World→α×I.St→Ending→World→Prop)(kid:I.St→α×I.St)(n:Nat):Prop:=∀(st:I.St) (w:World),st.r.length≤n→PS C st w→ey L w→Calls Tryz.prog N args w (Post C w (kid st))
theorem gM.at{α:Type}{C:RC}{N:FuncId}{args:Array Value}{L:List (Nat×Obj)}{Post:RC→World→α×I.St→Ending→World→Prop}{kid:I.St→α×I.St}{n:Nat}(h:gM C N args L Post kid n)(st:I.St)(w:World)(hn:st.r.length≤n)(hp:PS C st w)(hL:ey L w):Calls Tryz.prog N args w (Post C w (kid st)):=h st w hn hp hL
theorem gM.of{C:RC}{N:FuncId}{args:Array Value}{kid:I.St→Ev.Ex×I.St}{n:Nat}(h:dy C N args kid n):gM C N args [] eY kid n:=fun st w hn hp _=>h st w hn hp
theorem ir(C:RC)(N:FuncId)(bs cs args:Array Value)(hN:∀w:World,(callFunc N (bs++cs)).run Tryz.prog w=.ok (.enter N args) w)(L:List (Nat×Obj))(NR:∀p∈L,p.1≠C.g)(kid:I.St→Ev.Ex×I.St)(n:Nat)(hK:gM C N args L eY kid n)
 (st:I.St) (w:World) (hn:st.r.length≤n+1) (hx0:st.r.length≤n∨I.ae [40] st=true) (h:PS C st w) (hL:ey L w):
 Calls Tryz.prog 199 #[.p C.g,.func (.func N) bs cs] w (eY C w (I.inside C.text.size kid st)):=by
 have Kt:=h.lt;have HP:=aa h;have HK:=aa hK;have HL:=aa hL;have HLg:=aa NR;have hn1:(I.expect C.text.size [[40]] st).r.length≤n:=by
  rcases hx0 with h1|h1
  ·exact Nat.le_trans (I.av _ _ _) h1
  ·have:=I.bx h1;simp only[I.expect,if_pos h1];omega
 clear h hK hL NR hx0;go_enter Tryz.func199,Tryz.ntmps199;go_wp2_with fail
 with_reducible refine(iW C _ [[40]] st _ ((HP.o.alloc _).alloc _) (jK (C:=C) (n:=1) (cells:=#[.s ⟨#[40]⟩]) (Kn.mD _ _ _ _) rfl (by omega) rfl (by decide))).mono ?_
 rintro e w1 ⟨rfl,hp1,hc1⟩;have hs1:=hc1.size;simp at hs1;obtain⟨s1,TO⟩:=aab (I.expect C.text.size [[40]] st);rw[←TO]at hp1 hn1;have Og:=aa TO;have KL:=aa hp1;have KJ:=aa ((((Ch.refl C.g w.heap.size w).alloc (Nat.le_refl _) _).alloc (by simp) _).trans hc1 (by simp;omega));have HR1:=aa (((Kn.new w _ _).alloc _).ch hc1 (by simp;omega) (by omega));have Ox:=aa (HL.o.ch (HL.o.YV HLg.o) KJ.o);clear hp1 hc1 TO;go_wp2_with fail
 with_reducible refine(HK.o.at s1 _ hn1 KL.o Ox.o).mono ?_
 rintro e w2 ⟨cs2,rfl,hx2,hp2,hc2⟩;have hs2:=hc2.size;obtain⟨h2,A2,m2,c2,RJ,rfl,hk2⟩:=aV hx2;have NO:=aa hx2;have Ld:=aa hp2;have Ms:=aa (KJ.o.trans hc2 (by omega));have HR2:=aa (HR1.o.ch hc2 (by omega) (by omega));clear hx2 hp2 hc2 hk2;unfold ai;go_wp2_with fail
 have hlt2:=Ld.o.lt;with_reducible refine(iW C _ [[41]] (kid s1).2 _ ((Ld.o.alloc _).alloc _) (jK (C:=C) (n:=1) (cells:=#[.s ⟨#[41]⟩]) (Kn.mD _ _ _ _) rfl (by omega) rfl (by decide))).mono ?_
 rintro e w3 ⟨rfl,hp3,hc3⟩;have hs3:=hc3.size;simp at hs3;have Oh:=aa hp3;have Ov:=aa (((Ms.o.alloc (by omega) _).alloc (by simp;omega) _).trans hc3 (by simp;omega));have HR3:=aa (((HR2.o.alloc _).alloc _).ch hc3 (by simp;omega) (by omega));have XG:=aa (((Kn.new w2 _ _).alloc _).ch hc3 (by simp;omega) (by omega));have QA:=aa (NO.o.hp (w':=w3) (fun _ h=>h) (fun b hb=>by
  have h1:=hb.1
  have h2:=hb.2
  exact(hc3.block b (by simp;omega) (by omega)).trans ((Below.heap_alloc _ _ b (by simp;omega)).trans (Below.heap_alloc w2 _ b h2))))
 clear hp3 hc3;have Ks:=XG.o.Y8;simp at Ks;have cj2:=HR3.o.Y8;simp at cj2;obtain⟨f0,f1,f2,f3,f4,f5,f6,f7⟩:=HR3.o.Z8;go_wp2_with fail
 refine bodyPost_ret (v:=.agg (ai h2 A2 m2 c2).toArray) (results_cell_row rfl _ _ w.heap.size 50 _ (0,0) _ rfl (aW HR3.o _ _ _ _ _ _ _ _) eK rfl cD) rfl ⟨_,rfl,?_,?_,?_⟩
 ·unfold I.inside;rw[←Og.o];exact QA.o.hp (fun b hb=>⟨by have:=hb.1;omega,by have:=hb.2;simp;omega⟩) fun b hb=>(bd (Ch.refl w.heap.size w3.heap.size w3) (.inl rfl) _ _ _ _ _ _ _ _).block b (by have:=hb.2;omega) (by have:=hb.1;omega)
 ·unfold I.inside;rw[←Og.o];exact eg Oh.o Kt _ _ _ _ _ _ _ _
 ·exact bd Ov.o (.inr (Nat.le_refl _)) _ _ _ _ _ _ _ _
end
end Go.Proofs.YtnicfobpclehkaaGreatDoor
