import Derived.Deep.CutBlock
import Derived.Test.YtnicfobpclehkaaGreatDoorP41
set_option maxHeartbeats 6400000
set_option linter.unusedVariables false
set_option linter.unusedSimpArgs false
namespace Go.Proofs.YtnicfobpclehkaaGreatDoor
open Go.RowKit
section
set_option maxRecDepth 100000
theorem wO(text:ByteArray)(at_:Nat)(w:World)(hm:text.size≤1099511627776)(hat:at_<text.size)(c:UInt8)(hc:text.data.toList[at_]?=some c)(hlet:Lex.letter c=false)(hdig:Lex.digit c=true):
 Calls Tryz.prog 64 #[.s text,.i (at_:Int)] w (TQ w at_ (Lex.token (text.data.toList.drop at_))):=by
 have HL:=aa (aH text);obtain⟨o,ho⟩:=aab (Lex.token (text.data.toList.drop at_));rw[←ho];have HW:Hid (o=Lex.fo (text.data.toList.drop at_)):=by show _=_;rw[ho,fz hc,if_neg (fun h=>absurd hlet (by simp[Lex.letter,h.1])),if_neg (by rw[hlet];simp),if_pos hdig]
 have hs:text[at_]=c:=by
  obtain⟨d,h1,h2⟩:=bW hat;rw[hc]at h1;injection h1 with h1
  rw[h1];exact h2
 have hcl:=c.toNat_lt;have LM:c.toNat≠120:=fun h=>absurd hlet (by simp[Lex.letter,h])
 have Nh:=aa hlet;have Tm:=aa hdig;have Ot:((c.toNat:Int)==120)=false:=by simp;omega
 have hn:=Lex.dj Lex.digit (text.data.toList.drop at_);rw[List.length_drop,HL.o]at hn;have ho2:=HW.o;unfold Lex.fo at ho2;have hpos:0<Lex.span Lex.digit (text.data.toList.drop at_):=by rw[drop_at hc];exact of_decide_eq_true ((sh Lex.digit c _).symm.trans hdig)
 obtain⟨n,hnd⟩:=aab (Lex.span Lex.digit (text.data.toList.drop at_));rw[←hnd]at hn ho2 hpos;rw[Lex.bX,Lex.bX,Nat.add_zero,List.drop_drop]at ho2;have h48:Lex.aZ text.data.toList at_ 48=((c.toNat:Int)==48):=by unfold Lex.aZ;rw[hc,Bool.eq_iff_iff];simp only[Option.some.injEq,decide_eq_true_eq,beq_iff_eq];exact⟨fun h=>by rw[h];rfl,fun h=>UInt8.toNat_inj.1 (by show _=48;omega)⟩
 rw[h48]at ho2;obtain⟨e1,he1⟩:=aab (at_+n);have Yx:at_<e1:=by omega
 have Mz:e1≤text.size:=by omega
 have Mf:Hid (e1=at_+n∧e1-at_=n):=⟨he1,by omega⟩;have OS:Hid (at_+Lex.span Lex.digit (text.data.toList.drop at_)=e1):=by show _=_;rw[←hnd,he1]
 rw[show at_+(n+1)=e1+1 by omega,←he1]at ho2;obtain⟨d,hd⟩:=aab (Lex.span Lex.digit (text.data.toList.drop (e1+1)));rw[←hd]at ho2;have hdl:=Lex.dj Lex.digit (text.data.toList.drop (e1+1));rw[←hd,List.length_drop,HL.o]at hdl;obtain⟨e2,he2⟩:=aab (e1+1+d);have HE2:Hid (e2=e1+1+d∧e2-at_=n+1+d):=⟨he2,by omega⟩;have Xt:Hid (e1+1+Lex.span Lex.digit (text.data.toList.drop (e1+1))=e2):=by show _=_;rw[←hd,he2]
 obtain⟨b1,hb1⟩:=aab (Lex.aZ text.data.toList e1 46);rw[←hb1]at ho2;obtain⟨b2,hb2⟩:∃b,b=decide (0<d):=⟨_,rfl⟩;obtain⟨Pa,UZ⟩:∃b,b=!(((c.toNat:Int)==48)&&decide (1<n)):=⟨_,rfl⟩;have HO:Hid (o=if Pa=false then none else if b1=true∧b2=true then(if 4<d then none else some (2,(text.data.toList.drop at_).take (n+1+d),n+1+d))else some (2,(text.data.toList.drop at_).take n,n)):=by show _=_;rw[ho2,UZ,hb2];simp only[Bool.not_eq_false',Bool.and_eq_true,decide_eq_true_eq]
 have VB:Hid (Pa=false→o=none):=fun h=>by rw[HO.o,if_pos h]
 have Of:Hid (Pa=true→¬(b1=true∧b2=true)→o=some (2,(text.data.toList.drop at_).take n,n)):=fun h h2=>by rw[HO.o,if_neg (by rw[h];simp),if_neg h2]
 have PH:Hid (Pa=true→b1=true→b2=true→4<d→o=none):=fun h h2 h3 h4=>by rw[HO.o,if_neg (by rw[h];simp),if_pos ⟨h2,h3⟩,if_pos h4]
 have PI:Hid (Pa=true→b1=true→b2=true→¬4<d→o=some (2,(text.data.toList.drop at_).take (n+1+d),n+1+d)):=fun h h2 h3 h4=>by rw[HO.o,if_neg (by rw[h];simp),if_pos ⟨h2,h3⟩,if_neg h4]
 clear HO;have HD2:Hid (Lex.digit (MS text.data.toList (e1+1))=b2):=by show _=_;rw[DE,←hd,hb2]
 have H1:=aa hb1;have HOk:=aa UZ;have UG:Hid (b2=true→e1+1<text.size):=by intro h;rw[hb2,decide_eq_true_eq]at h;omega
 have HD:=aa (show e2=e1+1+d∧e2≤text.size+1∧(0<d→e2≤text.size)from⟨he2,by omega,by omega⟩);have hI1:(at_:Int)≤(e1:Int):=by omega
 have hI2:(e1:Int)≤(text.size:Int):=by omega
 have Hb2:=aa hb2;clear ho hc hlet hdig LM hnd ho2 h48 he1 hd he2 hb1 hb2 UZ HW hn hdl;go_enter Tryz.func64,Tryz.ntmps64;go_wp2_with fail
 with_reducible refine(cZ c _).mono ?_
 rintro e w1 ⟨rfl,hw1⟩;rw[Nh.o];have Lv:Hid (On w w1 at_):=by rw[←hw1];exact On.new w at_
 clear hw1;go_wp2_with fail
 with_reducible refine(cg c _).mono ?_
 rintro e w' ⟨rfl,rfl⟩;rw[Tm.o];go_upto_block 3 with fail
 go_cut [10] (fun s10 wx=>wx=w1∧s10=.i (e1:Int));case first=>
  go_wp2_with fail
  go_loopg [10] (text.size-at_) (fun g a wr=>∃k:Nat,g=text.size-k∧wr=w1∧a=.i (k:Nat)∧at_≤k∧k≤text.size∧Hid (∀j d,j<k-at_→(text.data.toList.drop (at_))[j]?=some d→Lex.digit d=true));case atStart=>exact⟨at_,rfl,rfl,by go_num,Nat.le_refl _,by omega,fun j d h=>absurd h (by omega)⟩
  case round=>
   obtain⟨k,rfl,rfl,rfl,hak,hk,HK⟩:=hrel;by_cases hlt:k<text.size
   ·obtain⟨d,hd,hsd⟩:=bW hlt;have Ow:=aa hd;have hdl:=d.toNat_lt;have Nv:(k:Int)<(text.size:Int):=by omega
    clear hd;go_wp2_with fail
    with_reducible refine(cg d _).mono ?_
    rintro e w' ⟨rfl,rfl⟩;cases hdd:Lex.digit d with
    |true=>
     have PG:=aa hdd;clear hdd;have HN:=aa (gC HK.o hak Ow.o (PG.o));go_wp2_with fail
     go_roundg (text.size-(k+1));case measure=>omega
     case rel=>exact⟨k+1,rfl,rfl,by go_num,by omega,by omega,HN.o⟩
    |false=>
     have PG:=aa hdd;clear hdd;have HE:=aa (OS.o.symm.trans (fV HK.o hak (by rw[HL.o];exact hk) (by intro d2 h2;rw[Ow.o]at h2;injection h2 with h2;rw[←h2];exact PG.o)));go_wp2_with fail
     go_meet;exact⟨rfl,by rw[HE.o]⟩
   ·have Nv:¬(k:Int)<(text.size:Int):=by omega
    have HE:=aa (OS.o.symm.trans (fV HK.o hak (by rw[HL.o];exact hk) (by intro d2 h2;rw[List.getElem?_eq_none (by rw[HL.o];omega)]at h2;cases h2)));go_wp2_with fail
    go_meet;exact⟨rfl,by rw[HE.o]⟩
 case rest=>
  obtain⟨rfl,rfl⟩:=hcut;go_upto_region 18 with fail
  go_cut [9] (fun s9 wx=>wx=wc∧s9=.bool Pa);case first=>
   by_cases hn1:n=1
   ·have t1:((e1:Int)==(at_:Int)+1)=true:=by have:=Mf.o;simp;omega
    have HV:Hid (Pa=true):=by show _=_;rw[HOk.o,hn1];simp
    clear hn1;go_wp2_with fail
    go_meet;exact⟨rfl,by rw[HV.o]⟩
   ·have t1:((e1:Int)==(at_:Int)+1)=false:=by have:=Mf.o;simp;omega
    have hd1:decide (1<n)=true:=by simp;omega
    cases Ys:((c.toNat:Int)==48)with
    |true=>
     have HV:Hid (Pa=false):=by show _=_;rw[HOk.o,hd1,Ys];rfl
     clear hn1 hd1;go_wp2_with fail
     go_meet;exact⟨rfl,by rw[HV.o,bne,Ys];rfl⟩
    |false=>
     have HV:Hid (Pa=true):=by show _=_;rw[HOk.o,Ys];rfl
     clear hn1 hd1;go_wp2_with fail
     go_meet;exact⟨rfl,by rw[HV.o,bne,Ys];rfl⟩
  case rest=>
   obtain⟨rfl,rfl⟩:=hcut;obtain⟨⟨a0,a1,a2⟩,⟨b0,b1',b2'⟩,fa,fb⟩:=Lv.o.cells;have fa0:=fa 0;have fa1:=fa 1;have fa2:=fa 2;have SN:=fb 0;have SO:=fb 1;have SQ:=fb 2;have la:=Lv.o.2.1.lt;have lb:=Lv.o.2.2.lt;clear fa fb;go_wp2_with fail
   with_reducible refine(fN text _ (e1) _ (by omega)).mono ?_
   rintro e w' ⟨rfl,rfl⟩;obtain⟨x1,hx1⟩:=aab (MS text.data.toList (e1));have qx1:=mN text.data.toList (e1) 46 (by decide) 46 rfl;rw[←hx1,←H1.o]at qx1;rw[←hx1];clear hx1;cases b1 with
   |false=>
    have HF:Hid (Pa=true→o=some (2,(text.data.toList.drop at_).take n,n)):=fun h=>Of.o h (by simp)
    clear Of PH PI;go_wp2_with fail
    refine bodyPost_ret (v:=.tuple #[.agg #[.u 2,.s (text.extract at_ e1),.i (at_:Int)],.i (e1:Int),.bool Pa]) (by simp[results,Tryz.results64,go_sem,a0,a1,a2]) rfl ?_;cases Pa with
    |true=>exact TQ.yes (HF.o rfl) rfl (by rw[extract_eq _ _ _ Mz,Mf.o.2]) (by rw[Mf.o.1]) (Lv.o.fs _ _ _ _ _)
    |false=>exact TQ.no (VB.o rfl) (Lv.o.fs _ _ _ _ _)
   |true=>
    go_wp2_with fail
    with_reducible refine(fN text _ (e1+1) _ (by omega)).mono ?_
    rintro e w' ⟨rfl,rfl⟩;obtain⟨x2,hx2⟩:=aab (MS text.data.toList (e1+1));have NO:Hid (Lex.digit x2=b2):=by show _=_;rw[hx2];exact HD2.o
    rw[←hx2];clear hx2;go_wp2_with fail
    with_reducible refine(cg x2 _).mono ?_
    rintro e w' ⟨rfl,rfl⟩;rw[NO.o];cases b2 with
    |false=>
     have HF:Hid (Pa=true→o=some (2,(text.data.toList.drop at_).take n,n)):=fun h=>Of.o h (by simp)
     clear Of PH PI;go_wp2_with fail
     refine bodyPost_ret (v:=.tuple #[.agg #[.u 2,.s (text.extract at_ e1),.i (at_:Int)],.i (e1:Int),.bool Pa]) (by simp[results,Tryz.results64,go_sem,a0,a1,a2]) rfl ?_;cases Pa with
     |true=>exact TQ.yes (HF.o rfl) rfl (by rw[extract_eq _ _ _ Mz,Mf.o.2]) (by rw[Mf.o.1]) (Lv.o.fs _ _ _ _ _)
     |false=>exact TQ.no (VB.o rfl) (Lv.o.fs _ _ _ _ _)
    |true=>
     have hlt1:=UG.o rfl;have hd0:0<d:=of_decide_eq_true Hb2.o.symm;have Tw:=HD.o.2.2 hd0;have hJ1:(at_:Int)≤(e2:Int):=by have:=HD.o.1;omega
     have hJ2:(e2:Int)≤(text.size:Int):=by omega
     obtain⟨s1,hs1⟩:=aab (e1+1);have Og:=aa hs1;have Ts:Hid (s1+Lex.span Lex.digit (text.data.toList.drop s1)=e2):=by show _=_;rw[hs1];exact Xt.o
     have TK:s1≤text.size:=by omega
     clear hs1;go_upto_block 5 with fail
     go_cut [11] (fun s11 wx=>wx=wc∧s11=.i (e2:Int));case first=>
      go_wp2_with fail
      go_loopg [11] (text.size-s1) (fun g a wr=>∃k:Nat,g=text.size-k∧wr=wc∧a=.i (k:Nat)∧s1≤k∧k≤text.size∧Hid (∀j d,j<k-s1→(text.data.toList.drop (s1))[j]?=some d→Lex.digit d=true));case atStart=>exact⟨s1,rfl,rfl,by have:=Og.o;go_num,Nat.le_refl _,by omega,fun j d h=>absurd h (by omega)⟩
      case round=>
       obtain⟨k,rfl,rfl,rfl,hak,hk,HK⟩:=hrel;by_cases hlt:k<text.size
       ·obtain⟨d,hd,hsd⟩:=bW hlt;have Ow:=aa hd;have hdl:=d.toNat_lt;have Nv:(k:Int)<(text.size:Int):=by omega
        clear hd;go_wp2_with fail
        with_reducible refine(cg d _).mono ?_
        rintro e w' ⟨rfl,rfl⟩;cases hdd:Lex.digit d with
        |true=>
         have PG:=aa hdd;clear hdd;have HN:=aa (gC HK.o hak Ow.o (PG.o));go_wp2_with fail
         go_roundg (text.size-(k+1));case measure=>omega
         case rel=>exact⟨k+1,rfl,rfl,by go_num,by omega,by omega,HN.o⟩
        |false=>
         have PG:=aa hdd;clear hdd;have HE:=aa (Ts.o.symm.trans (fV HK.o hak (by rw[HL.o];exact hk) (by intro d2 h2;rw[Ow.o]at h2;injection h2 with h2;rw[←h2];exact PG.o)));go_wp2_with fail
         go_meet;exact⟨rfl,by rw[HE.o]⟩
       ·have Nv:¬(k:Int)<(text.size:Int):=by omega
        have HE:=aa (Ts.o.symm.trans (fV HK.o hak (by rw[HL.o];exact hk) (by intro d2 h2;rw[List.getElem?_eq_none (by rw[HL.o];omega)]at h2;cases h2)));go_wp2_with fail
        go_meet;exact⟨rfl,by rw[HE.o]⟩
     case rest=>
      obtain⟨rfl,rfl⟩:=hcut;cases Pa with
      |false=>
       have HF:=aa (VB.o rfl);go_wp2_with fail
       refine bodyPost_ret (v:=.tuple #[.agg #[.u 2,.s (text.extract at_ e2),.i (at_:Int)],.i (e2:Int),.f]) (by simp[results,Tryz.results64,go_sem,a0,a1,a2]) rfl ?_;exact TQ.no HF.o (Lv.o.fs _ _ _ _ _)
      |true=>
       by_cases h4:4<d
       ·have HF:=aa (PH.o (by trivial) (by trivial) (by trivial) h4);have t5:decide ((e2:Int)-(e1:Int)≤5)=false:=by have:=HD.o.1;simp;omega
        clear h4;go_wp2_with fail
        refine bodyPost_ret (v:=.tuple #[.agg #[.u 2,.s (text.extract at_ e2),.i (at_:Int)],.i (e2:Int),.f]) (by simp[results,Tryz.results64,go_sem,a0,a1,a2]) rfl ?_;exact TQ.no HF.o (Lv.o.fs _ _ _ _ _)
       ·have HF:=aa (PI.o (by trivial) (by trivial) (by trivial) h4);have t5:decide ((e2:Int)-(e1:Int)≤5)=true:=by have:=HD.o.1;simp;omega
        clear h4;go_wp2_with fail
        refine bodyPost_ret (v:=.tuple #[.agg #[.u 2,.s (text.extract at_ e2),.i (at_:Int)],.i (e2:Int),.bool true]) (by simp[results,Tryz.results64,go_sem,a0,a1,a2]) rfl ?_;exact TQ.yes HF.o rfl (by rw[extract_eq _ _ _ Tw,HE2.o.2]) (by have:=HE2.o.1;have:=Mf.o.1;omega) (Lv.o.fs _ _ _ _ _)
end
theorem zg(text:ByteArray)(at_:Nat)(w:World)(hm:text.size≤1099511627776)(hat:at_<text.size):
 Calls Tryz.prog 64 #[.s text,.i (at_:Int)] w (TQ w at_ (Lex.token (text.data.toList.drop at_))):=by
 obtain⟨c,hc,hs⟩:=bW hat;by_cases h1:c.toNat=120∧Lex.aZ text.data.toList (at_+1) 39=true
 ·exact zl text at_ w hm hat c hc h1.1 h1.2
 cases hlet:Lex.letter c with
 |true=>exact Ba text at_ w hm hat c hc hlet h1
 |false=>
  cases hdig:Lex.digit c with
  |true=>exact wO text at_ w hm hat c hc hlet hdig
  |false=>
   by_cases Lr:c.toNat=39
   ·exact yI text at_ w hm hat c hc Lr
   ·rw[fz hc,if_neg h1,if_neg (by rw[hlet];simp),if_neg (by rw[hdig];simp),if_neg Lr];exact zk text at_ w hm hat c hc hs hlet hdig Lr
section
set_option maxRecDepth 8000
theorem TQ.case{w w':World}{at_:Nat}{o:Option (UInt8×List UInt8×Nat)}{e:Ending}(h:TQ w at_ o e w'):(o=none∧∃k s a n,e=.returned (.tuple #[.agg #[.u k,.s s,.i a],.i n,.f])∧Below w.heap.size w w')∨∃k s n,o=some (k,s,n)∧e=.returned (.tuple #[.agg #[.u (k.toNat:Int),.s ⟨s.toArray⟩,.i (at_:Int)],.i ((at_+n:Nat):Int),.bool true])∧Below w.heap.size w w':=by
 match o,h with
 |none,h=>exact .inl ⟨rfl,h⟩
 |some (k,s,n),h=>exact .inr ⟨k,s,n,rfl,h.1,h.2⟩
theorem tj(text:ByteArray)(w:World)(hm:text.size≤maxLen):
 Calls Tryz.prog 27 #[.s text] w (TE w (Lex.told text.data.toList)):=by
 unfold maxLen at hm;have HL:=aa (aH text);obtain⟨p,hp⟩:=aab (Lex.told text.data.toList);rw[←hp];have HP:=aa hp;clear hp;by_cases hlong:4096<text.size
 ·have HF:=aa (HP.o.trans (Lex.j3 (by rw[HL.o];exact hlong)));have t1:decide ((4096:Int)<(text.size:Int))=true:=by simp;omega
  clear hlong;go_enter Tryz.func27,Tryz.ntmps27;go_wp2_with fail
  exact bodyPost_ret (v:=.tuple #[.z,.agg #[.i 3,.o]]) (by simp[results,Tryz.results27,go_sem]) rfl (TE.mk HF.o rfl rfl (fI _ _ _ _) ((Below.refl _ _).alloc (Nat.le_refl _) _))
 ·have t1:decide ((4096:Int)<(text.size:Int))=false:=by simp;omega
  have hm2:text.size≤4096:=by omega
  have VI:Hid (¬4096<text.data.toList.length):=by rw[HL.o];exact hlong
  clear hlong hm;go_enter Tryz.func27,Tryz.ntmps27;go_wp2_with fail
  with_reducible refine(qO text _ 0 _ (by omega) (by omega) (by omega)).mono ?_
  rintro e w' ⟨rfl,rfl⟩;obtain⟨k0,hk0⟩:=aab (Lex.bZ text.data.toList 0);have TB:k0≤text.size:=by have:=(Lex.iL text.data.toList 0 (by omega)).2.1;rw[HL.o]at this;omega
  have VJ:Hid (Lex.im (text.data.toList.length+1) 0 text.data.toList=Lex.head text.data.toList text.data.toList.length k0):=by have:=Lex.lV text.data.toList text.data.toList.length 0 (by omega);rw[List.drop_zero,←hk0]at this;exact this
  rw[←hk0];clear hk0;go_wp2_with fail
  go_loopg [4,5] (text.size-k0) (fun g v i wr=>∃(k f:Nat) (acc:List Lex.Tok),g=text.size-k∧i=.i (k:Nat)∧KR w text.data.toList f k acc v wr);case atStart=>exact⟨k0,text.data.toList.length,[],rfl,rfl,by rw[HL.o];exact TB,by simp,by omega,by rw[Lex.xP];exact VJ.o,fI _ _ _ _,(Below.refl _ _).alloc (Nat.le_refl _) _,Kn.new _ _ _,by simp⟩
  case round=>
   obtain⟨k,f,acc,rfl,rfl,hk,hacc,hf,htk,hown,hbel,hblk,hsz⟩:=hrel;rw[HL.o]at hk hf;have HT:=aa htk;have MH:=aa hown;have HB:=aa hbel;have HK:=aa hblk;clear htk hown hbel hblk VJ;by_cases hlt:k<text.size
   ·have Nv:(k:Int)<(text.size:Int):=by omega
    have Nh:Hid (¬text.data.toList.length≤k):=by rw[HL.o];show¬_;omega
    go_wp2_with fail
    with_reducible refine(zg text k _ (by omega) hlt).mono ?_
    intro e w2 hpost;rcases hpost.case with⟨hno,k2,s2,a2,n2,rfl,hb2⟩|⟨k2,s2,n2,Nj,rfl,hb2⟩
    ·have HF:=aa (HP.o.trans (Lex.oa VI.o (HT.o.trans (Lex.uB Nh.o hno))));have hblk:=HK.o.below hb2 (by omega);have HB2:=aa (HB.o.trans (hb2.mono (by omega)));have d0:w2.cell? ⟨w.heap.size,0,none⟩=some .o:=hblk.cell 0;have d1:w2.cell? ⟨w.heap.size,1,none⟩=some .o:=hblk.cell 1;obtain⟨f0,f1⟩:=hblk.Z2;have Kt:=hblk.lt;have hne:w.heap.size≠w2.heap.size:=by omega
     have hz2:=hb2.size;clear hpost hno hb2 hblk;go_wp2_with fail
     refine bodyPost_ret (v:=.tuple #[.z,.agg #[.i 290,.i (k:Int)]]) (by simp[results,Tryz.results27,go_sem,d0,d1,Kt]) rfl (TE.mk HF.o rfl rfl (fI _ _ _ _) ?_);exact((HB2.o.setCell (show w.heap.size≤w.heap.size from Nat.le_refl _) _).setCell (show w.heap.size≤w.heap.size from Nat.le_refl _) _).alloc (by simp;omega) _
    ·have hl2:=Lex.j2 Nj;rw[List.length_drop,HL.o]at hl2;obtain⟨YD,YE,-⟩:=hl2;have HN:=aa (HT.o.trans (Lex.qe (acc:=acc) Nh.o Nj (by omega)));have LY:=aa (mb MH.o hb2);have Oq:=aa (HK.o.below hb2 (by omega));have HB2:=aa (HB.o.trans (hb2.mono (by omega)));have hz2:=hb2.size;clear hpost Nj hb2 MH HK HB HT;go_wp2_with (at_builtin;refine mP Tryz.underlying67 rfl (.tmp 33) (.tmp 35) rfl (w.heap.size+1) _ acc.length acc rfl (LY.o.alloc _) 1 (k2,s2,k) (w2.heap.size+1) (by simp) rfl rfl (by omega) (by simp;omega) ?_;intro v3 w3 hown3 hb3;have Lb:=aa hown3;have HB3:=aa hb3;clear hown3 hb3)
     with_reducible refine(qO text _ (k+n2) _ (by omega) (by omega) (by omega)).mono ?_
     rintro e w' ⟨rfl,rfl⟩;have hsk:=Lex.iL text.data.toList (k+n2) (by rw[HL.o];omega);rw[HL.o]at hsk;obtain⟨TC,QH,-⟩:=hsk;obtain⟨k3,hk3⟩:=aab (Lex.bZ text.data.toList (k+n2));rw[←hk3]at HN TC QH⊢;clear hk3;go_wp2_with fail
     go_roundg (text.size-k3);case measure=>omega
     case rel=>
      have hz3:=HB3.o.size;simp at hz3;refine⟨k3,f-1,acc++[(k2,s2,k)],rfl,rfl,by rw[HL.o];exact QH,by simp;omega,by rw[HL.o];omega,HN.o,?_,?_,?_,by omega⟩
      ·rw[List.length_append];exact Lb.o
      ·exact(HB2.o.alloc (by omega) _).trans (HB3.o.mono (by omega))
      ·exact(Oq.o.alloc _).below HB3.o (by omega)
   ·obtain rfl:k=text.size:=by omega
    have HF:=aa (HP.o.trans (Lex.wX VI.o (HT.o.trans (Lex.uq (by rw[HL.o];exact Nat.le_refl _)))));obtain⟨A1,c1,rfl⟩:=Ca MH.o;have hblk:=HK.o;have d0:wr.cell? ⟨w.heap.size,0,none⟩=some .o:=hblk.cell 0;have d1:wr.cell? ⟨w.heap.size,1,none⟩=some .o:=hblk.cell 1;obtain⟨f0,f1⟩:=hblk.Z2;have Kt:=hblk.lt;clear hblk;go_wp2_with fail
    refine bodyPost_ret (v:=.tuple #[.slice A1 acc.length c1,.agg #[.o,.o]]) (by simp[results,Tryz.results27,go_sem,d0,d1]) rfl (TE.mk HF.o rfl rfl ?_ ((HB.o.setCell (Nat.le_refl _) _).setCell (Nat.le_refl _) _));exact tI (ownsRow_setCell_below (ownsRow_setCell_below MH.o (show w.heap.size<w.heap.size+1 by omega) _) (show w.heap.size<w.heap.size+1 by omega) _) (by omega)
end
namespace Lex
theorem zX(p:UInt8→Bool):∀l:List UInt8,span p (l.take (span p l))=span p l∧span p l≤l.length:=by
 intro l;induction l with
 |nil=>exact⟨rfl,Nat.le_refl _⟩
 |cons c r ih=>
  by_cases h:p c=true
  ·have e:span p (c::r)=span p r+1:=by simp[span,h]
   rw[e,List.take_succ_cons];have e2:span p (c::r.take (span p r))=span p (r.take (span p r))+1:=by simp[span,h]
   rw[e2,ih.1];exact⟨rfl,by simp;exact ih.2⟩
  ·have e:span p (c::r)=0:=by simp[span,h]
   rw[e];exact⟨rfl,Nat.zero_le _⟩
theorem Fo{l:List UInt8}{k:UInt8}{s:List UInt8}{n:Nat}(h:token l=some (k,s,n)):(k=1→word s=true)∧(k=5→cH s=false):=by
 unfold token at h;cases l with
 |nil=>cases h
 |cons c r=>
  simp only at h;split at h
  ·unfold dD at h;split at h
   ·cases h
   ·split at h
    ·injection h with h;injection h with h _;subst h;exact⟨fun e=>absurd e (by decide),fun e=>absurd e (by decide)⟩
    ·cases h
  ·split at h
   ·rename_i hl;unfold iu at h;split at h
    ·rename_i MO;injection h with h
     simp only[Prod.mk.injEq]at h;obtain⟨rfl,rfl,_⟩:=h;refine⟨fun _=>?_,fun e=>absurd e (by decide)⟩;obtain⟨h1,h2⟩:=zX aL (c::r);have hp:1≤span aL (c::r):=lO (by simp[aL,hl]);unfold word;have hlen:((c::r).take (span aL (c::r))).length=span aL (c::r):=by rw[List.length_take];omega
     have hh:cH ((c::r).take (span aL (c::r)))=true:=by obtain⟨m,hm⟩:∃m,span aL (c::r)=m+1:=⟨span aL (c::r)-1,by omega⟩;rw[hm,List.take_succ_cons];exact hl
     rw[hlen,h1,hh,decide_eq_true hp,decide_eq_true MO,decide_eq_true rfl];rfl
    ·cases h
   ·rename_i hl;split at h
    ·unfold fo at h;split at h
     ·cases h
     ·split at h
      ·split at h
       ·cases h
       ·injection h with h;injection h with h _;subst h;exact⟨fun e=>absurd e (by decide),fun e=>absurd e (by decide)⟩
      ·injection h with h;injection h with h _;subst h;exact⟨fun e=>absurd e (by decide),fun e=>absurd e (by decide)⟩
    ·split at h
     ·unfold dS at h;split at h
      ·cases h
      ·split at h
       ·injection h with h;injection h with h _;subst h;exact⟨fun e=>absurd e (by decide),fun e=>absurd e (by decide)⟩
       ·cases h
     ·have hc:letter c=false:=by simpa using hl
      unfold jE at h;simp only at h;split at h
      ·injection h with h
       simp only[Prod.mk.injEq]at h;obtain⟨rfl,rfl,_⟩:=h;exact⟨fun e=>absurd e (by decide),fun _=>hc⟩
      ·split at h
       ·injection h with h
        simp only[Prod.mk.injEq]at h;obtain⟨rfl,rfl,_⟩:=h;exact⟨fun e=>absurd e (by decide),fun _=>hc⟩
       ·cases h
theorem Jb:∀(f a:Nat) (l:List UInt8) (ts:List Tok),im f a l=.ok ts→∀t∈ts,(t.1=1→word t.2.1=true)∧(t.1=5→cH t.2.1=false):=by
 intro f;induction f with
 |zero=>
  intro a l ts h t ht;simp only[im]at h;injection h with h
  subst h;cases ht
 |succ f ih=>
  intro a l ts h t ht;simp only[im]at h;cases hs:skip false l with
  |nil=>
   rw[hs]at h;injection h with h
   subst h;cases ht
  |cons c r=>
   rw[hs]at h;simp only at h;cases hk:token (c::r)with
   |none=>rw[hk]at h;cases h
   |some u=>
    obtain⟨k,s,m⟩:=u;rw[hk]at h;simp only at h;cases hr:im f (a+(l.length-(c::r).length)+m) ((c::r).drop m)with
    |error e=>rw[hr]at h;cases h
    |ok ts'=>
     rw[hr]at h;injection h with h
     subst h;rcases List.mem_cons.1 ht with rfl|ht
     ·exact Fo hk
     ·exact ih _ _ _ hr t ht
theorem Jh(l:List UInt8):∀t∈(told l).1,(t.1=1→word t.2.1=true)∧(t.1=5→cH t.2.1=false):=by
 unfold told tokens;by_cases h:4096<l.length
 ·rw[if_pos h];intro t ht;cases ht
 ·rw[if_neg h];cases hr:im (l.length+1) 0 l with
  |error e=>intro t ht;cases ht
  |ok ts=>exact Jb _ _ _ _ hr
end Lex
end Go.Proofs.YtnicfobpclehkaaGreatDoor
