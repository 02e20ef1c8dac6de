import Derived.StillTailTactics
import Derived.Test.YtnicfobpclehkaaGreatDoorP3
import Derived.Test.YtnicfobpclehkaaGreatDoorP4
set_option maxHeartbeats 3200000
set_option linter.unusedVariables false
set_option linter.unusedSimpArgs false
namespace Go.Proofs.YtnicfobpclehkaaGreatDoor
open Go.RowKit
def TP(w:World)(at_:Nat)(o:Option (UInt8×List UInt8×Nat))(e:Ending)(w':World):Prop:=
 match o with
 |some (k,s,n)=>e=.returned (.tuple #[.agg #[.u (k.toNat:Int),.s ⟨s.toArray⟩,.o],.i ((at_+n:Nat):Int),.bool true])∧Below w.heap.size w w'
 |none=>∃k s a n,e=.returned (.tuple #[.agg #[.u k,.s s,.i a],.i n,.f])∧Below w.heap.size w w'
theorem TP.no{w w':World}{at_:Nat}{o:Option (UInt8×List UInt8×Nat)}{k a n:Int}{s:ByteArray}(h:o=none)(hb:Below w.heap.size w w'):TP w at_ o (.returned (.tuple #[.agg #[.u k,.s s,.i a],.i n,.f])) w':=by
 subst h;exact⟨k,s,a,n,rfl,hb⟩
theorem TP.yes{w w':World}{at_ n:Nat}{o:Option (UInt8×List UInt8×Nat)}{k:UInt8}{l:List UInt8}{s:ByteArray}{ki e:Int}(h:o=some (k,l,n))(hk:ki=(k.toNat:Int))(hs:s=⟨l.toArray⟩)(he:e=((at_+n:Nat):Int))(hb:Below w.heap.size w w'):TP w at_ o (.returned (.tuple #[.agg #[.u ki,.s s,.o],.i e,.bool true])) w':=by
 subst h hk hs he;exact⟨rfl,hb⟩
theorem extract_eq(s:ByteArray)(a b:Nat)(_hb:b≤s.size):s.extract a b=⟨((s.data.toList.drop a).take (b-a)).toArray⟩:=by
 have h:(s.extract a b).data.toList=(s.data.toList.drop a).take (b-a):=by rw[ByteArray.data_extract,Array.toList_extract]
 apply ByteArray.ext;apply Array.ext';exact h
theorem sh(p:UInt8→Bool)(c:UInt8)(l:List UInt8):p c=decide (0<Lex.span p (c::l)):=by
 by_cases h:p c=true
 ·rw[h];simp[Lex.span,h]
 ·rw[Bool.not_eq_true]at h;rw[h];simp[Lex.span,h]
theorem vI(text:ByteArray)(at_:Nat)(w:World)(hm:text.size≤1099511627776)(hat:at_<text.size):
 Calls Tryz.prog 122 #[.s text,.i (at_:Int)] w (TP w at_ (Lex.fo (text.data.toList.drop at_))):=by
 have HL:=aa (aH text);obtain⟨c,hc,hs⟩:=bW hat;have hn:=Lex.dj Lex.digit (text.data.toList.drop at_);rw[List.length_drop,HL.o]at hn;obtain⟨o,ho⟩:=aab (Lex.fo (text.data.toList.drop at_));have HO:=aa ho;rw[←ho];unfold Lex.fo at ho;obtain⟨n,hnd⟩:=aab (Lex.span Lex.digit (text.data.toList.drop at_));rw[←hnd]at hn ho;have HNd:=aa hnd;rw[Lex.bX,Lex.bX,Nat.add_zero,List.drop_drop]at ho;have h48:Lex.aZ text.data.toList at_ 48=((c.toNat:Int)==48):=by unfold Lex.aZ;rw[hc,Bool.eq_iff_iff];simp only[Option.some.injEq,decide_eq_true_eq,beq_iff_eq];exact⟨fun h=>by rw[h];rfl,fun h=>UInt8.toNat_inj.1 (by show _=48;omega)⟩
 rw[h48]at ho;have LY:=aa ho;clear ho hnd hc h48 HO;obtain⟨e1,he1⟩:=aab (at_+n);have Yx:at_≤e1:=by omega
 have Mz:e1≤text.size:=by omega
 have Mf:=aa he1;rw[show at_+(n+1)=e1+1 by omega,←he1]at LY;have U0:Hid (n=e1-at_):=by show _=_;omega
 go_enter Tryz.func122,Tryz.ntmps122;go_wp2_with fail
 with_reducible refine(fP text at_ 121 Lex.digit _ (by omega) qj ed (by omega)).mono ?_
 rintro e w' ⟨rfl,rfl⟩;rw[←HNd.o,←he1];clear he1;by_cases hz:((c.toNat:Int)==48)=true∧1<n
 ·have HF:Hid (o=none):=LY.o.trans (if_pos hz);obtain⟨t1,hz2⟩:=hz;have t2:decide ((1:Int)<(e1:Int)-(at_:Int))=true:=by have:=U0.o;simp;omega
  clear hz2;go_wp2_with fail
  exact bodyPost_ret (v:=.tuple #[.agg #[.b,.e,.o],.o,.f]) (by simp[results,Tryz.results122,go_sem]) rfl (TP.no HF.o ((Below.refl _ _).alloc (Nat.le_refl _) _))
 have Lb:Hid (o=_):=LY.o.trans (if_neg hz);clear LY;obtain⟨d,hd⟩:=aab (Lex.span Lex.digit (text.data.toList.drop (e1+1)));rw[←hd]at Lb;have HD:=aa hd;have hdl:=Lex.dj Lex.digit (text.data.toList.drop (e1+1));rw[←hd,List.length_drop,HL.o]at hdl;obtain⟨b1,hb1⟩:=aab (Lex.aZ text.data.toList e1 46);rw[←hb1]at Lb;have H1:=aa hb1;clear hb1 hd;have step:∀(K:Prop),(((c.toNat:Int)==48)=true→decide ((1:Int)<(e1:Int)-(at_:Int))=false→K)→(((c.toNat:Int)==48)=false→K)→K:=by
  intro K h1 h2;cases hq:((c.toNat:Int)==48)with
  |false=>exact h2 hq
  |true=>
   refine h1 hq ?_;have:=U0.o;have h3:¬1<n:=fun h=>hz ⟨hq,h⟩
   simp;omega
 clear hz;refine step _ (fun t1 t2=>?_) (fun t1=>?_);all_goals
  clear step
  go_wp2_with fail
  with_reducible refine(jm text _ e1 46 _ _ rfl b46).mono ?_
  rintro e w' ⟨rfl,rfl⟩
  rw[←H1.o]
  cases b1 with
  |false=>
   have HF:Hid (o=some (2,_,n)):=Lb.o.trans (if_neg (by simp))
   have hI1:(at_:Int)≤(e1:Int):=by omega
   have hI2:(e1:Int)≤(text.size:Int):=by omega
   go_wp2_with fail
   exact bodyPost_ret (v:=.tuple #[.agg #[.u 2,.s (text.extract at_ e1),.o],.i e1,.bool true]) (by simp[results,Tryz.results122,go_sem]) rfl (TP.yes HF.o rfl (by rw[extract_eq _ _ _ Mz,U0.o]) (by rw[Mf.o]) ((Below.refl _ _).alloc (Nat.le_refl _) _))
  |true=>
   by_cases hb2:e1+1<text.size
   ·obtain⟨c2,hc2,hs2⟩:=bW hb2;have hc2l:=c2.toNat_lt;obtain⟨b2,hb2'⟩:=aab (Lex.digit c2);have H2:=aa hb2';have HD2:Hid (b2=decide (0<d)):=by show _=_;rw[hb2',HD.o,drop_at hc2];exact sh _ _ _
    have t3:decide ((e1:Int)+1<(text.size:Int))=true:=by simp;omega
    have t4:(e1:Int)+1<(text.size:Int):=by omega
    have hI0:(0:Int)≤(e1:Int)+1:=by omega
    have hT:((e1:Int)+1).toNat=e1+1:=by omega
    clear hc2 hb2';go_wp2_with fail
    with_reducible refine(ed c2 _).mono ?_
    rintro e w' ⟨rfl,rfl⟩;rw[←H2.o];cases b2 with
    |false=>
     have HF:Hid (o=some (2,_,n)):=Lb.o.trans (if_neg (by have:=HD2.o;simp at this⊢;omega));have hI1:(at_:Int)≤(e1:Int):=by omega
     have hI2:(e1:Int)≤(text.size:Int):=by omega
     clear hT;go_wp2_with fail
     exact bodyPost_ret (v:=.tuple #[.agg #[.u 2,.s (text.extract at_ e1),.o],.i e1,.bool true]) (by simp[results,Tryz.results122,go_sem]) rfl (TP.yes HF.o rfl (by rw[extract_eq _ _ _ Mz,U0.o]) (by rw[Mf.o]) ((Below.refl _ _).alloc (Nat.le_refl _) _))
    |true=>
     have hd0:0<d:=by have:=HD2.o;simpa using this
     have Tv:Hid (o=_):=Lb.o.trans (if_pos ⟨by simp,hd0⟩);clear hT;go_wp2_with fail
     have hcast:(e1:Int)+1=((e1+1:Nat):Int):=by omega
     rw[hcast];with_reducible refine(fP text (e1+1) 121 Lex.digit _ (by omega) qj ed (by omega)).mono ?_
     rintro e w' ⟨rfl,rfl⟩;rw[←HD.o];obtain⟨e2,he2⟩:=aab (e1+1+d);have HE2:=aa he2;have he2a:at_≤e2:=by omega
     have Tw:e2≤text.size:=by omega
     have Yy:Hid (n+1+d=e2-at_):=by have:=U0.o;show _=_;omega
     have VE:Hid (d=e2-(e1+1)∧e1+1≤e2):=by constructor<;>omega
     rw[←he2];clear he2 hcast;by_cases h4:4<d
     ·have HF:Hid (o=none):=Tv.o.trans (if_pos h4);have t5:decide ((4:Int)<(e2:Int)-((e1:Int)+1))=true:=by have:=VE.o;simp;omega
      clear h4;go_wp2_with fail
      exact bodyPost_ret (v:=.tuple #[.agg #[.b,.e,.o],.o,.f]) (by simp[results,Tryz.results122,go_sem]) rfl (TP.no HF.o ((Below.refl _ _).alloc (Nat.le_refl _) _))
     ·have HF:Hid (o=some (2,_,n+1+d)):=Tv.o.trans (if_neg h4);have t5:decide ((4:Int)<(e2:Int)-((e1:Int)+1))=false:=by have:=VE.o;simp;omega
      have hI1:(at_:Int)≤(e2:Int):=by omega
      have hI2:(e2:Int)≤(text.size:Int):=by omega
      clear h4;go_wp2_with fail
      exact bodyPost_ret (v:=.tuple #[.agg #[.u 2,.s (text.extract at_ e2),.o],.i e2,.bool true]) (by simp[results,Tryz.results122,go_sem]) rfl (TP.yes HF.o rfl (by rw[extract_eq _ _ _ Tw,Yy.o]) (by have:=HE2.o;have:=Mf.o;omega) ((Below.refl _ _).alloc (Nat.le_refl _) _))
   ·have hd0:d=0:=by omega
    have HF:Hid (o=some (2,_,n)):=Lb.o.trans (if_neg (by rintro⟨_,h⟩;omega));have t3:decide ((e1:Int)+1<(text.size:Int))=false:=by simp;omega
    have hI1:(at_:Int)≤(e1:Int):=by omega
    have hI2:(e1:Int)≤(text.size:Int):=by omega
    clear hd0;go_wp2_with fail
    exact bodyPost_ret (v:=.tuple #[.agg #[.u 2,.s (text.extract at_ e1),.o],.i e1,.bool true]) (by simp[results,Tryz.results122,go_sem]) rfl (TP.yes HF.o rfl (by rw[extract_eq _ _ _ Mz,U0.o]) (by rw[Mf.o]) ((Below.refl _ _).alloc (Nat.le_refl _) _))
theorem yN:∀(l:List UInt8) (c:UInt8),0≤Lib.indexByte l c↔c∈l:=by
 intro l;induction l with
 |nil=>intro c;simp[Lib.indexByte]
 |cons b l ih=>
  intro c;have h1:=ih c;have h2:=Lib.indexByte_ge l c;unfold Lib.indexByte;by_cases hb:(b==c)=true
  ·rw[if_pos hb];have:b=c:=by simpa using hb
   subst this;simp
  ·rw[if_neg hb];have hne:¬b=c:=by simpa using hb
   have hne':¬c=b:=fun e=>hne e.symm
   simp only[List.mem_cons,hne',false_or];rw[←h1];by_cases h3:(Lib.indexByte l c== -1)=true
   ·rw[if_pos h3];have h4:Lib.indexByte l c= -1:=by simpa using h3
    omega
   ·rw[if_neg h3];have h4:¬Lib.indexByte l c= -1:=by simpa using h3
    omega
theorem mh(l:List UInt8)(c:UInt8):decide (0≤Lib.indexByte l c)=decide (c∈l):=decide_eq_decide.2 (yN l c)
theorem tP(s:ByteArray)(i:Nat)(c:UInt8)(h:s.data.toList[i]?=some c):s.extract i (i+1)=⟨#[c]⟩:=by
 have hl:i<s.data.toList.length:=(List.getElem?_eq_some_iff.1 h).1;rw[extract_eq _ _ _ (by rw[←aH];omega),drop_at h,show i+1-i=1 by omega];rfl
theorem BO(text:ByteArray)(at_:Nat)(w:World)(hm:text.size≤1099511627776)(hat:at_<text.size):
 Calls Tryz.prog 124 #[.s text,.i (at_:Int)] w (TP w at_ (Lex.jE (text.data.toList.drop at_))):=by
 have HL:=aa (aH text);obtain⟨c,hc,hs⟩:=bW hat;have hcl:=c.toNat_lt;obtain⟨o,ho⟩:=aab (Lex.jE (text.data.toList.drop at_));rw[←ho];rw[drop_at hc]at ho;unfold Lex.jE at ho;simp only[Lex.bX,Nat.add_zero]at ho;obtain⟨v62,U4⟩:=aab (Lex.aZ text.data.toList (at_+1) 62);obtain⟨v61,Yz⟩:=aab (Lex.aZ text.data.toList (at_+1) 61);rw[←U4,←Yz,←drop_at hc]at ho;have HO:=aa ho;have H62:=aa U4;have Xy:=aa Yz;have hX:=tP text at_ c hc;have HX:=aa hX;have HA:Hid (∀x,(x=(62:UInt8)∨x=61)→Lex.aZ text.data.toList (at_+1) x=true→at_+1+1≤text.size):=by intro x _ h;unfold Lex.aZ at h;rw[decide_eq_true_eq]at h;have:=(List.getElem?_eq_some_iff.1 h).1;rw[HL.o]at this;omega
 have I1:(at_:Int)≤(at_:Int)+1:=by omega
 have I2:(at_:Int)+1≤(text.size:Int):=by omega
 have T1:((at_:Int)+1).toNat=at_+1:=by omega
 clear ho U4 Yz hc hX;obtain⟨mm,hmm⟩:=aab (decide (c∈Lex.oG));have Sc:=aa hmm;have Tx:Hid (Lex.oG=[40,41,44,46,59,43,45,42,61,60,62]):=rfl;clear hmm;by_cases VF:c.toNat=60
 ·have VG:((c.toNat:Int)==60)=true:=by simp;omega
  have U7:((c.toNat:Int)==62)=false:=by simp;omega
  go_enter Tryz.func124,Tryz.ntmps124;go_wp2_with fail
  with_reducible refine(jm text _ (at_+1) 62 _ _ (by omega) b62).mono ?_
  rintro e w' ⟨rfl,rfl⟩;rw[←H62.o];cases v62 with
  |true=>
   have HF:Hid (o=some (5,_,2)):=HO.o.trans (if_pos (Or.inl ⟨VF,Or.inl rfl⟩));have hl2:=HA.o 62 (Or.inl rfl) H62.o.symm;have I3:(at_:Int)+1+1≤(text.size:Int):=by omega
   have I4:(at_:Int)≤(at_:Int)+1+1:=by omega
   have T2:((at_:Int)+1+1).toNat=at_+1+1:=by omega
   clear VF;go_wp2_with fail
   exact bodyPost_ret (v:=.tuple #[.agg #[.u 5,.s (text.extract at_ (at_+1+1)),.o],.i ((at_:Int)+1+1),.bool true]) (by simp[results,Tryz.results124,go_sem]) rfl (TP.yes HF.o rfl (by rw[extract_eq _ _ _ (by omega),show at_+1+1-at_=2 by omega]) (by omega) ((Below.refl _ _).alloc (Nat.le_refl _) _))
  |false=>
   go_wp2_with fail
   with_reducible refine(jm text _ (at_+1) 61 _ _ (by omega) b61).mono ?_
   rintro e w' ⟨rfl,rfl⟩;rw[←Xy.o];cases v61 with
   |true=>
    have HF:Hid (o=some (5,_,2)):=HO.o.trans (if_pos (Or.inl ⟨VF,Or.inr rfl⟩));have hl2:=HA.o 61 (Or.inr rfl) Xy.o.symm;have I3:(at_:Int)+1+1≤(text.size:Int):=by omega
    have I4:(at_:Int)≤(at_:Int)+1+1:=by omega
    have T2:((at_:Int)+1+1).toNat=at_+1+1:=by omega
    clear VF;go_wp2_with fail
    exact bodyPost_ret (v:=.tuple #[.agg #[.u 5,.s (text.extract at_ (at_+1+1)),.o],.i ((at_:Int)+1+1),.bool true]) (by simp[results,Tryz.results124,go_sem]) rfl (TP.yes HF.o rfl (by rw[extract_eq _ _ _ (by omega),show at_+1+1-at_=2 by omega]) (by omega) ((Below.refl _ _).alloc (Nat.le_refl _) _))
   |false=>
    have LY:Hid (o=_):=HO.o.trans (if_neg (by rintro(⟨_,h|h⟩|⟨h,_⟩)<;>first|(cases h;done)|omega));clear HO;go_wp2_with fail
    rw[HX.o];with_reducible refine(Tryz.strings_Contains_one ⟨#[40,41,44,46,59,43,45,42,61,60,62]⟩ c _).mono ?_
    rintro e w' ⟨rfl,rfl⟩;rw[mh,←Tx.o,←Sc.o];cases mm with
    |true=>
     have HF:Hid (o=some (5,_,1)):=LY.o.trans (if_pos (of_decide_eq_true Sc.o.symm));go_wp2_with fail
     exact bodyPost_ret (v:=.tuple #[.agg #[.u 5,.s (text.extract at_ (at_+1)),.o],.i ((at_:Int)+1),.bool true]) (by simp[results,Tryz.results124,go_sem]) rfl (TP.yes HF.o rfl (by rw[extract_eq _ _ _ (by omega),show at_+1-at_=1 by omega]) (by omega) ((Below.refl _ _).alloc (Nat.le_refl _) _))
    |false=>
     have HF:Hid (o=none):=LY.o.trans (if_neg (of_decide_eq_false Sc.o.symm));go_wp2_with fail
     exact bodyPost_ret (v:=.tuple #[.agg #[.b,.e,.o],.o,.f]) (by simp[results,Tryz.results124,go_sem]) rfl (TP.no HF.o ((Below.refl _ _).alloc (Nat.le_refl _) _))
 ·have VG:((c.toNat:Int)==60)=false:=by simp;omega
  by_cases U4:c.toNat=62
  ·have U7:((c.toNat:Int)==62)=true:=by simp;omega
   go_enter Tryz.func124,Tryz.ntmps124;go_wp2_with fail
   with_reducible refine(jm text _ (at_+1) 61 _ _ (by omega) b61).mono ?_
   rintro e w' ⟨rfl,rfl⟩;rw[←Xy.o];cases v61 with
   |true=>
    have HF:Hid (o=some (5,_,2)):=HO.o.trans (if_pos (Or.inr ⟨U4,rfl⟩));have hl2:=HA.o 61 (Or.inr rfl) Xy.o.symm;have I3:(at_:Int)+1+1≤(text.size:Int):=by omega
    have I4:(at_:Int)≤(at_:Int)+1+1:=by omega
    have T2:((at_:Int)+1+1).toNat=at_+1+1:=by omega
    clear VF U4;go_wp2_with fail
    exact bodyPost_ret (v:=.tuple #[.agg #[.u 5,.s (text.extract at_ (at_+1+1)),.o],.i ((at_:Int)+1+1),.bool true]) (by simp[results,Tryz.results124,go_sem]) rfl (TP.yes HF.o rfl (by rw[extract_eq _ _ _ (by omega),show at_+1+1-at_=2 by omega]) (by omega) ((Below.refl _ _).alloc (Nat.le_refl _) _))
   |false=>
    have LY:Hid (o=_):=HO.o.trans (if_neg (by rintro(⟨h,_⟩|⟨_,h⟩)<;>first|(cases h;done)|omega));clear HO;go_wp2_with fail
    rw[HX.o];with_reducible refine(Tryz.strings_Contains_one ⟨#[40,41,44,46,59,43,45,42,61,60,62]⟩ c _).mono ?_
    rintro e w' ⟨rfl,rfl⟩;rw[mh,←Tx.o,←Sc.o];cases mm with
    |true=>
     have HF:Hid (o=some (5,_,1)):=LY.o.trans (if_pos (of_decide_eq_true Sc.o.symm));go_wp2_with fail
     exact bodyPost_ret (v:=.tuple #[.agg #[.u 5,.s (text.extract at_ (at_+1)),.o],.i ((at_:Int)+1),.bool true]) (by simp[results,Tryz.results124,go_sem]) rfl (TP.yes HF.o rfl (by rw[extract_eq _ _ _ (by omega),show at_+1-at_=1 by omega]) (by omega) ((Below.refl _ _).alloc (Nat.le_refl _) _))
    |false=>
     have HF:Hid (o=none):=LY.o.trans (if_neg (of_decide_eq_false Sc.o.symm));go_wp2_with fail
     exact bodyPost_ret (v:=.tuple #[.agg #[.b,.e,.o],.o,.f]) (by simp[results,Tryz.results124,go_sem]) rfl (TP.no HF.o ((Below.refl _ _).alloc (Nat.le_refl _) _))
  ·have U7:((c.toNat:Int)==62)=false:=by simp;omega
   go_enter Tryz.func124,Tryz.ntmps124;have LY:Hid (o=_):=HO.o.trans (if_neg (by rintro(⟨h,_⟩|⟨h,_⟩)<;>omega));clear HO;go_wp2_with fail
   rw[HX.o];with_reducible refine(Tryz.strings_Contains_one ⟨#[40,41,44,46,59,43,45,42,61,60,62]⟩ c _).mono ?_
   rintro e w' ⟨rfl,rfl⟩;rw[mh,←Tx.o,←Sc.o];cases mm with
   |true=>
    have HF:Hid (o=some (5,_,1)):=LY.o.trans (if_pos (of_decide_eq_true Sc.o.symm));go_wp2_with fail
    exact bodyPost_ret (v:=.tuple #[.agg #[.u 5,.s (text.extract at_ (at_+1)),.o],.i ((at_:Int)+1),.bool true]) (by simp[results,Tryz.results124,go_sem]) rfl (TP.yes HF.o rfl (by rw[extract_eq _ _ _ (by omega),show at_+1-at_=1 by omega]) (by omega) ((Below.refl _ _).alloc (Nat.le_refl _) _))
   |false=>
    have HF:Hid (o=none):=LY.o.trans (if_neg (of_decide_eq_false Sc.o.symm));go_wp2_with fail
    exact bodyPost_ret (v:=.tuple #[.agg #[.b,.e,.o],.o,.f]) (by simp[results,Tryz.results124,go_sem]) rfl (TP.no HF.o ((Below.refl _ _).alloc (Nat.le_refl _) _))
theorem nb{c:UInt8}{r:List UInt8}(h:c.toNat≠39):Lex.quote (c::r)=(Lex.quote r).map (fun p=>(c::p.1,p.2)):=by
 cases r with
 |nil=>simp[Lex.quote,h]
 |cons d r=>simp only[Lex.quote];rw[if_neg h]
theorem qf{c d:UInt8}{r:List UInt8}(hc:c.toNat=39)(hd:d=39):Lex.quote (c::d::r)=(Lex.quote r).map (fun p=>(39::p.1,p.2)):=by
 simp only[Lex.quote];rw[if_pos hc,if_pos (by rw[hd];rfl)]
theorem oJ{c:UInt8}{r:List UInt8}(hc:c.toNat=39)(h:Lex.aZ r 0 39=false):Lex.quote (c::r)=some ([],r):=by
 cases r with
 |nil=>simp[Lex.quote,hc]
 |cons d r=>
  simp only[Lex.quote];rw[if_pos hc,if_neg];intro hd;have:d=39:=UInt8.toNat_inj.1 (by rw[hd];rfl);simp[Lex.aZ,this]at h
def kI:Array Value:=#[.b,.e,.o]
def QR(w:World)(l:List UInt8)(at_ k:Nat)(acc:List UInt8)(v:Value)(wr:World):Prop:=
 k≤l.length∧acc.length≤k∧Lex.quote (l.drop (at_+1))=(Lex.quote (l.drop k)).map (fun p=>(acc++p.1,p.2))∧wr.ownsRow (w.heap.size+1) 5 1 v acc.length (acc.map B8)∧Below w.heap.size w wr∧Kn wr w.heap.size 113 kI∧w.heap.size+1≤wr.heap.size
theorem mZ{l:List UInt8}{at_ k:Nat}{acc:List UInt8}(hk:k≤l.length)(h:Lex.quote (l.drop (at_+1))=some (acc,l.drop k)):Lex.dS (l.drop at_)=if acc.length≤200 then some (3,acc,k-at_)else none:=by
 unfold Lex.dS;rw[List.drop_drop,h];simp only[List.length_drop];rw[show l.length-at_-(l.length-k)=k-at_ by omega]
theorem mJ{l:List UInt8}{at_:Nat}(h:Lex.quote (l.drop (at_+1))=none):Lex.dS (l.drop at_)=none:=by
 unfold Lex.dS;rw[List.drop_drop,h]
theorem wb(text:ByteArray)(at_:Nat)(w:World)(hm:text.size≤1099511627776)(hat:at_<text.size):
 Calls Tryz.prog 123 #[.s text,.i (at_:Int)] w (TP w at_ (Lex.dS (text.data.toList.drop at_))):=by
 have HL:=aa (aH text);obtain⟨o,ho⟩:=aab (Lex.dS (text.data.toList.drop at_));have HO:=aa ho;rw[←ho];clear ho;go_enter Tryz.func123,Tryz.ntmps123;go_wp2_with fail
 go_loopg [7,8] (text.size-(at_+1)) (fun g v i wr=>∃(k:Nat) (acc:List UInt8),i=.i (k:Nat)∧g=text.size-k∧at_<k∧QR w text.data.toList at_ k acc v wr);case atStart=>exact⟨at_+1,[],by go_num,rfl,by omega,by rw[HL.o];omega,by simp,by simp,fI _ _ _ _,(Below.refl _ _).alloc (Nat.le_refl _) _,Kn.new _ _ _,by simp⟩
 case round=>
  obtain⟨k,acc,rfl,rfl,hak,hk,hacc,hq,hown,hbel,hblk,hsz⟩:=hrel;rw[HL.o]at hk;have HQ:=aa hq;have MH:=aa hown;have HB:=aa hbel;have HK:=aa hblk;have d0:wr.cell? ⟨w.heap.size,0,none⟩=some .b:=hblk.cell 0;have d1:wr.cell? ⟨w.heap.size,1,none⟩=some .e:=hblk.cell 1;have d2:wr.cell? ⟨w.heap.size,2,none⟩=some .o:=hblk.cell 2;obtain⟨f0,f1,f2⟩:=hblk.Z3;have Kt:=hblk.lt;clear hq hown hbel hblk;by_cases hlt:k<text.size
  ·obtain⟨c,hc,hs⟩:=bW hlt;have HC:=aa (drop_at hc);have hcl:=c.toNat_lt;have Nv:(k:Int)<(text.size:Int):=by omega
   clear hc;by_cases Lr:c.toNat=39
   ·have RD:((c.toNat:Int)==39)=true:=by simp;omega
    obtain⟨b1,hb1⟩:=aab (Lex.aZ text.data.toList (k+1) 39);have H1:=aa hb1;clear hb1;go_wp2_with fail
    with_reducible refine(jm text _ (k+1) 39 _ _ (by omega) Yv).mono ?_
    rintro e w' ⟨rfl,rfl⟩;rw[←H1.o];cases b1 with
    |false=>
     have HE:Hid (Lex.quote (text.data.toList.drop (at_+1))=some (acc,text.data.toList.drop (k+1))):=by show _=_;rw[HQ.o,HC.o,oJ Lr (by rw[Lex.bX];exact H1.o.symm)];simp
     have HT:=aa (HO.o.trans (mZ (by rw[HL.o];omega) HE.o));obtain⟨A1,c1,rfl,-,-,-⟩:=fO MH.o;have ec:=(Rb.own MH.o).je (P:=Tryz.prog) 101 5 9 c1 Tryz.underlying101 Tryz.underlying5 Tryz.underlying9;by_cases MA:acc.length≤200
     ·have HF:=aa (HT.o.trans (if_pos MA));have t2:decide ((acc.length:Int)≤200)=true:=by simp;omega
      clear Lr MA;go_wp2_with fail
      exact bodyPost_ret (v:=.tuple #[.agg #[.u 3,.s ⟨acc.toArray⟩,.o],.i ((k:Int)+1),.bool true]) (by simp[results,Tryz.results123,go_sem,d0,d1,d2]) rfl (TP.yes HF.o rfl rfl (by omega) (((HB.o.setCell (Nat.le_refl _) _).setCell (Nat.le_refl _) _).setCell (Nat.le_refl _) _))
     ·have HF:=aa (HT.o.trans (if_neg MA));have t2:decide ((acc.length:Int)≤200)=false:=by simp;omega
      clear Lr MA;go_wp2_with fail
      exact bodyPost_ret (v:=.tuple #[.agg #[.u 3,.s ⟨acc.toArray⟩,.o],.i ((k:Int)+1),.f]) (by simp[results,Tryz.results123,go_sem,d0,d1,d2]) rfl (TP.no HF.o (((HB.o.setCell (Nat.le_refl _) _).setCell (Nat.le_refl _) _).setCell (Nat.le_refl _) _))
    |true=>
     have h1:=H1.o.symm;unfold Lex.aZ at h1;rw[decide_eq_true_eq]at h1;have hk2:k+1<text.size:=by have:=(List.getElem?_eq_some_iff.1 h1).1;rw[HL.o]at this;exact this
     obtain⟨c2,hc2,hs2⟩:=bW hk2;obtain rfl:c2=39:=by rw[h1]at hc2;injection hc2 with hc2;exact hc2.symm
     have HN:Hid (Lex.quote (text.data.toList.drop (at_+1))=(Lex.quote (text.data.toList.drop (k+2))).map (fun p=>((acc++[39])++p.1,p.2))):=by show _=_;rw[HQ.o,HC.o,drop_at h1,qf Lr rfl,Option.map_map];congr 1;funext p;simp
     have I1:(k:Int)+1<(text.size:Int):=by omega
     have T1:((k:Int)+1).toNat=k+1:=by omega
     have I0:(0:Int)≤(k:Int)+1:=by omega
     clear Lr h1 hc2;go_wp2_with (at_builtin;refine fQ bt rfl (.tmp 36) (.tmp 40) rfl (w.heap.size+1) _ acc.length acc rfl MH.o _ 1 1 [39] rfl rfl rfl rfl (by omega) hsz ?_;intro v3 w3 hown3 hb3 _;have Lb:=aa hown3;have HB3:=aa hb3;clear hown3 hb3)
     go_roundg (text.size-(k+2));case measure=>omega
     case rel=>
      have hz3:=HB3.o.size;refine⟨(k+2),acc++[39],by go_num,rfl,by omega,by rw[HL.o];omega,by simp;omega,?_,?_,HB.o.trans (HB3.o.mono (by omega)),HK.o.below HB3.o (by omega),by omega⟩
      ·exact HN.o
      ·rw[List.length_append];exact Lb.o
   ·have RD:((c.toNat:Int)==39)=false:=by simp;omega
    have HN:Hid (Lex.quote (text.data.toList.drop (at_+1))=(Lex.quote (text.data.toList.drop (k+1))).map (fun p=>((acc++[c])++p.1,p.2))):=by show _=_;rw[HQ.o,HC.o,nb Lr,Option.map_map];congr 1;funext p;simp
    clear Lr;go_wp2_with (at_builtin;refine fQ bt rfl (.tmp 36) (.tmp 40) rfl (w.heap.size+1) _ acc.length acc rfl MH.o _ 1 1 [c] rfl rfl rfl rfl (by omega) hsz ?_;intro v3 w3 hown3 hb3 _;have Lb:=aa hown3;have HB3:=aa hb3;clear hown3 hb3)
    go_roundg (text.size-(k+1));case measure=>omega
    case rel=>
     have hz3:=HB3.o.size;refine⟨(k+1),acc++[c],by go_num,rfl,by omega,by rw[HL.o];omega,by simp;omega,?_,?_,HB.o.trans (HB3.o.mono (by omega)),HK.o.below HB3.o (by omega),by omega⟩
     ·exact HN.o
     ·rw[List.length_append];exact Lb.o
  ·have HF:Hid (o=none):=by refine HO.o.trans (mJ ?_);rw[HQ.o,List.drop_of_length_le (by rw[HL.o];omega)];rfl
   have Nv:¬(k:Int)<(text.size:Int):=by omega
   go_wp2_with fail
   exact bodyPost_ret (v:=.tuple #[.agg #[.b,.e,.o],.o,.f]) (by simp[results,Tryz.results123,go_sem,d0,d1,d2]) rfl (TP.no HF.o (((HB.o.setCell (Nat.le_refl _) _).setCell (Nat.le_refl _) _).setCell (Nat.le_refl _) _))
section
set_option maxRecDepth 100000
def pairUp:List UInt8→List UInt8
 |a::b::l=>Lex.pair a b::pairUp l
 |_=>[]
theorem ov:∀(m:Nat) (l:List UInt8),l.length=2*m→(pairUp l).length=m:=by
 intro m;induction m with
 |zero=>intro l h;rw[List.eq_nil_of_length_eq_zero h];rfl
 |succ m ih=>
  intro l h;match l,h with
  |a::b::l,h=>simp only[pairUp,List.length_cons];rw[ih l (by simp at h;omega)]
theorem sC:∀(m:Nat) (l:List UInt8) (a b:UInt8),l.length=2*m→pairUp (l++[a,b])=pairUp l++[Lex.pair a b]:=by
 intro m;induction m with
 |zero=>intro l a b h;rw[List.eq_nil_of_length_eq_zero h];rfl
 |succ m ih=>
  intro l a b h;match l,h with
  |c::d::l,h=>simp only[List.cons_append,pairUp];rw[ih l a b (by simp at h;omega)]
theorem tA{l:List UInt8}{k:Nat}{a b:UInt8}(ha:l[2*k]?=some a)(hb:l[2*k+1]?=some b):pairUp (l.take (2*(k+1)))=pairUp (l.take (2*k))++[Lex.pair a b]:=by
 have h1:=(List.getElem?_eq_some_iff.1 hb).1;rw[show 2*(k+1)=2*k+1+1 by omega,←lP l _ b hb,←lP l _ a ha,List.append_assoc];exact sC k _ a b (by rw[List.length_take];omega)
theorem BW{a b:UInt8}{l:List UInt8}(ha:Lex.hex a=true)(hb:Lex.hex b=true):Lex.span Lex.hex (a::b::l)=Lex.span Lex.hex l+2:=by
 simp only[Lex.span];rw[if_pos ha,if_pos hb]
theorem Hj{c:UInt8}(h:c.toNat=39):Lex.hex c=false:=by simp[Lex.hex,Lex.digit,h]
theorem AM:∀(f:Nat) (r:List UInt8),r.length≤f→Lex.cT r=if Lex.aZ r (Lex.span Lex.hex r) 39=true∧Lex.span Lex.hex r%2=0 then some (pairUp (r.take (Lex.span Lex.hex r)),r.drop (Lex.span Lex.hex r+1))else none:=by
 intro f;induction f with
 |zero=>
  intro r h;obtain rfl:r=[]:=List.eq_nil_of_length_eq_zero (by omega);rfl
 |succ f ih=>
  intro r h;match r,h with
  |[],_=>rfl
  |[c],_=>
   by_cases hc:c.toNat=39
   ·have e:Lex.span Lex.hex [c]=0:=by simp only[Lex.span];rw[if_neg (by simp[Hj hc])]
    rw[e];simp only[Lex.cT];rw[if_pos hc,if_pos (by refine⟨?_,by first|rfl|trivial⟩;simp[Lex.aZ];exact UInt8.toNat_inj.1 (by rw[hc];rfl))];rfl
   ·have e0:Lex.cT [c]=none:=by simp only[Lex.cT];rw[if_neg hc]
    rw[e0];by_cases hx:Lex.hex c=true
    ·have e:Lex.span Lex.hex [c]=1:=by simp only[Lex.span];rw[if_pos hx]
     rw[e,if_neg (by simp[Lex.aZ])]
    ·have e:Lex.span Lex.hex [c]=0:=by simp only[Lex.span];rw[if_neg hx]
     rw[e,if_neg];rintro⟨h1,_⟩;simp[Lex.aZ]at h1;rw[h1]at hc;exact hc rfl
  |c::d::l,h=>
   by_cases hc:c.toNat=39
   ·have e:Lex.span Lex.hex (c::d::l)=0:=by simp only[Lex.span];rw[if_neg (by simp[Hj hc])]
    rw[e];simp only[Lex.cT];rw[if_pos hc,if_pos (by refine⟨?_,by first|rfl|trivial⟩;simp[Lex.aZ];exact UInt8.toNat_inj.1 (by rw[hc];rfl))];rfl
   ·simp only[Lex.cT];rw[if_neg hc];by_cases hx:Lex.hex c=true∧Lex.hex d=true
    ·rw[if_pos hx,ih l (by simp at h;omega),BW hx.1 hx.2];have e1:Lex.aZ (c::d::l) (Lex.span Lex.hex l+2) 39=Lex.aZ l (Lex.span Lex.hex l) 39:=rfl;rw[e1,show(Lex.span Lex.hex l+2)%2=Lex.span Lex.hex l%2 by omega];by_cases hb:Lex.aZ l (Lex.span Lex.hex l) 39=true∧Lex.span Lex.hex l%2=0
     ·rw[if_pos hb,if_pos hb];rfl
     ·rw[if_neg hb,if_neg hb];rfl
    ·rw[if_neg hx,if_neg];rintro⟨h1,h2⟩;by_cases hx1:Lex.hex c=true
     ·have hx2:¬Lex.hex d=true:=fun h=>hx ⟨hx1,h⟩
      have e:Lex.span Lex.hex (c::d::l)=1:=by simp only[Lex.span];rw[if_pos hx1,if_neg hx2]
      rw[e]at h2;omega
     ·have e:Lex.span Lex.hex (c::d::l)=0:=by simp only[Lex.span];rw[if_neg hx1]
      rw[e]at h1;simp[Lex.aZ]at h1;rw[h1]at hc;exact hc rfl
theorem yJ(l:List UInt8)(at_ n:Nat)(hn:n=Lex.span Lex.hex (l.drop (at_+2)))(hl:at_+2≤l.length):Lex.dD (l.drop at_)=if(Lex.aZ l (at_+2+n) 39=true∧n%2=0)∧n/2≤200 then some (4,pairUp ((l.drop (at_+2)).take n),2+n+1)else none:=by
 unfold Lex.dD;rw[List.drop_drop,AM _ _ (Nat.le_refl _),←hn,Lex.bX];by_cases h:Lex.aZ l (at_+2+n) 39=true∧n%2=0
 ·rw[if_pos h];have hlt:at_+2+n<l.length:=by have:=h.1;unfold Lex.aZ at this;rw[decide_eq_true_eq]at this;exact(List.getElem?_eq_some_iff.1 this).1
  have hlen:(pairUp ((l.drop (at_+2)).take n)).length=n/2:=ov _ _ (by rw[List.length_take,List.length_drop];omega);simp only[hlen];by_cases h2:n/2≤200
  ·rw[if_pos h2,if_pos ⟨h,h2⟩];simp only[List.length_drop];rw[show l.length-at_-(l.length-(at_+2)-(n+1))=2+n+1 by omega]
  ·rw[if_neg h2,if_neg (fun h=>h2 h.2)]
 ·rw[if_neg h,if_neg (fun h'=>h h'.1)]
theorem ES:∀(x y:Fin 16),bits .or .u8 ((x.val:Int)*16) (y.val:Int)=((x.val*16+y.val:Nat):Int):=by decide +kernel
theorem or4(x y:Nat)(hx:x<16)(hy:y<16):bits .or .u8 ((x:Int)*16) (y:Int)=((x*16+y:Nat):Int):=ES ⟨x,hx⟩ ⟨y,hy⟩
theorem iN{c:UInt8}(h:Lex.hex c=true):Lex.df c<16:=by
 unfold Lex.df;unfold Lex.hex at h;cases hd:Lex.digit c with
 |true=>
  rw[if_pos rfl];simp[Lex.digit]at hd;omega
 |false=>
  rw[hd,Bool.false_or,decide_eq_true_eq]at h;rw[if_neg (by simp)];omega
theorem sw{a b:UInt8}(ha:Lex.hex a=true)(hb:Lex.hex b=true):(Lex.pair a b).toNat=Lex.df a*16+Lex.df b:=by
 have h1:=iN ha;have h2:=iN hb;unfold Lex.pair;rw[UInt8.toNat_ofNat_of_lt' (by show _<256;omega)]
theorem EO{α:Type}(a:List α)(k m:Nat)(z u:α)(ha:a.length=k)(hk:k<m):(a++List.replicate (m-k) z).set k u=(a++[u])++List.replicate (m-(k+1)) z:=by
 subst ha;rw[List.set_append_right _ _ (Nat.le_refl _),Nat.sub_self,show m-a.length=(m-(a.length+1))+1 by omega,List.replicate_succ,List.set_cons_zero];simp
def PR(w:World)(r:List UInt8)(m k gs:Nat)(wr:World):Prop:=
 k≤m∧wr.ownsRow (w.heap.size+1) 5 1 (.slice (some ⟨gs,0,none⟩) m m) m ((pairUp (r.take (2*k))).map B8++List.replicate (m-k) .b)∧Below w.heap.size w wr∧Kn wr w.heap.size 113 kI∧w.heap.size+1≤wr.heap.size
theorem uU(text:ByteArray)(at_:Nat)(w:World)(hm:text.size≤1099511627776)(hat:at_+1<text.size):
 Calls Tryz.prog 118 #[.s text,.i (at_:Int)] w (TP w at_ (Lex.dD (text.data.toList.drop at_))):=by
 have HL:=aa (aH text);obtain⟨i0,hi0,hz0,hz1,hz2⟩:=info_parts He;obtain⟨o,ho⟩:=aab (Lex.dD (text.data.toList.drop at_));rw[←ho];obtain⟨n,hn⟩:=aab (Lex.span Lex.hex (text.data.toList.drop (at_+2)));have hnl:=Lex.dj Lex.hex (text.data.toList.drop (at_+2));rw[←hn,List.length_drop,HL.o]at hnl;have HO:=aa (ho.trans (yJ text.data.toList at_ n hn (by rw[HL.o];omega)));have HN:=aa hn;have HH:Hid (∀j,j<n→∃c,(text.data.toList.drop (at_+2))[j]?=some c∧Lex.hex c=true):=fun j hj=>Lex.pz Lex.hex _ j (by rw[←hn];exact hj)
 obtain⟨e1,he1⟩:=aab (at_+2+n);have Mz:e1≤text.size:=by omega
 rw[←he1]at HO;have Mf:=aa he1;have hcast:(at_:Int)+2=((at_+2:Nat):Int):=by omega
 have VH:=aa hcast;obtain⟨b1,hb1⟩:=aab (Lex.aZ text.data.toList e1 39);rw[←hb1]at HO;have H1:=aa hb1;clear ho hn hb1 hcast;go_enter Tryz.func118,Tryz.ntmps118;go_wp2_with fail
 rw[VH.o];with_reducible refine(fP text (at_+2) 193 Lex.hex _ (by omega) Gp Ee (by omega)).mono ?_
 rintro e w' ⟨rfl,rfl⟩;rw[←HN.o,←he1];have HSub:Hid ((e1:Int)-((at_:Int)+2)=(n:Int)):=by show _=_;omega
 clear he1;go_wp2_with fail
 with_reducible refine(jm text _ e1 39 _ _ rfl Yv).mono ?_
 rintro e w' ⟨rfl,rfl⟩;rw[←H1.o];cases b1 with
 |false=>
  have HF:Hid (o=none):=HO.o.trans (if_neg (by simp));go_wp2_with fail
  exact bodyPost_ret (v:=.tuple #[.agg #[.b,.e,.o],.o,.f]) (by simp[results,Tryz.results118,go_sem]) rfl (TP.no HF.o ((Below.refl _ _).alloc (Nat.le_refl _) _))
 |true=>
  have hsub:=HSub.o;rcases Nat.mod_two_eq_zero_or_one n with h2|h2
  ·obtain⟨m,rfl⟩:∃m,n=2*m:=⟨n/2,by omega⟩;have t1:(((2*m:Nat):Int)%2==1)=false:=by simp
   have Xz:((2*(m:Int))%2==1)=false:=by simp
   by_cases MA:m≤200
   ·have HT:Hid (o=some (4,_,2+2*m+1)):=HO.o.trans (if_pos ⟨⟨rfl,by omega⟩,by omega⟩);have t2:decide ((200:Int)<(m:Int))=false:=by simp;omega
    have hmI:(2*(m:Int))/2=(m:Int):=by omega
    clear h2 HO;obtain⟨r,hr⟩:=aab (text.data.toList.drop (at_+2));rw[←hr]at HT HH;have HRd:=aa hr;clear hr;go_wp2_with (at_make;refine wpList_make_full _ rfl _ _ 101 rfl (w.heap.size+1) 5 i0 _ 1 Tryz.underlying101 hi0 hz0 hz1 .i64 .i64 _ _ m rfl rfl (by omega) (by omega) (by rw[hz2];omega) (by unfold maxLen;omega) (by simp) ?_;intro w2 hown2 hg2;have HB2:Hid (Below w.heap.size w w2):=Below.grown ((Below.refl _ _).alloc (Nat.le_refl _) _) hg2 (by simp) (by simp);have Oq:Hid (Kn w2 w.heap.size 113 kI):=Kn.grown (Kn.new w _ _) hg2 (by simp);have LY:Hid (w2.ownsRow (w.heap.size+1) 5 1 (.slice (some ⟨w.heap.size+1,0,none⟩) m m) m (List.replicate m .b)):=(by have:=hown2;rw[Nat.mul_one,World.size_alloc]at this;exact(toList_madeCells_one .b m)▸this);have hsz2:w.heap.size+1≤w2.heap.size:=(by have:=hg2.size;simp at this;omega);clear hown2 hg2)
    clear hsub t1 Xz hmI t2;go_loopw [42] (fun i wr=>∃k:Nat,i=.i (k:Nat)∧PR w r m k (w.heap.size+1) wr) (fun i _=>m-(intOf i).toNat);case atStart=>exact⟨0,rfl,Nat.zero_le _,by simpa[pairUp]using LY.o,HB2.o,Oq.o,hsz2⟩
    case round=>
     obtain⟨k,rfl,hk,hown,hbel,hblk,hsz⟩:=hrel;clear LY HB2 Oq hsz2;have MH:=aa hown;have HB:=aa hbel;have HK:=aa hblk;clear hown hbel hblk;by_cases hlt:k<m
     ·obtain⟨ca,Ty,hxa⟩:=HH.o (2*k) (by omega);obtain⟨cb,hcb,hxb⟩:=HH.o (2*k+1) (by omega);have XA:=aa (tA Ty hcb);have HP:=aa (sw hxa hxb);have HXa:=aa hxa;have HXb:=aa hxb;have ia:at_+2+2*k<text.size:=by omega
      have ib:at_+2+2*k+1<text.size:=by omega
      have hsa:text[at_+2+2*k]=ca:=by
       obtain⟨c,h1,h2⟩:=bW ia;rw[HRd.o,List.getElem?_drop,h1]at Ty;injection Ty with Ty
       rw[h2,Ty]
      have hsb:text[at_+2+2*k+1]=cb:=by
       obtain⟨c,h1,h2⟩:=bW ib;rw[HRd.o,List.getElem?_drop,show at_+2+(2*k+1)=at_+2+2*k+1 by omega,h1]at hcb;injection hcb with hcb
       rw[h2,hcb]
      have hlen:(pairUp (r.take (2*k))).length=k:=ov k _ (by
       have:=(List.getElem?_eq_some_iff.1 Ty).1
       rw[List.length_take];omega)
      have HS:=aa (World.ownsRow.stored MH.o k (B8 (Lex.pair ca cb))).1;have YA:=aa (EO ((pairUp (r.take (2*k))).map B8) k m .b (B8 (Lex.pair ca cb)) (by rw[List.length_map];exact hlen) hlt);have hl0:k<((pairUp (r.take (2*k))).map B8++List.replicate (m-k) (Value.b)).length:=by rw[List.length_append,List.length_map,hlen,List.length_replicate];omega
      have hc0:wr.cell? ⟨w.heap.size+1,k,none⟩=some (((pairUp (r.take (2*k))).map B8++List.replicate (m-k) (Value.b))[k]):=by rw[World.ownsRow.cellAt MH.o k (by omega)];exact List.getElem?_eq_getElem hl0
      obtain⟨old,hold⟩:=aab ((((pairUp (r.take (2*k))).map B8++List.replicate (m-k) (Value.b))[k]));rw[←hold]at hc0;have hf0:=World.ownsRow.frozenAt MH.o k;have hwl:=iN hxa;have YB:=iN hxb;have HOr:=aa (or4 _ _ hwl YB);clear hold Ty hcb hxa hxb hlen hl0;have Nv:(k:Int)<(m:Int):=by omega
      go_wp2_with fail
      refine wp_region_still_tail 20 (by kernel_rfl) (by kernel_rfl) ?_;obtain⟨w3,hw3⟩:∃x:World,x={wr with drawn:=wr.drawn+1}:=⟨_,rfl⟩;rw[←hw3];have hq3:w3=wr.drewN 1:=hw3;have d0:w3.cell? ⟨w.heap.size+1,k,none⟩=some old:=by rw[hw3];exact hc0
      have g0:w3.frozen? ⟨w.heap.size+1,k,none⟩=false:=by rw[hw3];exact hf0
      have Lb:=aa (Own.qK (show Own _ _ _ _ _ _ _ from MH.o) hq3);have HB3:=aa (Below.qK HB.o hq3);have RE:=aa (HK.o.qK hq3);have hz3:w.heap.size+1≤w3.heap.size:=by rw[hw3];exact hsz
      clear hw3 hq3 hc0 hf0 MH HB HK HS;have s1:IntKind.i64.wrap (2*(k:Int))=2*(k:Int):=IntWalk.i64_in _ (by omega);have s2:IntKind.i64.wrap ((at_:Int)+2+2*(k:Int))=(at_:Int)+2+2*(k:Int):=IntWalk.i64_in _ (by omega);have s3:IntKind.i64.wrap ((at_:Int)+2+2*(k:Int)+1)=(at_:Int)+2+2*(k:Int)+1:=IntWalk.i64_in _ (by omega);have s4:((at_:Int)+2+2*(k:Int)).toNat=at_+2+2*k:=by omega
      have s5:((at_:Int)+2+2*(k:Int)+1).toNat=at_+2+2*k+1:=by omega
      have s6:(0:Int)≤(at_:Int)+2+2*(k:Int):=by omega
      have s7:(0:Int)≤(at_:Int)+2+2*(k:Int)+1:=by omega
      have s8:(at_:Int)+2+2*(k:Int)<(text.size:Int):=by omega
      have s9:(at_:Int)+2+2*(k:Int)+1<(text.size:Int):=by omega
      simp only[List.take_succ_cons,List.take_zero,List.drop_succ_cons,List.drop_zero];iterate 8 still_step
      still_call ((pT ca _ HXa.o).mono fun _ _ h=>⟨h.1,h.2.symm⟩);have s10:IntKind.u8.wrap (((Lex.df ca:Nat):Int)*16)=((Lex.df ca:Nat):Int)*16:=IntWalk.u8_in _ (by omega);have s11:=HOr.o;iterate 8 still_step
      still_call ((pT cb _ HXb.o).mono fun _ _ h=>⟨h.1,h.2.symm⟩);iterate 2 still_step
      refine wpStill_nil ?_;clear s1 s2 s3 s4 s5 s6 s7 s8 s9 s10 s11;go_wp2_with fail
      go_roundw;case rel=>
       have hv:Value.int .u8 (((Lex.df ca:Nat):Int)*16+((Lex.df cb:Nat):Int))=B8 (Lex.pair ca cb):=by unfold B8;rw[HP.o];simp
       rw[hv];have h4:=(World.ownsRow.stored (Own.row Lb.o) k (B8 (Lex.pair ca cb))).1;rw[YA.o]at h4;refine⟨k+1,by go_num,hlt,?_,HB3.o.setCell (show w.heap.size≤w.heap.size+1 by omega) _,RE.o.far (show w.heap.size≠w.heap.size+1 by omega) _,by simpa using hz3⟩;rw[XA.o,List.map_append];exact h4
      case measure=>simp[intOf];omega
     ·obtain rfl:k=m:=by omega
      have hown:=MH.o;rw[Nat.sub_self,List.replicate_zero,List.append_nil]at hown;have ec:=(Rb.own hown).je (P:=Tryz.prog) 101 5 9 k Tryz.underlying101 Tryz.underlying5 Tryz.underlying9;have hblk:=HK.o;have d0:wr.cell? ⟨w.heap.size,0,none⟩=some .b:=hblk.cell 0;have d1:wr.cell? ⟨w.heap.size,1,none⟩=some .e:=hblk.cell 1;have d2:wr.cell? ⟨w.heap.size,2,none⟩=some .o:=hblk.cell 2;obtain⟨f0,f1,f2⟩:=hblk.Z3;have Kt:=hblk.lt;obtain⟨sb,hsb⟩:∃s:ByteArray,s=⟨(pairUp (r.take (2*k))).toArray⟩:=⟨_,rfl⟩;rw[←hsb]at ec;have HSB:=aa hsb;have HE2:Hid (((e1:Int)+1)=((at_+(2+2*k+1):Nat):Int)):=by have:=Mf.o;show _=_;omega
      clear hown hblk hsb;go_wp2_with fail
      exact bodyPost_ret (v:=.tuple #[.agg #[.u 4,.s sb,.o],.i ((e1:Int)+1),.bool true]) (by simp[results,Tryz.results118,go_sem,d0,d1,d2]) rfl (TP.yes HT.o rfl HSB.o HE2.o (((HB.o.setCell (Nat.le_refl _) _).setCell (Nat.le_refl _) _).setCell (Nat.le_refl _) _))
   ·have HF:Hid (o=none):=HO.o.trans (if_neg (by rintro⟨_,h⟩;omega));have t2:decide ((200:Int)<(m:Int))=true:=by simp;omega
    have hmI:(2*(m:Int))/2=(m:Int):=by omega
    clear h2 HO;go_wp2_with fail
    exact bodyPost_ret (v:=.tuple #[.agg #[.b,.e,.o],.o,.f]) (by simp[results,Tryz.results118,go_sem]) rfl (TP.no HF.o ((Below.refl _ _).alloc (Nat.le_refl _) _))
  ·obtain⟨m,rfl⟩:∃m,n=2*m+1:=⟨n/2,by omega⟩;have HF:Hid (o=none):=HO.o.trans (if_neg (by rintro⟨⟨_,h⟩,_⟩;omega));have t1:(((2*m+1:Nat):Int)%2==1)=true:=by rw[beq_iff_eq];omega
   have Xz:((2*(m:Int)+1)%2==1)=true:=by rw[beq_iff_eq];omega
   clear h2 HO;go_wp2_with fail
   exact bodyPost_ret (v:=.tuple #[.agg #[.b,.e,.o],.o,.f]) (by simp[results,Tryz.results118,go_sem]) rfl (TP.no HF.o ((Below.refl _ _).alloc (Nat.le_refl _) _))
end
end Go.Proofs.YtnicfobpclehkaaGreatDoor
