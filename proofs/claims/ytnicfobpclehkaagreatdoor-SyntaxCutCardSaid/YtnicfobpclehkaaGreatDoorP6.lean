import Derived.StillTailTactics
import Derived.Test.YtnicfobpclehkaaGreatDoorP4
import Derived.Test.YtnicfobpclehkaaGreatDoorP5
set_option maxHeartbeats 3200000
set_option linter.unusedVariables false
set_option linter.unusedSimpArgs false
namespace Go.Proofs.YtnicfobpclehkaaGreatDoor
open Go.RowKit
def TP(w:World)(at_:Nat)(o:Option (UInt8×List UInt8×Nat))(e:Ending)(w':World):Prop:=
 match o with
 |some (k,s,n)=>e=.returned (.tuple #[.agg #[.int .u8 (k.toNat:Int),.string ⟨s.toArray⟩,.int .i64 0],.int .i64 ((at_+n:Nat):Int),.bool true])∧Below w.heap.size w w'
 |none=>∃k s a n,e=.returned (.tuple #[.agg #[.int .u8 k,.string s,.int .i64 a],.int .i64 n,.bool false])∧Below w.heap.size w w'
theorem TP.no{w w':World}{at_:Nat}{o:Option (UInt8×List UInt8×Nat)}{k a n:Int}{s:ByteArray}(h:o=none)(hb:Below w.heap.size w w'):TP w at_ o (.returned (.tuple #[.agg #[.int .u8 k,.string s,.int .i64 a],.int .i64 n,.bool false])) w':=by
 subst h;exact⟨k,s,a,n,rfl,hb⟩
theorem TP.yes{w w':World}{at_ n:Nat}{o:Option (UInt8×List UInt8×Nat)}{k:UInt8}{l:List UInt8}{s:ByteArray}{ki e:Int}(h:o=some (k,l,n))(hk:ki=(k.toNat:Int))(hs:s=⟨l.toArray⟩)(he:e=((at_+n:Nat):Int))(hb:Below w.heap.size w w'):TP w at_ o (.returned (.tuple #[.agg #[.int .u8 ki,.string s,.int .i64 0],.int .i64 e,.bool true])) w':=by
 subst h hk hs he;exact⟨rfl,hb⟩
theorem extract_eq(s:ByteArray)(a b:Nat)(_hb:b≤s.size):s.extract a b=⟨((s.data.toList.drop a).take (b-a)).toArray⟩:=by
 have h:(s.extract a b).data.toList=(s.data.toList.drop a).take (b-a):=by rw[ByteArray.data_extract,Array.toList_extract]
 apply ByteArray.ext;apply Array.ext';exact h
theorem IC(p:UInt8→Bool)(c:UInt8)(l:List UInt8):p c=decide (0<Lex.span p (c::l)):=by
 by_cases h:p c=true
 ·rw[h];simp[Lex.span,h]
 ·rw[Bool.not_eq_true]at h;rw[h];simp[Lex.span,h]
theorem zO(text:ByteArray)(at_:Nat)(w:World)(hm:text.size≤1099511627776)(hat:at_<text.size):
 Calls Tryz.prog 122 #[.string text,.int .i64 (at_:Int)] w (TP w at_ (Lex.gN (text.data.toList.drop at_))):=by
 have HL:=cN (eI text);obtain⟨c,hc,hs⟩:=j7 hat;have hn:=Lex.gU Lex.digit (text.data.toList.drop at_);rw[aJ,HL.o]at hn;obtain⟨o,ho⟩:∃o,o=Lex.gN (text.data.toList.drop at_):=⟨_,rfl⟩;have HO:=cN ho;rw[←ho];unfold Lex.gN at ho;obtain⟨n,hnd⟩:∃n,n=Lex.span Lex.digit (text.data.toList.drop at_):=⟨_,rfl⟩;rw[←hnd]at hn ho;have HNd:=cN hnd;rw[Lex.fT,Lex.fT,bh,bU]at ho;have h48:Lex.dQ text.data.toList at_ 48=((c.toNat:Int)==48):=by unfold Lex.dQ;rw[hc,aG];simp only[bz,aI,aV];exact⟨fun h=>by rw[h];rfl,fun h=>aF.1 (by show _=48;omega)⟩
 rw[h48]at ho;have OD:=cN ho;clear ho hnd hc h48 HO;obtain⟨e1,he1⟩:∃x,x=at_+n:=⟨_,rfl⟩;have he1a:at_≤e1:=by omega
 have Rq:e1≤text.size:=by omega
 have S7:=cN he1;rw[show at_+(n+1)=e1+1 by omega,←he1]at OD;have WB:Hid (n=e1-at_):=by show _=_;omega
 go_enter Tryz.func122,Tryz.ntmps122;go_wp2_with fail
 with_reducible refine(jk text at_ 121 Lex.digit _ (by omega) sU gu (by omega)).mono ?_
 rintro e w' ⟨rfl,rfl⟩;rw[←HNd.o,←he1];clear he1;by_cases hz:((c.toNat:Int)==48)=true∧1<n
 ·have HF:Hid (o=none):=OD.o.trans (if_pos hz);obtain⟨t1,hz2⟩:=hz;have t2:decide ((1:Int)<(e1:Int)-(at_:Int))=true:=by have:=WB.o;simp;omega
  clear hz2;go_wp2_with fail
  exact ae (v:=.tuple #[.agg #[.int .u8 0,.string ⟨#[]⟩,.int .i64 0],.int .i64 0,.bool false]) (by simp[results,Tryz.results122,go_sem]) rfl (TP.no HF.o ((ax _ _).alloc (aa _) _))
 have Qx:Hid (o=_):=OD.o.trans (if_neg hz);clear OD;obtain⟨d,hd⟩:∃d,d=Lex.span Lex.digit (text.data.toList.drop (e1+1)):=⟨_,rfl⟩;rw[←hd]at Qx;have HD:=cN hd;have hdl:=Lex.gU Lex.digit (text.data.toList.drop (e1+1));rw[←hd,aJ,HL.o]at hdl;obtain⟨b1,hb1⟩:∃b,b=Lex.dQ text.data.toList e1 46:=⟨_,rfl⟩;rw[←hb1]at Qx;have H1:=cN hb1;clear hb1 hd;have step:∀(K:Prop),(((c.toNat:Int)==48)=true→decide ((1:Int)<(e1:Int)-(at_:Int))=false→K)→(((c.toNat:Int)==48)=false→K)→K:=by
  intro K h1 h2;cases hq:((c.toNat:Int)==48)with
  |false=>exact h2 hq
  |true=>
   refine h1 hq ?_;have:=WB.o;have h3:¬1<n:=fun h=>hz ⟨hq,h⟩
   simp;omega
 clear hz;refine step _ (fun t1 t2=>?_) (fun t1=>?_);all_goals
  clear step
  go_wp2_with fail
  with_reducible refine(lE text _ e1 46 _ _ rfl b46).mono ?_
  rintro e w' ⟨rfl,rfl⟩
  rw[←H1.o]
  cases b1 with
  |false=>
   have HF:Hid (o=some (2,_,n)):=Qx.o.trans (if_neg (by simp))
   have hI1:(at_:Int)≤(e1:Int):=by omega
   have hI2:(e1:Int)≤(text.size:Int):=by omega
   go_wp2_with fail
   exact ae (v:=.tuple #[.agg #[.int .u8 2,.string (text.extract at_ e1),.int .i64 0],.int .i64 e1,.bool true]) (by simp[results,Tryz.results122,go_sem]) rfl (TP.yes HF.o rfl (by rw[extract_eq _ _ _ Rq,WB.o]) (by rw[S7.o]) ((ax _ _).alloc (aa _) _))
  |true=>
   by_cases hb2:e1+1<text.size
   ·obtain⟨c2,hc2,hs2⟩:=j7 hb2;have hc2l:=c2.toNat_lt;obtain⟨b2,hb2'⟩:∃b,b=Lex.digit c2:=⟨_,rfl⟩;have H2:=cN hb2';have HD2:Hid (b2=decide (0<d)):=by show _=_;rw[hb2',HD.o,drop_at hc2];exact IC _ _ _
    have t3:decide ((e1:Int)+1<(text.size:Int))=true:=by simp;omega
    have t4:(e1:Int)+1<(text.size:Int):=by omega
    have hI0:(0:Int)≤(e1:Int)+1:=by omega
    have hT:((e1:Int)+1).toNat=e1+1:=by omega
    clear hc2 hb2';go_wp2_with fail
    with_reducible refine(gu c2 _).mono ?_
    rintro e w' ⟨rfl,rfl⟩;rw[←H2.o];cases b2 with
    |false=>
     have HF:Hid (o=some (2,_,n)):=Qx.o.trans (if_neg (by have:=HD2.o;simp at this⊢;omega));have hI1:(at_:Int)≤(e1:Int):=by omega
     have hI2:(e1:Int)≤(text.size:Int):=by omega
     clear hT;go_wp2_with fail
     exact ae (v:=.tuple #[.agg #[.int .u8 2,.string (text.extract at_ e1),.int .i64 0],.int .i64 e1,.bool true]) (by simp[results,Tryz.results122,go_sem]) rfl (TP.yes HF.o rfl (by rw[extract_eq _ _ _ Rq,WB.o]) (by rw[S7.o]) ((ax _ _).alloc (aa _) _))
    |true=>
     have hd0:0<d:=by have:=HD2.o;simpa using this
     have VB:Hid (o=_):=Qx.o.trans (if_pos ⟨by simp,hd0⟩);clear hT;go_wp2_with fail
     have hcast:(e1:Int)+1=((e1+1:Nat):Int):=by omega
     rw[hcast];with_reducible refine(jk text (e1+1) 121 Lex.digit _ (by omega) sU gu (by omega)).mono ?_
     rintro e w' ⟨rfl,rfl⟩;rw[←HD.o];obtain⟨e2,he2⟩:∃x,x=e1+1+d:=⟨_,rfl⟩;have HE2:=cN he2;have he2a:at_≤e2:=by omega
     have he2b:e2≤text.size:=by omega
     have HE2n:Hid (n+1+d=e2-at_):=by have:=WB.o;show _=_;omega
     have Xv:Hid (d=e2-(e1+1)∧e1+1≤e2):=by constructor<;>omega
     rw[←he2];clear he2 hcast;by_cases h4:4<d
     ·have HF:Hid (o=none):=VB.o.trans (if_pos h4);have t5:decide ((4:Int)<(e2:Int)-((e1:Int)+1))=true:=by have:=Xv.o;simp;omega
      clear h4;go_wp2_with fail
      exact ae (v:=.tuple #[.agg #[.int .u8 0,.string ⟨#[]⟩,.int .i64 0],.int .i64 0,.bool false]) (by simp[results,Tryz.results122,go_sem]) rfl (TP.no HF.o ((ax _ _).alloc (aa _) _))
     ·have HF:Hid (o=some (2,_,n+1+d)):=VB.o.trans (if_neg h4);have t5:decide ((4:Int)<(e2:Int)-((e1:Int)+1))=false:=by have:=Xv.o;simp;omega
      have hI1:(at_:Int)≤(e2:Int):=by omega
      have hI2:(e2:Int)≤(text.size:Int):=by omega
      clear h4;go_wp2_with fail
      exact ae (v:=.tuple #[.agg #[.int .u8 2,.string (text.extract at_ e2),.int .i64 0],.int .i64 e2,.bool true]) (by simp[results,Tryz.results122,go_sem]) rfl (TP.yes HF.o rfl (by rw[extract_eq _ _ _ he2b,HE2n.o]) (by have:=HE2.o;have:=S7.o;omega) ((ax _ _).alloc (aa _) _))
   ·have hd0:d=0:=by omega
    have HF:Hid (o=some (2,_,n)):=Qx.o.trans (if_neg (by rintro⟨_,h⟩;omega));have t3:decide ((e1:Int)+1<(text.size:Int))=false:=by simp;omega
    have hI1:(at_:Int)≤(e1:Int):=by omega
    have hI2:(e1:Int)≤(text.size:Int):=by omega
    clear hd0;go_wp2_with fail
    exact ae (v:=.tuple #[.agg #[.int .u8 2,.string (text.extract at_ e1),.int .i64 0],.int .i64 e1,.bool true]) (by simp[results,Tryz.results122,go_sem]) rfl (TP.yes HF.o rfl (by rw[extract_eq _ _ _ Rq,WB.o]) (by rw[S7.o]) ((ax _ _).alloc (aa _) _))
theorem C6:∀(l:List UInt8) (c:UInt8),0≤Lib.indexByte l c↔c∈l:=by
 intro l;induction l with
 |nil=>intro c;simp[Lib.indexByte]
 |cons b l ih=>
  intro c;have h1:=ih c;have h2:=Lib.indexByte_ge l c;unfold Lib.indexByte;by_cases hb:(b==c)=true
  ·rw[if_pos hb];have:b=c:=by simpa using hb
   subst this;simp
  ·rw[if_neg hb];have hne:¬b=c:=by simpa using hb
   have hne':¬c=b:=fun e=>hne e.symm
   simp only[af,hne',false_or];rw[←h1];by_cases h3:(Lib.indexByte l c== -1)=true
   ·rw[if_pos h3];have h4:Lib.indexByte l c= -1:=by simpa using h3
    omega
   ·rw[if_neg h3];have h4:¬Lib.indexByte l c= -1:=by simpa using h3
    omega
theorem oV(l:List UInt8)(c:UInt8):decide (0≤Lib.indexByte l c)=decide (c∈l):=decide_eq_decide.2 (C6 l c)
theorem xl(s:ByteArray)(i:Nat)(c:UInt8)(h:s.data.toList[i]?=some c):s.extract i (i+1)=⟨#[c]⟩:=by
 have hl:i<s.data.toList.length:=(ay.1 h).1;rw[extract_eq _ _ _ (by rw[←eI];omega),drop_at h,show i+1-i=1 by omega];rfl
theorem E0(text:ByteArray)(at_:Nat)(w:World)(hm:text.size≤1099511627776)(hat:at_<text.size):
 Calls Tryz.prog 124 #[.string text,.int .i64 (at_:Int)] w (TP w at_ (Lex.lY (text.data.toList.drop at_))):=by
 have HL:=cN (eI text);obtain⟨c,hc,hs⟩:=j7 hat;have hcl:=c.toNat_lt;obtain⟨o,ho⟩:∃o,o=Lex.lY (text.data.toList.drop at_):=⟨_,rfl⟩;rw[←ho];rw[drop_at hc]at ho;unfold Lex.lY at ho;simp only[Lex.fT,bh]at ho;obtain⟨v62,WC⟩:∃b,b=Lex.dQ text.data.toList (at_+1) 62:=⟨_,rfl⟩;obtain⟨v61,h61⟩:∃b,b=Lex.dQ text.data.toList (at_+1) 61:=⟨_,rfl⟩;rw[←WC,←h61,←drop_at hc]at ho;have HO:=cN ho;have H62:=cN WC;have Zv:=cN h61;have hX:=xl text at_ c hc;have HX:=cN hX;have HA:Hid (∀x,(x=(62:UInt8)∨x=61)→Lex.dQ text.data.toList (at_+1) x=true→at_+1+1≤text.size):=by intro x _ h;unfold Lex.dQ at h;rw[aI]at h;have:=(ay.1 h).1;rw[HL.o]at this;omega
 have I1:(at_:Int)≤(at_:Int)+1:=by omega
 have I2:(at_:Int)+1≤(text.size:Int):=by omega
 have T1:((at_:Int)+1).toNat=at_+1:=by omega
 clear ho WC h61 hc hX;obtain⟨mm,hmm⟩:∃b,b=decide (c∈Lex.tb):=⟨_,rfl⟩;have Uq:=cN hmm;have HSg:Hid (Lex.tb=[40,41,44,46,59,43,45,42,61,60,62]):=rfl;clear hmm;by_cases Xw:c.toNat=60
 ·have q60:((c.toNat:Int)==60)=true:=by simp;omega
  have q62:((c.toNat:Int)==62)=false:=by simp;omega
  go_enter Tryz.func124,Tryz.ntmps124;go_wp2_with fail
  with_reducible refine(lE text _ (at_+1) 62 _ _ (by omega) b62).mono ?_
  rintro e w' ⟨rfl,rfl⟩;rw[←H62.o];cases v62 with
  |true=>
   have HF:Hid (o=some (5,_,2)):=HO.o.trans (if_pos (Or.inl ⟨Xw,Or.inl rfl⟩));have hl2:=HA.o 62 (Or.inl rfl) H62.o.symm;have I3:(at_:Int)+1+1≤(text.size:Int):=by omega
   have I4:(at_:Int)≤(at_:Int)+1+1:=by omega
   have T2:((at_:Int)+1+1).toNat=at_+1+1:=by omega
   clear Xw;go_wp2_with fail
   exact ae (v:=.tuple #[.agg #[.int .u8 5,.string (text.extract at_ (at_+1+1)),.int .i64 0],.int .i64 ((at_:Int)+1+1),.bool true]) (by simp[results,Tryz.results124,go_sem]) rfl (TP.yes HF.o rfl (by rw[extract_eq _ _ _ (by omega),show at_+1+1-at_=2 by omega]) (by omega) ((ax _ _).alloc (aa _) _))
  |false=>
   go_wp2_with fail
   with_reducible refine(lE text _ (at_+1) 61 _ _ (by omega) b61).mono ?_
   rintro e w' ⟨rfl,rfl⟩;rw[←Zv.o];cases v61 with
   |true=>
    have HF:Hid (o=some (5,_,2)):=HO.o.trans (if_pos (Or.inl ⟨Xw,Or.inr rfl⟩));have hl2:=HA.o 61 (Or.inr rfl) Zv.o.symm;have I3:(at_:Int)+1+1≤(text.size:Int):=by omega
    have I4:(at_:Int)≤(at_:Int)+1+1:=by omega
    have T2:((at_:Int)+1+1).toNat=at_+1+1:=by omega
    clear Xw;go_wp2_with fail
    exact ae (v:=.tuple #[.agg #[.int .u8 5,.string (text.extract at_ (at_+1+1)),.int .i64 0],.int .i64 ((at_:Int)+1+1),.bool true]) (by simp[results,Tryz.results124,go_sem]) rfl (TP.yes HF.o rfl (by rw[extract_eq _ _ _ (by omega),show at_+1+1-at_=2 by omega]) (by omega) ((ax _ _).alloc (aa _) _))
   |false=>
    have OD:Hid (o=_):=HO.o.trans (if_neg (by rintro(⟨_,h|h⟩|⟨h,_⟩)<;>first|(cases h;done)|omega));clear HO;go_wp2_with fail
    rw[HX.o];with_reducible refine(Tryz.strings_Contains_one ⟨#[40,41,44,46,59,43,45,42,61,60,62]⟩ c _).mono ?_
    rintro e w' ⟨rfl,rfl⟩;rw[oV,←HSg.o,←Uq.o];cases mm with
    |true=>
     have HF:Hid (o=some (5,_,1)):=OD.o.trans (if_pos (az Uq.o.symm));go_wp2_with fail
     exact ae (v:=.tuple #[.agg #[.int .u8 5,.string (text.extract at_ (at_+1)),.int .i64 0],.int .i64 ((at_:Int)+1),.bool true]) (by simp[results,Tryz.results124,go_sem]) rfl (TP.yes HF.o rfl (by rw[extract_eq _ _ _ (by omega),show at_+1-at_=1 by omega]) (by omega) ((ax _ _).alloc (aa _) _))
    |false=>
     have HF:Hid (o=none):=OD.o.trans (if_neg (cf Uq.o.symm));go_wp2_with fail
     exact ae (v:=.tuple #[.agg #[.int .u8 0,.string ⟨#[]⟩,.int .i64 0],.int .i64 0,.bool false]) (by simp[results,Tryz.results124,go_sem]) rfl (TP.no HF.o ((ax _ _).alloc (aa _) _))
 ·have q60:((c.toNat:Int)==60)=false:=by simp;omega
  by_cases WC:c.toNat=62
  ·have q62:((c.toNat:Int)==62)=true:=by simp;omega
   go_enter Tryz.func124,Tryz.ntmps124;go_wp2_with fail
   with_reducible refine(lE text _ (at_+1) 61 _ _ (by omega) b61).mono ?_
   rintro e w' ⟨rfl,rfl⟩;rw[←Zv.o];cases v61 with
   |true=>
    have HF:Hid (o=some (5,_,2)):=HO.o.trans (if_pos (Or.inr ⟨WC,rfl⟩));have hl2:=HA.o 61 (Or.inr rfl) Zv.o.symm;have I3:(at_:Int)+1+1≤(text.size:Int):=by omega
    have I4:(at_:Int)≤(at_:Int)+1+1:=by omega
    have T2:((at_:Int)+1+1).toNat=at_+1+1:=by omega
    clear Xw WC;go_wp2_with fail
    exact ae (v:=.tuple #[.agg #[.int .u8 5,.string (text.extract at_ (at_+1+1)),.int .i64 0],.int .i64 ((at_:Int)+1+1),.bool true]) (by simp[results,Tryz.results124,go_sem]) rfl (TP.yes HF.o rfl (by rw[extract_eq _ _ _ (by omega),show at_+1+1-at_=2 by omega]) (by omega) ((ax _ _).alloc (aa _) _))
   |false=>
    have OD:Hid (o=_):=HO.o.trans (if_neg (by rintro(⟨h,_⟩|⟨_,h⟩)<;>first|(cases h;done)|omega));clear HO;go_wp2_with fail
    rw[HX.o];with_reducible refine(Tryz.strings_Contains_one ⟨#[40,41,44,46,59,43,45,42,61,60,62]⟩ c _).mono ?_
    rintro e w' ⟨rfl,rfl⟩;rw[oV,←HSg.o,←Uq.o];cases mm with
    |true=>
     have HF:Hid (o=some (5,_,1)):=OD.o.trans (if_pos (az Uq.o.symm));go_wp2_with fail
     exact ae (v:=.tuple #[.agg #[.int .u8 5,.string (text.extract at_ (at_+1)),.int .i64 0],.int .i64 ((at_:Int)+1),.bool true]) (by simp[results,Tryz.results124,go_sem]) rfl (TP.yes HF.o rfl (by rw[extract_eq _ _ _ (by omega),show at_+1-at_=1 by omega]) (by omega) ((ax _ _).alloc (aa _) _))
    |false=>
     have HF:Hid (o=none):=OD.o.trans (if_neg (cf Uq.o.symm));go_wp2_with fail
     exact ae (v:=.tuple #[.agg #[.int .u8 0,.string ⟨#[]⟩,.int .i64 0],.int .i64 0,.bool false]) (by simp[results,Tryz.results124,go_sem]) rfl (TP.no HF.o ((ax _ _).alloc (aa _) _))
  ·have q62:((c.toNat:Int)==62)=false:=by simp;omega
   go_enter Tryz.func124,Tryz.ntmps124;have OD:Hid (o=_):=HO.o.trans (if_neg (by rintro(⟨h,_⟩|⟨h,_⟩)<;>omega));clear HO;go_wp2_with fail
   rw[HX.o];with_reducible refine(Tryz.strings_Contains_one ⟨#[40,41,44,46,59,43,45,42,61,60,62]⟩ c _).mono ?_
   rintro e w' ⟨rfl,rfl⟩;rw[oV,←HSg.o,←Uq.o];cases mm with
   |true=>
    have HF:Hid (o=some (5,_,1)):=OD.o.trans (if_pos (az Uq.o.symm));go_wp2_with fail
    exact ae (v:=.tuple #[.agg #[.int .u8 5,.string (text.extract at_ (at_+1)),.int .i64 0],.int .i64 ((at_:Int)+1),.bool true]) (by simp[results,Tryz.results124,go_sem]) rfl (TP.yes HF.o rfl (by rw[extract_eq _ _ _ (by omega),show at_+1-at_=1 by omega]) (by omega) ((ax _ _).alloc (aa _) _))
   |false=>
    have HF:Hid (o=none):=OD.o.trans (if_neg (cf Uq.o.symm));go_wp2_with fail
    exact ae (v:=.tuple #[.agg #[.int .u8 0,.string ⟨#[]⟩,.int .i64 0],.int .i64 0,.bool false]) (by simp[results,Tryz.results124,go_sem]) rfl (TP.no HF.o ((ax _ _).alloc (aa _) _))
theorem wI{c:UInt8}{r:List UInt8}(h:c.toNat≠39):Lex.quote (c::r)=(Lex.quote r).map (fun p=>(c::p.1,p.2)):=by
 cases r with
 |nil=>simp[Lex.quote,h]
 |cons d r=>simp only[Lex.quote];rw[if_neg h]
theorem CI{c d:UInt8}{r:List UInt8}(hc:c.toNat=39)(hd:d=39):Lex.quote (c::d::r)=(Lex.quote r).map (fun p=>(39::p.1,p.2)):=by
 simp only[Lex.quote];rw[if_pos hc,if_pos (by rw[hd];rfl)]
theorem zP{c:UInt8}{r:List UInt8}(hc:c.toNat=39)(h:Lex.dQ r 0 39=false):Lex.quote (c::r)=some ([],r):=by
 cases r with
 |nil=>simp[Lex.quote,hc]
 |cons d r=>
  simp only[Lex.quote];rw[if_pos hc,if_neg];intro hd;have:d=39:=aF.1 (by rw[hd];rfl);simp[Lex.dQ,this]at h
def rA:Array Value:=#[.int .u8 0,.string ⟨#[]⟩,.int .i64 0]
def QR(w:World)(l:List UInt8)(at_ k:Nat)(acc:List UInt8)(v:Value)(wr:World):Prop:=
 k≤l.length∧acc.length≤k∧Lex.quote (l.drop (at_+1))=(Lex.quote (l.drop k)).map (fun p=>(acc++p.1,p.2))∧wr.ownsRow (w.heap.size+1) 5 1 v acc.length (acc.map B8)∧Below w.heap.size w wr∧NA wr w.heap.size 113 rA∧w.heap.size+1≤wr.heap.size
theorem xM{l:List UInt8}{at_ k:Nat}{acc:List UInt8}(hk:k≤l.length)(h:Lex.quote (l.drop (at_+1))=some (acc,l.drop k)):Lex.iE (l.drop at_)=if acc.length≤200 then some (3,acc,k-at_)else none:=by
 unfold Lex.iE;rw[bU,h];simp only[aJ];rw[show l.length-at_-(l.length-k)=k-at_ by omega]
theorem vU{l:List UInt8}{at_:Nat}(h:Lex.quote (l.drop (at_+1))=none):Lex.iE (l.drop at_)=none:=by
 unfold Lex.iE;rw[bU,h]
theorem zv(text:ByteArray)(at_:Nat)(w:World)(hm:text.size≤1099511627776)(hat:at_<text.size):
 Calls Tryz.prog 123 #[.string text,.int .i64 (at_:Int)] w (TP w at_ (Lex.iE (text.data.toList.drop at_))):=by
 have HL:=cN (eI text);obtain⟨o,ho⟩:∃o,o=Lex.iE (text.data.toList.drop at_):=⟨_,rfl⟩;have HO:=cN ho;rw[←ho];clear ho;go_enter Tryz.func123,Tryz.ntmps123;go_wp2_with fail
 go_loopg [7,8] (text.size-(at_+1)) (fun g v i wr=>∃(k:Nat) (acc:List UInt8),i=.int .i64 (k:Nat)∧g=text.size-k∧at_<k∧QR w text.data.toList at_ k acc v wr);case atStart=>exact⟨at_+1,[],by go_num,rfl,by omega,by rw[HL.o];omega,by simp,by simp,lJ _ _ _ _,(ax _ _).alloc (aa _) _,NA.new _ _ _,by simp⟩
 case round=>
  obtain⟨k,acc,rfl,rfl,hak,hk,hacc,hq,hown,hbel,hblk,hsz⟩:=hrel;rw[HL.o]at hk;have HQ:=cN hq;have Rj:=cN hown;have HB:=cN hbel;have HK:=cN hblk;have d0:wr.cell? ⟨w.heap.size,0,none⟩=some (.int .u8 0):=hblk.cell 0;have d1:wr.cell? ⟨w.heap.size,1,none⟩=some (.string ⟨#[]⟩):=hblk.cell 1;have d2:wr.cell? ⟨w.heap.size,2,none⟩=some (.int .i64 0):=hblk.cell 2;obtain⟨f0,f1,f2⟩:=hblk.z3 0 1 2;have NK:=hblk.lt;clear hq hown hbel hblk;by_cases hlt:k<text.size
  ·obtain⟨c,hc,hs⟩:=j7 hlt;have HC:=cN (drop_at hc);have hcl:=c.toNat_lt;have Xu:(k:Int)<(text.size:Int):=by omega
   clear hc;by_cases Q8:c.toNat=39
   ·have q39:((c.toNat:Int)==39)=true:=by simp;omega
    obtain⟨b1,hb1⟩:∃b,b=Lex.dQ text.data.toList (k+1) 39:=⟨_,rfl⟩;have H1:=cN hb1;clear hb1;go_wp2_with fail
    with_reducible refine(lE text _ (k+1) 39 _ _ (by omega) b39).mono ?_
    rintro e w' ⟨rfl,rfl⟩;rw[←H1.o];cases b1 with
    |false=>
     have HE:Hid (Lex.quote (text.data.toList.drop (at_+1))=some (acc,text.data.toList.drop (k+1))):=by show _=_;rw[HQ.o,HC.o,zP Q8 (by rw[Lex.fT];exact H1.o.symm)];simp
     have HT:=cN (HO.o.trans (xM (by rw[HL.o];omega) HE.o));obtain⟨A1,c1,rfl,-,-,-⟩:=kJ Rj.o;have ec:=(Rb.own Rj.o).nF (P:=Tryz.prog) 101 5 9 c1 Tryz.underlying101 Tryz.underlying5 Tryz.underlying9;by_cases Q9:acc.length≤200
     ·have HF:=cN (HT.o.trans (if_pos Q9));have t2:decide ((acc.length:Int)≤200)=true:=by simp;omega
      clear Q8 Q9;go_wp2_with fail
      exact ae (v:=.tuple #[.agg #[.int .u8 3,.string ⟨acc.toArray⟩,.int .i64 0],.int .i64 ((k:Int)+1),.bool true]) (by simp[results,Tryz.results123,go_sem,d0,d1,d2]) rfl (TP.yes HF.o rfl rfl (by omega) (((HB.o.setCell (aa _) _).setCell (aa _) _).setCell (aa _) _))
     ·have HF:=cN (HT.o.trans (if_neg Q9));have t2:decide ((acc.length:Int)≤200)=false:=by simp;omega
      clear Q8 Q9;go_wp2_with fail
      exact ae (v:=.tuple #[.agg #[.int .u8 3,.string ⟨acc.toArray⟩,.int .i64 0],.int .i64 ((k:Int)+1),.bool false]) (by simp[results,Tryz.results123,go_sem,d0,d1,d2]) rfl (TP.no HF.o (((HB.o.setCell (aa _) _).setCell (aa _) _).setCell (aa _) _))
    |true=>
     have h1:=H1.o.symm;unfold Lex.dQ at h1;rw[aI]at h1;have hk2:k+1<text.size:=by have:=(ay.1 h1).1;rw[HL.o]at this;exact this
     obtain⟨c2,hc2,hs2⟩:=j7 hk2;obtain rfl:c2=39:=by rw[h1]at hc2;injection hc2 with hc2;exact hc2.symm
     have HN:Hid (Lex.quote (text.data.toList.drop (at_+1))=(Lex.quote (text.data.toList.drop (k+2))).map (fun p=>((acc++[39])++p.1,p.2))):=by show _=_;rw[HQ.o,HC.o,drop_at h1,CI Q8 rfl,Option.map_map];congr 1;funext p;simp
     have I1:(k:Int)+1<(text.size:Int):=by omega
     have T1:((k:Int)+1).toNat=k+1:=by omega
     have I0:(0:Int)≤(k:Int)+1:=by omega
     clear Q8 h1 hc2;go_wp2_with (at_builtin;refine pR bt rfl (.tmp 36) (.tmp 40) rfl (w.heap.size+1) _ acc.length acc rfl Rj.o _ 1 1 [39] rfl rfl rfl rfl (by omega) hsz ?_;intro v3 w3 hown3 hb3 _;have Qx:=cN hown3;have HB3:=cN hb3;clear hown3 hb3)
     go_roundg (text.size-(k+2));case measure=>omega
     case rel=>
      have hz3:=HB3.o.size;refine⟨(k+2),acc++[39],by go_num,rfl,by omega,by rw[HL.o];omega,by simp;omega,?_,?_,HB.o.trans (HB3.o.mono (by omega)),HK.o.below HB3.o (by omega),by omega⟩
      ·exact HN.o
      ·rw[ah];exact Qx.o
   ·have q39:((c.toNat:Int)==39)=false:=by simp;omega
    have HN:Hid (Lex.quote (text.data.toList.drop (at_+1))=(Lex.quote (text.data.toList.drop (k+1))).map (fun p=>((acc++[c])++p.1,p.2))):=by show _=_;rw[HQ.o,HC.o,wI Q8,Option.map_map];congr 1;funext p;simp
    clear Q8;go_wp2_with (at_builtin;refine pR bt rfl (.tmp 36) (.tmp 40) rfl (w.heap.size+1) _ acc.length acc rfl Rj.o _ 1 1 [c] rfl rfl rfl rfl (by omega) hsz ?_;intro v3 w3 hown3 hb3 _;have Qx:=cN hown3;have HB3:=cN hb3;clear hown3 hb3)
    go_roundg (text.size-(k+1));case measure=>omega
    case rel=>
     have hz3:=HB3.o.size;refine⟨(k+1),acc++[c],by go_num,rfl,by omega,by rw[HL.o];omega,by simp;omega,?_,?_,HB.o.trans (HB3.o.mono (by omega)),HK.o.below HB3.o (by omega),by omega⟩
     ·exact HN.o
     ·rw[ah];exact Qx.o
  ·have HF:Hid (o=none):=by refine HO.o.trans (vU ?_);rw[HQ.o,bc (by rw[HL.o];omega)];rfl
   have Xu:¬(k:Int)<(text.size:Int):=by omega
   go_wp2_with fail
   exact ae (v:=.tuple #[.agg #[.int .u8 0,.string ⟨#[]⟩,.int .i64 0],.int .i64 0,.bool false]) (by simp[results,Tryz.results123,go_sem,d0,d1,d2]) rfl (TP.no HF.o (((HB.o.setCell (aa _) _).setCell (aa _) _).setCell (aa _) _))
section
set_option maxRecDepth 100000
def pairUp:List UInt8→List UInt8
 |a::b::l=>Lex.pair a b::pairUp l
 |_=>[]
theorem qQ:∀(m:Nat) (l:List UInt8),l.length=2*m→(pairUp l).length=m:=by
 intro m;induction m with
 |zero=>intro l h;rw[aC h];rfl
 |succ m ih=>
  intro l h;match l,h with
  |a::b::l,h=>simp only[pairUp,ab];rw[ih l (by simp at h;omega)]
theorem wE:∀(m:Nat) (l:List UInt8) (a b:UInt8),l.length=2*m→pairUp (l++[a,b])=pairUp l++[Lex.pair a b]:=by
 intro m;induction m with
 |zero=>intro l a b h;rw[aC h];rfl
 |succ m ih=>
  intro l a b h;match l,h with
  |c::d::l,h=>simp only[List.cons_append,pairUp];rw[ih l a b (by simp at h;omega)]
theorem wL{l:List UInt8}{k:Nat}{a b:UInt8}(ha:l[2*k]?=some a)(hb:l[2*k+1]?=some b):pairUp (l.take (2*(k+1)))=pairUp (l.take (2*k))++[Lex.pair a b]:=by
 have h1:=(ay.1 hb).1;rw[show 2*(k+1)=2*k+1+1 by omega,←tU l _ b hb,←tU l _ a ha,aX];exact wE k _ a b (by rw[aP];omega)
theorem D8{a b:UInt8}{l:List UInt8}(ha:Lex.hex a=true)(hb:Lex.hex b=true):Lex.span Lex.hex (a::b::l)=Lex.span Lex.hex l+2:=by
 simp only[Lex.span];rw[if_pos ha,if_pos hb]
theorem KL{c:UInt8}(h:c.toNat=39):Lex.hex c=false:=by simp[Lex.hex,Lex.digit,h]
theorem Ia:∀(f:Nat) (r:List UInt8),r.length≤f→Lex.gL r=if Lex.dQ r (Lex.span Lex.hex r) 39=true∧Lex.span Lex.hex r%2=0 then some (pairUp (r.take (Lex.span Lex.hex r)),r.drop (Lex.span Lex.hex r+1))else none:=by
 intro f;induction f with
 |zero=>
  intro r h;obtain rfl:r=[]:=aC (by omega);rfl
 |succ f ih=>
  intro r h;match r,h with
  |[],_=>rfl
  |[c],_=>
   by_cases hc:c.toNat=39
   ·have e:Lex.span Lex.hex [c]=0:=by simp only[Lex.span];rw[if_neg (by simp[KL hc])]
    rw[e];simp only[Lex.gL];rw[if_pos hc,if_pos (by refine⟨?_,by first|rfl|trivial⟩;simp[Lex.dQ];exact aF.1 (by rw[hc];rfl))];rfl
   ·have e0:Lex.gL [c]=none:=by simp only[Lex.gL];rw[if_neg hc]
    rw[e0];by_cases hx:Lex.hex c=true
    ·have e:Lex.span Lex.hex [c]=1:=by simp only[Lex.span];rw[if_pos hx]
     rw[e,if_neg (by simp[Lex.dQ])]
    ·have e:Lex.span Lex.hex [c]=0:=by simp only[Lex.span];rw[if_neg hx]
     rw[e,if_neg];rintro⟨h1,_⟩;simp[Lex.dQ]at h1;rw[h1]at hc;exact hc rfl
  |c::d::l,h=>
   by_cases hc:c.toNat=39
   ·have e:Lex.span Lex.hex (c::d::l)=0:=by simp only[Lex.span];rw[if_neg (by simp[KL hc])]
    rw[e];simp only[Lex.gL];rw[if_pos hc,if_pos (by refine⟨?_,by first|rfl|trivial⟩;simp[Lex.dQ];exact aF.1 (by rw[hc];rfl))];rfl
   ·simp only[Lex.gL];rw[if_neg hc];by_cases hx:Lex.hex c=true∧Lex.hex d=true
    ·rw[if_pos hx,ih l (by simp at h;omega),D8 hx.1 hx.2];have e1:Lex.dQ (c::d::l) (Lex.span Lex.hex l+2) 39=Lex.dQ l (Lex.span Lex.hex l) 39:=rfl;rw[e1,show(Lex.span Lex.hex l+2)%2=Lex.span Lex.hex l%2 by omega];by_cases hb:Lex.dQ l (Lex.span Lex.hex l) 39=true∧Lex.span Lex.hex l%2=0
     ·rw[if_pos hb,if_pos hb];rfl
     ·rw[if_neg hb,if_neg hb];rfl
    ·rw[if_neg hx,if_neg];rintro⟨h1,h2⟩;by_cases hx1:Lex.hex c=true
     ·have hx2:¬Lex.hex d=true:=fun h=>hx ⟨hx1,h⟩
      have e:Lex.span Lex.hex (c::d::l)=1:=by simp only[Lex.span];rw[if_pos hx1,if_neg hx2]
      rw[e]at h2;omega
     ·have e:Lex.span Lex.hex (c::d::l)=0:=by simp only[Lex.span];rw[if_neg hx1]
      rw[e]at h1;simp[Lex.dQ]at h1;rw[h1]at hc;exact hc rfl
theorem DB(l:List UInt8)(at_ n:Nat)(hn:n=Lex.span Lex.hex (l.drop (at_+2)))(hl:at_+2≤l.length):Lex.jr (l.drop at_)=if(Lex.dQ l (at_+2+n) 39=true∧n%2=0)∧n/2≤200 then some (4,pairUp ((l.drop (at_+2)).take n),2+n+1)else none:=by
 unfold Lex.jr;rw[bU,Ia _ _ (aa _),←hn,Lex.fT];by_cases h:Lex.dQ l (at_+2+n) 39=true∧n%2=0
 ·rw[if_pos h];have hlt:at_+2+n<l.length:=by have:=h.1;unfold Lex.dQ at this;rw[aI]at this;exact(ay.1 this).1
  have hlen:(pairUp ((l.drop (at_+2)).take n)).length=n/2:=qQ _ _ (by rw[aP,aJ];omega);simp only[hlen];by_cases h2:n/2≤200
  ·rw[if_pos h2,if_pos ⟨h,h2⟩];simp only[aJ];rw[show l.length-at_-(l.length-(at_+2)-(n+1))=2+n+1 by omega]
  ·rw[if_neg h2,if_neg (fun h=>h2 h.2)]
 ·rw[if_neg h,if_neg (fun h'=>h h'.1)]
theorem Jt:∀(x y:Fin 16),bits .or .u8 ((x.val:Int)*16) (y.val:Int)=((x.val*16+y.val:Nat):Int):=by decide +kernel
theorem or4(x y:Nat)(hx:x<16)(hy:y<16):bits .or .u8 ((x:Int)*16) (y:Int)=((x*16+y:Nat):Int):=Jt ⟨x,hx⟩ ⟨y,hy⟩
theorem jj{c:UInt8}(h:Lex.hex c=true):Lex.ef c<16:=by
 unfold Lex.ef;unfold Lex.hex at h;cases hd:Lex.digit c with
 |true=>
  rw[if_pos rfl];simp[Lex.digit]at hd;omega
 |false=>
  rw[hd,cz,aI]at h;rw[if_neg (by simp)];omega
theorem GK{a b:UInt8}(ha:Lex.hex a=true)(hb:Lex.hex b=true):(Lex.pair a b).toNat=Lex.ef a*16+Lex.ef b:=by
 have h1:=jj ha;have h2:=jj hb;unfold Lex.pair;rw[UInt8.toNat_ofNat_of_lt' (by show _<256;omega)]
theorem JS{α:Type}(a:List α)(k m:Nat)(z u:α)(ha:a.length=k)(hk:k<m):(a++List.replicate (m-k) z).set k u=(a++[u])++List.replicate (m-(k+1)) z:=by
 subst ha;rw[List.set_append_right _ _ (aa _),Nat.sub_self,show m-a.length=(m-(a.length+1))+1 by omega,List.replicate_succ,List.set_cons_zero];simp
def PR(w:World)(r:List UInt8)(m k gs:Nat)(wr:World):Prop:=
 k≤m∧wr.ownsRow (w.heap.size+1) 5 1 (.slice (some ⟨gs,0,none⟩) m m) m ((pairUp (r.take (2*k))).map B8++List.replicate (m-k) (.int .u8 0))∧Below w.heap.size w wr∧NA wr w.heap.size 113 rA∧w.heap.size+1≤wr.heap.size
theorem yT(text:ByteArray)(at_:Nat)(w:World)(hm:text.size≤1099511627776)(hat:at_+1<text.size):
 Calls Tryz.prog 118 #[.string text,.int .i64 (at_:Int)] w (TP w at_ (Lex.jr (text.data.toList.drop at_))):=by
 have HL:=cN (eI text);obtain⟨i0,hi0,hz0,hz1,hz2⟩:=info_parts Kz;obtain⟨o,ho⟩:∃o,o=Lex.jr (text.data.toList.drop at_):=⟨_,rfl⟩;rw[←ho];obtain⟨n,hn⟩:∃n,n=Lex.span Lex.hex (text.data.toList.drop (at_+2)):=⟨_,rfl⟩;have hnl:=Lex.gU Lex.hex (text.data.toList.drop (at_+2));rw[←hn,aJ,HL.o]at hnl;have HO:=cN (ho.trans (DB text.data.toList at_ n hn (by rw[HL.o];omega)));have HN:=cN hn;have HH:Hid (∀j,j<n→∃c,(text.data.toList.drop (at_+2))[j]?=some c∧Lex.hex c=true):=fun j hj=>Lex.sw Lex.hex _ j (by rw[←hn];exact hj)
 obtain⟨e1,he1⟩:∃x,x=at_+2+n:=⟨_,rfl⟩;have Rq:e1≤text.size:=by omega
 rw[←he1]at HO;have S7:=cN he1;have hcast:(at_:Int)+2=((at_+2:Nat):Int):=by omega
 have Xx:=cN hcast;obtain⟨b1,hb1⟩:∃b,b=Lex.dQ text.data.toList e1 39:=⟨_,rfl⟩;rw[←hb1]at HO;have H1:=cN hb1;clear ho hn hb1 hcast;go_enter Tryz.func118,Tryz.ntmps118;go_wp2_with fail
 rw[Xx.o];with_reducible refine(jk text (at_+2) 193 Lex.hex _ (by omega) Im IT (by omega)).mono ?_
 rintro e w' ⟨rfl,rfl⟩;rw[←HN.o,←he1];have HSub:Hid ((e1:Int)-((at_:Int)+2)=(n:Int)):=by show _=_;omega
 clear he1;go_wp2_with fail
 with_reducible refine(lE text _ e1 39 _ _ rfl b39).mono ?_
 rintro e w' ⟨rfl,rfl⟩;rw[←H1.o];cases b1 with
 |false=>
  have HF:Hid (o=none):=HO.o.trans (if_neg (by simp));go_wp2_with fail
  exact ae (v:=.tuple #[.agg #[.int .u8 0,.string ⟨#[]⟩,.int .i64 0],.int .i64 0,.bool false]) (by simp[results,Tryz.results118,go_sem]) rfl (TP.no HF.o ((ax _ _).alloc (aa _) _))
 |true=>
  have hsub:=HSub.o;rcases Nat.mod_two_eq_zero_or_one n with h2|h2
  ·obtain⟨m,rfl⟩:∃m,n=2*m:=⟨n/2,by omega⟩;have t1:(((2*m:Nat):Int)%2==1)=false:=by simp
   have t1b:((2*(m:Int))%2==1)=false:=by simp
   by_cases Q9:m≤200
   ·have HT:Hid (o=some (4,_,2+2*m+1)):=HO.o.trans (if_pos ⟨⟨rfl,by omega⟩,by omega⟩);have t2:decide ((200:Int)<(m:Int))=false:=by simp;omega
    have hmI:(2*(m:Int))/2=(m:Int):=by omega
    clear h2 HO;obtain⟨r,hr⟩:∃r,r=text.data.toList.drop (at_+2):=⟨_,rfl⟩;rw[←hr]at HT HH;have HRd:=cN hr;clear hr;go_wp2_with (at_make;refine wpList_make_full _ rfl _ _ 101 rfl (w.heap.size+1) 5 i0 _ 1 Tryz.underlying101 hi0 hz0 hz1 .i64 .i64 _ _ m rfl rfl (by omega) (by omega) (by rw[hz2];omega) (by unfold maxLen;omega) (by simp) ?_;intro w2 hown2 hg2;have HB2:Hid (Below w.heap.size w w2):=Below.grown ((ax _ _).alloc (aa _) _) hg2 (by simp) (by simp);have TY:Hid (NA w2 w.heap.size 113 rA):=NA.grown (NA.new w _ _) hg2 (by simp);have OD:Hid (w2.ownsRow (w.heap.size+1) 5 1 (.slice (some ⟨w.heap.size+1,0,none⟩) m m) m (List.replicate m (.int .u8 0))):=(by have:=hown2;rw[bZ,World.size_alloc]at this;exact(toList_madeCells_one (.int .u8 0) m)▸this);have hsz2:w.heap.size+1≤w2.heap.size:=(by have:=hg2.size;simp at this;omega);clear hown2 hg2)
    clear hsub t1 t1b hmI t2;go_loopw [42] (fun i wr=>∃k:Nat,i=.int .i64 (k:Nat)∧PR w r m k (w.heap.size+1) wr) (fun i _=>m-(intOf i).toNat);case atStart=>exact⟨0,rfl,ao _,by simpa[pairUp]using OD.o,HB2.o,TY.o,hsz2⟩
    case round=>
     obtain⟨k,rfl,hk,hown,hbel,hblk,hsz⟩:=hrel;clear OD HB2 TY hsz2;have Rj:=cN hown;have HB:=cN hbel;have HK:=cN hblk;clear hown hbel hblk;by_cases hlt:k<m
     ·obtain⟨ca,VC,hxa⟩:=HH.o (2*k) (by omega);obtain⟨cb,hcb,hxb⟩:=HH.o (2*k+1) (by omega);have HNx:=cN (wL VC hcb);have HP:=cN (GK hxa hxb);have HXa:=cN hxa;have HXb:=cN hxb;have ia:at_+2+2*k<text.size:=by omega
      have ib:at_+2+2*k+1<text.size:=by omega
      have hsa:text[at_+2+2*k]=ca:=by
       obtain⟨c,h1,h2⟩:=j7 ia;rw[HRd.o,bQ,h1]at VC;injection VC with VC
       rw[h2,VC]
      have hsb:text[at_+2+2*k+1]=cb:=by
       obtain⟨c,h1,h2⟩:=j7 ib;rw[HRd.o,bQ,show at_+2+(2*k+1)=at_+2+2*k+1 by omega,h1]at hcb;injection hcb with hcb
       rw[h2,hcb]
      have hlen:(pairUp (r.take (2*k))).length=k:=qQ k _ (by
       have:=(ay.1 VC).1
       rw[aP];omega)
      have HS:=cN (World.ownsRow.stored Rj.o k (B8 (Lex.pair ca cb))).1;have Qk:=cN (JS ((pairUp (r.take (2*k))).map B8) k m (.int .u8 0) (B8 (Lex.pair ca cb)) (by rw[cj];exact hlen) hlt);have hl0:k<((pairUp (r.take (2*k))).map B8++List.replicate (m-k) (Value.int .u8 0)).length:=by rw[ah,cj,hlen,List.length_replicate];omega
      have hc0:wr.cell? ⟨w.heap.size+1,k,none⟩=some (((pairUp (r.take (2*k))).map B8++List.replicate (m-k) (Value.int .u8 0))[k]):=by rw[World.ownsRow.cellAt Rj.o k (by omega)];exact aE hl0
      obtain⟨old,hold⟩:∃x,x=(((pairUp (r.take (2*k))).map B8++List.replicate (m-k) (Value.int .u8 0))[k]):=⟨_,rfl⟩;rw[←hold]at hc0;have hf0:=World.ownsRow.frozenAt Rj.o k;have hwl:=jj hxa;have hwl2:=jj hxb;have HOr:=cN (or4 _ _ hwl hwl2);clear hold VC hcb hxa hxb hlen hl0;have Xu:(k:Int)<(m:Int):=by omega
      go_wp2_with fail
      refine wp_region_still_tail 20 (by kernel_rfl) (by kernel_rfl) ?_;obtain⟨w3,hw3⟩:∃x:World,x={wr with drawn:=wr.drawn+1}:=⟨_,rfl⟩;rw[←hw3];have hq3:w3=wr.drewN 1:=hw3;have d0:w3.cell? ⟨w.heap.size+1,k,none⟩=some old:=by rw[hw3];exact hc0
      have g0:w3.frozen? ⟨w.heap.size+1,k,none⟩=false:=by rw[hw3];exact hf0
      have Qx:=cN (Own.xK (show Own _ _ _ _ _ _ _ from Rj.o) hq3);have HB3:=cN (Below.xK HB.o hq3);have HK3:=cN (HK.o.xK hq3);have hz3:w.heap.size+1≤w3.heap.size:=by rw[hw3];exact hsz
      clear hw3 hq3 hc0 hf0 Rj HB HK HS;have s1:IntKind.i64.wrap (2*(k:Int))=2*(k:Int):=IntWalk.i64_in _ (by omega);have s2:IntKind.i64.wrap ((at_:Int)+2+2*(k:Int))=(at_:Int)+2+2*(k:Int):=IntWalk.i64_in _ (by omega);have s3:IntKind.i64.wrap ((at_:Int)+2+2*(k:Int)+1)=(at_:Int)+2+2*(k:Int)+1:=IntWalk.i64_in _ (by omega);have s4:((at_:Int)+2+2*(k:Int)).toNat=at_+2+2*k:=by omega
      have s5:((at_:Int)+2+2*(k:Int)+1).toNat=at_+2+2*k+1:=by omega
      have s6:(0:Int)≤(at_:Int)+2+2*(k:Int):=by omega
      have s7:(0:Int)≤(at_:Int)+2+2*(k:Int)+1:=by omega
      have s8:(at_:Int)+2+2*(k:Int)<(text.size:Int):=by omega
      have s9:(at_:Int)+2+2*(k:Int)+1<(text.size:Int):=by omega
      simp only[List.take_succ_cons,List.take_zero,List.drop_succ_cons,List.drop_zero];iterate 8 still_step
      still_call ((tn ca _ HXa.o).mono fun _ _ h=>⟨h.1,h.2.symm⟩);have s10:IntKind.u8.wrap (((Lex.ef ca:Nat):Int)*16)=((Lex.ef ca:Nat):Int)*16:=IntWalk.u8_in _ (by omega);have s11:=HOr.o;iterate 8 still_step
      still_call ((tn cb _ HXb.o).mono fun _ _ h=>⟨h.1,h.2.symm⟩);iterate 2 still_step
      refine wpStill_nil ?_;clear s1 s2 s3 s4 s5 s6 s7 s8 s9 s10 s11;go_wp2_with fail
      go_roundw;case rel=>
       have hv:Value.int .u8 (((Lex.ef ca:Nat):Int)*16+((Lex.ef cb:Nat):Int))=B8 (Lex.pair ca cb):=by unfold B8;rw[HP.o];simp
       rw[hv];have h4:=(World.ownsRow.stored (Own.row Qx.o) k (B8 (Lex.pair ca cb))).1;rw[Qk.o]at h4;refine⟨k+1,by go_num,hlt,?_,HB3.o.setCell (show w.heap.size≤w.heap.size+1 by omega) _,HK3.o.far (show w.heap.size≠w.heap.size+1 by omega) _,by simpa using hz3⟩;rw[HNx.o,cw];exact h4
      case measure=>simp[intOf];omega
     ·obtain rfl:k=m:=by omega
      have hown:=Rj.o;rw[Nat.sub_self,List.replicate_zero,bF]at hown;have ec:=(Rb.own hown).nF (P:=Tryz.prog) 101 5 9 k Tryz.underlying101 Tryz.underlying5 Tryz.underlying9;have hblk:=HK.o;have d0:wr.cell? ⟨w.heap.size,0,none⟩=some (.int .u8 0):=hblk.cell 0;have d1:wr.cell? ⟨w.heap.size,1,none⟩=some (.string ⟨#[]⟩):=hblk.cell 1;have d2:wr.cell? ⟨w.heap.size,2,none⟩=some (.int .i64 0):=hblk.cell 2;obtain⟨f0,f1,f2⟩:=hblk.z3 0 1 2;have NK:=hblk.lt;obtain⟨sb,hsb⟩:∃s:ByteArray,s=⟨(pairUp (r.take (2*k))).toArray⟩:=⟨_,rfl⟩;rw[←hsb]at ec;have HSB:=cN hsb;have HE2:Hid (((e1:Int)+1)=((at_+(2+2*k+1):Nat):Int)):=by have:=S7.o;show _=_;omega
      clear hown hblk hsb;go_wp2_with fail
      exact ae (v:=.tuple #[.agg #[.int .u8 4,.string sb,.int .i64 0],.int .i64 ((e1:Int)+1),.bool true]) (by simp[results,Tryz.results118,go_sem,d0,d1,d2]) rfl (TP.yes HT.o rfl HSB.o HE2.o (((HB.o.setCell (aa _) _).setCell (aa _) _).setCell (aa _) _))
   ·have HF:Hid (o=none):=HO.o.trans (if_neg (by rintro⟨_,h⟩;omega));have t2:decide ((200:Int)<(m:Int))=true:=by simp;omega
    have hmI:(2*(m:Int))/2=(m:Int):=by omega
    clear h2 HO;go_wp2_with fail
    exact ae (v:=.tuple #[.agg #[.int .u8 0,.string ⟨#[]⟩,.int .i64 0],.int .i64 0,.bool false]) (by simp[results,Tryz.results118,go_sem]) rfl (TP.no HF.o ((ax _ _).alloc (aa _) _))
  ·obtain⟨m,rfl⟩:∃m,n=2*m+1:=⟨n/2,by omega⟩;have HF:Hid (o=none):=HO.o.trans (if_neg (by rintro⟨⟨_,h⟩,_⟩;omega));have t1:(((2*m+1:Nat):Int)%2==1)=true:=by rw[aV];omega
   have t1b:((2*(m:Int)+1)%2==1)=true:=by rw[aV];omega
   clear h2 HO;go_wp2_with fail
   exact ae (v:=.tuple #[.agg #[.int .u8 0,.string ⟨#[]⟩,.int .i64 0],.int .i64 0,.bool false]) (by simp[results,Tryz.results118,go_sem]) rfl (TP.no HF.o ((ax _ _).alloc (aa _) _))
end
end Go.Proofs.YtnicfobpclehkaaGreatDoor
