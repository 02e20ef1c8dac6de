import Derived.Test.YtnicfobpclehkaaGreatDoorP35
set_option maxHeartbeats 3200000
set_option linter.unusedVariables false
set_option linter.unusedSimpArgs false
namespace Go.Proofs.YtnicfobpclehkaaGreatDoor
open Go.RowKit
section
set_option maxRecDepth 100000
namespace Rp
open I
open Ev (Ex)
section
variable{T:Nat}{α β:Type}
theorem jR{st:St}(h:named st=true){s:Bs}(hs:Lex.bL s=true):ae s st=false:=by
 unfold named at h;unfold ae;cases hr:st.r with
 |nil=>rfl
 |cons t r=>
  rw[hr]at h;simp only[Bool.and_eq_true,decide_eq_true_eq,Bool.not_eq_true']at h;unfold hit;simp only[Bool.and_eq_false_imp,decide_eq_false_iff_not];intro _ q;rw[q,hs]at h;exact absurd h.2 (by decide)
theorem iV{st:St}(h:named st=false):name T st=([],fail T 300 st):=by
 unfold name;cases hr:st.r with
 |nil=>rfl
 |cons t r=>
  simp only;rw[if_neg (by rw[h];decide)]
theorem mG{st:St}(h:named st=true):aX T st=([],st):=by
 unfold aX cU;rw[jR h (by decide),jR h (by decide),jR h (by decide),jR h (by decide),jR h (by decide)];rfl
def MN(T:Nat)(w:Bs)(st:St):(Bs×Bs)×St:=
 (((name T st).1,(name T (expect T [w] (name T st).2)).1),(name T (expect T [w] (name T st).2)).2)
theorem sf(w:Bs):KA (MN T w):=fun st=>(bp T st).trans ((aM T _ _).trans (bp T _))
theorem Fe(w:Bs):bJ T (MN T w):=by
 intro st hr;have hn:=bq T 300 st;unfold MN;simp only;rw[fc st hr,cK hn (by simp),fc _ (by rw[bq]),cf _ _ _ (by decide),cf _ _ _ (by decide)]
theorem qI{st:St}(hi:Inv st):
 ((aX T st).1=[]→(aX T st).2=st∧(I.aX T st).2=fail T 300 st)∧((aX T st).1≠[]→(aX T st).2=(I.aX T st).2∧((I.aX T st).2.e=0→(aX T st).1=(I.aX T st).1)):=by
 unfold aX I.aX;by_cases ha:ae [97,108,108] st=true
 ·rw[if_pos ha,if_pos ha];exact⟨fun q=>absurd q (by simp),fun _=>⟨rfl,fun _=>rfl⟩⟩
 rw[if_neg ha,if_neg ha];obtain⟨x,s,e⟩:∃x s,cU st=(x,s):=⟨_,_,rfl⟩;have hw:=lU (T:=T) st hi;rw[e];simp only;by_cases hx:x=0
 ·rw[if_pos hx];refine⟨fun _=>?_,fun q=>absurd rfl q⟩;have hs:s=st:=by
   unfold cU at e;repeat' split at e
   all_goals
    injection e with e1 e2
    first
    |exact e2.symm
    |exact absurd (e1.trans hx) (by decide)
  have h2:(I.cU T st).2=fail T 300 st:=by rw[←hw.1];unfold iA;rw[e];simp only;rw[if_pos hx,hs]
  refine⟨hs,?_⟩;unfold I.list;rw[h2];have hn:=bq T 300 st;unfold I.more;rw[if_neg (by rw[bI hn];decide)]
 ·rw[if_neg hx];have h1:iA T st=(x,s):=by unfold iA;rw[e];simp only;rw[if_neg hx]
  rw[h1]at hw;simp only at hw;have hm:=sB (T:=T) (most:=16) lU (oP T) Bm (s.r.length+1) [x] [(I.cU T st).1] s (by rw[hw.1];exact hi.aF (oP T st)) (by omega) (fun q=>by rw[hw.2 (by rw[←hw.1];exact q)]) rfl (by simp);refine⟨fun q=>?_,fun _=>?_⟩
  ·exfalso;have hl:∀(n:Nat) (l:List UInt8) (s:St),l≠[]→(dB T 16 (iA T) n l s).1≠[]:=by
    intro n;induction n with
    |zero=>exact fun l s h=>h
    |succ n ih=>
     intro l s h;unfold dB;split
     ·exact ih _ _ (by simp)
     ·exact h
   exact hl _ _ _ (by simp) q
  ·unfold I.list;rw[←hw.1];exact hm
theorem nM(role cU:UInt8)(w:Bs)(st:St):I.share T role cU w st=(if named st=true then({Km.of role with nm:=(MN T w st).1.1,on:=(MN T w st).1.2},(MN T w st).2)
 else({Km.of cU with pv:=(I.aX T st).1,nm:=(MN T w (expect T [[111,110]] (I.aX T st).2)).1.1,on:=(MN T w (expect T [[111,110]] (I.aX T st).2)).1.2},(MN T w (expect T [[111,110]] (I.aX T st).2)).2)):=by
 unfold I.share;by_cases h:named st=true
 ·rw[if_pos h,if_pos h];rfl
 ·rw[if_neg h,if_neg h];rfl
theorem ie(gives:Bool)(st:St):dk T gives st=(if(aX T st).1=[]then({Km.of (if gives=true then 10 else 11)with nm:=(MN T (if gives=true then [116,111]else [102,114,111,109]) (aX T st).2).1.1,on:=(MN T (if gives=true then [116,111]else [102,114,111,109]) (aX T st).2).1.2},(MN T (if gives=true then [116,111]else [102,114,111,109]) (aX T st).2).2)
 else if gives=true then(if ae [119,105,116,104] (MN T (if gives=true then [116,111]else [102,114,111,109]) (expect T [[111,110]] (aX T st).2)).2=true
  then({Km.of 12 with pv:=(aX T st).1,nm:=(MN T (if gives=true then [116,111]else [102,114,111,109]) (expect T [[111,110]] (aX T st).2)).1.1,on:=(MN T (if gives=true then [116,111]else [102,114,111,109]) (expect T [[111,110]] (aX T st).2)).1.2,opt:=true},expect T [[103,114,97,110,116],[111,112,116,105,111,110]] (next (MN T (if gives=true then [116,111]else [102,114,111,109]) (expect T [[111,110]] (aX T st).2)).2))
  else({Km.of 12 with pv:=(aX T st).1,nm:=(MN T (if gives=true then [116,111]else [102,114,111,109]) (expect T [[111,110]] (aX T st).2)).1.1,on:=(MN T (if gives=true then [116,111]else [102,114,111,109]) (expect T [[111,110]] (aX T st).2)).1.2},(MN T (if gives=true then [116,111]else [102,114,111,109]) (expect T [[111,110]] (aX T st).2)).2))
 else({Km.of 13 with pv:=(aX T st).1,nm:=(MN T (if gives=true then [116,111]else [102,114,111,109]) (expect T [[111,110]] (aX T st).2)).1.1,on:=(MN T (if gives=true then [116,111]else [102,114,111,109]) (expect T [[111,110]] (aX T st).2)).1.2},(MN T (if gives=true then [116,111]else [102,114,111,109]) (expect T [[111,110]] (aX T st).2)).2)):=rfl
theorem uD{w:Bs}{st:St}(he:st.e≠0)(hr:st.r=[]):(MN T w st).2=st:=fX (Fe w).eo he hr
theorem xm{w:Bs}{st:St}(hn:named st=false):(MN T w st).2=fail T 300 st:=by
 unfold MN;simp only;rw[iV hn];simp only;have h:=bq T 300 st;rw[cK h (by simp),cf _ _ _ (by decide),fc _ h,cf _ _ _ (by decide)]
theorem xR:Kw (dk T true) (I.dk T):=by
 intro st hi;rw[ie];unfold I.dk;rw[nM];simp only[if_true];cases hn:named st with
 |true=>
  rw[mG hn];simp only[if_true];rw[if_neg (by rintro⟨q,_⟩;exact absurd q (by decide))];exact⟨rfl,fun _=>rfl⟩
 |false=>
  simp only[Bool.false_eq_true,if_false];obtain⟨h1,h2⟩:=qI (T:=T) hi;by_cases hl:(aX T st).1=[]
  ·rw[if_pos hl];obtain⟨k1,k2⟩:=h1 hl;have hf:=bq T 300 st;have hne:=bz (T:=T) (n:=300) (st:=st) (by decide);rw[k1,k2,xm hn];have e1:expect T [[111,110]] (fail T 300 st)=fail T 300 st:=by rw[cK hf (by simp),cf _ _ _ (by decide)]
   have hw:¬ae [119,105,116,104] (fail T 300 st)=true:=by rw[bI hf];decide
   rw[e1,uD hne hf,if_neg (fun q=>hw q.2)];exact⟨rfl,fun q=>absurd q hne⟩
  ·rw[if_neg hl];obtain⟨k1,k2⟩:=h2 hl;rw[k1];have ht:((Km.of 12).k=12):=rfl;by_cases hw:ae [119,105,116,104] (MN T [116,111] (expect T [[111,110]] (I.aX T st).2)).2=true
   ·rw[if_pos hw,if_pos ⟨rfl,hw⟩];refine⟨rfl,fun q=>?_⟩;have:=((aM T [[111,110]] (I.aX T st).2).trans ((sf (T:=T) [116,111] _).trans ((ax _).trans (aM T [[103,114,97,110,116],[111,112,116,105,111,110]] _)))).e q;rw[k2 this]
   ·rw[if_neg hw,if_neg (fun q=>hw q.2)];refine⟨rfl,fun q=>?_⟩;have:=((aM T [[111,110]] (I.aX T st).2).trans (sf (T:=T) [116,111] _)).e q;rw[k2 this]
theorem vg:Kw (dk T false) (I.iG T):=by
 intro st hi;rw[ie];unfold I.iG;rw[nM];simp only[Bool.false_eq_true,if_false];cases hn:named st with
 |true=>
  rw[mG hn];simp
 |false=>
  simp only[Bool.false_eq_true,if_false];obtain⟨h1,h2⟩:=qI (T:=T) hi;by_cases hl:(aX T st).1=[]
  ·rw[if_pos hl];obtain⟨k1,k2⟩:=h1 hl;have hf:=bq T 300 st;have hne:=bz (T:=T) (n:=300) (st:=st) (by decide);rw[k1,k2,xm hn];have e1:expect T [[111,110]] (fail T 300 st)=fail T 300 st:=by rw[cK hf (by simp),cf _ _ _ (by decide)]
   rw[e1,uD hne hf];exact⟨rfl,fun q=>absurd q hne⟩
  ·rw[if_neg hl];obtain⟨k1,k2⟩:=h2 hl;rw[k1];refine⟨rfl,fun q=>?_⟩;have:=((aM T [[111,110]] (I.aX T st).2).trans (sf (T:=T) [102,114,111,109] _)).e q;rw[k2 this]
theorem dv(w:Bs)(f:St→Km×St)(l:List (Bs×(St→Km×St)))(st:St):pick T ((w,f)::l) st=if ae w st=true then f (next st)else pick T l st:=rfl
theorem iF{c:Prop}[Decidable c]{a b a' b':Km×St}(h:c→a.2=a'.2∧(a'.2.e=0→a.1=a'.1))(k:¬c→b.2=b'.2∧(b'.2.e=0→b.1=b'.1)):(if c then a else b).2=(if c then a' else b').2∧((if c then a' else b').2.e=0→(if c then a else b).1=(if c then a' else b').1):=by
 by_cases hc:c
 ·rw[if_pos hc,if_pos hc];exact h hc
 ·rw[if_neg hc,if_neg hc];exact k hc
theorem G9(st:St){q s}(h:query T st=(q,s)):vc T st=({Km.of 17 with q:=[q]},s):=by
 unfold vc;exact bnd (fun q st=>(({Km.of 17 with q:=[q]}:Km),st)) h
theorem By(st:St){q s}(h:I.selection T st=(q,s)):I.query T st=({Km.of 17 with q:=[q]},s):=by
 unfold I.query;exact bnd (fun q st=>(({Km.of 17 with q:=[q]}:Km),st)) h
theorem pA:Kw (aP T) (pick T (js T)):=by
 intro st hi;have hi':=dN hi;unfold aP js;rewrite [dv,dv,dv,dv,dv,dv,dv];refine iF (fun _=>wk _ hi') fun _=>iF (fun _=>CM _ hi') fun _=>iF (fun _=>xR _ hi') fun _=>iF (fun _=>vg _ hi') fun _=>iF (fun _=>uZ _ hi') fun _=>iF (fun _=>wT _ hi') fun _=>iF (fun _=>uL _ hi') fun _=>?_
 rewrite [dv,dv,dv,dv];obtain⟨q,s,eq⟩:=pr (query T st);obtain⟨h1,h2⟩:(query T st).2=(I.selection T (expect T [[115,101,108,101,99,116]] st)).2∧((I.selection T (expect T [[115,101,108,101,99,116]] st)).2.e=0→(query T st).1=(I.selection T (expect T [[115,101,108,101,99,116]] st)).1):=qt (T:=T) st hi;rewrite [G9 st eq];rewrite [eq]at h1 h2;cases h:ae [115,101,108,101,99,116] st with
 |true=>
  rewrite [pq h (by decide),pq h (by decide),pq h (by decide)];rewrite [if_neg (by decide),if_neg (by decide),if_neg (by decide),if_pos rfl];rewrite [jf h]at h1 h2;obtain⟨q',s',eq'⟩:=pr (I.selection T (next st));rewrite [By _ eq'];rewrite [eq']at h1 h2;exact⟨h1,fun k=>by rw[show q=q' from h2 k]⟩
 |false=>
  rewrite [if_neg (by decide:¬(false=true))];refine iF (fun _=>⟨rfl,fun _=>rfl⟩) fun _=>iF (fun _=>⟨rfl,fun _=>rfl⟩) fun _=>iF (fun _=>⟨rfl,fun _=>rfl⟩) fun _=>?_
  rewrite [j7 h,fX kn.eo (bz (by decide)) (bq T 300 st)]at h1;exact⟨h1,fun k=>absurd k (bz (by decide))⟩
theorem JU(s:Bs)(st:St):(acc s st).e=st.e:=by unfold acc;split<;>rfl
def fin(T:Nat)(p:Km×St):Km×St:=(p.1,if(acc [59] p.2).r=[]then acc [59] p.2 else fail T 300 (acc [59] p.2))
theorem J1(l:List Tok):run T l=fin T (aP T ⟨l,0,0,false⟩):=by
 unfold run;obtain⟨s,s1,h⟩:=pr (aP T ⟨l,0,0,false⟩);rewrite [h];rfl
theorem CI(l:List Tok):I.run T l=fin T (pick T (js T) ⟨l,0,0,false⟩):=by
 unfold I.run;obtain⟨s,s1,h⟩:=pr (pick T (js T) ⟨l,0,0,false⟩);rewrite [h];rfl
theorem Hu{p:Km×St}(h:(fin T p).2.e=0):p.2.e=0:=by
 rw[←JU [59] p.2];unfold fin at h;simp only at h;split at h
 ·exact h
 ·exact absurd h (bz (by decide))
theorem run_eq(l:List Tok):(run T l).2=(I.run T l).2∧((I.run T l).2.e=0→(run T l).1=(I.run T l).1):=by
 obtain⟨h1,h2⟩:=pA (T:=T) ⟨l,0,0,false⟩ fun q=>absurd rfl q
 rewrite [J1,CI];refine⟨?_,fun q=>h2 (Hu q)⟩;unfold fin;rw[h1]
end
end Rp
end
section
set_option maxRecDepth 100000
theorem pY(C:RC)(st:I.St)(w:World)(h:RS C st w):
 Calls Tryz.prog 216 #[.p C.g] w (BR C w (Rp.cU st)):=by
 have F0:=aa (Fr.start h.lt h.aJ);clear h;go_enter Tryz.func216,Tryz.ntmps216;go_wp2_with fail
 with_reducible refine(aG ⟨#[115,101,108,101,99,116]⟩ [115,101,108,101,99,116] rfl F0.o).mono ?_
 rintro e w1 ⟨b,hb,rfl,hF⟩;cases b with
 |true=>
  have MF:=aa hb;have F1:Hid (Fr C.g w _ _ (RS C (I.next st)) w1):=hF;clear hF hb;have HS:Hid (Rp.cU st=((1:UInt8),(I.next st))):=by show _=_;simp only[Rp.cU,MF.o,if_true]
  go_wp2_with fail
  go_ret;rw[HS.o];exact F1.o.dc
 |false=>
  have MF:=aa hb;have F1:Hid (Fr C.g w _ _ (RS C st) w1):=hF;clear hF hb;go_wp2_with fail
  with_reducible refine(aG ⟨#[105,110,115,101,114,116]⟩ [105,110,115,101,114,116] rfl F1.o).mono ?_
  rintro e w2 ⟨b,hb,rfl,hF⟩;cases b with
  |true=>
   have Ku:=aa hb;have F2:Hid (Fr C.g w _ _ (RS C (I.next st)) w2):=hF;clear hF hb;have HS:Hid (Rp.cU st=((2:UInt8),(I.next st))):=by show _=_;simp only[Rp.cU,MF.o,Ku.o,if_true,Bool.false_eq_true,if_false]
   go_wp2_with fail
   go_ret;rw[HS.o];exact F2.o.dc
  |false=>
   have Ku:=aa hb;have F2:Hid (Fr C.g w _ _ (RS C st) w2):=hF;clear hF hb;go_wp2_with fail
   with_reducible refine(aG ⟨#[117,112,100,97,116,101]⟩ [117,112,100,97,116,101] rfl F2.o).mono ?_
   rintro e w3 ⟨b,hb,rfl,hF⟩;cases b with
   |true=>
    have Lp:=aa hb;have F3:Hid (Fr C.g w _ _ (RS C (I.next st)) w3):=hF;clear hF hb;have HS:Hid (Rp.cU st=((3:UInt8),(I.next st))):=by show _=_;simp only[Rp.cU,MF.o,Ku.o,Lp.o,if_true,Bool.false_eq_true,if_false]
    go_wp2_with fail
    go_ret;rw[HS.o];exact F3.o.dc
   |false=>
    have Lp:=aa hb;have F3:Hid (Fr C.g w _ _ (RS C st) w3):=hF;clear hF hb;go_wp2_with fail
    with_reducible refine(aG ⟨#[100,101,108,101,116,101]⟩ [100,101,108,101,116,101] rfl F3.o).mono ?_
    rintro e w4 ⟨b,hb,rfl,hF⟩;cases b with
    |true=>
     have M7:=aa hb;have F4:Hid (Fr C.g w _ _ (RS C (I.next st)) w4):=hF;clear hF hb;have HS:Hid (Rp.cU st=((4:UInt8),(I.next st))):=by show _=_;simp only[Rp.cU,MF.o,Ku.o,Lp.o,M7.o,if_true,Bool.false_eq_true,if_false]
     go_wp2_with fail
     go_ret;rw[HS.o];exact F4.o.dc
    |false=>
     have M7:=aa hb;have F4:Hid (Fr C.g w _ _ (RS C st) w4):=hF;clear hF hb;have HS:Hid (Rp.cU st=((0:UInt8),st)):=by show _=_;simp only[Rp.cU,MF.o,Ku.o,Lp.o,M7.o,Bool.false_eq_true,if_false]
     go_wp2_with fail
     go_ret;rw[HS.o];exact F4.o.dc
def I.kindOf(s:I.Bs):UInt8:=if s=[98,111,111,108]then 1 else if s=[105,110,116]then 2 else if s=[100,101,99]then 3 else if s=[116,101,120,116]then 4 else if s=[98,121,116,101,115]then 5 else 0
theorem jL{C:RC}{st:I.St}{w:World}(h:RS C st w):Rp.kind C.text.size st=if(I.dV st).1=1∧I.kindOf (I.dV st).2.1≠0 then(I.kindOf (I.dV st).2.1,I.next st)else(0,I.fail C.text.size 300 st):=by
 cases hr:st.r with
 |nil=>
  have:I.dV st=(0,[],0):=by unfold I.dV;rw[hr]
  rw[this,if_neg (fun q=>absurd q.1 (by decide))];unfold Rp.kind;rw[I.bI hr,I.bI hr,I.bI hr,I.bI hr,I.bI hr];rfl
 |cons t r=>
  have hT:I.dV st=t:=by unfold I.dV;rw[hr]
  have hok:=h.tok hr;have ha:=fun s=>I.nF (st:=st) hr s
  rw[hT];obtain⟨tk,tx,ta⟩:=t;simp only at ha hok⊢;unfold Rp.kind;by_cases h1:tk=1
  ·subst h1;have hy:∀s,tx=s→I.ae s st=true:=fun s e=>by rw[ha,e];simp
   have hn:∀s,¬tx=s→¬I.ae s st=true:=fun s e=>by rw[ha];simp[e]
   by_cases q0:tx=[98,111,111,108]
   ·rw[if_pos (hy _ q0)];subst q0;rw[if_pos ⟨rfl,by decide⟩];rfl
   by_cases q1:tx=[105,110,116]
   ·rw[if_neg (hn _ q0),if_pos (hy _ q1)];subst q1;rw[if_pos ⟨rfl,by decide⟩];rfl
   by_cases q2:tx=[100,101,99]
   ·rw[if_neg (hn _ q0),if_neg (hn _ q1),if_pos (hy _ q2)];subst q2;rw[if_pos ⟨rfl,by decide⟩];rfl
   by_cases q3:tx=[116,101,120,116]
   ·rw[if_neg (hn _ q0),if_neg (hn _ q1),if_neg (hn _ q2),if_pos (hy _ q3)];subst q3;rw[if_pos ⟨rfl,by decide⟩];rfl
   by_cases q4:tx=[98,121,116,101,115]
   ·rw[if_neg (hn _ q0),if_neg (hn _ q1),if_neg (hn _ q2),if_neg (hn _ q3),if_pos (hy _ q4)];subst q4;rw[if_pos ⟨rfl,by decide⟩];rfl
   rw[if_neg (hn _ q0),if_neg (hn _ q1),if_neg (hn _ q2),if_neg (hn _ q3),if_neg (hn _ q4)];rw[if_neg];rintro⟨_,q⟩;apply q;unfold I.kindOf;rw[if_neg q0,if_neg q1,if_neg q2,if_neg q3,if_neg q4]
  ·have hno:∀s∈([[98,111,111,108],[105,110,116],[100,101,99],[116,101,120,116],[98,121,116,101,115]]:List I.Bs),¬I.ae s st=true:=fun s hs=>by
    rw[ha]
    by_cases h5:tk=5
    ·have hw:=hok.2.2.2.2 h5;rw[Bool.and_eq_true,decide_eq_true_eq];rintro⟨_,e⟩;rw[e]at hw;simp only[List.mem_cons,List.not_mem_nil,or_false]at hs;rcases hs with rfl|rfl|rfl|rfl|rfl<;>exact absurd hw (by decide)
    ·simp[h1,h5]
   rw[if_neg (hno [98,111,111,108] (by simp)),if_neg (hno [105,110,116] (by simp)),if_neg (hno [100,101,99] (by simp)),if_neg (hno [116,101,120,116] (by simp)),if_neg (hno [98,121,116,101,115] (by simp)),if_neg (fun q=>h1 q.1)]
theorem zq(C:RC)(st:I.St)(w:World)(h:RS C st w):
 Calls Tryz.prog 214 #[.p C.g] w (BR C w (Rp.kind C.text.size st)):=by
 have F0:=aa (Fr.start h.lt h.aJ);clear h;go_enter Tryz.func214,Tryz.ntmps214;go_wp2_with fail
 with_reducible refine(gZ F0.o).mono ?_
 rintro e w1 ⟨t3,Rl,rfl,(F1:Hid _)⟩;have T3:=aa Rl;clear Rl;obtain⟨tk,tx,ta⟩:=t3;unfold gd;simp only;go_upto_region 2 with fail
 have F2:=aa (F1.o.new 113 #[.u (tk.toNat:Int),.s ⟨tx.toArray⟩,.i (ta:Int)]);obtain⟨w2,hw⟩:=aab (w1.alloc (.cells #[.u (tk.toNat:Int),.s ⟨tx.toArray⟩,.i (ta:Int)] 113));obtain⟨g2,hg⟩:=aab w1.heap.size;rw[←hw,←hg]at F2;rw[←hw,←hg];clear hw hg;have Ks:=F2.o.ab.Y3;simp at Ks;have HC:=aa (jL F2.o.q);rw[T3.o]at HC;simp only at HC;obtain⟨o,ho⟩:=aab (I.kindOf tx);rw[←ho]at HC;have hne:tk=1→st.r≠[]:=fun h1 e=>by
  have h2:=T3.o
  unfold I.dV at h2
  rw[e]at h2
  simp only at h2
  injection h2 with e1 _
  rw[h1]at e1
  exact absurd e1 (by decide)
 have Nf:=aa hne;clear hne;have htx:(⟨tx.toArray⟩:ByteArray).toList=tx:=(Lib.toList_data _).trans (by simp);by_cases h00:tx=[98,111,111,108]
 ·have t0:((⟨tx.toArray⟩:ByteArray).toList==[98,111,111,108])=true:=by rw[htx,h00];decide
  have HO:Hid (o=1):=by show _=_;rw[ho,h00];rfl
  have t0':(tx==[98,111,111,108])=true:=by rw[h00];decide
  clear ho htx h00;by_cases h1:tk=1
  ·have k1:((tk.toNat:Int) !=1)=false:=by rw[h1];decide
   have hne:=Nf.o h1;have Lf:Hid (Rp.kind C.text.size st=(1,I.next st)):=HC.o.trans (if_pos ⟨h1,by rw[HO.o];decide⟩)|>.trans (by rw[HO.o])
   clear h1;obtain⟨pk,hpk,hpz,hpl⟩:=F2.o.q.cell;have hb0:=(F2.o.own _ List.mem_cons_self).1;have hbl:=F2.o.lt;simp only at hb0;have n1:¬C.g=g2:=by omega
   have n2:¬g2=C.g:=by omega
   clear hb0 hbl;go_upto_region 18 with fail
   have F3:=aa (F2.o.fj hne hpk);obtain⟨w3,hw⟩:=aab (w2.setCell ⟨C.g,1,none⟩ (.i ((pk:Int)+1)));rw[←hw]at F3⊢;clear hw hpk hpz hpl n1 n2;go_wp2_with fail
   go_ret;rw[Lf.o];exact F3.o.dc
  ·have k1:((tk.toNat:Int) !=1)=true:=iz (b:=1) h1;have Lf:Hid (Rp.kind C.text.size st=(0,I.fail C.text.size 300 st)):=HC.o.trans (if_neg fun q=>h1 q.1);clear h1;go_wp2_with fail
   with_reducible refine(dh F2.o).mono ?_
   rintro e w3 ⟨s9,(E9:Hid _),rfl,(F3:Hid _)⟩;go_wp2_with fail
   go_ret;rw[Lf.o,E9.o];exact F3.o.dc
 ·have t0:((⟨tx.toArray⟩:ByteArray).toList==[98,111,111,108])=false:=by rw[htx];simpa using h00
  have t0':(tx==[98,111,111,108])=false:=by simpa using h00
  by_cases h10:tx=[105,110,116]
  ·have t1:((⟨tx.toArray⟩:ByteArray).toList==[105,110,116])=true:=by rw[htx,h10];decide
   skip;have HO:Hid (o=2):=by show _=_;rw[ho,h10];rfl
   have t1':(tx==[105,110,116])=true:=by rw[h10];decide
   clear ho htx h00 h10;by_cases h1:tk=1
   ·have k1:((tk.toNat:Int) !=1)=false:=by rw[h1];decide
    have hne:=Nf.o h1;have Lf:Hid (Rp.kind C.text.size st=(2,I.next st)):=HC.o.trans (if_pos ⟨h1,by rw[HO.o];decide⟩)|>.trans (by rw[HO.o])
    clear h1;obtain⟨pk,hpk,hpz,hpl⟩:=F2.o.q.cell;have hb0:=(F2.o.own _ List.mem_cons_self).1;have hbl:=F2.o.lt;simp only at hb0;have n1:¬C.g=g2:=by omega
    have n2:¬g2=C.g:=by omega
    clear hb0 hbl;go_upto_region 18 with fail
    have F3:=aa (F2.o.fj hne hpk);obtain⟨w3,hw⟩:=aab (w2.setCell ⟨C.g,1,none⟩ (.i ((pk:Int)+1)));rw[←hw]at F3⊢;clear hw hpk hpz hpl n1 n2;go_wp2_with fail
    go_ret;rw[Lf.o];exact F3.o.dc
   ·have k1:((tk.toNat:Int) !=1)=true:=iz (b:=1) h1;have Lf:Hid (Rp.kind C.text.size st=(0,I.fail C.text.size 300 st)):=HC.o.trans (if_neg fun q=>h1 q.1);clear h1;go_wp2_with fail
    with_reducible refine(dh F2.o).mono ?_
    rintro e w3 ⟨s9,(E9:Hid _),rfl,(F3:Hid _)⟩;go_wp2_with fail
    go_ret;rw[Lf.o,E9.o];exact F3.o.dc
  ·have t1:((⟨tx.toArray⟩:ByteArray).toList==[105,110,116])=false:=by rw[htx];simpa using h10
   have t1':(tx==[105,110,116])=false:=by simpa using h10
   by_cases h20:tx=[100,101,99]
   ·have t2:((⟨tx.toArray⟩:ByteArray).toList==[100,101,99])=true:=by rw[htx,h20];decide
    skip;skip;have HO:Hid (o=3):=by show _=_;rw[ho,h20];rfl
    have t2':(tx==[100,101,99])=true:=by rw[h20];decide
    clear ho htx h00 h10 h20;by_cases h1:tk=1
    ·have k1:((tk.toNat:Int) !=1)=false:=by rw[h1];decide
     have hne:=Nf.o h1;have Lf:Hid (Rp.kind C.text.size st=(3,I.next st)):=HC.o.trans (if_pos ⟨h1,by rw[HO.o];decide⟩)|>.trans (by rw[HO.o])
     clear h1;obtain⟨pk,hpk,hpz,hpl⟩:=F2.o.q.cell;have hb0:=(F2.o.own _ List.mem_cons_self).1;have hbl:=F2.o.lt;simp only at hb0;have n1:¬C.g=g2:=by omega
     have n2:¬g2=C.g:=by omega
     clear hb0 hbl;go_upto_region 18 with fail
     have F3:=aa (F2.o.fj hne hpk);obtain⟨w3,hw⟩:=aab (w2.setCell ⟨C.g,1,none⟩ (.i ((pk:Int)+1)));rw[←hw]at F3⊢;clear hw hpk hpz hpl n1 n2;go_wp2_with fail
     go_ret;rw[Lf.o];exact F3.o.dc
    ·have k1:((tk.toNat:Int) !=1)=true:=iz (b:=1) h1;have Lf:Hid (Rp.kind C.text.size st=(0,I.fail C.text.size 300 st)):=HC.o.trans (if_neg fun q=>h1 q.1);clear h1;go_wp2_with fail
     with_reducible refine(dh F2.o).mono ?_
     rintro e w3 ⟨s9,(E9:Hid _),rfl,(F3:Hid _)⟩;go_wp2_with fail
     go_ret;rw[Lf.o,E9.o];exact F3.o.dc
   ·have t2:((⟨tx.toArray⟩:ByteArray).toList==[100,101,99])=false:=by rw[htx];simpa using h20
    have t2':(tx==[100,101,99])=false:=by simpa using h20
    by_cases SJ:tx=[116,101,120,116]
    ·have t3:((⟨tx.toArray⟩:ByteArray).toList==[116,101,120,116])=true:=by rw[htx,SJ];decide
     skip;skip;skip;have HO:Hid (o=4):=by show _=_;rw[ho,SJ];rfl
     have t3':(tx==[116,101,120,116])=true:=by rw[SJ];decide
     clear ho htx h00 h10 h20 SJ;by_cases h1:tk=1
     ·have k1:((tk.toNat:Int) !=1)=false:=by rw[h1];decide
      have hne:=Nf.o h1;have Lf:Hid (Rp.kind C.text.size st=(4,I.next st)):=HC.o.trans (if_pos ⟨h1,by rw[HO.o];decide⟩)|>.trans (by rw[HO.o])
      clear h1;obtain⟨pk,hpk,hpz,hpl⟩:=F2.o.q.cell;have hb0:=(F2.o.own _ List.mem_cons_self).1;have hbl:=F2.o.lt;simp only at hb0;have n1:¬C.g=g2:=by omega
      have n2:¬g2=C.g:=by omega
      clear hb0 hbl;go_upto_region 18 with fail
      have F3:=aa (F2.o.fj hne hpk);obtain⟨w3,hw⟩:=aab (w2.setCell ⟨C.g,1,none⟩ (.i ((pk:Int)+1)));rw[←hw]at F3⊢;clear hw hpk hpz hpl n1 n2;go_wp2_with fail
      go_ret;rw[Lf.o];exact F3.o.dc
     ·have k1:((tk.toNat:Int) !=1)=true:=iz (b:=1) h1;have Lf:Hid (Rp.kind C.text.size st=(0,I.fail C.text.size 300 st)):=HC.o.trans (if_neg fun q=>h1 q.1);clear h1;go_wp2_with fail
      with_reducible refine(dh F2.o).mono ?_
      rintro e w3 ⟨s9,(E9:Hid _),rfl,(F3:Hid _)⟩;go_wp2_with fail
      go_ret;rw[Lf.o,E9.o];exact F3.o.dc
    ·have t3:((⟨tx.toArray⟩:ByteArray).toList==[116,101,120,116])=false:=by rw[htx];simpa using SJ
     have t3':(tx==[116,101,120,116])=false:=by simpa using SJ
     by_cases Tp:tx=[98,121,116,101,115]
     ·have t4:((⟨tx.toArray⟩:ByteArray).toList==[98,121,116,101,115])=true:=by rw[htx,Tp];decide
      skip;skip;skip;skip;have HO:Hid (o=5):=by show _=_;rw[ho,Tp];rfl
      have t4':(tx==[98,121,116,101,115])=true:=by rw[Tp];decide
      clear ho htx h00 h10 h20 SJ Tp;by_cases h1:tk=1
      ·have k1:((tk.toNat:Int) !=1)=false:=by rw[h1];decide
       have hne:=Nf.o h1;have Lf:Hid (Rp.kind C.text.size st=(5,I.next st)):=HC.o.trans (if_pos ⟨h1,by rw[HO.o];decide⟩)|>.trans (by rw[HO.o])
       clear h1;obtain⟨pk,hpk,hpz,hpl⟩:=F2.o.q.cell;have hb0:=(F2.o.own _ List.mem_cons_self).1;have hbl:=F2.o.lt;simp only at hb0;have n1:¬C.g=g2:=by omega
       have n2:¬g2=C.g:=by omega
       clear hb0 hbl;go_upto_region 18 with fail
       have F3:=aa (F2.o.fj hne hpk);obtain⟨w3,hw⟩:=aab (w2.setCell ⟨C.g,1,none⟩ (.i ((pk:Int)+1)));rw[←hw]at F3⊢;clear hw hpk hpz hpl n1 n2;go_wp2_with fail
       go_ret;rw[Lf.o];exact F3.o.dc
      ·have k1:((tk.toNat:Int) !=1)=true:=iz (b:=1) h1;have Lf:Hid (Rp.kind C.text.size st=(0,I.fail C.text.size 300 st)):=HC.o.trans (if_neg fun q=>h1 q.1);clear h1;go_wp2_with fail
       with_reducible refine(dh F2.o).mono ?_
       rintro e w3 ⟨s9,(E9:Hid _),rfl,(F3:Hid _)⟩;go_wp2_with fail
       go_ret;rw[Lf.o,E9.o];exact F3.o.dc
     ·have t4:((⟨tx.toArray⟩:ByteArray).toList==[98,121,116,101,115])=false:=by rw[htx];simpa using Tp
      have t4':(tx==[98,121,116,101,115])=false:=by simpa using Tp
      have HO:Hid (o=0):=by show _=_;rw[ho];unfold I.kindOf;rw[if_neg h00,if_neg h10,if_neg h20,if_neg SJ,if_neg Tp]
      clear ho htx h00 h10 h20 SJ Tp;by_cases h1:tk=1
      ·have k1:((tk.toNat:Int) !=1)=false:=by rw[h1];decide
       have Lf:Hid (Rp.kind C.text.size st=(0,I.fail C.text.size 300 st)):=HC.o.trans (if_neg fun q=>q.2 HO.o);clear h1;go_wp2_with fail
       with_reducible refine(dh F2.o).mono ?_
       rintro e w3 ⟨s9,(E9:Hid _),rfl,(F3:Hid _)⟩;go_wp2_with fail
       go_ret;rw[Lf.o,E9.o];exact F3.o.dc
      ·have k1:((tk.toNat:Int) !=1)=true:=iz (b:=1) h1;have Lf:Hid (Rp.kind C.text.size st=(0,I.fail C.text.size 300 st)):=HC.o.trans (if_neg fun q=>h1 q.1);clear h1;go_wp2_with fail
       with_reducible refine(dh F2.o).mono ?_
       rintro e w3 ⟨s9,(E9:Hid _),rfl,(F3:Hid _)⟩;go_wp2_with fail
       go_ret;rw[Lf.o,E9.o];exact F3.o.dc
end
section
set_option maxRecDepth 100000
theorem I.BQ:∀{s:I.Bs},(I.cut s).2=none→(I.cut s).1=s:=by
 intro s;induction s with
 |nil=>exact fun _=>rfl
 |cons c l ih=>
  intro h;unfold I.cut at h⊢;by_cases hc:c=46
  ·rw[if_pos hc]at h;exact absurd h (by simp)
  ·rw[if_neg hc]at h⊢;simp only at h⊢;rw[ih h]
theorem GQ(s:I.Bs):((I.cR (I.bN s).1).2=0∧(I.bN s).2=2→I.fU s=((I.df (I.bN s).1:Int),0))∧(¬((I.cR (I.bN s).1).2=0∧(I.bN s).2=2)→(I.fU s).2≠0):=by
 unfold I.bN I.fU;cases h:(I.cut s).2 with
 |none=>
  simp only[if_true];rw[I.BQ h];refine⟨fun q=>?_,fun q e=>q ⟨e,trivial⟩⟩;exact Prod.ext (sE q.1) q.1
 |some b=>
  simp only;rw[if_neg (by simp)];exact⟨fun q=>absurd q.2 (by decide),fun _=>by decide⟩
def IR(C:RC)(w:World)(r:Int×I.St)(e:Ending)(w':World):Prop:=e=.returned (.i r.1)∧RS C r.2 w'∧Ch C.g w.heap.size w w'
section
variable{C:RC}{w0 w:World}{own:bO}{its:List It}{st:I.St}{Q:World→Prop}
theorem Fr.nV{x:Int}(h:Fr C.g w0 own its (RS C st) w):IR C w0 (x,st) (.returned (.i x)) w:=⟨rfl,h.q,h.ch⟩
theorem Fr.Kd{f:FuncId}{args:Array Value}{r:Int×I.St}(F:Fr C.g w0 own its Q w)(h:Calls Tryz.prog f args w (IR C w r)):Calls Tryz.prog f args w fun e w'=>∃x s,r=(x,s)∧e=.returned (.i x)∧Fr C.g w0 own its (RS C s) w':=
 h.mono fun _ _ ⟨h1,h2,h3⟩=>⟨r.1,r.2,rfl,h1,F.call h2.aJ h3⟩
end
theorem wL(C:RC)(st:I.St)(w:World)(h:RS C st w):
 Calls Tryz.prog 156 #[.p C.g] w (IR C w (Rp.bA C.text.size st)):=by
 have HT:=aa (I.mn st);have HP:=aa h;have F0:=aa (Fr.start h.lt h.aJ);clear h;go_enter Tryz.func156,Tryz.ntmps156;go_wp2_with fail
 with_reducible refine(gZ F0.o).mono ?_
 rintro e w1 ⟨t3,Rl,rfl,(F1:Hid _)⟩;have T3:=aa Rl;clear Rl;obtain⟨tk,tx,ta⟩:=t3;unfold gd;simp only;have hkd:I.au st=tk:=by rw[HT.o.1,T3.o]
 have hsd:I.Mv st=tx:=by rw[HT.o.2,T3.o]
 have O9:=aa hkd;have UJ:=aa hsd;clear hkd hsd;go_upto_region 2 with fail
 have F2:=aa (F1.o.new 113 #[.u (tk.toNat:Int),.s ⟨tx.toArray⟩,.i (ta:Int)]);obtain⟨w2,hw⟩:=aab (w1.alloc (.cells #[.u (tk.toNat:Int),.s ⟨tx.toArray⟩,.i (ta:Int)] 113));obtain⟨g2,hg⟩:=aab w1.heap.size;rw[←hw,←hg]at F2;rw[←hw,←hg];clear hw hg;have Ks:=F2.o.ab.Y3;simp at Ks;by_cases h2:tk=2
 ·have k2:((tk.toNat:Int) !=2)=false:=by rw[h2];decide
  obtain⟨t,r,hr,ht1,htx⟩:∃t r,st.r=t::r∧t.1=2∧t.2.1=tx:=by
   have q1:=O9.o;have q2:=UJ.o;unfold I.au at q1;unfold I.Mv at q2;cases hr:st.r with
   |nil=>rw[hr]at q1;rw[h2]at q1;exact absurd q1 (by decide)
   |cons t r=>
    rw[hr]at q1 q2;exact⟨t,r,rfl,q1.trans h2,q2⟩
  have hok:=HP.o.tok hr;have HN:=aa (htx▸hok.2.2.1 ht1);have HLen:=aa (show tx.length≤4096 from htx▸hok.2.1);have Nf:Hid (st.r≠[]):=by show _≠_;rw[hr];simp
  have Tn:=aa (HP.o.e0 Nf.o);have Xd:Hid (∀x,x=I.place C.text.size st→I.fail C.text.size 271 st=⟨[],271,x,st.d⟩):=fun x hx=>by unfold I.fail;rw[if_pos Tn.o,hx]
  have HC:Hid (Rp.bA C.text.size st=if(I.fU tx).2=0∧(I.fU tx).1≤1000000 then((I.fU tx).1,I.next st)else(0,I.fail C.text.size 271 st)):=by show _=_;unfold Rp.bA;rw[O9.o,UJ.o,if_pos h2]
  have HLm:=aa (GQ tx);clear h2 hr ht1 htx hok;go_wp2_with fail
  with_reducible refine(mQ tx _ HN.o HLen.o).mono ?_
  rintro e w3 ⟨he,hb⟩;have F3:=aa (F2.o.quiet hb);clear hb F2;by_cases h0:(I.cR (I.bN tx).1).2=0
  ·rw[if_pos h0]at he;obtain⟨rfl,hN⟩:=he;obtain⟨kd,hkd⟩:=aab ((I.bN tx).2);obtain⟨N,UH⟩:=aab (I.df (I.bN tx).1);have Ox:=HLm.o;rw[←hkd,←UH]at Ox⊢;rw[←UH]at hN;clear hkd UH;clear Ks;go_upto_region 6 with fail
   have F4:=aa (F3.o.new 48 #[.u (kd.toNat:Int),.i (N:Int),.e]);obtain⟨w4,hw⟩:=aab (w3.alloc (.cells #[.u (kd.toNat:Int),.i (N:Int),.e] 48));obtain⟨g4,hg⟩:=aab w3.heap.size;rw[←hw,←hg]at F4;rw[←hw,←hg];clear hw hg;have cj2:=F4.o.ab.Y3;simp at cj2;by_cases hk:kd=2
   ·have k4:((kd.toNat:Int) !=2)=false:=by rw[hk];decide
    have HL2:=Ox.1 ⟨h0,hk⟩;have HL3:=aa HL2;clear Ox HL2 h0 hk;by_cases hm:N≤1000000
    ·have k5:decide ((1000000:Int)<(N:Int))=false:=decide_eq_false (by omega);have k6:decide (1000000<N)=false:=decide_eq_false (by omega);have Lf:Hid (Rp.bA C.text.size st=((N:Int),I.next st)):=by show _=_;rw[HC.o,HL3.o,if_pos ⟨rfl,by show(N:Int)≤1000000;omega⟩]
     obtain⟨pk,hpk,hpz,hpl⟩:=F4.o.q.cell;have hb0:=(F4.o.own _ List.mem_cons_self).1;have hbl:=F4.o.lt;simp only at hb0;have n1:¬C.g=g4:=by omega
     have n2:¬g4=C.g:=by omega
     clear hb0 hbl hm;go_upto_region 10 with fail
     have F5:=aa (F4.o.fj Nf.o hpk);obtain⟨w5,hw⟩:=aab (w4.setCell ⟨C.g,1,none⟩ (.i ((pk:Int)+1)));rw[←hw]at F5⊢;clear hw hpk hpz hpl n1 n2 cj2;have K0:=F5.o.ab.Y3;simp at K0;go_wp2_with fail
     go_ret;rw[Lf.o];exact F5.o.nV
    ·have k5:decide ((1000000:Int)<(N:Int))=true:=decide_eq_true (by omega);have k6:decide (1000000<N)=true:=decide_eq_true (by omega);have Lf:Hid (Rp.bA C.text.size st=(0,I.fail C.text.size 271 st)):=by show _=_;rw[HC.o,HL3.o,if_neg (fun q=>by have:=q.2;simp only at this;omega)]
     clear hm;go_wp2_with fail
     with_reducible refine(nE F4.o).mono ?_
     rintro e w5 ⟨x7,(X7:Hid _),rfl,(F5:Hid _)⟩;go_wp2_with fail
     with_reducible refine(nG 271 x7 (by decide) (I.fail C.text.size 271 st) F5.o (fun he=>Xd.o x7 (X7.o he)) (fun he=>absurd Tn.o he) 271 rfl).mono ?_
     rintro e w6 ⟨rfl,(F6:Hid _)⟩;go_wp2_with fail
     go_ret;rw[Lf.o];exact F6.o.nV
   ·have k4:((kd.toNat:Int) !=2)=true:=iz (b:=2) hk;have HL2:=Ox.2 (fun q=>hk q.2);have Lf:Hid (Rp.bA C.text.size st=(0,I.fail C.text.size 271 st)):=by show _=_;rw[HC.o,if_neg (fun q=>HL2 q.1)]
    clear Ox HL2 h0 hk;go_wp2_with fail
    with_reducible refine(nE F4.o).mono ?_
    rintro e w5 ⟨x7,(X7:Hid _),rfl,(F5:Hid _)⟩;go_wp2_with fail
    with_reducible refine(nG 271 x7 (by decide) (I.fail C.text.size 271 st) F5.o (fun he=>Xd.o x7 (X7.o he)) (fun he=>absurd Tn.o he) 271 rfl).mono ?_
    rintro e w6 ⟨rfl,(F6:Hid _)⟩;go_wp2_with fail
    go_ret;rw[Lf.o];exact F6.o.nV
  ·rw[if_neg h0]at he;have he':=he;clear he;subst he';have HL2:=HLm.o.2 (fun q=>h0 q.1);have Lf:Hid (Rp.bA C.text.size st=(0,I.fail C.text.size 271 st)):=by show _=_;rw[HC.o,if_neg (fun q=>HL2 q.1)]
   clear HL2 h0 Ks;go_upto_region 6 with fail
   have F4:=aa (F3.o.new 48 #[.b,.o,.e]);obtain⟨w4,hw⟩:=aab (w3.alloc (.cells #[.b,.o,.e] 48));obtain⟨g4,hg⟩:=aab w3.heap.size;rw[←hw,←hg]at F4;rw[←hw,←hg];clear hw hg;have Le:=F4.o.ab.Y3;simp at Le;go_wp2_with fail
   with_reducible refine(nE F4.o).mono ?_
   rintro e w5 ⟨x7,(X7:Hid _),rfl,(F5:Hid _)⟩;go_wp2_with fail
   with_reducible refine(nG 271 x7 (by decide) (I.fail C.text.size 271 st) F5.o (fun he=>Xd.o x7 (X7.o he)) (fun he=>absurd Tn.o he) 271 rfl).mono ?_
   rintro e w6 ⟨rfl,(F6:Hid _)⟩;go_wp2_with fail
   go_ret;rw[Lf.o];exact F6.o.nV
 ·have k2:((tk.toNat:Int) !=2)=true:=iz (b:=2) h2;have Lf:Hid (Rp.bA C.text.size st=(0,I.fail C.text.size 300 st)):=by show _=_;unfold Rp.bA;rw[O9.o,if_neg h2]
  clear h2;go_wp2_with fail
  with_reducible refine(dh F2.o).mono ?_
  rintro e w3 ⟨s9,(E9:Hid _),rfl,(F3:Hid _)⟩;go_wp2_with fail
  go_ret;rw[Lf.o,E9.o];exact F3.o.nV
end
section
set_option maxRecDepth 100000
theorem Rp.EL(T:Nat)(st:I.St)(hi:Rp.Inv st):(Rp.iA T st).2.r.length≤st.r.length:=by
 rw[(Rp.lU (T:=T) st hi).1];exact(I.oP T st).s.length_le
theorem Rp.FQ{T:Nat}{st s:I.St}{x:UInt8}(ha:I.ae [97,108,108] st=false)(h:Rp.cU st=(x,s)):Rp.aX T st=if x=0 then([],s)else Rp.dB T 16 (Rp.iA T) (s.r.length+1) [x] s:=by
 unfold Rp.aX;rw[if_neg (by rw[ha];decide)];exact Rp.bnd (fun x st=>if x=0 then([],st)else Rp.dB T 16 (Rp.iA T) (st.r.length+1) [x] st) h
theorem Rp.Fs{T:Nat}{st s:I.St}{x:UInt8}(h:Rp.cU st=(x,s)):Rp.iA T st=if x=0 then(x,I.fail T 300 s)else(x,s):=by
 unfold Rp.iA;exact Rp.bnd (fun x st=>if x=0 then(x,I.fail T 300 st)else(x,st)) h
theorem oH(C:RC)(st:I.St)(w:World)(h:RS C st w):
 Calls Tryz.prog 150 #[.p C.g] w (VR ik C w (Rp.aX C.text.size st)):=by
 have F0:=aa (Fr.start h.lt h.aJ);clear h;go_enter Tryz.func150,Tryz.ntmps150;go_wp2_with fail
 with_reducible refine(aG ⟨#[97,108,108]⟩ [97,108,108] rfl F0.o).mono ?_
 rintro e w1 ⟨b,hb,rfl,hF⟩;cases b with
 |true=>
  have Ku:=aa hb;have F1:Hid (Fr C.g w _ _ (RS C (I.next st)) w1):=hF;clear hF hb;have HS:Hid (Rp.aX C.text.size st=([1,2,3,4],I.next st)):=by show _=_;unfold Rp.aX;rw[if_pos Ku.o]
  go_wp2_with fail
  go_ret;rw[HS.o];exact(Fr.Io (E:=ik) (css:=[[.u 1],[.u 2],[.u 3],[.u 4]]) (n:=4) (F1.o.new 51 #[.u 1,.u 2,.u 3,.u 4]) rfl rfl (by
   intro i cs x hi hx
   have:i<4:=(List.getElem?_eq_some_iff.1 hi).1
   have hi4:i=0∨i=1∨i=2∨i=3:=by omega
   rcases hi4 with rfl|rfl|rfl|rfl<;>(simp at hi hx;subst hi hx;rfl)) rfl (by decide)).rk
 |false=>
  have Ku:=aa hb;have F1:Hid (Fr C.g w _ _ (RS C st) w1):=hF;clear hF hb;go_wp2_with fail
  with_reducible refine(Fr.BJ F1.o (pY C _ _ F1.o.q)).mono ?_
  rintro e w2 ⟨x2,s2,(X2:Hid _),rfl,(F2:Hid _)⟩;have HC:=aa (Rp.FQ (T:=C.text.size) Ku.o X2.o);by_cases h0:x2=0
  ·have k0:((x2.toNat:Int)==0)=true:=by rw[h0];decide
   have HS:=aa (HC.o.trans (if_pos h0));clear h0;go_wp2_with fail
   go_ret;rw[HS.o];exact F2.o.Az
  ·have k0:((x2.toNat:Int)==0)=false:=beq_eq_false_iff_ne.2 fun e=>h0 (UInt8.toNat_inj.1 (show x2.toNat=0 by omega))
   have HF:=aa (HC.o.trans (if_neg h0));clear h0 HC;obtain⟨lo,hlo⟩:=aab w2.heap.size;have L2:=aa (Fl.start F2.o);rw[←hlo]at L2;have hlo1:lo≤w2.heap.size:=by omega
   clear hlo;obtain⟨w3,hw⟩:=aab (w2.alloc (.cells #[.u (x2.toNat:Int)] 51));have Lb:=aa (Ro.one (E:=ik) (lo:=lo) (cs:=[.u (x2.toNat:Int)]) (x:=x2) (w1:=w2) hw hlo1 rfl);have L3:=aa (L2.o.tmp (.cells #[.u (x2.toNat:Int)] 51));rw[←hw]at L3;obtain⟨v0,hv0⟩:=aab (Value.slice (some ⟨w2.heap.size,0,none⟩) 1 1);rw[←hv0]at Lb;have hln:s2.r.length≤4096:=(F2.o.q).len;clear L2 F2;go_wp2_with fail
   rw[←hw,←hv0];clear hw hv0;go_loopg [3,4] s2.r.length (fun gg u v wr=>∃(f:Nat) (xs:List UInt8) (s0:I.St),gg=s0.r.length∧s0.r.length<f∧xs.length+s0.r.length≤4098∧Hid (Rp.aX C.text.size st=Rp.dB C.text.size 16 (Rp.iA C.text.size) f xs s0)∧Hid (Ro ik wr lo v xs)∧Hid (Fl C.g w lo [] [] (RS C s0) wr));case atStart=>exact⟨_,_,_,rfl,by omega,by simp;omega,HF,Lb,L3⟩
   case round=>
    clear HF Lb L3 hln hlo1 k0;obtain⟨f,xs,s0,rfl,Lu,hxl,HF,HO,HL⟩:=hrel;obtain⟨NX,hw⟩:=aab wr;subst hw;obtain⟨A,c,rfl,hcp1,hcp2⟩:=HO.o.form;have hgl:=HL.o.gl;have Oe:=HL.o.l2;go_wp2_with fail
    with_reducible refine(jH HL.o xs.length 16 (xs.length:Int) 16 rfl rfl).mono ?_
    rintro e Nc ⟨b,Qd,hM,rfl,hL,hc21⟩;have HM:=aa hM;have KM:=aa hL;have KE:=aa (HO.o.ch hc21 hgl);clear hM hL hc21 HL;cases b with
    |false=>
     have HZ:=aa (HF.o.trans (Rp.eP Lu HM.o));have MU:=aa (KM.o.done KE.o);clear KM KE HO HF HM;go_wp2_with fail
     go_ret;rw[HZ.o];exact MU.o.rk
    |true=>
     obtain⟨rfl,hacc⟩:=I.dW HM.o;have hlt:=I.bx hacc;clear hacc HO;have Py:=KM.o.l2;have hls:=Rp.EL C.text.size _ KM.o.q.inv;go_wp2_with fail
     with_reducible refine(pY C _ _ KM.o.q).mono ?_
     rintro e KO ⟨rfl,hp,hc22⟩;have Ob:=hc22.size;have My:=aa (KM.o.call hp.aJ hc22);have LJ:=aa (KE.o.ch hc22 hgl);clear hp hc22 KM KE;obtain⟨KW,Lx,LD⟩:∃x s,Rp.cU (I.next s0)=(x,s):=⟨_,_,(Prod.eta _).symm⟩;rw[LD]at My⊢;simp only at My⊢;have HW:=Rp.Fs (T:=C.text.size) LD;by_cases h0:KW=0
     ·have k0:((KW.toNat:Int)==0)=true:=by rw[h0];decide
      rw[if_pos h0]at HW;clear h0;go_wp2_with fail
      with_reducible refine(pR C _ _ My.o.q).mono ?_
      rintro e NM ⟨rfl,hp,SK⟩;have hs23:=SK.size;have Yk:=aa (My.o.call hp.aJ SK);have UL:=aa (LJ.o.ch SK hgl);clear hp SK;rw[HW]at hls;simp only at hls;have Mm:=aa (HF.o.trans (Rp.dJ Lu HM.o HW));obtain⟨Mi,hw⟩:=aab (NM.alloc (.cells #[.u (KW.toNat:Int)] 51));have UM:=aa (show Kn Mi NM.heap.size 51 #[.u (KW.toNat:Int)] by rw[hw];exact Kn.new NM _ _);have Lt:=aa (show Ro ik Mi lo (.slice A xs.length c) xs by rw[hw];exact UL.o.alloc _);have UN:Hid (ik.R Mi (Pow Mi lo (.slice A xs.length c)) [.u (KW.toNat:Int)] KW):=rfl;have Me:=aa (show Fl C.g w lo [] [] (RS C (I.fail C.text.size 300 Lx)) Mi by rw[hw];exact Yk.o.tmp _);have UO:=Me.o.l2;clear HF HM HW LD;go_wp2_with (at_builtin;rw[←hw];refine dZ nQ rfl (.tmp 24) (.tmp 26) Tryz.underlying28 rfl lo _ xs rfl Lt.o NM.heap.size 1 [.u (KW.toNat:Int)] KW rfl UM.o UN.o (by show(xs.length+1)*1≤140737488355328;omega) (by unfold maxLen;omega) UO ?_;intro v25 Oc Rq UP Rs;have MG:=aa Rq;have NG:=aa (Me.o.low Rs);clear Rq UP Rs)
      go_roundg (I.fail C.text.size 300 Lx).r.length;case measure=>omega
      case rel=>exact⟨f-1,xs++[KW],(I.fail C.text.size 300 Lx),rfl,by omega,by simp;omega,Mm,MG,NG⟩
     ·have k0:((KW.toNat:Int)==0)=false:=beq_eq_false_iff_ne.2 fun e=>h0 (UInt8.toNat_inj.1 (show KW.toNat=0 by omega))
      rw[if_neg h0]at HW;clear h0;rw[HW]at hls;simp only at hls;have Mm:=aa (HF.o.trans (Rp.dJ Lu HM.o HW));obtain⟨Mi,hw⟩:=aab (KO.alloc (.cells #[.u (KW.toNat:Int)] 51));have UM:=aa (show Kn Mi KO.heap.size 51 #[.u (KW.toNat:Int)] by rw[hw];exact Kn.new KO _ _);have Lt:=aa (show Ro ik Mi lo (.slice A xs.length c) xs by rw[hw];exact LJ.o.alloc _);have UN:Hid (ik.R Mi (Pow Mi lo (.slice A xs.length c)) [.u (KW.toNat:Int)] KW):=rfl;have Me:=aa (show Fl C.g w lo [] [] (RS C Lx) Mi by rw[hw];exact My.o.tmp _);have UO:=Me.o.l2;clear HF HM HW LD;go_wp2_with (at_builtin;rw[←hw];refine dZ nQ rfl (.tmp 24) (.tmp 26) Tryz.underlying28 rfl lo _ xs rfl Lt.o KO.heap.size 1 [.u (KW.toNat:Int)] KW rfl UM.o UN.o (by show(xs.length+1)*1≤140737488355328;omega) (by unfold maxLen;omega) UO ?_;intro v25 Oc Rq UP Rs;have MG:=aa Rq;have NG:=aa (Me.o.low Rs);clear Rq UP Rs)
      go_roundg Lx.r.length;case measure=>omega
      case rel=>exact⟨f-1,xs++[KW],Lx,rfl,by omega,by simp;omega,Mm,MG,NG⟩
end
end Go.Proofs.YtnicfobpclehkaaGreatDoor
