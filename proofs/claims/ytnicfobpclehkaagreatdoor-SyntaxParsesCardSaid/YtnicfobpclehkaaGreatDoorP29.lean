import Derived.Deep.DeepCutAuto
import Derived.Laws.ResultCell
import Derived.Test.YtnicfobpclehkaaGreatDoorP28
set_option maxHeartbeats 3200000
set_option linter.unusedVariables false
set_option linter.unusedSimpArgs false
namespace Go.Proofs.YtnicfobpclehkaaGreatDoor
open Go.RowKit
section
namespace I
open Ev (Ex)
section
variable{T:Nat}
theorem cf(n m:Nat)(st:St)(hn:n≠0):fail T m (fail T n st)=fail T n st:=by
 by_cases h0:st.e=0
 ·have e:fail T n st=⟨[],n,place T st,st.d⟩:=by unfold fail;rw[if_pos h0]
  rw[e];unfold fail;rw[if_neg hn]
 ·have e:fail T n st=⟨[],st.e,st.c,st.d⟩:=by unfold fail;rw[if_neg h0]
  rw[e];unfold fail;rw[if_neg h0]
theorem jZ{n:Nat}{st:St}(he:st.e≠0)(hr:st.r=[]):fail T n st=st:=by
 unfold fail;rw[if_neg he];cases st;simp at hr;subst hr;rfl
theorem bI{s:Bs}{st:St}(h:st.r=[]):ae s st=false:=by unfold ae;rw[h]
theorem tn{st:St}(h:st.r=[]):name T st=([],fail T 300 st):=by unfold name;rw[h]
theorem ny:∀{l:List (Bs×UInt8)} {st:St},st.r=[]→one l st=(0,st):=by
 intro l;induction l with
 |nil=>exact fun _=>rfl
 |cons s l ih=>
  intro st h;unfold one;rw[if_neg (by rw[bI h];decide)];exact ih h
theorem wF:∀{l:List Bs} {i:Nat} {st:St},st.r=[]→choose T i l st=(0,fail T 300 st):=by
 intro l;induction l with
 |nil=>exact fun _=>rfl
 |cons s l ih=>
  intro i st h;unfold choose;rw[if_neg (by rw[bI h];decide)];exact ih h
theorem cK{l:List Bs}{st:St}(h:st.r=[])(hl:l≠[]):expect T l st=fail T 300 st:=by
 cases l with
 |nil=>exact absurd rfl hl
 |cons s l=>
  unfold expect;rw[if_neg (by rw[bI h];decide)]
def Eo(T:Nat){α:Type}(f:St→α×St):Prop:=∀st,st.r=[]→(f st).2=st∨(f st).2=fail T 300 st
def bJ(T:Nat){α:Type}(g:St→α×St):Prop:=∀st,st.r=[]→(g st).2=fail T 300 st
theorem bJ.eo{α:Type}{f:St→α×St}(h:bJ T f):Eo T f:=fun st hr=>.inr (h st hr)
theorem Eo.ret{α:Type}(a:St→α):Eo T (fun st=>(a st,st)):=fun _ _=>.inl rfl
theorem Eo.bind{α β:Type}{f:St→α×St}{F:α→St→β×St}(h:Eo T f)(hF:∀a,Eo T (F a)):Eo T (fun st=>F (f st).1 (f st).2):=by
 intro st hr;rcases h st hr with q|q
 ·show(F (f st).1 (f st).2).2=_∨(F (f st).1 (f st).2).2=_;rw[q];exact hF _ st hr
 ·show(F (f st).1 (f st).2).2=_∨(F (f st).1 (f st).2).2=_;rw[q];rcases hF (f st).1 _ (bq T 300 st)with k|k
  ·exact .inr k
  ·rw[k,cf _ _ _ (by decide)];exact .inr rfl
theorem bJ.bind{α β:Type}{f:St→α×St}{F:α→St→β×St}(h:bJ T f)(hF:∀a,Eo T (F a)):bJ T (fun st=>F (f st).1 (f st).2):=by
 intro st hr;show(F (f st).1 (f st).2).2=_;rw[h st hr];rcases hF (f st).1 _ (bq T 300 st)with k|k
 ·exact k
 ·rw[k,cf _ _ _ (by decide)]
theorem Eo.then{α β:Type}{f:St→α×St}{F:α→St→β×St}(h:Eo T f)(hF:∀a,bJ T (F a)):bJ T (fun st=>F (f st).1 (f st).2):=by
 intro st hr;show(F (f st).1 (f st).2).2=_;rcases h st hr with q|q
 ·rw[q];exact hF _ st hr
 ·rw[q,hF _ _ (bq T 300 st),cf _ _ _ (by decide)]
theorem bJ.exp{α:Type}{f:St→α×St}(h:Eo T f){l:List Bs}(hl:l≠[]):bJ T (fun st=>f (expect T l st)):=by
 intro st hr;show(f (expect T l st)).2=_;rw[cK hr hl];rcases h _ (bq T 300 st)with k|k
 ·exact k
 ·rw[k,cf _ _ _ (by decide)]
theorem Eo.acc{α:Type}{s:Bs}{f g:St→α×St}(hg:Eo T g):Eo T (fun st=>if ae s st=true then f st else g st):=by
 intro st hr;show(if ae s st=true then f st else g st).2=_∨(if ae s st=true then f st else g st).2=_;rw[if_neg (by rw[bI hr];decide)];exact hg st hr
theorem bJ.acc{α:Type}{s:Bs}{f g:St→α×St}(hg:bJ T g):bJ T (fun st=>if ae s st=true then f st else g st):=by
 intro st hr;show(if ae s st=true then f st else g st).2=_;rw[if_neg (by rw[bI hr];decide)];exact hg st hr
theorem bJ.fst{α β:Type}{f:St→α×St}(h:bJ T f)(F:St→β):bJ T (fun st=>(F st,(f st).2)):=fun st hr=>h st hr
theorem Eo.fst{α β:Type}{f:St→α×St}(h:Eo T f)(F:St→β):Eo T (fun st=>(F st,(f st).2)):=fun st hr=>h st hr
theorem fc:bJ T (name T):=fun st hr=>by rw[tn hr]
theorem jd(i:Nat)(l:List Bs):bJ T (choose T i l):=fun st hr=>by rw[wF hr]
theorem kB{α:Type}{part:St→α×St}(h:Eo T part):bJ T (inside T part):=by
 intro st hr;unfold inside;simp only;rw[cK (T:=T) hr (by simp)];have hn:=bq T 300 st;have:(part (fail T 300 st)).2=fail T 300 st:=by
  rcases h _ hn with k|k
  ·exact k
  ·rw[k,cf _ _ _ (by decide)]
 rw[this,cK hn (by simp),cf _ _ _ (by decide)]
theorem jN{α:Type}{most:Nat}{one:St→α×St}(h:bJ T one):bJ T (list T most one):=by
 intro st hr;unfold list;rw[h st hr];have hn:=bq T 300 st;rw[hn];unfold more;rw[if_neg (by rw[bI hn];decide)]
def x0:Ex:=.mk ⟨2,⟨0,0,aQ⟩,bs [],aQ,0⟩ []
def jC(T:Nat)(f:St→Ex×St):Prop:=∀st,st.r=[]→f st=(x0,fail T 300 st)
theorem jC.e{f:St→Ex×St}(h:jC T f):bJ T f:=fun st hr=>by rw[h st hr]
theorem ur:jC T (cm T):=by
 intro st hr;unfold cm;rw[tn hr];simp only;rw[if_neg (by rw[bI (bq T 300 st)];decide)];rfl
theorem rz(X:St→Ex×St):jC T (aD T X):=by
 intro st hr;unfold aD;have hk:au st=0:=by unfold au;rw[hr]
 rw[hk,if_neg (by decide),if_neg (by rintro⟨q,_⟩;exact absurd q (by decide)),if_neg (by rw[bI hr];decide),if_neg (by rw[bI hr];decide),if_neg (by rw[bI hr];decide),if_neg (by rw[bI hr];decide),ny hr,if_pos rfl];exact ur st hr
theorem oq{s:Bs}{o:UInt8}{Y:St→Ex×St}(h:jC T Y):∀n,jC T (again s o Y n):=by
 intro n;cases n with
 |zero=>exact h
 |succ n=>
  intro st hr;unfold again;rw[if_neg (by rw[bI hr];decide)];exact h st hr
theorem ja{kid:St→Ex×St}(h:jC T kid)(l:List (Bs×UInt8)):jC T (chain kid l):=by
 intro st hr;unfold chain;rw[h st hr];have hn:=bq T 300 st;unfold ba;rw[ny hn,if_pos rfl]
theorem vf(X:St→Ex×St):jC T (unary T X):=fun st hr=>oq (rz X) _ st hr
theorem zD(X:St→Ex×St):jC T (prod T X):=ja (vf X) _
theorem B7(X:St→Ex×St):jC T (sum T X):=ja (zD X) _
theorem AI(X:St→Ex×St):jC T (cmp T X):=by
 intro st hr;unfold cmp;rw[B7 X st hr];have hn:=bq T 300 st;unfold fv;rw[ny hn,if_pos rfl,if_neg (by rw[bI hn];decide)]
theorem Av(X:St→Ex×St):jC T (dz T X):=fun st hr=>oq (AI X) _ st hr
theorem AR(X:St→Ex×St):jC T (gz T X):=ja (Av X) _
theorem AB(X:St→Ex×St):jC T (PK T X):=ja (AR X) _
theorem Fa:jC T (or T):=by
 intro st hr;unfold or;rw[Lw];exact AB _ st hr
theorem Aq:jC T (expr T):=by
 intro st hr;unfold expr;rw[Fa st hr];simp only;rw[if_neg (by unfold x0;rw[depth];simp[bj])]
theorem ez:bJ T (expr T):=Aq.e
theorem rV:bJ T (row T):=kB (jN ez).eo
theorem uj:bJ T (item T):=
 bJ.bind (F:=fun e st=>if ae [97,115] st=true then((⟨e,(name T (next st)).1⟩:LL),(name T (next st)).2)else(⟨e,[]⟩,st)) ez fun _=>Eo.acc (Eo.ret _)
theorem zQ:bJ T (order T):=
 bJ.bind (F:=fun e st=>if ae [97,115,99] st=true then((⟨e,false⟩:Ord),next st)else if ae [100,101,115,99] st=true then(⟨e,true⟩,next st)else(⟨e,false⟩,st)) ez fun _=>Eo.acc (Eo.acc (Eo.ret _))
theorem kK:bJ T (source T):=
 bJ.bind (F:=fun n st=>if ae [97,115] st=true then((⟨n,(name T (next st)).1,[]⟩:Src),(name T (next st)).2)else(⟨n,[],[]⟩,st)) fc fun _=>Eo.acc (Eo.ret _)
theorem tr:bJ T (du T):=
 bJ.bind (F:=fun n st=>((⟨n,(expr T (expect T [[61]] st)).1⟩:La),(expr T (expect T [[61]] st)).2)) fc fun _=>(Eo.fst (f:=fun st=>expr T (expect T [[61]] st)) (bJ.exp ez.eo (by simp)).eo _)
theorem Bm:bJ T (cU T):=
 bJ.bind (f:=choose T 0 [[115,101,108,101,99,116],[105,110,115,101,114,116],[117,112,100,97,116,101],[100,101,108,101,116,101]]) (F:=fun i st=>(UInt8.ofNat (i+1),st)) (jd 0 _) fun _=>Eo.ret _
theorem ld:Eo T (aq T):=by
 unfold aq;exact Eo.acc (Eo.ret _)
theorem DQ:bJ T (aC T):=
 bJ.bind (F:=fun n st=>((⟨n,kinds.getD (choose T 0 [[105,110,116],[100,101,99],[98,111,111,108],[116,101,120,116],[98,121,116,101,115]] st).1 0,false,false,false,[],[],0⟩:Ky),(choose T 0 [[105,110,116],[100,101,99],[98,111,111,108],[116,101,120,116],[98,121,116,101,115]] st).2)) fc fun _=>Eo.fst (f:=choose T 0 [[105,110,116],[100,101,99],[98,111,111,108],[116,101,120,116],[98,121,116,101,115]]) (jd 0 _).eo _
theorem xF(c:Ky):Eo T (bc T c):=Eo.acc (f:=fun st=>({c with pr:=true},expect T [[107,101,121]] (next st))) (Eo.ret _)
theorem xJ(c:Ky):Eo T (bY T c):=Eo.acc (f:=fun st=>({c with nn:=true},expect T [[110,117,108,108]] (next st))) (Eo.ret _)
theorem xK(c:Ky):Eo T (cp c):=Eo.acc (f:=fun st=>({c with un:=true},next st)) (Eo.ret _)
theorem xv(c:Ky):Eo T (cM T c):=Eo.acc (f:=fun st=>({c with ck:=[(inside T (expr T) (next st)).1]},(inside T (expr T) (next st)).2)) (Eo.ret _)
theorem rU(c:Ky):Eo T (dK T c):=Eo.acc (f:=fun st=>({c with rf:=(name T (next st)).1,ac:=(action T (name T (next st)).2).1},(action T (name T (next st)).2).2)) (Eo.ret _)
theorem xE:bJ T (column T):=by
 have h:bJ T fun st=>dK T (cM T (cp (bY T (bc T (aC T st).1 (aC T st).2).1 (bc T (aC T st).1 (aC T st).2).2).1 (bY T (bc T (aC T st).1 (aC T st).2).1 (bc T (aC T st).1 (aC T st).2).2).2).1 (cp (bY T (bc T (aC T st).1 (aC T st).2).1 (bc T (aC T st).1 (aC T st).2).2).1 (bY T (bc T (aC T st).1 (aC T st).2).1 (bc T (aC T st).1 (aC T st).2).2).2).2).1 (cM T (cp (bY T (bc T (aC T st).1 (aC T st).2).1 (bc T (aC T st).1 (aC T st).2).2).1 (bY T (bc T (aC T st).1 (aC T st).2).1 (bc T (aC T st).1 (aC T st).2).2).2).1 (cp (bY T (bc T (aC T st).1 (aC T st).2).1 (bc T (aC T st).1 (aC T st).2).2).1 (bY T (bc T (aC T st).1 (aC T st).2).1 (bc T (aC T st).1 (aC T st).2).2).2).2).2:=
  bJ.bind (f:=fun st=>cM T (cp (bY T (bc T (aC T st).1 (aC T st).2).1 (bc T (aC T st).1 (aC T st).2).2).1 (bY T (bc T (aC T st).1 (aC T st).2).1 (bc T (aC T st).1 (aC T st).2).2).2).1 (cp (bY T (bc T (aC T st).1 (aC T st).2).1 (bc T (aC T st).1 (aC T st).2).2).1 (bY T (bc T (aC T st).1 (aC T st).2).1 (bc T (aC T st).1 (aC T st).2).2).2).2)
   (bJ.bind (f:=fun st=>cp (bY T (bc T (aC T st).1 (aC T st).2).1 (bc T (aC T st).1 (aC T st).2).2).1 (bY T (bc T (aC T st).1 (aC T st).2).1 (bc T (aC T st).1 (aC T st).2).2).2)
    (bJ.bind (f:=fun st=>bY T (bc T (aC T st).1 (aC T st).2).1 (bc T (aC T st).1 (aC T st).2).2)
     (bJ.bind (f:=fun st=>bc T (aC T st).1 (aC T st).2) (bJ.bind DQ xF) xJ) xK) xv) rU
 intro st hr;rw[kR];exact h st hr
end
end I
end
section
namespace Rp
open I
open Ev (Ex)
def Inv(st:St):Prop:=st.e≠0→st.r=[]
theorem Inv.aF{a b:St}(h:Inv a)(k:LS a b):Inv b:=k.i h
def Kw{α:Type}(f g:St→α×St):Prop:=∀st,Inv st→(f st).2=(g st).2∧((g st).2.e=0→(f st).1=(g st).1)
theorem Kw.refl{α:Type}(f:St→α×St):Kw f f:=fun _ _=>⟨rfl,fun _=>rfl⟩
theorem dN{st:St}(h:Inv st):Inv (next st):=h.aF (ax st)
theorem fw{T:Nat}{l:List Bs}{st:St}(h:Inv st):Inv (expect T l st):=h.aF (aM T l st)
section
variable{T:Nat}
theorem fy{α:Type}{f g:St→α×St}(h:Kw f g):Kw (inside T f) (inside T g):=by
 intro st hi;obtain⟨h1,h2⟩:=h (expect T [[40]] st) (fw hi);unfold inside;simp only;rw[h1];exact⟨rfl,fun he=>h2 ((aM T _ _).e he)⟩
theorem wC{f g:St→Ex×St}(h:Kw f g)(hg:KA g)(l:List (Bs×UInt8)):∀(n:Nat) (e e':Ex) (st:St),Inv st→(st.e=0→e=e')→(I.ba f l n e st).2=(I.ba g l n e' st).2∧((I.ba g l n e' st).2.e=0→(I.ba f l n e st).1=(I.ba g l n e' st).1):=by
 intro n;induction n with
 |zero=>exact fun e e' st _ he=>⟨rfl,he⟩
 |succ n ih=>
  intro e e' st hi he;unfold I.ba;by_cases h0:(one l st).1=0
  ·rw[if_pos h0,if_pos h0];exact⟨rfl,he⟩
  ·rw[if_neg h0,if_neg h0];have hi1:Inv (one l st).2:=hi.aF (iw l st);obtain⟨h1,h2⟩:=h (one l st).2 hi1;rw[h1];refine ih _ _ _ (hi1.aF (hg _)) fun q=>?_
   rw[h2 q,he (((iw l st).trans (hg _)).e q)]
theorem jY{f g:St→Ex×St}(h:Kw f g)(hg:KA g)(l:List (Bs×UInt8)):Kw (chain f l) (chain g l):=by
 intro st hi;obtain⟨h1,h2⟩:=h st hi;unfold chain;rw[h1];exact wC h hg l _ _ _ _ (hi.aF (hg st)) h2
theorem qm{s:Bs}{o:UInt8}{f g:St→Ex×St}(h:Kw f g):∀(n:Nat),Kw (again s o f n) (again s o g n):=by
 intro n;induction n with
 |zero=>exact h
 |succ n ih=>
  intro st hi;unfold again;by_cases ha:ae s st=true
  ·rw[if_pos ha,if_pos ha];obtain⟨h1,h2⟩:=ih (next st) (dN hi);simp only;exact⟨h1,fun q=>by rw[h2 q]⟩
  ·rw[if_neg ha,if_neg ha];exact h st hi
theorem gH(n:Nat)(st:St):next (fail T n st)=fail T n st:=by
 unfold next fail
 split<;>rfl
theorem td(st:St)(hk:au st=2∨au st=3∨au st=4):(nv T st).2=(literal T st).2∧((literal T st).2.e=0→lit (nv T st).1=(literal T st).1):=by
 unfold nv literal au at*;cases hr:st.r with
 |nil=>
  rw[hr]at hk;simp at hk
 |cons t r=>
  rw[hr]at hk;simp only at hk⊢;by_cases h3:t.1=3
  ·rw[if_pos h3,if_neg (by rw[h3];decide),if_neg (by rw[h3];decide)];exact⟨rfl,fun _=>rfl⟩
  ·rw[if_neg h3];by_cases h4:t.1=4
   ·rw[if_pos h4,if_pos h4];exact⟨rfl,fun _=>rfl⟩
   ·have h2:t.1=2:=by rcases hk with h|h|h;exact h;exact absurd h h3;exact absurd h h4
    rw[if_neg h4,if_neg h4,if_pos h2];by_cases h0:(cR (bN t.2.1).1).2=0
    ·rw[if_pos h0,if_pos h0];exact⟨rfl,fun _=>rfl⟩
    ·rw[if_neg h0,if_neg h0];refine⟨(gH 271 st).symm,fun q=>absurd q ?_⟩;show(next (fail T 271 st)).e≠0;rw[gH];exact bz (by decide)
theorem kY{st:St}(hk:au st≠1):(cm T st).2=fail T 300 st:=by
 have hn:name T st=([],fail T 300 st):=by
  unfold name named;unfold au at hk;cases hr:st.r with
  |nil=>rfl
  |cons t r=>
   rw[hr]at hk;simp only at hk⊢;rw[if_neg];simp[hk]
 unfold cm;rw[hn];simp only;rw[if_neg (by rw[bI (bq T 300 st)];decide)]
theorem Bq{f g:St→Ex×St}(h:Kw f g)(op:UInt8):Kw (fold T f op) (fold T g op):=by
 unfold fold;refine fy fun st hi=>?_
 show(if _ then _ else _:Ex×St).2=(if _ then _ else _:Ex×St).2∧((if _ then _ else _:Ex×St).2.e=0→(if _ then _ else _:Ex×St).1=(if _ then _ else _:Ex×St).1);split
 ·exact⟨rfl,fun _=>rfl⟩
 ·obtain⟨h1,h2⟩:=h st hi;exact⟨h1,fun q=>by simp only;rw[h2 q]⟩
theorem tQ{f g:St→Ex×St}(h:Kw f g):Kw (aD T f) (I.aD T g):=by
 intro st hi;unfold aD I.aD word;by_cases h0:au st=2∨au st=3∨au st=4
 ·rw[if_pos h0,if_pos h0];exact td st h0
 rw[if_neg h0,if_neg h0];by_cases h1:au st=5∧Mv st=[40]
 ·rw[if_pos h1,if_pos h1];exact fy h st hi
 rw[if_neg h1,if_neg h1];by_cases h2:ae [110,117,108,108] st=true
 ·rw[if_pos h2,if_pos h2];exact⟨rfl,fun _=>rfl⟩
 rw[if_neg h2,if_neg h2];by_cases h3:ae [116,114,117,101] st=true
 ·rw[if_pos h3,if_pos h3];exact⟨rfl,fun _=>rfl⟩
 rw[if_neg h3,if_neg h3];by_cases h4:ae [102,97,108,115,101] st=true
 ·rw[if_pos h4,if_pos h4];exact⟨rfl,fun _=>rfl⟩
 rw[if_neg h4,if_neg h4];by_cases h5:ae [117,115,101,114] st=true
 ·rw[if_pos h5,if_pos h5];exact⟨rfl,fun _=>rfl⟩
 rw[if_neg h5,if_neg h5];by_cases h6:(one dd st).1=0
 ·rw[if_pos h6,if_pos h6];by_cases h7:au st=1
  ·rw[if_pos h7];exact⟨rfl,fun _=>rfl⟩
  ·rw[if_neg h7];refine⟨(kY h7).symm,fun q=>?_⟩;rw[kY h7]at q;exact absurd q (bz (by decide))
 ·rw[if_neg h6,if_neg h6];exact Bq h _ _ (hi.aF (iw dd st))
section
variable{f g:St→Ex×St}
theorem qC(h:Kw f g):Kw (unary T f) (I.unary T g):=fun st hi=>qm (tQ h) _ st hi
theorem sQ(h:Kw f g)(hg:KA g):Kw (prod T f) (I.prod T g):=jY (qC h) (mf hg) _
theorem rD(h:Kw f g)(hg:KA g):Kw (sum T f) (I.sum T g):=jY (sQ h hg) (oz hg) _
theorem Fk(e e':Ex)(st:St)(he:st.e=0→e=e'):(Ng T e st).2=(Ng T e' st).2∧((Ng T e' st).2.e=0→(Ng T e st).1=(Ng T e' st).1):=by
 unfold Ng;split
 ·exact⟨rfl,fun q=>by simp only;rw[he (((ax st).trans (aM T _ _)).e q)]⟩
 ·exact⟨rfl,fun q=>by simp only;rw[he ((aM T _ st).e q)]⟩
theorem AL(h:Kw f g)(hg:KA g)(e e':Ex)(st:St)(hi:Inv st)(he:st.e=0→e=e'):(fv T f e st).2=(I.fv T g e' st).2∧((I.fv T g e' st).2.e=0→(fv T f e st).1=(I.fv T g e' st).1):=by
 unfold fv I.fv;by_cases h0:(one fF st).1=0
 ·rw[if_pos h0,if_pos h0];by_cases h1:ae [105,115] st=true
  ·rw[if_pos h1,if_pos h1];exact Fk e e' (next st) he
  ·rw[if_neg h1,if_neg h1];exact⟨rfl,he⟩
 ·rw[if_neg h0,if_neg h0];obtain⟨h1,h2⟩:=rD (T:=T) h hg (one fF st).2 (hi.aF (iw fF st));simp only;exact⟨h1,fun q=>by rw[h2 q,he (((iw fF st).trans (lA hg _)).e q)]⟩
theorem GJ(h:Kw f g)(hg:KA g):Kw (cmp T f) (I.cmp T g):=by
 intro st hi;obtain⟨h1,h2⟩:=rD (T:=T) h hg st hi;unfold cmp I.cmp;rw[h1];exact AL h hg _ _ _ (hi.aF (lA hg st)) h2
theorem xA(h:Kw f g)(hg:KA g):Kw (dz T f) (I.dz T g):=fun st hi=>qm (GJ h hg) _ st hi
theorem wU(h:Kw f g)(hg:KA g):Kw (gz T f) (I.gz T g):=jY (xA h hg) (r9 hg) _
theorem GO(h:Kw f g)(hg:KA g):Kw (PK T f) (I.PK T g):=jY (wU h hg) (qW hg) _
end
theorem xQ:∀n,Kw (Lw T n) (I.Lw T n):=by
 intro n;induction n with
 |zero=>exact fun st _=>by rw[Lw,I.Lw];exact⟨rfl,fun _=>rfl⟩
 |succ n ih=>
  intro st hi;rw[Lw,I.Lw];exact GO ih (rR T n) st hi
theorem Jl:Kw (or T) (I.or T):=fun st hi=>xQ _ st hi
theorem dL:Kw (expr T) (I.expr T):=by
 intro st hi;obtain⟨h1,h2⟩:=Jl (T:=T) st hi;have he:(I.expr T st).2.e=(I.or T st).2.e:=by unfold I.expr;simp only;split<;>rfl
 have hr:(I.expr T st).2.r=(I.or T st).2.r:=by unfold I.expr;simp only;split<;>rfl
 have hc:(I.expr T st).2.c=(I.or T st).2.c:=by unfold I.expr;simp only;split<;>rfl
 refine⟨?_,fun q=>?_⟩
 ·unfold expr;simp only;rw[h1,←he,←hr,←hc]
 ·rw[he]at q;exact h2 q
theorem tz{n most:Nat}{st:St}(h:ae [44] st=false):eV T n most st=(false,st):=by
 unfold eV;rw[if_neg (by rw[h];decide)]
theorem sB{α:Type}{most:Nat}{f g:St→α×St}(h:Kw f g)(hg:KA g)(hE:bJ T g):∀(n:Nat) (l l':List α) (st:St),Inv st→st.r.length<n→(st.e=0→l=l')→l.length=l'.length→l.length≤most→(dB T most f n l st).2=(I.more T most g n l' st).2∧((I.more T most g n l' st).2.e=0→(dB T most f n l st).1=(I.more T most g n l' st).1):=by
 intro n;induction n with
 |zero=>exact fun l l' st _ hn=>absurd hn (by omega)
 |succ n ih=>
  intro l l' st hi hn he hl hm;unfold dB I.more;cases ha:ae [44] st with
  |false=>
   rw[tz ha];simp only[Bool.false_eq_true,if_false];exact⟨trivial,he⟩
  |true=>
   have hr:=fm ha;have h0:st.e=0:=by
    by_cases h0:st.e=0
    ·exact h0
    ·exact absurd (hi h0) hr
   have hlt:=bx ha;unfold eV;rw[if_pos ha];simp only[if_true];by_cases hq:l'.length=most
   ·rw[if_pos hq];by_cases hz:(next st).r=[]
    ·have hf:bM T l.length most (next st)=next st:=by unfold bM;rw[if_neg];rintro⟨_,q⟩;exact q hz
     rw[hf,if_pos (by rw[decide_eq_true_eq];exact h0)];obtain⟨k1,k2⟩:=h (next st) (dN hi);have hgn:(g (next st)).2=fail T 300 (next st):=hE _ hz;rw[k1,hgn];have hlong:br T (next st)=fail T 300 (next st):=by unfold br;rw[if_pos hz]
     rw[hlong];have hnil:=bq T 300 (next st);have hx:dB T most f n (l++[(f (next st)).1]) (fail T 300 (next st))=(l++[(f (next st)).1],fail T 300 (next st)):=by
      cases n with
      |zero=>rfl
      |succ n=>
       unfold dB;rw[tz (bI hnil)];rfl
     rw[hx];exact⟨rfl,fun q=>absurd q (bz (by decide))⟩
    ·have hf:bM T l.length most (next st)=fail T 3 (next st):=by unfold bM;rw[if_pos ⟨by omega,hz⟩]
     rw[hf,if_neg (by rw[decide_eq_true_eq];exact bz (by decide))];have hlong:br T (next st)=fail T 3 (next st):=by unfold br;rw[if_neg hz]
     rw[hlong];exact⟨rfl,fun q=>absurd q (bz (by decide))⟩
   ·rw[if_neg hq];have hf:bM T l.length most (next st)=next st:=by unfold bM;rw[if_neg];rintro⟨q,_⟩;omega
    rw[hf,if_pos (by rw[decide_eq_true_eq];exact h0)];obtain⟨k1,k2⟩:=h (next st) (dN hi);rw[k1];have hlen:=(hg (next st)).s.length_le;refine ih _ _ _ ((dN hi).aF (hg _)) (by omega) (fun q=>?_) (by simp[hl]) (by simp;omega);rw[k2 q,he h0]
theorem ic{α:Type}{most:Nat}{f g:St→α×St}(h:Kw f g)(hg:KA g)(hE:bJ T g)(hm:1≤most):Kw (list T most f) (I.list T most g):=by
 intro st hi;obtain⟨h1,h2⟩:=h st hi;unfold list I.list;rw[h1];exact sB h hg hE _ _ _ _ (hi.aF (hg st)) (by omega) (fun q=>by rw[h2 q]) rfl hm
end
end Rp
end
section
namespace Rp
open I
open Ev (Ex)
def NF{α:Type}(X:St→α×St):Prop:=∃Y,Kw X Y∧KA Y
theorem NF.aF{α:Type}{X:St→α×St}(h:NF X){st:St}(hi:Inv st):(X st).2.r.length≤st.r.length∧Inv (X st).2:=by
 obtain⟨Y,h1,h2⟩:=h;rw[(h1 st hi).1];exact⟨(h2 st).s.length_le,hi.aF (h2 st)⟩
section
variable{T:Nat}{X:St→Ex×St}
theorem Dx(h:NF X):NF (unary T X):=by obtain⟨Y,h1,h2⟩:=h;exact⟨_,qC h1,mf h2⟩
theorem rN(h:NF X):NF (prod T X):=by obtain⟨Y,h1,h2⟩:=h;exact⟨_,sQ h1 h2,oz h2⟩
theorem I7(h:NF X):NF (sum T X):=by obtain⟨Y,h1,h2⟩:=h;exact⟨_,rD h1 h2,lA h2⟩
theorem IU(h:NF X):NF (dz T X):=by obtain⟨Y,h1,h2⟩:=h;exact⟨_,xA h1 h2,r9 h2⟩
theorem JC(h:NF X):NF (gz T X):=by obtain⟨Y,h1,h2⟩:=h;exact⟨_,wU h1 h2,qW h2⟩
theorem Jo(n:Nat):NF (Lw T n):=⟨_,xQ n,rR T n⟩
theorem rZ:NF (expr T):=⟨_,dL,cd T⟩
end
end Rp
end
def ER{α:Type}(E:El α)(C:RC)(w:World)(r:α×I.St)(e:Ending)(w':World):Prop:=∃cs,e=.returned (.agg cs.toArray)∧E.R w' (In w.heap.size w'.heap.size) cs r.1∧RS C r.2 w'∧Ch C.g w.heap.size w w'
def VR{α:Type}(E:El α)(C:RC)(w:World)(r:List α×I.St)(e:Ending)(w':World):Prop:=∃v,e=.returned v∧Rr E w' (In w.heap.size w'.heap.size) v r.1∧RS C r.2 w'∧Ch C.g w.heap.size w w'
def BR(C:RC)(w:World)(r:UInt8×I.St)(e:Ending)(w':World):Prop:=e=.returned (.u (r.1.toNat:Int))∧RS C r.2 w'∧Ch C.g w.heap.size w w'
def ig(C:RC)(N:FuncId)(args:Array Value)(kid:I.St→Ev.Ex×I.St)(n:Nat):Prop:=∀(st:I.St) (w:World),st.r.length≤n→RS C st w→Calls Tryz.prog N args w (ER Kr C w (kid st))
theorem RS.Cf{C:RC}{st:I.St}{w:World}(h:RS C st w):RS C st w.drew:=h.below ⟨rfl,rfl,rfl,Nat.le_refl _,fun _ _=>rfl⟩
theorem RS.inv{C:RC}{st:I.St}{w:World}(h:RS C st w):Rp.Inv st:=by
 obtain⟨⟨k,_,_,_,h2⟩,_⟩:=h;exact h2
theorem RS.len{C:RC}{st:I.St}{w:World}(h:RS C st w):st.r.length≤4096:=by
 obtain⟨⟨k,_,_,h1,h2⟩,_⟩:=h;have:=C.ok.len;have:=C.small;by_cases he:st.e=0
 ·rw[h1 he,List.length_drop];omega
 ·rw[h2 he];exact Nat.zero_le _
section
variable{C:RC}{w0 w:World}{own:bO}{its:List It}{st:I.St}{Q:World→Prop}
theorem bh(F:Fr C.g w0 own its (RS C st) w):Calls Tryz.prog 69 #[.p C.g] w fun e w'=>∃n s,I.name C.text.size st=(n,s)∧n.length≤4096∧e=.returned (.s (I.bs n))∧Fr C.g w0 own its (RS C s) w':=
 (zW C st w F.q).mono fun _ _ ⟨h1,h2,h3⟩=>⟨_,_,rfl,F.q.rO,h1,F.call h2.aJ h3⟩
theorem vA(F:Fr C.g w0 own its (RS C st) w){n:Nat}{t:TypeId}{cells:Array Value}{ss:List I.Bs}(hc:cells.toList=ss.map fun s=>Value.string (I.bs s))(hn:n=ss.length)(hm:n≤1000):Rr MP (w.alloc (.cells cells t)) (Pg C (w.alloc (.cells cells t))) (.slice (some ⟨w.heap.size,0,none⟩) n n) ss:=
 jK (Kn.new w t cells) hc (Nat.lt_of_lt_of_le F.lt F.ch.size) hn hm
theorem aN(F:Fr C.g w0 own its (RS C st) w){n:Nat}{t:TypeId}{cells:Array Value}(ss:List I.Bs)(hc:cells.toList=ss.map fun s=>Value.string (I.bs s))(hn:n=ss.length)(hm:n≤1000):
 Calls Tryz.prog 68 #[.p C.g,.slice (some ⟨w.heap.size,0,none⟩) n n] (w.alloc (.cells cells t)) fun e w'=>∃s,I.expect C.text.size ss st=s∧e=.returned (.tuple #[])∧Fr C.g w0 own its (RS C s) w':=
 (Cp C _ ss st _ (F.tmp _).q (vA F hc hn hm)).mono fun _ _ ⟨h1,h2,h3⟩=>⟨_,rfl,h1,(F.tmp _).call h2.aJ h3⟩
theorem nE(F:Fr C.g w0 own its (RS C st) w):Calls Tryz.prog 77 #[.p C.g] w fun e w'=>∃x:Nat,(st.e=0→x=I.place C.text.size st)∧e=.returned (.i (x:Int))∧Fr C.g w0 own its (RS C st) w':=
 (ma C st w F.q).mono fun _ _ ⟨⟨x,h1,h2⟩,h3⟩=>⟨x,h2,h1,F.quiet h3⟩
theorem Fr.jw{α:Type}{E:El α}{f:FuncId}{args:Array Value}{r:α×I.St}(F:Fr C.g w0 own its Q w)(h:Calls Tryz.prog f args w (ER E C w r)):Calls Tryz.prog f args w fun e w'=>∃cs x s,r=(x,s)∧e=.returned (.agg cs.toArray)∧Fr C.g w0 own (It.el E cs x::its) (RS C s) w':=
 h.mono fun _ _ ⟨cs,h1,h2,h3,h4⟩=>⟨cs,r.1,r.2,rfl,h1,F.nS (It.el E cs r.1) h3.aJ h4 h2⟩
theorem Fr.pH{α:Type}{E:El α}{f:FuncId}{args:Array Value}{r:List α×I.St}(F:Fr C.g w0 own its Q w)(h:Calls Tryz.prog f args w (VR E C w r)):Calls Tryz.prog f args w fun e w'=>∃v xs s,r=(xs,s)∧e=.returned v∧Fr C.g w0 own (It.rr E v xs::its) (RS C s) w':=
 h.mono fun _ _ ⟨v,h1,h2,h3,h4⟩=>⟨v,r.1,r.2,rfl,h1,F.nS (It.rr E v r.1) h3.aJ h4 h2⟩
theorem Fr.BJ{f:FuncId}{args:Array Value}{r:UInt8×I.St}(F:Fr C.g w0 own its Q w)(h:Calls Tryz.prog f args w (BR C w r)):Calls Tryz.prog f args w fun e w'=>∃x s,r=(x,s)∧e=.returned (.u (x.toNat:Int))∧Fr C.g w0 own its (RS C s) w':=
 h.mono fun _ _ ⟨h1,h2,h3⟩=>⟨r.1,r.2,rfl,h1,F.call h2.aJ h3⟩
theorem Fr.jD{f:FuncId}{args:Array Value}{r:Ev.Ex×I.St}(F:Fr C.g w0 own its Q w)(h:Calls Tryz.prog f args w (ER Kr C w r)):Calls Tryz.prog f args w fun e w'=>∃h A m c x s,r=(x,s)∧e=.returned (.agg #[.u (h.o.toNat:Int),.u (h.v.k.toNat:Int),.i h.v.n,.s h.v.s,.s h.nm,.s h.of,.i h.n,.slice A m c])∧Fr C.g w0 own (It.el Kr (ai h A m c) x::its) (RS C s) w':=
 h.mono fun _ _ ⟨cs,h1,h2,h3,h4⟩=>by
  obtain⟨h,A,m,c,ks,rfl,hk⟩:=aV h2
  exact⟨h,A,m,c,r.1,r.2,rfl,h1,F.nS (It.el Kr (ai h A m c) r.1) h3.aJ h4 h2⟩
theorem Fr.aK{α:Type}{E:El α}{cs:List Value}{x:α}(h:Fr C.g w0 own its (RS C st) w)(hx:E.R w (fq w0.heap.size own w) cs x):ER E C w0 (x,st) (.returned (.agg cs.toArray)) w:=
 ⟨cs,rfl,El.hp hx (fun _ hb=>⟨hb.1,hb.2.1⟩) fun _ _=>rfl,h.q,h.ch⟩
theorem Fr.rk{α:Type}{E:El α}{v:Value}{xs:List α}(h:Fr C.g w0 own (It.rr E v xs::its) (RS C st) w):VR E C w0 (xs,st) (.returned v) w:=
 ⟨v,rfl,(h.Kx:Rr E w _ v xs).hp (fun _ hb=>⟨hb.1,hb.2.1⟩) fun _ _=>rfl,h.q,h.ch⟩
theorem Fr.Az{α:Type}{E:El α}(h:Fr C.g w0 own its (RS C st) w):VR E C w0 ([],st) (.returned .z) w:=
 ⟨_,rfl,Rr.nil _ _ _,h.q,h.ch⟩
theorem Fr.dc{x:UInt8}(h:Fr C.g w0 own its (RS C st) w):BR C w0 (x,st) (.returned (.u (x.toNat:Int))) w:=⟨rfl,h.q,h.ch⟩
theorem ig.f{N:FuncId}{args:Array Value}{kid:I.St→Ev.Ex×I.St}{n:Nat}(hK:ig C N args kid n)(F:Fr C.g w0 own its (RS C st) w)(hn:st.r.length≤n):Calls Tryz.prog N args w fun e w'=>∃h A m c x s,kid st=(x,s)∧e=.returned (.agg #[.u (h.o.toNat:Int),.u (h.v.k.toNat:Int),.i h.v.n,.s h.v.s,.s h.nm,.s h.of,.i h.n,.slice A m c])∧Fr C.g w0 own (It.el Kr (ai h A m c) x::its) (RS C s) w':=
 F.jD (hK st w hn F.q)
theorem ig.fd{N:FuncId}{args:Array Value}{kid:I.St→Ev.Ex×I.St}{n:Nat}(hK:ig C N args kid n)(F:Fr C.g w0 own its (RS C st) w)(hn:st.r.length≤n):Calls Tryz.prog N args w.drew fun e w'=>∃h A m c x s,kid st=(x,s)∧e=.returned (.agg #[.u (h.o.toNat:Int),.u (h.v.k.toNat:Int),.i h.v.n,.s h.v.s,.s h.nm,.s h.of,.i h.n,.slice A m c])∧Fr C.g w0 own (It.el Kr (ai h A m c) x::its) (RS C s) w':=
 hK.f (F.drew 1) hn
theorem Fr.fj{x:Int}(F:Fr C.g w0 own its (RS C st) w)(hr:st.r≠[])(hx:w.cell? ⟨C.g,1,.none⟩=some (.i x)):Fr C.g w0 own its (RS C (I.next st)) (w.setCell ⟨C.g,1,.none⟩ (.i (x+1))):=
 F.call (F.q.next hr hx).aJ ((Ch.refl C.g w.heap.size w).set (p:=⟨C.g,1,.none⟩) (.inl rfl) _)
theorem nG(n x:Nat)(hn:n≠0)(st':I.St)(F:Fr C.g w0 own its (RS C st) w)(h0:st.e=0→st'=⟨[],n,x,st.d⟩)(h1:st.e≠0→st'=st)(y:Int)(hy:y=(n:Int)):
 Calls Tryz.prog 76 #[.p C.g,.i y,.i (x:Int)] w fun e w'=>e=.returned (.tuple #[])∧Fr C.g w0 own its (RS C st') w':=
 (mC C n x hn st st' w F.q h0 h1 y hy).mono fun _ _ ⟨h2,h3,h4⟩=>⟨h2,F.call h3.aJ h4⟩
theorem RS.e0{w:World}(h:RS C st w)(hr:st.r≠[]):st.e=0:=by
 by_cases he:st.e=0
 ·exact he
 ·exact absurd (h.inv he) hr
def I9(C:RC)(w:World)(r:Cell.Val×I.St)(e:Ending)(w':World):Prop:=e=.returned (.agg #[.u (r.1.k.toNat:Int),.i r.1.n,.s r.1.s])∧Tt r.1∧RS C r.2 w'∧Ch C.g w.heap.size w w'
theorem Fr.rE{v:Cell.Val}(h:Fr C.g w0 own its (RS C st) w)(hv:Tt v):I9 C w0 (v,st) (.returned (.agg #[.u (v.k.toNat:Int),.i v.n,.s v.s])) w:=⟨rfl,hv,h.q,h.ch⟩
theorem Fr.Du{f:FuncId}{args:Array Value}{r:Cell.Val×I.St}(F:Fr C.g w0 own its Q w)(h:Calls Tryz.prog f args w (I9 C w r)):Calls Tryz.prog f args w fun e w'=>∃v s,r=(v,s)∧Tt v∧e=.returned (.agg #[.u (v.k.toNat:Int),.i v.n,.s v.s])∧Fr C.g w0 own its (RS C s) w':=
 h.mono fun _ _ ⟨h1,h2,h3,h4⟩=>⟨r.1,r.2,rfl,h2,h1,F.call h3.aJ h4⟩
theorem Fr.RV{v:Value}{x:Ev.Ex}(o:UInt8){A:Option Addr}{m c:Nat}(hv:v=.slice A m c)(h:Fr C.g w0 own (It.rr Kr v [x]::its) Q w):XR w (fq w0.heap.size own w) (ai (I.hd o) A m c) (I.un o x):=by
 subst hv;have hr:Rr Kr w (fq w0.heap.size own w) (.slice A m c) [x]:=h.Kx;obtain⟨A',c',e,h1,h2,_⟩:=id hr;injection e with e1 e2 e3
 subst e1 e2 e3;obtain⟨d,hd⟩:=qq hr (by simp);exact⟨_,_,_,_,_,d,rfl,rfl,h1,h2,jx o,hd⟩
end
theorem Fr.bin{C:RC}{w0 w:World}{own:bO}{its:List It}{Q:World→Prop}{b:Nat}{t t':TypeId}{cs0:Array Value}{ca cb:List Value}{x y:Ev.Ex}(o:UInt8)(h:Fr C.g w0 ((b,t,cs0)::own) (It.el Kr cb y::It.el Kr ca x::its) Q w){w':World}(hc:Ch b w.heap.size w w')(hb:Kn w' b t (ai (I.hd o) (some ⟨w.heap.size,0,.none⟩) 2 2).toArray)(hs:w'.heap.size=w.heap.size):
 Fr C.g w0 ((b,t,(ai (I.hd o) (some ⟨w.heap.size,0,.none⟩) 2 2).toArray)::own) (It.el Kr (ai (I.hd o) (some ⟨w.heap.size,0,.none⟩) 2 2) (I.bin o x y)::It.el Kr cb y::It.el Kr ca x::its) Q (w'.alloc (.cells (ca++cb).toArray t')):=by
 have h1:=(h.gu hc hb).new t' (ca++cb).toArray;rw[hs]at h1;have hx:=h1.Nz;have hy:=h1.Kx;have hbl:=h1.ab;have hnd:=h1.nd;rw[List.pairwise_cons]at hnd;have h0:=h1.own _ List.mem_cons_self;have hM:∀k,fq w0.heap.size ((w.heap.size,t',(ca++cb).toArray)::(b,t,(ai (I.hd o) (some ⟨w.heap.size,0,.none⟩) 2 2).toArray)::own) (w'.alloc (.cells (ca++cb).toArray t')) k→fq w0.heap.size ((b,t,(ai (I.hd o) (some ⟨w.heap.size,0,.none⟩) 2 2).toArray)::own) (w'.alloc (.cells (ca++cb).toArray t')) k:=fun k hk=>⟨hk.1,hk.2.1,fun p hp=>hk.2.2 p (List.mem_cons_of_mem _ hp)⟩
 refine⟨h1.lt,h1.ps,h1.ch,fun p hp=>h1.own p (List.mem_cons_of_mem _ hp),hnd.2,fun F hF=>?_⟩;rcases List.mem_cons.1 hF with rfl|hF
 ·exact vT o hbl (by simp) (El.hp (E:=Kr) hx hM fun _ _=>rfl) (El.hp (E:=Kr) hy hM fun _ _=>rfl) ⟨h0.1,hbl.lt,fun p hp=>(hnd.1 p hp).symm⟩
 ·exact F.aR hM (fun _ _=>rfl) (h1.its F hF)
section
set_option maxRecDepth 100000
theorem ID:(Tryz.prog.info? 48).map (·.size)=some 3:=by kernel_rfl
theorem J8:Tryz.prog.underlying 48=some (.struct (Tryz.prog.fieldsOf 48)):=by kernel_rfl
theorem fk{fn:Func}{p u:Tmp}{tmps:Array Value}{w:World}{g:Nat}{k n s v:Value}(h:fn.results=#[.cell p 48,.tmp u])(hk:Kn w g 48 #[k,n,s])(hp:tmps.getD p undef=.p g)(hu:tmps.getD u undef=v):
 (results fn tmps).run Tryz.prog w=.ok (.tuple #[.agg #[k,n,s],v]) w:=by
 obtain⟨r0,r1,r2⟩:=hk.Y3;simp at r0 r1 r2;rw[results_cell_tmp h,hp,hu];simp[go_sem,r0,r1,r2]
def eZ(w:World)(r:Option (Nat×UInt8))(e:Ending)(w':World):Prop:=(match r with
 |some (N,k)=>e=.returned (.tuple #[.agg #[.u (k.toNat:Int),.i (N:Int),.e],.bool true])∧N≤9223372036854775807
 |none=>e=.returned (.tuple #[.agg #[.b,.o,.e],.f]))∧Below w.heap.size w w'
theorem eZ.yes{w w':World}{r:Option (Nat×UInt8)}{N:Nat}{k:UInt8}{e:Ending}(h:r=some (N,k))(he:e=.returned (.tuple #[.agg #[.u (k.toNat:Int),.i (N:Int),.e],.bool true]))(hN:N≤9223372036854775807)(hb:Below w.heap.size w w'):eZ w r e w':=by
 subst h;exact⟨⟨he,hN⟩,hb⟩
theorem eZ.no{w w':World}{r:Option (Nat×UInt8)}{e:Ending}(h:r=none)(he:e=.returned (.tuple #[.agg #[.b,.o,.e],.f]))(hb:Below w.heap.size w w'):eZ w r e w':=by
 subst h;exact⟨he,hb⟩
theorem I.qi(c:UInt8)(l:I.Bs)(N:Nat)(d:Int):I.jk (c::l) N d=if c=46 then I.jk l N 0 else if(9223372036854775807-(c.toNat-48))/10<N then none else I.jk l (N*10+(c.toNat-48)) (if 0≤d then d+1 else d):=rfl
theorem I.FP{k N:Nat}(h:922337203685477580<N):I.pF (k+1) N=none:=by rw[I.pF,if_pos h]
theorem I.Bl{k N:Nat}(h:¬922337203685477580<N):I.pF (k+1) N=I.pF k (N*10):=by rw[I.pF,if_neg h]
def I.rY(N:Nat)(d:Int):Option (Nat×UInt8):=if 0≤d then(I.pF (4-d.toNat) N).map (·,3)else some (N,2)
theorem I.Ah{s:I.Bs}{N:Nat}{d:Int}(h:I.jk s 0 (-1)=some (N,d)):I.lG s=I.rY N d:=by unfold I.lG I.rY;rw[h]
theorem I.pO{s:I.Bs}(h:I.jk s 0 (-1)=none):I.lG s=none:=by unfold I.lG;rw[h]
theorem sY(s:ByteArray)(w:World)(hok:∀c∈s.data.toList,c=46∨Lex.digit c=true)(hs:s.size≤4096):
 Calls Tryz.prog 218 #[.s s] w (eZ w (I.lG s.data.toList)):=by
 have hlen:=aH s;have HL:=aa hlen;have HK:=aa hok;clear hok hlen;go_enter Tryz.func218,Tryz.ntmps218;obtain⟨w1,hw⟩:=aab ((w.alloc (.cells #[.b,.o,.e] 48)).alloc (.cells #[.u 2,.o,.e] 48));go_upto_region 2 with fail
 rw[←hw];have HR1:=aa (show Kn w1 w.heap.size 48 #[.b,.o,.e] by rw[hw];exact(Kn.new w _ _).alloc _);have HV1:=aa (show Kn w1 (w.heap.size+1) 48 #[.u 2,.o,.e] by rw[hw];exact Kn.mD _ _ _ _);have HB1:=aa (show Below w.heap.size w w1 by rw[hw];exact((Below.refl _ _).alloc (Nat.le_refl _) _).alloc (by simp) _);clear hw;obtain⟨gV,Tj⟩:=aab (w.heap.size+1);rw[←Tj]at HV1⊢;have hgl:w.heap.size<gV:=by omega
 clear Tj;obtain⟨l,hl⟩:=aab s.data.toList;have Hl:=aa hl;rw[←hl]at HK HL⊢;clear hl;go_wp2_with fail
 go_loopg [5,6] s.size (fun gg ds ix wr=>∃(i N:Nat) (d:Int) (kd:Nat),i≤s.size∧gg=s.size-i∧ix=.i (i:Int)∧ds=.i d∧ -1≤d∧d≤(i:Int)∧N≤9223372036854775807∧Hid (kd=if 0≤d then 3 else 2)∧Hid (I.jk l 0 (-1)=I.jk (l.drop i) N d)∧Hid (Kn wr gV 48 #[.u (kd:Int),.i (N:Int),.e])∧Hid (Kn wr w.heap.size 48 #[.b,.o,.e])∧Hid (Below w.heap.size w wr));case atStart=>exact⟨0,0,-1,2,by omega,by omega,rfl,rfl,by omega,by omega,by omega,aa rfl,aa rfl,HV1,HR1,HB1⟩
 case round=>
  obtain⟨i,N,d,kd,hil,rfl,rfl,rfl,hd1,hd2,hN,Vz,HQ,HV,HR,HB⟩:=hrel;obtain⟨w2,hw⟩:=aab wr;subst hw;clear HV1 HR1 HB1;have Ks:=HV.o.Y3;simp at Ks;obtain⟨z0,z1⟩:=HV.o.Z2;have hn2:¬gV=w.heap.size:=by omega
  have cj2:=HR.o.Y3;simp at cj2;obtain⟨f0,f1,f2⟩:=HR.o.Z3;by_cases hlt:i<s.size
  ·obtain⟨c,hc,hcs⟩:=bW hlt;have hcl:=c.toNat_lt;have hmem:c∈l:=by rw[Hl.o];exact List.mem_of_getElem? hc
   have HC:=aa (drop_at hc);rw[←Hl.o]at HC;have hdig:=HK.o c hmem;have q1:(i:Int)<(s.size:Int):=by omega
   have t1:decide ((i:Int)<(s.size:Int))=true:=decide_eq_true q1;clear hc hmem;by_cases h46:c=46
   ·have t2:((c.toNat:Int)==46)=true:=by rw[h46];decide
    have HS:Hid (I.jk l 0 (-1)=I.jk (l.drop (i+1)) N 0):=by show _=_;rw[HQ.o,HC.o,I.qi,if_pos h46]
    clear h46 hdig;go_wp2_with fail
    go_roundg (s.size-(i+1));case measure=>omega
    case rel=>exact⟨i+1,N,0,3,by omega,rfl,by go_num,rfl,by omega,by omega,hN,aa rfl,HS,aa (HV.o.put 0 (.u 3)),aa (HR.o.far (p:=⟨gV,0,none⟩) (by show w.heap.size≠gV;omega) _),aa (HB.o.setCell (p:=⟨gV,0,none⟩) (by show w.heap.size≤gV;omega) _)⟩
   ·have hdg:Lex.digit c=true:=by
     rcases hdig with h|h
     ·exact absurd h h46
     ·exact h
    have h48:48≤c.toNat∧c.toNat≤57:=by unfold Lex.digit at hdg;simpa using hdg
    have t2:((c.toNat:Int)==46)=false:=by simp;omega
    obtain⟨x,hx⟩:∃x:Nat,x=c.toNat-48:=⟨_,rfl⟩;have hx9:x≤9:=by omega
    have hcx:c.toNat=x+48:=by omega
    have HS:Hid (I.jk l 0 (-1)=if(9223372036854775807-x)/10<N then none else I.jk (l.drop (i+1)) (N*10+x) (if 0≤d then d+1 else d)):=by show _=_;rw[HQ.o,HC.o,I.qi,if_neg h46,←hx]
    have hsub:IntKind.u8.wrap ((c.toNat:Int)-48)=(x:Int):=by rw[hcx,show((x+48:Nat):Int)-48=(x:Int) by omega];exact IntWalk.u8_in _ (by omega)
    clear h46 hdig hdg h48 hx hcx hcl;obtain⟨d',hd'⟩:∃d':Int,d'=if 0≤d then d+1 else d:=⟨_,rfl⟩
    rw[←hd']at HS;have hd3: -1≤d'∧d'≤(i:Int)+1:=by rw[hd'];split<;>omega
    have Oq:Hid (kd=if 0≤d' then 3 else 2):=by
     show _=_;rw[Vz.o,hd'];by_cases h0:0≤d
     ·rw[if_pos h0,if_pos h0,if_pos (by omega)]
     ·rw[if_neg h0,if_neg h0,if_neg h0]
    by_cases h0:0≤d
    ·have t3:decide (0≤d)=true:=decide_eq_true h0;rw[if_pos h0]at hd';rw[hd']at HS hd3 Oq;clear hd';by_cases hq:(9223372036854775807-x)/10<N
     ·have t4:decide ((9223372036854775807-(x:Int))/10<(N:Int))=true:=decide_eq_true (by omega);have q4:(9223372036854775807-(x:Int))/10<(N:Int):=by omega
      have HE:=aa (HS.o.trans (if_pos hq));clear hq;go_wp2_with fail
      exact bodyPost_ret (fk rfl (fS HR.o .b .o .e) rfl rfl) rfl (eZ.no (by rw[←Hl.o];exact I.pO HE.o) rfl (fM HB.o (Nat.le_refl _) _ _ _))
     ·have t4:decide ((9223372036854775807-(x:Int))/10<(N:Int))=false:=decide_eq_false (by omega);have q4:¬(9223372036854775807-(x:Int))/10<(N:Int):=by omega
      have hm:(N:Int)*10+(x:Int)≤9223372036854775807:=by omega
      have hm2:N*10+x≤9223372036854775807:=by omega
      have HE:=aa (HS.o.trans (if_neg hq));clear hq;go_wp2_with fail
      go_roundg (s.size-(i+1));case measure=>omega
      case rel=>exact⟨i+1,N*10+x,d+1,kd,by omega,rfl,by go_num,by go_num,by omega,by omega,hm2,Oq,HE,aa (by simpa using HV.o.put 1 (.i ((N:Int)*10+(x:Int)))),aa (HR.o.far (p:=⟨gV,1,none⟩) (by show w.heap.size≠gV;omega) _),aa (HB.o.setCell (p:=⟨gV,1,none⟩) (by show w.heap.size≤gV;omega) _)⟩
    ·have t3:decide (0≤d)=false:=decide_eq_false h0;rw[if_neg h0]at hd';rw[hd']at HS hd3 Oq;clear hd';by_cases hq:(9223372036854775807-x)/10<N
     ·have t4:decide ((9223372036854775807-(x:Int))/10<(N:Int))=true:=decide_eq_true (by omega);have q4:(9223372036854775807-(x:Int))/10<(N:Int):=by omega
      have HE:=aa (HS.o.trans (if_pos hq));clear hq;go_wp2_with fail
      exact bodyPost_ret (fk rfl (fS HR.o .b .o .e) rfl rfl) rfl (eZ.no (by rw[←Hl.o];exact I.pO HE.o) rfl (fM HB.o (Nat.le_refl _) _ _ _))
     ·have t4:decide ((9223372036854775807-(x:Int))/10<(N:Int))=false:=decide_eq_false (by omega);have q4:¬(9223372036854775807-(x:Int))/10<(N:Int):=by omega
      have hm:(N:Int)*10+(x:Int)≤9223372036854775807:=by omega
      have hm2:N*10+x≤9223372036854775807:=by omega
      have HE:=aa (HS.o.trans (if_neg hq));clear hq;go_wp2_with fail
      go_roundg (s.size-(i+1));case measure=>omega
      case rel=>exact⟨i+1,N*10+x,d,kd,by omega,rfl,by go_num,rfl,by omega,by omega,hm2,Oq,HE,aa (by simpa using HV.o.put 1 (.i ((N:Int)*10+(x:Int)))),aa (HR.o.far (p:=⟨gV,1,none⟩) (by show w.heap.size≠gV;omega) _),aa (HB.o.setCell (p:=⟨gV,1,none⟩) (by show w.heap.size≤gV;omega) _)⟩
  ·have q2:¬(i:Int)<(s.size:Int):=by omega
   have t1:decide ((i:Int)<(s.size:Int))=false:=decide_eq_false q2;have HE:Hid (I.lG l=I.rY N d):=by show _=_;refine I.Ah ?_;rw[HQ.o,List.drop_of_length_le (by rw[HL.o];omega)];rfl
   clear Ks z0 z1 cj2 f0 f1 f2;go_wp2_with fail
   go_loopg [5] (4-d).toNat (fun gg ds wr=>∃(N:Nat) (d:Int),gg=(4-d).toNat∧ds=.i d∧ -1≤d∧d≤5000∧N≤9223372036854775807∧Hid (kd=if 0≤d then 3 else 2)∧Hid (I.lG l=I.rY N d)∧Hid (Kn wr gV 48 #[.u (kd:Int),.i (N:Int),.e])∧Hid (Kn wr w.heap.size 48 #[.b,.o,.e])∧Hid (Below w.heap.size w wr));case atStart=>exact⟨N,d,rfl,rfl,hd1,by omega,hN,Vz,HE,HV,HR,HB⟩
   case round=>
    clear HQ HE HV HR HB Vz hN hd1 hd2 q2 t1;obtain⟨N,d,rfl,rfl,hd1,hd2,hN,Vz,HE,HV,HR,HB⟩:=hrel;obtain⟨w3,hw⟩:=aab wr;subst hw;have K0:=HV.o.Y3;simp at K0;have z1:=HV.o.frozen 1;have Le:=HR.o.Y3;simp at Le;obtain⟨f0,f1,f2⟩:=HR.o.Z3;by_cases h0:0≤d
    ·have t3:decide (0≤d)=true:=decide_eq_true h0;have RE:Hid (kd=3):=by show _=_;rw[Vz.o,if_pos h0]
     by_cases h4:d<4
     ·have t5:decide (d<4)=true:=decide_eq_true h4;obtain⟨k,hk⟩:∃k:Nat,4-d.toNat=k+1:=⟨3-d.toNat,by omega⟩;by_cases hq:922337203685477580<N
      ·have t6:decide ((922337203685477580:Int)<(N:Int))=true:=decide_eq_true (by omega);have t6':decide (922337203685477580<N)=true:=decide_eq_true hq;have HZ:Hid (I.lG l=none):=by show _=_;rw[HE.o];unfold I.rY;rw[if_pos h0,hk,I.FP hq];rfl
       clear hk;go_wp2_with fail
       exact bodyPost_ret (fk rfl (fS HR.o .b .o .e) rfl rfl) rfl (eZ.no (by rw[←Hl.o];exact HZ.o) rfl (fM HB.o (Nat.le_refl _) _ _ _))
      ·have t6:decide ((922337203685477580:Int)<(N:Int))=false:=decide_eq_false (by omega);have t6':decide (922337203685477580<N)=false:=decide_eq_false hq;have hm:(N:Int)*10≤9223372036854775807:=by omega
       have hm2:N*10≤9223372036854775807:=by omega
       have HZ:Hid (I.lG l=I.rY (N*10) (d+1)):=by show _=_;rw[HE.o];unfold I.rY;rw[if_pos h0,hk,I.Bl hq,if_pos (by omega),show 4-(d+1).toNat=k by omega]
       clear hk hq;go_wp2_with fail
       go_roundg (4-(d+1)).toNat;case measure=>omega
       case rel=>exact⟨N*10,d+1,rfl,by go_num,by omega,by omega,hm2,aa (by rw[RE.o,if_pos (by omega)]),HZ,aa (by simpa using HV.o.put 1 (.i ((N:Int)*10))),aa (HR.o.far (p:=⟨gV,1,none⟩) (by show w.heap.size≠gV;omega) _),aa (HB.o.setCell (p:=⟨gV,1,none⟩) (by show w.heap.size≤gV;omega) _)⟩
     ·have t5:decide (d<4)=false:=decide_eq_false h4;have HZ:Hid (I.lG l=some (N,3)):=by show _=_;rw[HE.o];unfold I.rY;rw[if_pos h0,show 4-d.toNat=0 by omega];rfl
      go_wp2_with fail
      refine bodyPost_ret (fk rfl (fS HR.o (.u (kd:Int)) (.i (N:Int)) .e) rfl rfl) rfl (eZ.yes (by rw[←Hl.o];exact HZ.o) ?_ hN (fM HB.o (Nat.le_refl _) _ _ _));rw[RE.o];rfl
    ·have t3:decide (0≤d)=false:=decide_eq_false h0;have RE:Hid (kd=2):=by show _=_;rw[Vz.o,if_neg h0]
     have HZ:Hid (I.lG l=some (N,2)):=by show _=_;rw[HE.o];unfold I.rY;rw[if_neg h0]
     go_wp2_with fail
     refine bodyPost_ret (fk rfl (fS HR.o (.u (kd:Int)) (.i (N:Int)) .e) rfl rfl) rfl (eZ.yes (by rw[←Hl.o];exact HZ.o) ?_ hN (fM HB.o (Nat.le_refl _) _ _ _));rw[RE.o];rfl
end
end Go.Proofs.YtnicfobpclehkaaGreatDoor
