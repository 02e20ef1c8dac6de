import Derived.Test.YtnicfobpclehkaaGreatDoorP42
set_option maxHeartbeats 40000000
set_option linter.unusedVariables false
set_option linter.unusedSimpArgs false
namespace Go.Proofs.YtnicfobpclehkaaGreatDoor
open Go.RowKit
section
namespace I
open Ev (Ex)
section
variable{T:Nat}
def Dn{α:Type}(f:St→α×St):Prop:=∀st,(f st).2.d=st.d
theorem GZ(s:Bs)(st:St):(acc s st).d=st.d:=by unfold acc;split<;>rfl
theorem Jn(st:St):(br T st).d=st.d:=by unfold br;split<;>exact iI _ _ _
theorem aT:∀(l:List Bs) (st:St),(expect T l st).d=st.d:=by
 intro l;induction l with
 |nil=>exact fun _=>rfl
 |cons s l ih=>
  intro st;unfold expect;split
  ·exact ih _
  ·exact iI _ _ _
theorem iT:∀(l:List Bs) (i:Nat),Dn (choose T i l):=by
 intro l;induction l with
 |nil=>exact fun i st=>iI _ _ _
 |cons s l ih=>
  intro i st;unfold choose;split
  ·rfl
  ·exact ih _ st
theorem bP:Dn (name T):=by
 intro st;unfold name;split
 ·exact iI _ _ _
 ·split
  ·rfl
  ·exact iI _ _ _
theorem ve:∀(l:List (Bs×UInt8)),Dn (one l):=by
 intro l;induction l with
 |nil=>exact fun _=>rfl
 |cons s l ih=>
  intro st;unfold one;split
  ·rfl
  ·exact ih st
theorem pW{α:Type}{part:St→α×St}(h:Dn part):Dn (inside T part):=fun _=>(aT _ _).trans ((h _).trans (aT _ _))
theorem yY{kid:St→Ex×St}(h:Dn kid)(l:List (Bs×UInt8)):∀(f:Nat) (e:Ex),Dn (ba kid l f e):=by
 intro f;induction f with
 |zero=>exact fun e st=>rfl
 |succ f ih=>
  intro e st;unfold ba;split
  ·rfl
  ·exact(ih _ _).trans ((h _).trans (ve l st))
theorem lv{kid:St→Ex×St}(h:Dn kid)(l:List (Bs×UInt8)):Dn (chain kid l):=fun st=>(yY h l _ _ _).trans (h st)
theorem uF{s:Bs}{o:UInt8}{Y:St→Ex×St}(h:Dn Y):∀(f:Nat),Dn (again s o Y f):=by
 intro f;induction f with
 |zero=>exact h
 |succ f ih=>
  intro st;unfold again;split
  ·exact(ih _).trans rfl
  ·exact h st
theorem vd:Dn (literal T):=by
 intro st;unfold literal;repeat' split
 all_goals
  first
  |rfl
  |exact(show(next (fail T 271 st)).d=st.d from iI _ _ _)
theorem yk:Dn (cm T):=by
 intro st;unfold cm;split
 ·exact(bP _).trans (bP st)
 ·exact bP st
theorem FK{X:St→Ex×St}(h:Dn X)(op:UInt8):Dn (fold T X op):=by
 unfold fold;refine pW fun st=>?_
 show(if _ then _ else _:Ex×St).2.d=_;split
 ·rfl
 ·exact h st
theorem wy{X:St→Ex×St}(h:Dn X):Dn (aD T X):=by
 intro st;unfold aD;repeat' split
 ·exact vd st
 ·exact pW h st
 ·rfl
 ·rfl
 ·rfl
 ·rfl
 ·exact yk st
 ·exact(FK h _ _).trans (ve dd st)
theorem AH{X:St→Ex×St}(h:Dn X):Dn (unary T X):=fun st=>uF (wy h) st.r.length st
theorem D2{X:St→Ex×St}(h:Dn X):Dn (prod T X):=lv (AH h) _
theorem AK{X:St→Ex×St}(h:Dn X):Dn (sum T X):=lv (D2 h) _
theorem Ir(e:Ex):Dn (Ng T e):=by
 intro st;unfold Ng;split
 ·exact aT _ _
 ·exact aT _ _
theorem Gk{X:St→Ex×St}(h:Dn X)(e:Ex):Dn (fv T X e):=by
 intro st;unfold fv;by_cases h0:(one fF st).1=0
 ·rw[if_pos h0];by_cases h1:ae [105,115] st=true
  ·rw[if_pos h1];exact Ir e (next st)
  ·rw[if_neg h1]
 ·rw[if_neg h0];exact(AK h _).trans (ve fF st)
theorem Ib{X:St→Ex×St}(h:Dn X):Dn (cmp T X):=fun st=>(Gk h _ _).trans (AK h st)
theorem JD{X:St→Ex×St}(h:Dn X):Dn (dz T X):=fun st=>uF (Ib h) st.r.length st
theorem Ji{X:St→Ex×St}(h:Dn X):Dn (gz T X):=lv (JD h) _
theorem Jr{X:St→Ex×St}(h:Dn X):Dn (PK T X):=lv (Ji h) _
theorem Jz:∀n,Dn (Lw T n):=by
 intro n;induction n with
 |zero=>intro st;rw[Lw]
 |succ n ih=>intro st;rw[Lw];exact Jr ih st
theorem J9:Dn (or T):=fun st=>Jz _ st
def Dp{α:Type}(big:α→Bool)(f:St→α×St):Prop:=∀st,(f st).2.e=0→(f st).2.d=(st.d||big (f st).1)
theorem Dn.dp{α:Type}{f:St→α×St}(h:Dn f):Dp (fun _=>false) f:=fun st _=>by rw[h st,Bool.or_false]
def ef(e:Ex):Bool:=decide (24<depth e)
theorem gp:Dp ef (expr T):=by
 intro st _;unfold expr ef;simp only;by_cases h:24<depth (or T st).1
 ·rw[if_pos h,decide_eq_true h];simp
 ·rw[if_neg h,decide_eq_false h,J9 st,Bool.or_false]
section
variable{α β:Type}{big:α→Bool}{one:St→α×St}
theorem j8(h:Dp big one):Dp big (inside T one):=by
 intro st he;have h1:=h (expect T [[40]] st) ((aM T _ _).e he);show(expect T [[41]] (one (expect T [[40]] st)).2).d=_;rw[aT,h1,aT];rfl
theorem Iv{l:List Bs}(h:Dp big one):Dp big (fun st=>one (expect T l st)):=by
 intro st he;have:=h (expect T l st) he;rw[aT]at this;exact this
theorem GU{most:Nat}(h:Dp big one)(hv:KA one):∀(f:Nat) (l:List α) (st:St),(more T most one f l st).2.e=0→∃l2,(more T most one f l st).1=l++l2∧(more T most one f l st).2.d=(st.d||l2.any big):=by
 intro f;induction f with
 |zero=>exact fun l st _=>⟨[],by simp[more],by simp[more]⟩
 |succ f ih=>
  intro l st he;unfold more at he⊢;by_cases ha:ae [44] st=true
  ·rw[if_pos ha]at he⊢;by_cases hm:l.length=most
   ·rw[if_pos hm]at he;exact absurd he ji
   ·rw[if_neg hm]at he⊢;obtain⟨l2,e1,e2⟩:=ih _ _ he;refine⟨(one (next st)).1::l2,by rw[e1];simp,?_⟩;rw[e2,h (next st) ((pg hv f _ _).e he),List.any_cons];show(st.d||_||_)=_;rw[Bool.or_assoc]
  ·rw[if_neg ha];exact⟨[],by simp,by simp⟩
theorem iX{most:Nat}(h:Dp big one)(hv:KA one):Dp (fun l:List α=>l.any big) (list T most one):=by
 intro st he;unfold list at he⊢;obtain⟨l2,e1,e2⟩:=GU h hv _ _ _ he;rw[e2,h st ((pg hv _ _ _).e he),e1];simp[Bool.or_assoc]
end
theorem DL:Dp (fun l:List Ex=>l.any ef) (row T):=j8 (iX gp (cd T))
theorem oo:Dp (fun l:List Ex=>l.any ef) (aq T):=by
 intro st he;unfold aq at he⊢;by_cases ha:ae [119,104,101,114,101] st=true
 ·rw[if_pos ha]at he⊢;simp only at he⊢;rw[gp (next st) he];show(st.d||_)=_;simp
 ·rw[if_neg ha];simp
theorem GG:Dp (fun i:LL=>ef i.x) (item T):=by
 intro st;unfold item;obtain⟨e,s,h⟩:∃e s,expr T st=(e,s):=⟨_,_,rfl⟩;have h1:=gp (T:=T) st;rw[h]at h1⊢;simp only at h1⊢;by_cases ha:ae [97,115] s=true
 ·rw[if_pos ha];intro he;have:=(bp T (next s)).e he;show(name T (next s)).2.d=_;rw[bP,show(next s).d=s.d from rfl,h1 this]
 ·rw[if_neg ha];exact h1
theorem Bn:Dp (fun o:Ord=>ef o.x) (order T):=by
 intro st;unfold order;obtain⟨e,s,h⟩:∃e s,expr T st=(e,s):=⟨_,_,rfl⟩;have h1:=gp (T:=T) st;rw[h]at h1⊢;simp only at h1⊢;repeat' split
 all_goals exact h1
theorem qb:Dn (source T):=by
 intro st;unfold source;obtain⟨n,s,h⟩:∃e s,name T st=(e,s):=⟨_,_,rfl⟩;have h1:=bP (T:=T) st;rw[h]at h1⊢;simp only at h1⊢;split
 ·exact(bP _).trans h1
 ·exact h1
theorem yx(st:St):(source T st).1.on=[]:=by
 unfold source;obtain⟨n,s,h⟩:∃e s,name T st=(e,s):=⟨_,_,rfl⟩;rw[h];simp only;split<;>rfl
theorem EX:Dp (fun s:La=>ef s.x) (du T):=by
 intro st;unfold du;obtain⟨n,s,h⟩:∃e s,name T st=(e,s):=⟨_,_,rfl⟩;have h1:=bP (T:=T) st;rw[h]at h1⊢;simp only at h1⊢;intro he;have:=gp (T:=T) (expect T [[61]] s) he;rw[aT,h1]at this;exact this
theorem zp:Dn (action T):=by
 intro st;unfold action;split
 ·split;rename_i i s h;have h1:=iT (T:=T) [[114,101,115,116,114,105,99,116],[99,97,115,99,97,100,101],[115,101,116]] 0 (expect T [[100,101,108,101,116,101]] (next st));rw[h,aT]at h1;split
  ·exact(aT _ _).trans h1
  ·exact h1
 ·rfl
def ju(c:Ky):Bool:=c.ck.any ef
theorem Ip:Dp ju (column T):=by
 intro st;rw[kR];have h0:∀c s,s.e=0→(bc T c s).2.e=0→(bc T c s).2.d=s.d∧ju (bc T c s).1=ju c:=fun c s _ _=>by
  unfold bc
  split
  ·exact⟨aT _ _,rfl⟩
  ·exact⟨rfl,rfl⟩
 have hB:∀c s,(bY T c s).2.d=s.d∧ju (bY T c s).1=ju c:=fun c s=>by
  unfold bY
  split
  ·exact⟨aT _ _,rfl⟩
  ·exact⟨rfl,rfl⟩
 have hA:∀c s,(bc T c s).2.d=s.d∧ju (bc T c s).1=ju c∧(bc T c s).1.ck=c.ck:=fun c s=>by
  unfold bc
  split
  ·exact⟨aT _ _,rfl,rfl⟩
  ·exact⟨rfl,rfl,rfl⟩
 have hC:∀c s,(I.cp c s).2.d=s.d∧ju (I.cp c s).1=ju c:=fun c s=>by
  unfold I.cp
  split
  ·exact⟨rfl,rfl⟩
  ·exact⟨rfl,rfl⟩
 have hD:∀c s,ju c=false→(cM T c s).2.e=0→(cM T c s).2.d=(s.d||ju (cM T c s).1):=fun c s hc=>by
  unfold cM
  split
  ·intro he;have:=j8 (T:=T) gp (next s) he;simp only;rw[this];show(s.d||_)=_;simp[ju]
  ·intro _;simp only;rw[hc,Bool.or_false]
 have hE:∀c s,(dK T c s).2.d=s.d∧ju (dK T c s).1=ju c:=fun c s=>by
  unfold dK
  split
  ·exact⟨(zp _).trans (bP _),rfl⟩
  ·exact⟨rfl,rfl⟩
 intro he;have hz:ju (aC T st).1=false:=by unfold aC;rfl
 obtain⟨c0,s0,e0⟩:∃c s,aC T st=(c,s):=⟨_,_,rfl⟩;rw[e0]at he⊢;have d0:s0.d=st.d:=by have h1:=bP (T:=T) st;have h2:=iT (T:=T) [[105,110,116],[100,101,99],[98,111,111,108],[116,101,120,116],[98,121,116,101,115]] 0 (name T st).2;have:(aC T st).2=(choose T 0 [[105,110,116],[100,101,99],[98,111,111,108],[116,101,120,116],[98,121,116,101,115]] (name T st).2).2:=rfl;rw[e0]at this;simp only at this;rw[this,h2,h1]
 rw[e0]at hz;simp only at he hz⊢;obtain⟨c1,s1,e1⟩:∃c s,bc T c0 s0=(c,s):=⟨_,_,rfl⟩;have a1:=hA c0 s0;rw[e1]at he a1⊢;simp only at he a1⊢;obtain⟨c2,s2,e2⟩:∃c s,bY T c1 s1=(c,s):=⟨_,_,rfl⟩;have a2:=hB c1 s1;rw[e2]at he a2⊢;simp only at he a2⊢;obtain⟨c3,s3,e3⟩:∃c s,I.cp c2 s2=(c,s):=⟨_,_,rfl⟩;have a3:=hC c2 s2;rw[e3]at he a3⊢;simp only at he a3⊢;have a4:=hD c3 s3 (by rw[a3.2,a2.2,a1.2.1,hz]) ((lj _ _).e he);have a5:=hE (cM T c3 s3).1 (cM T c3 s3).2;rw[a5.1,a5.2,a4,a3.1,a2.1,a1.1,d0]
def vx(q:Kz):Bool:=q.its.any (fun i=>ef i.x)||q.fr.any (fun s=>s.on.any ef)||q.wh.any ef||q.gr.any ef||q.od.any (fun o=>ef o.x)
theorem AE:∀(f:Nat) (l:List Src) (st:St),(aI T f l st).2.1.e=0→∃l2,(aI T f l st).1=l++l2∧(aI T f l st).2.1.d=(st.d||l2.any fun s=>s.on.any ef):=by
 intro f;induction f with
 |zero=>exact fun l st _=>⟨[],by simp[aI],by simp[aI]⟩
 |succ f ih=>
  intro l st;rw[Rp.l7];by_cases ha:ae [106,111,105,110] st=true
  ·rw[if_pos ha];by_cases hl:16<l.length
   ·rw[if_pos hl];exact fun he=>absurd he ji
   ·rw[if_neg hl];intro he;obtain⟨l2,e1,e2⟩:=ih _ _ he;refine⟨_::l2,by rw[e1,List.append_assoc];rfl,?_⟩;rw[e2,gp _ ((gG T f _ _).e he),aT,qb];simp[next,Bool.or_assoc]
  ·rw[if_neg ha];exact fun _=>⟨[],by simp,by simp⟩
theorem EW(st:St):(cO T st).2.e=0→(cO T st).2.d=(st.d||(cO T st).1.its.any fun i=>ef i.x)∧(cO T st).1.fr=[]∧(cO T st).1.wh=[]∧(cO T st).1.gr=[]∧(cO T st).1.od=[]:=by
 unfold cO;split
 ·exact fun _=>⟨by simp[next],rfl,rfl,rfl,rfl⟩
 ·obtain⟨l,s,h⟩:∃l s,list T 16 (item T) st=(l,s):=⟨_,_,rfl⟩;have:=iX (T:=T) (most:=16) GG (lC T) st;rw[h]at this⊢;exact fun he=>⟨this he,rfl,rfl,rfl,rfl⟩
theorem Cq:Dn (bA T):=by
 intro st;unfold bA;repeat' split
 all_goals
  first
  |exact(show(next (fail T 271 st)).d=st.d from iI _ _ _)
  |exact iI _ _ _
  |rfl
theorem Fg(q:Kz)(st:St)(hg:q.gr=[]):(dH T q st).2.e=0→(dH T q st).2.d=(st.d||(dH T q st).1.gr.any ef)∧(dH T q st).1.its=q.its∧(dH T q st).1.fr=q.fr∧(dH T q st).1.wh=q.wh∧(dH T q st).1.od=q.od:=by
 unfold dH;split
 ·intro he;have:=iX (T:=T) (most:=16) gp (cd T) _ he;rw[aT]at this;exact⟨this,rfl,rfl,rfl,rfl⟩
 ·exact fun _=>⟨by simp[hg],rfl,rfl,rfl,rfl⟩
theorem EA(q:Kz)(st:St)(hg:q.od=[]):(dm T q st).2.e=0→(dm T q st).2.d=(st.d||(dm T q st).1.od.any fun o=>ef o.x)∧(dm T q st).1.its=q.its∧(dm T q st).1.fr=q.fr∧(dm T q st).1.wh=q.wh∧(dm T q st).1.gr=q.gr:=by
 unfold dm;split
 ·intro he;have:=iX (T:=T) (most:=16) Bn (ka T) _ he;rw[aT]at this;exact⟨this,rfl,rfl,rfl,rfl⟩
 ·exact fun _=>⟨by simp[hg],rfl,rfl,rfl,rfl⟩
theorem Fz(q:Kz)(st:St):(db T q st).2.d=st.d∧(db T q st).1.its=q.its∧(db T q st).1.fr=q.fr∧(db T q st).1.wh=q.wh∧(db T q st).1.gr=q.gr∧(db T q st).1.od=q.od:=by
 unfold db;split
 ·exact⟨(Cq _).trans rfl,rfl,rfl,rfl,rfl,rfl⟩
 ·exact⟨rfl,rfl,rfl,rfl,rfl,rfl⟩
theorem Dk:Dp vx (selection T):=by
 intro st;obtain⟨q,s0,e0⟩:∃q s0,cO T st=(q,s0):=⟨_,_,rfl⟩;obtain⟨a,s1,e⟩:∃a s1,source T (expect T [[102,114,111,109]] s0)=(a,s1):=⟨_,_,rfl⟩;have b0:=EW (T:=T) st;have b1:=qb (T:=T) (expect T [[102,114,111,109]] s0);have b2:=yx (T:=T) (expect T [[102,114,111,109]] s0);have b3:=AE (T:=T) (s1.r.length+1) [a] s1;have v1:=eO T (expect T [[102,114,111,109]] s0);unfold selection;rw[e0]at b0⊢;simp only at b0⊢;rw[e]at b1 b2 v1⊢;rw[aT]at b1;simp only at b1 b2 v1⊢;obtain⟨l,s2,b,ej⟩:∃l s2 b,aI T (s1.r.length+1) [a] s1=(l,s2,b):=⟨_,_,_,rfl⟩;have v2:=gG T (s1.r.length+1) [a] s1;rw[ej]at b3 v2⊢;simp only at b3 v2⊢;have u0:=(aM T [[102,114,111,109]] s0).trans (v1.trans v2);cases b with
 |true=>
  simp only;intro he;obtain⟨l2,c1,c2⟩:=b3 he;have c0:=b0 (u0.e he);rw[c2,b1,c0.1,c1];simp[vx,c0.2.2.1,c0.2.2.2.1,c0.2.2.2.2,b2,Bool.or_assoc]
 |false=>
  simp only;unfold nu;obtain⟨wh,s3,e3⟩:∃wh s3,aq T s2=(wh,s3):=⟨_,_,rfl⟩;have b4:=oo (T:=T) s2;have v3:=fB T s2;rw[e3]at b4 v3⊢;simp only at b4 v3⊢;intro he;obtain⟨g,s4,e4⟩:∃g s4,dH T {q with fr:=l,wh:=wh} s3=(g,s4):=⟨_,_,rfl⟩;have v4:=lk (T:=T) {q with fr:=l,wh:=wh} s3;have b5:=Fg (T:=T) {q with fr:=l,wh:=wh} s3;rw[e4]at b5 v4 he⊢;simp only at b5 v4 he⊢;obtain⟨o,s5,e5⟩:∃o s5,dm T g s4=(o,s5):=⟨_,_,rfl⟩;have v5:=lB (T:=T) g s4;have b6:=EA (T:=T) g s4;rw[e5]at b6 v5 he⊢;simp only at b6 v5 he⊢;have b7:=Fz (T:=T) o s5;have h5:=(lN (T:=T) o s5).e he;have h4:=v5.e h5;have h3:=v4.e h4;have h2:=v3.e h3;obtain⟨l2,c1,c2⟩:=b3 h2;have c0:=b0 (u0.e h2);have k5:=b5 c0.2.2.2.1 h4;have k6:=b6 (by rw[k5.2.2.2.2];exact c0.2.2.2.2) h5;rw[b7.1,k6.1,k5.1,b4 h3,c2,b1,c0.1];unfold vx;rw[b7.2.1,b7.2.2.1,b7.2.2.2.1,b7.2.2.2.2.1,b7.2.2.2.2.2,k6.2.1,k6.2.2.1,k6.2.2.2.1,k6.2.2.2.2,k5.2.1,k5.2.2.1,k5.2.2.2.1,c1];simp[b2,Bool.or_assoc]
theorem foldl_max{α:Type}(f:α→Nat):∀(l:List α) (d:Nat),decide (24<l.foldl (fun d x=>max d (f x)) d)=(decide (24<d)||l.any fun x=>decide (24<f x)):=by
 intro l;induction l with
 |nil=>exact fun d=>(Bool.or_false _).symm
 |cons a l ih=>
  intro d;rw[List.foldl_cons,ih,List.any_cons,←Bool.or_assoc];congr 1;by_cases h1:24<d<;>by_cases h2:24<f a<;>simp[h1,h2]<;>omega
theorem iU(l:List Ex):decide (24<Rp.deep l)=l.any ef:=by
 unfold Rp.deep;rw[foldl_max];rfl
theorem yT(d:Nat)(q:Kz):decide (24<Rp.fZ d q)=(decide (24<d)||vx q):=by
 unfold Rp.fZ vx;rw[foldl_max (fun o:Ord=>depth o.x),foldl_max (fun s:Src=>Rp.deep s.on),foldl_max (fun i:LL=>depth i.x)];have e:decide (24<max (max d (Rp.deep q.wh)) (Rp.deep q.gr))=(decide (24<d)||q.wh.any ef||q.gr.any ef):=by rw[←iU,←iU];by_cases h1:24<d<;>by_cases h2:24<Rp.deep q.wh<;>by_cases h3:24<Rp.deep q.gr<;>simp[h1,h2,h3]<;>omega
 rw[e];have e2:(q.fr.any fun s=>decide (24<Rp.deep s.on))=q.fr.any fun s=>s.on.any ef:=by congr 1;funext s;exact iU s.on
 rw[e2];show(_||(q.its.any fun i=>ef i.x)||_||(q.od.any fun o=>ef o.x))=_;cases decide (24<d)<;>cases (q.its.any fun i=>ef i.x)<;>cases (q.fr.any fun s=>s.on.any ef)<;>cases q.wh.any ef<;>cases q.gr.any ef<;>rfl
theorem xZ:∀(l:List Kz) (d:Nat),decide (24<l.foldl Rp.fZ d)=(decide (24<d)||l.any vx):=by
 intro l;induction l with
 |nil=>exact fun d=>(Bool.or_false _).symm
 |cons a l ih=>
  intro d;rw[List.foldl_cons,ih,List.any_cons,←Bool.or_assoc,yT]
def dQ(s:Km):Bool:=s.wh.any ef||s.Kv.any ju||s.vals.any (fun l=>l.any ef)||s.bu.any (fun x=>ef x.x)||s.q.any vx
theorem um(s:Km):decide (24<Rp.fL s)=dQ s:=by
 unfold Rp.fL dQ;rw[xZ,foldl_max (fun x:La=>depth x.x),foldl_max (fun l:List Ex=>Rp.deep l),foldl_max (fun c:Ky=>Rp.deep c.ck),iU];have e1:(s.Kv.any fun c=>decide (24<Rp.deep c.ck))=s.Kv.any ju:=by congr 1;funext c;exact iU c.ck
 have e2:(s.vals.any fun l=>decide (24<Rp.deep l))=s.vals.any fun l=>l.any ef:=by congr 1;funext l;exact iU l
 rw[e1,e2];rfl
theorem yh(k:UInt8)(n:Bs)(l:List Ky):dQ {Km.of k with nm:=n,Kv:=l}=l.any ju:=by simp[dQ,Km.of,Km.zero]
theorem Bu:Dp dQ (table T):=by
 intro st he;obtain⟨n,s1,h1⟩:=Rp.pr (name T st);obtain⟨l,s2,h2⟩:=Rp.pr (inside T (list T 12 (column T)) s1);have d1:=bP (T:=T) st;have d2:=j8 (T:=T) (iX (T:=T) (most:=12) (Ip (T:=T)) (nA T)) s1;rw[h1]at d1;rw[h2]at d2;rw[Rp.sZ st h1 h2]at he⊢;simp only at he d1 d2⊢;rw[d2 he,d1,yh]
theorem Er:Dp dQ (view T):=by
 intro st he;obtain⟨n,s1,h1⟩:=Rp.pr (name T st);obtain⟨q,s2,h2⟩:=Rp.pr (selection T (expect T [[97,115],[115,101,108,101,99,116]] s1));have d1:=bP (T:=T) st;have d2:=Iv (T:=T) (l:=[[97,115],[115,101,108,101,99,116]]) (Dk (T:=T)) s1;rw[h1]at d1;simp only at d2;rw[h2]at d2;rw[Rp.xM st h1 h2]at he⊢;simp only at he d1 d2⊢;rw[d2 he,d1];simp[dQ,Km.of,Km.zero]
theorem wa:Dp dQ (cu T):=by
 intro st he;obtain⟨n,s1,h1⟩:=Rp.pr (name T st);obtain⟨i,s2,h2⟩:=Rp.pr (choose T 0 [[105,110,115,101,114,116],[117,112,100,97,116,101],[100,101,108,101,116,101]] (expect T [[97,102,116,101,114]] s1));obtain⟨on,s3,h3⟩:=Rp.pr (name T (expect T [[111,110]] s2));obtain⟨tt,s4,h4⟩:=Rp.pr (name T (expect T [[105,110,115,101,114,116],[105,110,116,111]] s3));obtain⟨v,s5,h5⟩:=Rp.pr (row T (expect T [[118,97,108,117,101,115]] s4));have d1:=bP (T:=T) st;have d2:=iT (T:=T) [[105,110,115,101,114,116],[117,112,100,97,116,101],[100,101,108,101,116,101]] 0 (expect T [[97,102,116,101,114]] s1);have d3:=bP (T:=T) (expect T [[111,110]] s2);have d4:=bP (T:=T) (expect T [[105,110,115,101,114,116],[105,110,116,111]] s3);have d5:=DL (T:=T) (expect T [[118,97,108,117,101,115]] s4);rw[h1]at d1;rw[h2,aT]at d2;rw[h3,aT]at d3;rw[h4,aT]at d4;rw[h5,aT]at d5;rw[Rp.nN st h1 h2 h3 h4 h5]at he⊢;simp only at he d1 d2 d3 d4 d5⊢;rw[d5 he,d4,d3,d2,d1];simp[dQ,Km.of,Km.zero]
theorem yv:Dp dQ (dE T):=by
 intro st he;obtain⟨n,s1,h1⟩:=Rp.pr (name T st);obtain⟨on,s2,h2⟩:=Rp.pr (name T (expect T [[111,110]] s1));obtain⟨tt,s3,h3⟩:=Rp.pr (name T (expect T [[116,111]] s2));obtain⟨e,s4,h4⟩:=Rp.pr (inside T (expr T) (expect T [[117,115,105,110,103]] s3));have d1:=bP (T:=T) st;have d2:=bP (T:=T) (expect T [[111,110]] s1);have d3:=bP (T:=T) (expect T [[116,111]] s2);have d4:=j8 (T:=T) (gp (T:=T)) (expect T [[117,115,105,110,103]] s3);rw[h1]at d1;rw[h2,aT]at d2;rw[h3,aT]at d3;rw[h4,aT]at d4;rw[Rp.qc st h1 h2 h3 h4]at he⊢;simp only at he d1 d2 d3 d4⊢;rw[d4 he,d3,d2,d1];simp[dQ,Km.of,Km.zero]
theorem FU:Dp dQ (role T):=by
 intro st;unfold role;obtain⟨n,s,h⟩:=Rp.pr (name T st);have h1:=bP (T:=T) st;rw[h]at h1⊢;simp only at h1⊢;repeat' split
 ·intro _;show s.d=_;rw[h1];simp[dQ,Km.of,Km.zero]
 ·exact fun he=>absurd he (bz (by decide))
 ·intro _;show s.d=_;rw[h1];simp[dQ,Km.of,Km.zero]
theorem GP:Dp dQ (drop T):=by
 intro st _;obtain⟨i,s1,h1⟩:=Rp.pr (choose T 0 [[116,97,98,108,101],[118,105,101,119],[116,114,105,103,103,101,114],[112,111,108,105,99,121]] st);obtain⟨n,s2,h2⟩:=Rp.pr (name T s1);have d1:=iT (T:=T) [[116,97,98,108,101],[118,105,101,119],[116,114,105,103,103,101,114],[112,111,108,105,99,121]] 0 st;have d2:=bP (T:=T) s1;rw[h1]at d1;rw[h2]at d2;rw[Rp.xC st h1 h2];simp only at d1 d2⊢;rw[d2,d1];simp[dQ,Km.of,Km.zero]
theorem Fp:Dn (cU T):=by
 intro st;unfold cU;obtain⟨i,s1,h1⟩:=Rp.pr (choose T 0 [[115,101,108,101,99,116],[105,110,115,101,114,116],[117,112,100,97,116,101],[100,101,108,101,116,101]] st);have d1:=iT (T:=T) [[115,101,108,101,99,116],[105,110,115,101,114,116],[117,112,100,97,116,101],[100,101,108,101,116,101]] 0 st;rw[h1]at d1⊢;exact d1
theorem Gm{α:Type}{most:Nat}{one:St→α×St}(h:Dn one):∀(f:Nat) (l:List α),Dn (more T most one f l):=by
 intro f;induction f with
 |zero=>exact fun l st=>rfl
 |succ f ih=>
  intro l st;unfold more;split
  ·split
   ·exact Jn _
   ·exact(ih _ _).trans ((h _).trans rfl)
  ·rfl
theorem Gd{α:Type}{most:Nat}{one:St→α×St}(h:Dn one):Dn (list T most one):=fun st=>(Gm h _ _ _).trans (h st)
theorem BP:Dn (aX T):=by
 intro st;unfold aX;split
 ·rfl
 ·exact Gd Fp st
theorem Cv(w:Bs):Dn (Rp.MN T w):=fun st=>(bP _).trans ((aT _ _).trans (bP st))
theorem sK(role cU:UInt8)(w:Bs)(st:St):(share T role cU w st).2.d=st.d∧dQ (share T role cU w st).1=false:=by
 rw[Rp.nM];split
 ·exact⟨Cv w st,by simp[dQ,Km.of,Km.zero]⟩
 ·exact⟨(Cv w _).trans ((aT _ _).trans (BP st)),by simp[dQ,Km.of,Km.zero]⟩
theorem Au:Dp dQ (dk T):=by
 intro st _;unfold dk;have h:=sK (T:=T) 10 12 [116,111] st;obtain⟨s,s1,e⟩:=Rp.pr (share T 10 12 [116,111] st);rw[e]at h⊢;simp only at h⊢;split
 ·show(expect T _ _).d=(st.d||dQ s);rw[aT,h.2,Bool.or_false];exact h.1
 ·rw[h.2,Bool.or_false];exact h.1
theorem zL:Dp dQ (iG T):=by
 intro st _;have h:=sK (T:=T) 11 13 [102,114,111,109] st;unfold iG;rw[h.1,h.2,Bool.or_false]
theorem zI:Dp dQ (insert T):=by
 intro st he;obtain⟨n,s1,h1⟩:=Rp.pr (name T (expect T [[105,110,116,111]] st));obtain⟨v,s2,h2⟩:=Rp.pr (list T 16 (row T) (expect T [[118,97,108,117,101,115]] s1));have d1:=bP (T:=T) (expect T [[105,110,116,111]] st);have d2:=iX (T:=T) (most:=16) (DL (T:=T)) (lD T) (expect T [[118,97,108,117,101,115]] s1);rw[h1,aT]at d1;rw[h2,aT]at d2;rw[Rp.qM st h1 h2]at he⊢;simp only at he d1 d2⊢;rw[d2 he,d1];simp[dQ,Km.of,Km.zero]
theorem zw:Dp dQ (update T):=by
 intro st he;obtain⟨n,s1,h1⟩:=Rp.pr (name T st);obtain⟨l,s2,h2⟩:=Rp.pr (list T 16 (du T) (expect T [[115,101,116]] s1));obtain⟨w,s3,h3⟩:=Rp.pr (aq T s2);have d1:=bP (T:=T) st;have d2:=iX (T:=T) (most:=16) (EX (T:=T)) (jI T) (expect T [[115,101,116]] s1);have d3:=oo (T:=T) s2;have v3:=da (fB T) h3;rw[h1]at d1;rw[h2,aT]at d2;rw[h3]at d3;rw[Rp.qQ st h1 h2 h3]at he⊢;simp only at he d1 d2 d3⊢;rw[d3 he,d2 (v3.e he),d1];have eb:dQ {Km.of 15 with nm:=n,bu:=l,wh:=w}=(w.any ef||l.any fun x=>ef x.x):=by simp[dQ,Km.of,Km.zero]
 rw[eb,Bool.or_assoc,Bool.or_comm (l.any fun x=>ef x.x)]
theorem xX:Dp dQ (remove T):=by
 intro st he;obtain⟨n,s1,h1⟩:=Rp.pr (name T (expect T [[102,114,111,109]] st));obtain⟨w,s2,h2⟩:=Rp.pr (aq T s1);have d1:=bP (T:=T) (expect T [[102,114,111,109]] st);have d2:=oo (T:=T) s1;rw[h1,aT]at d1;rw[h2]at d2;rw[Rp.qy st h1 h2]at he⊢;simp only at he d1 d2⊢;rw[d2 he,d1];simp[dQ,Km.of,Km.zero]
theorem Ct:Dp dQ (query T):=by
 intro st he;obtain⟨q,s1,h1⟩:=Rp.pr (selection T st);have d1:=Dk (T:=T) st;rw[h1]at d1;rw[Rp.By st h1]at he⊢;simp only at he d1⊢;rw[d1 he];simp[dQ,Km.of,Km.zero]
theorem xb:∀(l:List (Bs×(St→Km×St))),(∀v∈l,Dp dQ v.2)→Dp dQ (pick T l):=by
 intro l;induction l with
 |nil=>exact fun _ st he=>absurd he (bz (by decide))
 |cons v l ih=>
  intro h st;unfold pick;split
  ·exact h v List.mem_cons_self (next st)
  ·exact ih (fun u hu=>h u (List.mem_cons_of_mem _ hu)) st
theorem Af:Dp dQ (create T):=by
 unfold create;refine xb _ fun v hv=>?_
 simp only[List.mem_cons,List.not_mem_nil,or_false]at hv;rcases hv with rfl|rfl|rfl|rfl|rfl
 ·exact Bu
 ·exact Er
 ·exact wa
 ·exact yv
 ·exact FU
theorem rG(k:UInt8):Dp dQ (fun st=>(Km.of k,st)):=fun st _=>by simp[dQ,Km.of,Km.zero]
theorem Df:Dp dQ (pick T (js T)):=by
 refine xb _ fun v hv=>?_
 unfold js at hv;simp only[List.mem_cons,List.not_mem_nil,or_false]at hv;rcases hv with rfl|rfl|rfl|rfl|rfl|rfl|rfl|rfl|rfl|rfl|rfl
 ·exact Af
 ·exact GP
 ·exact Au
 ·exact zL
 ·exact zI
 ·exact zw
 ·exact xX
 ·exact Ct
 ·exact rG 18
 ·exact rG 19
 ·exact rG 20
theorem DY(l:List Tok)(he:(run T l).2.e=0):(run T l).2.d=decide (24<Rp.fL (run T l).1):=by
 rw[um];rw[Rp.CI]at he⊢;have h:=Df (T:=T) ⟨l,0,0,false⟩ (Rp.Hu he);have e:(Rp.fin T (pick T (js T) ⟨l,0,0,false⟩)).2.d=(pick T (js T) ⟨l,0,0,false⟩).2.d:=by
  unfold Rp.fin;simp only;split
  ·exact GZ _ _
  ·exact(iI _ _ _).trans (GZ _ _)
 rw[e,h,Bool.false_or];rfl
theorem BK(text:Bs):Rp.parse text=parse text:=by
 unfold Rp.parse parse;obtain⟨h1,h2⟩:=Rp.run_eq (T:=text.length) (Lex.told text).1;rw[h1];split
 ·rfl
 ·split
  ·rfl
  ·rename_i he;have he':(run text.length (Lex.told text).1).2.e=0:=by simpa using he
   rw[h2 he',DY _ he'];simp
end
end I
end
section
set_option maxRecDepth 100000
theorem Fr.ET{C:RC}{w0 w:World}{own:bO}{its:List It}{Q:World→Prop}{f:FuncId}{args:Array Value}{r:I.Km×I.St}(F:Fr C.g w0 own its Q w)(h:Calls Tryz.prog f args w (ER aB C w r)):Calls Tryz.prog f args w fun e w'=>∃A1 m1 c1 A2 m2 c2 A3 m3 c3 A4 m4 c4 A5 m5 c5 A6 m6 c6 x s,r=(x,s)∧e=.returned (.agg #[.u (x.k.toNat:Int),.s (I.bs x.nm),.s (I.bs x.on),.s (I.bs x.aF),.u (x.ev.toNat:Int),.slice A1 m1 c1,.slice A2 m2 c2,.slice A3 m3 c3,.slice A4 m4 c4,.slice A5 m5 c5,.slice A6 m6 c6,.bool x.opt,.s (I.bs x.key)])∧Fr C.g w0 own (It.el aB [.u (x.k.toNat:Int),.s (I.bs x.nm),.s (I.bs x.on),.s (I.bs x.aF),.u (x.ev.toNat:Int),.slice A1 m1 c1,.slice A2 m2 c2,.slice A3 m3 c3,.slice A4 m4 c4,.slice A5 m5 c5,.slice A6 m6 c6,.bool x.opt,.s (I.bs x.key)] x::its) (RS C s) w':=
 (F.jw h).mono fun e w' ⟨cs,x,s,h1,h2,h3⟩=>by
  obtain⟨A1,m1,c1,A2,m2,c2,A3,m3,c3,A4,m4,c4,A5,m5,c5,A6,m6,c6,rfl⟩:=qF h3.Kx
  exact⟨A1,m1,c1,A2,m2,c2,A3,m3,c3,A4,m4,c4,A5,m5,c5,A6,m6,c6,x,s,h1,h2,h3⟩
theorem EC{text:I.Bs}(h:(Rp.run text.length (Lex.told text).1).2.e=0):NN (Rp.run text.length (Lex.told text).1).1:=by
 obtain⟨h1,h2⟩:=Rp.run_eq (T:=text.length) (Lex.told text).1;have he:(I.run text.length (Lex.told text).1).2.e=0:=by rw[←h1];exact h
 rw[h2 he];have hl:=(Lex.o8 text).len;have hle:(Lex.told text).1.length≤4096:=by
  by_cases h4:4096<text.length
  ·rw[Lex.j3 h4];simp
  ·omega
 exact I.IL hle
theorem vy(text:ByteArray)(w:World)(hs:text.size≤maxLen)(hU:Qx w)(h6:5<w.heap.size):
 Calls Tryz.prog 9 #[.s text] w (eQ w (Rp.parse text.data.toList)):=by
 have HU:=aa hU;have hlen:=aH text;clear hU;go_enter Tryz.func9,Tryz.ntmps9;obtain⟨w1,hw⟩:=aab ((w.alloc (.cells #[.b,.e,.e,.e,.b,.z,.z,.z,.z,.z,.z,.f,.e] 30)).alloc (.cells #[.o,.o] 33));go_upto_region 1 with fail
 rw[←hw];have HA1:=aa (show Kn w1 w.heap.size 30 #[.b,.e,.e,.e,.b,.z,.z,.z,.z,.z,.z,.f,.e] by rw[hw];exact(Kn.new w _ _).alloc _);have NC:=aa (show Kn w1 (w.heap.size+1) 33 #[.o,.o] by rw[hw];exact Kn.mD _ _ _ _);have HB1:=aa (show Below w.heap.size w w1 by rw[hw];exact((Below.refl _ _).alloc (Nat.le_refl _) _).alloc (by simp) _);have hs1:w.heap.size+2≤w1.heap.size:=by rw[hw];simp
 clear hw;obtain⟨gA,hgA⟩:=aab w.heap.size;obtain⟨gF,MV⟩:=aab (gA+1);rw[←hgA]at HA1 NC hs1⊢;rw[←MV]at NC⊢;have hA0:w.heap.size≤gA:=by omega
 have hAF:gA<gF:=by omega
 have ZV:gF<w1.heap.size:=by omega
 have HgA:Hid (gA=w.heap.size):=hgA;clear hgA MV hs1;go_wp2_with fail
 with_reducible refine(tj text _ hs).mono ?_
 rintro e w2 ⟨v,rfl,ho,hb⟩;have Nr:= @Lex.tK text.data.toList;have Od:=Lex.o8 text.data.toList;have SR:=Lex.Jh text.data.toList;have hdp:= @EC text.data.toList;have Qp:Hid (Rp.parse text.data.toList=(if(Lex.told text.data.toList).2.1≠0 then(I.Km.zero,(Lex.told text.data.toList).2.1,(Lex.told text.data.toList).2.2)else if(Rp.run text.data.toList.length (Lex.told text.data.toList).1).2.e≠0 then(I.Km.zero,(Rp.run text.data.toList.length (Lex.told text.data.toList).1).2.e,(Rp.run text.data.toList.length (Lex.told text.data.toList).1).2.c)else if 24<Rp.fL (Rp.run text.data.toList.length (Lex.told text.data.toList).1).1 then(I.Km.zero,301,0)else((Rp.run text.data.toList.length (Lex.told text.data.toList).1).1,0,0))):=rfl;obtain⟨q,hq⟩:=aab (Lex.told text.data.toList);rw[←hq]at ho Nr Od SR hdp Qp⊢;obtain⟨ts,er,at_⟩:=q;simp only at ho Nr Od SR hdp Qp⊢;clear hq;have WT:=aa ho;have Uv:=aa Od;have HKo:=aa SR;have HDp:=aa hdp;have hs2:=hb.size;have HA2:=aa (HA1.o.below hb (by omega));have LA:=aa (NC.o.below hb ZV);have HB2:=aa (HB1.o.trans (hb.mono (by have:=HB1.o.size;omega)));obtain⟨A,c,rfl,hc1,hc2⟩:∃A c,v=.slice A ts.length c∧ts.length≤c∧c≤maxLen:=by obtain⟨A,c,e,_,c1,c2⟩:=fO ho;exact⟨A,c,e,c1,c2⟩
 clear ho Od SR hdp hb HA1 NC HB1;obtain⟨w3,hw⟩:=aab (w2.alloc (.cells #[.i (er:Int),.i (at_:Int)] 33));go_upto_region 2 with fail
 rw[←hw];have Sf:=aa (show Kn w3 w2.heap.size 33 #[.i (er:Int),.i (at_:Int)] by rw[hw];exact Kn.new _ _ _);have OW:=aa (show Kn w3 gA 30 #[.b,.e,.e,.e,.b,.z,.z,.z,.z,.z,.z,.f,.e] by rw[hw];exact HA2.o.alloc _);have Ny:=aa (show Kn w3 gF 33 #[.o,.o] by rw[hw];exact LA.o.alloc _);have HB3:=aa (show Below w.heap.size w w3 by rw[hw];exact HB2.o.alloc HB2.o.size _);have Lb:=aa (show Rd w3 w3.heap.size 3 (A) ts.length (cr ts) by rw[hw];exact((Rd.own WT.o).below ((Below.refl w2.heap.size w2).alloc (Nat.le_refl _) _) (Nat.le_refl _)).more (by simp));have hs3:w3.heap.size=w2.heap.size+1:=by rw[hw];simp
 have ZW:gF<w3.heap.size:=by omega
 obtain⟨gV,Tj⟩:=aab w2.heap.size;rw[←Tj]at Sf⊢;have hFV:gF<gV:=by omega
 clear hw Tj WT HA2 LA HB2 hs2 hs3;obtain⟨WU,WV⟩:=Sf.o.Y2;simp at WU WV;by_cases her:er=0
 ·subst her;have hsm:text.size≤4096:=by have:=Nr rfl;omega
  have Re:Hid (Rp.parse text.data.toList=(if(Rp.run text.data.toList.length ts).2.e≠0 then(I.Km.zero,(Rp.run text.data.toList.length ts).2.e,(Rp.run text.data.toList.length ts).2.c)else if 24<Rp.fL (Rp.run text.data.toList.length ts).1 then(I.Km.zero,301,0)else((Rp.run text.data.toList.length ts).1,0,0))):=by show _=_;rw[Qp.o,if_neg (by simp)]
  clear Nr Qp;obtain⟨w4,hw⟩:=aab (w3.alloc (.cells #[.slice A ts.length c,.o,.i (text.size:Int),.o,.o] 79));have h6':5<w3.heap.size:=by have:=HB3.o.size;omega
  obtain⟨C,hC⟩:∃C:RC,C=⟨text,ts,A,c,w3.heap.size,hsm,by rw[←hlen];exact Uv.o,⟨hc1,by unfold maxLen at hc2;omega⟩,h6'⟩:=⟨_,rfl⟩;have eT:C.text=text:=by rw[hC]
  have eS:C.ts=ts:=by rw[hC]
  have eA:C.A=A:=by rw[hC]
  have eC:C.c=c:=by rw[hC]
  have eG:C.g=w3.heap.size:=by rw[hC]
  have WW:RS C ⟨ts,0,0,false⟩ w4:=by
   refine⟨⟨0,?_,Nat.zero_le _,fun _=>by rw[eS];rfl,fun h=>absurd rfl h⟩,?_,?_,by rw[eS];exact HKo.o⟩
   ·rw[eG,eT,eS,eA,eC,hw];exact Kn.new _ _ _
   ·rw[eG,eS,eA,hw];exact Lb.o.below ((Below.refl w3.heap.size w3).alloc (Nat.le_refl _) _) (Nat.le_refl _)
   ·exact HU.o.aR fun b o hb=>by
     rw[hw]
     exact(HB3.o.alloc HB3.o.size _).cell (p:=⟨b,o,none⟩) (by show b<w.heap.size;omega)
  have Sj:=aa (show Kn w4 gA 30 #[.b,.e,.e,.e,.b,.z,.z,.z,.z,.z,.z,.f,.e] by rw[hw];exact OW.o.alloc _);have OZ:=aa (show Kn w4 gF 33 #[.o,.o] by rw[hw];exact Ny.o.alloc _);have ND:=aa (show Below w.heap.size w w4 by rw[hw];exact HB3.o.alloc HB3.o.size _);have hs4:C.g<w4.heap.size:=by rw[eG,hw];simp
  have hAg:gA<C.g:=by rw[eG];omega
  have hFg:gF<C.g:=by rw[eG];omega
  have F4:=aa (Fr.start hs4 WW.aJ);have HT:Hid (text.data.toList.length=C.text.size):=by rw[eT];exact hlen
  go_upto_region 5 with fail
  rw[←hw,←eG];have hwg:w.heap.size<C.g:=by omega
  clear hw eT eS eA eC eG hC WW Lb HU OW Ny HB3 Sf WU WV Uv HKo hlen hs;go_wp2_with fail
  with_reducible refine(Fr.ET F4.o (o3 C _ _ F4.o.q)).mono ?_
  rintro e w6 ⟨A1,m1,c1,A2,m2,c2,A3,m3,c3,A4,m4,c4,A5,m5,c5,A6,m6,c6,x6,s6,(X6:Hid _),rfl,(F6:Hid _)⟩;go_upto_region 6 with fail
  have F7:=aa (F6.o.new 30 #[.u (x6.k.toNat:Int),.s (I.bs x6.nm),.s (I.bs x6.on),.s (I.bs x6.aF),.u (x6.ev.toNat:Int),.slice A1 m1 c1,.slice A2 m2 c2,.slice A3 m3 c3,.slice A4 m4 c4,.slice A5 m5 c5,.slice A6 m6 c6,.bool x6.opt,.s (I.bs x6.key)]);obtain⟨w7,hw⟩:=aab (w6.alloc (.cells #[.u (x6.k.toNat:Int),.s (I.bs x6.nm),.s (I.bs x6.on),.s (I.bs x6.aF),.u (x6.ev.toNat:Int),.slice A1 m1 c1,.slice A2 m2 c2,.slice A3 m3 c3,.slice A4 m4 c4,.slice A5 m5 c5,.slice A6 m6 c6,.bool x6.opt,.s (I.bs x6.key)] 30));obtain⟨g7,hg⟩:=aab w6.heap.size;rw[←hw,←hg]at F7;rw[←hw,←hg];clear hw hg;go_wp2_with fail
  with_reducible refine(aG ⟨#[59]⟩ [59] rfl F7.o).mono ?_
  rintro e w8 ⟨b,hb,rfl,hF⟩;obtain⟨s8,QL⟩:=aab (I.acc [59] s6);have e8:(if b=true then I.next s6 else s6)=s8:=by rw[QL,←hb];rfl
  rw[e8]at hF;have F8:=aa hF;clear e8;have WX:=aa QL;clear hF hb QL;have ZY:=F8.o.q.1;obtain⟨k,Rf,hkl,WY,Xu⟩:=ZY;have Ks:=Rf.y3 0 1 3;simp at Ks;have Uw:=aa WY;have Xv:=aa Xu;clear Rf WY Xu;have hcl:=C.ok.len;have hcs:=C.small;obtain⟨s9,T0⟩:∃s,s=(if s8.r=[]then s8 else I.fail C.text.size 300 s8):=⟨_,rfl⟩;have SF:=aa T0;clear T0;obtain⟨bb,hbb⟩:∃b,b=(decide (s8.e=0)&&decide (k<C.ts.length)):=⟨_,rfl⟩;have Qj:=aa hbb;clear hbb;go_upto_region 7 with fail
  go_cut [43] (fun v wx=>v=.bool bb∧Hid (Fr C.g w4 [(g7,30,#[.u (x6.k.toNat:Int),.s (I.bs x6.nm),.s (I.bs x6.on),.s (I.bs x6.aF),.u (x6.ev.toNat:Int),.slice A1 m1 c1,.slice A2 m2 c2,.slice A3 m3 c3,.slice A4 m4 c4,.slice A5 m5 c5,.slice A6 m6 c6,.bool x6.opt,.s (I.bs x6.key)])] [It.el aB [.u (x6.k.toNat:Int),.s (I.bs x6.nm),.s (I.bs x6.on),.s (I.bs x6.aF),.u (x6.ev.toNat:Int),.slice A1 m1 c1,.slice A2 m2 c2,.slice A3 m3 c3,.slice A4 m4 c4,.slice A5 m5 c5,.slice A6 m6 c6,.bool x6.opt,.s (I.bs x6.key)] x6] (RS C s8) wx));case first=>
   have q4:(0:Int)≤(k:Int):=by omega
   by_cases he:s8.e=0
   ·have t3:((s8.e:Int)==0)=true:=by simp[he]
    by_cases hk:k<C.ts.length
    ·have t4:decide ((k:Int)<(C.ts.length:Int))=true:=decide_eq_true (by omega);have HV:Hid (bb=true):=by show bb=true;rw[Qj.o,decide_eq_true he,decide_eq_true hk];rfl
     have HK:=aa (decide_eq_true hk);clear he hk;go_quiet (fail);go_wp2_with fail
     go_meet;exact⟨by rw[HV.o,HK.o],aa (F8.o.drew _)⟩
    ·have t4:decide ((k:Int)<(C.ts.length:Int))=false:=decide_eq_false (by omega);have HV:Hid (bb=false):=by show bb=false;rw[Qj.o,decide_eq_false hk,Bool.and_false]
     have HK:=aa (decide_eq_false hk);clear he hk;go_quiet (fail);go_wp2_with fail
     go_meet;exact⟨by rw[HV.o,HK.o],aa (F8.o.drew _)⟩
   ·have t3:((s8.e:Int)==0)=false:=by simp[he]
    have HV:Hid (bb=false):=by show bb=false;rw[Qj.o,decide_eq_false he,Bool.false_and]
    clear he;go_quiet (fail);go_wp2_with fail
    go_meet;exact⟨by rw[HV.o],aa (F8.o.drew _)⟩
  case rest=>
   obtain⟨rfl,hF⟩:=hcut;obtain⟨w8b,hw⟩:=aab wc;subst hw;have F8b:=aa hF.o;clear hF F8 Ks;go_upto_if 43 with fail
   go_cut [] (fun wx=>Hid (Fr C.g w4 [(g7,30,#[.u (x6.k.toNat:Int),.s (I.bs x6.nm),.s (I.bs x6.on),.s (I.bs x6.aF),.u (x6.ev.toNat:Int),.slice A1 m1 c1,.slice A2 m2 c2,.slice A3 m3 c3,.slice A4 m4 c4,.slice A5 m5 c5,.slice A6 m6 c6,.bool x6.opt,.s (I.bs x6.key)])] [It.el aB [.u (x6.k.toNat:Int),.s (I.bs x6.nm),.s (I.bs x6.on),.s (I.bs x6.aF),.u (x6.ev.toNat:Int),.slice A1 m1 c1,.slice A2 m2 c2,.slice A3 m3 c3,.slice A4 m4 c4,.slice A5 m5 c5,.slice A6 m6 c6,.bool x6.opt,.s (I.bs x6.key)] x6] (RS C s9) wx));case first=>
    cases bb with
    |true=>
     have hk:=Qj.o.symm;simp only[Bool.and_eq_true,decide_eq_true_eq]at hk;have HE:Hid (s9=I.fail C.text.size 300 s8):=by show _=_;rw[SF.o,if_neg];rw[Uw.o hk.1,List.drop_eq_nil_iff];omega
     clear hk;go_wp2_with fail
     with_reducible refine(dh F8b.o).mono ?_
     rintro e w9 ⟨s,hE,rfl,(F9:Hid _)⟩;rw[←HE.o]at hE;subst hE;go_wp2_with fail
     go_meet;exact F9.o
    |false=>
     have hk:=Qj.o.symm;simp only[Bool.and_eq_false_iff,decide_eq_false_iff_not]at hk;have HE:Hid (s9=s8):=by
      show _=_;rw[SF.o,if_pos];by_cases he:s8.e=0
      ·rw[Uw.o he,List.drop_eq_nil_iff];omega
      ·exact Xv.o he
     clear hk;have Ux:=F8b.o;rw[←HE.o]at Ux;have F9:=aa Ux;clear Ux;go_wp2_with fail
     go_meet;exact F9.o
   case rest=>
   obtain⟨w9,hw⟩:=aab wc;subst hw;have F9:=aa hcut.o;have Rg:Hid (Rp.run text.data.toList.length ts=(x6,s9)):=by show _=_;rw[HT.o];have h1:=X6.o;unfold Rp.run;rw[h1];simp only;rw[SF.o,WX.o]
   rw[Rg.o]at Re HDp;simp only at Re HDp;clear Qj;clear hcut F8b F7 F6 F4 X6 WX SF Rg Uw Xv;obtain⟨⟨k9,Rf,-,-,-⟩,-⟩:=F9.o.q;obtain⟨p3,p4⟩:=Rf.y2 3 4;simp at p3 p4;clear Rf;have ZZ:=F9.o.ch.size;have S2:=aa ((Ch.lh (g:=C.g) ND.o).trans F9.o.ch (by have:=ND.o.size;omega));have OJ:=aa (Sj.o.ch F9.o.ch (by omega) (by omega));have OK:=aa (OZ.o.ch F9.o.ch (by omega) (by omega));have Uy:=ND.o.size;clear Sj OZ ND;have n1:¬gA=C.g:=by omega
   have n2:¬C.g=gA:=by omega
   have n3:¬gF=C.g:=by omega
   have n4:¬C.g=gF:=by omega
   have n5:¬gA=gF:=by omega
   have n6:¬gF=gA:=by omega
   have hne:gA≠gF:=by omega
   have Qa:w.heap.size≤gF:=by omega
   have hne':gF≠gA:=by omega
   have Rh:=aa (S2.o.toBelow (by omega));by_cases he:s9.e=0
   ·have t3:((s9.e:Int) !=0)=false:=by simp[he]
    have Uz:=aa he;have HDz:=aa (HDp.o he);clear he;have cj2:=F9.o.ab.KI;simp at cj2;have hX9:aB.R w9 (fun b=>b<w9.heap.size) [.u (x6.k.toNat:Int),.s (I.bs x6.nm),.s (I.bs x6.on),.s (I.bs x6.aF),.u (x6.ev.toNat:Int),.slice A1 m1 c1,.slice A2 m2 c2,.slice A3 m3 c3,.slice A4 m4 c4,.slice A5 m5 c5,.slice A6 m6 c6,.bool x6.opt,.s (I.bs x6.key)] x6:=El.hp (E:=aB) F9.o.Kx (fun b hb=>hb.2.1) fun _ _=>rfl
    have cc:=uf w9 _ x6 HDz.o hX9;replace cc:Calls Tryz.prog 31 #[.agg #[.u (x6.k.toNat:Int),.s (I.bs x6.nm),.s (I.bs x6.on),.s (I.bs x6.aF),.u (x6.ev.toNat:Int),.slice A1 m1 c1,.slice A2 m2 c2,.slice A3 m3 c3,.slice A4 m4 c4,.slice A5 m5 c5,.slice A6 m6 c6,.bool x6.opt,.s (I.bs x6.key)]] w9 fun e w'=>e=.returned (.i ((Rp.fL x6:Nat):Int))∧Below w9.heap.size w9 w':=cc
    have CC:=aa cc;clear cc hX9;go_wp2_with fail
    with_reducible refine CC.o.mono ?_
    rintro e Lo ⟨rfl,PJ⟩;have Xw:=aa (Rh.o.trans (PJ.mono Rh.o.size));have Qv:=aa (OJ.o.below PJ OJ.o.lt);have Qw:=aa (OK.o.below PJ OK.o.lt);have HV10:=aa (F9.o.ab.below PJ F9.o.ab.lt);have HX10:Hid (aB.R Lo (fun b=>w.heap.size≤b∧b<Lo.heap.size∧b≠gA∧b≠gF) [.u (x6.k.toNat:Int),.s (I.bs x6.nm),.s (I.bs x6.on),.s (I.bs x6.aF),.u (x6.ev.toNat:Int),.slice A1 m1 c1,.slice A2 m2 c2,.slice A3 m3 c3,.slice A4 m4 c4,.slice A5 m5 c5,.slice A6 m6 c6,.bool x6.opt,.s (I.bs x6.key)] x6):=El.hp (E:=aB) F9.o.Kx (fun b hb=>⟨by have:=hb.1;have:=Uy;omega,Nat.lt_of_lt_of_le hb.2.1 PJ.size,by have:=hb.1;omega,by have:=hb.1;omega⟩) fun b hb=>PJ.block b hb.2.1
    clear PJ CC cj2 p3 p4;have K0:=Qv.o.KI;simp at K0;have Le:=Qv.o.LW;have Ly:=Qw.o.Y2;simp at Ly;obtain⟨Yb,Yc⟩:=Qw.o.Z2;obtain⟨D,hD⟩:=aab (Rp.fL x6);rw[←hD];have HD:=aa hD;clear hD;by_cases hd:24<D
    ·have t4:decide ((24:Int)<(D:Int))=true:=decide_eq_true (by omega);have t5:decide (24<D)=true:=decide_eq_true hd;have Pv:Hid (Rp.parse text.data.toList=(I.Km.zero,301,0)):=by show _=_;rw[Re.o,if_neg (by rw[Uz.o];simp),if_pos (by rw[←HD.o];exact hd)]
     clear hd;have TA:=aa (Qv.o.there (n:=13) rfl);have TF:=aa ((Qw.o.gb hne' [.b,.e,.e,.e,.b,.z,.z,.z,.z,.z,.z,.f,.e]).there (n:=2) rfl);go_wp2_with fail
     rw[Pv.o];have kk:=eX (W:=(Lo.setCells gA 0 [.b,.e,.e,.e,.b,.z,.z,.z,.z,.z,.z,.f,.e]).setCells gF 0 [.i (301:Int),.i (0:Int)]) (r:=(I.Km.zero,301,0)) (cs:=[.b,.e,.e,.e,.b,.z,.z,.z,.z,.z,.z,.f,.e]) Qv.o Qw.o rfl rfl rfl hne hA0 Qa Xw.o (.inl rfl) iQ;exact bodyPost_ret (dA rfl _ _ gA gF _ _ _ _ _ _ _ _ rfl rfl kk.1 kk.2.1 ag rfl (by rw[af];rfl) cw rfl cn) rfl kk.2.2
    ·have t4:decide ((24:Int)<(D:Int))=false:=decide_eq_false (by omega);have t5:decide (24<D)=false:=decide_eq_false hd;have Pv:Hid (Rp.parse text.data.toList=(x6,0,0)):=by show _=_;rw[Re.o,if_neg (by rw[Uz.o];simp),if_neg (by rw[←HD.o];exact hd)]
     clear hd;have TA:=aa (Qv.o.there (n:=13) rfl);have TF:=aa ((Qw.o.gb hne' [.u (x6.k.toNat:Int),.s (I.bs x6.nm),.s (I.bs x6.on),.s (I.bs x6.aF),.u (x6.ev.toNat:Int),.slice A1 m1 c1,.slice A2 m2 c2,.slice A3 m3 c3,.slice A4 m4 c4,.slice A5 m5 c5,.slice A6 m6 c6,.bool x6.opt,.s (I.bs x6.key)]).there (n:=2) rfl);have Mj:=HV10.o.KI;simp at Mj;go_wp2_with fail
     rw[Pv.o];have kk:=eX (W:=(Lo.setCells gA 0 [.u (x6.k.toNat:Int),.s (I.bs x6.nm),.s (I.bs x6.on),.s (I.bs x6.aF),.u (x6.ev.toNat:Int),.slice A1 m1 c1,.slice A2 m2 c2,.slice A3 m3 c3,.slice A4 m4 c4,.slice A5 m5 c5,.slice A6 m6 c6,.bool x6.opt,.s (I.bs x6.key)]).setCells gF 0 [.i (0:Int),.i (0:Int)]) (r:=(x6,0,0)) (cs:=[.u (x6.k.toNat:Int),.s (I.bs x6.nm),.s (I.bs x6.on),.s (I.bs x6.aF),.u (x6.ev.toNat:Int),.slice A1 m1 c1,.slice A2 m2 c2,.slice A3 m3 c3,.slice A4 m4 c4,.slice A5 m5 c5,.slice A6 m6 c6,.bool x6.opt,.s (I.bs x6.key)]) Qv.o Qw.o rfl rfl rfl hne hA0 Qa Xw.o (.inl rfl) HX10.o;exact bodyPost_ret (dA rfl _ _ gA gF _ _ _ _ _ _ _ _ rfl rfl kk.1 kk.2.1 ag rfl (by rw[af];rfl) cw rfl cn) rfl kk.2.2
   ·have t3:((s9.e:Int) !=0)=true:=by simp[he]
    have Uz:=aa he;have Pv:Hid (Rp.parse text.data.toList=(I.Km.zero,s9.e,s9.c)):=by show _=_;rw[Re.o,if_pos he]
    clear he;have MY:=OJ.o.KI;simp at MY;have NP:=OJ.o.LW;have NQ:=OK.o.Y2;simp at NQ;obtain⟨Yb,Yc⟩:=OK.o.Z2;have TA:=aa (OJ.o.there (n:=13) rfl);have TF:=aa (OK.o.there (n:=2) rfl);have TA2:=aa ((OJ.o.gb hne [.i (s9.e:Int),.i (s9.c:Int)]).there (n:=13) rfl);have TF2:=aa ((OK.o.gb hne' [.b,.e,.e,.e,.b,.z,.z,.z,.z,.z,.z,.f,.e]).there (n:=2) rfl);have kA:=aa (jj (eX (W:=(w9.setCells gA 0 [.b,.e,.e,.e,.b,.z,.z,.z,.z,.z,.z,.f,.e]).setCells gF 0 [.i (s9.e:Int),.i (s9.c:Int)]) (cs:=[.b,.e,.e,.e,.b,.z,.z,.z,.z,.z,.z,.f,.e]) (w9:=w9) (r:=(I.Km.zero,s9.e,s9.c)) OJ.o OK.o rfl rfl rfl hne hA0 Qa Rh.o (.inl rfl) iQ));go_wp2_with fail
    go_region;all_goals
     go_wp2_with fail
     rw[Pv.o]
     have kk:=kA.o
     exact bodyPost_ret (dA rfl _ _ gA gF _ _ _ _ _ _ _ _ rfl rfl kk.1 kk.2.1 ag rfl (by rw[af];rfl) cw rfl cn) rfl kk.2.2
 ·have t3:((er:Int) !=0)=true:=by simp[her]
  have Pv:Hid (Rp.parse text.data.toList=(I.Km.zero,er,at_)):=by show _=_;rw[Qp.o,if_pos her]
  have hw3:w3.heap.size=w3.heap.size:=rfl;clear her Nr Qp Uv Lb HU;have M1:=OW.o.KI;simp at M1;have NB:=OW.o.LW;have Nn:=Ny.o.Y2;simp at Nn;obtain⟨Yb,Yc⟩:=Ny.o.Z2;have n1:¬gA=gV:=by omega
  have n2:¬gV=gA:=by omega
  have n3:¬gF=gV:=by omega
  have n4:¬gV=gF:=by omega
  have n5:¬gA=gF:=by omega
  have n6:¬gF=gA:=by omega
  have hne:gA≠gF:=by omega
  have Qa:w.heap.size≤gF:=by omega
  clear hw3;have kA:=aa (jj (eX (W:=(w3.setCells gA 0 [.b,.e,.e,.e,.b,.z,.z,.z,.z,.z,.z,.f,.e]).setCells gF 0 [.i (er:Int),.i (at_:Int)]) (cs:=[.b,.e,.e,.e,.b,.z,.z,.z,.z,.z,.z,.f,.e]) (w9:=w3) (r:=(I.Km.zero,er,at_)) OW.o Ny.o rfl rfl rfl hne hA0 Qa HB3.o (.inl rfl) iQ));go_wp2_with fail
  go_region;all_goals
   go_wp2_with fail
   rw[Pv.o]
   have kk:=kA.o
   exact bodyPost_ret (dA rfl _ _ gA gF _ _ _ _ _ _ _ _ rfl rfl kk.1 kk.2.1 ag rfl (by rw[af];rfl) cw rfl cn) rfl kk.2.2
end
end Go.Proofs.YtnicfobpclehkaaGreatDoor
