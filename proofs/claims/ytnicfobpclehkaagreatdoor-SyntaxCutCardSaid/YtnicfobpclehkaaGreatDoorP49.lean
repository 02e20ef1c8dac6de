import Derived.Lib.SplitLaws
import Derived.Test.YtnicfobpclehkaaGreatDoorP44
import Derived.Test.YtnicfobpclehkaaGreatDoorP45
import Derived.Test.YtnicfobpclehkaaGreatDoorP48
set_option maxHeartbeats 25600000
set_option linter.unusedVariables false
set_option linter.unusedSimpArgs false
namespace Go.Proofs.YtnicfobpclehkaaGreatDoor
open Go.RowKit
section
namespace I
open Ev (Ex)
theorem nE{α:Type}{f:St→α×St}(h:NT f){st s:St}{a:α}(e:f st=(a,s)):ON st s:=by
 have:=h st;rw[e]at this;exact this
theorem De(T:Nat):NT (order T):=by
 intro st;unfold order;split;rename_i e s h;have h1:=nE (kX T) h;repeat' split
 ·exact h1.trans (da s)
 ·exact h1.trans (da s)
 ·exact h1
theorem zK(T:Nat):NT (source T):=by
 intro st;unfold source;split;rename_i e s h;have h1:=nE (jm T) h;split
 ·exact h1.trans ((da s).trans (jm T _))
 ·exact h1
theorem CF(T:Nat):NT (fV T):=by
 intro st;unfold fV;split
 ·exact(da st).trans (kX T _)
 ·exact ON.refl st
theorem oT(T:Nat):NT (fx T):=by
 intro st;unfold fx;split
 ·split
  ·simp only;split
   ·exact(dP (by decide) st).trans (da _)
   ·exact da st
  ·exact(dP (by decide) st).trans (da _)
 ·exact dP (by decide) st
theorem tQ(T:Nat):∀(f:Nat) (l:List Src) (st:St),ON st (ek T f l st).2.1:=by
 intro f;induction f with
 |zero=>exact fun l st=>ON.refl st
 |succ f ih=>
  intro l st;unfold ek;split
  ·split
   ·exact(da st).trans (oC T _)
   ·split;rename_i s s1 h1;split;rename_i e s2 h2;exact(da st).trans ((nE (zK T) h1).trans ((fa T _ s1).trans ((nE (kX T) h2).trans (ih _ _))))
  ·exact ON.refl st
theorem Ho{T:Nat}(q:NS):NT (nR T q):=by
 intro st;unfold nR;split
 ·exact(da st).trans ((fa T _ _).trans (om (kX T) _))
 ·exact ON.refl st
theorem GH{T:Nat}(q:NS):NT (nN T q):=by
 intro st;unfold nN;split
 ·exact(da st).trans ((fa T _ _).trans (om (De T) _))
 ·exact ON.refl st
theorem Hc{T:Nat}(q:NS):NT (nz T q):=by
 intro st;unfold nz;split
 ·exact(da st).trans (oT T _)
 ·exact ON.refl st
theorem wU{T:Nat}(q:NS):NT (oS T q):=by
 intro st;unfold oS;split;rename_i wh s h;split;rename_i q1 s1 h1;split;rename_i q2 s2 h2;exact(nE (CF T) h).trans ((nE (Ho _) h1).trans ((nE (GH _) h2).trans (Hc _ _)))
end I
end
section
namespace I
open Ev (Ex)
section
variable{T:Nat}
theorem vY{s:Bs}{st:St}(h:st.r=[]):acc s st=st:=by unfold acc;rw[if_neg (by rw[eJ h];decide)]
theorem tW:su T (fx T):=by
 intro st hr;unfold fx;have hk:dF st=0:=by unfold dF;rw[hr]
 rw[hk,if_neg (by decide)]
end
end I
end
namespace I
theorem BM{b:UInt8}{X:Bs}:∀{s:Bs},b ∉s→Lib.index (s++b::X) [b]=(s.length:Int):=by
 intro s;induction s with
 |nil=>intro _;simp[Lib.index,List.isPrefixOf]
 |cons a l ih=>
  intro h;have hb:¬b=a:=fun e=>h (by rw[e];exact ag)
  have e:Lib.index (a::(l++b::X)) [b]=if Lib.index (l++b::X) [b]== -1 then -1 else Lib.index (l++b::X) [b]+1:=by
   conv=>lhs;unfold Lib.index
   rw[if_neg];simp[List.isPrefixOf];exact hb
  have hi:=ih fun hm=>h (au _ hm)
  rw[List.cons_append,e,hi,if_neg (by simp),ab];omega
theorem MN{a:ByteArray}{l:Bs}(h:a.data.toList=l):a=bs l:=by
 cases a with
 |mk d=>simp only at h;subst h;simp[bs]
theorem KF{l:Bs}(i j:Nat):(bs l).extract i j=bs ((l.drop i).take (j-i)):=MN (by simp[bs,ByteArray.data_extract])
theorem xU:∀{l:List Bs},l≠[]→(∀s∈l,(32:UInt8) ∉s)→Lib.splitB ⟨#[32]⟩ 0 (Lib.countB (bs (di l)) ⟨#[32]⟩) (bs (di l))=l.map bs∧Lib.countB (bs (di l)) ⟨#[32]⟩+1=l.length:=by
 intro l;induction l with
 |nil=>intro h;exact absurd rfl h
 |cons s l ih=>
  intro _ h;have hs:=h s ag;cases l with
  |nil=>
   have hc:Lib.countB (bs (di [s])) ⟨#[32]⟩=0:=by show Lib.count (bs s).data.toList [32]=0;rw[dA,Lib.count_one,List.count_eq_zero];exact hs
   rw[hc];exact⟨rfl,rfl⟩
  |cons t r=>
   obtain⟨i1,i2⟩:=ih (by simp) fun x hx=>h x (au _ hx)
   have e:di (s::t::r)=s++32::di (t::r):=rfl;have hc:Lib.countB (bs (di (s::t::r))) ⟨#[32]⟩=Lib.countB (bs (di (t::r))) ⟨#[32]⟩+1:=by show Lib.count (bs (di (s::t::r))).data.toList [32]=Lib.count (bs (di (t::r))).data.toList [32]+1;rw[dA,dA,Lib.count_one,Lib.count_one,e,List.count_append,List.count_cons_self,List.count_eq_zero.2 hs];omega
   have hi:Lib.indexB (bs (di (s::t::r))) ⟨#[32]⟩=(s.length:Int):=by show Lib.index (bs (di (s::t::r))).data.toList [32]=_;rw[dA,e];exact BM hs
   rw[hc,Lib.splitB_hit _ _ _ _ s.length hi];have e1:(bs (di (s::t::r))).extract 0 (s.length+0)=bs s:=by rw[KF,e];simp
   have e2:(bs (di (s::t::r))).extract (s.length+(⟨#[32]⟩:ByteArray).size) (bs (di (s::t::r))).size=bs (di (t::r)):=by rw[KF,e];have h1:(⟨#[32]⟩:ByteArray).size=1:=rfl;rw[h1,qm];congr 1;rw[List.drop_append,List.drop_eq_nil_of_le (by omega)];simp;exact aS (by omega)
   rw[e1,e2,i1];exact⟨rfl,by rw[ab,←i2]⟩
end I
section
namespace I
open Ev (Ex Hd)
section
variable{st:St}{k:Nat}{t:Tok}{r:List Tok}
end
theorem tu{s:Bs}{st:St}(h:dh s st=true):∃t r,st.r=t::r:=by
 unfold dh at h;split at h
 ·cases h
 ·rename_i t r e;exact⟨t,r,e⟩
section
variable{α β:Type}{T T' N M m:Nat}{R:α→α→Prop}{f f' g g':St→α×St}{st:St}{p p':α×St}
end
end I
end
section
namespace I
open Ev (Ex Hd)
section
variable{α β:Type}{T T':Nat}{f f' g g':St→α×St}
theorem K.ite(c:Prop)[Decidable c](h:K T' f f')(k:K T' g g'):K T' (fun st=>if c then f st else g st) (fun st=>if c then f' st else g' st):=by
 by_cases hc:c
 ·simp only[if_pos hc];exact h
 ·simp only[if_neg hc];exact k
theorem K.Fx(l:List Bs)(a:α):K T' (fun st=>(a,expect T l st)) (fun st=>(a,expect T' l st)):=K.exp l (K.ret a)
end
section
variable{T T':Nat}
theorem Ky:K T' (row T) (row T'):=K.inside (K.list 16 K.expr)
theorem Fv:K T' (action T) (action T'):=K.acc (α:=UInt8) (s:=[111,110]) (f:=fun st=>match choose T 0 [[114,101,115,116,114,105,99,116],[99,97,115,99,97,100,101],[115,101,116]] (expect T [[100,101,108,101,116,101]] st)with
 |(i,st)=>if i=2 then(2,expect T [[110,117,108,108]] st)else(if i=1 then 1 else 0,st)) (f':=fun st=>match choose T' 0 [[114,101,115,116,114,105,99,116],[99,97,115,99,97,100,101],[115,101,116]] (expect T' [[100,101,108,101,116,101]] st)with
 |(i,st)=>if i=2 then(2,expect T' [[110,117,108,108]] st)else(if i=1 then 1 else 0,st)) (K.exp (T:=T) [[100,101,108,101,116,101]] (K.bind (F:=fun i st=>if i=2 then((2:UInt8),expect T [[110,117,108,108]] st)else(if i=1 then 1 else 0,st)) (F':=fun i st=>if i=2 then((2:UInt8),expect T' [[110,117,108,108]] st)else(if i=1 then 1 else 0,st)) (K.choose (T:=T) [[114,101,115,116,114,105,99,116],[99,97,115,99,97,100,101],[115,101,116]] 0) fun i=>K.ite (i=2) (K.Fx [[110,117,108,108]] (2:UInt8)) (K.ret _))) (K.ret 0)
theorem LM(c:Oj):K T' (fW T c) (fW T' c):=K.acc (f:=fun st=>({c with pr:=true},expect T [[107,101,121]] st)) (f':=fun st=>({c with pr:=true},expect T' [[107,101,121]] st)) (K.Fx _ _) (K.ret c)
theorem LO(c:Oj):K T' (iu T c) (iu T' c):=K.acc (f:=fun st=>({c with nn:=true},expect T [[110,117,108,108]] st)) (f':=fun st=>({c with nn:=true},expect T' [[110,117,108,108]] st)) (K.Fx _ _) (K.ret c)
theorem K4(c:Oj):K T' (iM c) (iM c):=K.acc (f:=fun st=>({c with un:=true},st)) (f':=fun st=>({c with un:=true},st)) (K.ret _) (K.ret c)
theorem LF(c:Oj):K T' (kH T c) (kH T' c):=K.acc (f:=fun st=>({c with ck:=[(inside T (expr T) st).1]},(inside T (expr T) st).2)) (f':=fun st=>({c with ck:=[(inside T' (expr T') st).1]},(inside T' (expr T') st).2)) (K.fst (F:=fun e=>{c with ck:=[e]}) (K.inside K.expr)) (K.ret c)
theorem LX(c:Oj):K T' (lF T c) (lF T' c):=K.acc (f:=fun st=>({c with rf:=(name T st).1,ac:=(action T (name T st).2).1},(action T (name T st).2).2)) (f':=fun st=>({c with rf:=(name T' st).1,ac:=(action T' (name T' st).2).1},(action T' (name T' st).2).2)) (K.bind (F:=fun n st=>({c with rf:=n,ac:=(action T st).1},(action T st).2)) (F':=fun n st=>({c with rf:=n,ac:=(action T' st).1},(action T' st).2)) K.name fun n=>K.fst (F:=fun a=>{c with rf:=n,ac:=a}) Fv) (K.ret c)
theorem Mh:K T' (fp T) (fp T'):=K.bind (β:=Oj) (F:=fun n st=>match choose T 0 [[105,110,116],[100,101,99],[98,111,111,108],[116,101,120,116],[98,121,116,101,115]] st with
 |(i,st)=>(⟨n,kinds.getD i 0,false,false,false,[],[],0⟩,st)) (F':=fun n st=>match choose T' 0 [[105,110,116],[100,101,99],[98,111,111,108],[116,101,120,116],[98,121,116,101,115]] st with
 |(i,st)=>(⟨n,kinds.getD i 0,false,false,false,[],[],0⟩,st)) K.name fun n=>K.fst (F:=fun i=>(⟨n,kinds.getD i 0,false,false,false,[],[],0⟩:Oj)) (K.choose (T:=T) [[105,110,116],[100,101,99],[98,111,111,108],[116,101,120,116],[98,121,116,101,115]] 0)
theorem Ek:K T' (column T) (column T'):=K.bind (F:=fun c st=>match fW T c st with
 |(c,st)=>match iu T c st with
  |(c,st)=>match iM c st with
   |(c,st)=>match kH T c st with
    |(c,st)=>lF T c st) (F':=fun c st=>match fW T' c st with
 |(c,st)=>match iu T' c st with
  |(c,st)=>match iM c st with
   |(c,st)=>match kH T' c st with
    |(c,st)=>lF T' c st) Mh fun c=>K.bind (LM c) fun c=>K.bind (LO c) fun c=>K.bind (K4 c) fun c=>K.bind (LF c) fun c=>LX c
theorem Jk:K T' (table T) (table T'):=K.bind K.name fun n=>K.fst (F:=fun cs=>{NC.of 1 with nm:=n,NH:=cs}) (K.inside (K.list 12 Ek))
theorem Mp:K T' (item T) (item T'):=K.bind K.expr fun e=>K.acc (K.fst (F:=fun n=>(⟨e,n⟩:Qq)) K.name) (K.ret ⟨e,[]⟩)
theorem yl:K T' (source T) (source T'):=K.bind K.name fun n=>K.acc (K.fst (F:=fun a=>(⟨n,a,[]⟩:Src)) K.name) (K.ret ⟨n,[],[]⟩)
theorem JO:K T' (order T) (order T'):=K.bind K.expr fun e=>K.acc (K.ret (⟨e,false⟩:Ord)) (K.acc (K.ret (⟨e,true⟩:Ord)) (K.ret (⟨e,false⟩:Ord)))
theorem ve:K T' (fV T) (fV T'):=K.acc (K.fst (F:=fun e=>[e]) K.expr) (K.ret [])
theorem Jr:K T' (fx T) (fx T'):=.mk' (oT T) (oT T') tW.eo fun st m ok NJ=>by
 rcases eL m st with hr|⟨j,t,r,rfl,er⟩
 ·exact .any (Fin.app tW.eo (gI hr ok))
 ·unfold fx at NJ⊢;rw[pg er,zU er,dV];split at NJ
  ·rename_i h1;rw[if_pos h1,if_pos h1];split at NJ
   ·rename_i h2;rw[if_pos h2,if_pos h2];by_cases h3:1000000<(kh (QO st)).1
    ·simp only[if_pos h3]at NJ;exact absurd NJ.1 (ea (by decide))
    ·rw[if_neg h3,if_neg h3];exact .same j rfl
   ·exact absurd NJ.1 (ea (by decide))
  ·exact absurd NJ.1 (ea (by decide))
theorem Mm(q:NS):K T' (nR T q) (nR T' q):=K.acc (f:=fun st=>({q with gr:=(list T 16 (expr T) (expect T [[98,121]] st)).1},(list T 16 (expr T) (expect T [[98,121]] st)).2)) (f':=fun st=>({q with gr:=(list T' 16 (expr T') (expect T' [[98,121]] st)).1},(list T' 16 (expr T') (expect T' [[98,121]] st)).2)) (K.exp [[98,121]] (K.fst (F:=fun l=>{q with gr:=l}) (K.list 16 K.expr))) (K.ret q)
theorem LY(q:NS):K T' (nN T q) (nN T' q):=K.acc (f:=fun st=>({q with od:=(list T 16 (order T) (expect T [[98,121]] st)).1},(list T 16 (order T) (expect T [[98,121]] st)).2)) (f':=fun st=>({q with od:=(list T' 16 (order T') (expect T' [[98,121]] st)).1},(list T' 16 (order T') (expect T' [[98,121]] st)).2)) (K.exp [[98,121]] (K.fst (F:=fun l=>{q with od:=l}) (K.list 16 JO))) (K.ret q)
theorem K9(q:NS):K T' (nz T q) (nz T' q):=K.acc (f:=fun st=>({q with lim:=(fx T st).1},(fx T st).2)) (f':=fun st=>({q with lim:=(fx T' st).1},(fx T' st).2)) (K.fst (F:=fun l=>{q with lim:=l}) Jr) (K.ret q)
theorem Mi:K T' (px T) (px T'):=K.acc (f:=fun st=>(⟨true,[],[],[],[],[],-1⟩,st)) (f':=fun st=>(⟨true,[],[],[],[],[],-1⟩,st)) (K.ret _) (K.fst (F:=fun l=>(⟨false,l,[],[],[],[],-1⟩:NS)) (K.list 16 Mp))
theorem Al(q:NS):K T' (oS T q) (oS T' q):=K.bind ve fun wh=>K.bind (Mm {q with wh:=wh}) fun q=>K.bind (LY q) fun q=>K9 q
theorem yO(n:Nat)(l:List Src)(st:St):ON st (ek T n l st).2.1:=tQ T n l st
theorem tw{n:Nat}{l:List Src}{st:St}(h:st.r=[]):ek T n l st=(l,st,false):=by
 cases n with
 |zero=>rfl
 |succ n=>unfold ek;rw[if_neg (by rw[eJ h];decide)]
theorem GF:∀(n n':Nat) (l:List Src) (st:St) (m:Nat),st.r.length<n→(tk m st).r.length<n'→Ok st→Ok (ek T n l st).2.1→(ek T n l st).2.2=false∧((∃k,ek T' n' l (tk m st)=((ek T n l st).1,tk k (ek T n l st).2.1,false))∨(Fin T' (ek T' n' l (tk m st)).2.1∧(ek T' n' l (tk m st)).2.2=false)):=by
 intro n;induction n with
 |zero=>intro n' l st m hn;omega
 |succ n ih=>
  intro n' l st m hn hn' ok NJ;obtain⟨n',rfl⟩:∃k,n'=k+1:=⟨n'-1,by omega⟩;unfold ek at NJ⊢;by_cases ha:dh [106,111,105,110] st=true
  ·rw[if_pos ha]at NJ⊢;by_cases hl:16<l.length
   ·rw[if_pos hl]at NJ;exact absurd NJ.1 lr
   ·rw[if_neg hl]at NJ⊢;simp only at NJ⊢;have kk:K T' (fun st=>(fun(s:Src) st=>((s,(expr T (expect T [[111,110]] st)).1),(expr T (expect T [[111,110]] st)).2)) (source T st).1 (source T st).2) (fun st=>(fun(s:Src) st=>((s,(expr T' (expect T' [[111,110]] st)).1),(expr T' (expect T' [[111,110]] st)).2)) (source T' st).1 (source T' st).2):=
     K.bind yl fun s=>K.exp (T:=T) [[111,110]] (K.fst (F:=fun e=>(s,e)) K.expr)
    have o1:Ok (expr T (expect T [[111,110]] (source T (next st)).2)).2:=Ok.back (tQ T _ _ _) NJ;have hs:=(kk.ev (next st)).s.length_le;rcases eL m st with hr|⟨j,t,r,rfl,er⟩
    ·rw[if_neg (show¬dh [106,111,105,110] (tk m st)=true by rw[eJ hr];decide)];refine⟨?_,.inr ⟨gI hr ok,rfl⟩⟩;exact(ih (n+1) _ _ (ek T n (l++[{(source T (next st)).1 with on:=[(expr T (expect T [[111,110]] (source T (next st)).2)).1]}]) (expr T (expect T [[111,110]] (source T (next st)).2)).2).1.length (by
      obtain⟨t,r,er⟩:=tu ha
      have hx:(next st).r.length+1=st.r.length:=by unfold next;simp only[er,bI,ab]
      simp only at hs
      omega) (by
      have:=Es (ek T n (l++[{(source T (next st)).1 with on:=[(expr T (expect T [[111,110]] (source T (next st)).2)).1]}]) (expr T (expect T [[111,110]] (source T (next st)).2)).2).1.length (expr T (expect T [[111,110]] (source T (next st)).2)).2
      obtain⟨t,r,er⟩:=tu ha
      have hx:(next st).r.length+1=st.r.length:=by unfold next;simp only[er,bI,ab]
      simp only at hs
      omega) o1 NJ).1
    ·rw[fg er,if_pos ha,if_neg hl,dV];have hx:(next st).r.length+1=st.r.length:=by unfold next;simp only[er,bI,ab]
     have hx2:(tk j (next st)).r.length+1=(tk (j+1) st).r.length:=by rw[←dV];unfold next;rw[ou er];simp
     simp only at hs;rcases kk.go (next st) j ok o1 with⟨k,q⟩|⟨q,_⟩
     ·have h9:=(kk.ev' (tk j (next st))).s.length_le;rw[q]at h9;simp only at h9 q;have q1:=congrArg (fun p:(Src×Ex)×St=>p.1.1) q;have q2:=congrArg (fun p:(Src×Ex)×St=>p.1.2) q;have q3:=congrArg (fun p:(Src×Ex)×St=>p.2) q;simp only at q1 q2 q3;rw[q1,q2,q3];exact ih n' _ _ k (by omega) (by omega) o1 NJ
     ·simp only at q;refine⟨(ih (n+1) _ _ 0 (by omega) (Nat.succ_pos _) o1 NJ).1,.inr ?_⟩;rw[tw q.1];exact⟨q,rfl⟩
  ·rw[if_neg ha]at NJ⊢;refine⟨rfl,?_⟩;rcases eL m st with hr|⟨j,t,r,rfl,er⟩
   ·rw[if_neg (show¬dh [106,111,105,110] (tk m st)=true by rw[eJ hr];decide)];exact .inr ⟨gI hr ok,rfl⟩
   ·rw[fg er,if_neg ha];exact .inl ⟨j+1,rfl⟩
theorem Ke(q:NS)(s:Src):K T' (fun st=>match ek T (st.r.length+1) [s] st with
 |(l,st,true)=>({q with fr:=l},st)
 |(l,st,false)=>oS T {q with fr:=l} st) (fun st=>match ek T' (st.r.length+1) [s] st with
 |(l,st,true)=>({q with fr:=l},st)
 |(l,st,false)=>oS T' {q with fr:=l} st):=by
 have ev:∀(T:Nat),NT (fun st=>match ek T (st.r.length+1) [s] st with
  |(l,st,true)=>({q with fr:=l},st)
  |(l,st,false)=>oS T {q with fr:=l} st):=fun T st=>by
  have h:=yO (T:=T) (st.r.length+1) [s] st
  simp only
  generalize ek T (st.r.length+1) [s] st=p at h⊢
  obtain⟨l,st2,b⟩:=p
  cases b with
  |true=>exact h
  |false=>exact h.trans (wU _ _)
 refine .mk' (ev T) (ev T') (fun st hr=>?_) fun st m ok NJ=>?_
 ·rw[tw hr];exact(Al (T:=T) {q with fr:=[s]}).eo st hr
 ·have hj:Ok (ek T (st.r.length+1) [s] st).2.1:=by
   generalize ek T (st.r.length+1) [s] st=p at NJ⊢;obtain⟨l,st2,b⟩:=p;cases b with
   |true=>exact NJ
   |false=>exact Ok.back (wU _ _) NJ
  obtain⟨hb,h⟩:=GF (T:=T) (T':=T') (st.r.length+1) ((tk m st).r.length+1) [s] st m (bw _) (bw _) ok hj;generalize ek T (st.r.length+1) [s] st=p at NJ hb h hj⊢;obtain⟨l,st2,b⟩:=p;simp only at hb h hj;subst hb;rcases h with⟨k,h⟩|⟨h,h2⟩
  ·rw[h];exact(Al {q with fr:=l}).go st2 k hj NJ
  ·generalize ek T' ((tk m st).r.length+1) [s] (tk m st)=p at h h2⊢;obtain⟨l',st3,b'⟩:=p;simp only at h h2;subst h2;exact .any (Fin.app (Al (T:=T) {q with fr:=l'}).eo h)
theorem KC:K T' (selection T) (selection T'):=K.bind Mi fun q=>K.exp (T:=T) [[102,114,111,109]] (K.bind yl fun s=>Ke q s)
theorem K6:K T' (drop T) (drop T'):=K.bind (K.choose (T:=T) [[116,97,98,108,101],[118,105,101,119],[116,114,105,103,103,101,114],[112,111,108,105,99,121]] 0) fun i=>K.fst (F:=fun n=>{NC.of ([2,4,6,8].getD i 0)with nm:=n}) K.name
theorem K8:K T' (view T) (view T'):=K.bind K.name fun n=>K.exp (T:=T) [[97,115],[115,101,108,101,99,116]] (K.fst (F:=fun q=>{NC.of 3 with nm:=n,q:=[q]}) KC)
theorem BH:K T' (fh T) (fh T'):=K.bind K.name fun n=>K.exp (T:=T) [[97,102,116,101,114]] (K.bind (K.choose (T:=T) [[105,110,115,101,114,116],[117,112,100,97,116,101],[100,101,108,101,116,101]] 0) fun i=>K.exp (T:=T) [[111,110]] (K.bind K.name fun on=>K.exp (T:=T) [[105,110,115,101,114,116],[105,110,116,111]] (K.bind K.name fun to_=>K.exp (T:=T) [[118,97,108,117,101,115]] (K.fst (F:=fun v=>{NC.of 5 with nm:=n,ev:=[14,15,16].getD i 0,on:=on,NG:=to_,vals:=[v]}) Ky))))
theorem Hu:K T' (fN T) (fN T'):=K.bind K.name fun n=>K.exp (T:=T) [[111,110]] (K.bind K.name fun on=>K.exp (T:=T) [[116,111]] (K.bind K.name fun to_=>K.exp (T:=T) [[117,115,105,110,103]] (K.fst (F:=fun e=>{NC.of 7 with nm:=n,on:=on,NG:=to_,wh:=[e]}) (K.inside K.expr))))
theorem M9(s:NC)(F:Bs→NC):K T' (fun st=>if dF st=3 then(F (QO st),next st)else(s,fail T 300 st)) (fun st=>if dF st=3 then(F (QO st),next st)else(s,fail T' 300 st)):=by
 have ev:∀T:Nat,NT (fun st=>if dF st=3 then(F (QO st),next st)else(s,fail T 300 st)):=fun T st=>by
  simp only
  split
  ·exact da st
  ·exact dP (by decide) st
 refine .mk' (ev T) (ev T') (fun st hr=>?_) fun st m ok NJ=>?_
 ·rw[if_neg (show¬dF st=3 by unfold dF;rw[hr];decide)];exact .inr rfl
 ·rcases eL m st with hr|⟨j,t,r,rfl,er⟩
  ·rw[if_neg (show¬dF (tk m st)=3 by unfold dF;rw[hr];decide)];exact .any (oM (gI hr ok)).1
  ·rw[pg er,zU er,dV];split at NJ
   ·rename_i h;rw[if_pos h,if_pos h];exact .same j rfl
   ·exact absurd NJ.1 (ea (by decide))
theorem Kw(n:Bs):K T' (fun st=>if dh [107,101,121] st=true then(fun st=>if dF st=3 then({NC.of 9 with nm:=n,key:=QO st},next st)else({NC.of 9 with nm:=n},fail T 300 st)) (next st)else({NC.of 9 with nm:=n},st)) (fun st=>if dh [107,101,121] st=true then(fun st=>if dF st=3 then({NC.of 9 with nm:=n,key:=QO st},next st)else({NC.of 9 with nm:=n},fail T' 300 st)) (next st)else({NC.of 9 with nm:=n},st)):=K.acc (M9 (T:=T) {NC.of 9 with nm:=n} fun k=>{NC.of 9 with nm:=n,key:=k}) (K.ret _)
theorem Lb:K T' (role T) (role T'):=K.bind K.name Kw
theorem Mn:K T' (lH T) (lH T'):=K.fst (F:=fun i=>UInt8.ofNat (i+1)) (K.choose (T:=T) [[115,101,108,101,99,116],[105,110,115,101,114,116],[117,112,100,97,116,101],[100,101,108,101,116,101]] 0)
theorem Jv:K T' (fi T) (fi T'):=K.acc (f:=fun st=>(([1,2,3,4]:List UInt8),st)) (f':=fun st=>(([1,2,3,4]:List UInt8),st)) (K.ret _) (K.list 16 Mn)
theorem k_sh(r p:UInt8):K T' (fun st=>if named st=true then(NC.of r,st)else({NC.of p with pv:=(fi T st).1},expect T [[111,110]] (fi T st).2)) (fun st=>if named st=true then(NC.of r,st)else({NC.of p with pv:=(fi T' st).1},expect T' [[111,110]] (fi T' st).2)):=by
 have k:K T' (fun st=>({NC.of p with pv:=(fi T st).1},expect T [[111,110]] (fi T st).2)) (fun st=>({NC.of p with pv:=(fi T' st).1},expect T' [[111,110]] (fi T' st).2)):=K.bind (F:=fun l st=>({NC.of p with pv:=l},expect T [[111,110]] st)) (F':=fun l st=>({NC.of p with pv:=l},expect T' [[111,110]] st)) Jv fun l=>K.Fx (T:=T) _ _
 refine .mk' (fun st=>?_) (fun st=>?_) (fun st hr=>?_) fun st m ok NJ=>?_
 ·split
  ·exact ON.refl st
  ·exact k.ev st
 ·split
  ·exact ON.refl st
  ·exact k.ev' st
 ·rw[if_neg (show¬named st=true by unfold named;rw[hr];decide)];exact k.eo st hr
 ·rcases eL m st with hr|⟨j,t,r,rfl,er⟩
  ·rw[if_neg (show¬named (tk m st)=true by unfold named;rw[hr];decide)];exact .any (Fin.app k.eo (gI hr ok))
  ·rw[wS er];split at NJ
   ·rename_i h;rw[if_pos h,if_pos h];exact .same (j+1) rfl
   ·rename_i h;rw[if_neg h,if_neg h];exact k.go st (j+1) ok NJ
theorem Be(r p:UInt8)(w:Bs):K T' (share T r p w) (share T' r p w):=K.bind (k_sh r p) fun s=>K.bind K.name fun n=>K.exp (T:=T) [w] (K.fst (F:=fun on=>{s with nm:=n,on:=on}) K.name)
theorem Kt:K T' (fE T) (fE T'):=by
 refine K.bind (F:=fun s st=>if s.k=12∧dh [119,105,116,104] st=true then({s with opt:=true},expect T [[103,114,97,110,116],[111,112,116,105,111,110]] (next st))else(s,st)) (F':=fun s st=>if s.k=12∧dh [119,105,116,104] st=true then({s with opt:=true},expect T' [[103,114,97,110,116],[111,112,116,105,111,110]] (next st))else(s,st)) (Be 10 12 [116,111]) fun s=>?_
 by_cases h:s.k=12
 ·simp only[h,true_and];exact K.acc (K.Fx (T:=T) _ _) (K.ret s)
 ·simp only[h,false_and,bx];exact K.ret s
theorem Hj:K T' (gj T) (gj T'):=Be 11 13 [102,114,111,109]
theorem Gw:K T' (insert T) (insert T'):=K.exp (T:=T) [[105,110,116,111]] (K.bind K.name fun n=>K.exp (T:=T) [[118,97,108,117,101,115]] (K.fst (F:=fun v=>{NC.of 14 with nm:=n,vals:=v}) (K.list 16 Ky)))
theorem Md:K T' (ny T) (ny T'):=K.bind K.name fun n=>K.exp (T:=T) [[61]] (K.fst (F:=fun e=>(⟨n,e⟩:OI)) K.expr)
theorem EA:K T' (update T) (update T'):=K.bind K.name fun n=>K.exp (T:=T) [[115,101,116]] (K.bind (K.list 16 Md) fun l=>K.fst (F:=fun w=>{NC.of 15 with nm:=n,dD:=l,wh:=w}) ve)
theorem EU:K T' (remove T) (remove T'):=K.exp (T:=T) [[102,114,111,109]] (K.bind K.name fun n=>K.fst (F:=fun w=>{NC.of 16 with nm:=n,wh:=w}) ve)
theorem J7:K T' (query T) (query T'):=K.fst (F:=fun q=>{NC.of 17 with q:=[q]}) KC
end
end I
end
section
namespace I
open Ev (Ex Hd)
section
variable{T T':Nat}
theorem BD:K T' (pick T []) (pick T' []):=.mk' (fun st=>dP (by decide) st) (fun st=>dP (by decide) st) (fun _ _=>.inr rfl) fun _ _ _ NJ=>absurd NJ.1 (ea (by decide))
theorem fC{w:Bs}{f f':St→NC×St}{l l':List (Bs×(St→NC×St))}(h:K T' f f')(hl:K T' (pick T l) (pick T' l')):K T' (pick T ((w,f)::l)) (pick T' ((w,f')::l')):=K.acc h hl
theorem ET:K T' (create T) (create T'):=fC Jk (fC K8 (fC BH (fC Hu (fC Lb BD))))
theorem JD:K T' (pick T (mh T)) (pick T' (mh T')):=fC ET (fC K6 (fC Kt (fC Hj (fC Gw (fC EA (fC EU (fC J7 (fC (K.ret _) (fC (K.ret _) (fC (K.ret _) BD))))))))))
theorem Gj(s:Bs)(st:St):(acc s st).e=st.e∧(acc s st).d=st.d∧(acc s st).c=st.c:=by
 unfold acc;split<;>exact⟨rfl,rfl,rfl⟩
theorem Ja{l:List Tok}(h:Ok (run T l).2)(n:Nat):Ok (run T' (l.take n)).2∨((run T' (l.take n)).2.e=300∧(run T' (l.take n)).2.c=T'):=by
 obtain⟨p,hp⟩:∃p,p=pick T (mh T) ⟨l,0,0,false⟩:=⟨_,rfl⟩;obtain⟨p',hp'⟩:∃p',p'=pick T' (mh T') ⟨l.take n,0,0,false⟩:=⟨_,rfl⟩;have e1:(run T l).2=if(acc [59] p.2).r=[]then acc [59] p.2 else fail T 300 (acc [59] p.2):=by rw[hp];rfl
 have e2:(run T' (l.take n)).2=if(acc [59] p'.2).r=[]then acc [59] p'.2 else fail T' 300 (acc [59] p'.2):=by rw[hp'];rfl
 rw[e1]at h;have hr:(acc [59] p.2).r=[]:=by apply Classical.byContradiction;intro hn;rw[if_neg hn]at h;exact ea (by decide) h.1
 rw[if_pos hr]at h;obtain⟨a1,a2,_⟩:=Gj [59] p.2;have okp:Ok p.2:=⟨a1▸h.1,a2▸h.2⟩;have ok0:Ok (⟨l,0,0,false⟩:St):=⟨rfl,rfl⟩;have hk:=(JD (T:=T) (T':=T')).go ⟨l,0,0,false⟩ n ok0 (by rw[←hp];exact okp);have et:tk n ⟨l,0,0,false⟩=(⟨l.take n,0,0,false⟩:St):=rfl;rw[et,←hp,←hp']at hk;rw[e2];rcases hk with⟨m,q⟩|⟨q,_⟩
 ·have hz:(acc [59] p'.2).r=[]:=by
   rw[q];rcases eL m p.2 with h0|⟨k,t,r,rfl,er⟩
   ·rw[vY h0];exact h0
   ·unfold acc at hr⊢;rw[fg er];split at hr
    ·rename_i ha;rw[if_pos ha,dV];unfold tk;simp only[hr,List.take_nil]
    ·rw[er]at hr;cases hr
  rw[if_pos hz];obtain⟨b1,b2,_⟩:=Gj [59] p'.2;exact .inl ⟨by rw[b1,q];exact okp.1,by rw[b2,q];exact okp.2⟩
 ·rw[vY q.1,if_pos q.1];rcases q.2 with w|w
  ·exact .inl w
  ·exact .inr w
end
theorem Ej:∀{l:List Bs} {ts:List BT} (a:Nat),NL l ts→Lex.run a (di l)=.ok (fy a l ts):=by
 intro l;induction l with
 |nil=>intro ts a _;exact Lex.iG rfl
 |cons s l ih=>
  intro ts a h;cases ts with
  |nil=>exact absurd h id
  |cons t r=>
   cases l with
   |nil=>
    cases r with
    |nil=>
     have:=kT (a:=a) (R:=[]) h.1 Lex.An (Lex.iG rfl);rw[bF]at this;exact this
    |cons u r=>exact absurd h.2 id
   |cons s2 l=>
    show Lex.run a (s++32::di (s2::l))=.ok ((t.1,t.2,a)::fy (a+s.length+1) (s2::l) r);exact kT h.1 (Lex.qR _) (by rw[Lex.uC];exact ih _ h.2)
theorem Ce:∀(n:Nat) (l:List Bs) (ts:List BT) (a:Nat),fy a (l.take n) (ts.take n)=(fy a l ts).take n:=by
 intro n;induction n with
 |zero=>intro l ts a;simp[fy]
 |succ n ih=>
  intro l ts a;cases l with
  |nil=>simp[fy]
  |cons s l=>
   cases ts with
   |nil=>simp[fy]
   |cons t r=>simp only[List.take_succ_cons,fy];rw[ih]
theorem EY:∀(n:Nat) {l:List Bs} {ts:List BT},NL l ts→NL (l.take n) (ts.take n):=by
 intro n;induction n with
 |zero=>intro l ts _;simp[NL]
 |succ n ih=>
  intro l ts h;cases l with
  |nil=>
   cases ts with
   |nil=>exact h
   |cons t r=>exact absurd h id
  |cons s l=>
   cases ts with
   |nil=>exact absurd h id
   |cons t r=>exact⟨h.1,ih h.2⟩
theorem Co:∀{l:List Bs} {ts:List BT} (a:Nat),NL l ts→Lex.bare (fy a l ts)=ts:=by
 intro l;induction l with
 |nil=>
  intro ts a h;cases ts with
  |nil=>rfl
  |cons t r=>exact absurd h id
 |cons s l ih=>
  intro ts a h;cases ts with
  |nil=>exact absurd h id
  |cons t r=>
   show(t.1,t.2)::Lex.bare (fy (a+s.length+1) l r)=t::r;rw[ih _ h.2]
theorem AE:∀(n:Nat) (l:List Bs),sz (l.take n)≤sz l:=by
 intro n;induction n with
 |zero=>intro l;simp[sz]
 |succ n ih=>
  intro l;cases l with
  |nil=>simp
  |cons s l=>
   rw[List.take_succ_cons,cU,cU];have:=ih l;omega
theorem Gb{s:NC}(hs:Pu s)(hz:sz (pS s)≤4097)(n:Nat):(parse (di ((pS s).take n))).2=(0,0)∨(parse (di ((pS s).take n))).2=(300,(di ((pS s).take n)).length):=by
 have hp:=rq hs;have hl:(di ((pS s).take n)).length≤4096:=by have h1:=(kM ((pS s).take n)).1;have h2:=AE n (pS s);omega
 obtain⟨r1,r2,r3⟩:=run_read (T:=0) hs (l:=fy 0 (pS s) (bS s)) (.inl (Co 0 hp));have ht:Lex.told (di ((pS s).take n))=((fy 0 (pS s) (bS s)).take n,0,0):=by rw[Lex.qT _ (by omega),Ej 0 (EY n hp),Ce]
 rw[rD ht];rcases Ja (T':=(di ((pS s).take n)).length) ⟨r2,r3⟩ n with h|⟨h1,h2⟩
 ·rw[if_neg (by rw[h.1];simp),if_neg (by rw[h.2];simp)];exact .inl rfl
 ·rw[if_pos (by rw[h1];decide),h1,h2];exact .inr rfl
end I
end
theorem Gg(x n:Int)(hn:0<n)(h:x.tmod n<0):x.tmod n+n=x%n:=by
 have e:=Int.tmod_eq_emod (a:=x) (b:=n);have h1:=Int.emod_nonneg x (show n≠0 by omega);split at e<;>omega
theorem Ea(x n:Int)(hn:0<n)(h:0≤x.tmod n):x.tmod n=x%n:=by
 have e:=Int.tmod_eq_emod (a:=x) (b:=n);have h1:=Int.emod_lt_of_pos x hn;split at e<;>omega
theorem wM(x n:Int)(w:World)(hn:0<n)(hn2:n≤9223372036854775807):
 Calls Tryz.prog 20 #[.int .i64 x,.int .i64 n] w fun e w'=>e=.returned (.int .i64 (x%n))∧w=w':=by
 go_enter Tryz.func20,Tryz.ntmps20;go_wp2
 ·have h:x.tmod n<0:=by assumption
  have h2:=Int.emod_nonneg x (show n≠0 by omega);have h3:=Int.emod_lt_of_pos x hn;go_ret;refine⟨kj ?_,rfl⟩;rw[Gg x n hn h];exact IntWalk.wrap64_in _ (by omega)
 ·have h:0≤x.tmod n:=by assumption
  go_ret;refine⟨kj ?_,rfl⟩;rw[Ea x n hn h]
section
set_option maxRecDepth 100000
theorem I.Lv:∀l:List I.Bs,l.length≤I.sz l:=by
 intro l;induction l with
 |nil=>simp
 |cons s l ih=>rw[I.cU,ab];omega
theorem I.xN{l:List I.Bs}(h:I.sz l≤4097)(k:Nat):(I.di (l.take k)).length≤4096:=by
 have h1:=(I.kM (l.take k)).1;have h2:=I.AE k l;omega
theorem Hx{w:World}{g:Nat}{l:List I.Bs}{n k:Nat}(hb:NA w g 9 ((l.map I.bs).map Value.string).toArray)(hn:n=l.length)(hk:k<n)(hn1:n≤4097)(hz:I.sz l≤4097):
 Calls Tryz.prog 21 #[.slice (some ⟨g,0,none⟩) k n,.string ⟨#[32]⟩] w fun e w'=>e=.returned (.string (I.bs (I.di (l.take k))))∧Below w.heap.size w w':=by
 have hl:((l.take k).map I.bs).length=k:=by rw[cj,aP];omega
 have he:(((l.take k).map I.bs).map fun x=>x.data.toList)=l.take k:=by
  rw[List.map_map];conv=>rhs;rw[←List.map_id (l.take k)]
  congr 1
 have hj:Go.Lib.join (((l.take k).map I.bs).map fun x=>x.data.toList) ((⟨#[32]⟩:ByteArray).data.toList)=I.di (l.take k):=by rw[he];exact I.join_eq _
 have hlen:=I.xN hz k;have cc:=Tryz.strings_Join g 0 n ((l.take k).map I.bs) ⟨#[32]⟩ w (fun j x hx=>by
  have hjk:j<k:=by have:=(ay.1 hx).1;omega
  rw[aW,hb.cell j]
  rw[bf,List.getElem?_take,if_pos hjk]at hx
  cases hq:l[j]? with
  |none=>rw[hq]at hx;cases hx
  |some y=>
   rw[hq]at hx
   injection hx with hx
   rw[←hx]
   simp[hq]) hb.lt (by omega) (by omega) (by rw[hj];omega)
 rw[hl,hj]at cc;exact cc
theorem cutlaw_any(cs:List Value)(s:I.NC)(a:Int)(w:World)(hE:PD w)(hx:df.R w (fun b=>b<w.heap.size) cs s)(hsm:Py s)(hlm:Qp s)(ha: -9223372036854775808≤a∧a≤9223372036854775807):
 Calls Tryz.prog 7 #[.agg cs.toArray,.int .i64 a] w fun e w'=>e=.returned (.bool true)∧Below w.heap.size w w':=by
 have h0:0<w.heap.size:=by have:=hE.six;omega
 have H0:=cN h0;have HE:=cN hE;have HX:=cN hx;have Qk:=cN hsm;have Qw:=cN hlm;have IS:∀{l:List Value},l.length=13→(Tryz.prog.info? 30).map (·.size)=some l.length:=fun h=>by rw[h];kernel_rfl
 have lX:=cN (df.len hx);have F0:=cN (Fr.start h0 (jD w));clear hE hx hsm hlm h0;go_enter Tryz.func7,Tryz.ntmps7;go_upto_region 1 with fail
 refine P8 fun w1 hw=>?_
 have F1:Hid (Fr 0 w [(w.heap.size,30,cs.toArray)] [] (Kp w) w1):=by rw[hw];exact F0.o.new 30 cs.toArray
 have Q0:=cN (El.up (E:=df) HX.o (F1.o.bel));clear hw F0;obtain⟨gB,hgB⟩:∃g,g=w.heap.size:=⟨_,rfl⟩;rw[←hgB]at F1⊢;clear hgB;have RB:=cN (F1.o.jc (t:=30) (b:=gB) (cs:=cs) ag);go_wp2_with (refine j0 rfl rfl rfl RB.o (by kernel_rfl) (IS lX.o) ?_)
 with_reducible refine(Fr.copy F1.o (s:=s) Q0.o Qw.o).mono ?_
 rintro e w2 ⟨cs2,rfl,hF⟩;have F2:=cN hF;clear hF F1 RB Q0;go_wp2_with fail
 obtain⟨r,hr⟩:∃r,r=I.NM s:=⟨_,rfl⟩;have Su:=cN hr;with_reducible refine(Fr.print F2.o HE.o (F2.o.Tl (E:=df) (cs:=cs2) (x:=s) ag) Qk.o hr.symm (v:=I.bs r.1) (y:=(r.2:Int)) rfl rfl).mono ?_
 clear hr;rintro e w3 ⟨rfl,hF⟩;have F3:=cN hF;clear hF F2;by_cases hp:r.2=0
 ·obtain⟨g1,g2,g3⟩:=I.mD (s:=s) (by rw[←Su.o];exact hp);have e3:r.1=I.di (I.pS s):=by rw[Su.o.trans g3]
  have hpi:((r.2:Int)==0)=true:=by rw[hp];rfl
  have G1:=cN g1;have G2:=cN g2;have hT0:I.bs r.1=I.bs (I.di (I.pS s)):=by rw[e3]
  obtain⟨T,hT⟩:∃T,T=I.bs (I.di (I.pS s)):=⟨_,rfl⟩;rw[hT0,←hT];have HT:=cN hT;have TL:=cN (show T.data.toList=I.di (I.pS s) by rw[hT,I.dA]);have TS:=cN (show T.size≤4096 by
   rw[hT,lN]
   have:=(I.kM (I.pS s)).1
   omega)
  clear hT hT0 g1 g2 g3 e3;go_wp2_with fail
  with_reducible refine(Tryz.strings_Contains_one T 39 _).mono ?_
  rintro e w4 ⟨rfl,rfl⟩;obtain⟨b,hb⟩:∃b,b=decide (0≤Lib.indexByte T.data.toList 39):=⟨_,rfl⟩;rw[←hb];have HB:=cN hb;clear hb;cases b with
  |true=>
   go_wp2_with fail
   all_goals
    with_reducible refine(Fr.kO F3.o HE.o).mono ?_
    rintro e w5 ⟨rfl,hF⟩
    have FZ:=cN hF.bel
    clear hF F3
    go_wp2_with fail
    go_ret
    exact⟨rfl,FZ.o⟩
  |false=>
   have hq:(39:UInt8) ∉I.di (I.pS s):=by rw[←TL.o];exact I.tC (Int.not_le.1 (cf HB.o.symm))
   obtain⟨sp1,sp2⟩:=I.xU (I.Gn G1.o) (I.Gy (I.rq G1.o) hq);rw[←HT.o]at sp1 sp2;have SP1:=cN sp1;have SP2:=cN sp2;clear hq HB sp1 sp2;go_wp2_with fail
   obtain⟨m,hm⟩:=Fr.num F3.o HE.o;with_reducible refine(Tryz.strings_Split T ⟨#[32]⟩ m _ (by have:=TS.o;omega) hm (by decide)).mono ?_
   clear hm;rintro e w5 ⟨rfl,Qc⟩;rw[SP2.o];rw[SP1.o]at Qc;have F5:=cN (show Fr 0 w _ _ (Kp w) w5 by rw[Qc];exact F3.o.tmp _);have hB5:NA w5 w4.heap.size 9 (((I.pS s).map I.bs).map Value.string).toArray:=by rw[Qc];exact NA.new w4 9 _
   have HB5:=cN hB5;obtain⟨gP,hgP⟩:∃g,g=w4.heap.size:=⟨_,rfl⟩;rw[←hgP]at HB5⊢;obtain⟨n,hn⟩:∃n,n=(I.pS s).length:=⟨_,rfl⟩;have hn0:0<n:=by rw[hn];exact List.length_pos_iff.2 (I.Gn G1.o)
   have hn1:n≤4097:=by rw[hn];have h1:=G2.o;have h2:=I.Lv (I.pS s);omega
   rw[←hn];have HN:=cN hn;clear hB5 Qc hgP hn F3 SP1 SP2;go_wp2_with fail
   with_reducible refine(wM a (n:Int) _ (by omega) (by omega)).mono ?_
   rintro e w6 ⟨rfl,rfl⟩;obtain⟨k,hk⟩:∃k:Nat,a%(n:Int)=(k:Int):=⟨(a%(n:Int)).toNat,by have:=Int.emod_nonneg a (show(n:Int)≠0 by omega);omega⟩;have hkn:k<n:=by have:=Int.emod_lt_of_pos a (show(0:Int)<(n:Int) by omega);omega
   rw[hk];clear hk;go_wp2_with fail
   with_reducible refine(Hx HB5.o HN.o hkn hn1 G2.o).mono ?_
   rintro e w6 ⟨rfl,hb⟩;have F6:=cN (F5.o.quiet hb);clear hb F5;obtain⟨U,hU⟩:∃U,U=I.bs (I.di ((I.pS s).take k)):=⟨_,rfl⟩;rw[←hU];have hUs:U.size≤4096:=by rw[hU,lN];exact I.xN G2.o k
   have hUl:U.data.toList=I.di ((I.pS s).take k):=by rw[hU,I.dA]
   have hcut:=I.Gb G1.o G2.o k;have hUz:(I.di ((I.pS s).take k)).length=U.size:=by rw[hU,lN]
   rw[←hUl]at hcut;rw[←hUl,hUl]at hUz;clear hU;obtain⟨p,hpp⟩:∃p,p=I.parse U.data.toList:=⟨_,rfl⟩;rw[←hpp]at hcut;have HC:=cN hcut;clear hcut;go_wp2_with fail
   with_reducible refine(Fr.parse F6.o HE.o U (by unfold maxLen;omega) (r:=p) hpp.symm (x:=(p.2.1:Int)) (y:=(p.2.2:Int)) rfl rfl).mono ?_
   clear hpp;rintro e w7 ⟨UA,rfl,hF⟩;have F7:=cN hF;clear hF F6;have L7:=cN (df.len F7.o.N6);have O7:=cN (nQ F7.o.N6);go_upto_region 8 with(first|refine wpList_store_mid rfl _ _ _ rfl _ 0 UA.toArray rfl rfl (iP (by rw[aQ,L7.o];rfl)) (by rw[aQ];exact IS L7.o) O7.o ?_|refine wpList_store_mid rfl _ _ _ rfl _ 0 #[.int .i64 (p.2.1:Int),.int .i64 (p.2.2:Int)] rfl rfl (iU (by rfl)) (by kernel_rfl) (Wz _ _) ?_)
   refine P8 fun w8 hw=>?_
   have F8:=cN (F7.o.nP (vs:=[.int .i64 (p.2.1:Int),.int .i64 (p.2.2:Int)]) hw (by rw[L7.o];rfl) rfl);clear hw F7 O7;obtain⟨Xr,PU⟩:∃g,g=w7.heap.size+1:=⟨_,rfl⟩;obtain⟨S6,OO⟩:∃g,g=w7.heap.size:=⟨_,rfl⟩;rw[←PU,←OO]at F8⊢;clear PU OO;obtain⟨q0,q1⟩:=F8.o.cQ.y2 0 1;simp at q0 q1;rcases HC.o with hc|hc
   ·rw[hc]at q0 q1;go_wp2_with fail
    all_goals
     with_reducible refine(Fr.kO F8.o HE.o).mono ?_
     rintro e w9 ⟨rfl,hF⟩
     have FZ:=cN hF.bel
     clear hF F8
     go_wp2_with fail
     go_ret
     exact⟨rfl,FZ.o⟩
   ·rw[hc]at q0 q1;simp only at q0 q1;rw[hUl,hUz]at q1;go_wp2_with fail
    all_goals
     with_reducible refine(Fr.kO F8.o HE.o).mono ?_
     rintro e w9 ⟨rfl,hF⟩
     have FZ:=cN hF.bel
     clear hF F8
     go_wp2_with fail
     go_ret
     exact⟨rfl,FZ.o⟩
 ·have hpi:((r.2:Int)==0)=false:=bm.2 (by omega);go_wp2_with fail
  all_goals
   with_reducible refine(Fr.kO F3.o HE.o).mono ?_
   rintro e w4 ⟨rfl,hF⟩
   have FZ:=cN hF.bel
   clear hF F3
   go_wp2_with fail
   go_ret
   exact⟨rfl,FZ.o⟩
end
end Go.Proofs.YtnicfobpclehkaaGreatDoor
