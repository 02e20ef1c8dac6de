import Derived.Test.YtnicfobpclehkaaGreatDoorP26
set_option maxHeartbeats 200000
set_option linter.unusedVariables false
set_option linter.unusedSimpArgs false
namespace Go.Proofs.YtnicfobpclehkaaGreatDoor
section
namespace I
open Ev (Ex)
structure ON (a b:St):Prop where
 e:b.e=0→a.e=0
 i:(a.e≠0→a.r=[])→(b.e≠0→b.r=[])
 s:b.r<:+a.r
 d:a.d=true→b.d=true
theorem ON.refl(a:St):ON a a:=⟨fun h=>h,fun h=>h,List.suffix_refl _,fun h=>h⟩
theorem ON.trans{a b c:St}(h:ON a b)(k:ON b c):ON a c:=⟨fun q=>h.e (k.e q),fun q=>k.i (h.i q),k.s.trans h.s,fun q=>k.d (h.d q)⟩
def NT{α:Type}(f:St→α×St):Prop:=∀st,ON st (f st).2
theorem da(st:St):ON st (next st):=⟨fun h=>h,fun h q=>by show st.r.tail=[];rw[h q];rfl,List.tail_suffix _,fun h=>h⟩
theorem ea{T n:Nat}{st:St}(hn:n≠0):(fail T n st).e≠0:=by
 unfold fail;split
 ·exact hn
 ·assumption
theorem LD(T n:Nat)(st:St):(fail T n st).d=st.d:=by unfold fail;split<;>rfl
theorem dP{T n:Nat}(hn:n≠0)(st:St):ON st (fail T n st):=⟨fun h=>absurd h (ea hn),fun _ _=>iJ T n st,by rw[iJ];exact List.nil_suffix,fun h=>by rw[LD];exact h⟩
theorem lr{T:Nat}{st:St}:(fD T st).e≠0:=by
 unfold fD;split
 ·exact ea (by decide)
 ·exact ea (by decide)
theorem oC(T:Nat)(st:St):ON st (fD T st):=by
 unfold fD;split
 ·exact dP (by decide) st
 ·exact dP (by decide) st
theorem Bb(s:Bs)(st:St):ON st (acc s st):=by
 unfold acc;split
 ·exact da st
 ·exact ON.refl st
theorem fa(T:Nat):∀(l:List Bs) (st:St),ON st (expect T l st):=by
 intro l;induction l with
 |nil=>exact fun st=>ON.refl st
 |cons s l ih=>
  intro st;unfold expect;split
  ·exact(da st).trans (ih _)
  ·exact dP (by decide) st
theorem rU(T:Nat):∀(l:List Bs) (i:Nat),NT (choose T i l):=by
 intro l;induction l with
 |nil=>exact fun i st=>dP (by decide) st
 |cons s l ih=>
  intro i st;unfold choose;split
  ·exact da st
  ·exact ih _ st
theorem jm(T:Nat):NT (name T):=by
 intro st;unfold name;split
 ·exact dP (by decide) st
 ·split
  ·exact da st
  ·exact dP (by decide) st
theorem uB:∀(l:List (Bs×UInt8)),NT (one l):=by
 intro l;induction l with
 |nil=>exact fun st=>ON.refl st
 |cons s l ih=>
  intro st;unfold one;split
  ·exact da st
  ·exact ih st
theorem lh{α:Type}{T:Nat}{part:St→α×St}(h:NT part):NT (inside T part):=fun st=>(fa T _ st).trans ((h _).trans (fa T _ _))
theorem nw{kid:St→Ex×St}(h:NT kid)(l:List (Bs×UInt8)):∀(f:Nat) (e:Ex),NT (dy kid l f e):=by
 intro f;induction f with
 |zero=>exact fun e st=>ON.refl st
 |succ f ih=>
  intro e st;unfold dy;split
  ·exact ON.refl st
  ·exact(uB l st).trans ((h _).trans (ih _ _))
theorem mC{kid:St→Ex×St}(h:NT kid)(l:List (Bs×UInt8)):NT (chain kid l):=fun st=>(h st).trans (nw h l _ _ _)
theorem tL{s:Bs}{o:UInt8}{Y:St→Ex×St}(h:NT Y):∀(f:Nat),NT (again s o Y f):=by
 intro f;induction f with
 |zero=>exact h
 |succ f ih=>
  intro st;unfold again;split
  ·exact(da st).trans (ih _)
  ·exact h st
theorem ym(T:Nat):NT (literal T):=by
 intro st;unfold literal;split
 ·exact da st
 ·split
  ·exact da st
  ·split
   ·split
    ·exact da st
    ·exact(dP (by decide) st).trans (da _)
   ·exact da st
theorem wF(T:Nat):NT (dT T):=by
 intro st;unfold dT;split
 ·exact(jm T st).trans ((da _).trans (jm T _))
 ·exact jm T st
theorem Gr{T:Nat}{X:St→Ex×St}(h:NT X)(op:UInt8):NT (fold T X op):=by
 unfold fold;refine lh fun st=>?_
 show ON st (if _ then _ else _:Ex×St).2;split
 ·exact da st
 ·exact h st
theorem wo{T:Nat}{X:St→Ex×St}(h:NT X):NT (dm T X):=by
 intro st;unfold dm;repeat' split
 ·exact ym T st
 ·exact lh h st
 ·exact da st
 ·exact da st
 ·exact da st
 ·exact da st
 ·exact wF T st
 ·exact(uB iN st).trans (Gr h _ _)
theorem pG{T:Nat}{X:St→Ex×St}(h:NT X):NT (unary T X):=fun st=>tL (wo h) st.r.length st
theorem rX{T:Nat}{X:St→Ex×St}(h:NT X):NT (prod T X):=mC (pG h) _
theorem nV{T:Nat}{X:St→Ex×St}(h:NT X):NT (sum T X):=mC (rX h) _
theorem Kn(T:Nat)(e:Ex):NT (RP T e):=by
 intro st;unfold RP;split
 ·exact(da st).trans (fa T _ _)
 ·exact fa T _ st
theorem xC{T:Nat}{X:St→Ex×St}(h:NT (sum T X))(e:Ex):NT (j4 T X e):=by
 intro st;unfold j4;by_cases h0:(one il st).1=0
 ·rw[if_pos h0];by_cases h1:dh [105,115] st=true
  ·rw[if_pos h1];exact(da st).trans (Kn T e (next st))
  ·rw[if_neg h1];exact ON.refl st
 ·rw[if_neg h0];exact(uB il st).trans (h _)
theorem JE{T:Nat}{X:St→Ex×St}(h:NT X):NT (cmp T X):=fun st=>(nV h st).trans (xC (nV h) _ _)
theorem uS{T:Nat}{X:St→Ex×St}(h:NT X):NT (jt T X):=fun st=>tL (JE h) st.r.length st
theorem vt{T:Nat}{X:St→Ex×St}(h:NT X):NT (oo T X):=mC (uS h) _
theorem Jz{T:Nat}{X:St→Ex×St}(h:NT X):NT (Sw T X):=mC (vt h) _
theorem qu(T:Nat):∀n,NT (Pw T n):=by
 intro n;induction n with
 |zero=>
  intro st;rw[Pw];exact ON.refl st
 |succ n ih=>
  intro st;rw[Pw];exact Jz ih st
theorem Hv(T:Nat):NT (or T):=fun st=>qu T _ st
theorem yp{a b:St}(h:ON a b):ON a {b with d:=true}:=⟨h.e,h.i,h.s,fun _=>rfl⟩
theorem kX(T:Nat):NT (expr T):=by
 intro st;unfold expr;simp only;split
 ·exact yp (Hv T st)
 ·exact Hv T st
theorem rY{α:Type}{T most:Nat}{one:St→α×St}(h:NT one):∀(f:Nat) (l:List α),NT (more T most one f l):=by
 intro f;induction f with
 |zero=>exact fun l st=>ON.refl st
 |succ f ih=>
  intro l st;unfold more;split
  ·split
   ·exact(da st).trans (oC T _)
   ·exact(da st).trans ((h _).trans (ih _ _))
  ·exact ON.refl st
theorem om{α:Type}{T most:Nat}{one:St→α×St}(h:NT one):NT (list T most one):=fun st=>(h st).trans (rY h _ _ _)
end I
end
section
namespace I
open Ev (Ex Hd)
def src(t:Tok):Nat:=if t.1=3 then(NF.quo t.2.1).length+2 else if t.1=4 then 2*t.2.1.length+3 else t.2.1.length
def wt(l:List Tok):Nat:=(l.map fun t=>6*src t).sum
theorem mI(t:Tok)(l:List Tok):wt (t::l)=6*src t+wt l:=by simp[wt]
structure Xj (t:Tok):Prop where
 w:t.1=1→Lex.word t.2.1=true
 n:t.1=2→Lex.mq t.2.1
 s:t.1=3→t.2.1.length≤200
 b:t.1=4→t.2.1.length≤200
def Qa(st:St):Prop:=∀t∈st.r,Xj t
theorem Qa.evo{a b:St}(h:Qa a)(k:ON a b):Qa b:=fun t ht=>h t (k.s.subset ht)
structure GP {α:Type} (P:α→Nat→Prop) (st:St) (r:α×St):Prop where
 ev:ON st r.2
 g:r.2.e=0→r.2.d=false→∃n,n+wt r.2.r≤wt st.r∧P r.1 n
structure GS (k:Nat) (st s:St):Prop where
 ev:ON st s
 g:s.e=0→k+wt s.r≤wt st.r
def Gd{α:Type}(P:α→Nat→Prop)(f:St→α×St):Prop:=∀st,Qa st→GP P st (f st)
theorem Nw{a b:St}(h:ON a b)(hd:b.d=false):a.d=false:=by
 cases ha:a.d with
 |false=>rfl
 |true=>rw[h.d ha]at hd;cases hd
section
variable{α β:Type}{P:α→Nat→Prop}{Q:β→Nat→Prop}{st s:St}
theorem GP.seq{p:α×St}{r:β×St}(h:GP P st p)(ht:Qa st)(k:Qa p.2→GP (fun b n2=>∀n1,P p.1 n1→Q b (n1+n2)) p.2 r):GP Q st r:=by
 have k:=k (ht.evo h.ev);refine⟨h.ev.trans k.ev,fun he hd=>?_⟩;obtain⟨n1,h1,h2⟩:=h.g (k.ev.e he) (Nw k.ev hd);obtain⟨n2,h3,h4⟩:=k.g he hd;exact⟨n1+n2,by omega,h4 n1 h2⟩
theorem GS.seq{k:Nat}{r:β×St}(h:GS k st s)(ht:Qa st)(q:Qa s→GP (fun b n2=>Q b (k+n2)) s r):GP Q st r:=by
 have q:=q (ht.evo h.ev);refine⟨h.ev.trans q.ev,fun he hd=>?_⟩;obtain⟨n2,h3,h4⟩:=q.g he hd;have:=h.g (q.ev.e he);exact⟨k+n2,by omega,h4⟩
theorem GS.end{k:Nat}{x:α}{s':St}(h:GS k s s')(hp:P x k):GP P s (x,s'):=⟨h.ev,fun he _=>⟨k,h.g he,hp⟩⟩
theorem GP.ret{x:α}(hp:P x 0):GP P s (x,s):=⟨ON.refl s,fun _ _=>⟨0,Nat.le_of_eq (aW _),hp⟩⟩
theorem GP.bad{x:α}{s':St}(he:ON s s')(hb:s'.e≠0):GP P s (x,s'):=⟨he,fun h=>absurd h hb⟩
theorem GP.mono{P':α→Nat→Prop}{r:α×St}(h:GP P s r)(hp:∀n,P r.1 n→P' r.1 n):GP P' s r:=⟨h.ev,fun he hd=>by
 obtain⟨n,h1,h2⟩:=h.g he hd
 exact⟨n,h1,hp n h2⟩⟩
theorem GP.kc{γ:Type}{P':γ→Nat→Prop}{r:α×St}(h:GP P s r)(f:α→γ)(hp:∀n,P r.1 n→P' (f r.1) n):GP P' s (f r.1,r.2):=⟨h.ev,fun he hd=>by
 obtain⟨n,h1,h2⟩:=h.g he hd
 exact⟨n,h1,hp n h2⟩⟩
theorem GS.trans{a b:Nat}{s1 s2 s3:St}(h:GS a s1 s2)(k:GS b s2 s3):GS (a+b) s1 s3:=⟨h.ev.trans k.ev,fun he=>by have:=k.g he;have:=h.g (k.ev.e he);omega⟩
end
theorem IK{s:Bs}{t:Tok}(h:hit s t=true):src t=s.length:=by
 unfold hit at h;simp only[aN,cJ,aI]at h;unfold src;rcases h.1 with h1|h1<;>rw[h1,h.2]<;>rfl
theorem dG{s:Bs}{st:St}(h:dh s st=true):GS (6*s.length) st (next st):=by
 refine⟨da st,fun _=>?_⟩;unfold dh at h;unfold next
 cases hr:st.r with
 |nil=>rw[hr]at h;cases h
 |cons t r=>
  rw[hr]at h;rw[mI,IK h];exact aa _
theorem J1(st:St):GS 0 st st:=⟨ON.refl st,fun _=>by omega⟩
def lens(l:List Bs):Nat:=(l.map fun s=>6*s.length).sum
theorem dr(T:Nat):∀(l:List Bs) (st:St),GS (lens l) st (expect T l st):=by
 intro l;induction l with
 |nil=>exact fun st=>J1 st
 |cons s l ih=>
  intro st;unfold expect;split
  ·rename_i h;have:=(dG h).trans (ih (next st));simpa[lens]using this
  ·exact⟨dP (by decide) st,fun h=>absurd h (ea (by decide))⟩
def NX(n:Bs):Prop:=Lex.word n=true∧Lex.fJ n=false
theorem NX.pos{n:Bs}(h:NX n):1≤n.length:=by
 have:=h.1;unfold Lex.word at this;simp only[aN,aI]at this;exact this.1
theorem NX.ne{n:Bs}(h:NX n):n≠[]:=fun e=>by have:=h.pos;rw[e]at this;simp at this
theorem ee(T:Nat):Gd (fun n k=>NX n∧6*n.length≤k) (name T):=by
 intro st ht;unfold name;split
 ·exact GP.bad (dP (by decide) st) (ea (by decide))
 ·rename_i t r hr;split
  ·rename_i hn;refine⟨da st,fun _ _=>⟨6*t.2.1.length,?_,?_⟩⟩
   ·unfold named at hn;rw[hr]at hn;simp only[aN,aI]at hn;show _+wt st.r.tail≤_;rw[hr,mI];have:src t=t.2.1.length:=by unfold src;rw[hn.1];rfl
    rw[this];exact aa _
   ·unfold named at hn;rw[hr]at hn;simp only[aN,aI,Bool.not_eq_true']at hn;exact⟨⟨(ht t (by rw[hr];exact ag)).w hn.1,hn.2⟩,aa _⟩
  ·exact GP.bad (dP (by decide) st) (ea (by decide))
def nL(v:Cell.Val):Prop:=v=⟨0,0,dp⟩∨v=⟨1,0,dp⟩∨v=⟨1,1,dp⟩∨(∃n:Nat,n≤9223372036854775807∧v=⟨2,(n:Int),dp⟩)∨(∃n:Nat,n≤9223372036854775807∧v=⟨3,(n:Int),dp⟩)∨(∃s:Bs,s.length≤200∧v=⟨4,0,bs s⟩)∨(∃s:Bs,s.length≤200∧v=⟨5,0,bs s⟩)
theorem qm(s:Bs):(bs s).size=s.length:=by simp[bs,ByteArray.size]
theorem dA(s:Bs):(bs s).data.toList=s:=by simp[bs]
theorem nL.right{v:Cell.Val}(h:nL v):Cell.js v=true:=by
 rcases h with rfl|rfl|rfl|⟨n,_,rfl⟩|⟨n,_,rfl⟩|⟨s,hs,rfl⟩|⟨s,hs,rfl⟩
 ·decide
 ·decide
 ·decide
 ·rfl
 ·rfl
 ·show(decide ((0:Int)=0)&&decide ((bs s).size≤200))=true;rw[qm];simp[hs]
 ·show(decide ((0:Int)=0)&&decide ((bs s).size≤200))=true;rw[qm];simp[hs]
inductive Ri:Ex→Prop
 |lit {v:Cell.Val} (h:nL v):Ri (lit v)
 |UN {n:Bs} (h:NX n):Ri (.mk ⟨2,⟨0,0,dp⟩,bs n,dp,0⟩ [])
 |ox {n o:Bs} (h:NX n) (h2:NX o):Ri (.mk ⟨2,⟨0,0,dp⟩,bs n,bs o,0⟩ [])
 |user:Ri (.mk (hd 21) [])
 |count:Ri (.mk (hd 17) [])
 |un {o:UInt8} {a:Ex} (ho:o∈([3,15,16,17,18,19,20]:List UInt8)) (h:Ri a):Ri (un o a)
 |bin {o:UInt8} {a b:Ex} (ho:o∈([4,5,6,7,8,9,10,11,12,13,14]:List UInt8)) (h:Ri a) (h2:Ri b):Ri (bin o a b)
def pK(o:UInt8)(k:Ex)(l:List Bs):List Bs:=if(gn o&&gn (qb k))=true then [40]::(l++[[41]])else l
def pE:Ex→List Bs
 | .mk h []=>
  if h.o.toNat=1 then [NF.prt h.v]
  else if h.o.toNat=2 then(if fB h.of≠[]then [fB h.of,[46],fB h.nm]else [fB h.nm])
  else if h.o.toNat=21 then [dw h.o]
  else [dw h.o,[40],[42],[41]]
 | .mk h [a]=>
  if h.o.toNat=3∨h.o.toNat=15 then dw h.o::pK h.o a (pE a)
  else if h.o.toNat=16 then pK h.o a (pE a)++[[105,115],[110,117,108,108]]
  else dw h.o::[40]::(pK h.o a (pE a)++[[41]])
 | .mk h [a,b]=>pK h.o a (pE a)++dw h.o::pK h.o b (pE b)
 | .mk _ (_::_::_::_)=>[]
def sz(l:List Bs):Nat:=(l.map fun s=>s.length+1).sum
theorem cU(s:Bs)(l:List Bs):sz (s::l)=s.length+1+sz l:=by simp[sz]
theorem dY:sz []=0:=rfl
theorem dK(l m:List Bs):sz (l++m)=sz l+sz m:=by simp[sz]
theorem tT(o:UInt8)(k:Ex)(l:List Bs):sz (pK o k l)≤sz l+4:=by
 unfold pK;split
 ·rw[cU,dK,cU,dY];simp only[ab,ai];omega
 ·omega
def XG(x:Ex)(n:Nat):Prop:=Ri x∧sz (pE x)+4≤n
theorem sL{o:UInt8}(ho:o∈([3,15,16,17,18,19,20]:List UInt8)):(dw o).length≤5:=by
 revert o;decide
theorem um{x:Ex}{n m:Nat}(h:XG x n)(hm:n≤m):XG x m:=⟨h.1,aw h.2 hm⟩
theorem nr{v:Cell.Val}{n:Nat}(h:nL v)(hn:(NF.prt v).length+5≤n):XG (lit v) n:=by
 refine⟨.lit h,?_⟩;show sz [NF.prt v]+4≤n;rw[cU,dY];omega
theorem Lo{a:Ex}{n m:Nat}(h:XG a n)(hm:n+6≤m):XG (un 3 a) m:=by
 refine⟨.un (by decide) h.1,?_⟩;have:=tT 3 a (pE a);have:=h.2;show sz (dw 3::pK 3 a (pE a))+4≤m;rw[cU,show(dw 3).length=1 from rfl];omega
theorem D4{a:Ex}{n m:Nat}(h:XG a n)(hm:n+8≤m):XG (un 15 a) m:=by
 refine⟨.un (by decide) h.1,?_⟩;have:=tT 15 a (pE a);have:=h.2;show sz (dw 15::pK 15 a (pE a))+4≤m;rw[cU,show(dw 15).length=3 from rfl];omega
theorem Bp{a:Ex}{n m:Nat}(h:XG a n)(hm:n+12≤m):XG (un 16 a) m:=by
 refine⟨.un (by decide) h.1,?_⟩;have:=tT 16 a (pE a);have:=h.2;show sz (pK 16 a (pE a)++[[105,115],[110,117,108,108]])+4≤m;rw[dK,cU,cU,dY];simp only[ab,ai];omega
theorem nv:∀o∈([17,18,19,20]:List UInt8),¬(o.toNat=3∨o.toNat=15)∧¬o.toNat=16∧gn o=false:=by decide
theorem JV{o:UInt8}{a:Ex}{n m:Nat}(ho:o∈([17,18,19,20]:List UInt8))(h:XG a n)(hm:n+14≤m):XG (un o a) m:=by
 have h5:o∈([3,15,16,17,18,19,20]:List UInt8):=by revert o;decide
 refine⟨.un h5 h.1,?_⟩;have h1:=sL h5;have h2:=tT o a (pE a);have h3:=h.2;have e:pE (un o a)=dw o::[40]::(pK o a (pE a)++[[41]]):=by obtain⟨h1,h2,_⟩:=nv o ho;show(if o.toNat=3∨o.toNat=15 then _ else if o.toNat=16 then _ else _)=_;rw[if_neg h1,if_neg h2];rfl
 have hk:pK o a (pE a)=pE a:=by have:gn o=false:=(nv o ho).2.2;unfold pK;rw[this];rfl
 rw[e,hk,cU,cU,dK,cU,dY];simp only[ab,ai];omega
theorem Ew{o:UInt8}{a b:Ex}{n m k:Nat}(ho:o∈([4,5,6,7,8,9,10,11,12,13,14]:List UInt8))(h:XG a n)(h2:XG b m)(hk:n+m+(dw o).length+5≤k):XG (bin o a b) k:=by
 refine⟨.bin ho h.1 h2.1,?_⟩;have:=tT o a (pE a);have:=tT o b (pE b);have:=h.2;have:=h2.2;show sz (pK o a (pE a)++dw o::pK o b (pE b))+4≤k;rw[dK,cU];omega
end I
end
section
namespace I
open Ev (Ex Hd)
def GL{α:Type}(n:Nat)(P:α→Nat→Prop)(f:St→α×St):Prop:=∀st,st.r.length≤n→Qa st→GP P st (f st)
theorem yV:∀(l:List (Bs×UInt8)) (st:St),(one l st).1≠0→∃p∈l,dh p.1 st=true∧one l st=(p.2,next st):=by
 intro l;induction l with
 |nil=>intro st h;exact absurd rfl h
 |cons p l ih=>
  intro st h;unfold one at h⊢;by_cases ha:dh p.1 st=true
  ·rw[if_pos ha];exact⟨p,ag,ha,rfl⟩
  ·rw[if_neg ha]at h⊢;obtain⟨q,h1,h2,h3⟩:=ih st h;exact⟨q,au _ h1,h2,h3⟩
def tS(l:List (Bs×UInt8)):Prop:=∀p∈l,p.2∈([4,5,6,7,8,9,10,11,12,13,14]:List UInt8)∧1≤p.1.length∧(dw p.2).length=p.1.length
theorem GO{kid:St→Ex×St}{n:Nat}(hk:GL n XG kid){l:List (Bs×UInt8)}(hl:tS l):∀(f:Nat) (e:Ex) (st:St),st.r.length≤n→Qa st→GP (fun x k=>∀n0,XG e n0→XG x (n0+k)) st (dy kid l f e st):=by
 intro f;induction f with
 |zero=>intro e st _ _;exact GP.ret fun n0 h=>h
 |succ f ih=>
  intro e st hn ht;unfold dy;by_cases h0:(one l st).1=0
  ·rw[if_pos h0];exact GP.ret fun n0 h=>h
  ·rw[if_neg h0];obtain⟨p,hp,ha,ho⟩:=yV l st h0;obtain⟨h1,h2,h3⟩:=hl p hp;rw[ho];dsimp only;refine(dG ha).seq ht fun t1=>?_
   have hn1:(next st).r.length≤n:=aw (dq st) hn;refine(hk _ hn1 t1).seq t1 fun t2=>?_
   refine(ih _ _ (aw (hk _ hn1 t1).ev.s.length_le hn1) t2).mono fun k h n1 hn1 n0 hn0=>?_
   exact um (h (n0+n1+p.1.length+5) (Ew h1 hn0 hn1 (by omega))) (by omega)
theorem qz{kid:St→Ex×St}{n:Nat}(hk:GL n XG kid){l:List (Bs×UInt8)}(hl:tS l):GL n XG (chain kid l):=by
 intro st hn ht;unfold chain;refine(hk st hn ht).seq ht fun t1=>?_
 exact(GO hk hl _ _ _ (aw (hk st hn ht).ev.s.length_le hn) t1).mono fun k h n1 h1=>h n1 h1
theorem Bc{s:Bs}{o:UInt8}{Y:St→Ex×St}{n:Nat}(hY:GL n XG Y)(ho:∀(a:Ex) (n m:Nat),XG a n→n+6*s.length≤m→XG (un o a) m):∀f:Nat,GL n XG (again s o Y f):=by
 intro f;induction f with
 |zero=>exact hY
 |succ f ih=>
  intro st hn ht;unfold again;split
  ·rename_i ha;refine(dG ha).seq ht fun t1=>?_
   have h:=ih (next st) (aw (dq st) hn) t1;refine⟨h.ev,fun he hd=>?_⟩;obtain⟨k,h1,h2⟩:=h.g he hd;exact⟨k,h1,ho _ _ _ h2 (by omega)⟩
  ·exact hY st hn ht
theorem jR(l:Bs)(c:UInt8):ef (l++[c])=ef l*10+(c.toNat-48):=by simp[ef]
theorem jj(l:Bs)(h:∀c∈l,Lex.digit c=true):ef l<10^l.length:=by
 obtain⟨n,hn⟩:∃n,n=l.length:=⟨_,rfl⟩;induction n generalizing l with
 |zero=>
  have:l=[]:=aC hn.symm;subst this;decide
 |succ n ih=>
  have hne:l≠[]:=fun e=>by rw[e]at hn;simp at hn
  obtain⟨a,c,rfl⟩:∃a c,l=a++[c]:=⟨l.dropLast,l.getLast hne,(List.dropLast_concat_getLast hne).symm⟩;have hc:48≤c.toNat∧c.toNat≤57:=by simpa[Lex.digit]using h c (by simp)
  have hl:a.length=n:=by simp at hn;omega
  have:=ih a (fun d hd=>h d (by simp[hd])) hl.symm;rw[jR,ah,aD,Nat.pow_succ];omega
theorem Ml:∀(a:Bs),(∀c∈a,c≠46)→cut a=(a,none):=by
 intro a;induction a with
 |nil=>intro _;rfl
 |cons c a ih=>
  intro h;unfold cut;rw[if_neg (h c ag),ih fun d hd=>h d (au _ hd)]
theorem Nl:∀(a b:Bs),(∀c∈a,c≠46)→cut (a++46::b)=(a,some b):=by
 intro a b;induction a with
 |nil=>intro _;rfl
 |cons c a ih=>
  intro h;rw[List.cons_append];unfold cut;rw[if_neg (h c ag),ih fun d hd=>h d (au _ hd)]
theorem lU{c:UInt8}(h:Lex.digit c=true):c≠46:=fun e=>by rw[e]at h;exact absurd h (by decide)
theorem xw{s:Bs}(h:∀c∈s,Lex.digit c=true):fq s=(s,2):=by
 unfold fq;rw[Ml s fun c hc=>lU (h c hc)]
theorem xI{a b:Bs}(h:∀c∈a,Lex.digit c=true):fq (a++46::b)=(a++(b++[48,48,48]).take 4,3):=by
 unfold fq;rw[Nl a b fun c hc=>lU (h c hc)]
theorem jB(n:Nat):NF.prt ⟨2,(n:Int),dp⟩=Go.Lib.decDigits n:=by
 show Go.Lib.itoa (n:Int)=_;rw[NF.zM];unfold NF.minus;rw[if_neg (by omega)];simp
theorem qq(n:Nat):NF.prt ⟨3,(n:Int),dp⟩=Go.Lib.decDigits (n/10000)++46::NF.SR (n%10000) 4:=by
 show NF.kg (n:Int)=_;unfold NF.kg NF.minus;rw[if_neg (by omega)];simp
theorem vf{n j:Nat}(h:n<10^j)(hj:1≤j):(Go.Lib.decDigits n).length≤j:=by
 rw[NF.mE,NF.ub];exact NF.ke h hj
theorem Bu{l:Bs}(h:(fR l).2=0):ef l≤9223372036854775807∧(fR l).1=(ef l:Int):=by
 unfold fR at h⊢;split
 ·rename_i hl;exact⟨hl,rfl⟩
 ·rename_i hl;rw[if_neg hl]at h;cases h
theorem Ni{s:Bs}(h:Lex.mq s)(hi:(fR (fq s).1).2=0):XG (lit ⟨(fq s).2,(fR (fq s).1).1,dp⟩) (6*s.length):=by
 obtain⟨hm,e⟩:=Bu hi;rw[e];obtain⟨a,b,ha,QC,U4,h|h⟩:=h
 ·obtain⟨rfl,rfl⟩:=h;rw[xw QC]at hm⊢;have hpos:1≤s.length:=by
   cases s with
   |nil=>exact absurd rfl ha
   |cons c r=>simp
  refine nr (.inr (.inr (.inr (.inl ⟨_,hm,rfl⟩)))) ?_;rw[jB];have:=vf (jj s QC) hpos;simp only;omega
 ·obtain⟨rfl,h1,h4⟩:=h;rw[xI QC]at hm⊢;have hpos:1≤a.length:=by
   cases a with
   |nil=>exact absurd rfl ha
   |cons c r=>simp
  refine nr (.inr (.inr (.inr (.inr (.inl ⟨_,hm,rfl⟩))))) ?_;rw[qq];have hd4:∀c∈a++(b++[48,48,48]).take 4,Lex.digit c=true:=by
   intro c hc;rcases aM.1 hc with hc|hc
   ·exact QC c hc
   ·rcases aM.1 (List.mem_of_mem_take hc)with hc|hc
    ·exact U4 c hc
    ·exact(by decide:∀c∈[48,48,48],Lex.digit c=true) c hc
  have hw:=jj _ hd4;have hl4:(a++(b++[48,48,48]).take 4).length=a.length+4:=by rw[ah,aP,ah];simp only[ab,ai];omega
  rw[hl4,Nat.pow_add]at hw;have hq:ef (a++(b++[48,48,48]).take 4)/10000<10^a.length:=Nat.div_lt_of_lt_mul (by rw[Nat.mul_comm];exact hw);have:=vf hq hpos;have h5:=NF.oO (ef (a++(b++[48,48,48]).take 4)%10000) (cK _ (by decide));simp only[ah,ab];rw[h5];omega
theorem zV(T:Nat)(st:St)(ht:Qa st)(hk:dF st=2∨dF st=3∨dF st=4):GP XG st (literal T st):=by
 unfold literal;unfold dF at hk;split
 ·rename_i hr;rw[hr]at hk;rcases hk with h|h|h<;>exact absurd h (by decide)
 ·rename_i t r hr;rw[hr]at hk;simp only at hk;have hg:=ht t (by rw[hr];exact ag);have hn:6*src t+wt (next st).r≤wt st.r:=by
   unfold next
   rw[hr,mI];exact aa _
  split
  ·rename_i h4;refine⟨da st,fun _ _=>⟨_,hn,?_⟩⟩;have hs:src t=2*t.2.1.length+3:=by unfold src;rw[h4];rfl
   refine nr (.inr (.inr (.inr (.inr (.inr (.inr ⟨_,hg.b h4,rfl⟩)))))) ?_;have hp:NF.prt ⟨5,0,bs t.2.1⟩=[120,39]++NF.gM t.2.1++[39]:=by unfold NF.prt;rw[if_neg (by rw[nL.right (.inr (.inr (.inr (.inr (.inr (.inr ⟨_,hg.b h4,rfl⟩))))))];decide),dA];rfl
   rw[hp,hs];simp only[ah,NF.rZ,ab,ai];omega
  ·rename_i h4;split
   ·rename_i h2;split
    ·rename_i hi;refine⟨da st,fun _ _=>⟨_,hn,?_⟩⟩;have hs:src t=t.2.1.length:=by unfold src;rw[h2];rfl
     rw[hs];exact Ni (hg.n h2) hi
    ·exact GP.bad ((dP (by decide) st).trans (da _)) (ea (by decide))
   ·rename_i h2;have h3:t.1=3:=by
     rcases hk with h|h|h
     ·exact absurd h h2
     ·exact h
     ·exact absurd h h4
    refine⟨da st,fun _ _=>⟨_,hn,?_⟩⟩;have hs:src t=(NF.quo t.2.1).length+2:=by unfold src;rw[h3];rfl
    refine nr (.inr (.inr (.inr (.inr (.inr (.inl ⟨_,hg.s h3,rfl⟩)))))) ?_;have hp:NF.prt ⟨4,0,bs t.2.1⟩=[39]++NF.quo t.2.1++[39]:=by unfold NF.prt;rw[if_neg (by rw[nL.right (.inr (.inr (.inr (.inr (.inr (.inl ⟨_,hg.s h3,rfl⟩))))))];decide),dA];rfl
    rw[hp,hs];simp only[ah,ab,ai];omega
theorem eR(n:Bs):fB (bs n)=n:=dA n
theorem Cj(T:Nat):Gd XG (dT T):=by
 intro st ht;have hz:∀n:Bs,pE (.mk ⟨2,⟨0,0,dp⟩,bs n,dp,0⟩ [])=[n]:=fun n=>by
  simp only[pE]
  rw[if_neg (by decide),if_pos (by decide),if_neg (by decide),eR]
 unfold dT;by_cases ha:dh [46] (name T st).2=true
 ·rw[if_pos ha];refine(ee T st ht).seq ht fun t1=>?_
  refine(dG ha).seq t1 fun t2=>?_
  have h:=ee T _ t2;refine⟨h.ev,fun he hd=>?_⟩;obtain⟨k,h1,h2,h3⟩:=h.g he hd;refine⟨k,h1,fun n1 ⟨h4,h5⟩=>⟨.ox h2 h4,?_⟩⟩;have e:pE (.mk ⟨2,⟨0,0,dp⟩,bs (name T (next (name T st).2)).1,bs (name T st).1,0⟩ [])=[(name T st).1,[46],(name T (next (name T st).2)).1]:=by simp only[pE];rw[if_neg (by decide),if_pos (by decide),eR,eR,if_pos h4.ne]
  rw[e,cU,cU,cU,dY];have:=h2.pos;have:=h4.pos;simp only[ab,ai];omega
 ·rw[if_neg ha];have h:=ee T st ht;refine⟨h.ev,fun he hd=>?_⟩;obtain⟨k,h1,h2,h3⟩:=h.g he hd;refine⟨k,h1,.UN h2,?_⟩;rw[hz,cU,dY];have:=h2.pos;omega
theorem D5{T n:Nat}{X:St→Ex×St}(hX:∀st,st.r.length<n→Qa st→GP XG st (X st))(hE:NT X)(st:St)(hn:st.r.length≤n)(ht:Qa st):GP XG st (inside T X st):=by
 unfold inside;by_cases ha:dh [40] st=true
 ·have e:expect T [[40]] st=next st:=by unfold expect;rw[if_pos ha];rfl
  rw[e];refine(dG ha).seq ht fun t1=>?_
  have hl:=gZ ha;refine(hX _ (by omega) t1).seq t1 fun t2=>?_
  have h:=dr T [[41]] (X (next st)).2;exact h.end fun n1 h1=>um h1 (by omega)
 ·have e:expect T [[40]] st=fail T 300 st:=by unfold expect;rw[if_neg ha]
  rw[e];have hv:=(hE (fail T 300 st)).trans (fa T [[41]] (X (fail T 300 st)).2);exact GP.bad ((dP (by decide) st).trans hv) fun h=>ea (by decide) (hv.e h)
theorem KS{T n:Nat}{X:St→Ex×St}(hX:∀st,st.r.length<n→Qa st→GP XG st (X st))(hE:NT X){o:UInt8}(ho:o∈([17,18,19,20]:List UInt8))(st:St)(hn:st.r.length≤n)(ht:Qa st):GP (fun x k=>∀m,18≤m→XG x (m+k)) st (fold T X o st):=by
 have hs:=sL (o:=o) (by revert o;decide);unfold fold inside;have hW:∀st:St,ON st (if o=17∧dh [42] st=true then((.mk (hd o) [],next st):Ex×St)else(un o (X st).1,(X st).2)).2:=by
  intro st;split
  ·exact da st
  ·exact hE st
 by_cases ha:dh [40] st=true
 ·have e:expect T [[40]] st=next st:=by unfold expect;rw[if_pos ha];rfl
  rw[e];refine(dG ha).seq ht fun t1=>?_
  have hl:=gZ ha;simp only;by_cases hc:o=17∧dh [42] (next st)=true
  ·rw[if_pos hc];refine(dG hc.2).seq t1 fun t2=>?_
   refine(dr T [[41]] _).end fun m hm=>⟨by rw[hc.1];exact .count,?_⟩
   rw[hc.1];show sz [dw 17,[40],[42],[41]]+4≤_;simp only[lens,List.map_cons,bu,bp,bH,sz,ab,ai,show(dw 17).length=5 from rfl];omega
  ·rw[if_neg hc];refine(hX _ (by omega) t1).seq t1 fun t2=>?_
   refine(dr T [[41]] _).end fun n1 h1 m hm=>JV ho h1 ?_
   simp only[lens,List.map_cons,bu,bp,bH,ab,ai];omega
 ·have e:expect T [[40]] st=fail T 300 st:=by unfold expect;rw[if_neg ha]
  rw[e];have hv:=(hW (fail T 300 st)).trans (fa T [[41]] _);exact GP.bad ((dP (by decide) st).trans hv) fun h=>ea (by decide) (hv.e h)
theorem Dd{T n:Nat}{X:St→Ex×St}(hX:∀st,st.r.length<n→Qa st→GP XG st (X st))(hE:NT X):GL n XG (dm T X):=by
 intro st hn ht;have leaf:∀(w:Bs) (h:Ex),dh w st=true→XG h (6*w.length)→GP XG st (h,next st):=fun w h ha hx=>(dG ha).end hx
 unfold dm;split
 ·rename_i hk;exact zV T st ht hk
 ·split
  ·exact D5 hX hE st hn ht
  ·split
   ·rename_i ha;exact leaf _ _ ha (nr (v:=⟨0,0,dp⟩) (.inl rfl) (by decide))
   ·split
    ·rename_i ha;exact leaf _ _ ha (nr (.inr (.inr (.inl rfl))) (by decide))
    ·split
     ·rename_i ha;exact leaf _ _ ha (nr (.inr (.inl rfl)) (by decide))
     ·split
      ·rename_i ha;exact leaf _ _ ha ⟨.user,by decide⟩
      ·split
       ·exact Cj T st ht
       ·rename_i h0;obtain⟨p,hp,ha,ho⟩:=yV iN st h0;rw[ho];have h1:p.2∈([17,18,19,20]:List UInt8)∧3≤p.1.length:=(by decide:∀p∈iN,p.2∈([17,18,19,20]:List UInt8)∧3≤p.1.length) p hp;dsimp only;refine(dG ha).seq ht fun t1=>?_
        exact(KS hX hE h1.1 _ (aw (dq st) hn) t1).mono fun k h=>h _ (by omega)
theorem Nt{T:Nat}(e:Ex)(st:St)(ht:Qa st):GP (fun x k=>∀n0,XG e n0→XG x (n0+k+12)) st (RP T e st):=by
 unfold RP;split
 ·rename_i ha;refine(dG ha).seq ht fun t1=>?_
  refine(dr T [[110,117,108,108]] _).end fun n0 h0=>D4 (Bp h0 (aa _)) ?_
  simp only[lens,List.map_cons,bu,bp,bH,ab,ai];omega
 ·refine(dr T [[110,117,108,108]] _).end fun n0 h0=>Bp h0 ?_
  simp only[lens,List.map_cons,bu,bp,bH,ab,ai];omega
section
variable{T n:Nat}{X:St→Ex×St}(hX:∀st,st.r.length<n→Qa st→GP XG st (X st))(hE:NT X)
include hX hE
theorem Jy:GL n XG (unary T X):=fun st hn ht=>Bc (Dd hX hE) (fun a n m h hm=>Lo h (by simpa using hm)) st.r.length st hn ht
theorem K7:GL n XG (prod T X):=qz (Jy hX hE) (by unfold tS;decide)
theorem KB:GL n XG (sum T X):=qz (K7 hX hE) (by unfold tS;decide)
theorem Ny:GL n XG (cmp T X):=by
 intro st hn ht;unfold cmp j4;have hs:=KB (T:=T) hX hE st hn ht;refine hs.seq ht fun t1=>?_
 have hn1:(sum T X st).2.r.length≤n:=aw hs.ev.s.length_le hn;by_cases h0:(one il (sum T X st).2).1=0
 ·rw[if_pos h0];by_cases h1:dh [105,115] (sum T X st).2=true
  ·rw[if_pos h1];refine(dG h1).seq t1 fun t2=>?_
   exact(Nt _ _ t2).mono fun k h n1 hn1=>um (h n1 hn1) (by simp only[ab,ai];omega)
  ·rw[if_neg h1];exact GP.ret fun n1 h=>h
 ·rw[if_neg h0];obtain⟨p,hp,ha,ho⟩:=yV il _ h0;rw[ho];have h1:=(by decide:∀p∈il,p.2∈([4,5,6,7,8,9,10,11,12,13,14]:List UInt8)∧1≤p.1.length∧(dw p.2).length=p.1.length) p hp;dsimp only;refine(dG ha).seq t1 fun t2=>?_
  have h:=KB (T:=T) hX hE _ (aw (dq _) hn1) t2;exact GP.kc h (fun x=>bin p.2 (sum T X st).1 x) fun k h3 n1 h4=>Ew h1.1 h4 h3 (by omega)
theorem M7:GL n XG (jt T X):=fun st hn ht=>Bc (Ny hX hE) (fun a n m h hm=>D4 h (by simp only[ab,ai]at hm;omega)) st.r.length st hn ht
theorem MV:GL n XG (oo T X):=qz (M7 hX hE) (by unfold tS;decide)
theorem MQ:GL n XG (Sw T X):=qz (MV hX hE) (by unfold tS;decide)
end
theorem MZ(T:Nat):∀(n:Nat) (st:St),st.r.length<n→Qa st→GP XG st (Pw T n st):=by
 intro n;induction n with
 |zero=>intro st h;omega
 |succ n ih=>
  intro st h ht;rw[Pw];exact MQ ih (qu T n) st (by omega) ht
theorem M8(T:Nat):Gd XG (or T):=fun st ht=>MZ T _ st (bw _) ht
def XD(x:Ex)(n:Nat):Prop:=XG x n∧depth x≤24
theorem Jm(T:Nat):Gd XD (expr T):=by
 intro st ht;have h:=M8 T st ht;unfold expr;split
 ·exact⟨yp h.ev,fun _ hd=>by cases hd⟩
 ·rename_i hd;refine⟨h.ev,fun he hd2=>?_⟩;obtain⟨k,h1,h2⟩:=h.g he hd2;exact⟨k,h1,h2,by show depth (or T st).1≤24;omega⟩
end I
end
section
namespace I
open Ev (Ex Hd)
def nB(s:Bs)(l:List Bs):List Bs:=if s=[]then []else l
def pC{α:Type}(p:α→List Bs):List α→List Bs
 |[]=>[]
 |[x]=>p x
 |x::y::l=>p x++[44]::pC p (y::l)
theorem yI{α:Type}(p:α→List Bs)(x:α):∀l:List α,sz (pC p (l++[x]))≤sz (pC p l)+2+sz (p x):=by
 intro l;induction l with
 |nil=>show sz (p x)≤_;omega
 |cons a l ih=>
  cases l with
  |nil=>
   show sz (p a++[44]::p x)≤sz (p a)+2+sz (p x);rw[dK,cU];simp only[ab,ai];omega
  |cons b l=>
   show sz (p a++[44]::pC p (b::l++[x]))≤sz (p a++[44]::pC p (b::l))+2+sz (p x);rw[dK,cU,dK,cU];omega
def LG{α:Type}(G:α→Prop)(most:Nat)(l:List α):Prop:=l≠[]∧l.length≤most∧∀x∈l,G x
def LP{α:Type}(G:α→Prop)(p:α→List Bs)(most:Nat)(l:List α)(n:Nat):Prop:=LG G most l∧sz (pC p l)≤n
theorem Mg{α:Type}{T most:Nat}{one:St→α×St}{G:α→Prop}{p:α→List Bs}(h:Gd (fun x n=>G x∧sz (p x)≤n) one):∀(f:Nat) (l:List α) (st:St),Qa st→GP (fun l' k=>∀n0,LP G p most l n0→LP G p most l' (n0+k)) st (more T most one f l st):=by
 intro f;induction f with
 |zero=>intro l st _;exact GP.ret fun n0 h=>h
 |succ f ih=>
  intro l st ht;unfold more;split
  ·rename_i ha;split
   ·exact GP.bad ((da st).trans (oC T _)) lr
   ·rename_i hl;refine(dG ha).seq ht fun t1=>?_
    refine(h _ t1).seq t1 fun t2=>?_
    refine(ih _ _ t2).mono fun k hk n1 ⟨g1,g2⟩ n0 ⟨⟨h1,h2,h3⟩,h4⟩=>?_
    have:=hk (n0+2+n1) ⟨⟨by simp,by simp;omega,fun y hy=>by
     rcases aM.1 hy with hy|hy
     ·exact h3 y hy
     ·simp at hy
      rw[hy]
      exact g1⟩,by have:=yI p (one (next st)).1 l;omega⟩
    exact⟨this.1,by have:=this.2;simp only[ab,ai];omega⟩
  ·exact GP.ret fun n0 h=>h
theorem lV{α:Type}{T most:Nat}{one:St→α×St}{G:α→Prop}{p:α→List Bs}(hm:1≤most)(h:Gd (fun x n=>G x∧sz (p x)≤n) one):Gd (LP G p most) (list T most one):=by
 intro st ht;unfold list;refine(h st ht).seq ht fun t1=>?_
 exact(Mg h _ _ _ t1).mono fun k hk n1 ⟨g1,g2⟩=>hk n1 ⟨⟨by simp,by simpa using hm,fun y hy=>by simp at hy;rw[hy];exact g1⟩,g2⟩
def QW(x:Ex):Prop:=Ri x∧depth x≤24
theorem iF(T:Nat):Gd (fun x n=>QW x∧sz (pE x)≤n) (expr T):=fun st ht=>(Jm T st ht).mono fun n h=>⟨⟨h.1.1,h.2⟩,by have:=h.1.2;omega⟩
theorem qx{α:Type}{T:Nat}{part:St→α×St}{P:α→Nat→Prop}(h:Gd P part):Gd (fun x n=>∃m,P x m∧m+4≤n) (inside T part):=by
 intro st ht;unfold inside;refine(dr T [[40]] st).seq ht fun t1=>?_
 refine(h _ t1).seq t1 fun t2=>?_
 refine(dr T [[41]] _).end fun n1 h1=>⟨n1,h1,?_⟩
 simp only[lens,List.map_cons,bu,bp,bH,ab,ai];omega
def yb(l:List Ex):Prop:=LG QW 16 l
def oc(l:List Ex):List Bs:=[40]::(pC pE l++[[41]])
theorem Ht(T:Nat):Gd (fun l n=>yb l∧sz (oc l)≤n) (row T):=fun st ht=>(qx (lV (by decide) (iF T)) st ht).mono fun n ⟨m,h1,h2⟩=>⟨h1.1,by
 have:=h1.2
 unfold oc
 rw[cU,dK,cU,dY]
 simp only[ab,ai]
 omega⟩
def QX(l:List Ex):Prop:=l=[]∨∃e,QW e∧l=[e]
def Sv(w:Bs)(l:List Ex):List Bs:=match l with
 |[]=>[]
 |e::_=>w::pE e
theorem qK(T:Nat):Gd (fun l n=>QX l∧sz (Sv [119,104,101,114,101] l)≤n) (fV T):=by
 intro st ht;unfold fV;split
 ·rename_i ha;refine(dG ha).seq ht fun t1=>?_
  have h:=iF T _ t1;refine⟨h.ev,fun he hd=>?_⟩;obtain⟨k,h1,h2,h3⟩:=h.g he hd;refine⟨k,h1,.inr ⟨_,h2,rfl⟩,?_⟩;show sz (_::pE _)≤_;rw[cU];simp only[ab,ai];omega
 ·exact GP.ret ⟨.inl rfl,aa _⟩
def Ws(i:Qq):Prop:=QW i.x∧(i.nm=[]∨NX i.nm)
def Xk(i:Qq):List Bs:=pE i.x++nB i.nm [[97,115],i.nm]
theorem Kf(T:Nat):Gd (fun i n=>Ws i∧sz (Xk i)≤n) (item T):=by
 intro st ht;unfold item;split;rename_i e s h;have h1:=iF T st ht;rw[h]at h1;refine h1.seq ht fun t1=>?_
 simp only;split
 ·rename_i ha;refine(dG ha).seq t1 fun t2=>?_
  have h2:=ee T _ t2;refine⟨h2.ev,fun he hd=>?_⟩;obtain⟨k,g1,g2,g3⟩:=h2.g he hd;refine⟨k,g1,fun n1 ⟨q1,q2⟩=>⟨⟨q1,.inr g2⟩,?_⟩⟩;unfold Xk nB;simp only;rw[if_neg g2.ne,dK,cU,cU,dY];have:=g2.pos;simp only[ab,ai];omega
 ·refine GP.ret fun n1 ⟨q1,q2⟩=>⟨⟨q1,.inl rfl⟩,?_⟩
  show sz (pE e++nB [] _)≤_;unfold nB;rw[if_pos rfl,dK,dY];omega
def sE(s:Src):Prop:=NX s.nm∧(s.al=[]∨NX s.al)
def l8(s:Src):List Bs:=s.nm::nB s.al [[97,115],s.al]
theorem tM(T:Nat):Gd (fun s n=>sE s∧s.on=[]∧sz (l8 s)≤n) (source T):=by
 intro st ht;unfold source;split;rename_i e s h;have h1:=ee T st ht;rw[h]at h1;refine h1.seq ht fun t1=>?_
 simp only;split
 ·rename_i ha;refine(dG ha).seq t1 fun t2=>?_
  have h2:=ee T _ t2;refine⟨h2.ev,fun he hd=>?_⟩;obtain⟨k,g1,g2,g3⟩:=h2.g he hd;refine⟨k,g1,fun n1 ⟨q1,q2⟩=>⟨⟨q1,.inr g2⟩,rfl,?_⟩⟩;unfold l8 nB;simp only;rw[if_neg g2.ne,cU,cU,cU,dY];have:=g2.pos;have:=q1.pos;simp only[ab,ai];omega
 ·refine GP.ret fun n1 ⟨q1,q2⟩=>⟨⟨q1,.inl rfl⟩,rfl,?_⟩
  show sz (e::nB [] _)≤_;unfold nB;rw[if_pos rfl,cU,dY];have:=q1.pos;omega
def TM(o:Ord):Prop:=QW o.x
def Zg(o:Ord):List Bs:=pE o.x++if o.ds=true then [[100,101,115,99]]else []
theorem Fh(T:Nat):Gd (fun o n=>TM o∧sz (Zg o)≤n) (order T):=by
 intro st ht;unfold order;split;rename_i e s h;have h1:=iF T st ht;rw[h]at h1;refine h1.seq ht fun t1=>?_
 simp only;split
 ·rename_i ha;refine(dG ha).end fun n1 ⟨q1,q2⟩=>⟨q1,?_⟩
  show sz (pE e++[])≤_;rw[dK,dY];omega
 ·split
  ·rename_i ha;refine(dG ha).end fun n1 ⟨q1,q2⟩=>⟨q1,?_⟩
   show sz (pE e++[_])≤_;rw[dK,cU,dY];simp only[ab,ai];omega
  ·refine GP.ret fun n1 ⟨q1,q2⟩=>⟨q1,?_⟩
   show sz (pE e++[])≤_;rw[dK,dY];omega
def Cv(s:OI):Prop:=NX s.nm∧QW s.x
def vK(s:OI):List Bs:=s.nm::[61]::pE s.x
theorem Ij(T:Nat):Gd (fun o n=>Cv o∧sz (vK o)≤n) (ny T):=by
 intro st ht;unfold ny;split;rename_i n s h;have h1:=ee T st ht;rw[h]at h1;refine h1.seq ht fun t1=>?_
 split;rename_i e s2 h2;refine(dr T [[61]] s).seq t1 fun t2=>?_
 have h3:=iF T _ t2;rw[h2]at h3;refine⟨h3.ev,fun he hd=>?_⟩;obtain⟨k,g1,g2,g3⟩:=h3.g he hd;refine⟨k,g1,fun n1 ⟨q1,q2⟩=>⟨⟨q1,g2⟩,?_⟩⟩;unfold vK;rw[cU,cU];have:=q1.pos;simp only[lens,List.map_cons,bu,bp,bH,ab,ai]at*;omega
theorem gi(T:Nat):∀(l:List Bs) (i:Nat) (st:St),GP (fun j n=>i≤j∧j<i+l.length∧6*(l.getD (j-i) []).length≤n) st (choose T i l st):=by
 intro l;induction l with
 |nil=>intro i st;exact GP.bad (dP (by decide) st) (ea (by decide))
 |cons s l ih=>
  intro i st;unfold choose;split
  ·rename_i ha;exact(dG ha).end ⟨aa _,by simp,by simp⟩
  ·refine(ih (i+1) st).mono fun n ⟨h1,h2,h3⟩=>⟨by omega,by simp only[ab];omega,?_⟩
   have e:(choose T (i+1) l st).1-i=((choose T (i+1) l st).1-(i+1))+1:=by omega
   rw[e,List.getD_cons_succ];exact h3
def Uk(p:UInt8):Prop:=1≤p.toNat∧p.toNat≤4
def pPv(p:UInt8):List Bs:=[word ((p.toNat:Int)-1) [[115,101,108,101,99,116],[105,110,115,101,114,116],[117,112,100,97,116,101],[100,101,108,101,116,101]]]
theorem IL(T:Nat):Gd (fun p n=>Uk p∧sz (pPv p)≤n) (lH T):=by
 intro st ht;unfold lH;split;rename_i i s h;have h1:=gi T [[115,101,108,101,99,116],[105,110,115,101,114,116],[117,112,100,97,116,101],[100,101,108,101,116,101]] 0 st;rw[h]at h1;refine⟨h1.ev,fun he hd=>?_⟩;obtain⟨k,g1,g2,g3,g4⟩:=h1.g he hd;refine⟨k,g1,?_⟩;have hi:i=0∨i=1∨i=2∨i=3:=by simp only[ab,ai]at g3;omega
 have hz:∀j:Nat,j<4→sz (pPv (UInt8.ofNat (j+1)))=7∧Uk (UInt8.ofNat (j+1))∧(([[115,101,108,101,99,116],[105,110,115,101,114,116],[117,112,100,97,116,101],[100,101,108,101,116,101]]:List Bs).getD j []).length=6:=by
  intro j hj;have:j=0∨j=1∨j=2∨j=3:=by omega
  rcases this with rfl|rfl|rfl|rfl<;>exact⟨by decide,by unfold Uk;decide,by decide⟩
 obtain⟨z1,z2,z3⟩:=hz i (by omega);refine⟨z2,?_⟩;rw[z1];dsimp only at g4;rw[Nat.sub_zero,z3]at g4;omega
def uV(l:List UInt8):Prop:=LG Uk 16 l
def oL(l:List UInt8):List Bs:=pC pPv l
theorem EO(T:Nat):Gd (fun l n=>uV l∧sz (oL l)≤n+34) (fi T):=by
 intro st ht;unfold fi;split
 ·rename_i ha;exact(dG ha).end ⟨⟨by decide,by decide,by unfold Uk;decide⟩,by decide⟩
 ·exact(lV (by decide) (IL T) st ht).mono fun n h=>⟨h.1,by have:=h.2;unfold oL;omega⟩
def As(n:Int):Prop:=0≤n∧n≤1000000
theorem Kj{s:Bs}(h:Lex.mq s)(hi:(kh s).2=0):∃n:Nat,(kh s).1=(n:Int)∧(Go.Lib.itoa (n:Int)).length≤s.length:=by
 obtain⟨a,b,ha,QC,U4,h|h⟩:=h
 ·obtain⟨rfl,rfl⟩:=h;have hpos:1≤s.length:=by
   cases s with
   |nil=>exact absurd rfl ha
   |cons c r=>simp
  have hc:(cut s).2=none:=by rw[Ml s fun c hc=>lU (QC c hc)]
  unfold kh at hi⊢;rw[if_pos hc]at hi⊢;obtain⟨_,e⟩:=Bu hi;refine⟨ef s,e,?_⟩;have:=jB (ef s);have e2:NF.prt ⟨2,(ef s:Int),dp⟩=Go.Lib.itoa (ef s:Int):=rfl;rw[←e2,this];exact vf (jj s QC) hpos
 ·obtain⟨rfl,h1,h4⟩:=h;have hc:(cut (a++46::b)).2=some b:=by rw[Nl a b fun c hc=>lU (QC c hc)]
  unfold kh at hi;rw[if_neg (by rw[hc];simp)]at hi;cases hi
theorem GB(T:Nat):Gd (fun n k=>As n∧(Go.Lib.itoa n).length+1≤k) (fx T):=by
 intro st ht;unfold fx;split
 ·rename_i h2;split
  ·rename_i h0;split
   ·exact GP.bad ((dP (by decide) st).trans (da _)) (ea (by decide))
   ·rename_i hm;unfold dF at h2;unfold QO at h0 hm⊢;cases hr:st.r with
    |nil=>rw[hr]at h2;exact absurd h2 (by decide)
    |cons t r=>
     rw[hr]at h2 h0 hm;simp only at h2 h0 hm⊢;obtain⟨n,e,hl⟩:=Kj ((ht t (by rw[hr];exact ag)).n h2) h0;refine⟨da st,fun _ _=>⟨6*src t,?_,?_⟩⟩
     ·show _+wt st.r.tail≤_;rw[hr,mI];exact aa _
     ·rw[e]at hm⊢;refine⟨⟨by show(0:Int)≤n;omega,by show(n:Int)≤1000000;omega⟩,?_⟩;have hs:src t=t.2.1.length:=by unfold src;rw[h2];rfl
      rw[hs];have:1≤(Go.Lib.itoa (n:Int)).length:=by
       have e2:NF.prt ⟨2,(n:Int),dp⟩=Go.Lib.itoa (n:Int):=rfl;rw[←e2,jB];have:=NF.ru n;cases hd:Go.Lib.decDigits n with
       |nil=>exact absurd hd this
       |cons c r=>simp
      show(Go.Lib.itoa (n:Int)).length+1≤_;omega
  ·exact GP.bad ((dP (by decide) st).trans (da _)) (ea (by decide))
 ·exact GP.bad (dP (by decide) st) (ea (by decide))
end I
end
end Go.Proofs.YtnicfobpclehkaaGreatDoor
