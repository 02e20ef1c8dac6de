import Derived.Test.YtnicfobpclehkaaGreatDoorP20
set_option maxHeartbeats 200000
set_option linter.unusedVariables false
set_option linter.unusedSimpArgs false
namespace Go.Proofs.YtnicfobpclehkaaGreatDoor
section
namespace I
open Ev (Ex)
structure LS (a b:St):Prop where
 e:b.e=0→a.e=0
 i:(a.e≠0→a.r=[])→(b.e≠0→b.r=[])
 s:b.r<:+a.r
 d:a.d=true→b.d=true
theorem LS.refl(a:St):LS a a:=⟨fun h=>h,fun h=>h,List.suffix_refl _,fun h=>h⟩
theorem LS.trans{a b c:St}(h:LS a b)(k:LS b c):LS a c:=⟨fun q=>h.e (k.e q),fun q=>k.i (h.i q),k.s.trans h.s,fun q=>k.d (h.d q)⟩
def KA{α:Type}(f:St→α×St):Prop:=∀st,LS st (f st).2
theorem ax(st:St):LS st (next st):=⟨fun h=>h,fun h q=>by show st.r.tail=[];rw[h q];rfl,List.tail_suffix _,fun h=>h⟩
theorem bz{T n:Nat}{st:St}(hn:n≠0):(fail T n st).e≠0:=by
 unfold fail;split
 ·exact hn
 ·assumption
theorem iI(T n:Nat)(st:St):(fail T n st).d=st.d:=by unfold fail;split<;>rfl
theorem eu{T n:Nat}(hn:n≠0)(st:St):LS st (fail T n st):=⟨fun h=>absurd h (bz hn),fun _ _=>bq T n st,by rw[bq];exact List.nil_suffix,fun h=>by rw[iI];exact h⟩
theorem ji{T:Nat}{st:St}:(br T st).e≠0:=by
 unfold br;split
 ·exact bz (by decide)
 ·exact bz (by decide)
theorem sq(T:Nat)(st:St):LS st (br T st):=by
 unfold br;split
 ·exact eu (by decide) st
 ·exact eu (by decide) st
theorem aM(T:Nat):∀(l:List Bs) (st:St),LS st (expect T l st):=by
 intro l;induction l with
 |nil=>exact fun st=>LS.refl st
 |cons s l ih=>
  intro st;unfold expect;split
  ·exact(ax st).trans (ih _)
  ·exact eu (by decide) st
theorem fx(T:Nat):∀(l:List Bs) (i:Nat),KA (choose T i l):=by
 intro l;induction l with
 |nil=>exact fun i st=>eu (by decide) st
 |cons s l ih=>
  intro i st;unfold choose;split
  ·exact ax st
  ·exact ih _ st
theorem bp(T:Nat):KA (name T):=by
 intro st;unfold name;split
 ·exact eu (by decide) st
 ·split
  ·exact ax st
  ·exact eu (by decide) st
theorem iw:∀(l:List (Bs×UInt8)),KA (one l):=by
 intro l;induction l with
 |nil=>exact fun st=>LS.refl st
 |cons s l ih=>
  intro st;unfold one;split
  ·exact ax st
  ·exact ih st
theorem fE{α:Type}{T:Nat}{part:St→α×St}(h:KA part):KA (inside T part):=fun st=>(aM T _ st).trans ((h _).trans (aM T _ _))
theorem uW{kid:St→Ex×St}(h:KA kid)(l:List (Bs×UInt8)):∀(f:Nat) (e:Ex),KA (ba kid l f e):=by
 intro f;induction f with
 |zero=>exact fun e st=>LS.refl st
 |succ f ih=>
  intro e st;unfold ba;split
  ·exact LS.refl st
  ·exact(iw l st).trans ((h _).trans (ih _ _))
theorem j9{kid:St→Ex×St}(h:KA kid)(l:List (Bs×UInt8)):KA (chain kid l):=fun st=>(h st).trans (uW h l _ _ _)
theorem p0{s:Bs}{o:UInt8}{Y:St→Ex×St}(h:KA Y):∀(f:Nat),KA (again s o Y f):=by
 intro f;induction f with
 |zero=>exact h
 |succ f ih=>
  intro st;unfold again;split
  ·exact(ax st).trans (ih _)
  ·exact h st
theorem sW(T:Nat):KA (literal T):=by
 intro st;unfold literal;split
 ·exact ax st
 ·split
  ·exact ax st
  ·split
   ·split
    ·exact ax st
    ·exact(eu (by decide) st).trans (ax _)
   ·exact ax st
theorem sz(T:Nat):KA (cm T):=by
 intro st;unfold cm;split
 ·exact(bp T st).trans ((ax _).trans (bp T _))
 ·exact bp T st
theorem Ce{T:Nat}{X:St→Ex×St}(h:KA X)(op:UInt8):KA (fold T X op):=by
 unfold fold;refine fE fun st=>?_
 show LS st (if _ then _ else _:Ex×St).2;split
 ·exact ax st
 ·exact h st
theorem uh{T:Nat}{X:St→Ex×St}(h:KA X):KA (aD T X):=by
 intro st;unfold aD;repeat' split
 ·exact sW T st
 ·exact fE h st
 ·exact ax st
 ·exact ax st
 ·exact ax st
 ·exact ax st
 ·exact sz T st
 ·exact(iw dd st).trans (Ce h _ _)
theorem mf{T:Nat}{X:St→Ex×St}(h:KA X):KA (unary T X):=fun st=>p0 (uh h) st.r.length st
theorem oz{T:Nat}{X:St→Ex×St}(h:KA X):KA (prod T X):=j9 (mf h) _
theorem lA{T:Nat}{X:St→Ex×St}(h:KA X):KA (sum T X):=j9 (oz h) _
theorem FE(T:Nat)(e:Ex):KA (Ng T e):=by
 intro st;unfold Ng;split
 ·exact(ax st).trans (aM T _ _)
 ·exact aM T _ st
theorem DD{T:Nat}{X:St→Ex×St}(h:KA (sum T X))(e:Ex):KA (fv T X e):=by
 intro st;unfold fv;by_cases h0:(one fF st).1=0
 ·rw[if_pos h0];by_cases h1:ae [105,115] st=true
  ·rw[if_pos h1];exact(ax st).trans (FE T e (next st))
  ·rw[if_neg h1];exact LS.refl st
 ·rw[if_neg h0];exact(iw fF st).trans (h _)
theorem GN{T:Nat}{X:St→Ex×St}(h:KA X):KA (cmp T X):=fun st=>(lA h st).trans (DD (lA h) _ _)
theorem r9{T:Nat}{X:St→Ex×St}(h:KA X):KA (dz T X):=fun st=>p0 (GN h) st.r.length st
theorem qW{T:Nat}{X:St→Ex×St}(h:KA X):KA (gz T X):=j9 (r9 h) _
theorem Gc{T:Nat}{X:St→Ex×St}(h:KA X):KA (PK T X):=j9 (qW h) _
theorem rR(T:Nat):∀n,KA (Lw T n):=by
 intro n;induction n with
 |zero=>
  intro st;rw[Lw];exact LS.refl st
 |succ n ih=>
  intro st;rw[Lw];exact Gc ih st
theorem CH(T:Nat):KA (or T):=fun st=>rR T _ st
theorem CL{a b:St}(h:LS a b):LS a {b with d:=true}:=⟨h.e,h.i,h.s,fun _=>rfl⟩
theorem cd(T:Nat):KA (expr T):=by
 intro st;unfold expr;simp only;split
 ·exact CL (CH T st)
 ·exact CH T st
theorem pg{α:Type}{T most:Nat}{one:St→α×St}(h:KA one):∀(f:Nat) (l:List α),KA (more T most one f l):=by
 intro f;induction f with
 |zero=>exact fun l st=>LS.refl st
 |succ f ih=>
  intro l st;unfold more;split
  ·split
   ·exact(ax st).trans (sq T _)
   ·exact(ax st).trans ((h _).trans (ih _ _))
  ·exact LS.refl st
theorem fY{α:Type}{T most:Nat}{one:St→α×St}(h:KA one):KA (list T most one):=fun st=>(h st).trans (pg h _ _ _)
theorem lD(T:Nat):KA (row T):=fE (fY (cd T))
theorem da{α:Type}{f:St→α×St}(h:KA f){st s:St}{a:α}(e:f st=(a,s)):LS st s:=by
 have:=h st;rw[e]at this;exact this
theorem lC(T:Nat):KA (item T):=by
 intro st;unfold item;split;rename_i e s h;have h1:=da (cd T) h;split
 ·exact h1.trans ((ax s).trans (bp T _))
 ·exact h1
theorem ka(T:Nat):KA (order T):=by
 intro st;unfold order;split;rename_i e s h;have h1:=da (cd T) h;repeat' split
 ·exact h1.trans (ax s)
 ·exact h1.trans (ax s)
 ·exact h1
theorem eO(T:Nat):KA (source T):=by
 intro st;unfold source;split;rename_i e s h;have h1:=da (bp T) h;split
 ·exact h1.trans ((ax s).trans (bp T _))
 ·exact h1
theorem jI(T:Nat):KA (du T):=by
 intro st;unfold du;split;rename_i n s h;split;rename_i e s2 h2;exact(da (bp T) h).trans ((aM T _ s).trans (da (cd T) h2))
theorem vF(T:Nat):KA (action T):=by
 intro st;unfold action;split
 ·split;rename_i i s h;have h1:=(ax st).trans ((aM T _ _).trans (da (fx T _ 0) h));split
  ·exact h1.trans (aM T _ s)
  ·exact h1
 ·exact LS.refl st
theorem fB(T:Nat):KA (aq T):=by
 intro st;unfold aq;split
 ·exact(ax st).trans (cd T _)
 ·exact LS.refl st
theorem yD(T:Nat):KA (bA T):=by
 intro st;unfold bA;split
 ·split
  ·simp only;split
   ·exact(eu (by decide) st).trans (ax _)
   ·exact ax st
  ·exact(eu (by decide) st).trans (ax _)
 ·exact eu (by decide) st
theorem oP(T:Nat):KA (cU T):=by
 intro st;unfold cU;split;rename_i i s h;exact da (fx T _ 0) h
theorem nZ{T:Nat}(c:Ky):KA (bc T c):=by
 intro st;unfold bc;split
 ·exact(ax st).trans (aM T _ _)
 ·exact LS.refl st
theorem oc{T:Nat}(c:Ky):KA (bY T c):=by
 intro st;unfold bY;split
 ·exact(ax st).trans (aM T _ _)
 ·exact LS.refl st
theorem oe(c:Ky):KA (cp c):=by
 intro st;unfold cp;split
 ·exact ax st
 ·exact LS.refl st
theorem ou{T:Nat}(c:Ky):KA (cM T c):=by
 intro st;unfold cM;split
 ·exact(ax st).trans (fE (cd T) _)
 ·exact LS.refl st
theorem lj{T:Nat}(c:Ky):KA (dK T c):=by
 intro st;unfold dK;split
 ·exact(ax st).trans ((bp T _).trans (vF T _))
 ·exact LS.refl st
theorem uy(T:Nat):KA (aC T):=by
 intro st;unfold aC;split;rename_i n s h;split;rename_i i s2 h2;exact(da (bp T) h).trans (da (fx T _ 0) h2)
theorem nA(T:Nat):KA (column T):=by
 intro st;rw[kR];exact(uy T st).trans ((nZ _ _).trans ((oc _ _).trans ((oe _ _).trans ((ou _ _).trans (lj _ _)))))
theorem gG(T:Nat):∀(f:Nat) (l:List Src) (st:St),LS st (aI T f l st).2.1:=by
 intro f;induction f with
 |zero=>exact fun l st=>LS.refl st
 |succ f ih=>
  intro l st;unfold aI;split
  ·split
   ·exact(ax st).trans (sq T _)
   ·split;rename_i s s1 h1;split;rename_i e s2 h2;exact(ax st).trans ((da (eO T) h1).trans ((aM T _ s1).trans ((da (cd T) h2).trans (ih _ _))))
  ·exact LS.refl st
theorem oL(T:Nat):KA (cO T):=by
 intro st;unfold cO;split
 ·exact ax st
 ·split;rename_i l s h;exact da (fY (lC T)) h
theorem lk{T:Nat}(q:Kz):KA (dH T q):=by
 intro st;unfold dH;split
 ·exact(ax st).trans ((aM T _ _).trans (fY (cd T) _))
 ·exact LS.refl st
theorem lB{T:Nat}(q:Kz):KA (dm T q):=by
 intro st;unfold dm;split
 ·exact(ax st).trans ((aM T _ _).trans (fY (ka T) _))
 ·exact LS.refl st
theorem lN{T:Nat}(q:Kz):KA (db T q):=by
 intro st;unfold db;split
 ·exact(ax st).trans (yD T _)
 ·exact LS.refl st
theorem Br{T:Nat}(q:Kz):KA (nu T q):=by
 intro st;unfold nu;split;rename_i wh s h;split;rename_i q1 s1 h1;split;rename_i q2 s2 h2;exact(da (fB T) h).trans ((da (lk _) h1).trans ((da (lB _) h2).trans (lN _ _)))
theorem Gn(T:Nat):KA (selection T):=by
 intro st;unfold selection;split;rename_i q s h;split;rename_i so s1 h1;have h2:=(da (oL T) h).trans ((aM T _ s).trans (da (eO T) h1));have h3:=gG T (s1.r.length+1) [so] s1;split
 ·rename_i l s2 h4;rw[h4]at h3;exact h2.trans h3
 ·rename_i l s2 h4;rw[h4]at h3;exact h2.trans (h3.trans (Br _ _))
end I
end
section
abbrev OM (x:Ev.Ex):Prop:=I.depth x≤1000000000000000000
structure Qb (q:I.Kz):Prop where
 its:∀i∈q.its,OM i.x
 fr:∀s∈q.fr,∀x∈s.on,OM x
 wh:∀x∈q.wh,OM x
 gr:∀x∈q.gr,OM x
 od:∀o∈q.od,OM o.x
structure NN (s:I.Km):Prop where
 wh:∀x∈s.wh,OM x
 Kv:∀c∈s.Kv,∀x∈c.ck,OM x
 vals:∀l∈s.vals,∀x∈l,OM x
 bu:∀t∈s.bu,OM t.x
 q:∀q∈s.q,Qb q
namespace I
open Ev (Ex Hd)
def Rk{α:Type}(P:α→Prop)(f:St→α×St):Prop:=∀st,st.r.length≤4096→P (f st).1∧(f st).2.r.length≤4096
theorem bT{α:Type}{p:α→Prop}:∀x∈([]:List α),p x:=fun x hx=>by cases hx
theorem kO{α:Type}{p:α→Prop}{a:α}(h:p a):∀x∈[a],p x:=fun x hx=>by
 simp only[List.mem_cons,List.not_mem_nil,or_false]at hx
 rw[hx]
 exact h
section
variable{α β:Type}{T:Nat}{P:α→Prop}{Q:β→Prop}{f g:St→α×St}
theorem Rk.less(h:∀st,(f st).2.r.length≤st.r.length):Rk (fun _=>True) f:=fun st hs=>⟨True.intro,Nat.le_trans (h st) hs⟩
theorem Rk.ret{a:α}(h:P a):Rk P (fun st=>(a,st)):=fun _ hs=>⟨h,hs⟩
theorem Rk.bind{F:α→St→β×St}(h:Rk P f)(hF:∀a,P a→Rk Q (F a)):Rk Q (fun st=>F (f st).1 (f st).2):=fun st hs=>hF _ (h st hs).1 _ (h st hs).2
theorem Rk.fst{F:α→β}(h:Rk P f)(hF:∀a,P a→Q (F a)):Rk Q (fun st=>(F (f st).1,(f st).2)):=fun st hs=>⟨hF _ (h st hs).1,(h st hs).2⟩
theorem Rk.acc{s:Bs}(h:Rk P f)(k:Rk P g):Rk P (fun st=>if ae s st=true then f (next st)else g st):=fun st hs=>by
 simp only
 split
 ·exact h _ (Nat.le_trans (aE st) hs)
 ·exact k _ hs
theorem Rk.exp(l:List Bs)(h:Rk P f):Rk P (fun st=>f (expect T l st)):=fun st hs=>h _ (Nat.le_trans (av T l st) hs)
theorem Rk.inside(h:Rk P f):Rk P (I.inside T f):=fun st hs=>by
 have h1:=h _ (Nat.le_trans (av T [[40]] st) hs)
 exact⟨h1.1,Nat.le_trans (av T _ _) h1.2⟩
theorem Rk.more{most:Nat}(h:Rk P f):∀(n:Nat) (l:List α),(∀x∈l,P x)→Rk (fun l=>∀x∈l,P x) (I.more T most f n l):=by
 intro n;induction n with
 |zero=>intro l hl st hs;exact⟨hl,hs⟩
 |succ n ih=>
  intro l hl st hs;unfold I.more;have h1:=Nat.le_trans (aE st) hs;split
  ·split
   ·exact⟨hl,Nat.le_trans (jM T _) h1⟩
   ·refine ih _ (fun x hx=>?_) _ (h _ h1).2;rcases List.mem_append.1 hx with hx|hx
    ·exact hl x hx
    ·exact kO (h _ h1).1 x hx
  ·exact⟨hl,hs⟩
theorem Rk.list(most:Nat)(h:Rk P f):Rk (fun l=>∀x∈l,P x) (I.list T most f):=fun st hs=>Rk.more h _ _ (kO (h st hs).1) _ (h st hs).2
theorem Rk.pick:∀{l:List (Bs×(St→Km×St))},(∀v∈l,Rk NN v.2)→Rk NN (I.pick T l):=by
 intro l;induction l with
 |nil=>intro _ st hs;exact⟨⟨bT,bT,bT,bT,bT⟩,Nat.le_trans (dt T 300 st) hs⟩
 |cons v l ih=>
  intro h st hs;unfold I.pick;split
  ·exact h v List.mem_cons_self _ (Nat.le_trans (aE st) hs)
  ·exact ih (fun v hv=>h v (List.mem_cons_of_mem _ hv)) st hs
end
section
variable{T:Nat}
theorem cl:Rk (fun _=>True) (name T):=Rk.less (dO T)
theorem j4(i:Nat)(l:List Bs):Rk (fun _=>True) (choose T i l):=Rk.less (iY T l i)
theorem gh:Rk OM (expr T):=fun st hs=>⟨Nat.le_trans (Cm T st) (by omega),Nat.le_trans (eh T st) hs⟩
theorem DG:Rk (fun l=>∀x∈l,OM x) (row T):=Rk.inside (Rk.list 16 gh)
theorem nW:Rk (fun l=>∀x∈l,OM x) (aq T):=Rk.acc (Rk.fst (F:=fun e=>[e]) gh fun _ h=>kO h) (Rk.ret bT)
def Cx(c:Ky):Prop:=∀x∈c.ck,OM x
theorem Gg:Rk Cx (aC T):=Rk.bind cl fun n _=>Rk.fst (F:=fun i=>(⟨n,kinds.getD i 0,false,false,false,[],[],0⟩:Ky)) (j4 0 [[105,110,116],[100,101,99],[98,111,111,108],[116,101,120,116],[98,121,116,101,115]]) fun _ _=>bT
theorem Et{c:Ky}(h:Cx c):Rk Cx (bc T c):=Rk.acc (Rk.exp (T:=T) [[107,101,121]] (Rk.ret (a:=({c with pr:=true}:Ky)) h)) (Rk.ret h)
theorem GI{c:Ky}(h:Cx c):Rk Cx (bY T c):=Rk.acc (Rk.exp (T:=T) [[110,117,108,108]] (Rk.ret (a:=({c with nn:=true}:Ky)) h)) (Rk.ret h)
theorem Ft{c:Ky}(h:Cx c):Rk Cx (cp c):=Rk.acc (Rk.ret (a:=({c with un:=true}:Ky)) h) (Rk.ret h)
theorem EI{c:Ky}(h:Cx c):Rk Cx (cM T c):=Rk.acc (Rk.fst (F:=fun e=>({c with ck:=[e]}:Ky)) (Rk.inside gh) fun _ h=>kO h) (Rk.ret h)
theorem GA{c:Ky}(h:Cx c):Rk Cx (dK T c):=Rk.acc (Rk.bind cl fun n _=>Rk.fst (F:=fun a=>({c with rf:=n,ac:=a}:Ky)) (Rk.less (mH T)) fun _ _=>h) (Rk.ret h)
theorem yX:Rk Cx (column T):=fun st hs=>by
 rw[kR]
 have h0:=Gg (T:=T) st hs
 have h1:=Et (T:=T) h0.1 _ h0.2
 have h2:=GI (T:=T) h1.1 _ h1.2
 have h3:=Ft h2.1 _ h2.2
 have h4:=EI (T:=T) h3.1 _ h3.2
 exact GA h4.1 _ h4.2
theorem BF:Rk NN (table T):=Rk.bind cl fun n _=>Rk.fst (F:=fun cs=>({Km.of 1 with nm:=n,Kv:=cs}:Km)) (Rk.inside (Rk.list 12 yX)) fun _ h=>⟨bT,h,bT,bT,bT⟩
theorem GL:Rk (fun i=>OM i.x) (item T):=Rk.bind gh fun e h=>Rk.acc (Rk.fst (F:=fun n=>(⟨e,n⟩:LL)) cl fun _ _=>h) (Rk.ret (a:=(⟨e,[]⟩:LL)) h)
def Sx(s:Src):Prop:=∀x∈s.on,OM x
theorem qB:Rk Sx (source T):=Rk.bind cl fun n _=>Rk.acc (Rk.fst (F:=fun a=>(⟨n,a,[]⟩:Src)) cl fun _ _=>bT) (Rk.ret (a:=(⟨n,[],[]⟩:Src)) bT)
theorem DT:Rk (fun o=>OM o.x) (order T):=Rk.bind gh fun e h=>Rk.acc (Rk.ret (a:=(⟨e,false⟩:Ord)) h) (Rk.acc (Rk.ret (a:=(⟨e,true⟩:Ord)) h) (Rk.ret (a:=(⟨e,false⟩:Ord)) h))
theorem Ai(st:St):(bA T st).2.r.length≤st.r.length:=by
 unfold bA;split
 ·split
  ·simp only;split
   ·exact Nat.le_trans (aE _) (dt T 271 st)
   ·exact aE st
  ·exact Nat.le_trans (aE _) (dt T 271 st)
 ·exact dt T 300 st
theorem Ed{q:Kz}(h:Qb q):Rk Qb (dH T q):=Rk.acc (Rk.exp (T:=T) [[98,121]] (Rk.fst (F:=fun l=>({q with gr:=l}:Kz)) (Rk.list 16 gh) fun _ k=>⟨h.its,h.fr,h.wh,k,h.od⟩)) (Rk.ret h)
theorem GM{q:Kz}(h:Qb q):Rk Qb (dm T q):=Rk.acc (Rk.exp (T:=T) [[98,121]] (Rk.fst (F:=fun l=>({q with od:=l}:Kz)) (Rk.list 16 DT) fun _ k=>⟨h.its,h.fr,h.wh,h.gr,k⟩)) (Rk.ret h)
theorem Ek{q:Kz}(h:Qb q):Rk Qb (db T q):=Rk.acc (Rk.fst (F:=fun n=>({q with lim:=n}:Kz)) (Rk.less Ai) fun _ _=>⟨h.its,h.fr,h.wh,h.gr,h.od⟩) (Rk.ret h)
theorem EF:Rk (fun q=>Qb q∧q.wh=[]) (cO T):=Rk.acc (Rk.ret (a:=(⟨true,[],[],[],[],[],-1⟩:Kz)) ⟨⟨bT,bT,bT,bT,bT⟩,rfl⟩) (Rk.fst (F:=fun l=>(⟨false,l,[],[],[],[],-1⟩:Kz)) (Rk.list 16 GL) fun _ h=>⟨⟨h,bT,bT,bT,bT⟩,rfl⟩)
theorem EE{q:Kz}(h:Qb q):Rk Qb (nu T q):=fun st hs=>by
 have h0:=nW (T:=T) st hs
 have h1:=Ed (T:=T) (q:={q with wh:=(aq T st).1}) ⟨h.its,h.fr,h0.1,h.gr,h.od⟩ _ h0.2
 have h2:=GM (T:=T) h1.1 _ h1.2
 exact Ek h2.1 _ h2.2
theorem C9:∀(f:Nat) (l:List Src) (st:St),(∀s∈l,Sx s)→st.r.length≤4096→(∀s∈(aI T f l st).1,Sx s)∧(aI T f l st).2.1.r.length≤4096:=by
 intro f;induction f with
 |zero=>intro l st hl hs;exact⟨hl,hs⟩
 |succ f ih=>
  intro l st hl hs;have h1:=Nat.le_trans (aE st) hs;unfold aI;split
  ·split
   ·exact⟨hl,Nat.le_trans (jM T _) h1⟩
   ·have h2:=(qB (T:=T) _ h1).2;have h3:=gh (T:=T) _ (Nat.le_trans (av T [[111,110]] _) h2);have h4:Sx {(source T (next st)).1 with on:=[(expr T (expect T [[111,110]] (source T (next st)).2)).1]}:=kO h3.1;refine ih _ _ (fun s hs=>?_) h3.2;rcases List.mem_append.1 hs with hs|hs
    ·exact hl s hs
    ·exact kO h4 s hs
  ·exact⟨hl,hs⟩
theorem DM:Rk Qb (selection T):=fun st hs=>by
 have h0:=EF (T:=T) st hs
 unfold selection
 cases hq:cO T st with
 |mk q st1=>
  rw[hq]at h0
  have h1:=qB (T:=T) _ (Nat.le_trans (av T [[102,114,111,109]] st1) h0.2)
  dsimp only
  cases hr:source T (expect T [[102,114,111,109]] st1)with
  |mk s st2=>
   rw[hr]at h1
   have hj:=C9 (T:=T) (st2.r.length+1) [s] st2 (kO h1.1) h1.2
   dsimp only
   cases hk:aI T (st2.r.length+1) [s] st2 with
   |mk l p=>
    obtain⟨st3,b⟩:=p
    rw[hk]at hj
    have hq:Qb {q with fr:=l}:=⟨h0.1.1.its,hj.1,h0.1.1.wh,h0.1.1.gr,h0.1.1.od⟩
    cases b
    ·exact EE hq st3 hj.2
    ·exact⟨hq,hj.2⟩
theorem UE{k:UInt8}{n o t:Bs}{e:UInt8}{p:List UInt8}{b:Bool}{y:Bs}:NN ⟨k,n,o,t,e,[],[],[],[],[],p,b,y⟩:=⟨bT,bT,bT,bT,bT⟩
theorem Fc:Rk NN (drop T):=Rk.bind (j4 0 [[116,97,98,108,101],[118,105,101,119],[116,114,105,103,103,101,114],[112,111,108,105,99,121]]) fun i _=>Rk.fst (F:=fun n=>({Km.of ([2,4,6,8].getD i 0)with nm:=n}:Km)) cl fun _ _=>UE
theorem Fm:Rk NN (view T):=Rk.bind cl fun n _=>Rk.exp (T:=T) [[97,115],[115,101,108,101,99,116]] (Rk.fst (F:=fun q=>({Km.of 3 with nm:=n,q:=[q]}:Km)) DM fun _ h=>⟨bT,bT,bT,bT,kO h⟩)
theorem wj:Rk NN (cu T):=fun st hs=>by
 unfold cu
 have h0:=cl (T:=T) st hs
 cases q0:name T st with
 |mk x0 s0=>
  rw[q0]at h0
  dsimp only
  have e1:=Nat.le_trans (av T [[97,102,116,101,114]] s0) h0.2
  have h1:=j4 (T:=T) 0 [[105,110,115,101,114,116],[117,112,100,97,116,101],[100,101,108,101,116,101]] (expect T [[97,102,116,101,114]] s0) e1
  cases q1:choose T 0 [[105,110,115,101,114,116],[117,112,100,97,116,101],[100,101,108,101,116,101]] (expect T [[97,102,116,101,114]] s0)with
  |mk x1 s1=>
   rw[q1]at h1
   dsimp only
   have e2:=Nat.le_trans (av T [[111,110]] s1) h1.2
   have h2:=cl (T:=T) (expect T [[111,110]] s1) e2
   cases q2:name T (expect T [[111,110]] s1)with
   |mk x2 s2=>
    rw[q2]at h2
    dsimp only
    have e3:=Nat.le_trans (av T [[105,110,115,101,114,116],[105,110,116,111]] s2) h2.2
    have h3:=cl (T:=T) (expect T [[105,110,115,101,114,116],[105,110,116,111]] s2) e3
    cases q3:name T (expect T [[105,110,115,101,114,116],[105,110,116,111]] s2)with
    |mk x3 s3=>
     rw[q3]at h3
     dsimp only
     have e4:=Nat.le_trans (av T [[118,97,108,117,101,115]] s3) h3.2
     have h4:=DG (T:=T) (expect T [[118,97,108,117,101,115]] s3) e4
     cases q4:row T (expect T [[118,97,108,117,101,115]] s3)with
     |mk x4 s4=>
      rw[q4]at h4
      dsimp only
      exact⟨⟨bT,bT,kO h4.1,bT,bT⟩,h4.2⟩
theorem yS:Rk NN (dE T):=fun st hs=>by
 have h0:=(cl (T:=T) st hs).2
 have h1:=(cl (T:=T) _ (Nat.le_trans (av T [[111,110]] _) h0)).2
 have h2:=(cl (T:=T) _ (Nat.le_trans (av T [[116,111]] _) h1)).2
 have h3:=Rk.inside (T:=T) (gh (T:=T)) _ (Nat.le_trans (av T [[117,115,105,110,103]] _) h2)
 exact⟨⟨kO h3.1,bT,bT,bT,bT⟩,h3.2⟩
theorem Ep:Rk NN (role T):=Rk.bind cl fun n _=>Rk.acc (f:=fun st=>if au st=3 then({Km.of 9 with nm:=n,key:=Mv st},next st)else({Km.of 9 with nm:=n},fail T 300 st)) (fun st hs=>by
 simp only
 split
 ·exact⟨UE,Nat.le_trans (aE st) hs⟩
 ·exact⟨UE,Nat.le_trans (dt T 300 st) hs⟩) (Rk.ret (a:=({Km.of 9 with nm:=n}:Km)) UE)
def Nx(s:Km):Prop:=s.Kv=[]∧s.q=[]∧s.vals=[]∧s.bu=[]∧s.wh=[]
theorem Nx.dp{s:Km}(h:Nx s):NN s:=by
 obtain⟨h1,h2,h3,h4,h5⟩:=h;exact⟨by rw[h5];exact bT,by rw[h1];exact bT,by rw[h3];exact bT,by rw[h4];exact bT,by rw[h2];exact bT⟩
theorem Ar:Rk (fun _=>True) (aX T):=Rk.acc (f:=fun st=>(([1,2,3,4]:List UInt8),st)) (Rk.ret True.intro) fun st hs=>⟨True.intro,(Rk.list (P:=fun _=>True) (T:=T) 16 (Rk.fst (F:=fun i=>UInt8.ofNat (i+1)) (j4 (T:=T) 0 [[115,101,108,101,99,116],[105,110,115,101,114,116],[117,112,100,97,116,101],[100,101,108,101,116,101]]) fun _ _=>True.intro) st hs).2⟩
theorem JW(r p:UInt8):Rk Nx (fun st=>if named st=true then(Km.of r,st)else({Km.of p with pv:=(aX T st).1},expect T [[111,110]] (aX T st).2)):=fun st hs=>by
 simp only
 split
 ·exact⟨⟨rfl,rfl,rfl,rfl,rfl⟩,hs⟩
 ·exact⟨⟨rfl,rfl,rfl,rfl,rfl⟩,Nat.le_trans (av T _ _) (Ar st hs).2⟩
theorem oF(r p:UInt8)(w:Bs):Rk Nx (share T r p w):=Rk.bind (JW r p) fun s h=>Rk.bind cl fun n _=>Rk.exp (T:=T) [w] (Rk.fst (F:=fun on=>({s with nm:=n,on:=on}:Km)) cl fun _ _=>h)
theorem Dj:Rk NN (dk T):=Rk.bind (F:=fun s st=>if s.k=12∧ae [119,105,116,104] st=true then({s with opt:=true},expect T [[103,114,97,110,116],[111,112,116,105,111,110]] (next st))else(s,st)) (oF 10 12 [116,111]) fun s h st hs=>by
 simp only
 split
 ·exact⟨Nx.dp (s:={s with opt:=true}) h,Nat.le_trans (av T _ _) (Nat.le_trans (aE st) hs)⟩
 ·exact⟨h.dp,hs⟩
theorem yu:Rk NN (iG T):=fun st hs=>⟨(oF 11 13 [102,114,111,109] st hs).1.dp,(oF 11 13 [102,114,111,109] st hs).2⟩
theorem yP:Rk NN (insert T):=Rk.exp (T:=T) [[105,110,116,111]] (Rk.bind cl fun n _=>Rk.exp (T:=T) [[118,97,108,117,101,115]] (Rk.fst (F:=fun v=>({Km.of 14 with nm:=n,vals:=v}:Km)) (Rk.list 16 DG) fun _ h=>⟨bT,bT,h,bT,bT⟩))
theorem EY:Rk (fun t=>OM t.x) (du T):=Rk.bind cl fun n _=>Rk.exp (T:=T) [[61]] (Rk.fst (F:=fun e=>(⟨n,e⟩:La)) gh fun _ h=>h)
theorem yB:Rk NN (update T):=fun st hs=>by
 unfold update
 have h0:=cl (T:=T) st hs
 cases q0:name T st with
 |mk x0 s0=>
  rw[q0]at h0
  dsimp only
  have e1:=Nat.le_trans (av T [[115,101,116]] s0) h0.2
  have h1:=Rk.list (T:=T) 16 (EY (T:=T)) (expect T [[115,101,116]] s0) e1
  cases q1:list T 16 (du T) (expect T [[115,101,116]] s0)with
  |mk x1 s1=>
   rw[q1]at h1
   dsimp only
   have h2:=nW (T:=T) s1 h1.2
   cases q2:aq T s1 with
   |mk x2 s2=>
    rw[q2]at h2
    dsimp only
    exact⟨⟨h2.1,bT,bT,h1.1,bT⟩,h2.2⟩
theorem zU:Rk NN (remove T):=Rk.exp (T:=T) [[102,114,111,109]] (Rk.bind cl fun n _=>Rk.fst (F:=fun w=>({Km.of 16 with nm:=n,wh:=w}:Km)) nW fun _ h=>⟨h,bT,bT,bT,bT⟩)
theorem BE:Rk NN (query T):=Rk.fst (F:=fun q=>({Km.of 17 with q:=[q]}:Km)) DM fun _ h=>⟨bT,bT,bT,bT,kO h⟩
theorem yy:Rk NN (create T):=Rk.pick fun v hv=>by
 simp only[List.mem_cons,List.not_mem_nil,or_false]at hv
 rcases hv with rfl|rfl|rfl|rfl|rfl
 ·exact BF
 ·exact Fm
 ·exact wj
 ·exact yS
 ·exact Ep
theorem IL{l:List Tok}(h:l.length≤4096):NN (run T l).1:=by
 refine(Rk.pick (T:=T) (l:=js T) (fun v hv=>?_) ⟨l,0,0,false⟩ h).1;simp only[js,List.mem_cons,List.not_mem_nil,or_false]at hv;rcases hv with rfl|rfl|rfl|rfl|rfl|rfl|rfl|rfl|rfl|rfl|rfl
 ·exact yy
 ·exact Fc
 ·exact Dj
 ·exact yu
 ·exact yP
 ·exact yB
 ·exact zU
 ·exact BE
 ·exact Rk.ret UE
 ·exact Rk.ret UE
 ·exact Rk.ret UE
end
end I
end
end Go.Proofs.YtnicfobpclehkaaGreatDoor
