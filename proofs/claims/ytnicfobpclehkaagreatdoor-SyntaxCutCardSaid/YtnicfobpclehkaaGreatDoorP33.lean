import Derived.Test.YtnicfobpclehkaaGreatDoorP32
set_option maxHeartbeats 200000
set_option linter.unusedVariables false
set_option linter.unusedSimpArgs false
namespace Go.Proofs.YtnicfobpclehkaaGreatDoor
section
namespace I
open Ev (Ex Hd)
structure Aw (F:Wr→Wr) (l:List Bs):Prop where
 kb:∀st,st.b=true→(F st).b=true
 ok:∀st,st.b=false→st.n≤4097→st.n+sz l≤4097→F st=⟨st.p++l,st.n+sz l,false⟩
 no:∀st,st.b=false→st.n≤4097→4097<st.n+sz l→(F st).b=true
theorem GA{st:Wr}{f:Bool}(h:st.b=true):(dx f st).b=true:=by
 show(st.b||f)=true;rw[h];rfl
theorem Aw.id:Aw (fun w=>w) []:=⟨fun _ h=>h,fun st h _ _=>by
 obtain⟨p,n,b⟩:=st
 simp only at h
 rw[h]
 simp[sz],fun st _ h1 h2=>by simp[sz]at h2;omega⟩
theorem Aw.fA{s:Bs}(h:s≠[]):Aw (fA s) [s]:=by
 have e:sz [s]=s.length+1:=by simp[sz]
 refine⟨fun st hb=>?_,fun st hb hn hl=>?_,fun st hb hn hl=>?_⟩
 ·exact GA hb
 ·rw[e]at hl⊢;unfold I.fA dx;simp only[hb,ar h,cz];rw[ar (by omega)]
 ·rw[e]at hl;show(st.b||(decide (s=[])||decide (4097<st.n+(s.length+1))))=true;rw[aq (show 4097<st.n+(s.length+1) by omega)];simp
theorem Aw.comp{F G:Wr→Wr}{l m:List Bs}(hF:Aw F l)(hG:Aw G m):Aw (fun w=>G (F w)) (l++m):=by
 have e:sz (l++m)=sz l+sz m:=by simp[sz]
 refine⟨fun st hb=>hG.kb _ (hF.kb st hb),fun st hb hn hl=>?_,fun st hb hn hl=>?_⟩
 ·rw[e]at hl⊢;rw[hF.ok st hb hn (by omega),hG.ok _ rfl (by show st.n+sz l≤4097;omega) (by show st.n+sz l+sz m≤4097;omega)];simp[cC]
 ·rw[e]at hl;by_cases h:st.n+sz l≤4097
  ·rw[hF.ok st hb hn h];exact hG.no _ rfl h (by show 4097<st.n+sz l+sz m;omega)
  ·exact hG.kb _ (hF.no st hb hn (by omega))
theorem Aw.put:∀{l:List Bs},(∀s∈l,s≠[])→Aw (put l) l:=by
 intro l;induction l with
 |nil=>intro _;exact Aw.id
 |cons s l ih=>intro h;exact Aw.comp (F:=I.fA s) (G:=I.put l) (l:=[s]) (Aw.fA (h s ag)) (ih fun t ht=>h t (au _ ht))
theorem Aw.opt{b:Bool}{l:List Bs}(h:b=true→∀s∈l,s≠[]):Aw (option b l) (if b=true then l else []):=by
 cases b with
 |true=>exact Aw.put (h rfl)
 |false=>exact Aw.id
theorem Aw.cast{F G:Wr→Wr}{l m:List Bs}(h:Aw F l)(e:∀w,G w=F w)(e2:l=m):Aw G m:=by
 subst e2;have:G=F:=funext e;rw[this];exact h
theorem Aw.fm{α:Type}{one:α→Wr→Wr}{p:α→List Bs}:∀(xs:List α) (c:Bool),(∀x∈xs,Aw (one x) (p x))→xs≠[]→Aw (fm one c xs) ((if c=true then [[44]]else [])++pC p xs):=by
 intro xs;induction xs with
 |nil=>intro c _ h;exact absurd rfl h
 |cons x xs ih=>
  intro c hx _;have h1:Aw (fun w=>one x (option c [[44]] w)) ((if c=true then [[44]]else [])++p x):=Aw.comp (F:=option c [[44]]) (G:=one x) (Aw.opt fun _ s hs=>by simp at hs;rw[hs];decide) (hx x ag);have hstep:∀st,I.fm one c (x::xs) st=if st.b=true then st else I.fm one true xs (one x (option c [[44]] st)):=fun st=>rfl
  cases xs with
  |nil=>
   refine⟨fun st hb=>by rw[hstep,if_pos hb];exact hb,fun st hb hn hl=>?_,fun st hb hn hl=>?_⟩
   ·rw[hstep,if_neg (by rw[hb];decide)];exact h1.ok st hb hn hl
   ·rw[hstep,if_neg (by rw[hb];decide)];exact h1.no st hb hn hl
  |cons y ys=>
   have h2:=ih true (fun z hz=>hx z (au _ hz)) (by simp);have h3:Aw (fun w=>I.fm one true (y::ys) (one x (option c [[44]] w))) (((if c=true then [[44]]else [])++p x)++(([[44]]:List Bs)++pC p (y::ys))):=Aw.comp (F:=fun w=>one x (option c [[44]] w)) (G:=I.fm one true (y::ys)) h1 h2;have e:((if c=true then [[44]]else [])++p x)++(([[44]]:List Bs)++pC p (y::ys))=(if c=true then [[44]]else [])++pC p (x::y::ys):=by rw[aX];rfl
   rw[e]at h3;refine⟨fun st hb=>by rw[hstep,if_pos hb];exact hb,fun st hb hn hl=>?_,fun st hb hn hl=>?_⟩
   ·rw[hstep,if_neg (by rw[hb];decide)];exact h3.ok st hb hn hl
   ·rw[hstep,if_neg (by rw[hb];decide)];exact h3.no st hb hn hl
theorem Aw.each{α:Type}{one:α→Wr→Wr}{p:α→List Bs}{xs:List α}(h:∀x∈xs,Aw (one x) (p x))(hx:xs≠[]):Aw (each one xs) (pC p xs):=by
 have h1:=Aw.fm xs false h hx;refine Aw.cast h1 (fun w=>?_) rfl;unfold I.each;split
 ·rfl
 ·have:decide (xs.length=0)=false:=ar (by cases xs;exact absurd rfl hx;simp);rw[this];unfold dx;rw[Bool.or_false]
theorem Aw.kid{o:UInt8}{k:Ex}{W:Wr→Wr}{l:List Bs}(h:Aw W l):Aw (im o k W) (pK o k l):=by
 unfold im pK;cases hb:gn o&&gn (qb k)with
 |true=>
  have h1:=Aw.comp (F:=fun w=>W (I.put [[40]] w)) (G:=I.put [[41]]) (Aw.comp (F:=I.put [[40]]) (G:=W) (Aw.put fun s hs=>by simp at hs;rw[hs];decide) h) (Aw.put fun s hs=>by simp at hs;rw[hs];decide);exact Aw.cast h1 (fun w=>rfl) (by simp)
 |false=>exact Aw.cast h (fun w=>rfl) (by simp)
theorem Aw.guard{F:Wr→Wr}{l:List Bs}{f:Bool}(h:Aw F l)(hf:f=false):Aw (fun w=>if(dx f w).b=true then dx f w else F w) l:=by
 subst hf;have e:∀st:Wr,(dx false st).b=st.b:=fun st=>Bool.or_false _
 refine⟨fun st hb=>?_,fun st hb hn hl=>?_,fun st hb hn hl=>?_⟩
 ·show(if(dx false st).b=true then dx false st else F st).b=true;rw[if_pos (by rw[e];exact hb),e];exact hb
 ·show(if(dx false st).b=true then dx false st else F st)=_;rw[if_neg (by rw[e,hb];decide)];exact h.ok st hb hn hl
 ·show(if(dx false st).b=true then dx false st else F st).b=true;rw[if_neg (by rw[e,hb];decide)];exact h.no st hb hn hl
theorem pq{o:UInt8}(h:o∈([3,4,5,6,7,8,9,10,11,12,13,14,15,17,18,19,20,21]:List UInt8)):dw o≠[]:=by
 simp only[af,aj,aH]at h;rcases h with rfl|rfl|rfl|rfl|rfl|rfl|rfl|rfl|rfl|rfl|rfl|rfl|rfl|rfl|rfl|rfl|rfl|rfl<;>decide
theorem jG{d:Nat}{a b:Int}(hd:d≤24)(h:a=b):(decide (24<d)||decide (a≠b))=false:=by
 subst h;rw[ar (by omega)];simp
theorem Aw.bin{d:Nat}{o:UInt8}{a b:Ex}(hd:d≤24)(ho:o∈([4,5,6,7,8,9,10,11,12,13,14]:List UInt8))(ha:Aw (within (d+1) a) (pE a))(hb:Aw (within (d+1) b) (pE b)):Aw (within d (bin o a b)) (pE (bin o a b)):=by
 have hk:(2:Int)=dv o 2:=by simp only[af,aj,aH]at ho;rcases ho with rfl|rfl|rfl|rfl|rfl|rfl|rfl|rfl|rfl|rfl|rfl<;>decide
 have hn:dw o≠[]:=pq (by
  simp only[af,aj,aH]at ho⊢
  rcases ho with rfl|rfl|rfl|rfl|rfl|rfl|rfl|rfl|rfl|rfl|rfl<;>simp)
 have h1:=Aw.comp (F:=fun w=>I.put [dw o] (im o a (within (d+1) a) w)) (G:=im o b (within (d+1) b)) (Aw.comp (F:=im o a (within (d+1) a)) (G:=I.put [dw o]) (Aw.kid ha) (Aw.put fun s hs=>by simp at hs;rw[hs];exact hn)) (Aw.kid hb);exact Aw.cast (Aw.guard h1 (jG hd hk)) (fun w=>rfl) (by show _=pK o a (pE a)++dw o::pK o b (pE b);simp)
theorem Aw.un{d:Nat}{o:UInt8}{a:Ex}(hd:d≤24)(ho:o∈([3,15,16,17,18,19,20]:List UInt8))(ha:Aw (within (d+1) a) (pE a)):Aw (within d (un o a)) (pE (un o a)):=by
 have hk:(1:Int)=dv o 1:=by simp only[af,aj,aH]at ho;rcases ho with rfl|rfl|rfl|rfl|rfl|rfl|rfl<;>decide
 by_cases h3:o.toNat=3∨o.toNat=15
 ·have hn:dw o≠[]:=pq (by
   simp only[af,aj,aH]at ho⊢
   rcases ho with rfl|rfl|rfl|rfl|rfl|rfl|rfl<;>first|(simp;done)|(exfalso;revert h3;decide))
  have h1:=Aw.comp (F:=I.put [dw o]) (G:=im o a (within (d+1) a)) (Aw.put fun s hs=>by simp at hs;rw[hs];exact hn) (Aw.kid ha);exact Aw.cast (Aw.guard h1 (jG hd hk)) (fun w=>by show(if _ then _ else if _ then _ else _)=_;rw[if_pos (show(I.hd o).o.toNat=3∨(I.hd o).o.toNat=15 from h3)];rfl) (by show _=(if _ then _ else _);rw[if_pos (show(I.hd o).o.toNat=3∨(I.hd o).o.toNat=15 from h3)];rfl)
 ·by_cases h16:o.toNat=16
  ·have h1:=Aw.comp (F:=im o a (within (d+1) a)) (G:=I.put [[105,115],[110,117,108,108]]) (Aw.kid ha) (Aw.put fun s hs=>by simp at hs;rcases hs with rfl|rfl<;>decide);exact Aw.cast (Aw.guard h1 (jG hd hk)) (fun w=>by show(if _ then _ else if _ then _ else if _ then _ else _)=_;rw[if_neg (show¬((I.hd o).o.toNat=3∨(I.hd o).o.toNat=15)from h3),if_pos (show(I.hd o).o.toNat=16 from h16)];rfl) (by show _=(if _ then _ else if _ then _ else _);rw[if_neg (show¬((I.hd o).o.toNat=3∨(I.hd o).o.toNat=15)from h3),if_pos (show(I.hd o).o.toNat=16 from h16)];rfl)
  ·have hn:dw o≠[]:=pq (by
    simp only[af,aj,aH]at ho⊢
    rcases ho with rfl|rfl|rfl|rfl|rfl|rfl|rfl<;>first|(simp;done)|(exfalso;revert h16;decide))
   have h1:=Aw.comp (F:=fun w=>im o a (within (d+1) a) (I.put [dw o,[40]] w)) (G:=I.put [[41]]) (Aw.comp (F:=I.put [dw o,[40]]) (G:=im o a (within (d+1) a)) (Aw.put fun s hs=>by simp at hs;rcases hs with rfl|rfl;exact hn;decide) (Aw.kid ha)) (Aw.put fun s hs=>by simp at hs;rw[hs];decide);exact Aw.cast (Aw.guard h1 (jG hd hk)) (fun w=>by show(if _ then _ else if _ then _ else if _ then _ else _)=_;rw[if_neg (show¬((I.hd o).o.toNat=3∨(I.hd o).o.toNat=15)from h3),if_neg (show¬(I.hd o).o.toNat=16 from h16)];rfl) (by show _=(if _ then _ else if _ then _ else _);rw[if_neg (show¬((I.hd o).o.toNat=3∨(I.hd o).o.toNat=15)from h3),if_neg (show¬(I.hd o).o.toNat=16 from h16)];simp[I.hd])
theorem Aw.user{d:Nat}(QP:d≤24):Aw (within d (.mk (hd 21) [])) (pE (.mk (hd 21) [])):=
 Aw.cast (Aw.guard (Aw.put (l:=[[117,115,101,114]]) (by decide)) (jG (a:=0) (b:=dv 21 0) QP (by decide))) (fun w=>rfl) rfl
theorem Aw.count{d:Nat}(QP:d≤24):Aw (within d (.mk (hd 17) [])) (pE (.mk (hd 17) [])):=
 Aw.cast (Aw.guard (Aw.put (l:=[[99,111,117,110,116],[40],[42],[41]]) (by decide)) (jG (a:=0) (b:=dv 17 0) QP (by decide))) (fun w=>rfl) rfl
theorem Aw.lit{d:Nat}{v:Cell.Val}(QP:d≤24)(hv:NF.prt v≠[]):Aw (within d (lit v)) (pE (lit v)):=
 Aw.cast (Aw.guard (Aw.put (l:=[NF.prt v]) fun s hs=>by simp at hs;rw[hs];exact hv) (jG (a:=0) (b:=dv 1 0) QP (by decide))) (fun w=>rfl) rfl
theorem Aw.UN{d:Nat}{n:Bs}(QP:d≤24)(hn:NX n):Aw (within d (.mk ⟨2,⟨0,0,dp⟩,bs n,dp,0⟩ [])) (pE (.mk ⟨2,⟨0,0,dp⟩,bs n,dp,0⟩ [])):=
 Aw.cast (Aw.guard (Aw.put (l:=[fB (bs n)]) fun s hs=>by simp at hs;rw[hs,eR];exact hn.ne) (jG (a:=0) (b:=dv 2 0) QP (by decide))) (fun w=>rfl) rfl
theorem Aw.ox{d:Nat}{n o:Bs}(QP:d≤24)(hn:NX n)(ho:NX o):Aw (within d (.mk ⟨2,⟨0,0,dp⟩,bs n,bs o,0⟩ [])) (pE (.mk ⟨2,⟨0,0,dp⟩,bs n,bs o,0⟩ [])):=by
 have hne:fB (bs o)≠[]:=by rw[eR];exact ho.ne
 have h1:=Aw.comp (F:=I.option (decide (fB (bs o)≠[])) [fB (bs o),[46]]) (G:=I.put [fB (bs n)]) (Aw.opt fun _ s hs=>by simp at hs;rcases hs with rfl|rfl;exact hne;decide) (Aw.put fun s hs=>by simp at hs;rw[hs,eR];exact hn.ne);refine Aw.cast (Aw.guard h1 (jG (a:=0) (b:=dv 2 0) QP (by decide))) (fun w=>rfl) ?_;show _=(if fB (bs o)≠[]then [fB (bs o),[46],fB (bs n)]else [fB (bs n)]);rw[if_pos hne,if_pos (aq hne)];rfl
theorem Aw.within{e:Ex}(h:Ri e)(hp:∀v,nL v→NF.prt v≠[]):∀d,d+depth e≤25→Aw (within d e) (pE e):=by
 induction h with
 |lit h=>intro d hd;exact Aw.lit (by unfold I.lit depth dI at hd;omega) (hp _ h)
 |UN h=>intro d hd;exact Aw.UN (by unfold depth dI at hd;omega) h
 |ox h h2=>intro d hd;exact Aw.ox (by unfold depth dI at hd;omega) h h2
 |user=>intro d hd;exact Aw.user (by unfold depth dI at hd;omega)
 |count=>intro d hd;exact Aw.count (by unfold depth dI at hd;omega)
 |un ho h ih=>intro d hd;unfold I.un depth dI dI at hd;exact Aw.un (by omega) ho (ih _ (by omega))
 |bin ho h h2 ih ih2=>intro d hd;unfold I.bin depth dI dI dI at hd;exact Aw.bin (by omega) ho (ih _ (by omega)) (ih2 _ (by omega))
theorem Gc{v:Cell.Val}(h:nL v):NF.prt v≠[]:=by
 rcases h with rfl|rfl|rfl|⟨n,_,rfl⟩|⟨n,_,rfl⟩|⟨s,hs,rfl⟩|⟨s,hs,rfl⟩
 ·decide
 ·decide
 ·decide
 ·rw[jB];exact NF.ru n
 ·rw[qq];simp
 ·have hr:=nL.right (v:=⟨4,0,bs s⟩) (.inr (.inr (.inr (.inr (.inr (.inl ⟨s,hs,rfl⟩))))));unfold NF.prt;rw[if_neg (by rw[hr];decide)];show [39]++NF.quo (bs s).data.toList++[39]≠[];simp
 ·have hr:=nL.right (v:=⟨5,0,bs s⟩) (.inr (.inr (.inr (.inr (.inr (.inr ⟨s,hs,rfl⟩))))));unfold NF.prt;rw[if_neg (by rw[hr];decide)];show [120,39]++NF.gM (bs s).data.toList++[39]≠[];simp
theorem Aw.expr{e:Ex}(h:QW e):Aw (jy e) (pE e):=Aw.within h.1 (fun _ hv=>Gc hv) 1 (by have:=h.2;omega)
theorem Aw.p1{s:Bs}(h:s≠[]):Aw (I.put [s]) [s]:=Aw.put fun t ht=>by simp at ht;rw[ht];exact h
theorem Aw.p2{s t:Bs}(h:s≠[])(h2:t≠[]):Aw (I.put [s,t]) [s,t]:=Aw.put fun u hu=>by simp at hu;rcases hu with rfl|rfl;exact h;exact h2
theorem Aw.nm{n:Bs}(w:Bs)(hw:w≠[]):Aw (option (decide (n≠[])) [w,n]) (nB n [w,n]):=by
 by_cases h:n=[]
 ·subst h;exact Aw.cast Aw.id (fun _=>rfl) rfl
 ·exact Aw.cast (Aw.p2 hw h) (fun _=>by unfold I.option;rw[if_pos (aq h)]) (by unfold nB;rw[if_neg h])
theorem Aw.row{l:List Ex}(h:yb l):Aw (jF l) (oc l):=
 Aw.cast (Aw.comp (Aw.comp (Aw.p1 (s:=[40]) (by decide)) (Aw.each (one:=jy) (p:=pE) (fun x hx=>Aw.expr (h.2.2 x hx)) h.1)) (Aw.p1 (s:=[41]) (by decide))) (fun _=>rfl) (by unfold oc;simp)
theorem Aw.item{i:Qq}(h:Ws i):Aw (pY i) (Xk i):=Aw.cast (Aw.comp (Aw.expr h.1) (Aw.nm (n:=i.nm) [97,115] (by decide))) (fun _=>rfl) rfl
theorem Aw.order{o:Ord}(h:TM o):Aw (l9 o) (Zg o):=Aw.cast (Aw.comp (Aw.expr h) (Aw.opt (b:=o.ds) (l:=[[100,101,115,99]]) fun _ s hs=>by simp at hs;rw[hs];decide)) (fun _=>rfl) rfl
theorem Aw.ny{o:OI}(h:Cv o):Aw (sF o) (vK o):=Aw.cast (Aw.comp (Aw.p2 (t:=[61]) h.1.ne (by decide)) (Aw.expr h.2)) (fun _=>rfl) rfl
theorem Aw.first{l:List Ex}{w:Bs}(h:QX l)(hw:w≠[]):Aw (first l [w]) (Sv w l):=by
 rcases h with rfl|⟨e,he,rfl⟩
 ·exact Aw.cast Aw.id (fun _=>rfl) rfl
 ·exact Aw.cast (Aw.comp (Aw.p1 hw) (Aw.expr he)) (fun _=>rfl) rfl
theorem Aw.fi{l:List UInt8}(h:uV l):Aw (jx l) (oL l):=Aw.each (one:=iC) (p:=pPv) (fun x hx=>by
 have hp:=h.2.2 x hx
 refine Aw.p1 ?_
 have:x.toNat=1∨x.toNat=2∨x.toNat=3∨x.toNat=4:=by have:=hp.1;have:=hp.2;omega
 rcases this with e|e|e|e<;>rw[e]<;>decide) h.1
theorem Aw.check{l:List Ex}(h:QX l):Aw (fun w=>if 0<l.length then I.put [[41]] (I.first l [[99,104,101,99,107],[40]] w)else w) (Xl l):=by
 rcases h with rfl|⟨e,he,rfl⟩
 ·exact Aw.cast Aw.id (fun _=>rfl) rfl
 ·exact Aw.cast (Aw.comp (Aw.comp (Aw.p2 (s:=[99,104,101,99,107]) (t:=[40]) (by decide) (by decide)) (Aw.expr he)) (Aw.p1 (s:=[41]) (by decide))) (fun _=>rfl) (by show _=[99,104,101,99,107]::[40]::(pE e++[[41]]);simp)
theorem Aw.action{a:UInt8}(h:a.toNat≤2):Aw (fun w=>option (decide (a.toNat=2)) [[111,110],[100,101,108,101,116,101],[115,101,116],[110,117,108,108]] (option (decide (a.toNat=1)) [[111,110],[100,101,108,101,116,101],[99,97,115,99,97,100,101]] w)) (Ul a):=by
 have h3:a.toNat=0∨a.toNat=1∨a.toNat=2:=by omega
 rcases h3 with e|e|e
 ·exact Aw.cast Aw.id (fun _=>by rw[e];rfl) (by unfold Ul;rw[e];rfl)
 ·exact Aw.cast (Aw.put (l:=[[111,110],[100,101,108,101,116,101],[99,97,115,99,97,100,101]]) (by decide)) (fun _=>by rw[e];rfl) (by unfold Ul;rw[e];rfl)
 ·exact Aw.cast (Aw.put (l:=[[111,110],[100,101,108,101,116,101],[115,101,116],[110,117,108,108]]) (by decide)) (fun _=>by rw[e];rfl) (by unfold Ul;rw[e];rfl)
theorem Lp{k:UInt8}(h:1≤k.toNat∧k.toNat≤5):SZ k≠[]:=by
 have:k.toNat=1∨k.toNat=2∨k.toNat=3∨k.toNat=4∨k.toNat=5:=by omega
 unfold SZ;rcases this with e|e|e|e|e<;>rw[e]<;>decide
theorem Aw.column{c:Oj}(h:Am c):Aw (gY c) (pt c):=by
 have ha:c.ac.toNat≤2:=by
  rcases h.2.2.2 with⟨_,e⟩|⟨_,e⟩
  ·rw[e];decide
  ·exact e
 have h1:=Aw.comp (Aw.comp (Aw.comp (Aw.comp (Aw.comp (Aw.comp (Aw.p2 h.1.ne (Lp h.2.1)) (Aw.opt (b:=c.pr) (l:=[[112,114,105,109,97,114,121],[107,101,121]]) (fun _=>by decide))) (Aw.opt (b:=c.nn) (l:=[[110,111,116],[110,117,108,108]]) (fun _=>by decide))) (Aw.opt (b:=c.un) (l:=[[117,110,105,113,117,101]]) (fun _=>by decide))) (Aw.check h.2.2.1)) (Aw.nm (n:=c.rf) [114,101,102,101,114,101,110,99,101,115] (by decide))) (Aw.action ha);exact Aw.cast h1 (fun _=>rfl) rfl
end I
end
section
set_option maxRecDepth 4000
namespace I
open Ev (Ex Hd)
theorem Aw.ifb{F:Wr→Wr}{l:List Bs}(h:Aw F l):Aw (fun w=>if w.b=true then w else F w) l:=
 ⟨fun st hb=>by rw[if_pos hb];exact hb,fun st hb hn hl=>by rw[if_neg (by rw[hb];decide)];exact h.ok st hb hn hl,fun st hb hn hl=>by rw[if_neg (by rw[hb];decide)];exact h.no st hb hn hl⟩
theorem Aw.Lr{f:Bool}(hf:f=false):Aw (dx f) []:=Aw.cast Aw.id (fun w=>by
 subst hf
 obtain⟨p,n,b⟩:=w
 show(⟨p,n,b||false⟩:Wr)=_
 rw[Bool.or_false]) rfl
theorem Aw.source{s:Src}(h:sE s)(ho:QX s.on):Aw (jJ s) (jO s):=
 Aw.cast (Aw.comp (Aw.comp (Aw.p1 h.1.ne) (Aw.nm (n:=s.al) [97,115] (by decide))) (Aw.first (l:=s.on) (w:=[111,110]) ho (by decide))) (fun _=>rfl) (by unfold jO l8;simp)
def pF:Bool→List Src→List Bs
 |false,l=>Xm l
 |true,l=>pJ l
theorem Aw.from{t:Wr→Wr}{lt:List Bs}(ht:Aw t lt):∀(l:List Src) (c:Bool),(∀s∈l,Aw (jJ s) (jO s))→Aw (jg t c l) (pF c l++lt):=by
 intro l;induction l with
 |nil=>intro c _;exact Aw.cast ht (fun _=>rfl) (by cases c<;>rfl)
 |cons s l ih=>
  intro c hs;have h1:=Aw.comp (F:=fun w=>jJ s (option c [[106,111,105,110]] w)) (G:=jg t true l) (Aw.comp (F:=option c [[106,111,105,110]]) (G:=jJ s) (Aw.opt (b:=c) fun _=>by decide) (hs s ag)) (ih true fun x hx=>hs x (au _ hx));refine Aw.cast (Aw.ifb h1) (fun _=>rfl) ?_;cases c with
  |false=>show []++jO s++(pJ l++lt)=(jO s++pJ l)++lt;simp
  |true=>show [[106,111,105,110]]++jO s++(pJ l++lt)=([106,111,105,110]::(jO s++pJ l))++lt;simp
theorem Aw.fV{q:NS}(h:QX q.wh):Aw (rj q) (Sv [119,104,101,114,101] q.wh):=Aw.first h (by decide)
theorem Aw.group{q:NS}(h:q.gr=[]∨LG QW 16 q.gr):Aw (jP q) (TN q.gr):=by
 rcases h with h|h
 ·exact Aw.cast Aw.id (fun _=>by unfold jP;rw[h];rfl) (by unfold TN;rw[if_pos h])
 ·have hp:0<q.gr.length:=by have:=h.1;cases hq:q.gr;exact absurd hq this;simp
  exact Aw.cast (Aw.comp (Aw.p2 (s:=[103,114,111,117,112]) (t:=[98,121]) (by decide) (by decide)) (Aw.each (one:=jy) (p:=pE) (fun x hx=>Aw.expr (h.2.2 x hx)) h.1)) (fun _=>by unfold jP;rw[if_pos hp]) (by unfold TN;rw[if_neg h.1];rfl)
theorem Aw.sort{q:NS}(h:q.od=[]∨LG TM 16 q.od):Aw (lT q) (TO q.od):=by
 rcases h with h|h
 ·exact Aw.cast Aw.id (fun _=>by unfold lT;rw[h];rfl) (by unfold TO;rw[if_pos h])
 ·have hp:0<q.od.length:=by have:=h.1;cases hq:q.od;exact absurd hq this;simp
  exact Aw.cast (Aw.comp (Aw.p2 (s:=[111,114,100,101,114]) (t:=[98,121]) (by decide) (by decide)) (Aw.each (one:=l9) (p:=Zg) (fun x hx=>Aw.order (h.2.2 x hx)) h.1)) (fun _=>by unfold lT;rw[if_pos hp]) (by unfold TO;rw[if_neg h.1];rfl)
theorem Ka{n:Int}(h:0≤n):Go.Lib.itoa n≠[]:=by
 obtain⟨k,rfl⟩:∃k:Nat,n=(k:Int):=⟨n.toNat,by omega⟩;have:=jB k;have e2:NF.prt ⟨2,(k:Int),dp⟩=Go.Lib.itoa (k:Int):=rfl;rw[←e2,this];exact NF.ru k
theorem Aw.fx{q:NS}(h:q.lim= -1∨As q.lim):Aw (nx q) (qI q.lim):=by
 rcases h with h|h
 ·exact Aw.cast Aw.id (fun _=>by unfold nx;rw[h];rfl) (by unfold qI;rw[if_pos h])
 ·have hn:q.lim≠ -1:=by have:=h.1;omega
  exact Aw.cast (Aw.p2 (s:=[108,105,109,105,116]) (t:=Go.Lib.itoa q.lim) (by decide) (Ka h.1)) (fun _=>by unfold nx I.option;rw[if_pos (aq hn)]) (by unfold qI;rw[if_neg hn])
theorem Aw.tail{q:NS}(h:PA q):Aw (kr q) (Sv [119,104,101,114,101] q.wh++(TN q.gr++(TO q.od++qI q.lim))):=
 Aw.cast (Aw.comp (Aw.comp (Aw.comp (Aw.fV h.wh) (Aw.group h.gr)) (Aw.sort h.od)) (Aw.fx h.lim)) (fun _=>rfl) (by simp)
theorem Aw.items{q:NS}(h:PA q):Aw (gJ q) (j5 q):=by
 rcases h.its with⟨h1,h2⟩|⟨h1,h2⟩
 ·exact Aw.cast (Aw.p1 (s:=[42]) (by decide)) (fun _=>by unfold gJ;rw[if_pos h1]) (by unfold j5;rw[if_pos h1])
 ·have hn:¬q.all=true:=by rw[h1];decide
  exact Aw.cast (Aw.each (one:=pY) (p:=Xk) (fun x hx=>Aw.item (h2.2.2 x hx)) h2.1) (fun _=>by unfold gJ;rw[if_neg hn]) (by unfold j5;rw[if_neg hn])
theorem Xn.src{l:List Src}(h:Xn l):∀s∈l,sE s∧QX s.on:=by
 obtain⟨s,r,rfl,h1,h2,h3,h4⟩:=h;intro x hx;rcases af.1 hx with rfl|hx
 ·exact⟨h1,.inl h2⟩
 ·obtain⟨g,e,he,hon⟩:=h4 x hx;exact⟨g,.inr ⟨e,he,hon⟩⟩
theorem Aw.sel{q:NS}(h:PA q):Aw (wa q) (ld q):=by
 have hl:decide (q.fr.length=0)=false:=by obtain⟨s,r,e,_⟩:=h.fr;rw[e];rfl
 have h1:=Aw.comp (F:=fun w=>dx (decide (q.fr.length=0)) (I.put [[102,114,111,109]] (gJ q (I.put [[115,101,108,101,99,116]] w)))) (G:=jg (kr q) false q.fr)
  (Aw.comp (F:=fun w=>I.put [[102,114,111,109]] (gJ q (I.put [[115,101,108,101,99,116]] w))) (G:=dx (decide (q.fr.length=0))) (Aw.comp (F:=fun w=>gJ q (I.put [[115,101,108,101,99,116]] w)) (G:=I.put [[102,114,111,109]]) (Aw.comp (F:=I.put [[115,101,108,101,99,116]]) (G:=gJ q) (Aw.p1 (by decide)) (Aw.items h)) (Aw.p1 (by decide))) (Aw.Lr hl))
  (Aw.from (Aw.tail h) q.fr false fun s hs=>Aw.source (h.fr.src s hs).1 (h.fr.src s hs).2)
 refine Aw.cast h1 (fun _=>rfl) ?_;unfold ld pF;simp
theorem Aw.query{q:NS}(h:PA q):Aw (ff [q]) (ld q):=Aw.cast (Aw.ifb (Aw.sel h)) (fun _=>rfl) rfl
theorem Kl{i:Int}{l:List Bs}(h0:0≤i)(h1:i<(l.length:Int))(h:∀s∈l,s≠[]):word i l≠[]:=by
 unfold word;rw[if_neg (by omega)];have hi:i.toNat<l.length:=by omega
 rw[List.getD_eq_getElem?_getD,aE hi];exact h _ (List.getElem_mem hi)
theorem Aw.stmt{s:NC}(h:Pu s):Aw (dO s) (pS s):=by
 cases h with
 | @table n cs hn hc=>
  have h1:=Aw.comp (F:=fun w=>I.each gY cs (I.put [[116,97,98,108,101],n,[40]] (I.put [[99,114,101,97,116,101]] w))) (G:=I.put [[41]]) (Aw.comp (F:=fun w=>I.put [[116,97,98,108,101],n,[40]] (I.put [[99,114,101,97,116,101]] w)) (G:=I.each gY cs) (Aw.comp (F:=I.put [[99,114,101,97,116,101]]) (G:=I.put [[116,97,98,108,101],n,[40]]) (Aw.p1 (by decide)) (Aw.put fun s hs=>by simp at hs;rcases hs with rfl|rfl|rfl;decide;exact hn.ne;decide)) (Aw.each (one:=gY) (p:=pt) (fun x hx=>Aw.column (hc.2.2 x hx)) hc.1)) (Aw.p1 (by decide));exact Aw.cast h1 (fun _=>rfl) (by show _=[99,114,101,97,116,101]::[116,97,98,108,101]::n::[40]::(pC pt cs++[[41]]);simp)
 | @view n q hn hq=>
  have h1:=Aw.comp (F:=fun w=>I.put [[118,105,101,119],n,[97,115]] (I.put [[99,114,101,97,116,101]] w)) (G:=ff [q]) (Aw.comp (F:=I.put [[99,114,101,97,116,101]]) (G:=I.put [[118,105,101,119],n,[97,115]]) (Aw.p1 (by decide)) (Aw.put fun s hs=>by simp at hs;rcases hs with rfl|rfl|rfl;decide;exact hn.ne;decide)) (Aw.query hq);exact Aw.cast h1 (fun _=>rfl) (by show _=[99,114,101,97,116,101]::[118,105,101,119]::n::[97,115]::[q].flatMap ld;simp)
 | @fh n on t ev v hn he ho ht hv=>
  have hw:word ((ev.toNat:Int)-14) [[105,110,115,101,114,116],[117,112,100,97,116,101],[100,101,108,101,116,101]]≠[]:=Kl (by omega) (by simp only[ab,ai];omega) (by decide);have h1:=Aw.comp (F:=fun w=>I.put [[111,110],on,[105,110,115,101,114,116],[105,110,116,111],t,[118,97,108,117,101,115]] (I.put [[116,114,105,103,103,101,114],n,[97,102,116,101,114],word ((ev.toNat:Int)-14) [[105,110,115,101,114,116],[117,112,100,97,116,101],[100,101,108,101,116,101]]] (I.put [[99,114,101,97,116,101]] w))) (G:=fun w=>if w.b=true then w else jF v w) (Aw.comp (F:=fun w=>I.put [[116,114,105,103,103,101,114],n,[97,102,116,101,114],word ((ev.toNat:Int)-14) [[105,110,115,101,114,116],[117,112,100,97,116,101],[100,101,108,101,116,101]]] (I.put [[99,114,101,97,116,101]] w)) (G:=I.put [[111,110],on,[105,110,115,101,114,116],[105,110,116,111],t,[118,97,108,117,101,115]]) (Aw.comp (F:=I.put [[99,114,101,97,116,101]]) (G:=I.put [[116,114,105,103,103,101,114],n,[97,102,116,101,114],word ((ev.toNat:Int)-14) [[105,110,115,101,114,116],[117,112,100,97,116,101],[100,101,108,101,116,101]]]) (Aw.p1 (by decide)) (Aw.put fun s hs=>by simp at hs;rcases hs with rfl|rfl|rfl|rfl;decide;exact hn.ne;decide;exact hw)) (Aw.put fun s hs=>by simp at hs;rcases hs with rfl|rfl|rfl|rfl|rfl|rfl;decide;exact ho.ne;decide;decide;exact ht.ne;decide)) (Aw.ifb (Aw.row hv));exact Aw.cast h1 (fun _=>rfl) (by show _=[[99,114,101,97,116,101],[116,114,105,103,103,101,114],n,[97,102,116,101,114],word ((ev.toNat:Int)-14) [[105,110,115,101,114,116],[117,112,100,97,116,101],[100,101,108,101,116,101]],[111,110],on,[105,110,115,101,114,116],[105,110,116,111],t,[118,97,108,117,101,115]]++[v].flatMap oc;simp)
 | @fN n on t e hn ho ht he=>
  have h1:=Aw.comp (F:=fun w=>jy e (I.put [[112,111,108,105,99,121],n,[111,110],on,[116,111],t,[117,115,105,110,103],[40]] (I.put [[99,114,101,97,116,101]] w))) (G:=I.put [[41]]) (Aw.comp (F:=fun w=>I.put [[112,111,108,105,99,121],n,[111,110],on,[116,111],t,[117,115,105,110,103],[40]] (I.put [[99,114,101,97,116,101]] w)) (G:=jy e) (Aw.comp (F:=I.put [[99,114,101,97,116,101]]) (G:=I.put [[112,111,108,105,99,121],n,[111,110],on,[116,111],t,[117,115,105,110,103],[40]]) (Aw.p1 (by decide)) (Aw.put fun s hs=>by simp at hs;rcases hs with rfl|rfl|rfl|rfl|rfl|rfl|rfl|rfl;decide;exact hn.ne;decide;exact ho.ne;decide;exact ht.ne;decide;decide)) (Aw.expr he)) (Aw.p1 (by decide));exact Aw.cast h1 (fun _=>rfl) (by show _=[[99,114,101,97,116,101],[112,111,108,105,99,121],n,[111,110],on,[116,111],t,[117,115,105,110,103],[40]]++([e].flatMap pE++[[41]]);simp)
 | @role n key hn hk=>
  have hp:NF.prt ⟨4,0,bs key⟩≠[]:=Gc (.inr (.inr (.inr (.inr (.inr (.inl ⟨key,hk,rfl⟩))))));have hy:Aw (I.option (decide (key≠[])) [[107,101,121],NF.prt ⟨4,0,bs key⟩]) (nB key [[107,101,121],NF.prt ⟨4,0,bs key⟩]):=by
   by_cases h:key=[]
   ·exact Aw.cast Aw.id (fun _=>by unfold I.option;rw[ar (by rw[h];simp)];rfl) (by unfold nB;rw[if_pos h])
   ·exact Aw.cast (Aw.p2 (s:=[107,101,121]) (by decide) hp) (fun _=>by unfold I.option;rw[if_pos (aq h)]) (by unfold nB;rw[if_neg h])
  have h1:=Aw.comp (F:=fun w=>I.put [[114,111,108,101],n] (I.put [[99,114,101,97,116,101]] w)) (G:=I.option (decide (key≠[])) [[107,101,121],NF.prt ⟨4,0,bs key⟩]) (Aw.comp (F:=I.put [[99,114,101,97,116,101]]) (G:=I.put [[114,111,108,101],n]) (Aw.p1 (by decide)) (Aw.p2 (by decide) hn.ne)) hy;exact Aw.cast h1 (fun _=>rfl) (by show _=[99,114,101,97,116,101]::[114,111,108,101]::n::nB key [[107,101,121],NF.prt ⟨4,0,bs key⟩];simp)
 | @drop k n hk hn=>
  simp only[af,aj,aH]at hk;have p3:∀w:Bs,w≠[]→Aw (I.put [[100,114,111,112],w,n]) [[100,114,111,112],w,n]:=fun w hw=>Aw.put fun s hs=>by simp at hs;rcases hs with rfl|rfl|rfl;decide;exact hw;exact hn.ne
  rcases hk with rfl|rfl|rfl|rfl
  ·exact Aw.cast (p3 [116,97,98,108,101] (by decide)) (fun _=>rfl) rfl
  ·exact Aw.cast (p3 [118,105,101,119] (by decide)) (fun _=>rfl) rfl
  ·exact Aw.cast (p3 [116,114,105,103,103,101,114] (by decide)) (fun _=>rfl) rfl
  ·exact Aw.cast (p3 [112,111,108,105,99,121] (by decide)) (fun _=>rfl) rfl
 | @share k n on hk hn ho=>
  simp only[af,aj,aH]at hk;have p4:∀w v:Bs,w≠[]→v≠[]→Aw (I.put [w,n,v,on]) [w,n,v,on]:=fun w v hw hv=>Aw.put fun s hs=>by simp at hs;rcases hs with rfl|rfl|rfl|rfl;exact hw;exact hn.ne;exact hv;exact ho.ne
  rcases hk with rfl|rfl
  ·exact Aw.cast (p4 [103,114,97,110,116] [116,111] (by decide) (by decide)) (fun _=>rfl) rfl
  ·exact Aw.cast (p4 [114,101,118,111,107,101] [102,114,111,109] (by decide) (by decide)) (fun _=>rfl) rfl
 | @fE pv n on opt hp hn ho=>
  have h1:=Aw.comp (F:=fun w=>I.put [[111,110],n,[116,111],on] (jx pv (I.put [[103,114,97,110,116]] w))) (G:=I.option opt [[119,105,116,104],[103,114,97,110,116],[111,112,116,105,111,110]]) (Aw.comp (F:=fun w=>jx pv (I.put [[103,114,97,110,116]] w)) (G:=I.put [[111,110],n,[116,111],on]) (Aw.comp (F:=I.put [[103,114,97,110,116]]) (G:=jx pv) (Aw.p1 (by decide)) (Aw.fi hp)) (Aw.put fun s hs=>by simp at hs;rcases hs with rfl|rfl|rfl|rfl;decide;exact hn.ne;decide;exact ho.ne)) (Aw.opt (b:=opt) fun _=>by decide);exact Aw.cast h1 (fun _=>rfl) (by show _=[103,114,97,110,116]::(oL pv++([[111,110],n,[116,111],on]++if opt=true then [[119,105,116,104],[103,114,97,110,116],[111,112,116,105,111,110]]else []));simp)
 | @gj pv n on hp hn ho=>
  have h1:=Aw.comp (F:=fun w=>jx pv (I.put [[114,101,118,111,107,101]] w)) (G:=I.put [[111,110],n,[102,114,111,109],on]) (Aw.comp (F:=I.put [[114,101,118,111,107,101]]) (G:=jx pv) (Aw.p1 (by decide)) (Aw.fi hp)) (Aw.put fun s hs=>by simp at hs;rcases hs with rfl|rfl|rfl|rfl;decide;exact hn.ne;decide;exact ho.ne);exact Aw.cast h1 (fun _=>rfl) (by show _=[114,101,118,111,107,101]::(oL pv++[[111,110],n,[102,114,111,109],on]);simp)
 | @insert n v hn hv=>
  have h1:=Aw.comp (F:=I.put [[105,110,115,101,114,116],[105,110,116,111],n,[118,97,108,117,101,115]]) (G:=I.each jF v) (Aw.put fun s hs=>by simp at hs;rcases hs with rfl|rfl|rfl|rfl;decide;decide;exact hn.ne;decide) (Aw.each (one:=jF) (p:=oc) (fun x hx=>Aw.row (hv.2.2 x hx)) hv.1);exact Aw.cast h1 (fun _=>rfl) rfl
 | @update n l w hn hl hw=>
  have h1:=Aw.comp (F:=fun st=>I.each sF l (I.put [[117,112,100,97,116,101],n,[115,101,116]] st)) (G:=I.first w [[119,104,101,114,101]]) (Aw.comp (F:=I.put [[117,112,100,97,116,101],n,[115,101,116]]) (G:=I.each sF l) (Aw.put fun s hs=>by simp at hs;rcases hs with rfl|rfl|rfl;decide;exact hn.ne;decide) (Aw.each (one:=sF) (p:=vK) (fun x hx=>Aw.ny (hl.2.2 x hx)) hl.1)) (Aw.first hw (by decide));exact Aw.cast h1 (fun _=>rfl) (by show _=[117,112,100,97,116,101]::n::[115,101,116]::(pC vK l++Sv [119,104,101,114,101] w);simp)
 | @remove n w hn hw=>
  have h1:=Aw.comp (F:=I.put [[100,101,108,101,116,101],[102,114,111,109],n]) (G:=I.first w [[119,104,101,114,101]]) (Aw.put fun s hs=>by simp at hs;rcases hs with rfl|rfl|rfl;decide;decide;exact hn.ne) (Aw.first hw (by decide));exact Aw.cast h1 (fun _=>rfl) rfl
 | @query q hq=>exact Aw.cast (Aw.query hq) (fun _=>rfl) (by show _=[q].flatMap ld;simp)
 | @plain k hk=>
  simp only[af,aj,aH]at hk;rcases hk with rfl|rfl|rfl
  ·exact Aw.cast (Aw.p1 (s:=[98,101,103,105,110]) (by decide)) (fun _=>rfl) rfl
  ·exact Aw.cast (Aw.p1 (s:=[99,111,109,109,105,116]) (by decide)) (fun _=>rfl) rfl
  ·exact Aw.cast (Aw.p1 (s:=[114,111,108,108,98,97,99,107]) (by decide)) (fun _=>rfl) rfl
theorem vZ{s:NC}(h:Pu s)(hz:sz (pS s)≤4097):dO s Rk=⟨pS s,sz (pS s),false⟩:=by
 have:=(Aw.stmt h).ok Rk rfl (by decide) (by show 0+sz (pS s)≤4097;omega);rw[this];show(⟨[]++pS s,0+sz (pS s),false⟩:Wr)=_;rw[aZ,aW]
theorem vC{s:NC}(h:Pu s)(hz:4097<sz (pS s)):(dO s Rk).b=true:=(Aw.stmt h).no Rk rfl (by decide) (by show 4097<0+sz (pS s);omega)
end I
end
section
namespace I
open Ev (Ex)
section
variable{T:Nat}
theorem mO(n m:Nat)(st:St)(hn:n≠0):fail T m (fail T n st)=fail T n st:=by
 by_cases h0:st.e=0
 ·have e:fail T n st=⟨[],n,place T st,st.d⟩:=by unfold fail;rw[if_pos h0]
  rw[e];unfold fail;rw[if_neg hn]
 ·have e:fail T n st=⟨[],st.e,st.c,st.d⟩:=by unfold fail;rw[if_neg h0]
  rw[e];unfold fail;rw[if_neg h0]
theorem eJ{s:Bs}{st:St}(h:st.r=[]):dh s st=false:=by unfold dh;rw[h]
theorem xi{st:St}(h:st.r=[]):name T st=([],fail T 300 st):=by unfold name;rw[h]
theorem kt:∀{l:List (Bs×UInt8)} {st:St},st.r=[]→one l st=(0,st):=by
 intro l;induction l with
 |nil=>exact fun _=>rfl
 |cons s l ih=>
  intro st h;unfold one;rw[if_neg (by rw[eJ h];decide)];exact ih h
theorem yB:∀{l:List Bs} {i:Nat} {st:St},st.r=[]→choose T i l st=(0,fail T 300 st):=by
 intro l;induction l with
 |nil=>exact fun _=>rfl
 |cons s l ih=>
  intro i st h;unfold choose;rw[if_neg (by rw[eJ h];decide)];exact ih h
theorem lf{l:List Bs}{st:St}(h:st.r=[])(hl:l≠[]):expect T l st=fail T 300 st:=by
 cases l with
 |nil=>exact absurd rfl hl
 |cons s l=>
  unfold expect;rw[if_neg (by rw[eJ h];decide)]
def Eo(T:Nat){α:Type}(f:St→α×St):Prop:=∀st,st.r=[]→(f st).2=st∨(f st).2=fail T 300 st
def su(T:Nat){α:Type}(g:St→α×St):Prop:=∀st,st.r=[]→(g st).2=fail T 300 st
theorem su.eo{α:Type}{f:St→α×St}(h:su T f):Eo T f:=fun st hr=>.inr (h st hr)
theorem Eo.ret{α:Type}(a:St→α):Eo T (fun st=>(a st,st)):=fun _ _=>.inl rfl
theorem Eo.bind{α β:Type}{f:St→α×St}{F:α→St→β×St}(h:Eo T f)(hF:∀a,Eo T (F a)):Eo T (fun st=>F (f st).1 (f st).2):=by
 intro st hr;rcases h st hr with q|q
 ·show(F (f st).1 (f st).2).2=_∨(F (f st).1 (f st).2).2=_;rw[q];exact hF _ st hr
 ·show(F (f st).1 (f st).2).2=_∨(F (f st).1 (f st).2).2=_;rw[q];rcases hF (f st).1 _ (iJ T 300 st)with k|k
  ·exact .inr k
  ·rw[k,mO _ _ _ (by decide)];exact .inr rfl
theorem Eo.acc{α:Type}{s:Bs}{f g:St→α×St}(hg:Eo T g):Eo T (fun st=>if dh s st=true then f st else g st):=by
 intro st hr;show(if dh s st=true then f st else g st).2=_∨(if dh s st=true then f st else g st).2=_;rw[if_neg (by rw[eJ hr];decide)];exact hg st hr
theorem wH:su T (name T):=fun st hr=>by rw[xi hr]
theorem qE(i:Nat)(l:List Bs):su T (choose T i l):=fun st hr=>by rw[yB hr]
theorem qH{α:Type}{part:St→α×St}(h:Eo T part):su T (inside T part):=by
 intro st hr;unfold inside;simp only;rw[lf (T:=T) hr (by simp)];have hn:=iJ T 300 st;have:(part (fail T 300 st)).2=fail T 300 st:=by
  rcases h _ hn with k|k
  ·exact k
  ·rw[k,mO _ _ _ (by decide)]
 rw[this,lf hn (by simp),mO _ _ _ (by decide)]
def x0:Ex:=.mk ⟨2,⟨0,0,dp⟩,bs [],dp,0⟩ []
def iW(T:Nat)(f:St→Ex×St):Prop:=∀st,st.r=[]→f st=(x0,fail T 300 st)
theorem iW.e{f:St→Ex×St}(h:iW T f):su T f:=fun st hr=>by rw[h st hr]
theorem vS:iW T (dT T):=by
 intro st hr;unfold dT;rw[xi hr];simp only;rw[if_neg (by rw[eJ (iJ T 300 st)];decide)];rfl
theorem lA(X:St→Ex×St):iW T (dm T X):=by
 intro st hr;unfold dm;have hk:dF st=0:=by unfold dF;rw[hr]
 rw[hk,if_neg (by decide),if_neg (by rintro⟨q,_⟩;exact absurd q (by decide)),if_neg (by rw[eJ hr];decide),if_neg (by rw[eJ hr];decide),if_neg (by rw[eJ hr];decide),if_neg (by rw[eJ hr];decide),kt hr,if_pos rfl];exact vS st hr
theorem kZ{s:Bs}{o:UInt8}{Y:St→Ex×St}(h:iW T Y):∀n,iW T (again s o Y n):=by
 intro n;cases n with
 |zero=>exact h
 |succ n=>
  intro st hr;unfold again;rw[if_neg (by rw[eJ hr];decide)];exact h st hr
theorem lI{kid:St→Ex×St}(h:iW T kid)(l:List (Bs×UInt8)):iW T (chain kid l):=by
 intro st hr;unfold chain;rw[h st hr];have hn:=iJ T 300 st;unfold dy;rw[kt hn,if_pos rfl]
theorem zh(X:St→Ex×St):iW T (unary T X):=fun st hr=>kZ (lA X) _ st hr
theorem C0(X:St→Ex×St):iW T (prod T X):=lI (zh X) _
theorem Ga(X:St→Ex×St):iW T (sum T X):=lI (C0 X) _
theorem xZ(X:St→Ex×St):iW T (cmp T X):=by
 intro st hr;unfold cmp;rw[Ga X st hr];have hn:=iJ T 300 st;unfold j4;rw[kt hn,if_pos rfl,if_neg (by rw[eJ hn];decide)]
theorem GC(X:St→Ex×St):iW T (jt T X):=fun st hr=>kZ (xZ X) _ st hr
theorem GR(X:St→Ex×St):iW T (oo T X):=lI (GC X) _
theorem oh(X:St→Ex×St):iW T (Sw T X):=lI (GR X) _
theorem JY:iW T (or T):=by
 intro st hr;unfold or;rw[Pw];exact oh _ st hr
theorem CS:iW T (expr T):=by
 intro st hr;unfold expr;rw[JY st hr];simp only;rw[if_neg (by unfold x0;rw[depth];simp[dI])]
theorem Hf:su T (expr T):=CS.e
end
end I
end
end Go.Proofs.YtnicfobpclehkaaGreatDoor
