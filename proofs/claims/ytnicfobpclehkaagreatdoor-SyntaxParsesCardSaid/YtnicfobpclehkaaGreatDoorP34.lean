import Derived.Test.YtnicfobpclehkaaGreatDoorP33
set_option maxHeartbeats 200000
set_option linter.unusedVariables false
set_option linter.unusedSimpArgs false
namespace Go.Proofs.YtnicfobpclehkaaGreatDoor
section
namespace Rp
open I
open Ev (Ex)
section
variable{T:Nat}{α β:Type}
theorem bm{s:Bs}{l:List Bs}{i:Nat}{st:St}(h:ae s st=true):I.choose T i (s::l) st=(i,next st):=by unfold I.choose;rw[if_pos h]
theorem bw{s:Bs}{l:List Bs}{i:Nat}{st:St}(h:ae s st=false):I.choose T i (s::l) st=I.choose T (i+1) l st:=by
 rw[I.choose,if_neg (by rw[h];decide)]
theorem hZ{i:Nat}{st:St}:I.choose T i [] st=(0,fail T 300 st):=rfl
def oQ(T:Nat)(st:St):UInt8×St:=(kinds.getD (I.choose T 0 [[105,110,116],[100,101,99],[98,111,111,108],[116,101,120,116],[98,121,116,101,115]] st).1 0,(I.choose T 0 [[105,110,116],[100,101,99],[98,111,111,108],[116,101,120,116],[98,121,116,101,115]] st).2)
theorem AO:Kw (kind T) (oQ T):=by
 intro st _;unfold kind oQ;cases h1:ae [105,110,116] st with
 |true=>rw[bm h1,pq h1 (by decide)];exact⟨rfl,fun _=>rfl⟩
 |false=>
 rw[bw h1];cases h2:ae [100,101,99] st with
 |true=>rw[bm h2,pq h2 (by decide)];exact⟨rfl,fun _=>rfl⟩
 |false=>
 rw[bw h2];cases h3:ae [98,111,111,108] st with
 |true=>rw[bm h3];exact⟨rfl,fun _=>rfl⟩
 |false=>
 rw[bw h3];cases h4:ae [116,101,120,116] st with
 |true=>rw[bm h4];exact⟨rfl,fun _=>rfl⟩
 |false=>
 rw[bw h4];cases h5:ae [98,121,116,101,115] st with
 |true=>rw[bm h5];exact⟨rfl,fun _=>rfl⟩
 |false=>
 rw[bw h5,hZ];exact⟨rfl,fun q=>absurd q (bz (by decide))⟩
theorem zP:KA (oQ T):=fun st=>fx T _ 0 st
theorem Cr:bJ T (oQ T):=fun st hr=>jd 0 _ st hr
theorem vu(st:St){n s1 k s2}(h1:name T st=(n,s1))(h2:kind T s1=(k,s2)):aC T st=((⟨n,k,false,false,false,[],[],0⟩:Ky),s2):=by
 unfold aC;exact((bnd (fun n st=>match kind T st with
  |(k,st)=>((⟨n,k,false,false,false,[],[],0⟩:Ky),st)) h1).trans (bnd (fun k st=>((⟨n,k,false,false,false,[],[],0⟩:Ky),st)) h2))
theorem JA(st:St):aC T st=(fun n st=>(fun k st=>((⟨n,k,false,false,false,[],[],0⟩:Ky),st)) (kind T st).1 (kind T st).2) (name T st).1 (name T st).2:=vu st (Prod.eta _).symm (Prod.eta _).symm
theorem Fi(st:St){n s1 i s2}(h1:name T st=(n,s1))(h2:I.choose T 0 [[105,110,116],[100,101,99],[98,111,111,108],[116,101,120,116],[98,121,116,101,115]] s1=(i,s2)):I.aC T st=((⟨n,kinds.getD i 0,false,false,false,[],[],0⟩:Ky),s2):=by
 unfold I.aC;exact((bnd (fun n st=>match I.choose T 0 [[105,110,116],[100,101,99],[98,111,111,108],[116,101,120,116],[98,121,116,101,115]] st with
  |(i,st)=>((⟨n,kinds.getD i 0,false,false,false,[],[],0⟩:Ky),st)) h1).trans (bnd (fun i st=>((⟨n,kinds.getD i 0,false,false,false,[],[],0⟩:Ky),st)) h2))
theorem Eu(st:St):I.aC T st=(fun n st=>(fun i st=>((⟨n,kinds.getD i 0,false,false,false,[],[],0⟩:Ky),st)) (I.choose T 0 [[105,110,116],[100,101,99],[98,111,111,108],[116,101,120,116],[98,121,116,101,115]] st).1 (I.choose T 0 [[105,110,116],[100,101,99],[98,111,111,108],[116,101,120,116],[98,121,116,101,115]] st).2) (name T st).1 (name T st).2:=Fi st (Prod.eta _).symm (Prod.eta _).symm
theorem BG:Kw (aC T) (I.aC T):=
 dU JA Eu<|bg (T:=T) (F:=fun n st=>((⟨n,(kind T st).1,false,false,false,[],[],0⟩:Ky),(kind T st).2)) (G:=fun n st=>((⟨n,(oQ T st).1,false,false,false,[],[],0⟩:Ky),(oQ T st).2))
  (Kw.refl _) (bp T) (fun n=>dI AO fun k=>(⟨n,k,false,false,false,[],[],0⟩:Ky)) (fun _=>(Eo.fst (f:=oQ T) Cr.eo _)) fun _=>zP
theorem Dy(c:Ky):Kw (cM T c) (I.cM T c):=
 jb (f:=fun st=>(({c with ck:=[(inside T (expr T) (next st)).1]}:Ky),(inside T (expr T) (next st)).2)) (iM (f:=fun st=>(({c with ck:=[(inside T (expr T) st).1]}:Ky),(inside T (expr T) st).2)) (dI (φ:=fun e=>({c with ck:=[e]}:Ky)) (fy dL))) (Kw.refl _)
def IK(T:Nat)(st:St):UInt8×St:=match I.choose T 0 [[114,101,115,116,114,105,99,116],[99,97,115,99,97,100,101],[115,101,116]] st with
 |(i,st)=>if i=2 then(2,expect T [[110,117,108,108]] st)else(if i=1 then 1 else 0,st)
theorem wH:Kw (action T) (IK T):=by
 intro st _;unfold action IK;cases h1:ae [114,101,115,116,114,105,99,116] st with
 |true=>rw[bm h1,pq h1 (by decide),pq h1 (by decide),jf h1];exact⟨rfl,fun _=>rfl⟩
 |false=>
 rw[bw h1];cases h2:ae [99,97,115,99,97,100,101] st with
 |true=>rw[bm h2];exact⟨rfl,fun _=>rfl⟩
 |false=>
 rw[bw h2];cases h3:ae [115,101,116] st with
 |true=>rw[bm h3];exact⟨rfl,fun _=>rfl⟩
 |false=>
 rw[bw h3,hZ,j7 h1];exact⟨rfl,fun _=>rfl⟩
def eR(T:Nat)(c:Ky)(n:Bs)(st:St):Ky×St:=if ae [111,110] st=true then({c with rf:=n,ac:=(action T (expect T [[100,101,108,101,116,101]] (next st))).1},(action T (expect T [[100,101,108,101,116,101]] (next st))).2)else({c with rf:=n,ac:=0},st)
def eS(T:Nat)(c:Ky)(n:Bs)(st:St):Ky×St:=({c with rf:=n,ac:=(I.action T st).1},(I.action T st).2)
theorem mz(c:Ky)(st:St){n s1}(h:name T (next st)=(n,s1)){a s2}(h2:action T (expect T [[100,101,108,101,116,101]] (next s1))=(a,s2)):dK T c st=if ae [114,101,102,101,114,101,110,99,101,115] st=true then(if ae [111,110] s1=true then({c with rf:=n,ac:=a},s2)else({c with rf:=n,ac:=0},s1))else(c,st):=by
 unfold dK;refine ite_congr rfl (fun _=>?_) fun _=>rfl
 refine(bnd (fun n st=>if ae [111,110] st=true then(match action T (expect T [[100,101,108,101,116,101]] (next st))with
  |(a,st)=>({c with rf:=n,ac:=a},st))
  else({c with rf:=n,ac:=0},st)) h).trans ?_
 exact ite_congr rfl (fun _=>bnd (fun a st=>({c with rf:=n,ac:=a},st)) h2) fun _=>rfl
theorem Jc(c:Ky)(st:St):dK T c st=if ae [114,101,102,101,114,101,110,99,101,115] st=true then eR T c (name T (next st)).1 (name T (next st)).2 else(c,st):=mz c st (Prod.eta _).symm (Prod.eta _).symm
theorem I8(st:St):I.action T st=if ae [111,110] st=true then IK T (expect T [[100,101,108,101,116,101]] (next st))else(0,st):=rfl
theorem IM(c:Ky)(n:Bs):Kw (eR T c n) (eS T c n):=by
 intro st hi;unfold eR eS;rw[I8];by_cases ha:ae [111,110] st=true
 ·rw[if_pos ha,if_pos ha];have:=wH (T:=T) (expect T [[100,101,108,101,116,101]] (next st)) (fw (dN hi));exact⟨this.1,fun q=>by rw[this.2 q]⟩
 ·rw[if_neg ha,if_neg ha];exact⟨rfl,fun _=>rfl⟩
theorem Cz(c:Ky):Kw (dK T c) (I.dK T c):=
 dU (Jc c) (fun _=>rfl)<|jb (f:=fun st=>eR T c (name T (next st)).1 (name T (next st)).2) (g:=fun st=>eS T c (name T (next st)).1 (name T (next st)).2)
  (iM (f:=fun st=>eR T c (name T st).1 (name T st).2) (g:=fun st=>eS T c (name T st).1 (name T st).2) (fun st hi=>IM c _ _ (hi.aF (bp T st)))) (Kw.refl _)
def k1(T:Nat)(c:Ky)(st:St):Ky×St:=dK T (cM T c st).1 (cM T c st).2
def k2(T:Nat)(c:Ky)(st:St):Ky×St:=k1 T (I.cp c st).1 (I.cp c st).2
def k3(T:Nat)(c:Ky)(st:St):Ky×St:=k2 T (bY T c st).1 (bY T c st).2
def k4(T:Nat)(c:Ky)(st:St):Ky×St:=k3 T (bc T c st).1 (bc T c st).2
def z1(T:Nat)(c:Ky)(st:St):Ky×St:=I.dK T (I.cM T c st).1 (I.cM T c st).2
def z2(T:Nat)(c:Ky)(st:St):Ky×St:=z1 T (I.cp c st).1 (I.cp c st).2
def z3(T:Nat)(c:Ky)(st:St):Ky×St:=z2 T (bY T c st).1 (bY T c st).2
def z4(T:Nat)(c:Ky)(st:St):Ky×St:=z3 T (bc T c st).1 (bc T c st).2
theorem sO(st:St){c0 s1 c1 s2 c2 s3 c3 s4 c4 s5}(h1:aC T st=(c0,s1))(h2:bc T c0 s1=(c1,s2))(h3:bY T c1 s2=(c2,s3))(h4:I.cp c2 s3=(c3,s4))(h5:cM T c3 s4=(c4,s5)):column T st=dK T c4 s5:=by
 unfold column;exact((bnd (fun c0 st=>match bc T c0 st with
  |(c1,st)=>match bY T c1 st with
  |(c2,st)=>match I.cp c2 st with
  |(c3,st)=>match cM T c3 st with
  |(c4,st)=>dK T c4 st) h1).trans ((bnd (fun c1 st=>match bY T c1 st with
  |(c2,st)=>match I.cp c2 st with
  |(c3,st)=>match cM T c3 st with
  |(c4,st)=>dK T c4 st) h2).trans ((bnd (fun c2 st=>match I.cp c2 st with
  |(c3,st)=>match cM T c3 st with
  |(c4,st)=>dK T c4 st) h3).trans ((bnd (fun c3 st=>match cM T c3 st with
  |(c4,st)=>dK T c4 st) h4).trans (bnd (fun c4 st=>dK T c4 st) h5)))))
theorem CY(st:St):column T st=(fun c0 st=>(fun c1 st=>(fun c2 st=>(fun c3 st=>(fun c4 st=>dK T c4 st) (cM T c3 st).1 (cM T c3 st).2) (I.cp c2 st).1 (I.cp c2 st).2) (bY T c1 st).1 (bY T c1 st).2) (bc T c0 st).1 (bc T c0 st).2) (aC T st).1 (aC T st).2:=sO st (Prod.eta _).symm (Prod.eta _).symm (Prod.eta _).symm (Prod.eta _).symm (Prod.eta _).symm
theorem CK(st:St):column T st=k4 T (aC T st).1 (aC T st).2:=CY st
theorem zR(st:St):I.column T st=z4 T (I.aC T st).1 (I.aC T st).2:=by
 rewrite [kR];rfl
theorem AA(c:Ky):KA (z1 T c):=dq (F:=I.dK T) (ou c) lj
theorem BN(c:Ky):KA (z2 T c):=dq (F:=z1 T) (oe c) AA
theorem C4(c:Ky):KA (z3 T c):=dq (F:=z2 T) (oc c) BN
theorem Jp(c:Ky):KA (z4 T c):=dq (F:=z3 T) (nZ c) C4
theorem G1(c:Ky):Eo T (z1 T c):=Eo.bind (F:=I.dK T) (xv c) rU
theorem GX(c:Ky):Eo T (z2 T c):=Eo.bind (F:=z1 T) (xK c) G1
theorem Hc(c:Ky):Eo T (z3 T c):=Eo.bind (F:=z2 T) (xJ c) GX
theorem Kh(c:Ky):Eo T (z4 T c):=Eo.bind (F:=z3 T) (xF c) Hc
theorem IA(c:Ky):Kw (k1 T c) (z1 T c):=bg (T:=T) (F:=dK T) (G:=I.dK T) (Dy c) (ou c) Cz rU lj
theorem Ie(c:Ky):Kw (k2 T c) (z2 T c):=bg (T:=T) (F:=k1 T) (G:=z1 T) (Kw.refl _) (oe c) IA G1 AA
theorem Hy(c:Ky):Kw (k3 T c) (z3 T c):=bg (T:=T) (F:=k2 T) (G:=z2 T) (Kw.refl _) (oc c) Ie GX BN
theorem Ix(c:Ky):Kw (k4 T c) (z4 T c):=bg (T:=T) (F:=k3 T) (G:=z3 T) (Kw.refl _) (nZ c) Hy Hc C4
theorem nT:Kw (column T) (I.column T):=dU CK zR<|bg (T:=T) (F:=k4 T) (G:=z4 T) BG (uy T) Ix Kh Jp
theorem wW(st:St){n s1 cs s2}(h1:name T st=(n,s1))(h2:inside T (list T 12 (column T)) s1=(cs,s2)):table T st=({Km.of 1 with nm:=n,Kv:=cs},s2):=by
 unfold table;exact((bnd (fun n st=>match inside T (list T 12 (column T)) st with
  |(cs,st)=>({Km.of 1 with nm:=n,Kv:=cs},st)) h1).trans (bnd (fun cs st=>({Km.of 1 with nm:=n,Kv:=cs},st)) h2))
theorem Gx(st:St):table T st=(fun n st=>(fun cs st=>({Km.of 1 with nm:=n,Kv:=cs},st)) (inside T (list T 12 (column T)) st).1 (inside T (list T 12 (column T)) st).2) (name T st).1 (name T st).2:=wW st (Prod.eta _).symm (Prod.eta _).symm
theorem sZ(st:St){n s1 cs s2}(h1:name T st=(n,s1))(h2:inside T (I.list T 12 (I.column T)) s1=(cs,s2)):I.table T st=({Km.of 1 with nm:=n,Kv:=cs},s2):=by
 unfold I.table;exact((bnd (fun n st=>match inside T (I.list T 12 (I.column T)) st with
  |(cs,st)=>({Km.of 1 with nm:=n,Kv:=cs},st)) h1).trans (bnd (fun cs st=>({Km.of 1 with nm:=n,Kv:=cs},st)) h2))
theorem BH(st:St):I.table T st=(fun n st=>(fun cs st=>({Km.of 1 with nm:=n,Kv:=cs},st)) (inside T (I.list T 12 (I.column T)) st).1 (inside T (I.list T 12 (I.column T)) st).2) (name T st).1 (name T st).2:=sZ st (Prod.eta _).symm (Prod.eta _).symm
theorem yc:Kw (table T) (I.table T):=
 dU Gx BH<|bg (T:=T) (F:=fun n st=>({Km.of 1 with nm:=n,Kv:=(inside T (list T 12 (column T)) st).1},(inside T (list T 12 (column T)) st).2)) (G:=fun n st=>({Km.of 1 with nm:=n,Kv:=(inside T (I.list T 12 (I.column T)) st).1},(inside T (I.list T 12 (I.column T)) st).2))
  (Kw.refl _) (bp T) (fun n=>dI (φ:=fun l=>{Km.of 1 with nm:=n,Kv:=l}) (fy (ic nT (nA T) xE (by decide)))) (fun _=>(Eo.fst (kB (jN xE).eo).eo _)) fun _=>fE (fY (nA T))
theorem xk(a b:Bs)(st:St):expect T [a,b] st=expect T [b] (expect T [a] st):=uR [a] [b] st
theorem Bp(st:St){n s1 q s2}(h1:name T st=(n,s1))(h2:query T (expect T [[97,115]] s1)=(q,s2)):view T st=({Km.of 3 with nm:=n,q:=[q]},s2):=by
 unfold view;exact((bnd (fun n st=>match query T (expect T [[97,115]] st)with
  |(q,st)=>({Km.of 3 with nm:=n,q:=[q]},st)) h1).trans (bnd (fun q st=>({Km.of 3 with nm:=n,q:=[q]},st)) h2))
theorem Jy(st:St):view T st=(fun n st=>(fun q st=>({Km.of 3 with nm:=n,q:=[q]},st)) (query T (expect T [[97,115]] st)).1 (query T (expect T [[97,115]] st)).2) (name T st).1 (name T st).2:=Bp st (Prod.eta _).symm (Prod.eta _).symm
theorem xM(st:St){n s1 q s2}(h1:name T st=(n,s1))(h2:I.selection T (expect T [[97,115],[115,101,108,101,99,116]] s1)=(q,s2)):I.view T st=({Km.of 3 with nm:=n,q:=[q]},s2):=by
 unfold I.view;exact((bnd (fun n st=>match I.selection T (expect T [[97,115],[115,101,108,101,99,116]] st)with
  |(q,st)=>({Km.of 3 with nm:=n,q:=[q]},st)) h1).trans (bnd (fun q st=>({Km.of 3 with nm:=n,q:=[q]},st)) h2))
theorem Ea(st:St):I.view T st=(fun n st=>(fun q st=>({Km.of 3 with nm:=n,q:=[q]},st)) (I.selection T (expect T [[97,115],[115,101,108,101,99,116]] st)).1 (I.selection T (expect T [[97,115],[115,101,108,101,99,116]] st)).2) (name T st).1 (name T st).2:=xM st (Prod.eta _).symm (Prod.eta _).symm
theorem Bj:Kw (view T) (I.view T):=
 dU Jy Ea<|bg (T:=T) (F:=fun n st=>({Km.of 3 with nm:=n,q:=[(query T (expect T [[97,115]] st)).1]},(query T (expect T [[97,115]] st)).2)) (G:=fun n st=>({Km.of 3 with nm:=n,q:=[(I.selection T (expect T [[97,115],[115,101,108,101,99,116]] st)).1]},(I.selection T (expect T [[97,115],[115,101,108,101,99,116]] st)).2))
  (Kw.refl _) (bp T) (fun n=>by
   have:=dI (φ:=fun q=>{Km.of 3 with nm:=n,q:=[q]}) (eI (T:=T) (l:=[[97,115]]) (qt (T:=T)))
   intro st hi
   have h:=this st hi
   simp only at h⊢
   rw[xk]
   exact h) (fun _=>(Eo.fst (bJ.exp (f:=I.selection T) kn.eo (l:=[[97,115],[115,101,108,101,99,116]]) (by simp)).eo _)) fun _=>eD (f:=fun st=>(_,(I.selection T st).2)) (Gn T)
def SI(T:Nat)(st:St):UInt8×St:=(([14,15,16]:List UInt8).getD (I.choose T 0 [[105,110,115,101,114,116],[117,112,100,97,116,101],[100,101,108,101,116,101]] st).1 0,(I.choose T 0 [[105,110,115,101,114,116],[117,112,100,97,116,101],[100,101,108,101,116,101]] st).2)
theorem ze:Kw (event T) (SI T):=by
 intro st _;unfold event SI;cases h1:ae [105,110,115,101,114,116] st with
 |true=>rw[bm h1];exact⟨rfl,fun _=>rfl⟩
 |false=>
 rw[bw h1];cases h2:ae [117,112,100,97,116,101] st with
 |true=>rw[bm h2];exact⟨rfl,fun _=>rfl⟩
 |false=>
 rw[bw h2];cases h3:ae [100,101,108,101,116,101] st with
 |true=>rw[bm h3];exact⟨rfl,fun _=>rfl⟩
 |false=>
 rw[bw h3,hZ];exact⟨rfl,fun q=>absurd q (bz (by decide))⟩
theorem pM(st:St){n s1 ev s2 on s3 tt s4 v s5}(h1:name T st=(n,s1))(h2:event T (expect T [[97,102,116,101,114]] s1)=(ev,s2))(h3:name T (expect T [[111,110]] s2)=(on,s3))(h4:name T (expect T [[105,110,115,101,114,116],[105,110,116,111]] s3)=(tt,s4))(h5:row T (expect T [[118,97,108,117,101,115]] s4)=(v,s5)):cu T st=({Km.of 5 with nm:=n,ev:=ev,on:=on,aF:=tt,vals:=[v]},s5):=by
 unfold cu;exact((bnd (fun n st=>match event T (expect T [[97,102,116,101,114]] st)with
  |(ev,st)=>match name T (expect T [[111,110]] st)with
  |(on,st)=>match name T (expect T [[105,110,115,101,114,116],[105,110,116,111]] st)with
  |(tt,st)=>match row T (expect T [[118,97,108,117,101,115]] st)with
  |(v,st)=>({Km.of 5 with nm:=n,ev:=ev,on:=on,aF:=tt,vals:=[v]},st)) h1).trans ((bnd (fun ev st=>match name T (expect T [[111,110]] st)with
  |(on,st)=>match name T (expect T [[105,110,115,101,114,116],[105,110,116,111]] st)with
  |(tt,st)=>match row T (expect T [[118,97,108,117,101,115]] st)with
  |(v,st)=>({Km.of 5 with nm:=n,ev:=ev,on:=on,aF:=tt,vals:=[v]},st)) h2).trans ((bnd (fun on st=>match name T (expect T [[105,110,115,101,114,116],[105,110,116,111]] st)with
  |(tt,st)=>match row T (expect T [[118,97,108,117,101,115]] st)with
  |(v,st)=>({Km.of 5 with nm:=n,ev:=ev,on:=on,aF:=tt,vals:=[v]},st)) h3).trans ((bnd (fun tt st=>match row T (expect T [[118,97,108,117,101,115]] st)with
  |(v,st)=>({Km.of 5 with nm:=n,ev:=ev,on:=on,aF:=tt,vals:=[v]},st)) h4).trans (bnd (fun v st=>({Km.of 5 with nm:=n,ev:=ev,on:=on,aF:=tt,vals:=[v]},st)) h5)))))
theorem zK(st:St):cu T st=(fun n st=>(fun ev st=>(fun on st=>(fun tt st=>(fun v st=>({Km.of 5 with nm:=n,ev:=ev,on:=on,aF:=tt,vals:=[v]},st)) (row T (expect T [[118,97,108,117,101,115]] st)).1 (row T (expect T [[118,97,108,117,101,115]] st)).2) (name T (expect T [[105,110,115,101,114,116],[105,110,116,111]] st)).1 (name T (expect T [[105,110,115,101,114,116],[105,110,116,111]] st)).2) (name T (expect T [[111,110]] st)).1 (name T (expect T [[111,110]] st)).2) (event T (expect T [[97,102,116,101,114]] st)).1 (event T (expect T [[97,102,116,101,114]] st)).2) (name T st).1 (name T st).2:=pM st (Prod.eta _).symm (Prod.eta _).symm (Prod.eta _).symm (Prod.eta _).symm (Prod.eta _).symm
theorem nN(st:St){n s1 i s2 on s3 tt s4 v s5}(h1:name T st=(n,s1))(h2:I.choose T 0 [[105,110,115,101,114,116],[117,112,100,97,116,101],[100,101,108,101,116,101]] (expect T [[97,102,116,101,114]] s1)=(i,s2))(h3:name T (expect T [[111,110]] s2)=(on,s3))(h4:name T (expect T [[105,110,115,101,114,116],[105,110,116,111]] s3)=(tt,s4))(h5:I.row T (expect T [[118,97,108,117,101,115]] s4)=(v,s5)):I.cu T st=({Km.of 5 with nm:=n,ev:=([14,15,16]:List UInt8).getD i 0,on:=on,aF:=tt,vals:=[v]},s5):=by
 unfold I.cu;exact((bnd (fun n st=>match I.choose T 0 [[105,110,115,101,114,116],[117,112,100,97,116,101],[100,101,108,101,116,101]] (expect T [[97,102,116,101,114]] st)with
  |(i,st)=>match name T (expect T [[111,110]] st)with
  |(on,st)=>match name T (expect T [[105,110,115,101,114,116],[105,110,116,111]] st)with
  |(tt,st)=>match I.row T (expect T [[118,97,108,117,101,115]] st)with
  |(v,st)=>({Km.of 5 with nm:=n,ev:=([14,15,16]:List UInt8).getD i 0,on:=on,aF:=tt,vals:=[v]},st)) h1).trans ((bnd (fun i st=>match name T (expect T [[111,110]] st)with
  |(on,st)=>match name T (expect T [[105,110,115,101,114,116],[105,110,116,111]] st)with
  |(tt,st)=>match I.row T (expect T [[118,97,108,117,101,115]] st)with
  |(v,st)=>({Km.of 5 with nm:=n,ev:=([14,15,16]:List UInt8).getD i 0,on:=on,aF:=tt,vals:=[v]},st)) h2).trans ((bnd (fun on st=>match name T (expect T [[105,110,115,101,114,116],[105,110,116,111]] st)with
  |(tt,st)=>match I.row T (expect T [[118,97,108,117,101,115]] st)with
  |(v,st)=>({Km.of 5 with nm:=n,ev:=([14,15,16]:List UInt8).getD i 0,on:=on,aF:=tt,vals:=[v]},st)) h3).trans ((bnd (fun tt st=>match I.row T (expect T [[118,97,108,117,101,115]] st)with
  |(v,st)=>({Km.of 5 with nm:=n,ev:=([14,15,16]:List UInt8).getD i 0,on:=on,aF:=tt,vals:=[v]},st)) h4).trans (bnd (fun v st=>({Km.of 5 with nm:=n,ev:=([14,15,16]:List UInt8).getD i 0,on:=on,aF:=tt,vals:=[v]},st)) h5)))))
theorem uN(st:St):I.cu T st=(fun n st=>(fun i st=>(fun on st=>(fun tt st=>(fun v st=>({Km.of 5 with nm:=n,ev:=([14,15,16]:List UInt8).getD i 0,on:=on,aF:=tt,vals:=[v]},st)) (I.row T (expect T [[118,97,108,117,101,115]] st)).1 (I.row T (expect T [[118,97,108,117,101,115]] st)).2) (name T (expect T [[105,110,115,101,114,116],[105,110,116,111]] st)).1 (name T (expect T [[105,110,115,101,114,116],[105,110,116,111]] st)).2) (name T (expect T [[111,110]] st)).1 (name T (expect T [[111,110]] st)).2) (I.choose T 0 [[105,110,115,101,114,116],[117,112,100,97,116,101],[100,101,108,101,116,101]] (expect T [[97,102,116,101,114]] st)).1 (I.choose T 0 [[105,110,115,101,114,116],[117,112,100,97,116,101],[100,101,108,101,116,101]] (expect T [[97,102,116,101,114]] st)).2) (name T st).1 (name T st).2:=nN st (Prod.eta _).symm (Prod.eta _).symm (Prod.eta _).symm (Prod.eta _).symm (Prod.eta _).symm
def g1(T:Nat)(n:Bs)(ev:UInt8)(on tt:Bs)(st:St):Km×St:=({Km.of 5 with nm:=n,ev:=ev,on:=on,aF:=tt,vals:=[(row T (expect T [[118,97,108,117,101,115]] st)).1]},(row T (expect T [[118,97,108,117,101,115]] st)).2)
def g2(T:Nat)(n:Bs)(ev:UInt8)(on:Bs)(st:St):Km×St:=g1 T n ev on (name T (expect T [[105,110,115,101,114,116],[105,110,116,111]] st)).1 (name T (expect T [[105,110,115,101,114,116],[105,110,116,111]] st)).2
def g3(T:Nat)(n:Bs)(ev:UInt8)(st:St):Km×St:=g2 T n ev (name T (expect T [[111,110]] st)).1 (name T (expect T [[111,110]] st)).2
def g4(T:Nat)(n:Bs)(st:St):Km×St:=g3 T n (event T (expect T [[97,102,116,101,114]] st)).1 (event T (expect T [[97,102,116,101,114]] st)).2
def h1(T:Nat)(n:Bs)(ev:UInt8)(on tt:Bs)(st:St):Km×St:=({Km.of 5 with nm:=n,ev:=ev,on:=on,aF:=tt,vals:=[(I.row T (expect T [[118,97,108,117,101,115]] st)).1]},(I.row T (expect T [[118,97,108,117,101,115]] st)).2)
def h2(T:Nat)(n:Bs)(ev:UInt8)(on:Bs)(st:St):Km×St:=h1 T n ev on (name T (expect T [[105,110,115,101,114,116],[105,110,116,111]] st)).1 (name T (expect T [[105,110,115,101,114,116],[105,110,116,111]] st)).2
def h3(T:Nat)(n:Bs)(ev:UInt8)(st:St):Km×St:=h2 T n ev (name T (expect T [[111,110]] st)).1 (name T (expect T [[111,110]] st)).2
def h4(T:Nat)(n:Bs)(st:St):Km×St:=h3 T n (SI T (expect T [[97,102,116,101,114]] st)).1 (SI T (expect T [[97,102,116,101,114]] st)).2
theorem zs(st:St):cu T st=g4 T (name T st).1 (name T st).2:=zK st
theorem vD(st:St):I.cu T st=h4 T (name T st).1 (name T st).2:=uN st
theorem Jg(n:Bs)(ev:UInt8)(on tt:Bs):Kw (g1 T n ev on tt) (h1 T n ev on tt):=dI (φ:=fun v=>({Km.of 5 with nm:=n,ev:=ev,on:=on,aF:=tt,vals:=[v]}:Km)) (eI rX)
theorem G4(n:Bs)(ev:UInt8)(on tt:Bs):Eo T (h1 T n ev on tt):=Eo.fst (bJ.exp (f:=I.row T) rV.eo (by simp)).eo _
theorem BD(n:Bs)(ev:UInt8)(on tt:Bs):KA (h1 T n ev on tt):=eD (f:=fun st=>(_,(I.row T st).2)) (lD T)
theorem jU(l:List Bs):KA (fun st=>name T (expect T l st)):=eD (bp T)
theorem rl{l:List Bs}(hl:l≠[]):Eo T (fun st=>name T (expect T l st)):=(bJ.exp fc.eo hl).eo
theorem rA(l:List Bs):Kw (fun st=>name T (expect T l st)) (fun st=>name T (expect T l st)):=Kw.refl _
theorem Je(n:Bs)(ev:UInt8)(on:Bs):Kw (g2 T n ev on) (h2 T n ev on):=bg (T:=T) (F:=g1 T n ev on) (G:=h1 T n ev on) (rA _) (jU _) (Jg n ev on) (G4 n ev on) (BD n ev on)
theorem Hg(n:Bs)(ev:UInt8)(on:Bs):Eo T (h2 T n ev on):=Eo.bind (F:=h1 T n ev on) (rl (by simp)) (G4 n ev on)
theorem Cc(n:Bs)(ev:UInt8)(on:Bs):KA (h2 T n ev on):=dq (F:=h1 T n ev on) (jU _) (BD n ev on)
theorem Jq(n:Bs)(ev:UInt8):Kw (g3 T n ev) (h3 T n ev):=bg (T:=T) (F:=g2 T n ev) (G:=h2 T n ev) (rA _) (jU _) (Je n ev) (Hg n ev) (Cc n ev)
theorem Hp(n:Bs)(ev:UInt8):Eo T (h3 T n ev):=Eo.bind (F:=h2 T n ev) (rl (by simp)) (Hg n ev)
theorem Bb(n:Bs)(ev:UInt8):KA (h3 T n ev):=dq (F:=h2 T n ev) (jU _) (Cc n ev)
theorem xH:KA (SI T):=fun st=>fx T _ 0 st
theorem Ey:bJ T (SI T):=fun st hr=>jd 0 _ st hr
theorem Ii(n:Bs):Kw (g4 T n) (h4 T n):=bg (T:=T) (f:=fun st=>event T (expect T [[97,102,116,101,114]] st)) (g:=fun st=>SI T (expect T [[97,102,116,101,114]] st)) (F:=g3 T n) (G:=h3 T n) (eI ze) (eD xH) (Jq n) (Hp n) (Bb n)
theorem JH(n:Bs):Eo T (h4 T n):=Eo.bind (f:=fun st=>SI T (expect T [[97,102,116,101,114]] st)) (F:=h3 T n) (bJ.exp Ey.eo (by simp)).eo (Hp n)
theorem Ij(n:Bs):KA (h4 T n):=dq (f:=fun st=>SI T (expect T [[97,102,116,101,114]] st)) (F:=h3 T n) (eD xH) (Bb n)
theorem uo:Kw (cu T) (I.cu T):=dU zs vD<|bg (T:=T) (F:=g4 T) (G:=h4 T) (Kw.refl (name T)) (bp T) Ii JH Ij
theorem sU(st:St){n s1 on s2 tt s3 e s4}(h1:name T st=(n,s1))(h2:name T (expect T [[111,110]] s1)=(on,s2))(h3:name T (expect T [[116,111]] s2)=(tt,s3))(h4:expr T (expect T [[117,115,105,110,103],[40]] s3)=(e,s4)):dE T st=({Km.of 7 with nm:=n,on:=on,aF:=tt,wh:=[e]},expect T [[41]] s4):=by
 unfold dE;exact((bnd (fun n st=>match name T (expect T [[111,110]] st)with
  |(on,st)=>match name T (expect T [[116,111]] st)with
  |(tt,st)=>match expr T (expect T [[117,115,105,110,103],[40]] st)with
  |(e,st)=>({Km.of 7 with nm:=n,on:=on,aF:=tt,wh:=[e]},expect T [[41]] st)) h1).trans ((bnd (fun on st=>match name T (expect T [[116,111]] st)with
  |(tt,st)=>match expr T (expect T [[117,115,105,110,103],[40]] st)with
  |(e,st)=>({Km.of 7 with nm:=n,on:=on,aF:=tt,wh:=[e]},expect T [[41]] st)) h2).trans ((bnd (fun tt st=>match expr T (expect T [[117,115,105,110,103],[40]] st)with
  |(e,st)=>({Km.of 7 with nm:=n,on:=on,aF:=tt,wh:=[e]},expect T [[41]] st)) h3).trans (bnd (fun e st=>({Km.of 7 with nm:=n,on:=on,aF:=tt,wh:=[e]},expect T [[41]] st)) h4))))
theorem CP(st:St):dE T st=(fun n st=>(fun on st=>(fun tt st=>(fun e st=>({Km.of 7 with nm:=n,on:=on,aF:=tt,wh:=[e]},expect T [[41]] st)) (expr T (expect T [[117,115,105,110,103],[40]] st)).1 (expr T (expect T [[117,115,105,110,103],[40]] st)).2) (name T (expect T [[116,111]] st)).1 (name T (expect T [[116,111]] st)).2) (name T (expect T [[111,110]] st)).1 (name T (expect T [[111,110]] st)).2) (name T st).1 (name T st).2:=sU st (Prod.eta _).symm (Prod.eta _).symm (Prod.eta _).symm (Prod.eta _).symm
theorem qc(st:St){n s1 on s2 tt s3 e s4}(h1:name T st=(n,s1))(h2:name T (expect T [[111,110]] s1)=(on,s2))(h3:name T (expect T [[116,111]] s2)=(tt,s3))(h4:inside T (I.expr T) (expect T [[117,115,105,110,103]] s3)=(e,s4)):I.dE T st=({Km.of 7 with nm:=n,on:=on,aF:=tt,wh:=[e]},s4):=by
 unfold I.dE;exact((bnd (fun n st=>match name T (expect T [[111,110]] st)with
  |(on,st)=>match name T (expect T [[116,111]] st)with
  |(tt,st)=>match inside T (I.expr T) (expect T [[117,115,105,110,103]] st)with
  |(e,st)=>({Km.of 7 with nm:=n,on:=on,aF:=tt,wh:=[e]},st)) h1).trans ((bnd (fun on st=>match name T (expect T [[116,111]] st)with
  |(tt,st)=>match inside T (I.expr T) (expect T [[117,115,105,110,103]] st)with
  |(e,st)=>({Km.of 7 with nm:=n,on:=on,aF:=tt,wh:=[e]},st)) h2).trans ((bnd (fun tt st=>match inside T (I.expr T) (expect T [[117,115,105,110,103]] st)with
  |(e,st)=>({Km.of 7 with nm:=n,on:=on,aF:=tt,wh:=[e]},st)) h3).trans (bnd (fun e st=>({Km.of 7 with nm:=n,on:=on,aF:=tt,wh:=[e]},st)) h4))))
theorem xT(st:St):I.dE T st=(fun n st=>(fun on st=>(fun tt st=>(fun e st=>({Km.of 7 with nm:=n,on:=on,aF:=tt,wh:=[e]},st)) (inside T (I.expr T) (expect T [[117,115,105,110,103]] st)).1 (inside T (I.expr T) (expect T [[117,115,105,110,103]] st)).2) (name T (expect T [[116,111]] st)).1 (name T (expect T [[116,111]] st)).2) (name T (expect T [[111,110]] st)).1 (name T (expect T [[111,110]] st)).2) (name T st).1 (name T st).2:=qc st (Prod.eta _).symm (Prod.eta _).symm (Prod.eta _).symm (Prod.eta _).symm
def p1(T:Nat)(n on tt:Bs)(st:St):Km×St:=({Km.of 7 with nm:=n,on:=on,aF:=tt,wh:=[(expr T (expect T [[117,115,105,110,103],[40]] st)).1]},expect T [[41]] (expr T (expect T [[117,115,105,110,103],[40]] st)).2)
def p2(T:Nat)(n on:Bs)(st:St):Km×St:=p1 T n on (name T (expect T [[116,111]] st)).1 (name T (expect T [[116,111]] st)).2
def p3(T:Nat)(n:Bs)(st:St):Km×St:=p2 T n (name T (expect T [[111,110]] st)).1 (name T (expect T [[111,110]] st)).2
def q1(T:Nat)(n on tt:Bs)(st:St):Km×St:=({Km.of 7 with nm:=n,on:=on,aF:=tt,wh:=[(inside T (I.expr T) (expect T [[117,115,105,110,103]] st)).1]},(inside T (I.expr T) (expect T [[117,115,105,110,103]] st)).2)
def q2(T:Nat)(n on:Bs)(st:St):Km×St:=q1 T n on (name T (expect T [[116,111]] st)).1 (name T (expect T [[116,111]] st)).2
def q3(T:Nat)(n:Bs)(st:St):Km×St:=q2 T n (name T (expect T [[111,110]] st)).1 (name T (expect T [[111,110]] st)).2
theorem CX(st:St):dE T st=p3 T (name T st).1 (name T st).2:=CP st
theorem yE(st:St):I.dE T st=q3 T (name T st).1 (name T st).2:=xT st
theorem Cn{f:St→α×St}{s b:St}{a:α}(h:f (expect T [[40]] s)=(a,b)):inside T f s=(a,expect T [[41]] b):=by
 unfold inside;rewrite [h];rfl
theorem p1_c(n on tt:Bs)(st:St){a b}(h:expr T (expect T [[117,115,105,110,103],[40]] st)=(a,b)):p1 T n on tt st=({Km.of 7 with nm:=n,on:=on,aF:=tt,wh:=[a]},expect T [[41]] b):=by
 unfold p1;rewrite [h];rfl
theorem JI(n on tt:Bs)(st:St):p1 T n on tt st=({Km.of 7 with nm:=n,on:=on,aF:=tt,wh:=[(inside T (expr T) (expect T [[117,115,105,110,103]] st)).1]},(inside T (expr T) (expect T [[117,115,105,110,103]] st)).2):=by
 obtain⟨a,b,h⟩:=pr (expr T (expect T [[117,115,105,110,103],[40]] st));have h2:=h;rewrite [xk]at h2;rewrite [p1_c n on tt st h,Cn h2];rfl
theorem Il(n on tt:Bs):Kw (p1 T n on tt) (q1 T n on tt):=dU (JI n on tt) (fun _=>rfl)<|dI (φ:=fun e=>({Km.of 7 with nm:=n,on:=on,aF:=tt,wh:=[e]}:Km)) (eI (T:=T) (l:=[[117,115,105,110,103]]) (fy (T:=T) (dL (T:=T))))
theorem G6(n on tt:Bs):Eo T (q1 T n on tt):=Eo.fst (bJ.exp (f:=inside T (I.expr T)) (kB ez.eo).eo (by simp)).eo _
theorem CO(n on tt:Bs):KA (q1 T n on tt):=eD (f:=fun st=>(_,(inside T (I.expr T) st).2)) (fE (cd T))
theorem IJ(n on:Bs):Kw (p2 T n on) (q2 T n on):=bg (T:=T) (F:=p1 T n on) (G:=q1 T n on) (rA _) (jU _) (Il n on) (G6 n on) (CO n on)
theorem G5(n on:Bs):Eo T (q2 T n on):=Eo.bind (F:=q1 T n on) (rl (by simp)) (G6 n on)
theorem CR(n on:Bs):KA (q2 T n on):=dq (F:=q1 T n on) (jU _) (CO n on)
theorem Ig(n:Bs):Kw (p3 T n) (q3 T n):=bg (T:=T) (F:=p2 T n) (G:=q2 T n) (rA _) (jU _) (IJ n) (G5 n) (CR n)
theorem Kg(n:Bs):Eo T (q3 T n):=Eo.bind (F:=q2 T n) (rl (by simp)) (G5 n)
theorem Ik(n:Bs):KA (q3 T n):=dq (F:=q2 T n) (jU _) (CR n)
theorem wG:Kw (dE T) (I.dE T):=dU CX yE<|bg (T:=T) (F:=p3 T) (G:=q3 T) (Kw.refl (name T)) (bp T) Ig Kg Ik
theorem Cu:bJ T (role T):=
 bJ.bind (F:=fun n st=>if ae [107,101,121] st=true then(if au (next st)=3 then({Km.of 9 with nm:=n,key:=Mv (next st)},next (next st))else({Km.of 9 with nm:=n},fail T 300 (next st)))else({Km.of 9 with nm:=n},st)) fc fun _=>Eo.acc (Eo.ret _)
theorem wk:Kw (create T) (I.create T):=by
 intro st hi;unfold create I.create;simp only[pick];split
 ·exact yc _ (dN hi)
 split
 ·exact Bj _ (dN hi)
 split
 ·exact uo _ (dN hi)
 split
 ·exact wG _ (dN hi)
 cases h:ae [114,111,108,101] st with
 |true=>
  rw[jf h];exact⟨rfl,fun _=>rfl⟩
 |false=>
  rw[j7 h];have:=Cu (T:=T) _ (bq T 300 st);rw[cf _ _ _ (by decide)]at this;exact⟨this,fun q=>absurd q (bz (by decide))⟩
theorem nL(st:St){k s1 n s2}(h1:(if ae [116,97,98,108,101] st=true then((2:UInt8),next st)else if ae [118,105,101,119] st=true then(4,next st)else if ae [116,114,105,103,103,101,114] st=true then(6,next st)else(8,expect T [[112,111,108,105,99,121]] st))=(k,s1))(h2:name T s1=(n,s2)):drop T st=({Km.of k with nm:=n},s2):=by
 unfold drop;exact((bnd (fun k st=>match name T st with
  |(n,st)=>({Km.of k with nm:=n},st)) h1).trans (bnd (fun n st=>({Km.of k with nm:=n},st)) h2))
theorem Jw(st:St):drop T st=(fun k st=>(fun n st=>({Km.of k with nm:=n},st)) (name T st).1 (name T st).2) ((if ae [116,97,98,108,101] st=true then((2:UInt8),next st)else if ae [118,105,101,119] st=true then(4,next st)else if ae [116,114,105,103,103,101,114] st=true then(6,next st)else(8,expect T [[112,111,108,105,99,121]] st))).1 ((if ae [116,97,98,108,101] st=true then((2:UInt8),next st)else if ae [118,105,101,119] st=true then(4,next st)else if ae [116,114,105,103,103,101,114] st=true then(6,next st)else(8,expect T [[112,111,108,105,99,121]] st))).2:=nL st (Prod.eta _).symm (Prod.eta _).symm
theorem xC(st:St){i s1 n s2}(h1:I.choose T 0 [[116,97,98,108,101],[118,105,101,119],[116,114,105,103,103,101,114],[112,111,108,105,99,121]] st=(i,s1))(h2:name T s1=(n,s2)):I.drop T st=({Km.of (([2,4,6,8]:List UInt8).getD i 0)with nm:=n},s2):=by
 unfold I.drop;exact((bnd (fun i st=>match name T st with
  |(n,st)=>({Km.of (([2,4,6,8]:List UInt8).getD i 0)with nm:=n},st)) h1).trans (bnd (fun n st=>({Km.of (([2,4,6,8]:List UInt8).getD i 0)with nm:=n},st)) h2))
theorem EJ(st:St):I.drop T st=(fun i st=>(fun n st=>({Km.of (([2,4,6,8]:List UInt8).getD i 0)with nm:=n},st)) (name T st).1 (name T st).2) (I.choose T 0 [[116,97,98,108,101],[118,105,101,119],[116,114,105,103,103,101,114],[112,111,108,105,99,121]] st).1 (I.choose T 0 [[116,97,98,108,101],[118,105,101,119],[116,114,105,103,103,101,114],[112,111,108,105,99,121]] st).2:=xC st (Prod.eta _).symm (Prod.eta _).symm
theorem CM:Kw (drop T) (I.drop T):=by
 have h:Kw (fun st=>if ae [116,97,98,108,101] st=true then((2:UInt8),next st)else if ae [118,105,101,119] st=true then(4,next st)else if ae [116,114,105,103,103,101,114] st=true then(6,next st)else(8,expect T [[112,111,108,105,99,121]] st)) (fun st=>(([2,4,6,8]:List UInt8).getD (I.choose T 0 [[116,97,98,108,101],[118,105,101,119],[116,114,105,103,103,101,114],[112,111,108,105,99,121]] st).1 0,(I.choose T 0 [[116,97,98,108,101],[118,105,101,119],[116,114,105,103,103,101,114],[112,111,108,105,99,121]] st).2)):=by
  intro st _;simp only;cases h1:ae [116,97,98,108,101] st with
  |true=>rw[bm h1];exact⟨rfl,fun _=>rfl⟩
  |false=>
  rw[bw h1];cases h2:ae [118,105,101,119] st with
  |true=>rw[bm h2];exact⟨rfl,fun _=>rfl⟩
  |false=>
  rw[bw h2];cases h3:ae [116,114,105,103,103,101,114] st with
  |true=>rw[bm h3];exact⟨rfl,fun _=>rfl⟩
  |false=>
  rw[bw h3];cases h4:ae [112,111,108,105,99,121] st with
  |true=>rw[bm h4,jf h4];exact⟨rfl,fun _=>rfl⟩
  |false=>
  rw[bw h4,hZ,j7 h4];exact⟨rfl,fun q=>absurd q (bz (by decide))⟩
 exact dU Jw EJ<|bg (T:=T) (F:=fun k st=>({Km.of k with nm:=(name T st).1},(name T st).2)) (G:=fun k st=>({Km.of k with nm:=(name T st).1},(name T st).2)) h (fun st=>fx T _ 0 st) (fun k=>Kw.refl _) (fun k=>Eo.fst fc.eo _) fun k=>bp T
theorem lU:Kw (iA T) (I.cU T):=by
 intro st _;unfold iA cU I.cU;cases h1:ae [115,101,108,101,99,116] st with
 |true=>rw[bm h1];exact⟨rfl,fun _=>rfl⟩
 |false=>
 rw[bw h1];cases h2:ae [105,110,115,101,114,116] st with
 |true=>rw[bm h2];exact⟨rfl,fun _=>rfl⟩
 |false=>
 rw[bw h2];cases h3:ae [117,112,100,97,116,101] st with
 |true=>rw[bm h3];exact⟨rfl,fun _=>rfl⟩
 |false=>
 rw[bw h3];cases h4:ae [100,101,108,101,116,101] st with
 |true=>rw[bm h4];exact⟨rfl,fun _=>rfl⟩
 |false=>
 rw[bw h4,hZ];exact⟨rfl,fun q=>absurd q (bz (by decide))⟩
theorem tW(st:St){n s1 v s2}(h1:name T (expect T [[105,110,116,111]] st)=(n,s1))(h2:list T 16 (row T) (expect T [[118,97,108,117,101,115]] s1)=(v,s2)):insert T st=({Km.of 14 with nm:=n,vals:=v},s2):=by
 unfold insert;exact((bnd (fun n st=>match list T 16 (row T) (expect T [[118,97,108,117,101,115]] st)with
  |(v,st)=>({Km.of 14 with nm:=n,vals:=v},st)) h1).trans (bnd (fun v st=>({Km.of 14 with nm:=n,vals:=v},st)) h2))
theorem AS(st:St):insert T st=(fun n st=>(fun v st=>({Km.of 14 with nm:=n,vals:=v},st)) (list T 16 (row T) (expect T [[118,97,108,117,101,115]] st)).1 (list T 16 (row T) (expect T [[118,97,108,117,101,115]] st)).2) (name T (expect T [[105,110,116,111]] st)).1 (name T (expect T [[105,110,116,111]] st)).2:=tW st (Prod.eta _).symm (Prod.eta _).symm
theorem qM(st:St){n s1 v s2}(h1:name T (expect T [[105,110,116,111]] st)=(n,s1))(h2:I.list T 16 (I.row T) (expect T [[118,97,108,117,101,115]] s1)=(v,s2)):I.insert T st=({Km.of 14 with nm:=n,vals:=v},s2):=by
 unfold I.insert;exact((bnd (fun n st=>match I.list T 16 (I.row T) (expect T [[118,97,108,117,101,115]] st)with
  |(v,st)=>({Km.of 14 with nm:=n,vals:=v},st)) h1).trans (bnd (fun v st=>({Km.of 14 with nm:=n,vals:=v},st)) h2))
theorem zO(st:St):I.insert T st=(fun n st=>(fun v st=>({Km.of 14 with nm:=n,vals:=v},st)) (I.list T 16 (I.row T) (expect T [[118,97,108,117,101,115]] st)).1 (I.list T 16 (I.row T) (expect T [[118,97,108,117,101,115]] st)).2) (name T (expect T [[105,110,116,111]] st)).1 (name T (expect T [[105,110,116,111]] st)).2:=qM st (Prod.eta _).symm (Prod.eta _).symm
theorem uZ:Kw (insert T) (I.insert T):=
 dU AS zO<|bg (T:=T) (f:=fun st=>name T (expect T [[105,110,116,111]] st)) (F:=fun n st=>({Km.of 14 with nm:=n,vals:=(list T 16 (row T) (expect T [[118,97,108,117,101,115]] st)).1},(list T 16 (row T) (expect T [[118,97,108,117,101,115]] st)).2)) (G:=fun n st=>({Km.of 14 with nm:=n,vals:=(I.list T 16 (I.row T) (expect T [[118,97,108,117,101,115]] st)).1},(I.list T 16 (I.row T) (expect T [[118,97,108,117,101,115]] st)).2))
  (eI (Kw.refl (name T))) (eD (bp T)) (fun n=>dI (φ:=fun v=>{Km.of 14 with nm:=n,vals:=v}) (eI (ic rX (lD T) rV (by decide)))) (fun _=>Eo.fst (bJ.exp (f:=I.list T 16 (I.row T)) (jN rV).eo (by simp)).eo _) fun _=>eD (f:=fun st=>(_,(I.list T 16 (I.row T) st).2)) (fY (lD T))
theorem uz(st:St){n s1 l s2 w s3}(h1:name T st=(n,s1))(h2:list T 16 (du T) (expect T [[115,101,116]] s1)=(l,s2))(h3:aq T s2=(w,s3)):update T st=({Km.of 15 with nm:=n,bu:=l,wh:=w},s3):=by
 unfold update;exact((bnd (fun n st=>match list T 16 (du T) (expect T [[115,101,116]] st)with
  |(l,st)=>match aq T st with
  |(w,st)=>({Km.of 15 with nm:=n,bu:=l,wh:=w},st)) h1).trans ((bnd (fun l st=>match aq T st with
  |(w,st)=>({Km.of 15 with nm:=n,bu:=l,wh:=w},st)) h2).trans (bnd (fun w st=>({Km.of 15 with nm:=n,bu:=l,wh:=w},st)) h3)))
theorem CG(st:St):update T st=(fun n st=>(fun l st=>(fun w st=>({Km.of 15 with nm:=n,bu:=l,wh:=w},st)) (aq T st).1 (aq T st).2) (list T 16 (du T) (expect T [[115,101,116]] st)).1 (list T 16 (du T) (expect T [[115,101,116]] st)).2) (name T st).1 (name T st).2:=uz st (Prod.eta _).symm (Prod.eta _).symm (Prod.eta _).symm
theorem qQ(st:St){n s1 l s2 w s3}(h1:name T st=(n,s1))(h2:I.list T 16 (I.du T) (expect T [[115,101,116]] s1)=(l,s2))(h3:I.aq T s2=(w,s3)):I.update T st=({Km.of 15 with nm:=n,bu:=l,wh:=w},s3):=by
 unfold I.update;exact((bnd (fun n st=>match I.list T 16 (I.du T) (expect T [[115,101,116]] st)with
  |(l,st)=>match I.aq T st with
  |(w,st)=>({Km.of 15 with nm:=n,bu:=l,wh:=w},st)) h1).trans ((bnd (fun l st=>match I.aq T st with
  |(w,st)=>({Km.of 15 with nm:=n,bu:=l,wh:=w},st)) h2).trans (bnd (fun w st=>({Km.of 15 with nm:=n,bu:=l,wh:=w},st)) h3)))
theorem zv(st:St):I.update T st=(fun n st=>(fun l st=>(fun w st=>({Km.of 15 with nm:=n,bu:=l,wh:=w},st)) (I.aq T st).1 (I.aq T st).2) (I.list T 16 (I.du T) (expect T [[115,101,116]] st)).1 (I.list T 16 (I.du T) (expect T [[115,101,116]] st)).2) (name T st).1 (name T st).2:=qQ st (Prod.eta _).symm (Prod.eta _).symm (Prod.eta _).symm
theorem wT:Kw (update T) (I.update T):=by
 have key:∀n l,Kw (fun st=>({Km.of 15 with nm:=n,bu:=l,wh:=(aq T st).1},(aq T st).2)) (fun st=>({Km.of 15 with nm:=n,bu:=l,wh:=(I.aq T st).1},(I.aq T st).2)):=fun n l=>dI (φ:=fun w=>{Km.of 15 with nm:=n,bu:=l,wh:=w}) lR
 have ke:∀n l,Eo T (fun st=>({Km.of 15 with nm:=n,bu:=l,wh:=(I.aq T st).1},(I.aq T st).2)):=fun n l=>Eo.fst ld _
 have kv:∀n l,KA (fun st=>({Km.of 15 with nm:=n,bu:=l,wh:=(I.aq T st).1},(I.aq T st).2)):=fun n l=>fB T
 have key2:=fun n=>bg (T:=T) (eI (T:=T) (l:=[[115,101,116]]) (ic (T:=T) (most:=16) (tb (T:=T)) (jI T) tr (by decide))) (eD (fY (jI T))) (key n) (ke n) (kv n)
 have ke2:=fun n=>Eo.bind (bJ.exp (T:=T) (l:=[[115,101,116]]) (f:=I.list T 16 (I.du T)) (jN tr).eo (by simp)).eo (ke n)
 have kv2:=fun n=>dq (eD (T:=T) (l:=[[115,101,116]]) (f:=I.list T 16 (I.du T)) (fY (jI T))) (kv n)
 exact dU CG zv<|bg (T:=T) (Kw.refl (name T)) (bp T) key2 ke2 kv2
theorem ud(st:St){n s1 w s2}(h1:name T (expect T [[102,114,111,109]] st)=(n,s1))(h2:aq T s1=(w,s2)):remove T st=({Km.of 16 with nm:=n,wh:=w},s2):=by
 unfold remove;exact((bnd (fun n st=>match aq T st with
  |(w,st)=>({Km.of 16 with nm:=n,wh:=w},st)) h1).trans (bnd (fun w st=>({Km.of 16 with nm:=n,wh:=w},st)) h2))
theorem Db(st:St):remove T st=(fun n st=>(fun w st=>({Km.of 16 with nm:=n,wh:=w},st)) (aq T st).1 (aq T st).2) (name T (expect T [[102,114,111,109]] st)).1 (name T (expect T [[102,114,111,109]] st)).2:=ud st (Prod.eta _).symm (Prod.eta _).symm
theorem qy(st:St){n s1 w s2}(h1:name T (expect T [[102,114,111,109]] st)=(n,s1))(h2:I.aq T s1=(w,s2)):I.remove T st=({Km.of 16 with nm:=n,wh:=w},s2):=by
 unfold I.remove;exact((bnd (fun n st=>match I.aq T st with
  |(w,st)=>({Km.of 16 with nm:=n,wh:=w},st)) h1).trans (bnd (fun w st=>({Km.of 16 with nm:=n,wh:=w},st)) h2))
theorem yH(st:St):I.remove T st=(fun n st=>(fun w st=>({Km.of 16 with nm:=n,wh:=w},st)) (I.aq T st).1 (I.aq T st).2) (name T (expect T [[102,114,111,109]] st)).1 (name T (expect T [[102,114,111,109]] st)).2:=qy st (Prod.eta _).symm (Prod.eta _).symm
theorem uL:Kw (remove T) (I.remove T):=
 dU Db yH<|bg (T:=T) (f:=fun st=>name T (expect T [[102,114,111,109]] st)) (F:=fun n st=>({Km.of 16 with nm:=n,wh:=(aq T st).1},(aq T st).2)) (G:=fun n st=>({Km.of 16 with nm:=n,wh:=(I.aq T st).1},(I.aq T st).2))
  (eI (Kw.refl (name T))) (eD (bp T)) (fun n=>dI (φ:=fun w=>{Km.of 16 with nm:=n,wh:=w}) lR) (fun _=>Eo.fst ld _) fun _=>fB T
end
end Rp
end
end Go.Proofs.YtnicfobpclehkaaGreatDoor
