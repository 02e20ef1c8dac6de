import Derived.Test.YtnicfobpclehkaaGreatDoorP31
set_option maxHeartbeats 200000
set_option linter.unusedVariables false
set_option linter.unusedSimpArgs false
namespace Go.Proofs.YtnicfobpclehkaaGreatDoor
section
namespace I
open Ev (Ex Hd)
def Ul(a:UInt8):List Bs:=if a.toNat=1 then [[111,110],[100,101,108,101,116,101],[99,97,115,99,97,100,101]]else if a.toNat=2 then [[111,110],[100,101,108,101,116,101],[115,101,116],[110,117,108,108]]else []
theorem CK(T:Nat):Gd (fun a n=>a.toNat≤2∧sz (Ul a)≤n) (action T):=by
 intro st ht;unfold action;split
 ·rename_i ha;split;rename_i i s h;refine(dG ha).seq ht fun t1=>?_
  refine(dr T [[100,101,108,101,116,101]] _).seq t1 fun t2=>?_
  have h1:=gi T [[114,101,115,116,114,105,99,116],[99,97,115,99,97,100,101],[115,101,116]] 0 (expect T [[100,101,108,101,116,101]] (next st));rw[h]at h1;refine h1.seq t2 fun t3=>?_
  split
  ·refine(dr T [[110,117,108,108]] _).end fun n1 h1=>⟨by decide,?_⟩
   show 19≤_;simp only[lens,List.map_cons,bu,bp,bH,ab,ai];omega
  ·refine GP.ret fun n1 h1=>?_
   simp only[lens,List.map_cons,bu,bp,bH,ab,ai];split
   ·exact⟨by decide,by show 18≤_;omega⟩
   ·exact⟨by decide,ao _⟩
 ·exact GP.ret ⟨by decide,ao _⟩
def Xl(l:List Ex):List Bs:=match l with
 |[]=>[]
 |e::_=>[99,104,101,99,107]::[40]::(pE e++[[41]])
def SZ(k:UInt8):Bs:=word ((k.toNat:Int)-1) [[98,111,111,108],[105,110,116],[100,101,99],[116,101,120,116],[98,121,116,101,115]]
def pt(c:Oj):List Bs:=[c.nm,SZ c.k]++(if c.pr=true then [[112,114,105,109,97,114,121],[107,101,121]]else [])++(if c.nn=true then [[110,111,116],[110,117,108,108]]else [])++(if c.un=true then [[117,110,105,113,117,101]]else [])++Xl c.ck++nB c.rf [[114,101,102,101,114,101,110,99,101,115],c.rf]++Ul c.ac
def Am(c:Oj):Prop:=NX c.nm∧(1≤c.k.toNat∧c.k.toNat≤5)∧QX c.ck∧((c.rf=[]∧c.ac=0)∨(NX c.rf∧c.ac.toNat≤2))
theorem o7(c:Oj):sz (pt c)=c.nm.length+1+((SZ c.k).length+1)+sz (if c.pr=true then [[112,114,105,109,97,114,121],[107,101,121]]else [])+sz (if c.nn=true then [[110,111,116],[110,117,108,108]]else [])+sz (if c.un=true then [[117,110,105,113,117,101]]else [])+sz (Xl c.ck)+sz (nB c.rf [[114,101,102,101,114,101,110,99,101,115],c.rf])+sz (Ul c.ac):=by
 unfold pt;rw[dK,dK,dK,dK,dK,dK,cU,cU,dY]
def CG(c:Oj)(n:Nat):Prop:=(NX c.nm∧(1≤c.k.toNat∧c.k.toNat≤5)∧QX c.ck∧c.rf=[]∧c.ac=0)∧sz (pt c)≤n
theorem Ko(T:Nat):Gd CG (fp T):=by
 intro st ht;unfold fp;split;rename_i n s h;have h1:=ee T st ht;rw[h]at h1;refine h1.seq ht fun t1=>?_
 split;rename_i i s2 h2;have h3:=gi T [[105,110,116],[100,101,99],[98,111,111,108],[116,101,120,116],[98,121,116,101,115]] 0 s;rw[h2]at h3;refine⟨h3.ev,fun he hd=>?_⟩;obtain⟨k,g1,g2,g3,g4⟩:=h3.g he hd;refine⟨k,g1,fun n1 ⟨q1,q2⟩=>?_⟩;have hi:i=0∨i=1∨i=2∨i=3∨i=4:=by simp only[ab,ai]at g3;omega
 have:=q1.pos;have hkind:(1≤(kinds.getD i 0).toNat∧(kinds.getD i 0).toNat≤5)∧(SZ (kinds.getD i 0)).length=(([[105,110,116],[100,101,99],[98,111,111,108],[116,101,120,116],[98,121,116,101,115]]:List Bs).getD i []).length∧3≤(SZ (kinds.getD i 0)).length:=by rcases hi with rfl|rfl|rfl|rfl|rfl<;>decide
 refine⟨⟨q1,hkind.1,.inl rfl,rfl,rfl⟩,?_⟩;rw[o7];show n.length+1+((SZ (kinds.getD i 0)).length+1)+0+0+0+0+0+0≤_;dsimp only at g4 q2;rw[Nat.sub_zero]at g4;omega
theorem K2(T:Nat)(c:Oj)(st:St)(ht:Qa st):GP (fun c' k=>∀n,CG c n→CG c' (n+k)) st (fW T c st):=by
 unfold fW;split
 ·rename_i ha;refine(dG ha).seq ht fun t1=>?_
  refine(dr T [[107,101,121]] _).end fun n ⟨h1,h2⟩=>⟨h1,?_⟩
  rw[o7]at h2⊢;have:sz (if({c with pr:=true}:Oj).pr=true then [[112,114,105,109,97,114,121],[107,101,121]]else [])=12:=rfl;rw[this];simp only[lens,List.map_cons,bu,bp,bH,ab,ai]at h2⊢;omega
 ·exact GP.ret fun n h=>h
theorem La(T:Nat)(c:Oj)(st:St)(ht:Qa st):GP (fun c' k=>∀n,CG c n→CG c' (n+k)) st (iu T c st):=by
 unfold iu;split
 ·rename_i ha;refine(dG ha).seq ht fun t1=>?_
  refine(dr T [[110,117,108,108]] _).end fun n ⟨h1,h2⟩=>⟨h1,?_⟩
  rw[o7]at h2⊢;have:sz (if({c with nn:=true}:Oj).nn=true then [[110,111,116],[110,117,108,108]]else [])=9:=rfl;rw[this];simp only[lens,List.map_cons,bu,bp,bH,ab,ai]at h2⊢;omega
 ·exact GP.ret fun n h=>h
theorem LC(c:Oj)(st:St):GP (fun c' k=>∀n,CG c n→CG c' (n+k)) st (iM c st):=by
 unfold iM;split
 ·rename_i ha;refine(dG ha).end fun n ⟨h1,h2⟩=>⟨h1,?_⟩
  rw[o7]at h2⊢;have:sz (if({c with un:=true}:Oj).un=true then [[117,110,105,113,117,101]]else [])=7:=rfl;rw[this];simp only[ab,ai]at h2⊢;omega
 ·exact GP.ret fun n h=>h
theorem Lw(T:Nat)(c:Oj)(st:St)(ht:Qa st):GP (fun c' k=>∀n,CG c n→CG c' (n+k)) st (kH T c st):=by
 unfold kH;split
 ·rename_i ha;refine(dG ha).seq ht fun t1=>?_
  have h:=qx (T:=T) (iF T) _ t1;refine⟨h.ev,fun he hd=>?_⟩;obtain⟨k,g1,m,⟨g2,g3⟩,g4⟩:=h.g he hd;refine⟨k,g1,fun n ⟨h1,h2⟩=>⟨⟨h1.1,h1.2.1,.inr ⟨_,g2,rfl⟩,h1.2.2.2⟩,?_⟩⟩;rw[o7]at h2⊢;have:sz (Xl [(inside T (expr T) (next st)).1])=10+sz (pE (inside T (expr T) (next st)).1):=by show sz (_::_::(pE _++[_]))=_;rw[cU,cU,dK,cU,dY];simp only[ab,ai];omega
  simp only[this];simp only[ab,ai]at h2⊢;omega
 ·exact GP.ret fun n h=>h
theorem Ly(T:Nat)(c:Oj)(st:St)(ht:Qa st):GP (fun c' k=>∀n,CG c n→Am c'∧sz (pt c')≤n+k) st (lF T c st):=by
 unfold lF;split
 ·rename_i ha;refine(dG ha).seq ht fun t1=>?_
  refine(ee T _ t1).seq t1 fun t2=>?_
  have h:=CK T _ t2;refine⟨h.ev,fun he hd=>?_⟩;obtain⟨k,g1,g2,g3⟩:=h.g he hd;refine⟨k,g1,fun n1 ⟨q1,q2⟩ n ⟨h1,h2⟩=>⟨⟨h1.1,h1.2.1,h1.2.2.1,.inr ⟨q1,g2⟩⟩,?_⟩⟩;rw[o7]at h2⊢;have:sz (nB (name T (next st)).1 [[114,101,102,101,114,101,110,99,101,115],(name T (next st)).1])=11+((name T (next st)).1.length+1):=by unfold nB;rw[if_neg q1.ne,cU,cU,dY];simp only[ab,ai]
  simp only[this];have:=q1.pos;simp only[ab,ai]at h2⊢;omega
 ·exact GP.ret fun n ⟨h1,h2⟩=>⟨⟨h1.1,h1.2.1,h1.2.2.1,.inl h1.2.2.2⟩,h2⟩
theorem Jl(T:Nat):Gd (fun c n=>Am c∧sz (pt c)≤n) (column T):=by
 intro st ht;rw[Au];have k0:=Ko T st ht;revert k0;rcases fp T st with⟨c0,s0⟩
 intro k0;dsimp only;refine k0.seq ht fun t1=>?_
 have k1:=K2 T c0 s0 t1;revert k1;rcases fW T c0 s0 with⟨c1,s1⟩
 intro k1;dsimp only;refine k1.seq t1 fun t2=>?_
 have k2:=La T c1 s1 t2;revert k2;rcases iu T c1 s1 with⟨c2,s2⟩
 intro k2;dsimp only;refine k2.seq t2 fun t3=>?_
 have k3:=LC c2 s2;revert k3;rcases iM c2 s2 with⟨c3,s3⟩
 intro k3;dsimp only;refine k3.seq t3 fun t4=>?_
 have k4:=Lw T c3 s3 t4;revert k4;rcases kH T c3 s3 with⟨c4,s4⟩
 intro k4;dsimp only;refine k4.seq t4 fun t5=>?_
 refine(Ly T c4 s4 t5).mono fun k h nD hD nC hC nB hB nA hA n0 h0=>?_
 have:=h _ (hD _ (hC _ (hB _ (hA _ h0))));exact⟨this.1,by have:=this.2;omega⟩
def jO(s:Src):List Bs:=l8 s++Sv [111,110] s.on
def pJ:List Src→List Bs
 |[]=>[]
 |s::l=>[106,111,105,110]::(jO s++pJ l)
def Xm:List Src→List Bs
 |[]=>[]
 |s::l=>jO s++pJ l
def Xn(l:List Src):Prop:=∃s r,l=s::r∧sE s∧s.on=[]∧r.length≤16∧∀x∈r,sE x∧∃e,QW e∧x.on=[e]
theorem ML(x:Src):∀l,sz (pJ (l++[x]))=sz (pJ l)+5+sz (jO x):=by
 intro l;induction l with
 |nil=>
  show sz (_::(jO x++[]))=sz []+5+sz (jO x);rw[cU,dK,dY];simp only[ab,ai];omega
 |cons s l ih=>
  show sz (_::(jO s++pJ (l++[x])))=sz (_::(jO s++pJ l))+5+sz (jO x);rw[cU,dK,cU,dK,ih];omega
theorem Js(T:Nat):∀(f:Nat) (l:List Src) (st:St),Qa st→GP (fun(p:List Src×Bool) k=>p.2=false∧∀n,Xn l∧sz (Xm l)≤n→Xn p.1∧sz (Xm p.1)≤n+k) st (((ek T f l st).1,(ek T f l st).2.2),(ek T f l st).2.1):=by
 intro f;induction f with
 |zero=>exact fun l st _=>GP.ret ⟨rfl,fun n h=>h⟩
 |succ f ih=>
  intro l st ht;unfold ek;by_cases ha:dh [106,111,105,110] st=true
  ·rw[if_pos ha];by_cases hl:16<l.length
   ·rw[if_pos hl];exact GP.bad ((da st).trans (oC T _)) lr
   ·rw[if_neg hl];rcases h1:source T (next st)with⟨s,s1⟩
    rcases h2:expr T (expect T [[111,110]] s1)with⟨e,s2⟩
    simp only[h2];refine(dG ha).seq ht fun t1=>?_
    have g1:=tM T _ t1;rw[h1]at g1;refine g1.seq t1 fun t2=>?_
    refine(dr T [[111,110]] s1).seq t2 fun t3=>?_
    have g2:=iF T _ t3;rw[h2]at g2;refine g2.seq t3 fun t4=>?_
    refine(ih (l++[{s with on:=[e]}]) s2 t4).mono ?_;intro k ⟨hf,h⟩ n2 ⟨q1,q2⟩ n1 ⟨p1,p2,p3⟩;dsimp only at q1 q2 p1 p2 p3;refine⟨hf,fun n ⟨r1,r2⟩=>?_⟩;obtain⟨a,r,rfl,a1,a2,a3,a4⟩:=r1;have key:=h (n+5+(sz (l8 s)+(3+sz (pE e)))) ⟨⟨a,r++[{s with on:=[e]}],rfl,a1,a2,by simp at hl⊢;omega,fun x hx=>by
     rcases aM.1 hx with hx|hx
     ·exact a4 x hx
     ·simp at hx
      rw[hx]
      exact⟨p1,e,q1,rfl⟩⟩,by
     show sz (jO a++pJ (r++[_]))≤_
     have e1:sz (jO a++pJ r)≤n:=r2
     rw[dK]at e1⊢
     rw[ML]
     have e2:sz (jO {s with on:=[e]})=sz (l8 s)+(3+sz (pE e)):=by
      show sz (l8 s++_::pE e)=_
      rw[dK,cU]
      rfl
     rw[e2]
     omega⟩
    refine⟨key.1,?_⟩;have k2:=key.2;dsimp only at k2⊢;simp only[lens,List.map_cons,List.map_nil,List.sum_cons,List.sum_nil,List.length_cons,List.length_nil];omega
  ·rw[if_neg ha];exact GP.ret ⟨rfl,fun n h=>h⟩
def TN(l:List Ex):List Bs:=if l=[]then []else [103,114,111,117,112]::[98,121]::pC pE l
def TO(l:List Ord):List Bs:=if l=[]then []else [111,114,100,101,114]::[98,121]::pC Zg l
def qI(n:Int):List Bs:=if n= -1 then []else [[108,105,109,105,116],Go.Lib.itoa n]
def j5(q:NS):List Bs:=if q.all=true then [[42]]else pC Xk q.its
def ld(q:NS):List Bs:=[115,101,108,101,99,116]::(j5 q++[102,114,111,109]::(Xm q.fr++(Sv [119,104,101,114,101] q.wh++(TN q.gr++(TO q.od++qI q.lim)))))
theorem LU(q:NS):sz (ld q)=12+sz (j5 q)+sz (Xm q.fr)+sz (Sv [119,104,101,114,101] q.wh)+sz (TN q.gr)+sz (TO q.od)+sz (qI q.lim):=by
 unfold ld;rw[cU,dK,cU,dK,dK,dK,dK];simp only[ab,ai];omega
structure PA (q:NS):Prop where
 its:(q.all=true∧q.its=[])∨(q.all=false∧LG Ws 16 q.its)
 fr:Xn q.fr
 wh:QX q.wh
 gr:q.gr=[]∨LG QW 16 q.gr
 od:q.od=[]∨LG TM 16 q.od
 lim:q.lim= -1∨As q.lim
theorem Ji(T:Nat):Gd (fun q n=>(q.fr=[]∧q.wh=[]∧q.gr=[]∧q.od=[]∧q.lim= -1)∧((q.all=true∧q.its=[])∨(q.all=false∧LG Ws 16 q.its))∧sz (j5 q)≤n) (px T):=by
 intro st ht;unfold px;split
 ·rename_i ha;exact(dG ha).end ⟨⟨rfl,rfl,rfl,rfl,rfl⟩,.inl ⟨rfl,rfl⟩,by decide⟩
 ·split;rename_i l s h;have h1:=lV (T:=T) (most:=16) (by decide) (Kf T) st ht;rw[h]at h1;refine⟨h1.ev,fun he hd=>?_⟩;obtain⟨k,g1,g2,g3⟩:=h1.g he hd;exact⟨k,g1,⟨rfl,rfl,rfl,rfl,rfl⟩,.inr ⟨rfl,g2⟩,g3⟩
theorem Ma(T:Nat)(q:NS)(st:St)(ht:Qa st):GP (fun q' k=>q.gr=[]→∃l,q'={q with gr:=l}∧(l=[]∨LG QW 16 l)∧sz (TN l)≤k) st (nR T q st):=by
 unfold nR;split
 ·rename_i ha;refine(dG ha).seq ht fun t1=>?_
  refine(dr T [[98,121]] _).seq t1 fun t2=>?_
  refine(lV (T:=T) (most:=16) (by decide) (iF T) _ t2).kc (fun l=>{q with gr:=l}) ?_;intro k ⟨h1,h2⟩ _;refine⟨_,rfl,.inr h1,?_⟩;unfold TN;rw[if_neg h1.1,cU,cU];simp only[lens,List.map_cons,bu,bp,bH,ab,ai];omega
 ·exact GP.ret fun h=>⟨[],by rw[←h],.inl rfl,ao _⟩
theorem Mq(T:Nat)(q:NS)(st:St)(ht:Qa st):GP (fun q' k=>q.od=[]→∃l,q'={q with od:=l}∧(l=[]∨LG TM 16 l)∧sz (TO l)≤k) st (nN T q st):=by
 unfold nN;split
 ·rename_i ha;refine(dG ha).seq ht fun t1=>?_
  refine(dr T [[98,121]] _).seq t1 fun t2=>?_
  refine(lV (T:=T) (most:=16) (by decide) (Fh T) _ t2).kc (fun l=>{q with od:=l}) ?_;intro k ⟨h1,h2⟩ _;refine⟨_,rfl,.inr h1,?_⟩;unfold TO;rw[if_neg h1.1,cU,cU];simp only[lens,List.map_cons,bu,bp,bH,ab,ai];omega
 ·exact GP.ret fun h=>⟨[],by rw[←h],.inl rfl,ao _⟩
theorem MB(T:Nat)(q:NS)(st:St)(ht:Qa st):GP (fun q' k=>q.lim= -1→∃n,q'={q with lim:=n}∧(n= -1∨As n)∧sz (qI n)≤k) st (nz T q st):=by
 unfold nz;split
 ·rename_i ha;refine(dG ha).seq ht fun t1=>?_
  refine(GB T _ t1).kc (fun n=>{q with lim:=n}) ?_;intro k ⟨h1,h2⟩ _;refine⟨_,rfl,.inr h1,?_⟩;unfold qI;split
  ·exact ao _
  ·rw[cU,cU,dY];simp only[ab,ai];omega
 ·exact GP.ret fun h=>⟨-1,by rw[←h],.inl rfl,ao _⟩
theorem Jx(T:Nat)(q:NS)(st:St)(ht:Qa st):GP (fun q' k=>q.wh=[]∧q.gr=[]∧q.od=[]∧q.lim= -1→q'.all=q.all∧q'.its=q.its∧q'.fr=q.fr∧QX q'.wh∧(q'.gr=[]∨LG QW 16 q'.gr)∧(q'.od=[]∨LG TM 16 q'.od)∧(q'.lim= -1∨As q'.lim)∧sz (Sv [119,104,101,114,101] q'.wh)+sz (TN q'.gr)+sz (TO q'.od)+sz (qI q'.lim)≤k) st (oS T q st):=by
 unfold oS;split;rename_i wh s h;split;rename_i q1 s1 h1;split;rename_i q2 s2 h2;have g0:=qK T st ht;rw[h]at g0;refine g0.seq ht fun t1=>?_
 have g1:=Ma T {q with wh:=wh} s t1;rw[h1]at g1;refine g1.seq t1 fun t2=>?_
 have g2:=Mq T q1 s1 t2;rw[h2]at g2;refine g2.seq t2 fun t3=>?_
 refine(MB T q2 s2 t3).mono ?_;intro k hL nO hO nG hG nW ⟨hW,hW2⟩ ⟨z1,z2,z3,z4⟩;obtain⟨lg,e1,i1,j1⟩:=hG z2;simp only at e1;obtain⟨lo,e2,i2,j2⟩:=hO (by rw[e1];exact z3);simp only at e2;obtain⟨n,e3,i3,j3⟩:=hL (by rw[e2,e1];exact z4);rw[e3,e2,e1];exact⟨rfl,rfl,rfl,hW,i1,i2,i3,by simp only at hW2⊢;omega⟩
theorem Em(T:Nat):Gd (fun q n=>PA q∧sz (ld q)≤n+12) (selection T):=by
 intro st ht;unfold selection;split;rename_i q s h;split;rename_i so s1 h1;have g0:=Ji T st ht;rw[h]at g0;refine g0.seq ht fun t1=>?_
 refine(dr T [[102,114,111,109]] s).seq t1 fun t2=>?_
 have g1:=tM T _ t2;rw[h1]at g1;refine g1.seq t2 fun t3=>?_
 have g2:=Js T (s1.r.length+1) [so] s1 t3;split
 ·rename_i l s2 h4;rw[h4]at g2;refine⟨g2.ev,fun he hd=>?_⟩;obtain⟨k,_,hf,_⟩:=g2.g he hd;cases hf
 ·rename_i l s2 h4;rw[h4]at g2;refine g2.seq t3 fun t4=>?_
  refine(Jx T {q with fr:=l} s2 t4).mono ?_;intro k hW nJ ⟨_,hJ⟩ nS ⟨y1,y2,y3⟩ nI ⟨⟨z1,z2,z3,z4,z5⟩,hI,hI2⟩;obtain⟨w1,w2,w3,w4,w5,w6,w7,w8⟩:=hW ⟨z2,z3,z4,z5⟩;obtain⟨f1,f2⟩:=hJ nS ⟨⟨so,[],rfl,y1,y2,by simp,fun x hx=>by cases hx⟩,by
   show sz (l8 so++Sv _ so.on++[])≤nS
   rw[y2,dK,dK]
   show sz (l8 so)+0+0≤nS
   omega⟩
  refine⟨⟨by rw[w1,w2];exact hI,by rw[w3];exact f1,w4,w5,w6,w7⟩,?_⟩;rw[LU];have e1:j5 (oS T {q with fr:=l} s2).1=j5 q:=by unfold j5;rw[w1,w2]
  rw[e1,w3];dsimp only at f2 hI2 w8⊢;simp only[lens,List.map_cons,List.map_nil,List.sum_cons,List.sum_nil,List.length_cons,List.length_nil];omega
end I
end
section
namespace I
open Ev (Ex Hd)
inductive Pu:NC→Prop
 |table {n:Bs} {cs:List Oj} (hn:NX n) (hc:LG Am 12 cs):Pu {NC.of 1 with nm:=n,NH:=cs}
 |view {n:Bs} {q:NS} (hn:NX n) (hq:PA q):Pu {NC.of 3 with nm:=n,q:=[q]}
 |fh {n on t:Bs} {ev:UInt8} {v:List Ex} (hn:NX n) (he:14≤ev.toNat∧ev.toNat≤16) (ho:NX on) (ht:NX t) (hv:yb v):Pu {NC.of 5 with nm:=n,ev:=ev,on:=on,NG:=t,vals:=[v]}
 |fN {n on t:Bs} {e:Ex} (hn:NX n) (ho:NX on) (ht:NX t) (he:QW e):Pu {NC.of 7 with nm:=n,on:=on,NG:=t,wh:=[e]}
 |role {n key:Bs} (hn:NX n) (hk:key.length≤200):Pu {NC.of 9 with nm:=n,key:=key}
 |drop {k:UInt8} {n:Bs} (hk:k∈([2,4,6,8]:List UInt8)) (hn:NX n):Pu {NC.of k with nm:=n}
 |share {k:UInt8} {n on:Bs} (hk:k∈([10,11]:List UInt8)) (hn:NX n) (ho:NX on):Pu {NC.of k with nm:=n,on:=on}
 |fE {pv:List UInt8} {n on:Bs} {opt:Bool} (hp:uV pv) (hn:NX n) (ho:NX on):Pu {NC.of 12 with pv:=pv,nm:=n,on:=on,opt:=opt}
 |gj {pv:List UInt8} {n on:Bs} (hp:uV pv) (hn:NX n) (ho:NX on):Pu {NC.of 13 with pv:=pv,nm:=n,on:=on}
 |insert {n:Bs} {v:List (List Ex)} (hn:NX n) (hv:LG yb 16 v):Pu {NC.of 14 with nm:=n,vals:=v}
 |update {n:Bs} {l:List OI} {w:List Ex} (hn:NX n) (hl:LG Cv 16 l) (hw:QX w):Pu {NC.of 15 with nm:=n,dD:=l,wh:=w}
 |remove {n:Bs} {w:List Ex} (hn:NX n) (hw:QX w):Pu {NC.of 16 with nm:=n,wh:=w}
 |query {q:NS} (hq:PA q):Pu {NC.of 17 with q:=[q]}
 |plain {k:UInt8} (hk:k∈([18,19,20]:List UInt8)):Pu (NC.of k)
def pS(s:NC):List Bs:=
 if s.k.toNat=1 then [99,114,101,97,116,101]::[116,97,98,108,101]::s.nm::[40]::(pC pt s.NH++[[41]])
 else if s.k.toNat=3 then [99,114,101,97,116,101]::[118,105,101,119]::s.nm::[97,115]::s.q.flatMap ld
 else if s.k.toNat=5 then [[99,114,101,97,116,101],[116,114,105,103,103,101,114],s.nm,[97,102,116,101,114],word ((s.ev.toNat:Int)-14) [[105,110,115,101,114,116],[117,112,100,97,116,101],[100,101,108,101,116,101]],[111,110],s.on,[105,110,115,101,114,116],[105,110,116,111],s.NG,[118,97,108,117,101,115]]++s.vals.flatMap oc
 else if s.k.toNat=7 then [[99,114,101,97,116,101],[112,111,108,105,99,121],s.nm,[111,110],s.on,[116,111],s.NG,[117,115,105,110,103],[40]]++(s.wh.flatMap pE++[[41]])
 else if s.k.toNat=9 then [99,114,101,97,116,101]::[114,111,108,101]::s.nm::nB s.key [[107,101,121],NF.prt ⟨4,0,bs s.key⟩]
 else if s.k.toNat=2 then [[100,114,111,112],[116,97,98,108,101],s.nm]
 else if s.k.toNat=4 then [[100,114,111,112],[118,105,101,119],s.nm]
 else if s.k.toNat=6 then [[100,114,111,112],[116,114,105,103,103,101,114],s.nm]
 else if s.k.toNat=8 then [[100,114,111,112],[112,111,108,105,99,121],s.nm]
 else if s.k.toNat=10 then [[103,114,97,110,116],s.nm,[116,111],s.on]
 else if s.k.toNat=11 then [[114,101,118,111,107,101],s.nm,[102,114,111,109],s.on]
 else if s.k.toNat=12 then [103,114,97,110,116]::(oL s.pv++([[111,110],s.nm,[116,111],s.on]++if s.opt=true then [[119,105,116,104],[103,114,97,110,116],[111,112,116,105,111,110]]else []))
 else if s.k.toNat=13 then [114,101,118,111,107,101]::(oL s.pv++[[111,110],s.nm,[102,114,111,109],s.on])
 else if s.k.toNat=14 then [105,110,115,101,114,116]::[105,110,116,111]::s.nm::[118,97,108,117,101,115]::pC oc s.vals
 else if s.k.toNat=15 then [117,112,100,97,116,101]::s.nm::[115,101,116]::(pC vK s.dD++Sv [119,104,101,114,101] s.wh)
 else if s.k.toNat=16 then [100,101,108,101,116,101]::[102,114,111,109]::s.nm::Sv [119,104,101,114,101] s.wh
 else if s.k.toNat=17 then s.q.flatMap ld
 else if s.k.toNat=18 then [[98,101,103,105,110]]
 else if s.k.toNat=19 then [[99,111,109,109,105,116]]
 else [[114,111,108,108,98,97,99,107]]
def SG(s:NC)(n:Nat):Prop:=Pu s∧sz (pS s)≤n+100
section
variable(T:Nat)
theorem Gm:Gd SG (table T):=by
 intro st ht;unfold table;split;rename_i n s h;have h1:=ee T st ht;rw[h]at h1;refine h1.seq ht fun t1=>?_
 split;rename_i cs s2 h2;have h3:=qx (T:=T) (lV (T:=T) (most:=12) (by decide) (Jl T)) s t1;rw[h2]at h3;refine h3.kc (fun cs=>({NC.of 1 with nm:=n,NH:=cs}:NC)) ?_;intro k ⟨m,⟨q1,q2⟩,q3⟩ n1 ⟨q4,q5⟩;try dsimp only at*
 refine⟨.table q4 q1,?_⟩;show sz (_::_::n::_::(pC pt cs++[_]))≤_;simp only[cU,dK,dY,ab,ai]at q2⊢;have:=q4.pos;omega
theorem JC:Gd SG (view T):=by
 intro st ht;unfold view;split;rename_i n s h;have h1:=ee T st ht;rw[h]at h1;refine h1.seq ht fun t1=>?_
 split;rename_i q s2 h2;refine(dr T [[97,115],[115,101,108,101,99,116]] s).seq t1 fun t2=>?_
 have h3:=Em T _ t2;rw[h2]at h3;refine h3.kc (fun q=>({NC.of 3 with nm:=n,q:=[q]}:NC)) ?_;intro k ⟨q1,q2⟩ n1 ⟨q4,q5⟩;try dsimp only at*
 refine⟨.view q4 q1,?_⟩;show sz (_::_::n::_::(ld q++[]))≤_;simp only[cU,dK,dY,ab,ai]at q2⊢;have:=q4.pos;omega
theorem yQ:Gd SG (fh T):=by
 intro st ht;unfold fh;split;rename_i n s h;have h1:=ee T st ht;rw[h]at h1;refine h1.seq ht fun t1=>?_
 split;rename_i i s2 h2;refine(dr T [[97,102,116,101,114]] s).seq t1 fun t2=>?_
 have h3:=gi T [[105,110,115,101,114,116],[117,112,100,97,116,101],[100,101,108,101,116,101]] 0 (expect T [[97,102,116,101,114]] s);rw[h2]at h3;refine h3.seq t2 fun t3=>?_
 split;rename_i on s3 h4;refine(dr T [[111,110]] s2).seq t3 fun t4=>?_
 have h5:=ee T _ t4;rw[h4]at h5;refine h5.seq t4 fun t5=>?_
 split;rename_i tt s4 h6;refine(dr T [[105,110,115,101,114,116],[105,110,116,111]] s3).seq t5 fun t6=>?_
 have h7:=ee T _ t6;rw[h6]at h7;refine h7.seq t6 fun t7=>?_
 split;rename_i v s5 h8;refine(dr T [[118,97,108,117,101,115]] s4).seq t7 fun t8=>?_
 have h9:=Ht T _ t8;rw[h8]at h9;refine h9.kc (fun v=>({NC.of 5 with nm:=n,ev:=([14,15,16]:List UInt8).getD i 0,on:=on,NG:=tt,vals:=[v]}:NC)) ?_;intro k ⟨q1,q2⟩ n4 ⟨a4,b4⟩ n3 ⟨a3,b3⟩ n2 ⟨a2,b2,c2⟩ n1 ⟨a1,b1⟩;try dsimp only at*
 have hi:i=0∨i=1∨i=2:=by simp only[ab,ai]at b2;omega
 have hev:(14≤(([14,15,16]:List UInt8).getD i 0).toNat∧(([14,15,16]:List UInt8).getD i 0).toNat≤16)∧(word (((([14,15,16]:List UInt8).getD i 0).toNat:Int)-14) [[105,110,115,101,114,116],[117,112,100,97,116,101],[100,101,108,101,116,101]]).length=6:=by rcases hi with rfl|rfl|rfl<;>decide
 refine⟨.fh a1 hev.1 a3 a4 q1,?_⟩;show sz ([_,_,n,_,word (((([14,15,16]:List UInt8).getD i 0).toNat:Int)-14) [[105,110,115,101,114,116],[117,112,100,97,116,101],[100,101,108,101,116,101]],_,on,_,_,tt,_]++(oc v++[]))≤_;simp only[cU,dK,dY,hev.2,ab,ai]at q2⊢;have:=a1.pos;have:=a3.pos;have:=a4.pos;omega
theorem Dj:Gd SG (fN T):=by
 intro st ht;unfold fN;split;rename_i n s h;have h1:=ee T st ht;rw[h]at h1;refine h1.seq ht fun t1=>?_
 split;rename_i on s3 h4;refine(dr T [[111,110]] s).seq t1 fun t4=>?_
 have h5:=ee T _ t4;rw[h4]at h5;refine h5.seq t4 fun t5=>?_
 split;rename_i tt s4 h6;refine(dr T [[116,111]] s3).seq t5 fun t6=>?_
 have h7:=ee T _ t6;rw[h6]at h7;refine h7.seq t6 fun t7=>?_
 split;rename_i e s5 h8;refine(dr T [[117,115,105,110,103]] s4).seq t7 fun t8=>?_
 have h9:=qx (T:=T) (iF T) _ t8;rw[h8]at h9;refine h9.kc (fun e=>({NC.of 7 with nm:=n,on:=on,NG:=tt,wh:=[e]}:NC)) ?_;intro k ⟨m,⟨q1,q2⟩,q3⟩ n4 ⟨a4,b4⟩ n3 ⟨a3,b3⟩ n1 ⟨a1,b1⟩;try dsimp only at*
 refine⟨.fN a1 a3 a4 q1,?_⟩;show sz ([_,_,n,_,on,_,tt,_,_]++((pE e++[])++[_]))≤_;simp only[cU,dK,dY,ab,ai]at q2⊢;have:=a1.pos;have:=a3.pos;have:=a4.pos;omega
theorem II:Gd SG (role T):=by
 intro st ht;unfold role;split;rename_i n s h;have h1:=ee T st ht;rw[h]at h1;refine h1.seq ht fun t1=>?_
 have h0:∀k n1:Nat,NX n∧6*n.length≤n1→SG {NC.of 9 with nm:=n} (n1+k):=fun k n1 ⟨a1,b1⟩=>⟨.role (key:=[]) a1 (by simp),by
  show sz [_,_,n]≤_
  simp only[cU,dY,ab,ai]
  have:=a1.pos
  omega⟩
 split
 ·rename_i ha;split
  ·rename_i hk;refine(dG ha).seq t1 fun t2=>?_
   unfold dF at hk;unfold QO;cases hr:(next s).r with
   |nil=>rw[hr]at hk;exact absurd hk (by decide)
   |cons t r=>
    rw[hr]at hk;simp only at hk⊢;have hg:=(t2 t (by rw[hr];exact ag)).s hk;refine⟨da (next s),fun _ _=>⟨6*src t,?_,fun n1 ⟨a1,b1⟩=>⟨.role a1 hg,?_⟩⟩⟩
    ·show _+wt (next s).r.tail≤_;rw[hr,mI];exact aa _
    ·have hs:src t=(NF.quo t.2.1).length+2:=by unfold src;rw[hk];rfl
     have hp:NF.prt ⟨4,0,bs t.2.1⟩=[39]++NF.quo t.2.1++[39]:=by unfold NF.prt;rw[if_neg (by rw[nL.right (.inr (.inr (.inr (.inr (.inr (.inl ⟨_,hg,rfl⟩))))))];decide),dA];rfl
     show sz (_::_::n::nB t.2.1 [_,NF.prt ⟨4,0,bs t.2.1⟩])≤_;have:=a1.pos;unfold nB;rw[hp,hs];split<;>simp only[cU,dY,ah,ab,ai]<;>omega
  ·exact GP.bad ((da s).trans (dP (by decide) _)) (ea (by decide))
 ·exact GP.ret fun n1 h1=>h0 0 n1 h1
theorem JT:Gd SG (drop T):=by
 intro st ht;unfold drop;split;rename_i i s2 h2;have h3:=gi T [[116,97,98,108,101],[118,105,101,119],[116,114,105,103,103,101,114],[112,111,108,105,99,121]] 0 st;rw[h2]at h3;refine h3.seq ht fun t1=>?_
 split;rename_i n s h;have h1:=ee T s2 t1;rw[h]at h1;refine h1.kc (fun n=>({NC.of (([2,4,6,8]:List UInt8).getD i 0)with nm:=n}:NC)) ?_;intro k ⟨a1,b1⟩ n2 ⟨_,b2,c2⟩;try dsimp only at*
 have hi:i=0∨i=1∨i=2∨i=3:=by simp only[ab,ai]at b2;omega
 have:=a1.pos;rcases hi with rfl|rfl|rfl|rfl
 ·exact⟨.drop (by decide) a1,by show sz [_,_,n]≤_;simp only[cU,dY,ab,ai];omega⟩
 ·exact⟨.drop (by decide) a1,by show sz [_,_,n]≤_;simp only[cU,dY,ab,ai];omega⟩
 ·exact⟨.drop (by decide) a1,by show sz [_,_,n]≤_;simp only[cU,dY,ab,ai];omega⟩
 ·exact⟨.drop (by decide) a1,by show sz [_,_,n]≤_;simp only[cU,dY,ab,ai];omega⟩
theorem AL(k1 k2:UInt8)(word:Bs):Gd (fun s n=>∃nm on,NX nm∧NX on∧((s={NC.of k1 with nm:=nm,on:=on}∧nm.length+on.length≤n)∨∃pv,uV pv∧s={NC.of k2 with pv:=pv,nm:=nm,on:=on}∧sz (oL pv)+nm.length+on.length≤n+34)) (share T k1 k2 word):=by
 intro st ht;unfold share;by_cases hn:named st=true
 ·rw[if_pos hn];show GP _ st (match name T st with|(n,st)=>match name T (expect T [word] st)with|(on,st)=>({NC.of k1 with nm:=n,on:=on},st));split;rename_i n s h;have h1:=ee T st ht;rw[h]at h1;refine h1.seq ht fun t1=>?_
  split;rename_i on s3 h4;refine(dr T [word] s).seq t1 fun t4=>?_
  have h5:=ee T _ t4;rw[h4]at h5;refine h5.kc (fun on=>({NC.of k1 with nm:=n,on:=on}:NC)) ?_;intro k ⟨a3,b3⟩ n1 ⟨a1,b1⟩;try dsimp only at*
  exact⟨n,on,a1,a3,.inl ⟨rfl,by omega⟩⟩
 ·rw[if_neg hn];show GP _ st (match name T (expect T [[111,110]] (fi T st).2)with|(n,st2)=>match name T (expect T [word] st2)with|(on,st3)=>({NC.of k2 with pv:=(fi T st).1,nm:=n,on:=on},st3));refine(EO T st ht).seq ht fun t0=>?_
  refine(dr T [[111,110]] _).seq t0 fun t00=>?_
  split;rename_i n s h;have h1:=ee T _ t00;rw[h]at h1;refine h1.seq t00 fun t1=>?_
  split;rename_i on s3 h4;refine(dr T [word] s).seq t1 fun t4=>?_
  have h5:=ee T _ t4;rw[h4]at h5;refine h5.kc (fun on=>({NC.of k2 with pv:=(fi T st).1,nm:=n,on:=on}:NC)) ?_;intro k ⟨a3,b3⟩ n1 ⟨a1,b1⟩ n0 ⟨a0,b0⟩;try dsimp only at*
  exact⟨n,on,a1,a3,.inr ⟨_,a0,rfl,by omega⟩⟩
theorem Gf:Gd SG (fE T):=by
 intro st ht;unfold fE;split;rename_i s st2 h;have h1:=AL T 10 12 [116,111] st ht;rw[h]at h1;refine h1.seq ht fun t1=>?_
 split
 ·rename_i hk;refine(dG hk.2).seq t1 fun t2=>?_
  refine(dr T [[103,114,97,110,116],[111,112,116,105,111,110]] _).end fun n1 ⟨nm,on,a1,a2,hc⟩=>?_
  rcases hc with⟨rfl,_⟩|⟨pv,hp,rfl,hb⟩
  ·exact absurd (show(10:UInt8)=12 from hk.1) (by decide)
  ·refine⟨.fE (opt:=true) hp a1 a2,?_⟩;show sz (_::(oL pv++([_,nm,_,on]++[_,_,_])))≤_;simp only[cU,dK,dY,ab,ai];omega
 ·refine GP.ret fun n1 ⟨nm,on,a1,a2,hc⟩=>?_
  rcases hc with⟨rfl,hb⟩|⟨pv,hp,rfl,hb⟩
  ·refine⟨.share (by decide) a1 a2,?_⟩;show sz [_,nm,_,on]≤_;simp only[cU,dY,ab,ai];omega
  ·refine⟨.fE (opt:=false) hp a1 a2,?_⟩;show sz (_::(oL pv++([_,nm,_,on]++[])))≤_;simp only[cU,dK,dY,ab,ai];omega
theorem Dp:Gd SG (gj T):=fun st ht=>(AL T 11 13 [102,114,111,109] st ht).mono fun n1 ⟨nm,on,a1,a2,hc⟩=>by
 rcases hc with⟨e,hb⟩|⟨pv,hp,e,hb⟩
 ·refine⟨by rw[e];exact .share (by decide) a1 a2,?_⟩;rw[e];show sz [_,nm,_,on]≤_;simp only[cU,dY,ab,ai];omega
 ·refine⟨by rw[e];exact .gj hp a1 a2,?_⟩;rw[e];show sz (_::(oL pv++[_,nm,_,on]))≤_;simp only[cU,dK,dY,ab,ai];omega
theorem Cg:Gd SG (insert T):=by
 intro st ht;unfold insert;split;rename_i n s h;refine(dr T [[105,110,116,111]] st).seq ht fun t0=>?_
 have h1:=ee T _ t0;rw[h]at h1;refine h1.seq t0 fun t1=>?_
 split;rename_i v s2 h2;refine(dr T [[118,97,108,117,101,115]] s).seq t1 fun t2=>?_
 have h3:=lV (T:=T) (most:=16) (by decide) (Ht T) _ t2;rw[h2]at h3;refine h3.kc (fun v=>({NC.of 14 with nm:=n,vals:=v}:NC)) ?_;intro k ⟨q1,q2⟩ n1 ⟨a1,b1⟩;try dsimp only at*
 refine⟨.insert a1 q1,?_⟩;show sz (_::_::n::_::pC oc v)≤_;simp only[cU,ab,ai]at q2⊢;omega
theorem C4:Gd SG (update T):=by
 intro st ht;unfold update;split;rename_i n s h;have h1:=ee T _ ht;rw[h]at h1;refine h1.seq ht fun t1=>?_
 split;rename_i v s2 h2;refine(dr T [[115,101,116]] s).seq t1 fun t2=>?_
 have h3:=lV (T:=T) (most:=16) (by decide) (Ij T) _ t2;rw[h2]at h3;refine h3.seq t2 fun t3=>?_
 split;rename_i w s3 h4;have h5:=qK T s2 t3;rw[h4]at h5;refine h5.kc (fun w=>({NC.of 15 with nm:=n,dD:=v,wh:=w}:NC)) ?_;intro k ⟨q3,q4⟩ n2 ⟨q1,q2⟩ n1 ⟨a1,b1⟩;try dsimp only at*
 refine⟨.update a1 q1 q3,?_⟩;show sz (_::n::_::(pC vK v++Sv [119,104,101,114,101] w))≤_;simp only[cU,dK,ab,ai]at q2 q4⊢;omega
theorem DA:Gd SG (remove T):=by
 intro st ht;unfold remove;split;rename_i n s h;refine(dr T [[102,114,111,109]] st).seq ht fun t0=>?_
 have h1:=ee T _ t0;rw[h]at h1;refine h1.seq t0 fun t1=>?_
 split;rename_i w s3 h4;have h5:=qK T s t1;rw[h4]at h5;refine h5.kc (fun w=>({NC.of 16 with nm:=n,wh:=w}:NC)) ?_;intro k ⟨q3,q4⟩ n1 ⟨a1,b1⟩;try dsimp only at*
 refine⟨.remove a1 q3,?_⟩;show sz (_::_::n::Sv [119,104,101,114,101] w)≤_;simp only[cU,ab,ai]at q4⊢;omega
theorem GM:Gd SG (query T):=by
 intro st ht;unfold query;split;rename_i q s h;have h1:=Em T st ht;rw[h]at h1;refine h1.kc (fun q=>({NC.of 17 with q:=[q]}:NC)) ?_;intro k ⟨q3,q4⟩;try dsimp only at*
 refine⟨.query q3,?_⟩;show sz (ld q++[])≤_;simp only[dK,dY]at q4⊢;omega
theorem G8:∀(l:List (Bs×(St→NC×St))),(∀v∈l,Gd SG v.2)→Gd SG (pick T l):=by
 intro l;induction l with
 |nil=>intro _ st _;exact GP.bad (dP (by decide) st) (ea (by decide))
 |cons v l ih=>
  intro h st ht;unfold pick;split
  ·rename_i ha;refine(dG ha).seq ht fun t1=>?_
   exact(h v ag (next st) t1).mono fun k hk=>⟨hk.1,by have:=hk.2;omega⟩
  ·exact ih (fun v hv=>h v (au _ hv)) st ht
theorem BR:Gd SG (create T):=G8 T _ fun v hv=>by
 simp only[af,aj,aH]at hv
 rcases hv with rfl|rfl|rfl|rfl|rfl
 ·exact Gm T
 ·exact JC T
 ·exact yQ T
 ·exact Dj T
 ·exact II T
theorem D6:Gd SG (pick T (mh T)):=G8 T _ fun v hv=>by
 have hp:∀k:UInt8,k∈([18,19,20]:List UInt8)→Gd SG fun st=>(NC.of k,st):=fun k hk st _=>GP.ret ⟨.plain hk,by
  simp only[af,aj,aH]at hk
  rcases hk with rfl|rfl|rfl<;>decide⟩
 simp only[mh,af,aj,aH]at hv
 rcases hv with rfl|rfl|rfl|rfl|rfl|rfl|rfl|rfl|rfl|rfl|rfl
 ·exact BR T
 ·exact JT T
 ·exact Gf T
 ·exact Dp T
 ·exact Cg T
 ·exact C4 T
 ·exact DA T
 ·exact GM T
 ·exact hp 18 (by decide)
 ·exact hp 19 (by decide)
 ·exact hp 20 (by decide)
end
theorem Nv{T:Nat}{l:List Tok}(hl:∀t∈l,Xj t)(he:(run T l).2.e=0)(hd:(run T l).2.d=false):SG (run T l).1 (wt l):=by
 have h:=D6 T ⟨l,0,0,false⟩ hl;unfold run at he hd⊢;rcases hp:pick T (mh T) ⟨l,0,0,false⟩with⟨s,st⟩
 rw[hp]at h he hd;simp only at he hd⊢;have hv:ON st (if(acc [59] st).r=[]then acc [59] st else fail T 300 (acc [59] st)):=by
  split
  ·exact Bb _ st
  ·exact(Bb _ st).trans (dP (by decide) _)
 obtain⟨n,h1,h2,h3⟩:=h.g (hv.e he) (Nw hv hd);exact⟨h2,by
  have e:wt (⟨l,0,0,false⟩:St).r=wt l:=rfl
  simp only at h1 h3
  omega⟩
end I
end
namespace Lex
theorem C7(p:UInt8→Bool):∀l:List UInt8,span p (l.take (span p l))=span p l∧span p l≤l.length:=by
 intro l;induction l with
 |nil=>exact⟨rfl,aa _⟩
 |cons c r ih=>
  by_cases h:p c=true
  ·have e:span p (c::r)=span p r+1:=by simp[span,h]
   rw[e,List.take_succ_cons];have e2:span p (c::r.take (span p r))=span p (r.take (span p r))+1:=by simp[span,h]
   rw[e2,ih.1];exact⟨rfl,by simp;exact ih.2⟩
  ·have e:span p (c::r)=0:=by simp[span,h]
   rw[e];exact⟨rfl,ao _⟩
theorem JA{l:List UInt8}{k:UInt8}{s:List UInt8}{n:Nat}(h:token l=some (k,s,n)):(k=1→word s=true)∧(k=5→iS s=false):=by
 unfold token at h;cases l with
 |nil=>cases h
 |cons c r=>
  simp only at h;split at h
  ·unfold jr at h;split at h
   ·cases h
   ·split at h
    ·injection h with h;injection h with h _;subst h;exact⟨fun e=>absurd e (by decide),fun e=>absurd e (by decide)⟩
    ·cases h
  ·split at h
   ·rename_i hl;unfold me at h;split at h
    ·rename_i QP;injection h with h
     simp only[aT]at h;obtain⟨rfl,rfl,_⟩:=h;refine⟨fun _=>?_,fun e=>absurd e (by decide)⟩;obtain⟨h1,h2⟩:=C7 eN (c::r);have hp:1≤span eN (c::r):=og (by simp[eN,hl]);unfold word;have hlen:((c::r).take (span eN (c::r))).length=span eN (c::r):=by rw[aP];omega
     have hh:iS ((c::r).take (span eN (c::r)))=true:=by obtain⟨m,hm⟩:∃m,span eN (c::r)=m+1:=⟨span eN (c::r)-1,by omega⟩;rw[hm,List.take_succ_cons];exact hl
     rw[hlen,h1,hh,aq hp,aq QP,aq rfl];rfl
    ·cases h
   ·rename_i hl;split at h
    ·unfold gN at h;split at h
     ·cases h
     ·split at h
      ·split at h
       ·cases h
       ·injection h with h;injection h with h _;subst h;exact⟨fun e=>absurd e (by decide),fun e=>absurd e (by decide)⟩
      ·injection h with h;injection h with h _;subst h;exact⟨fun e=>absurd e (by decide),fun e=>absurd e (by decide)⟩
    ·split at h
     ·unfold iE at h;split at h
      ·cases h
      ·split at h
       ·injection h with h;injection h with h _;subst h;exact⟨fun e=>absurd e (by decide),fun e=>absurd e (by decide)⟩
       ·cases h
     ·have hc:letter c=false:=by simpa using hl
      unfold lY at h;simp only at h;split at h
      ·injection h with h
       simp only[aT]at h;obtain⟨rfl,rfl,_⟩:=h;exact⟨fun e=>absurd e (by decide),fun _=>hc⟩
      ·split at h
       ·injection h with h
        simp only[aT]at h;obtain⟨rfl,rfl,_⟩:=h;exact⟨fun e=>absurd e (by decide),fun _=>hc⟩
       ·cases h
end Lex
namespace Lex
theorem GZ:∀(f:Nat) (l:List UInt8),l.length≤f→∀s x,gL l=some (s,x)→l.length=2*s.length+1+x.length:=by
 intro f;induction f with
 |zero=>
  intro l h s x hq;obtain rfl:l=[]:=aC (by omega);cases hq
 |succ f ih=>
  intro l h s x hq;match l,h with
  |[],_=>cases hq
  |[c],_=>
   simp only[gL]at hq;split at hq
   ·injection hq with hq
    injection hq with h1 h2
    subst h1 h2;rfl
   ·cases hq
  |c::d::l,h=>
   simp only[gL]at hq;split at hq
   ·injection hq with hq
    injection hq with h1 h2
    subst h1 h2;simp only[ab,ai];omega
   ·split at hq
    ·cases hl:gL l with
     |none=>rw[hl]at hq;cases hq
     |some p=>
      rw[hl]at hq;simp only[cg,bz,aT]at hq;obtain⟨rfl,rfl⟩:=hq;have:=ih l (by simp at h;omega) p.1 p.2 hl;simp only[ab];omega
    ·cases hq
theorem Ib:∀(f:Nat) (l:List UInt8),l.length≤f→∀s x,quote l=some (s,x)→l.length=(NF.quo s).length+1+x.length:=by
 intro f;induction f with
 |zero=>
  intro l h s x hq;obtain rfl:l=[]:=aC (by omega);cases hq
 |succ f ih=>
  intro l h s x hq;match l,h with
  |[],_=>cases hq
  |[c],_=>
   simp only[quote]at hq;split at hq
   ·injection hq with hq
    injection hq with h1 h2
    subst h1 h2;rfl
   ·cases hq
  |c::d::l,h=>
   simp only[quote]at hq;split at hq
   ·split at hq
    ·cases hl:quote l with
     |none=>rw[hl]at hq;cases hq
     |some p=>
      rw[hl]at hq;simp only[cg,bz,aT]at hq;obtain⟨rfl,rfl⟩:=hq;have:=ih l (by simp at h;omega) p.1 p.2 hl;rw[NF.rK,if_pos (by decide)];simp only[ah,ab,ai];omega
    ·injection hq with hq
     injection hq with h1 h2
     subst h1 h2;simp only[ab,NF.quo,List.flatMap_nil,ai];omega
   ·rename_i Q8;cases hl:quote (d::l)with
    |none=>rw[hl]at hq;cases hq
    |some p=>
     rw[hl]at hq;simp only[cg,bz,aT]at hq;obtain⟨rfl,rfl⟩:=hq;have:=ih (d::l) (by simp at h⊢;omega) p.1 p.2 hl;rw[NF.rK,if_neg Q8];simp only[ah,ab,ai]at this⊢;omega
theorem CO{l:List UInt8}{k:UInt8}{s:List UInt8}{n p:Nat}(h:token l=some (k,s,n)):I.Xj (k,s,p)∧I.src (k,s,p)≤n:=by
 have hk:=JA h;have Ru:k=2→mq s:=fun e=>by subst e;exact tV h
 have mk:(k=3→s.length≤200)→(k=4→s.length≤200)→I.src (k,s,p)≤n→I.Xj (k,s,p)∧I.src (k,s,p)≤n:=fun h3 h4 h=>⟨⟨hk.1,Ru,h3,h4⟩,h⟩
 have no3:∀{a:UInt8},a≠3→a=3→s.length≤200:=fun h e=>absurd e h
 cases l with
 |nil=>cases h
 |cons c r=>
  simp only[token]at h;split at h
  ·unfold jr at h;cases hp:gL ((c::r).drop 2)with
   |none=>rw[hp]at h;cases h
   |some q=>
    obtain⟨s',x⟩:=q;rw[hp]at h;simp only at h;have hz:=GZ _ _ (aa _) s' x hp;have hl:=tA _ _ (aa _) s' x hp;rw[aJ]at hz hl;split at h
    ·rename_i Q9;injection h with h
     simp only[aT]at h;obtain⟨h1,h2,h3⟩:=h;subst h1 h2 h3;refine mk (fun e=>absurd e (by decide)) (fun _=>Q9) ?_;show 2*s'.length+3≤_;simp only[ab]at hz hl⊢;omega
    ·cases h
  ·split at h
   ·unfold me at h;split at h
    ·injection h with h
     simp only[aT]at h;obtain⟨h1,h2,h3⟩:=h;subst h1 h2 h3;refine mk (fun e=>absurd e (by decide)) (fun e=>absurd e (by decide)) ?_;show(List.take _ _).length≤_;rw[aP];omega
    ·cases h
   ·split at h
    ·unfold gN at h;split at h
     ·cases h
     ·split at h
      ·split at h
       ·cases h
       ·injection h with h
        simp only[aT]at h;obtain⟨h1,h2,h3⟩:=h;subst h1 h2 h3;refine mk (fun e=>absurd e (by decide)) (fun e=>absurd e (by decide)) ?_;show(List.take _ _).length≤_;rw[aP];omega
      ·injection h with h
       simp only[aT]at h;obtain⟨h1,h2,h3⟩:=h;subst h1 h2 h3;refine mk (fun e=>absurd e (by decide)) (fun e=>absurd e (by decide)) ?_;show(List.take _ _).length≤_;rw[aP];omega
    ·split at h
     ·unfold iE at h;simp only[List.drop_succ_cons,List.drop_zero]at h;cases hp:quote r with
      |none=>rw[hp]at h;cases h
      |some q=>
       obtain⟨s',x⟩:=q;rw[hp]at h;simp only at h;have hz:=Ib _ _ (aa _) s' x hp;split at h
       ·rename_i Q9;injection h with h
        simp only[aT]at h;obtain⟨h1,h2,h3⟩:=h;subst h1 h2 h3;refine mk (fun _=>Q9) (fun e=>absurd e (by decide)) ?_;show(NF.quo s').length+2≤_;simp only[ab];omega
       ·cases h
     ·unfold lY at h;simp only at h;split at h
      ·injection h with h
       simp only[aT]at h;obtain⟨h1,h2,h3⟩:=h;subst h1 h2 h3;refine mk (fun e=>absurd e (by decide)) (fun e=>absurd e (by decide)) ?_;show(List.take _ _).length≤_;rw[aP];omega
      ·split at h
       ·injection h with h
        simp only[aT]at h;obtain⟨h1,h2,h3⟩:=h;subst h1 h2 h3;refine mk (fun e=>absurd e (by decide)) (fun e=>absurd e (by decide)) ?_;show(List.take _ _).length≤_;rw[aP];omega
       ·cases h
theorem Hg:∀(f a:Nat) (l:List UInt8) (ts:List Tok),fy f a l=.ok ts→(∀t∈ts,I.Xj t)∧I.wt ts≤6*l.length:=by
 intro f;induction f with
 |zero=>
  intro a l ts h;simp only[fy]at h;injection h with h
  subst h;exact⟨fun t h=>(by cases h),ao _⟩
 |succ f ih=>
  intro a l ts h;simp only[fy]at h;have hsl:=kY l false;cases hs:skip false l with
  |nil=>
   rw[hs]at h;injection h with h
   subst h;exact⟨fun t h=>(by cases h),ao _⟩
  |cons c r=>
   rw[hs]at h hsl;simp only at h;cases ht:token (c::r)with
   |none=>rw[ht]at h;cases h
   |some t=>
    obtain⟨k,s,m⟩:=t;rw[ht]at h;simp only at h;have hlen:=iX ht;cases hr:fy f (a+(l.length-(c::r).length)+m) ((c::r).drop m)with
    |error e=>rw[hr]at h;cases h
    |ok ts'=>
     rw[hr]at h;injection h with h
     subst h;obtain⟨i1,i2⟩:=ih _ _ _ hr;obtain⟨j1,j2⟩:=CO (p:=a+(l.length-(c::r).length)) ht;rw[aJ]at i2;refine⟨fun t hm=>?_,?_⟩
     ·rcases af.1 hm with rfl|hm
      ·exact j1
      ·exact i1 t hm
     ·rw[I.mI];omega
theorem Ge(l:List UInt8):(∀t∈(told l).1,I.Xj t)∧I.wt (told l).1≤6*l.length:=by
 unfold told tokens;by_cases h:4096<l.length
 ·rw[if_pos h];exact⟨fun t h=>(by cases h),ao _⟩
 ·rw[if_neg h];cases hr:fy (l.length+1) 0 l with
  |error e=>exact⟨fun t h=>(by cases h),ao _⟩
  |ok ts=>exact Hg _ _ _ _ hr
end Lex
theorem I.zF{text:I.Bs}(h:(I.parse text).2.1=0):(Lex.told text).2.1=0∧(I.run text.length (Lex.told text).1).2.e=0∧(I.run text.length (Lex.told text).1).2.d=false∧I.parse text=((I.run text.length (Lex.told text).1).1,0,0):=by
 unfold I.parse at h⊢;by_cases h1:(Lex.told text).2.1≠0
 ·rw[if_pos h1]at h;exact absurd h h1
 ·rw[if_neg h1]at h⊢;by_cases h2:(I.run text.length (Lex.told text).1).2.e≠0
  ·rw[if_pos h2]at h;exact absurd h h2
  ·rw[if_neg h2]at h⊢;by_cases h3:(I.run text.length (Lex.told text).1).2.d=true
   ·rw[if_pos h3]at h;exact absurd h (by decide)
   ·rw[if_neg h3];exact⟨by omega,by omega,by simpa using h3,rfl⟩
theorem I.qp{text:I.Bs}(h:(I.parse text).2.1=0):I.Pu (I.parse text).1∧I.sz (I.pS (I.parse text).1)≤6*text.length+100:=by
 obtain⟨h1,h2,h3,h4⟩:=I.zF h;obtain⟨s1,s2⟩:=Lex.Ge text;obtain⟨g1,g2⟩:=I.Nv s1 h2 h3;rw[h4];exact⟨g1,by dsimp only;omega⟩
end Go.Proofs.YtnicfobpclehkaaGreatDoor
