import Derived.Test.YtnicfobpclehkaaGreatDoorP34
set_option maxHeartbeats 200000
set_option linter.unusedVariables false
set_option linter.unusedSimpArgs false
namespace Go.Proofs.YtnicfobpclehkaaGreatDoor
section
namespace I
open Ev (Ex Hd)
open Lex (bare)
def Rs{α:Type}(f:St→α×St)(stops:List Bs)(l:List BT)(x:α):Prop:=∀(st:St) (rest:List BT),bare st.r=l++rest→(∀w∈stops,eQ w rest=false)→f st=(x,NO l.length st)
section
variable{T:Nat}{st:St}{rest:List BT}{t:BT}{s:Bs}
theorem Oq(h:bare st.r=t::rest):bare (NO 1 st).r=rest:=by rw[iw,h];rfl
theorem br2{u:BT}(h:bare st.r=t::u::rest):bare (NO 2 st).r=rest:=by rw[iw,h];rfl
theorem gd(h:bare st.r=t::rest)(ht:dW s t=true):dh s st=true:=by rw[eg,h];exact ht
theorem gH(h:bare st.r=rest)(ht:eQ s rest=false):¬dh s st=true:=by rw[eg,h,ht];decide
theorem vd{s2:Bs}{u:BT}(hb:bare st.r=t::u::rest)(ht:dW s t=true)(hu:dW s2 u=true):expect T [s,s2] st=NO 2 st:=
 pP (ts:=[t,u]) hb rfl fun i a b h1 h2=>by
  match i,h1,h2 with
  |0,h1,h2=>injection h1 with h1;injection h2 with h2;rw[←h1,←h2];exact ht
  |1,h1,h2=>injection h1 with h1;injection h2 with h2;rw[←h1,←h2];exact hu
theorem EM(w:Bs):dW w (wd w)=true:=by unfold dW wd;simp
theorem eV{n m:Nat}{α:Type}{x:α}(h:n=m):(x,NO n st)=(x,NO m st):=by rw[h]
end
theorem jI(T:Nat){e:Ex}(h:QW e):Rs (expr T) So (bE e) e:=fun st rest hb hs=>CX T h (N:=st.r.length+1) st rest (bw _) hb hs
def bC{α:Type}(b:α→List BT):List α→List BT
 |[]=>[]
 |x::ys=>b x++ys.flatMap fun y=>sg [44]::b y
theorem CW{α:Type}{T most:Nat}{one:St→α×St}{S:List Bs}{b:α→List BT}(hS:∀w∈S,dW w (sg [44])=false):∀(ys:List α) (f:Nat) (l:List α) (st:St) (rest:List BT),(∀y∈ys,Rs one S (b y) y)→st.r.length<f→l.length+ys.length≤most→bare st.r=(ys.flatMap fun y=>sg [44]::b y)++rest→(∀w∈S,eQ w rest=false)→eQ [44] rest=false→more T most one f l st=(l++ys,NO (ys.flatMap fun y=>sg [44]::b y).length st):=by
 intro ys;induction ys with
 |nil=>
  intro f l st rest _ hf _ hb _ hc;obtain⟨f,rfl⟩:∃g,f=g+1:=⟨f-1,by omega⟩;unfold more;rw[if_neg (gH hb hc),bF];rfl
 |cons y ys ih=>
  intro f l st rest ho hf hm hb hs hc;obtain⟨f,rfl⟩:∃g,f=g+1:=⟨f-1,by omega⟩;rw[List.flatMap_cons]at hb⊢;have hb0:bare st.r=sg [44]::(b y++((ys.flatMap fun y=>sg [44]::b y)++rest)):=by rw[hb];simp
  have hb1:=fU hb0;have hst:∀w∈S,eQ w ((ys.flatMap fun y=>sg [44]::b y)++rest)=false:=by
   intro w hw;cases ys with
   |nil=>exact hs w hw
   |cons z zs=>exact hS w hw
  have hone:=ho y ag (next st) _ hb1 hst;have hl1:1≤st.r.length:=by rw[←iv,hb0];simp
  have hl2:(next st).r.length=st.r.length-1:=by rw[dn,lj]
  unfold more;rw[if_pos (gd hb0 (by decide)),if_neg (by simp only[ab]at hm;omega),hone];dsimp only;rw[ih f (l++[y]) _ rest (fun z hz=>ho z (au _ hz)) (by rw[lj];omega) (by simp only[ah,ab,ai]at hm⊢;omega) (dt hb1) hs hc,dn,cV,cV,aX];exact eV (by simp only[ah,ab];omega)
theorem kn{α:Type}{T most:Nat}{one:St→α×St}{S:List Bs}{b:α→List BT}{xs:List α}(hS:∀w∈S,dW w (sg [44])=false)(ho:∀y∈xs,Rs one S (b y) y)(hx:xs≠[])(hm:xs.length≤most):Rs (list T most one) (S++[[44]]) (bC b xs) xs:=by
 intro st rest hb hs;cases xs with
 |nil=>exact absurd rfl hx
 |cons x ys=>
  unfold bC at hb⊢;have hb0:bare st.r=b x++((ys.flatMap fun y=>sg [44]::b y)++rest):=by rw[hb];simp
  have hst:∀w∈S,eQ w ((ys.flatMap fun y=>sg [44]::b y)++rest)=false:=by
   intro w hw;cases ys with
   |nil=>exact hs w (aM.2 (.inl hw))
   |cons z zs=>exact hS w hw
  unfold list;rw[ho x ag st _ hb0 hst];dsimp only;rw[CW hS ys _ [x] _ rest (fun z hz=>ho z (au _ hz)) (bw _) (by simp only[ab,ai]at hm⊢;omega) (dt hb0) (fun w hw=>hs w (aM.2 (.inl hw))) (hs _ (by simp)),cV];exact eV (by simp only[ah])
theorem mN{α:Type}{T:Nat}{part:St→α×St}{S:List Bs}{l:List BT}{x:α}(h:Rs part S l x)(hS:∀w∈S,dW w (sg [41])=false):Rs (inside T part) [] (sg [40]::(l++[sg [41]])) x:=by
 intro st rest hb _;have hb1:bare st.r=sg [40]::(l++sg [41]::rest):=by rw[hb];simp
 have hb2:=Oq hb1;unfold inside;rw[dN hb1 (by decide),h _ _ hb2 fun w hw=>hS w hw];dsimp only;rw[dN (dt hb2) (by decide),cV,cV];exact eV (by simp only[ah,ab,ai];omega)
def oY(l:List Ex):List BT:=sg [40]::(bC bE l++[sg [41]])
theorem rQ:∀w∈So,dW w (sg [44])=false:=by decide
theorem CP:∀w∈So++[[44]],dW w (sg [41])=false:=by decide
theorem EW(T:Nat){l:List Ex}(h:yb l):Rs (row T) [] (oY l) l:=mN (kn rQ (fun y hy=>jI T (h.2.2 y hy)) h.1 h.2.1) CP
theorem jL{T:Nat}{w:Bs}{st:St}{rest:List BT}(hb:bare st.r=wd w::rest):∀(l:List Bs) (i k:Nat),l.findIdx? (fun s=>dW s (wd w))=some k→choose T i l st=(i+k,NO 1 st):=by
 intro l;induction l with
 |nil=>intro i k h;cases h
 |cons s l ih=>
  intro i k h;rw[List.findIdx?_cons]at h;unfold choose;cases hs:dW s (wd w)with
  |true=>
   rw[hs,if_pos rfl]at h;injection h with h
   subst h;rw[if_pos (gd hb hs),dn];rfl
  |false=>
   rw[hs,if_neg (by decide)]at h;obtain⟨j,hj,e⟩:=cr.1 h;subst e;rw[if_neg (gH hb hs),ih (i+1) j hj];exact congrArg (fun n=>(n,NO 1 st)) (by omega)
def TQ(a:UInt8):List BT:=if a.toNat=1 then [wd [111,110],wd [100,101,108,101,116,101],wd [99,97,115,99,97,100,101]]else if a.toNat=2 then [wd [111,110],wd [100,101,108,101,116,101],wd [115,101,116],wd [110,117,108,108]]else []
theorem Cl(T:Nat){a:UInt8}(h:a.toNat≤2):Rs (action T) [[111,110]] (TQ a) a:=by
 have hn:a=0∨a=1∨a=2:=by
  have:a.toNat=0∨a.toNat=1∨a.toNat=2:=by omega
  rcases this with e|e|e
  ·exact .inl (aF.1 e)
  ·exact .inr (.inl (aF.1 e))
  ·exact .inr (.inr (aF.1 e))
 intro st rest hb hs;rcases hn with rfl|rfl|rfl
 ·unfold action;rw[if_neg (gH (rest:=rest) hb (hs _ (by simp)))];rfl
 ·have hb0:bare st.r=wd [111,110]::wd [100,101,108,101,116,101]::wd [99,97,115,99,97,100,101]::rest:=hb;have hb1:=Oq hb0;have hb2:=Oq hb1;unfold action;rw[if_pos (gd hb0 (by decide)),dn,dN hb1 (by decide),jL hb2 _ 0 1 (by decide)];dsimp only;rw[if_neg (by decide),if_pos (by decide),cV,cV];rfl
 ·have hb0:bare st.r=wd [111,110]::wd [100,101,108,101,116,101]::wd [115,101,116]::wd [110,117,108,108]::rest:=hb;have hb1:=Oq hb0;have hb2:=Oq hb1;have hb3:=Oq hb2;unfold action;rw[if_pos (gd hb0 (by decide)),dn,dN hb1 (by decide),jL hb2 _ 0 2 (by decide)];dsimp only;rw[if_pos (by decide),dN hb3 (by decide),cV,cV,cV];rfl
def Vs(l:List Ex):List BT:=match l with
 |[]=>[]
 |e::_=>wd [99,104,101,99,107]::sg [40]::(bE e++[sg [41]])
def bB(b:Bool)(l:List BT):List BT:=if b=true then l else []
def bN(s:Bs)(l:List BT):List BT:=if s=[]then []else l
def zN(c:Oj):List BT:=wd c.nm::wd (SZ c.k)::(bB c.pr [wd [112,114,105,109,97,114,121],wd [107,101,121]]++(bB c.nn [wd [110,111,116],wd [110,117,108,108]]++(bB c.un [wd [117,110,105,113,117,101]]++(Vs c.ck++(bN c.rf [wd [114,101,102,101,114,101,110,99,101,115],wd c.rf]++TQ c.ac)))))
theorem qL{w:Bs}{t:BT}{b:Bool}{l rest:List BT}(h:dW w t=false)(hr:eQ w rest=false):eQ w (bB b (t::l)++rest)=false:=by
 cases b
 ·exact hr
 ·exact h
theorem se{w s:Bs}{t:BT}{l rest:List BT}(h:dW w t=false)(hr:eQ w rest=false):eQ w (bN s (t::l)++rest)=false:=by
 unfold bN;split
 ·exact hr
 ·exact h
theorem uu{w:Bs}{c:List Ex}{rest:List BT}(h:dW w (wd [99,104,101,99,107])=false)(hr:eQ w rest=false):eQ w (Vs c++rest)=false:=by
 cases c
 ·exact hr
 ·exact h
theorem qn{w:Bs}{a:UInt8}{rest:List BT}(h:dW w (wd [111,110])=false)(hr:eQ w rest=false):eQ w (TQ a++rest)=false:=by
 unfold TQ;split
 ·exact h
 ·split
  ·exact h
  ·exact hr
section
variable{T:Nat}{st:St}{rest:List BT}{c:Oj}
theorem BI{b:Bool}(hb:bare st.r=bB b [wd [112,114,105,109,97,114,121],wd [107,101,121]]++rest)(hr:eQ [112,114,105,109,97,114,121] rest=false):fW T c st=((if b=true then{c with pr:=true}else c),NO (bB b [wd [112,114,105,109,97,114,121],wd [107,101,121]]).length st):=by
 cases b with
 |false=>
  unfold fW;rw[if_neg (gH (rest:=rest) hb hr)];rfl
 |true=>
  have hb0:bare st.r=wd [112,114,105,109,97,114,121]::wd [107,101,121]::rest:=hb;unfold fW;rw[if_pos (gd hb0 (by decide)),dn,dN (Oq hb0) (by decide),cV];rfl
theorem CR{b:Bool}(hb:bare st.r=bB b [wd [110,111,116],wd [110,117,108,108]]++rest)(hr:eQ [110,111,116] rest=false):iu T c st=((if b=true then{c with nn:=true}else c),NO (bB b [wd [110,111,116],wd [110,117,108,108]]).length st):=by
 cases b with
 |false=>
  unfold iu;rw[if_neg (gH (rest:=rest) hb hr)];rfl
 |true=>
  have hb0:bare st.r=wd [110,111,116]::wd [110,117,108,108]::rest:=hb;unfold iu;rw[if_pos (gd hb0 (by decide)),dn,dN (Oq hb0) (by decide),cV];rfl
theorem Cb{b:Bool}(hb:bare st.r=bB b [wd [117,110,105,113,117,101]]++rest)(hr:eQ [117,110,105,113,117,101] rest=false):iM c st=((if b=true then{c with un:=true}else c),NO (bB b [wd [117,110,105,113,117,101]]).length st):=by
 cases b with
 |false=>
  unfold iM;rw[if_neg (gH (rest:=rest) hb hr)];rfl
 |true=>
  have hb0:bare st.r=wd [117,110,105,113,117,101]::rest:=hb;unfold iM;rw[if_pos (gd hb0 (by decide)),dn];rfl
theorem CJ{l:List Ex}(hl:QX l)(hc:c.ck=[])(hb:bare st.r=Vs l++rest)(hr:eQ [99,104,101,99,107] rest=false):kH T c st=({c with ck:=l},NO (Vs l).length st):=by
 rcases hl with rfl|⟨e,he,rfl⟩
 ·unfold kH;rw[if_neg (gH (rest:=rest) hb hr)];obtain⟨c1,c2,c3,c4,c5,c6,c7,c8⟩:=c;simp only at hc;subst hc;rfl
 ·have hb0:bare st.r=wd [99,104,101,99,107]::((sg [40]::(bE e++[sg [41]]))++rest):=hb;unfold kH;rw[if_pos (gd hb0 (by decide)),dn,mN (jI T he) (by decide) _ rest (Oq hb0) (by intro w hw;cases hw)];dsimp only;rw[cV];exact eV (by unfold Vs;simp only[ab];omega)
theorem DF{n:Bs}{a:UInt8}(h:(n=[]∧a=0)∨(NX n∧a.toNat≤2))(hc:c.rf=[]∧c.ac=0)(hb:bare st.r=bN n [wd [114,101,102,101,114,101,110,99,101,115],wd n]++(TQ a++rest))(hr:eQ [114,101,102,101,114,101,110,99,101,115] rest=false)(ho:eQ [111,110] rest=false):lF T c st=({c with rf:=n,ac:=a},NO (bN n [wd [114,101,102,101,114,101,110,99,101,115],wd n]++TQ a).length st):=by
 rcases h with⟨rfl,rfl⟩|⟨h1,h2⟩
 ·unfold lF;rw[if_neg (gH (rest:=rest) hb hr)];obtain⟨c1,c2,c3,c4,c5,c6,c7,c8⟩:=c;obtain⟨e1,e2⟩:=hc;simp only at e1 e2;subst e1 e2;rfl
 ·have e:bN n [wd [114,101,102,101,114,101,110,99,101,115],wd n]=[wd [114,101,102,101,114,101,110,99,101,115],wd n]:=if_neg h1.ne;rw[e]at hb⊢;have hb0:bare st.r=wd [114,101,102,101,114,101,110,99,101,115]::wd n::(TQ a++rest):=hb;have hb1:=Oq hb0;have hb2:=Oq hb1;unfold lF;rw[if_pos (gd hb0 (by decide)),dn,dB h1 hb1];dsimp only;rw[Cl T h2 _ rest hb2 fun w hw=>by simp at hw;rw[hw];exact ho];dsimp only;rw[cV,cV];exact eV (by simp only[ah,ab,ai];omega)
end
theorem GU{k:UInt8}(h:1≤k.toNat∧k.toNat≤5):∃i,([[105,110,116],[100,101,99],[98,111,111,108],[116,101,120,116],[98,121,116,101,115]]:List Bs).findIdx? (fun s=>dW s (wd (SZ k)))=some i∧kinds.getD i 0=k:=by
 have:k.toNat=1∨k.toNat=2∨k.toNat=3∨k.toNat=4∨k.toNat=5:=by omega
 rcases this with e|e|e|e|e
 ·obtain rfl:k=1:=aF.1 e;exact⟨2,by decide,by decide⟩
 ·obtain rfl:k=2:=aF.1 e;exact⟨0,by decide,by decide⟩
 ·obtain rfl:k=3:=aF.1 e;exact⟨1,by decide,by decide⟩
 ·obtain rfl:k=4:=aF.1 e;exact⟨3,by decide,by decide⟩
 ·obtain rfl:k=5:=aF.1 e;exact⟨4,by decide,by decide⟩
def Nk:List Bs:=[[112,114,105,109,97,114,121],[110,111,116],[117,110,105,113,117,101],[99,104,101,99,107],[114,101,102,101,114,101,110,99,101,115],[111,110]]
theorem DE(T:Nat){c:Oj}(h:Am c):Rs (column T) Nk (zN c) c:=by
 intro st rest hb hs;obtain⟨nm,k,pr,nn,un,ck,rf,ac⟩:=c;obtain⟨g1,g2,g3,g4⟩:=h;simp only at g1 g2 g3 g4;have s1:=hs [112,114,105,109,97,114,121] (by decide);have s2:=hs [110,111,116] (by decide);have s3:=hs [117,110,105,113,117,101] (by decide);have s4:=hs [99,104,101,99,107] (by decide);have s5:=hs [114,101,102,101,114,101,110,99,101,115] (by decide);have s6:=hs [111,110] (by decide);obtain⟨i,hi,hk⟩:=GU g2;unfold zN at hb⊢;simp only at hb⊢;have hb0:bare st.r=wd nm::wd (SZ k)::(bB pr [wd [112,114,105,109,97,114,121],wd [107,101,121]]++(bB nn [wd [110,111,116],wd [110,117,108,108]]++(bB un [wd [117,110,105,113,117,101]]++(Vs ck++(bN rf [wd [114,101,102,101,114,101,110,99,101,115],wd rf]++(TQ ac++rest)))))):=by rw[hb];simp
 have hb1:=Oq hb0;have hb2:=Oq hb1;have e0:fp T st=(⟨nm,k,false,false,false,[],[],0⟩,NO 1 (NO 1 st)):=by unfold fp;rw[dB g1 hb0];dsimp only;rw[jL hb1 _ 0 i hi];dsimp only;rw[Nat.zero_add,hk]
 have eA:=BI (T:=T) (c:=⟨nm,k,false,false,false,[],[],0⟩) (b:=pr) hb2 (qL (by decide) (qL (by decide) (uu (by decide) (se (by decide) (qn (by decide) s1)))));have hb3:=dt hb2;have eB:=fun c=>CR (T:=T) (c:=c) (b:=nn) hb3 (qL (by decide) (uu (by decide) (se (by decide) (qn (by decide) s2))))
 have hb4:=dt hb3;have eC:=fun c=>Cb (c:=c) (b:=un) hb4 (uu (by decide) (se (by decide) (qn (by decide) s3)))
 have hb5:=dt hb4;have eD:=fun c hc=>CJ (T:=T) (c:=c) g3 hc hb5 (se (by decide) (qn (by decide) s4))
 have hb6:=dt hb5;have eE:=fun c hc=>DF (T:=T) (c:=c) g4 hc hb6 s5 s6
 unfold column;rw[e0];dsimp only;rw[eA];dsimp only;rw[eB];dsimp only;rw[eC];dsimp only;rw[eD _ (by cases pr<;>cases nn<;>cases un<;>rfl)];dsimp only;rw[eE _ (by cases pr<;>cases nn<;>cases un<;>exact⟨rfl,rfl⟩)];simp only[cV];have hx:∀a b:Nat,a=b→((⟨nm,k,pr,nn,un,ck,rf,ac⟩:Oj),NO a st)=(⟨nm,k,pr,nn,un,ck,rf,ac⟩,NO b st):=fun a b e=>by rw[e]
 refine Eq.trans ?_ (hx _ _ (show 1+1+(bB pr [wd [112,114,105,109,97,114,121],wd [107,101,121]]).length+(bB nn [wd [110,111,116],wd [110,117,108,108]]).length+(bB un [wd [117,110,105,113,117,101]]).length+(Vs ck).length+(bN rf [wd [114,101,102,101,114,101,110,99,101,115],wd rf]++TQ ac).length=_ by simp only[ah,ab];omega));refine Prod.ext ?_ rfl;cases pr<;>cases nn<;>cases un<;>rfl
def Wt(i:Qq):List BT:=bE i.x++bN i.nm [wd [97,115],wd i.nm]
theorem oW{w:Bs}{S:List Bs}(h:w∈So):w∈So++S:=aM.2 (.inl h)
theorem Ir(T:Nat){i:Qq}(h:Ws i):Rs (item T) (So++[[97,115]]) (Wt i) i:=by
 intro st rest hb hs;obtain⟨x,nm⟩:=i;obtain⟨h1,h2⟩:=h;unfold Wt at hb⊢;simp only at h1 h2 hb⊢;have hb0:bare st.r=bE x++(bN nm [wd [97,115],wd nm]++rest):=by rw[hb];simp
 have hb1:=dt hb0;unfold item;rw[jI T h1 st _ hb0 fun w hw=>se ((by decide:∀w∈So,dW w (wd [97,115])=false) w hw) (hs w (oW hw))];dsimp only;rcases h2 with rfl|h2
 ·rw[if_neg (gH (rest:=rest) hb1 (hs _ (by simp)))];exact eV (by simp[bN])
 ·have e:bN nm [wd [97,115],wd nm]=[wd [97,115],wd nm]:=if_neg h2.ne;rw[e]at hb1⊢;have hb2:bare (NO (bE x).length st).r=wd [97,115]::wd nm::rest:=hb1;rw[if_pos (gd hb2 (by decide)),dn,dB h2 (Oq hb2)];dsimp only;rw[cV,cV];exact eV (by simp only[ah,ab,ai])
def jl(s:Src):List BT:=wd s.nm::bN s.al [wd [97,115],wd s.al]
theorem sR(T:Nat){s:Src}(h:sE s):Rs (source T) [[97,115]] (jl s) {s with on:=[]}:=by
 intro st rest hb hs;obtain⟨nm,al,on⟩:=s;obtain⟨h1,h2⟩:=h;unfold jl at hb⊢;simp only at h1 h2 hb⊢;have hb0:bare st.r=wd nm::(bN al [wd [97,115],wd al]++rest):=by rw[hb];simp
 have hb1:=Oq hb0;unfold source;rw[dB h1 hb0];dsimp only;rcases h2 with rfl|h2
 ·rw[if_neg (gH (rest:=rest) hb1 (hs _ (by simp)))];exact eV (by simp[bN])
 ·have e:bN al [wd [97,115],wd al]=[wd [97,115],wd al]:=if_neg h2.ne;rw[e]at hb1⊢;have hb2:bare (NO 1 st).r=wd [97,115]::wd al::rest:=hb1;rw[if_pos (gd hb2 (by decide)),dn,dB h2 (Oq hb2)];dsimp only;rw[cV,cV];rfl
def Wu(o:Ord):List BT:=bE o.x++bB o.ds [wd [100,101,115,99]]
theorem Gi(T:Nat){o:Ord}(h:TM o):Rs (order T) (So++[[97,115,99],[100,101,115,99]]) (Wu o) o:=by
 intro st rest hb hs;obtain⟨x,ds⟩:=o;unfold TM at h;unfold Wu at hb⊢;simp only at h hb⊢;have hb0:bare st.r=bE x++(bB ds [wd [100,101,115,99]]++rest):=by rw[hb];simp
 have hb1:=dt hb0;unfold order;rw[jI T h st _ hb0 fun w hw=>qL ((by decide:∀w∈So,dW w (wd [100,101,115,99])=false) w hw) (hs w (oW hw))];dsimp only;rw[if_neg (gH hb1 (qL (by decide) (hs _ (by simp))))];cases ds with
 |false=>
  rw[if_neg (gH (rest:=rest) hb1 (hs _ (by simp)))];exact eV (by simp[bB])
 |true=>
  have hb2:bare (NO (bE x).length st).r=wd [100,101,115,99]::rest:=hb1;rw[if_pos (gd hb2 (by decide)),dn,cV];exact eV (by simp[bB])
def yN(s:OI):List BT:=wd s.nm::sg [61]::bE s.x
theorem Iv(T:Nat){s:OI}(h:Cv s):Rs (ny T) So (yN s) s:=by
 intro st rest hb hs;obtain⟨nm,x⟩:=s;obtain⟨h1,h2⟩:=h;unfold yN at hb⊢;simp only at h1 h2 hb⊢;have hb0:bare st.r=wd nm::sg [61]::(bE x++rest):=hb;have hb1:=Oq hb0;have hb2:=Oq hb1;unfold ny;rw[dB h1 hb0];dsimp only;rw[dN hb1 (by decide),jI T h2 _ rest hb2 hs];dsimp only;rw[cV,cV];exact eV (by simp only[ab];omega)
def Zh(p:UInt8):List BT:=[wd (word ((p.toNat:Int)-1) [[115,101,108,101,99,116],[105,110,115,101,114,116],[117,112,100,97,116,101],[100,101,108,101,116,101]])]
theorem Kv(T:Nat){p:UInt8}(h:Uk p):Rs (lH T) [] (Zh p) p:=by
 intro st rest hb _;have:p.toNat=1∨p.toNat=2∨p.toNat=3∨p.toNat=4:=by have:=h.1;have:=h.2;omega
 have key:∀i w,Zh p=[wd w]→([[115,101,108,101,99,116],[105,110,115,101,114,116],[117,112,100,97,116,101],[100,101,108,101,116,101]]:List Bs).findIdx? (fun s=>dW s (wd w))=some i→UInt8.ofNat (i+1)=p→lH T st=(p,NO (Zh p).length st):=by intro i w e hi hp;rw[e]at hb⊢;have hb0:bare st.r=wd w::rest:=hb;unfold lH;rw[jL hb0 _ 0 i hi];dsimp only;rw[Nat.zero_add,hp];rfl
 rcases this with e|e|e|e
 ·obtain rfl:p=1:=aF.1 e;exact key 0 [115,101,108,101,99,116] (by decide) (by decide) (by decide)
 ·obtain rfl:p=2:=aF.1 e;exact key 1 [105,110,115,101,114,116] (by decide) (by decide) (by decide)
 ·obtain rfl:p=3:=aF.1 e;exact key 2 [117,112,100,97,116,101] (by decide) (by decide) (by decide)
 ·obtain rfl:p=4:=aF.1 e;exact key 3 [100,101,108,101,116,101] (by decide) (by decide) (by decide)
def pd(l:List UInt8):List BT:=bC Zh l
theorem Bz{p:UInt8}(h:Uk p):dW [97,108,108] (wd (word ((p.toNat:Int)-1) [[115,101,108,101,99,116],[105,110,115,101,114,116],[117,112,100,97,116,101],[100,101,108,101,116,101]]))=false∧Lex.fJ (word ((p.toNat:Int)-1) [[115,101,108,101,99,116],[105,110,115,101,114,116],[117,112,100,97,116,101],[100,101,108,101,116,101]])=true:=by
 have:p.toNat=1∨p.toNat=2∨p.toNat=3∨p.toNat=4:=by have:=h.1;have:=h.2;omega
 rcases this with e|e|e|e<;>rw[e]<;>exact⟨by decide,iR _ (by decide)⟩
theorem GN(T:Nat){l:List UInt8}(h:uV l):Rs (fi T) [[44]] (pd l) l:=by
 intro st rest hb hs;unfold fi;obtain⟨p,r,e⟩:∃p r,l=p::r:=by
  cases l with
  |nil=>exact absurd rfl h.1
  |cons p r=>exact⟨p,r,rfl⟩
 have hp:Uk p:=h.2.2 p (by rw[e];simp);rw[if_neg (gH (rest:=pd l++rest) hb (by rw[e];exact(Bz hp).1))];exact kn (S:=[]) (b:=Zh) (by intro w hw;cases hw) (fun y hy=>Kv T (h.2.2 y hy)) h.1 h.2.1 st rest hb hs
def RO(w:Bs)(l:List Ex):List BT:=match l with
 |[]=>[]
 |e::_=>wd w::bE e
theorem AU{w v:Bs}{l:List Ex}{rest:List BT}(h:dW w (wd v)=false)(hr:eQ w rest=false):eQ w (RO v l++rest)=false:=by
 cases l
 ·exact hr
 ·exact h
theorem qG(T:Nat){l:List Ex}(h:QX l):Rs (fV T) (So++[[119,104,101,114,101]]) (RO [119,104,101,114,101] l) l:=by
 intro st rest hb hs;unfold fV;rcases h with rfl|⟨e,he,rfl⟩
 ·rw[if_neg (gH (rest:=rest) hb (hs _ (by simp)))];rfl
 ·have hb0:bare st.r=wd [119,104,101,114,101]::(bE e++rest):=hb;rw[if_pos (gd hb0 (by decide)),dn,jI T he _ rest (Oq hb0) fun w hw=>hs w (oW hw)];dsimp only;rw[cV];exact eV (by unfold RO;simp only[ab];omega)
def bJ(l:List Src):List BT:=l.flatMap fun s=>wd [106,111,105,110]::(jl s++RO [111,110] s.on)
theorem Aj(T:Nat):∀(r:List Src) (f:Nat) (l:List Src) (st:St) (rest:List BT),(∀x∈r,sE x∧∃e,QW e∧x.on=[e])→st.r.length<f→l.length+r.length≤17→bare st.r=bJ r++rest→(∀w∈So,eQ w rest=false)→eQ [106,111,105,110] rest=false→ek T f l st=(l++r,NO (bJ r).length st,false):=by
 intro r;induction r with
 |nil=>
  intro f l st rest _ hf _ hb _ hj;obtain⟨f,rfl⟩:∃g,f=g+1:=⟨f-1,by omega⟩;unfold ek;rw[if_neg (gH (rest:=rest) hb hj),bF];rfl
 |cons x r ih=>
  intro f l st rest hx hf hm hb hs hj;obtain⟨f,rfl⟩:∃g,f=g+1:=⟨f-1,by omega⟩;obtain⟨hg,e,he,hon⟩:=hx x ag;have eb:bJ (x::r)=wd [106,111,105,110]::(jl x++wd [111,110]::(bE e++bJ r)):=by show(wd [106,111,105,110]::(jl x++RO [111,110] x.on))++bJ r=_;rw[hon];show(wd [106,111,105,110]::(jl x++wd [111,110]::bE e))++bJ r=_;simp
  rw[eb]at hb⊢;have hb0:bare st.r=wd [106,111,105,110]::(jl x++(wd [111,110]::(bE e++(bJ r++rest)))):=by rw[hb];simp
  have hb1:=Oq hb0;have hb2:=dt hb1;have hb3:=Oq hb2;have hb4:=dt hb3;have hl1:1≤st.r.length:=by rw[←iv,hb0];simp
  unfold ek;rw[if_pos (gd hb0 (by decide)),if_neg (by simp only[ab]at hm;omega),dn,sR T hg _ _ hb1 (by intro w hw;simp at hw;rw[hw];rfl)];dsimp only;rw[dN hb2 (by decide),jI T he _ _ hb3 fun w hw=>by
   cases r with
   |nil=>exact hs w hw
   |cons z zs=>exact(by decide:∀w∈So,dW w (wd [106,111,105,110])=false) w hw]
  dsimp only;rw[ih f _ _ rest (fun z hz=>hx z (List.mem_cons_of_mem _ hz)) (by simp only[lj];omega) (by simp only[ah,ab,ai]at hm⊢;omega) hb4 hs hj];simp only[cV];have ex:({x with on:=[e]}:Src)=x:=by obtain⟨a,b,c⟩:=x;simp only at hon;rw[hon]
  have e1:(l++[({x with on:=[e]}:Src)])++r=l++x::r:=by rw[ex];simp
  have e2:1+(jl x).length+1+(bE e).length+(bJ r).length=(wd [106,111,105,110]::(jl x++wd [111,110]::(bE e++bJ r))).length:=by simp only[ah,ab];omega
  rw[←e2];exact congrArg (fun q=>(q,NO _ st,false)) e1
def Vt(l:List Ex):List BT:=if l=[]then []else wd [103,114,111,117,112]::wd [98,121]::bC bE l
def Vu(l:List Ord):List BT:=if l=[]then []else wd [111,114,100,101,114]::wd [98,121]::bC Wu l
def vW(n:Int):List BT:=if n= -1 then []else [wd [108,105,109,105,116],(2,Go.Lib.itoa n)]
def lK(q:NS):List BT:=if q.all=true then [sg [42]]else bC Wt q.its
def bFr(l:List Src):List BT:=match l with
 |[]=>[]
 |s::r=>jl s++bJ r
def UO(q:NS):List BT:=RO [119,104,101,114,101] q.wh++(Vt q.gr++(Vu q.od++vW q.lim))
def lQ(q:NS):List BT:=lK q++wd [102,114,111,109]::(bFr q.fr++UO q)
theorem J6(T:Nat){q:NS}{l:List Ex}(hq:q.gr=[])(h:l=[]∨LG QW 16 l):Rs (nR T q) (So++[[44],[103,114,111,117,112]]) (Vt l) {q with gr:=l}:=by
 intro st rest hb hs;unfold nR;by_cases h0:l=[]
 ·subst h0;rw[if_neg (gH (rest:=rest) hb (hs _ (by simp)))];obtain⟨q1,q2,q3,q4,q5,q6,q7⟩:=q;simp only at hq;subst hq;rfl
 ·have hg:=h.resolve_left h0;have e:Vt l=wd [103,114,111,117,112]::wd [98,121]::bC bE l:=if_neg h0;rw[e]at hb⊢;have hb0:bare st.r=wd [103,114,111,117,112]::wd [98,121]::(bC bE l++rest):=hb;have hb1:=Oq hb0;rw[if_pos (gd hb0 (by decide)),dn,dN hb1 (by decide),kn (T:=T) (most:=16) (b:=bE) rQ (fun y hy=>jI T (hg.2.2 y hy)) hg.1 hg.2.1 _ rest (Oq hb1) fun w hw=>by
   rcases aM.1 hw with hw|hw
   ·exact hs w (oW hw)
   ·simp at hw;rw[hw];exact hs _ (by simp)]
  dsimp only;rw[cV,cV];exact eV (by simp only[ab];omega)
theorem Kb(T:Nat){q:NS}{l:List Ord}(hq:q.od=[])(h:l=[]∨LG TM 16 l):Rs (nN T q) (So++[[44],[111,114,100,101,114],[97,115,99],[100,101,115,99]]) (Vu l) {q with od:=l}:=by
 intro st rest hb hs;unfold nN;by_cases h0:l=[]
 ·subst h0;rw[if_neg (gH (rest:=rest) hb (hs _ (by simp)))];obtain⟨q1,q2,q3,q4,q5,q6,q7⟩:=q;simp only at hq;subst hq;rfl
 ·have hg:=h.resolve_left h0;have e:Vu l=wd [111,114,100,101,114]::wd [98,121]::bC Wu l:=if_neg h0;rw[e]at hb⊢;have hb0:bare st.r=wd [111,114,100,101,114]::wd [98,121]::(bC Wu l++rest):=hb;have hb1:=Oq hb0;rw[if_pos (gd hb0 (by decide)),dn,dN hb1 (by decide),kn (T:=T) (most:=16) (S:=So++[[97,115,99],[100,101,115,99]]) (b:=Wu) (by decide) (fun y hy=>Gi T (hg.2.2 y hy)) hg.1 hg.2.1 _ rest (Oq hb1) fun w hw=>by
   rcases aM.1 hw with hw|hw
   ·rcases aM.1 hw with hw|hw
    ·exact hs w (oW hw)
    ·simp at hw;rcases hw with rfl|rfl<;>exact hs _ (by simp)
   ·simp at hw;rw[hw];exact hs _ (by simp)]
  dsimp only;rw[cV,cV];exact eV (by simp only[ab];omega)
theorem Cz{n:Nat}(h:n≤1000000):kh (Go.Lib.itoa (n:Int))=((n:Int),0):=by
 have e2:Go.Lib.itoa (n:Int)=Go.Lib.decDigits n:=(jB n);have hd:=kI n;rw[e2];have hc:cut (Go.Lib.decDigits n)=(Go.Lib.decDigits n,none):=Ml _ fun c hc=>lU (hd c hc)
 unfold kh;rw[hc,if_pos rfl];unfold fR;rw[oQ,NF.oZ,if_pos (by omega)]
theorem Kk(T:Nat){q:NS}{n:Int}(hq:q.lim= -1)(h:n= -1∨As n):Rs (nz T q) [[108,105,109,105,116]] (vW n) {q with lim:=n}:=by
 intro st rest hb hs;unfold nz;by_cases h0:n= -1
 ·subst h0;rw[if_neg (gH (rest:=rest) hb (hs _ (by simp)))];obtain⟨q1,q2,q3,q4,q5,q6,q7⟩:=q;simp only at hq;subst hq;rfl
 ·have hg:=h.resolve_left h0;obtain⟨m,rfl⟩:∃m:Nat,n=(m:Int):=⟨n.toNat,by have:=hg.1;omega⟩;have e:vW (m:Int)=[wd [108,105,109,105,116],(2,Go.Lib.itoa (m:Int))]:=if_neg h0;rw[e]at hb⊢;have hb0:bare st.r=wd [108,105,109,105,116]::(2,Go.Lib.itoa (m:Int))::rest:=hb;have hb1:=Oq hb0;obtain⟨k1,k2⟩:=gf hb1;have hl:fx T (NO 1 st)=((m:Int),NO 1 (NO 1 st)):=by unfold fx;rw[k1,k2,if_pos rfl];dsimp only;rw[Cz (by have:=hg.2;omega),if_pos rfl];dsimp only;rw[if_neg (by have:=hg.2;omega),dn]
  rw[if_pos (gd hb0 (by decide)),dn,hl];dsimp only;rw[cV];rfl
theorem Bg{w:Bs}{l:List Ex}{rest:List BT}(h:dW w (wd [103,114,111,117,112])=false)(hr:eQ w rest=false):eQ w (Vt l++rest)=false:=by
 unfold Vt;split
 ·exact hr
 ·exact h
theorem uW{w:Bs}{l:List Ord}{rest:List BT}(h:dW w (wd [111,114,100,101,114])=false)(hr:eQ w rest=false):eQ w (Vu l++rest)=false:=by
 unfold Vu;split
 ·exact hr
 ·exact h
theorem oe{w:Bs}{n:Int}{rest:List BT}(h:dW w (wd [108,105,109,105,116])=false)(hr:eQ w rest=false):eQ w (vW n++rest)=false:=by
 unfold vW;split
 ·exact hr
 ·exact h
def zS:List Bs:=So++[[44],[97,115],[106,111,105,110],[119,104,101,114,101],[103,114,111,117,112],[111,114,100,101,114],[97,115,99],[100,101,115,99],[108,105,109,105,116]]
theorem Ip(T:Nat){q p:NS}(h:PA q)(hp:p={q with wh:=[],gr:=[],od:=[],lim:= -1}):Rs (oS T p) zS (UO q) q:=by
 subst hp;intro st rest hb hs;unfold UO at hb⊢;have hb0:bare st.r=RO [119,104,101,114,101] q.wh++(Vt q.gr++(Vu q.od++(vW q.lim++rest))):=by rw[hb];simp
 have hb1:=dt hb0;have hb2:=dt hb1;have hb3:=dt hb2;unfold oS;rw[qG T h.wh st _ hb0 fun w hw=>Bg ((by decide:∀w∈So++[[119,104,101,114,101]],dW w (wd [103,114,111,117,112])=false) w hw) (uW ((by decide:∀w∈So++[[119,104,101,114,101]],dW w (wd [111,114,100,101,114])=false) w hw) (oe ((by decide:∀w∈So++[[119,104,101,114,101]],dW w (wd [108,105,109,105,116])=false) w hw) (hs w ((by decide:∀w∈So++[[119,104,101,114,101]],w∈zS) w hw))))];dsimp only;rw[J6 T (q:={q with gr:=[],od:=[],lim:= -1}) (l:=q.gr) rfl h.gr _ _ hb1 fun w hw=>uW ((by decide:∀w∈So++[[44],[103,114,111,117,112]],dW w (wd [111,114,100,101,114])=false) w hw) (oe ((by decide:∀w∈So++[[44],[103,114,111,117,112]],dW w (wd [108,105,109,105,116])=false) w hw) (hs w ((by decide:∀w∈So++[[44],[103,114,111,117,112]],w∈zS) w hw)))];dsimp only;rw[Kb T (q:={q with od:=[],lim:= -1}) (l:=q.od) rfl h.od _ _ hb2 fun w hw=>oe ((by decide:∀w∈So++[[44],[111,114,100,101,114],[97,115,99],[100,101,115,99]],dW w (wd [108,105,109,105,116])=false) w hw) (hs w ((by decide:∀w∈So++[[44],[111,114,100,101,114],[97,115,99],[100,101,115,99]],w∈zS) w hw))];dsimp only;rw[Kk T (q:={q with lim:= -1}) (n:=q.lim) rfl h.lim _ _ hb3 fun w hw=>hs w ((by decide:∀w∈[[108,105,109,105,116]],w∈zS) w hw)];simp only[cV];exact eV (by simp only[ah];omega)
theorem I7(T:Nat){q:NS}(h:PA q):Rs (px T) (So++[[97,115],[44]]) (lK q) ⟨q.all,q.its,[],[],[],[],-1⟩:=by
 intro st rest hb hs;unfold px;rcases h.its with⟨h1,h2⟩|⟨h1,h2⟩
 ·have e:lK q=[sg [42]]:=if_pos h1;rw[e]at hb⊢;have hb0:bare st.r=sg [42]::rest:=hb;rw[if_pos (gd hb0 (by decide)),dn,h1,h2];rfl
 ·have e:lK q=bC Wt q.its:=if_neg (by rw[h1];decide);rw[e]at hb⊢;have hn:eQ [42] (bC Wt q.its++rest)=false:=by
   obtain⟨i,r,ei⟩:∃i r,q.its=i::r:=by
    cases hq:q.its with
    |nil=>exact absurd hq h2.1
    |cons i r=>exact⟨i,r,rfl⟩
   have hi:Ws i:=h2.2.2 i (by rw[ei];simp);rw[ei];show eQ [42] ((bE i.x++_)++_++rest)=false;rw[aX,aX];exact(iB hi.1.1).2 _
  rw[if_neg (gH hb hn),kn (T:=T) (most:=16) (S:=So++[[97,115]]) (b:=Wt) (by decide) (fun y hy=>Ir T (h2.2.2 y hy)) h2.1 h2.2.1 st rest hb fun w hw=>hs w ((by decide:∀w∈So++[[97,115]]++[[44]],w∈So++[[97,115],[44]]) w hw)];dsimp only;rw[h1]
theorem IQ{w:Bs}{q:NS}{rest:List BT}(h1:dW w (wd [119,104,101,114,101])=false)(h2:dW w (wd [103,114,111,117,112])=false)(h3:dW w (wd [111,114,100,101,114])=false)(h4:dW w (wd [108,105,109,105,116])=false)(hr:eQ w rest=false):eQ w (UO q++rest)=false:=by
 unfold UO;rw[aX,aX,aX];exact AU h1 (Bg h2 (uW h3 (oe h4 hr)))
theorem K3(T:Nat){q:NS}(h:PA q):Rs (selection T) zS (lQ q) q:=by
 intro st rest hb hs;obtain⟨s,r,hf,g1,g2,g3,g4⟩:=h.fr;have eb:lQ q=lK q++wd [102,114,111,109]::(jl s++(bJ r++UO q)):=by unfold lQ;rw[hf];show lK q++wd [102,114,111,109]::((jl s++bJ r)++UO q)=_;rw[aX]
 rw[eb]at hb⊢;have hb0:bare st.r=lK q++wd [102,114,111,109]::(jl s++(bJ r++(UO q++rest))):=by rw[hb];simp
 have hb1:=dt hb0;have hb2:=Oq hb1;have hb3:=dt hb2;have hb4:=dt hb3;have hT:∀w∈So++[[97,115],[106,111,105,110]],eQ w (UO q++rest)=false:=fun w hw=>IQ ((by decide:∀w∈So++[[97,115],[106,111,105,110]],dW w (wd [119,104,101,114,101])=false) w hw) ((by decide:∀w∈So++[[97,115],[106,111,105,110]],dW w (wd [103,114,111,117,112])=false) w hw) ((by decide:∀w∈So++[[97,115],[106,111,105,110]],dW w (wd [111,114,100,101,114])=false) w hw) ((by decide:∀w∈So++[[97,115],[106,111,105,110]],dW w (wd [108,105,109,105,116])=false) w hw) (hs w ((by decide:∀w∈So++[[97,115],[106,111,105,110]],w∈zS) w hw))
 unfold selection;rw[I7 T h st _ hb0 fun w hw=>(by decide:∀w∈So++[[97,115],[44]],dW w (wd [102,114,111,109])=false) w hw];dsimp only;rw[dN hb1 (by decide),sR T g1 _ _ hb2 fun w hw=>by
  simp at hw
  rw[hw]
  cases r with
  |nil=>exact hT _ (by simp)
  |cons z zs=>rfl]
 dsimp only;rw[Aj T r _ [{s with on:=[]}] _ _ g4 (bw _) (by simp only[ab,ai];omega) hb3 (fun w hw=>hT w (oW hw)) (hT _ (by simp))];dsimp only;have es:[({s with on:=[]}:Src)]++r=q.fr:=by rw[hf];obtain⟨a,b,c⟩:=s;simp only at g2;rw[g2];rfl
 rw[es,Ip T h (p:={(⟨q.all,q.its,[],[],[],[],-1⟩:NS)with fr:=q.fr}) rfl _ rest hb4 hs];simp only[cV];exact eV (by simp only[ah,ab];omega)
end I
end
end Go.Proofs.YtnicfobpclehkaaGreatDoor
