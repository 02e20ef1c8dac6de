import Derived.Test.YtnicfobpclehkaaGreatDoorP33
set_option maxHeartbeats 200000
set_option linter.unusedVariables false
set_option linter.unusedSimpArgs false
namespace Go.Proofs.YtnicfobpclehkaaGreatDoor
section
namespace I
open Ev (Ex Hd)
open Lex (bare)
abbrev BT:=UInt8×Bs
def dW(s:Bs)(t:BT):Bool:=(decide (t.1=1)||decide (t.1=5))&&decide (t.2=s)
def eQ(s:Bs):List BT→Bool
 |[]=>false
 |t::_=>dW s t
theorem eg(s:Bs)(st:St):dh s st=eQ s (bare st.r):=by
 unfold dh;cases st.r with
 |nil=>rfl
 |cons t r=>rfl
def NO(n:Nat)(st:St):St:={st with r:=st.r.drop n}
theorem cV(n m:Nat)(st:St):NO m (NO n st)=NO (n+m) st:=by
 unfold NO;simp only[bU]
theorem dn(st:St):next st=NO 1 st:=by
 unfold next NO
 rw[List.drop_one]
theorem iw(n:Nat)(st:St):bare (NO n st).r=(bare st.r).drop n:=by
 unfold bare NO;simp only[List.map_drop]
theorem iv(l:List Tok):(bare l).length=l.length:=by unfold bare;rw[cj]
theorem lj(n:Nat)(st:St):(NO n st).r.length=st.r.length-n:=by unfold NO;simp
theorem dt{st:St}{l rest:List BT}(h:bare st.r=l++rest):bare (NO l.length st).r=rest:=by rw[iw,h,List.drop_left]
theorem fU{st:St}{t:BT}{rest:List BT}(h:bare st.r=t::rest):bare (next st).r=rest:=by rw[dn,iw,h];rfl
def Rd{α:Type}(N:Nat)(f:St→α×St)(stops:List Bs)(l:List BT)(x:α):Prop:=∀(st:St) (rest:List BT),st.r.length<N→bare st.r=l++rest→(∀w∈stops,eQ w rest=false)→f st=(x,NO l.length st)
theorem lZ:∀{l:List (Bs×UInt8)} {st:St},(∀p∈l,dh p.1 st=false)→one l st=(0,st):=by
 intro l;induction l with
 |nil=>exact fun _=>rfl
 |cons p l ih=>
  intro st h;unfold one;rw[if_neg (by rw[h p ag];decide)];exact ih fun q hq=>h q (au _ hq)
theorem si:∀{l:List (Bs×UInt8)} {st:St} {t:BT} {rest:List BT} {p:Bs×UInt8},bare st.r=t::rest→l.find? (fun p=>dW p.1 t)=some p→one l st=(p.2,next st):=by
 intro l;induction l with
 |nil=>intro st t rest p _ h;cases h
 |cons q l ih=>
  intro st t rest p hb h;unfold one;have ha:dh q.1 st=dW q.1 t:=by rw[eg,hb];rfl
  rw[ha];rw[List.find?_cons]at h;cases hq:dW q.1 t with
  |true=>
   rw[hq]at h;injection h with h
   rw[←h];rfl
  |false=>
   rw[hq]at h;exact ih hb h
theorem lp{N:Nat}{kid:St→Ex×St}{S:List Bs}{l:List BT}{x:Ex}(ops:List (Bs×UInt8))(hk:Rd N kid S l x):Rd N (chain kid ops) (S++ops.map Prod.fst) l x:=by
 intro st rest hN hb hs;unfold chain;rw[hk st rest hN hb fun w hw=>hs w (aM.2 (.inl hw))];dsimp only;unfold dy;have h0:one ops (NO l.length st)=(0,NO l.length st):=lZ fun p hp=>by
  rw[eg,dt hb]
  exact hs _ (aM.2 (.inr (List.mem_map_of_mem hp)))
 rw[h0];rfl
theorem kS{N:Nat}{kid:St→Ex×St}{S:List Bs}{la lb:List BT}{a b:Ex}(ops:List (Bs×UInt8))(t:BT){p:Bs×UInt8}(ha:Rd N kid S la a)(hb:Rd N kid S lb b)(ht:ops.find? (fun p=>dW p.1 t)=some p)(hp:p.2≠0)(hS:∀w∈S,dW w t=false):Rd N (chain kid ops) (S++ops.map Prod.fst) (la++t::lb) (bin p.2 a b):=by
 intro st rest hN hbr hs;have hb1:bare st.r=la++(t::(lb++rest)):=by rw[hbr];simp
 unfold chain;rw[ha st _ hN hb1 hS];dsimp only;have hb2:bare (NO la.length st).r=t::(lb++rest):=dt hb1;have hb3:bare (next (NO la.length st)).r=lb++rest:=fU hb2;have hl1:(NO la.length st).r.length≤st.r.length:=by rw[lj];omega
 have hl2:1≤(NO la.length st).r.length:=by rw[←iv,hb2];simp
 obtain⟨f,hf⟩:∃f,(NO la.length st).r.length=f+1:=⟨(NO la.length st).r.length-1,by omega⟩;rw[hf];unfold dy;have hone:one ops (NO la.length st)=(p.2,next (NO la.length st)):=si hb2 ht;rw[hone];dsimp only;rw[if_neg hp];have hl3:=dq (NO la.length st);rw[hb _ rest (by omega) hb3 fun w hw=>hs w (aM.2 (.inl hw))];dsimp only;unfold dy;have h0:one ops (NO lb.length (next (NO la.length st)))=(0,NO lb.length (next (NO la.length st))):=lZ fun p hp=>by
  rw[eg,dt hb3]
  exact hs _ (aM.2 (.inr (List.mem_map_of_mem hp)))
 rw[h0,dn,cV,cV,ah,ab];rw[bY 1 lb.length];rfl
theorem rR{N:Nat}{Y:St→Ex×St}{S:List Bs}{l:List BT}{x:Ex}(s:Bs)(o:UInt8)(hY:Rd N Y S l x)(hl:∀rest,eQ s (l++rest)=false):Rd N (fun st=>again s o Y st.r.length st) S l x:=by
 intro st rest hN hb hs;have ha:dh s st=false:=by rw[eg,hb];exact hl rest
 dsimp only;cases st.r.length with
 |zero=>exact hY st rest hN hb hs
 |succ f=>
  unfold again;rw[if_neg (by rw[ha];decide)];exact hY st rest hN hb hs
theorem tm{N:Nat}{Y:St→Ex×St}{S:List Bs}{l:List BT}{x:Ex}(s:Bs)(o:UInt8)(t:BT)(hY:Rd N Y S l x)(hl:∀rest,eQ s (l++rest)=false)(ht:dW s t=true):Rd N (fun st=>again s o Y st.r.length st) S (t::l) (un o x):=by
 intro st rest hN hb hs;have hb2:bare (next st).r=l++rest:=fU hb;have hl1:1≤st.r.length:=by rw[←iv,hb];simp
 have hl2:=dq st;obtain⟨f,hf⟩:∃f,st.r.length=f+1:=⟨st.r.length-1,by omega⟩;dsimp only;rw[hf];unfold again;rw[if_pos (by rw[eg,hb];exact ht)];have e:again s o Y f (next st)=(x,NO l.length (next st)):=by
  cases f with
  |zero=>exact hY _ rest (by omega) hb2 hs
  |succ f=>
   unfold again;rw[if_neg (by rw[eg,hb2,hl rest];decide)];exact hY _ rest (by omega) hb2 hs
 rw[e,dn,cV,ab,bY]
def wd(s:Bs):BT:=(1,s)
def sg(s:Bs):BT:=(5,s)
def bL(v:Cell.Val):BT:=
 if v.k.toNat=4 then(3,v.s.data.toList)else if v.k.toNat=5 then(4,v.s.data.toList)else if v.k.toNat≤1 then wd (NF.prt v)else(2,NF.prt v)
def Qo(o:UInt8):BT:=if 13≤o.toNat then wd (dw o)else sg (dw o)
def bK(o:UInt8)(k:Ex)(l:List BT):List BT:=if(gn o&&gn (qb k))=true then sg [40]::(l++[sg [41]])else l
def bE:Ex→List BT
 | .mk h []=>
  if h.o.toNat=1 then [bL h.v]
  else if h.o.toNat=2 then(if fB h.of≠[]then [wd (fB h.of),sg [46],wd (fB h.nm)]else [wd (fB h.nm)])
  else if h.o.toNat=21 then [wd (dw h.o)]
  else [wd (dw h.o),sg [40],sg [42],sg [41]]
 | .mk h [a]=>
  if h.o.toNat=3∨h.o.toNat=15 then Qo h.o::bK h.o a (bE a)
  else if h.o.toNat=16 then bK h.o a (bE a)++[wd [105,115],wd [110,117,108,108]]
  else Qo h.o::sg [40]::(bK h.o a (bE a)++[sg [41]])
 | .mk h [a,b]=>bK h.o a (bE a)++Qo h.o::bK h.o b (bE b)
 | .mk _ (_::_::_::_)=>[]
def bP(k:Ex):List BT:=if gn (qb k)=true then sg [40]::(bE k++[sg [41]])else bE k
theorem qS{o:UInt8}(ho:gn o=true)(k:Ex):bK o k (bE k)=bP k:=by
 unfold bK bP;rw[ho,cD]
theorem MG{o:UInt8}(ho:gn o=false)(k:Ex):bK o k (bE k)=bE k:=by
 unfold bK;rw[ho];rfl
def S1:List Bs:=[[46]]
def Sp:List Bs:=S1++[[42]]
def Ss:List Bs:=Sp++[[43],[45]]
def Sc:List Bs:=Ss++([[61],[60,62],[60],[60,61],[62],[62,61]]++[[105,115]])
def Sa:List Bs:=Sc++[[97,110,100]]
def So:List Bs:=Sa++[[111,114]]
section
variable{T N:Nat}{X:St→Ex×St}{l:List BT}{x:Ex}
theorem yv(h:Rd N (dm T X) S1 l x)(hm:∀rest,eQ [45] (l++rest)=false):Rd N (unary T X) S1 l x:=rR [45] 3 h hm
theorem sJ(h:Rd N (unary T X) S1 l x):Rd N (prod T X) Sp l x:=lp [([42],6)] h
theorem qP(h:Rd N (prod T X) Sp l x):Rd N (sum T X) Ss l x:=lp [([43],4),([45],5)] h
theorem mc(h:Rd N (sum T X) Ss l x):Rd N (cmp T X) Sc l x:=by
 intro st rest hN hb hs;unfold cmp j4;rw[h st rest hN hb fun w hw=>hs w (aM.2 (.inl hw))];dsimp only;have h0:one il (NO l.length st)=(0,NO l.length st):=lZ fun p hp=>by
  rw[eg,dt hb]
  refine hs _ (aM.2 (.inr (aM.2 (.inl ?_))))
  exact(List.mem_map_of_mem (f:=Prod.fst) hp)
 have hi:dh [105,115] (NO l.length st)=false:=by rw[eg,dt hb];exact hs _ (aM.2 (.inr (aM.2 (.inr ag))))
 rw[h0,if_pos rfl,if_neg (by rw[hi];decide)]
theorem jT(h:Rd N (cmp T X) Sc l x)(hm:∀rest,eQ [110,111,116] (l++rest)=false):Rd N (jt T X) Sc l x:=rR [110,111,116] 15 h hm
theorem jq(h:Rd N (jt T X) Sc l x):Rd N (oo T X) Sa l x:=lp [([97,110,100],13)] h
theorem jE(h:Rd N (oo T X) Sa l x):Rd N (Sw T X) So l x:=lp [([111,114],14)] h
def SL(l:List BT):Prop:=(∀rest,eQ [45] (l++rest)=false)∧∀rest,eQ [110,111,116] (l++rest)=false
theorem o5(h:Rd N (dm T X) S1 l x)(hm:SL l):Rd N (unary T X) S1 l x:=yv h hm.1
theorem l7(h:Rd N (dm T X) S1 l x)(hm:SL l):Rd N (prod T X) Sp l x:=sJ (o5 h hm)
theorem qt(h:Rd N (dm T X) S1 l x)(hm:SL l):Rd N (sum T X) Ss l x:=qP (l7 h hm)
theorem AM(h:Rd N (dm T X) S1 l x)(hm:SL l):Rd N (cmp T X) Sc l x:=mc (qt h hm)
theorem ud(h:Rd N (dm T X) S1 l x)(hm:SL l):Rd N (jt T X) Sc l x:=jT (AM h hm) hm.2
theorem uA(h:Rd N (dm T X) S1 l x)(hm:SL l):Rd N (oo T X) Sa l x:=jq (ud h hm)
theorem MA(h:Rd N (dm T X) S1 l x)(hm:SL l):Rd N (Sw T X) So l x:=jE (uA h hm)
end
theorem pP:∀{T:Nat} {l:List Bs} {st:St} {ts rest:List BT},bare st.r=ts++rest→ts.length=l.length→(∀(i:Nat) (s:Bs) (t:BT),l[i]?=some s→ts[i]?=some t→dW s t=true)→expect T l st=NO l.length st:=by
 intro T l;induction l with
 |nil=>intro st ts rest _ _ _;rfl
 |cons s l ih=>
  intro st ts rest hb hl h;cases ts with
  |nil=>simp at hl
  |cons t ts=>
   unfold expect;have ht:=h 0 s t rfl rfl;rw[if_pos (by rw[eg,hb];exact ht)];rw[ih (fU (st:=st) (t:=t) (rest:=ts++rest) hb) (by simpa using hl) fun i s t h1 h2=>h (i+1) s t h1 h2,dn,cV,ab,bY]
theorem dN{T:Nat}{s:Bs}{st:St}{t:BT}{rest:List BT}(hb:bare st.r=t::rest)(ht:dW s t=true):expect T [s] st=NO 1 st:=
 pP (ts:=[t]) hb rfl fun i a b h1 h2=>by
  cases i with
  |zero=>injection h1 with h1;injection h2 with h2;rw[←h1,←h2];exact ht
  |succ i=>cases h1
theorem vT{T n:Nat}{X:St→Ex×St}{l:List BT}{x:Ex}(h:Rd n X So l x):Rd (n+1) (inside T X) [] (sg [40]::(l++[sg [41]])) x:=by
 intro st rest hN hb _;unfold inside;have hb1:bare st.r=sg [40]::(l++sg [41]::rest):=by rw[hb];simp
 rw[dN hb1 (by decide)];have hb2:bare (NO 1 st).r=l++sg [41]::rest:=by rw[iw,hb1];rfl
 have hl:1≤st.r.length:=by rw[←iv,hb1];simp
 have hl2:(NO 1 st).r.length<n:=by rw[lj];omega
 rw[h _ _ hl2 hb2 fun w hw=>(by decide:∀w∈So,eQ w (sg [41]::[])=false) w hw];dsimp only;have hb3:bare (NO l.length (NO 1 st)).r=sg [41]::rest:=dt hb2;rw[dN hb3 (by decide),cV,cV,ab,ah];rw[show 1+(l.length+1)=l.length+[sg [41]].length+1 by rw[aD];omega]
theorem gf{st:St}{t:BT}{rest:List BT}(h:bare st.r=t::rest):dF st=t.1∧QO st=t.2:=by
 unfold dF QO;cases hr:st.r with
 |nil=>rw[hr]at h;cases h
 |cons a r=>
  rw[hr]at h;have:(a.1,a.2.1)=t:=(List.cons.inj h).1;rw[←this];exact⟨rfl,rfl⟩
theorem zQ{T n:Nat}{X:St→Ex×St}{l:List BT}{x:Ex}(h:Rd n X So l x):Rd (n+1) (dm T X) S1 (sg [40]::(l++[sg [41]])) x:=by
 intro st rest hN hb _;obtain⟨k1,k2⟩:=gf hb;unfold dm;rw[k1,k2,if_neg (by decide),if_pos (by decide)];exact vT h st rest hN hb (fun w hw=>by cases hw)
end I
end
section
set_option maxRecDepth 20000
namespace I
open Ev (Ex Hd)
open Lex (bare)
theorem uO(n:Bs):¬((wd n).1=2∨(wd n).1=3∨(wd n).1=4):=(by decide:¬((1:UInt8)=2∨(1:UInt8)=3∨(1:UInt8)=4))
theorem vk(n:Bs){w:Bs}{c:Bs}:¬((wd n).1=5∧c=w):=fun h=>absurd (show(1:UInt8)=5 from h.1) (by decide)
theorem iR:∀w∈([[110,117,108,108],[116,114,117,101],[102,97,108,115,101],[117,115,101,114],[110,111,116],[97,110,100],[111,114],[105,115],[99,111,117,110,116],[115,117,109],[109,105,110],[109,97,120],[97,115],[100,101,115,99],[97,115,99],[106,111,105,110],[111,110],[119,104,101,114,101],[103,114,111,117,112],[111,114,100,101,114],[98,121],[108,105,109,105,116],[102,114,111,109],[115,101,108,101,99,116],[112,114,105,109,97,114,121],[107,101,121],[117,110,105,113,117,101],[99,104,101,99,107],[114,101,102,101,114,101,110,99,101,115],[100,101,108,101,116,101],[99,97,115,99,97,100,101],[115,101,116],[114,101,115,116,114,105,99,116],[97,108,108],[119,105,116,104],[116,111],[118,97,108,117,101,115],[105,110,116,111],[105,110,115,101,114,116],[117,112,100,97,116,101],[117,115,105,110,103],[97,102,116,101,114],[111,112,116,105,111,110],[103,114,97,110,116]]:List Bs),Lex.fJ w=true:=by decide
theorem Nj{n w:Bs}(h:NX n)(hw:Lex.fJ w=true):n≠w:=fun e=>by rw[e]at h;rw[h.2]at hw;cases hw
theorem DX{n w:Bs}(h:NX n)(hw:Lex.fJ w=true):dW w (wd n)=false:=by
 unfold dW wd;rw[ar (Nj h hw)];simp
theorem dB{T:Nat}{n:Bs}(h:NX n){st:St}{rest:List BT}(hb:bare st.r=wd n::rest):name T st=(n,NO 1 st):=by
 unfold name;cases hr:st.r with
 |nil=>rw[hr]at hb;cases hb
 |cons t r=>
  rw[hr]at hb;have e:(t.1,t.2.1)=wd n:=(List.cons.inj hb).1;have e1:t.1=1:=congrArg Prod.fst e;have e2:t.2.1=n:=congrArg Prod.snd e;dsimp only;have hn:named st=true:=by unfold named;rw[hr];dsimp only;rw[e1,e2,h.2];rfl
  rw[if_pos hn,e2,dn]
theorem zj{n:Bs}(h:NX n){st:St}{rest:List BT}(hb:bare st.r=wd n::rest):named st=true:=by
 unfold named;cases hr:st.r with
 |nil=>rw[hr]at hb;cases hb
 |cons t r=>
  rw[hr]at hb;have e:(t.1,t.2.1)=wd n:=(List.cons.inj hb).1;have e1:t.1=1:=congrArg Prod.fst e;have e2:t.2.1=n:=congrArg Prod.snd e;dsimp only;rw[e1,e2,h.2];rfl
theorem oG{T:Nat}{X:St→Ex×St}{n:Bs}(h:NX n){st:St}{rest:List BT}(hb:bare st.r=wd n::rest):dm T X st=dT T st:=by
 obtain⟨k1,_⟩:=gf hb;have ha:∀w:Bs,Lex.fJ w=true→dh w st=false:=fun w hw=>by rw[eg,hb];exact DX h hw
 unfold dm;rw[k1,if_neg (uO _),if_neg (vk _),if_neg (by rw[ha _ (iR _ (by decide))];decide),if_neg (by rw[ha _ (iR _ (by decide))];decide),if_neg (by rw[ha _ (iR _ (by decide))];decide),if_neg (by rw[ha _ (iR _ (by decide))];decide)];have h0:one iN st=(0,st):=lZ fun p hp=>ha _ (iR _ ((by decide:∀p∈iN,p.1∈([[110,117,108,108],[116,114,117,101],[102,97,108,115,101],[117,115,101,114],[110,111,116],[97,110,100],[111,114],[105,115],[99,111,117,110,116],[115,117,109],[109,105,110],[109,97,120],[97,115],[100,101,115,99],[97,115,99],[106,111,105,110],[111,110],[119,104,101,114,101],[103,114,111,117,112],[111,114,100,101,114],[98,121],[108,105,109,105,116],[102,114,111,109],[115,101,108,101,99,116],[112,114,105,109,97,114,121],[107,101,121],[117,110,105,113,117,101],[99,104,101,99,107],[114,101,102,101,114,101,110,99,101,115],[100,101,108,101,116,101],[99,97,115,99,97,100,101],[115,101,116],[114,101,115,116,114,105,99,116],[97,108,108],[119,105,116,104],[116,111],[118,97,108,117,101,115],[105,110,116,111],[105,110,115,101,114,116],[117,112,100,97,116,101],[117,115,105,110,103],[97,102,116,101,114],[111,112,116,105,111,110],[103,114,97,110,116]]:List Bs)) p hp))
 rw[h0,if_pos rfl]
theorem Ff{T:Nat}{n:Bs}(h:NX n){X:St→Ex×St}{N:Nat}:Rd N (dm T X) S1 [wd n] (.mk ⟨2,⟨0,0,dp⟩,bs n,dp,0⟩ []):=by
 intro st rest _ hb hs;rw[oG h hb];unfold dT;rw[dB h hb];dsimp only;have hd:dh [46] (NO 1 st)=false:=by rw[eg,iw,hb];exact hs _ ag
 rw[if_neg (by rw[hd];decide)];rfl
theorem yZ{T:Nat}{n o:Bs}(h:NX n)(ho:NX o){X:St→Ex×St}{N:Nat}:Rd N (dm T X) S1 [wd o,sg [46],wd n] (.mk ⟨2,⟨0,0,dp⟩,bs n,bs o,0⟩ []):=by
 intro st rest _ hb hs;rw[oG ho hb];unfold dT;rw[dB ho hb];dsimp only;have hb1:bare (NO 1 st).r=sg [46]::wd n::rest:=by rw[iw,hb];rfl
 rw[if_pos (by rw[eg,hb1];rfl),dB h (fU hb1),dn,cV,cV];rfl
theorem mz{T:Nat}{X:St→Ex×St}{N:Nat}{w:Bs}{x:Ex}(h:w=[110,117,108,108]∧x=.mk (hd 1) []∨w=[116,114,117,101]∧x=lit ⟨1,1,dp⟩∨w=[102,97,108,115,101]∧x=lit ⟨1,0,dp⟩∨w=[117,115,101,114]∧x=.mk (hd 21) []):Rd N (dm T X) S1 [wd w] x:=by
 intro st rest _ hb hs;obtain⟨k1,_⟩:=gf hb;have ha:∀v:Bs,dh v st=dW v (wd w):=fun v=>by rw[eg,hb];rfl
 unfold dm;rw[k1,if_neg (uO _),if_neg (vk _)];rcases h with⟨rfl,rfl⟩|⟨rfl,rfl⟩|⟨rfl,rfl⟩|⟨rfl,rfl⟩
 ·rw[if_pos (by rw[ha];decide),dn];rfl
 ·rw[if_neg (by rw[ha];decide),if_pos (by rw[ha];decide),dn];rfl
 ·rw[if_neg (by rw[ha];decide),if_neg (by rw[ha];decide),if_pos (by rw[ha];decide),dn];rfl
 ·rw[if_neg (by rw[ha];decide),if_neg (by rw[ha];decide),if_neg (by rw[ha];decide),if_pos (by rw[ha];decide),dn];rfl
theorem oQ(l:Bs):ef l=NF.ef l:=rfl
theorem kI(n:Nat):∀c∈Go.Lib.decDigits n,Lex.digit c=true:=fun c hc=>by
 have:=NF.J3 n c hc
 unfold NF.td at this
 simpa[Lex.digit]using this
theorem CU(n k:Nat):∀c∈NF.SR n k,Lex.digit c=true:=fun c hc=>by
 have:=NF.Bm n _ c hc
 unfold NF.td at this
 simpa[Lex.digit]using this
theorem Kh{n:Nat}(h:n≤9223372036854775807):(fq (NF.prt ⟨2,(n:Int),dp⟩)).2=2∧(fR (fq (NF.prt ⟨2,(n:Int),dp⟩)).1)=((n:Int),0):=by
 rw[jB,xw (kI n)];refine⟨rfl,?_⟩;unfold fR;dsimp only;rw[oQ,NF.oZ,if_pos h]
theorem zm(a b:Bs):ef (a++b)=ef a*10^b.length+ef b:=by
 obtain⟨n,hn⟩:∃n,n=b.length:=⟨_,rfl⟩;induction n generalizing b with
 |zero=>
  have:b=[]:=aC hn.symm;subst this;simp[ef]
 |succ n ih=>
  have hne:b≠[]:=fun e=>by rw[e]at hn;simp at hn
  obtain⟨c,d,rfl⟩:∃c d,b=c++[d]:=⟨b.dropLast,b.getLast hne,(List.dropLast_concat_getLast hne).symm⟩;have hc:n=c.length:=by simp at hn;omega
  rw[←aX,jR,ih c hc,jR,ah,aD,Nat.pow_succ,Nat.add_mul,Nat.mul_assoc];omega
theorem Kg{n:Nat}(h:n≤9223372036854775807):(fq (NF.prt ⟨3,(n:Int),dp⟩)).2=3∧(fR (fq (NF.prt ⟨3,(n:Int),dp⟩)).1)=((n:Int),0):=by
 rw[qq,xI (kI _)];refine⟨rfl,?_⟩;have h4:=NF.oO (n%10000) (cK _ (by decide));have ht:(NF.SR (n%10000) 4++[48,48,48]).take 4=NF.SR (n%10000) 4:=by rw[List.take_append_of_le_length (by omega),aS (by omega)]
 unfold fR;dsimp only;have hw:ef (Go.Lib.decDigits (n/10000)++(NF.SR (n%10000) 4++[48,48,48]).take 4)=n:=by rw[ht,zm,h4,oQ,NF.oZ,oQ,NF.Ak _ (cK _ (by decide))];omega
 rw[hw,if_pos h]
theorem Ei{T:Nat}{X:St→Ex×St}{N:Nat}{v:Cell.Val}(h:nL v):Rd N (dm T X) S1 [bL v] (lit v):=by
 have key:∀(k:UInt8) (s:Bs),bL v=(k,s)→(k=2∨k=3∨k=4)→(∀st:St,∀t r,st.r=t::r→(t.1,t.2.1)=bL v→literal T st=(lit v,next st))→Rd N (dm T X) S1 [bL v] (lit v):=by
  intro k s hk hk3 hl st rest _ hb _;obtain⟨k1,_⟩:=gf hb;unfold dm;rw[k1,hk,if_pos hk3];cases hr:st.r with
  |nil=>rw[hr]at hb;cases hb
  |cons t r=>
   have e:(t.1,t.2.1)=bL v:=by rw[hr]at hb;exact(List.cons.inj hb).1
   rw[hl st t r hr e,dn];rfl
 rcases h with rfl|rfl|rfl|⟨n,hn,rfl⟩|⟨n,hn,rfl⟩|⟨s,hs,rfl⟩|⟨s,hs,rfl⟩
 ·exact mz (.inl ⟨rfl,rfl⟩)
 ·exact mz (.inr (.inr (.inl ⟨rfl,rfl⟩)))
 ·exact mz (.inr (.inl ⟨rfl,rfl⟩))
 ·have e:bL ⟨2,(n:Int),dp⟩=(2,NF.prt ⟨2,(n:Int),dp⟩):=rfl;refine key _ _ e (.inl rfl) fun st t r hr ht=>?_
  rw[e]at ht;have e1:t.1=2:=congrArg Prod.fst ht;have e2:t.2.1=NF.prt ⟨2,(n:Int),dp⟩:=congrArg Prod.snd ht;obtain⟨v1,v2⟩:=Kh hn;unfold literal;rw[hr];dsimp only;rw[if_neg (by rw[e1];decide),if_pos e1,e2,v2,v1,if_pos rfl]
 ·have e:bL ⟨3,(n:Int),dp⟩=(2,NF.prt ⟨3,(n:Int),dp⟩):=rfl;refine key _ _ e (.inl rfl) fun st t r hr ht=>?_
  rw[e]at ht;have e1:t.1=2:=congrArg Prod.fst ht;have e2:t.2.1=NF.prt ⟨3,(n:Int),dp⟩:=congrArg Prod.snd ht;obtain⟨v1,v2⟩:=Kg hn;unfold literal;rw[hr];dsimp only;rw[if_neg (by rw[e1];decide),if_pos e1,e2,v2,v1,if_pos rfl]
 ·have e:bL ⟨4,0,bs s⟩=(3,s):=by show((3:UInt8),(bs s).data.toList)=(3,s);rw[dA]
  refine key _ _ e (.inr (.inl rfl)) fun st t r hr ht=>?_
  rw[e]at ht;have e1:t.1=3:=congrArg Prod.fst ht;have e2:t.2.1=s:=congrArg Prod.snd ht;unfold literal;rw[hr];dsimp only;rw[if_neg (by rw[e1];decide),if_neg (by rw[e1];decide),e2]
 ·have e:bL ⟨5,0,bs s⟩=(4,s):=by show((4:UInt8),(bs s).data.toList)=(4,s);rw[dA]
  refine key _ _ e (.inr (.inr rfl)) fun st t r hr ht=>?_
  rw[e]at ht;have e1:t.1=4:=congrArg Prod.fst ht;have e2:t.2.1=s:=congrArg Prod.snd ht;unfold literal;rw[hr];dsimp only;rw[if_pos e1,e2]
theorem oy{T:Nat}{X:St→Ex×St}{o:UInt8}(ho:o∈([17,18,19,20]:List UInt8)){st:St}{rest:List BT}(hb:bare st.r=wd (dw o)::rest):dm T X st=fold T X o (next st):=by
 obtain⟨k1,_⟩:=gf hb;have ha:∀v:Bs,dh v st=dW v (wd (dw o)):=fun v=>by rw[eg,hb];rfl
 have hf:=(by decide:∀o∈([17,18,19,20]:List UInt8),dW [110,117,108,108] (wd (dw o))=false∧dW [116,114,117,101] (wd (dw o))=false∧dW [102,97,108,115,101] (wd (dw o))=false∧dW [117,115,101,114] (wd (dw o))=false∧o≠0∧iN.find? (fun p=>dW p.1 (wd (dw o)))=some (dw o,o)) o ho;unfold dm;rw[k1,if_neg (uO _),if_neg (vk _),if_neg (by rw[ha,hf.1];decide),if_neg (by rw[ha,hf.2.1];decide),if_neg (by rw[ha,hf.2.2.1];decide),if_neg (by rw[ha,hf.2.2.2.1];decide)];rw[si hb hf.2.2.2.2.2];dsimp only;rw[if_neg hf.2.2.2.2.1]
theorem yG{T n:Nat}{X:St→Ex×St}:Rd n (dm T X) S1 [wd (dw 17),sg [40],sg [42],sg [41]] (.mk (hd 17) []):=by
 intro st rest _ hb _;rw[oy (by decide) hb];have hb1:bare (next st).r=sg [40]::sg [42]::sg [41]::rest:=fU hb;unfold fold inside;rw[dN hb1 (by decide)];have hb2:bare (NO 1 (next st)).r=sg [42]::sg [41]::rest:=by rw[iw,hb1];rfl
 dsimp only;rw[if_pos ⟨rfl,by rw[eg,hb2];rfl⟩];dsimp only;rw[dN (fU hb2) (by decide),dn,dn,cV,cV,cV];rfl
theorem mM{T n:Nat}{X:St→Ex×St}{o:UInt8}(ho:o∈([17,18,19,20]:List UInt8)){l:List BT}{x:Ex}(h:Rd n X So l x)(hl:∀rest,eQ [42] (l++rest)=false):Rd (n+1) (dm T X) S1 (wd (dw o)::sg [40]::(l++[sg [41]])) (un o x):=by
 intro st rest hN hb _;rw[oy ho hb];have hb1:bare (next st).r=sg [40]::(l++sg [41]::rest):=by rw[fU hb];simp
 unfold fold inside;rw[dN hb1 (by decide)];have hb2:bare (NO 1 (next st)).r=l++sg [41]::rest:=by rw[iw,hb1];rfl
 have hlen:2≤st.r.length:=by rw[←iv,hb];simp
 have hl2:(NO 1 (next st)).r.length<n:=by rw[dn,cV,lj];omega
 dsimp only;rw[if_neg (by rintro⟨_,e⟩;rw[eg,hb2,hl]at e;cases e)];rw[h _ _ hl2 hb2 fun w hw=>(by decide:∀w∈So,eQ w (sg [41]::[])=false) w hw];dsimp only;have hb3:bare (NO l.length (NO 1 (next st))).r=sg [41]::rest:=dt hb2;rw[dN hb3 (by decide),dn,cV,cV,cV,ab,ab,ah];rw[show 1+(1+(l.length+1))=l.length+[sg [41]].length+1+1 by rw[aD];omega]
theorem iB:∀{e:Ex},Ri e→SL (bP e)∧∀rest,eQ [42] (bE e++rest)=false:=by
 intro e h;have hp:SL (sg [40]::(bE e++[sg [41]])):=⟨fun _=>rfl,fun _=>rfl⟩;have hq:gn (qb e)=true→SL (bP e):=fun h=>by unfold bP;rw[if_pos h];exact hp
 have hr:gn (qb e)=false→SL (bE e)→SL (bP e):=fun h k=>by unfold bP;rw[if_neg (by rw[h];decide)];exact k
 have nmH:∀(n:Bs) (r:List BT),NX n→SL (wd n::r)∧∀rest,eQ [42] (wd n::r++rest)=false:=fun n r h=>by
  have hl:Lex.iS n=true:=by have:=h.1;unfold Lex.word at this;simp only[aN]at this;exact this.2.2.1
  have hne:∀w:Bs,Lex.iS w=false→n≠w:=fun w hw e=>by rw[e]at hl;rw[hl]at hw;cases hw
  refine⟨⟨fun rest=>?_,fun rest=>DX h (iR _ (by decide))⟩,fun rest=>?_⟩
  ·show dW _ (wd n)=false;unfold dW wd;rw[ar (hne _ (by decide))];simp
  ·show dW _ (wd n)=false;unfold dW wd;rw[ar (hne _ (by decide))];simp
 have star:∀{o:UInt8} {a:Ex} {r:List BT},(∀rest,eQ [42] (bE a++rest)=false)→∀rest,eQ [42] (bP a++r++rest)=false:=fun{o a r} ha rest=>by
  unfold bP
  split
  ·rfl
  ·rw[aX];exact ha _
 induction h with
 | @lit v hv=>
  rcases hv with rfl|rfl|rfl|⟨n,hn,rfl⟩|⟨n,hn,rfl⟩|⟨s,hs,rfl⟩|⟨s,hs,rfl⟩<;>exact⟨hr rfl ⟨fun _=>rfl,fun _=>rfl⟩,fun _=>rfl⟩
 | @UN n h=>
  have e:bE (.mk ⟨2,⟨0,0,dp⟩,bs n,dp,0⟩ [])=[wd n]:=by simp only[bE];rw[if_neg (by decide),if_pos (by decide),if_neg (by decide),eR]
  exact⟨hr rfl (by rw[e];exact(nmH n [] h).1),fun rest=>by rw[e];exact(nmH n [] h).2 rest⟩
 | @ox n o h h2=>
  have e:bE (.mk ⟨2,⟨0,0,dp⟩,bs n,bs o,0⟩ [])=[wd o,sg [46],wd n]:=by simp only[bE];rw[if_neg (by decide),if_pos (by decide),eR,eR,if_pos h2.ne]
  exact⟨hr rfl (by rw[e];exact(nmH o _ h2).1),fun rest=>by rw[e];exact(nmH o _ h2).2 rest⟩
 |user=>exact⟨hr rfl ⟨fun _=>rfl,fun _=>rfl⟩,fun _=>rfl⟩
 |count=>exact⟨hr rfl ⟨fun _=>rfl,fun _=>rfl⟩,fun _=>rfl⟩
 | @un o a ho h ih=>
  have ih:=ih ⟨fun _=>rfl,fun _=>rfl⟩ (fun h=>by unfold bP;rw[if_pos h];exact⟨fun _=>rfl,fun _=>rfl⟩) (fun h k=>by unfold bP;rw[if_neg (by rw[h];decide)];exact k);simp only[af,aj,aH]at ho;rcases ho with rfl|rfl|rfl|rfl|rfl|rfl|rfl
  ·exact⟨hq rfl,fun _=>rfl⟩
  ·exact⟨hq rfl,fun _=>rfl⟩
  ·refine⟨hq rfl,fun rest=>?_⟩;show eQ _ (bK 16 a (bE a)++_++rest)=false;rw[qS rfl];exact star (o:=16) ih.2 rest
  ·exact⟨hr rfl ⟨fun _=>rfl,fun _=>rfl⟩,fun _=>rfl⟩
  ·exact⟨hr rfl ⟨fun _=>rfl,fun _=>rfl⟩,fun _=>rfl⟩
  ·exact⟨hr rfl ⟨fun _=>rfl,fun _=>rfl⟩,fun _=>rfl⟩
  ·exact⟨hr rfl ⟨fun _=>rfl,fun _=>rfl⟩,fun _=>rfl⟩
 | @bin o a b ho h h2 ih ih2=>
  have ih:=ih ⟨fun _=>rfl,fun _=>rfl⟩ (fun h=>by unfold bP;rw[if_pos h];exact⟨fun _=>rfl,fun _=>rfl⟩) (fun h k=>by unfold bP;rw[if_neg (by rw[h];decide)];exact k);have hop:gn o=true:=(by decide:∀o∈([4,5,6,7,8,9,10,11,12,13,14]:List UInt8),gn o=true) o ho;refine⟨hq hop,fun rest=>?_⟩;show eQ _ (bK o a (bE a)++_++rest)=false;rw[qS hop];exact star (o:=o) ih.2 rest
def KdR(T:Nat)(e:Ex):Prop:=∀n,Rd (n+1) (dm T (Pw T n)) S1 (bP e) e
def OrR(T:Nat)(e:Ex):Prop:=∀n,Rd n (Pw T n) So (bE e) e
theorem KM{T:Nat}{e:Ex}(h:∀n,Rd (n+1) (Sw T (Pw T n)) So (bE e) e):OrR T e:=by
 intro n;cases n with
 |zero=>intro st rest hN;omega
 |succ n=>
  intro st rest hN hb hs;rw[Pw];exact h n st rest hN hb hs
theorem jC{T:Nat}{e:Ex}(hg:Ri e)(ho:gn (qb e)=false)(h:∀n,Rd (n+1) (dm T (Pw T n)) S1 (bE e) e):KdR T e∧OrR T e:=by
 have eb:bP e=bE e:=by unfold bP;rw[if_neg (by rw[ho];decide)]
 have hk:KdR T e:=fun n=>by rw[eb];exact h n
 refine⟨hk,KM fun n=>?_⟩;have:=(iB hg).1;rw[eb]at this;exact MA (h n) this
theorem Bj{T:Nat}{e:Ex}(ho:gn (qb e)=true)(h:∀n,Rd (n+1) (Sw T (Pw T n)) So (bE e) e):KdR T e∧OrR T e:=by
 have h2:=KM h;refine⟨fun n=>?_,h2⟩;have eb:bP e=sg [40]::(bE e++[sg [41]]):=by unfold bP;rw[if_pos ho]
 rw[eb];exact zQ (h2 n)
theorem rdE(T:Nat){e:Ex}(h:Ri e):KdR T e∧OrR T e:=by
 induction h with
 | @lit v hv=>
  have eb:bE (lit v)=[bL v]:=rfl;refine jC (.lit hv) rfl fun n=>?_
  rw[eb];exact Ei hv
 | @UN n h=>
  have e:bE (.mk ⟨2,⟨0,0,dp⟩,bs n,dp,0⟩ [])=[wd n]:=by simp only[bE];rw[if_neg (by decide),if_pos (by decide),if_neg (by decide),eR]
  refine jC (.UN h) rfl fun m=>?_
  rw[e];exact Ff h
 | @ox n o h h2=>
  have e:bE (.mk ⟨2,⟨0,0,dp⟩,bs n,bs o,0⟩ [])=[wd o,sg [46],wd n]:=by simp only[bE];rw[if_neg (by decide),if_pos (by decide),eR,eR,if_pos h2.ne]
  refine jC (.ox h h2) rfl fun m=>?_
  rw[e];exact yZ h h2
 |user=>exact jC .user rfl fun n=>mz (.inr (.inr (.inr ⟨rfl,rfl⟩)))
 |count=>exact jC .count rfl fun n=>yG
 | @un o a ho h ih=>
  have hu:=Ri.un ho h;have hk:=(iB h).1;simp only[af,aj,aH]at ho;have fold:∀o∈([17,18,19,20]:List UInt8),bE (un o a)=wd (dw o)::sg [40]::(bE a++[sg [41]]):=fun o ho=>by
   obtain⟨f1,f2,f3⟩:=nv o ho
   show(if o.toNat=3∨o.toNat=15 then _ else if o.toNat=16 then _ else Qo o::_::(bK o a (bE a)++_))=_
   rw[if_neg f1,if_neg f2,MG f3]
   have:Qo o=wd (dw o):=(by decide:∀o∈([17,18,19,20]:List UInt8),Qo o=wd (dw o)) o ho
   rw[this]
  rcases ho with rfl|rfl|rfl|rfl|rfl|rfl|rfl
  ·refine Bj rfl fun n=>?_
   have eb:bE (un 3 a)=Qo 3::bP a:=by show Qo 3::bK 3 a (bE a)=_;rw[qS rfl]
   rw[eb];refine jE (jq (jT (mc (qP (sJ ?_))) fun _=>rfl));exact tm [45] 3 _ (ih.1 n) hk.1 (by decide)
  ·refine Bj rfl fun n=>?_
   have eb:bE (un 15 a)=Qo 15::bP a:=by show Qo 15::bK 15 a (bE a)=_;rw[qS rfl]
   rw[eb];refine jE (jq ?_);exact tm [110,111,116] 15 _ (AM (ih.1 n) hk) hk.2 (by decide)
  ·refine Bj rfl fun n=>?_
   have eb:bE (un 16 a)=bP a++[wd [105,115],wd [110,117,108,108]]:=by show bK 16 a (bE a)++_=_;rw[qS rfl]
   rw[eb];refine jE (jq (jT ?_ fun rest=>by rw[aX];exact hk.2 _));intro st rest hN hb hs;have hb1:bare st.r=bP a++wd [105,115]::wd [110,117,108,108]::rest:=by rw[hb];simp
   have hb2:=dt hb1;have hb3:=fU hb2;unfold cmp j4;rw[qt (ih.1 n) hk st _ hN hb1 fun w hw=>(by decide:∀w∈Ss,eQ w (wd [105,115]::[])=false) w hw];dsimp only;have h0:one il (NO (bP a).length st)=(0,NO (bP a).length st):=lZ fun p hp=>by
    rw[eg,hb2]
    exact(by decide:∀p∈il,eQ p.1 (wd [105,115]::[])=false) p hp
   rw[h0,if_pos rfl,if_pos (by rw[eg,hb2];rfl)];unfold RP;rw[if_neg (by rw[eg,hb3];exact Bool.false_ne_true),dN hb3 (by decide),dn,cV,cV,ah];rfl
  ·refine jC hu rfl fun n=>?_
   rw[fold 17 (by decide)];exact mM (by decide) (ih.2 n) (iB h).2
  ·refine jC hu rfl fun n=>?_
   rw[fold 18 (by decide)];exact mM (by decide) (ih.2 n) (iB h).2
  ·refine jC hu rfl fun n=>?_
   rw[fold 19 (by decide)];exact mM (by decide) (ih.2 n) (iB h).2
  ·refine jC hu rfl fun n=>?_
   rw[fold 20 (by decide)];exact mM (by decide) (ih.2 n) (iB h).2
 | @bin o a b ho h h2 ih ih2=>
  have hop:gn o=true:=(by decide:∀o∈([4,5,6,7,8,9,10,11,12,13,14]:List UInt8),gn o=true) o ho;have hk:=(iB h).1;have hk2:=(iB h2).1;have eb:bE (bin o a b)=bP a++Qo o::bP b:=by show bK o a (bE a)++Qo o::bK o b (bE b)=_;rw[qS hop,qS hop]
  have hN:SL (bP a++Qo o::bP b):=⟨fun rest=>by rw[aX];exact hk.1 _,fun rest=>by rw[aX];exact hk.2 _⟩;refine Bj hop fun n=>?_
  rw[eb];have cmpR:∀p∈il,p.2=o→Qo o=sg p.1→Rd (n+1) (cmp T (Pw T n)) Sc (bP a++Qo o::bP b) (bin o a b):=by
   intro p hp hpo ht st rest hN hb hs;have hb1:bare st.r=bP a++Qo o::(bP b++rest):=by rw[hb];simp
   have hb2:=dt hb1;have hb3:=fU hb2;have hf:il.find? (fun q=>dW q.1 (Qo o))=some p:=by rw[ht];exact(by decide:∀p∈il,il.find? (fun q=>dW q.1 (sg p.1))=some p) p hp
   unfold cmp j4;rw[qt (ih.1 n) hk st _ hN hb1 fun w hw=>by rw[ht];exact(by decide:∀p∈il,∀w∈Ss,eQ w (sg p.1::[])=false) p hp w hw];dsimp only;rw[si hb2 hf];dsimp only;have h0:p.2≠0:=(by decide:∀p∈il,p.2≠0) p hp;rw[if_neg h0];have hl:(next (NO (bP a).length st)).r.length<n+1:=by have:=dq (NO (bP a).length st);rw[lj]at this;omega
   rw[qt (ih2.1 n) hk2 _ rest hl hb3 fun w hw=>hs w (aM.2 (.inl hw)),dn,cV,cV,ah,ab,hpo];rw[bY 1 (bP b).length]
  have S0:∀p∈il,p.2=o→Qo o=sg p.1→Rd (n+1) (Sw T (Pw T n)) So (bP a++Qo o::bP b) (bin o a b):=fun p hp h1 h2=>jE (jq (jT (cmpR p hp h1 h2) hN.2))
  simp only[af,aj,aH]at ho;rcases ho with rfl|rfl|rfl|rfl|rfl|rfl|rfl|rfl|rfl|rfl|rfl
  ·exact jE (jq (jT (mc (kS [([43],4),([45],5)] (Qo 4) (p:=([43],4)) (l7 (ih.1 n) hk) (l7 (ih2.1 n) hk2) (by decide) (by decide) (by decide))) hN.2))
  ·exact jE (jq (jT (mc (kS [([43],4),([45],5)] (Qo 5) (p:=([45],5)) (l7 (ih.1 n) hk) (l7 (ih2.1 n) hk2) (by decide) (by decide) (by decide))) hN.2))
  ·exact jE (jq (jT (mc (qP (kS [([42],6)] (Qo 6) (p:=([42],6)) (o5 (ih.1 n) hk) (o5 (ih2.1 n) hk2) (by decide) (by decide) (by decide)))) hN.2))
  ·exact S0 ([61],7) (by decide) rfl rfl
  ·exact S0 ([60,62],8) (by decide) rfl rfl
  ·exact S0 ([60],9) (by decide) rfl rfl
  ·exact S0 ([60,61],10) (by decide) rfl rfl
  ·exact S0 ([62],11) (by decide) rfl rfl
  ·exact S0 ([62,61],12) (by decide) rfl rfl
  ·exact jE (kS [([97,110,100],13)] (Qo 13) (p:=([97,110,100],13)) (ud (ih.1 n) hk) (ud (ih2.1 n) hk2) (by decide) (by decide) (by decide))
  ·exact kS [([111,114],14)] (Qo 14) (p:=([111,114],14)) (uA (ih.1 n) hk) (uA (ih2.1 n) hk2) (by decide) (by decide) (by decide)
theorem CX(T:Nat){e:Ex}(h:QW e){N:Nat}:Rd N (expr T) So (bE e) e:=by
 intro st rest _ hb hs;have hr:=(rdE T h.1).2 (st.r.length+1) st rest (bw _) hb hs;have e:or T st=(e,NO (bE e).length st):=hr;unfold expr;rw[e,if_neg (by have:=h.2;dsimp only;omega)]
end I
end
end Go.Proofs.YtnicfobpclehkaaGreatDoor
