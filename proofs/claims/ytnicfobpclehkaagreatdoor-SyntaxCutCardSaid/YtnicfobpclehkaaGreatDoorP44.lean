import Derived.Test.YtnicfobpclehkaaGreatDoorP43
set_option maxHeartbeats 200000
set_option linter.unusedVariables false
set_option linter.unusedSimpArgs false
namespace Go.Proofs.YtnicfobpclehkaaGreatDoor
section
namespace I
open Ev (Ex Hd)
def Le(a b:Ex):Prop:=depth a≤depth b
theorem GY{o:UInt8}{a b:Ex}(h:Le a b):Le (un o a) (un o b):=by unfold Le at*;rw[jV,jV];omega
theorem G3{o:UInt8}{e a b:Ex}(h:Le a b):Le (bin o e a) (bin o e b):=by unfold Le at*;rw[jM,jM];omega
theorem pz{kid:St→Ex×St}{l:List (Bs×UInt8)}:∀(f:Nat) (e:Ex) (st:St),Le e (dy kid l f e st).1:=by
 intro f;induction f with
 |zero=>intro e st;exact aa _
 |succ f ih=>
  intro e st;unfold dy;split
  ·exact aa _
  ·have:=ih (bin (one l st).1 e (kid (one l st).2).1) (kid (one l st).2).2;unfold Le at*;rw[jM]at this;omega
section
variable{T T' N M m:Nat}{f f' kid OV X X':St→Ex×St}{st:St}
theorem BN(hk:Tr T' Le N M kid OV)(ev:NT kid)(ev':NT OV)(l:List (Bs×UInt8)):∀(f f':Nat) (e:Ex) (st:St) (m:Nat),st.r.length<f→(tk m st).r.length<f'→Ok st→Ok (dy kid l f e st).2→st.r.length≤N→(tk m st).r.length≤M→Out T' Le (dy kid l f e st) (dy OV l f' e (tk m st)):=by
 intro f;induction f with
 |zero=>intro f' e st m h;omega
 |succ f ih=>
  intro f' e st m hf hf' ok NJ hN hM;obtain⟨f',rfl⟩:∃k,f'=k+1:=⟨f'-1,by omega⟩;rcases eL m st with h|⟨k,t,r,rfl,er⟩
  ·have e1:dy OV l (f'+1) e (tk m st)=(e,tk m st):=by unfold dy;rw[if_pos (by rw[kt h])]
   rw[e1];exact .inr ⟨gI h ok,fun _=>pz _ _ _⟩
  ·have h1:=(yC (k:=k) er l).1;by_cases h0:(one l st).1=0
   ·have e1:dy kid l (f+1) e st=(e,st):=by unfold dy;rw[if_pos h0]
    have e2:dy OV l (f'+1) e (tk (k+1) st)=(e,tk (k+1) st):=by unfold dy;rw[if_pos (by rw[h1];exact h0)]
    rw[e1,e2];exact .same (k+1) rfl
   ·rcases ux (k:=k) er l with⟨h2,h3⟩|⟨h2,_⟩
    ·have e1:dy kid l (f+1) e st=dy kid l f (bin (one l st).1 e (kid (next st)).1) (kid (next st)).2:=by
      conv=>lhs;unfold dy
      rw[if_neg h0,h3]
     have e2:dy OV l (f'+1) e (tk (k+1) st)=dy OV l f' (bin (one l st).1 e (OV (tk k (next st))).1) (OV (tk k (next st))).2:=by
      conv=>lhs;unfold dy
      rw[if_neg (by rw[h1];exact h0),h1,h2,h3]
     rw[e1]at NJ;have evl:∀(n:Nat) (x:Ex) (s:St),ON s (dy kid l n x s).2:=fun n x s=>nw ev l n x s
     have o1:Ok (kid (next st)).2:=Ok.back (evl _ _ _) NJ;have hn:(next st).r.length+1=st.r.length:=by unfold next;simp only[er,bI,ab]
     have hn2:(tk k (next st)).r.length+1=(tk (k+1) st).r.length:=by rw[←dV];unfold next;rw[ou er];simp
     have hs:=(ev (next st)).s.length_le;rw[e1,e2];rcases hk (next st) k ok o1 (by omega) (by omega)with⟨m',q⟩|⟨q,q2⟩
     ·rw[q];have h9:=(ev' (tk k (next st))).s.length_le;rw[q]at h9;exact ih f' _ _ m' (by omega) (by simp only at h9;omega) o1 NJ (by omega) (by simp only at h9;omega)
     ·have e3:dy OV l f' (bin (one l st).1 e (OV (tk k (next st))).1) (OV (tk k (next st))).2=(bin (one l st).1 e (OV (tk k (next st))).1,(OV (tk k (next st))).2):=by
       cases f' with
       |zero=>rfl
       |succ n=>unfold dy;rw[if_pos (by rw[kt q.1])]
      rw[e3];refine .inr ⟨q,fun he=>?_⟩;exact aw (G3 (o:=(one l st).1) (e:=e) (q2 he)) (pz (kid:=kid) (l:=l) f _ _)
    ·exact absurd h2 h0
theorem Hy{kid:St→Ex×St}{l:List (Bs×UInt8)}(st:St):Le (kid st).1 (chain kid l st).1:=pz _ _ _
theorem nZ(hk:Tr T' Le N M kid OV)(ev:NT kid)(ev':NT OV)(l:List (Bs×UInt8)):Tr T' Le N M (chain kid l) (chain OV l):=by
 intro st m ok NJ hN hM;have o1:Ok (kid st).2:=Ok.back (nw ev l _ _ _) NJ;have hs:=(ev st).s.length_le;rcases hk st m ok o1 hN hM with⟨m',q⟩|⟨q,q2⟩
 ·have h9:=(ev' (tk m st)).s.length_le;rw[q]at h9;simp only at h9;have:=BN hk ev ev' l ((kid st).2.r.length+1) ((tk m' (kid st).2).r.length+1) (kid st).1 (kid st).2 m' (by omega) (by omega) o1 NJ (by omega) (by omega);have e:chain OV l (tk m st)=dy OV l ((tk m' (kid st).2).r.length+1) (kid st).1 (tk m' (kid st).2):=by unfold chain;rw[q]
  rw[e];exact this
 ·have e:chain OV l (tk m st)=((OV (tk m st)).1,(OV (tk m st)).2):=by unfold chain dy;rw[if_pos (by rw[kt q.1])]
  rw[e];exact .inr ⟨q,fun he=>aw (q2 he) (Hy st)⟩
theorem wW{s:Bs}{o:UInt8}{Y Y':St→Ex×St}(hY:Tr T' Le N M Y Y')(en:iW T' Y'):∀(f f':Nat) (st:St) (m:Nat),st.r.length≤f→(tk m st).r.length≤f'→Ok st→Ok (again s o Y f st).2→st.r.length≤N→(tk m st).r.length≤M→Out T' Le (again s o Y f st) (again s o Y' f' (tk m st)):=by
 intro f;induction f with
 |zero=>
  intro f' st m hf hf' ok NJ hN hM;have hr:(tk m st).r=[]:=by have:=Es m st;exact aC (by omega)
  exact Out.stop (kZ en f').e hr ok
 |succ f ih=>
  intro f' st m hf hf' ok NJ hN hM;rcases eL m st with h|⟨k,t,r,rfl,er⟩
  ·exact Out.stop (kZ en f').e h ok
  ·have hl:(tk (k+1) st).r.length=(r.take k).length+1:=by rw[ou er];rfl
   obtain⟨f',rfl⟩:∃n,f'=n+1:=⟨f'-1,by omega⟩;simp only[again]at NJ⊢;rw[fg er];split at NJ
   ·rename_i ha;rw[if_pos ha,if_pos ha,dV];have hn:(next st).r.length+1=st.r.length:=by unfold next;simp only[er,bI,ab]
    have hn2:(tk k (next st)).r.length+1=(tk (k+1) st).r.length:=by rw[←dV];unfold next;rw[ou er];simp
    rcases ih f' (next st) k (by omega) (by omega) ok NJ (by omega) (by omega)with⟨m',q⟩|⟨q,q2⟩
    ·exact .same m' (by rw[q])
    ·exact .inr ⟨q,fun he=>GY (q2 he)⟩
   ·rename_i ha;rw[if_neg ha,if_neg ha];exact hY st (k+1) ok NJ hN hM
theorem tZ:∀(st:St) (m:Nat),Ok st→Ok (name T st).2→(∃m',name T' (tk m st)=((name T st).1,tk m' (name T st).2))∨(Fin T' (name T' (tk m st)).2∧(name T' (tk m st)).2.e=300):=by
 intro st m ok NJ;rcases eL m st with h|⟨k,t,r,rfl,er⟩
 ·exact .inr (Fin.end wH (gI h ok))
 ·have e1:name T st=if named st=true then(t.2.1,next st)else([],fail T 300 st):=by unfold name;rw[er]
  have e2:name T' (tk (k+1) st)=if named st=true then(t.2.1,tk k (next st))else([],fail T' 300 (tk (k+1) st)):=by unfold name;rw[ou er];simp only;rw[wS er,dV]
  rw[e1]at NJ⊢;rw[e2];split at NJ
  ·rename_i hn;rw[if_pos hn,if_pos hn];exact .inl ⟨k,rfl⟩
  ·exact absurd NJ.1 (ea (by decide))
theorem Dk:Tr T' Le N M (dT T) (dT T'):=by
 intro st m ok NJ hN hM;have o1:Ok (name T st).2:=by
  unfold dT at NJ;split at NJ
  ·exact Ok.back ((da _).trans (jm T _)) NJ
  ·exact NJ
 have hle:∀h h':Hd,Le (.mk h []) (.mk h' []):=fun h h'=>Nat.le_of_eq (by simp[depth,dI])
 rcases tZ (T:=T) (T':=T') st m ok o1 with⟨m',q⟩|⟨q,q2⟩
 ·rcases eL m' (name T st).2 with h|⟨k,t,r,hm,er⟩
  ·have e':dT T' (tk m st)=(.mk ⟨2,⟨0,0,dp⟩,bs (name T st).1,dp,0⟩ [],tk m' (name T st).2):=by unfold dT;rw[q];exact if_neg (by rw[eJ h];decide)
   rw[e'];refine .inr ⟨gI h o1,fun _=>?_⟩;unfold dT;split<;>exact hle _ _
  ·subst hm;have e':dT T' (tk m st)=(if dh [46] (name T st).2=true then(.mk ⟨2,⟨0,0,dp⟩,bs (name T' (tk k (next (name T st).2))).1,bs (name T st).1,0⟩ [],(name T' (tk k (next (name T st).2))).2)else(.mk ⟨2,⟨0,0,dp⟩,bs (name T st).1,dp,0⟩ [],tk (k+1) (name T st).2)):=by unfold dT;rw[q];simp only;rw[fg er,dV]
   rw[e'];unfold dT at NJ⊢;split at NJ
   ·rename_i ha;rw[if_pos ha,if_pos ha];rcases tZ (T:=T) (T':=T') (next (name T st).2) k o1 NJ with⟨n,w⟩|⟨w,w2⟩
    ·exact .same n (by rw[w])
    ·exact .all w w2
   ·rename_i ha;rw[if_neg ha,if_neg ha];exact .same (k+1) rfl
 ·have e:dT T' (tk m st)=(.mk ⟨2,⟨0,0,dp⟩,bs (name T' (tk m st)).1,dp,0⟩ [],(name T' (tk m st)).2):=by unfold dT;rw[if_neg (by rw[eJ q.1];decide)]
  rw[e];exact .all q q2
theorem zW{k:Nat}{t:Tok}{r:List Tok}(er:st.r=t::r)(NJ:Ok (literal T st).2):literal T' (tk (k+1) st)=((literal T st).1,tk k (literal T st).2):=by
 unfold literal at NJ⊢;rw[ou er];simp only[er]at NJ⊢;split
 ·rw[dV]
 ·split
  ·split
   ·rw[dV]
   ·rename_i h1 h2 h3;rw[if_neg h1,if_pos h2,if_neg h3]at NJ;exact absurd NJ.1 (ea (by decide))
  ·rw[dV]
theorem At(hX:Tr T' Le N M X X')(ev:NT X)(en:iW T' X'):Tr T' Le (N+1) (M+1) (dm T X) (dm T' X'):=by
 intro st m ok NJ hN hM;rcases eL m st with h|⟨k,t,r,rfl,er⟩
 ·exact Out.stop (lA X').e h ok
 ·unfold dm at NJ⊢;rw[pg er,zU er,fg er,fg er,fg er,fg er,(yC er iN).1];split at NJ
  ·rename_i h;rw[if_pos h,if_pos h];exact .same k (zW er NJ)
  rename_i h1;rw[if_neg h1,if_neg h1];split at NJ
  ·rename_i h;rw[if_pos h,if_pos h];exact o8 hX ev en.e.eo st (k+1) ok NJ hN hM
  rename_i h2;rw[if_neg h2,if_neg h2];split at NJ
  ·rename_i h;rw[if_pos h,if_pos h];exact .same k (by rw[dV])
  rename_i h3;rw[if_neg h3,if_neg h3];split at NJ
  ·rename_i h;rw[if_pos h,if_pos h];exact .same k (by rw[dV])
  rename_i h4;rw[if_neg h4,if_neg h4];split at NJ
  ·rename_i h;rw[if_pos h,if_pos h];exact .same k (by rw[dV])
  rename_i h5;rw[if_neg h5,if_neg h5];split at NJ
  ·rename_i h;rw[if_pos h,if_pos h];exact .same k (by rw[dV])
  rename_i h6;rw[if_neg h6,if_neg h6];split at NJ
  ·rename_i h;rw[if_pos h,if_pos h];exact Dk st (k+1) ok NJ hN hM
  rename_i h7;rw[if_neg h7,if_neg h7];rcases ux (k:=k) er iN with⟨w2,w3⟩|⟨w2,_⟩
  ·rw[w2,w3];rw[w3]at NJ;have hn:(next st).r.length+1=st.r.length:=by unfold next;simp only[er,bI,ab]
   have hn2:(tk k (next st)).r.length+1=(tk (k+1) st).r.length:=by rw[←dV];unfold next;rw[ou er];simp
   obtain⟨op,hop⟩:∃op,op=(one iN st).1:=⟨_,rfl⟩;rw[←hop]at NJ⊢;unfold fold at NJ⊢;refine o8 (T:=T) (f:=fun st=>if op=17∧dh [42] st=true then(.mk (hd op) [],next st)else(un op (X st).1,(X st).2)) (f':=fun st=>if op=17∧dh [42] st=true then(.mk (hd op) [],next st)else(un op (X' st).1,(X' st).2)) (N:=N) (M:=M) ?_ ?_ ?_ (next st) k ok NJ (by omega) (by omega)
   ·intro s n o o2 a b;rcases eL n s with h|⟨j,t',r',rfl,er'⟩
    ·have e:(if op=17∧dh [42] (tk n s)=true then((.mk (hd op) [],next (tk n s)):Ex×St)else(un op (X' (tk n s)).1,(X' (tk n s)).2))=(un op (X' (tk n s)).1,(X' (tk n s)).2):=if_neg (fun q=>by rw[eJ h]at q;exact absurd q.2 (by decide));simp only;rw[e];by_cases hc:op=17∧dh [42] s=true
     ·obtain⟨w,w2⟩:=Fin.end en.e (gI (T:=T') h o);exact .all w w2
     ·simp only[if_neg hc]at o2⊢;rcases hX s n o o2 a b with⟨m',q⟩|⟨q,q2⟩
      ·exact .same m' (by rw[q])
      ·exact .inr ⟨q,fun he=>GY (q2 he)⟩
    ·simp only;rw[fg er'];by_cases hc:op=17∧dh [42] s=true
     ·rw[if_pos hc,if_pos hc];exact .same j (by rw[dV])
     ·simp only[if_neg hc]at o2⊢;rcases hX s (j+1) o o2 a b with⟨m',q⟩|⟨q,q2⟩
      ·exact .same m' (by rw[q])
      ·exact .inr ⟨q,fun he=>GY (q2 he)⟩
   ·intro s;simp only;split
    ·exact da s
    ·exact ev s
   ·intro s hr;simp only;rw[if_neg (fun q=>by rw[eJ hr]at q;exact absurd q.2 (by decide))];exact en.e.eo s hr
  ·exact absurd w2 h7
theorem ED(hX:Tr T' Le N M X X')(ev:NT X)(en:iW T' X'):Tr T' Le (N+1) (M+1) (unary T X) (unary T' X'):=fun st m ok NJ hN hM=>wW (At hX ev en) (lA X') _ _ st m (aa _) (aa _) ok NJ hN hM
theorem Jd(hX:Tr T' Le N M X X')(ev:NT X)(ev':NT X')(en:iW T' X'):Tr T' Le (N+1) (M+1) (prod T X) (prod T' X'):=nZ (ED hX ev en) (pG ev) (pG ev') _
theorem GX(hX:Tr T' Le N M X X')(ev:NT X)(ev':NT X')(en:iW T' X'):Tr T' Le (N+1) (M+1) (sum T X) (sum T' X'):=nZ (Jd hX ev ev' en) (rX ev) (rX ev') _
theorem Gz(a:Ex)(l:List Bs):∀(st:St) (m:Nat),Ok st→Ok (expect T l st)→Out T' Le (a,expect T l st) (a,expect T' l (tk m st)):=fun st m ok NJ=>by
 rcases py (T:=T) (T':=T') l st m ok NJ with⟨n,q⟩|⟨q,q2⟩
 ·exact .same n (by rw[q])
 ·exact .all q q2
theorem AH(e:Ex)(st:St):Le e (j4 T X e st).1:=by
 unfold j4 RP Le;split
 ·split
  ·split<;> · simp only[jV];omega
  ·exact aa _
 ·simp only[jM];omega
theorem JF(hX:Tr T' Le N M X X')(ev:NT X)(ev':NT X')(en:iW T' X')(e:Ex):∀(st:St) (m:Nat),Ok st→Ok (j4 T X e st).2→st.r.length≤N+1→(tk m st).r.length≤M+1→Out T' Le (j4 T X e st) (j4 T' X' e (tk m st)):=by
 intro st m ok NJ hN hM;rcases eL m st with h|⟨k,t,r,rfl,er⟩
 ·have e1:j4 T' X' e (tk m st)=(e,tk m st):=by unfold j4;rw[if_pos (by rw[kt h]),if_neg (by rw[eJ h];decide)]
  rw[e1];exact .inr ⟨gI h ok,fun _=>AH e st⟩
 ·have hn:(next st).r.length+1=st.r.length:=by unfold next;simp only[er,bI,ab]
  have hn2:(tk k (next st)).r.length+1=(tk (k+1) st).r.length:=by rw[←dV];unfold next;rw[ou er];simp
  unfold j4 at NJ⊢;rw[(yC er il).1,fg er];split at NJ
  ·rename_i h0;rw[if_pos h0,if_pos h0];split at NJ
   ·rename_i hi;rw[if_pos hi,if_pos hi,dV];unfold RP at NJ⊢;rcases eL k (next st)with h|⟨j,t',r',rfl,er'⟩
    ·rw[if_neg (show¬dh [110,111,116] (tk k (next st))=true by rw[eJ h];decide)];obtain⟨q,q2⟩:=Fin.exp (T:=T') (l:=[[110,117,108,108]]) (by simp) (gI (T:=T') h ok);exact .all q q2
    ·rw[fg er',dV];split at NJ
     ·rename_i hh;rw[if_pos hh,if_pos hh];exact Gz _ _ _ _ ok NJ
     ·rename_i hh;rw[if_neg hh,if_neg hh];exact Gz _ _ _ _ ok NJ
   ·rename_i hi;rw[if_neg hi,if_neg hi];exact .same (k+1) rfl
  ·rename_i h0;rw[if_neg h0,if_neg h0];rcases ux (k:=k) er il with⟨w2,w3⟩|⟨w2,_⟩
   ·rw[w2,w3];rw[w3]at NJ;rcases GX hX ev ev' en (next st) k ok NJ (by omega) (by omega)with⟨n,q⟩|⟨q,q2⟩
    ·exact .same n (by rw[q])
    ·exact .inr ⟨q,fun he=>G3 (q2 he)⟩
   ·exact absurd w2 h0
theorem K1(hX:Tr T' Le N M X X')(ev:NT X)(ev':NT X')(en:iW T' X'):Tr T' Le (N+1) (M+1) (cmp T X) (cmp T' X'):=by
 intro st m ok NJ hN hM;have o1:Ok (sum T X st).2:=Ok.back (xC (nV ev) _ _) NJ;have hs:=(nV (T:=T) ev st).s.length_le;rcases GX hX ev ev' en st m ok o1 hN hM with⟨n,q⟩|⟨q,q2⟩
 ·have h9:=(nV (T:=T') ev' (tk m st)).s.length_le;rw[q]at h9;simp only at h9;have e:cmp T' X' (tk m st)=j4 T' X' (sum T X st).1 (tk n (sum T X st).2):=by unfold cmp;rw[q]
  rw[e];exact JF hX ev ev' en _ _ n o1 NJ (by omega) (by omega)
 ·have e:cmp T' X' (tk m st)=((sum T' X' (tk m st)).1,(sum T' X' (tk m st)).2):=by unfold cmp j4;rw[if_pos (by rw[kt q.1]),if_neg (by rw[eJ q.1];decide)]
  rw[e];exact .inr ⟨q,fun he=>aw (q2 he) (AH _ _)⟩
theorem Lf(hX:Tr T' Le N M X X')(ev:NT X)(ev':NT X')(en:iW T' X'):Tr T' Le (N+1) (M+1) (jt T X) (jt T' X'):=fun st m ok NJ hN hM=>wW (K1 hX ev ev' en) (xZ X') _ _ st m (aa _) (aa _) ok NJ hN hM
theorem LS(hX:Tr T' Le N M X X')(ev:NT X)(ev':NT X')(en:iW T' X'):Tr T' Le (N+1) (M+1) (oo T X) (oo T' X'):=nZ (Lf hX ev ev' en) (uS ev) (uS ev') _
theorem Mx(hX:Tr T' Le N M X X')(ev:NT X)(ev':NT X')(en:iW T' X'):Tr T' Le (N+1) (M+1) (Sw T X) (Sw T' X'):=nZ (LS hX ev ev' en) (vt ev) (vt ev') _
theorem Ms:∀(M N n n':Nat),N<n→M<n'→Tr T' Le N M (Pw T n) (Pw T' n'):=by
 intro M;induction M with
 |zero=>
  intro N n n' hn hn' st m ok _ _ hM;obtain⟨k,rfl⟩:∃k,n'=k+1:=⟨n'-1,by omega⟩;exact Out.stop (oh (Pw T' k)).e (aC (by omega)) ok
 |succ M ih=>
  intro N n n' hn hn' st m ok NJ hN hM;obtain⟨k,rfl⟩:∃k,n=k+1:=⟨n-1,by omega⟩;obtain⟨k',rfl⟩:∃k,n'=k+1:=⟨n'-1,by omega⟩;cases N with
  |zero=>
   have:=Es m st;exact Out.stop (oh (Pw T' k')).e (aC (by omega)) ok
  |succ N=>
   obtain⟨j,rfl⟩:∃j,k'=j+1:=⟨k'-1,by omega⟩;exact Mx (ih N k (j+1) (by omega) (by omega)) (qu T k) (qu T' (j+1)) (oh (Pw T' j)) st m ok NJ hN hM
theorem Nf:∀N M,Tr T' Le N M (or T) (or T'):=fun _ _ st m ok NJ _ _=>Ms _ _ _ _ (bw _) (bw _) st m ok NJ (aa _) (aa _)
theorem Je:∀N M,Tr T' (fun _ _=>True) N M (expr T) (expr T'):=by
 intro N M st m ok NJ hN hM;have hd:¬24<depth (or T st).1:=by intro h;unfold expr at NJ;rw[if_pos h]at NJ;exact absurd NJ.2 (by simp)
 have o1:Ok (or T st).2:=by unfold expr at NJ;rw[if_neg hd]at NJ;exact NJ
 have e1:expr T st=((or T st).1,(or T st).2):=by unfold expr;rw[if_neg hd]
 rw[e1];rcases Nf (T:=T) (T':=T') N M st m ok o1 hN hM with⟨n,q⟩|⟨q,q2⟩
 ·have e2:expr T' (tk m st)=((or T st).1,tk n (or T st).2):=by unfold expr;rw[q];simp only;rw[if_neg hd]
  rw[e2];exact .same n rfl
 ·by_cases h0:(or T' (tk m st)).2.e=0
  ·have hle:=q2 h0;have e2:expr T' (tk m st)=((or T' (tk m st)).1,(or T' (tk m st)).2):=by unfold expr;rw[if_neg (by unfold Le at hle;omega)]
   rw[e2];exact .any q
  ·have h3:(or T' (tk m st)).2.e=300∧(or T' (tk m st)).2.c=T':=by
    rcases q.2 with h|h
    ·exact absurd h.1 h0
    ·exact h
   refine .any ⟨?_,.inr ?_⟩
   ·unfold expr;simp only;split<;>exact q.1
   ·unfold expr;simp only;split<;>exact h3
end
end I
end
section
namespace I
open Ev (Ex Hd)
structure K {α:Type} (T':Nat) (f f':St→α×St):Prop where
 ev:NT f
 ev':NT f'
 eo:Eo T' f'
 tr:∀N M,Tr T' (fun _ _=>True) N M f f'
section
variable{α β:Type}{T T':Nat}{f f' g g':St→α×St}
theorem K.go(h:K T' f f')(st:St)(m:Nat)(ok:Ok st)(NJ:Ok (f st).2):Out T' (fun _ _=>True) (f st) (f' (tk m st)):=h.tr _ _ st m ok NJ (aa _) (aa _)
theorem K.mk'(ev:NT f)(ev':NT f')(eo:Eo T' f')(tr:∀st m,Ok st→Ok (f st).2→Out T' (fun _ _=>True) (f st) (f' (tk m st))):K T' f f':=⟨ev,ev',eo,fun _ _ st m a b _ _=>tr st m a b⟩
theorem K.ret(a:α):K T' (fun st=>(a,st)) (fun st=>(a,st)):=.mk' (fun st=>ON.refl st) (fun st=>ON.refl st) (Eo.ret _) fun _ m _ _=>.same m rfl
theorem K.bind{F F':α→St→β×St}(h:K T' f f')(hF:∀a,K T' (F a) (F' a)):K T' (fun st=>F (f st).1 (f st).2) (fun st=>F' (f' st).1 (f' st).2):=
 .mk' (fun st=>(h.ev st).trans ((hF _).ev _)) (fun st=>(h.ev' st).trans ((hF _).ev' _)) (Eo.bind h.eo fun a=>(hF a).eo) fun st m ok NJ=>by
  have o1:Ok (f st).2:=Ok.back ((hF _).ev _) NJ
  rcases h.go st m ok o1 with⟨n,q⟩|⟨q,_⟩
  ·simp only[q];exact(hF _).go _ n o1 NJ
  ·exact .any (Fin.app (hF _).eo q)
theorem K.fst{F:α→β}(h:K T' f f'):K T' (fun st=>(F (f st).1,(f st).2)) (fun st=>(F (f' st).1,(f' st).2)):=K.bind (F:=fun a st=>(F a,st)) (F':=fun a st=>(F a,st)) h fun a=>K.ret (F a)
theorem K.acc{s:Bs}(h:K T' f f')(k:K T' g g'):K T' (fun st=>if dh s st=true then f (next st)else g st) (fun st=>if dh s st=true then f' (next st)else g' st):=by
 refine .mk' (fun st=>?_) (fun st=>?_) (Eo.acc (f:=fun st=>f' (next st)) k.eo) fun st m ok NJ=>?_
 ·split
  ·exact(da st).trans (h.ev _)
  ·exact k.ev st
 ·split
  ·exact(da st).trans (h.ev' _)
  ·exact k.ev' st
 ·rcases eL m st with hr|⟨j,t,r,rfl,er⟩
  ·rw[if_neg (show¬dh s (tk m st)=true by rw[eJ hr];decide)];exact .any (Fin.app k.eo (gI hr ok))
  ·rw[fg er,dV];split at NJ
   ·rename_i ha;rw[if_pos ha,if_pos ha];exact h.go _ j ok NJ
   ·rename_i ha;rw[if_neg ha,if_neg ha];exact k.go _ (j+1) ok NJ
theorem DM{l:List Bs}{s:St}(h:s.r=[]):expect T l s=s∨expect T l s=fail T 300 s:=by
 cases l with
 |nil=>exact .inl rfl
 |cons a l=>exact .inr (lf h (by simp))
theorem K.exp(l:List Bs)(h:K T' f f'):K T' (fun st=>f (expect T l st)) (fun st=>f' (expect T' l st)):=by
 refine .mk' (fun st=>(fa T l st).trans (h.ev _)) (fun st=>(fa T' l st).trans (h.ev' _)) (fun st hr=>?_) fun st m ok NJ=>?_
 ·rcases DM (T:=T') (l:=l) hr with e|e
  ·rw[e];exact h.eo st hr
  ·rw[e];rcases h.eo _ (iJ T' 300 st)with k|k
   ·exact .inr k
   ·rw[k,mO _ _ _ (by decide)];exact .inr rfl
 ·have o1:Ok (expect T l st):=Ok.back (h.ev _) NJ;rcases py (T:=T) (T':=T') l st m ok o1 with⟨n,q⟩|⟨q,_⟩
  ·simp only[q];exact h.go _ n o1 NJ
  ·exact .any (Fin.app h.eo q)
theorem K.name:K T' (name T) (I.name T'):=.mk' (jm T) (jm T') wH.eo fun st m ok NJ=>by
 rcases tZ (T:=T) (T':=T') st m ok NJ with⟨n,q⟩|⟨q,_⟩
 ·exact .same n q
 ·exact .any q
theorem K.choose:∀(l:List Bs) (i:Nat),K T' (choose T i l) (I.choose T' i l):=by
 intro l i;refine .mk' (rU T l i) (rU T' l i) (qE i l).eo ?_;induction l generalizing i with
 |nil=>intro st m ok NJ;exact absurd NJ.1 (ea (by decide))
 |cons s l ih=>
  intro st m ok NJ;rcases eL m st with hr|⟨j,t,r,rfl,er⟩
  ·exact .any (Fin.app (qE i (s::l)).eo (gI hr ok))
  ·simp only[I.choose]at NJ⊢;rw[fg er,dV];split at NJ
   ·rename_i ha;rw[if_pos ha,if_pos ha];exact .same j rfl
   ·rename_i ha;rw[if_neg ha,if_neg ha];exact ih (i+1) st (j+1) ok NJ
theorem K.expr:K T' (expr T) (I.expr T'):=⟨kX T,kX T',Hf.eo,Je⟩
theorem K.inside(h:K T' f f'):K T' (inside T f) (I.inside T' f'):=.mk' (lh h.ev) (lh h.ev') (qH h.eo).eo fun st m ok NJ=>o8 (h.tr st.r.length (tk m st).r.length) h.ev h.eo st m ok NJ (Nat.le_succ _) (Nat.le_succ _)
theorem mf{most:Nat}{one:St→α×St}{n:Nat}{l:List α}{st:St}(h:st.r=[]):more T most one n l st=(l,st):=by
 cases n with
 |zero=>rfl
 |succ n=>unfold more;rw[if_neg (by rw[eJ h];decide)]
theorem IN{most:Nat}(h:K T' f f'):∀(n n':Nat) (l:List α) (st:St) (m:Nat),st.r.length<n→(tk m st).r.length<n'→Ok st→Ok (more T most f n l st).2→Out T' (fun _ _=>True) (more T most f n l st) (more T' most f' n' l (tk m st)):=by
 intro n;induction n with
 |zero=>intro n' l st m hn;omega
 |succ n ih=>
  intro n' l st m hn hn' ok NJ;obtain⟨n',rfl⟩:∃k,n'=k+1:=⟨n'-1,by omega⟩;rcases eL m st with hr|⟨j,t,r,rfl,er⟩
  ·rw[mf hr];exact .any (gI hr ok)
  ·unfold more at NJ⊢;rw[fg er,dV];split at NJ
   ·rename_i ha;rw[if_pos ha,if_pos ha];split at NJ
    ·exact absurd NJ.1 lr
    ·rename_i hm;rw[if_neg hm,if_neg hm];have hx:(next st).r.length+1=st.r.length:=by unfold next;simp only[er,bI,ab]
     have hx2:(tk j (next st)).r.length+1=(tk (j+1) st).r.length:=by rw[←dV];unfold next;rw[ou er];simp
     have hs:=(h.ev (next st)).s.length_le;have o1:Ok (f (next st)).2:=Ok.back (rY h.ev _ _ _) NJ;rcases h.go (next st) j ok o1 with⟨k,q⟩|⟨q,_⟩
     ·have h9:=(h.ev' (tk j (next st))).s.length_le;rw[q]at h9⊢;simp only at h9⊢;exact ih n' _ _ k (by omega) (by omega) o1 NJ
     ·rw[mf q.1];exact .any q
   ·rename_i ha;rw[if_neg ha,if_neg ha];exact .same (j+1) rfl
theorem K.list(most:Nat)(h:K T' f f'):K T' (list T most f) (I.list T' most f'):=by
 refine .mk' (om h.ev) (om h.ev') (fun st hr=>?_) fun st m ok NJ=>?_
 ·unfold I.list;rcases h.eo st hr with e|e
  ·rw[e,mf hr];exact .inl rfl
  ·rw[e,mf (iJ T' 300 st)];exact .inr rfl
 ·have o1:Ok (f st).2:=Ok.back (rY h.ev _ _ _) NJ;rcases h.go st m ok o1 with⟨k,q⟩|⟨q,_⟩
  ·have e:I.list T' most f' (tk m st)=more T' most f' ((tk k (f st).2).r.length+1) [(f st).1] (tk k (f st).2):=by unfold I.list;rw[q]
   rw[e];exact IN h _ _ _ _ k (bw _) (bw _) o1 NJ
  ·have e:(I.list T' most f' (tk m st)).2=(f' (tk m st)).2:=by unfold I.list;rw[mf q.1]
   exact .any (by rw[e];exact q)
end
section
variable{T T':Nat}
end
end I
end
section
namespace I
open Ev (Ex Hd)
section
variable{T T':Nat}
end
def fy:Nat→List Bs→List BT→List Tok
 |a,s::l,t::r=>(t.1,t.2,a)::fy (a+s.length+1) l r
 |_,_,_=>[]
end I
end
end Go.Proofs.YtnicfobpclehkaaGreatDoor
