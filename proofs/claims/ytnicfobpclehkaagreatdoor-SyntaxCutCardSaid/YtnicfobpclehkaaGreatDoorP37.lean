import Derived.Test.YtnicfobpclehkaaGreatDoorP30
import Derived.Test.YtnicfobpclehkaaGreatDoorP36
set_option maxHeartbeats 200000
set_option linter.unusedVariables false
set_option linter.unusedSimpArgs false
namespace Go.Proofs.YtnicfobpclehkaaGreatDoor
section
set_option maxRecDepth 100000
namespace Lex
def Bl(R:List UInt8):Prop:=R=[]∨∃c W,R=c::W∧(c.toNat=32∨c.toNat=9∨c.toNat=10)
theorem An:Bl []:=.inl rfl
theorem qR(W:List UInt8):Bl (32::W):=.inr ⟨32,W,rfl,.inl rfl⟩
theorem uq{p:UInt8→Bool}{R:List UInt8}(hp:∀c:UInt8,(c.toNat=32∨c.toNat=9∨c.toNat=10)→p c=false)(h:Bl R)(l:List UInt8):span p (l++R)=span p l:=by
 rcases h with rfl|⟨c,W,rfl,hc⟩
 ·rw[bF]
 ·exact vG (hp c hc) W l
theorem IV(c:UInt8)(h:c.toNat=32∨c.toNat=9∨c.toNat=10):eN c=false:=by rcases h with h|h|h<;>simp[eN,letter,digit,h]
theorem wk(c:UInt8)(h:c.toNat=32∨c.toNat=9∨c.toNat=10):digit c=false:=by rcases h with h|h|h<;>simp[digit,h]
theorem KD{R:List UInt8}(h:Bl R){c:UInt8}(h32:c.toNat≠32)(h9:c.toNat≠9)(h10:c.toNat≠10)(l:List UInt8):dQ (l++R) l.length c=false:=by
 unfold dQ;rw[bg (aa _),Nat.sub_self];rcases h with rfl|⟨d,W,rfl,hd⟩
 ·rfl
 ·rw[cq];intro e;injection e with e
  subst e;omega
theorem uX{R:List UInt8}(h:Bl R){c:UInt8}(h32:c.toNat≠32)(h9:c.toNat≠9)(h10:c.toNat≠10):dQ R 0 c=false:=KD h h32 h9 h10 []
theorem iT{c:UInt8}{r:List UInt8}(hb:blank c=false)(h:¬(c.toNat=45∧dQ r 0 45=true)):skip false (c::r)=c::r:=by
 simp only[skip];rw[if_neg (by rw[hb];decide),if_neg h]
end Lex
namespace I
open Ev (Ex Hd)
open Lex (Bl Sk bare skip token)
structure PT (s:Bs) (t:BT):Prop where
 ne:s≠[]
 cut:∀R,Bl R→skip false (s++R)=s++R∧token (s++R)=some (t.1,t.2,s.length)
 nb:(39:UInt8)∈s∨∀c∈s,c≠32
theorem uP{c:UInt8}(h:Lex.letter c=true):Lex.blank c=false∧c.toNat≠45:=by
 simp only[Lex.letter,cJ,aI]at h;have:c.toNat≠32∧c.toNat≠9∧c.toNat≠10∧c.toNat≠13∧c.toNat≠45:=by omega
 exact⟨by simp[Lex.blank,this],this.2.2.2.2⟩
theorem Fm{p:UInt8→Bool}:∀{l:List UInt8},Lex.span p l=l.length→∀c∈l,p c=true:=by
 intro l;induction l with
 |nil=>intro _ c hc;cases hc
 |cons a l ih=>
  intro h c hc;simp only[Lex.span,ab]at h;split at h
  ·rename_i ha;rcases af.1 hc with rfl|hc
   ·exact ha
   ·exact ih (by omega) c hc
  ·omega
theorem rL{p:UInt8→Bool}:∀{l:List UInt8},(∀c∈l,p c=true)→Lex.span p l=l.length:=by
 intro l;induction l with
 |nil=>intro _;rfl
 |cons a l ih=>
  intro h;simp only[Lex.span,ab];rw[if_pos (h a ag),ih fun c hc=>h c (au _ hc)]
theorem mP{n:Bs}(h:Lex.word n=true):PT n (wd n):=by
 unfold Lex.word at h;simp only[aN,aI]at h;obtain⟨h1,h2,h3,h4⟩:=h;have hall:=Fm h4;cases n with
 |nil=>simp at h1
 |cons c r=>
  have hc:Lex.letter c=true:=h3;obtain⟨f1,f2⟩:=uP hc;refine⟨by simp,fun R hR=>⟨?_,?_⟩,.inr fun d hd=>?_⟩
  ·exact Lex.iT f1 fun e=>f2 e.1
  ·have hs:Lex.span Lex.eN (c::r++R)=(c::r).length:=by rw[Lex.uq Lex.IV hR,h4]
   have hx:¬(c.toNat=120∧Lex.dQ (r++R) 0 39=true):=by
    rintro⟨_,e⟩;cases r with
    |nil=>rw[aZ,Lex.uX hR (by decide) (by decide) (by decide)]at e;cases e
    |cons d r=>
     have hd:=hall d (by simp);unfold Lex.dQ at e;simp only[List.cons_append,List.getElem?_cons_zero,bz,aI]at e;rw[e]at hd;exact absurd hd (by decide)
   rw[List.cons_append]at hs⊢;unfold token;dsimp only;rw[if_neg hx,if_pos hc];unfold Lex.me;rw[hs,if_pos h2,←List.cons_append,List.take_left];rfl
  ·rintro rfl;exact absurd (hall _ hd) (by decide)
theorem fb{n:Bs}(h:NX n):PT n (wd n):=mP h.1
theorem Ai:∀c∈Lex.tb,c.toNat≠120∧Lex.letter c=false∧Lex.digit c=false∧c.toNat≠39∧Lex.blank c=false∧c≠32:=by decide
theorem Fz{c:UInt8}(h:c∈Lex.tb):PT [c] (sg [c]):=by
 obtain⟨f1,f2,f3,f4,f5,f6⟩:=Ai c h;refine⟨by simp,fun R hR=>⟨?_,?_⟩,.inr fun d hd=>by simp at hd;rw[hd];exact f6⟩
 ·have h45:Lex.dQ R 0 45=false:=Lex.uX hR (by decide) (by decide) (by decide);exact Lex.iT f5 fun e=>by have e2:Lex.dQ R 0 45=true:=e.2;rw[h45]at e2;cases e2
 ·show token (c::R)=_;unfold token;dsimp only;rw[if_neg fun e=>f1 e.1,if_neg (by rw[f2];decide),if_neg (by rw[f3];decide),if_neg f4];unfold Lex.lY;dsimp only;rw[if_neg,if_pos h]
  ·rfl
  ·rw[Lex.uX hR (by decide) (by decide) (by decide),Lex.uX hR (by decide) (by decide) (by decide)];simp
theorem rG{a b:UInt8}(h:(a=60∧b=61)∨(a=60∧b=62)∨(a=62∧b=61)):PT [a,b] (sg [a,b]):=by
 rcases h with⟨rfl,rfl⟩|⟨rfl,rfl⟩|⟨rfl,rfl⟩
 all_goals
  refine⟨by simp,fun R hR=>⟨?_,?_⟩,.inr (by decide)⟩
  ·exact Lex.iT (by decide) (by simp)
  ·rfl
theorem jh{c:UInt8}(h:Lex.digit c=true):Lex.blank c=false∧c.toNat≠45∧c.toNat≠120∧Lex.letter c=false∧c≠32:=by
 simp only[Lex.digit,aI]at h;refine⟨?_,by omega,by omega,?_,?_⟩
 ·have:c.toNat≠32∧c.toNat≠9∧c.toNat≠10∧c.toNat≠13:=by omega
  simp[Lex.blank,this]
 ·simp[Lex.letter];omega
 ·rintro rfl;exact absurd h (by decide)
theorem Lz{s:Bs}(hd:∀c∈s,Lex.digit c=true)(hne:s≠[])(h0:Lex.dQ s 0 48=true→s.length≤1):PT s (2,s):=by
 cases s with
 |nil=>exact absurd rfl hne
 |cons c r=>
  obtain⟨f1,f2,f3,f4,f5⟩:=jh (hd c (by simp));refine⟨hne,fun R hR=>⟨?_,?_⟩,.inr fun d hdm=>(jh (hd d hdm)).2.2.2.2⟩
  ·exact Lex.iT f1 fun e=>f2 e.1
  ·have hs:Lex.span Lex.digit (c::r++R)=(c::r).length:=by rw[Lex.uq Lex.wk hR,rL hd]
   have h46:=Lex.KD hR (c:=46) (by decide) (by decide) (by decide) (c::r);have e0:Lex.dQ (c::r++R) 0 48=Lex.dQ (c::r) 0 48:=rfl;rw[List.cons_append]at hs h46 e0⊢;unfold token;dsimp only;rw[if_neg fun e=>f3 e.1,if_neg (by rw[f4];decide),if_pos (hd c (by simp))];unfold Lex.gN;rw[hs,e0,if_neg fun e=>by have:=h0 e.1;omega,h46,if_neg fun e=>absurd e.1 (by decide),←List.cons_append,List.take_left]
theorem Mz{a b:Bs}(QC:∀c∈a,Lex.digit c=true)(U4:∀c∈b,Lex.digit c=true)(hne:a≠[])(h0:Lex.dQ a 0 48=true→a.length≤1)(hb1:1≤b.length)(hb4:b.length≤4):PT (a++46::b) (2,a++46::b):=by
 cases a with
 |nil=>exact absurd rfl hne
 |cons c r=>
  obtain⟨f1,f2,f3,f4,f5⟩:=jh (QC c (by simp));refine⟨by simp,fun R hR=>⟨?_,?_⟩,.inr fun d hdm=>?_⟩
  ·exact Lex.iT f1 fun e=>f2 e.1
  ·have e1:c::r++46::b++R=c::r++46::(b++R):=by simp
   rw[e1];have hs:Lex.span Lex.digit (c::r++46::(b++R))=(c::r).length:=by rw[Lex.vG (by decide) (b++R) (c::r),rL QC]
   have h46:Lex.dQ (c::r++46::(b++R)) (c::r).length 46=true:=by unfold Lex.dQ;rw[bg (aa _),Nat.sub_self];rfl
   have hdr:(c::r++46::(b++R)).drop ((c::r).length+1)=b++R:=by rw[←bU,List.drop_left];rfl
   have hsb:Lex.span Lex.digit ((c::r++46::(b++R)).drop ((c::r).length+1))=b.length:=by rw[hdr,Lex.uq Lex.wk hR,rL U4]
   have e0:Lex.dQ (c::r++46::(b++R)) 0 48=Lex.dQ (c::r) 0 48:=rfl;have et:(c::r++46::(b++R)).take ((c::r).length+1+b.length)=c::r++46::b:=by
    have:c::r++46::(b++R)=(c::r++46::b)++R:=by simp
    rw[this];exact List.take_left' (by simp only[ah,ab];omega)
   have el:(c::r++46::b).length=(c::r).length+1+b.length:=by simp only[ah,ab];omega
   rw[el];rw[List.cons_append]at hs h46 hsb e0 et⊢;unfold token;dsimp only;rw[if_neg fun e=>f3 e.1,if_neg (by rw[f4];decide),if_pos (QC c (by simp))];unfold Lex.gN;rw[hs,e0,if_neg fun e=>by have:=h0 e.1;omega,h46,hsb,if_pos ⟨rfl,by omega⟩,if_neg (by omega),et]
  ·rcases aM.1 hdm with h|h
   ·exact(jh (QC d h)).2.2.2.2
   ·rcases af.1 h with rfl|h
    ·decide
    ·exact(jh (U4 d h)).2.2.2.2
theorem CM:∀(s R:Bs),Bl R→Lex.quote (NF.quo s++39::R)=some (s,R):=by
 intro s;induction s with
 |nil=>
  intro R hR;rcases hR with rfl|⟨c,W,rfl,hc⟩
  ·rfl
  ·show Lex.quote (39::c::W)=_;unfold Lex.quote;rw[if_pos (by decide),if_neg (by omega)]
 |cons c s ih=>
  intro R hR;have:=ih R hR;rw[NF.rK];by_cases h:c.toNat=39
  ·have e:c=39:=aF.1 h;subst e;rw[if_pos (by decide)];show Lex.quote (39::39::(NF.quo s++39::R))=_;unfold Lex.quote;rw[if_pos (by decide),if_pos (by decide),this];rfl
  ·rw[if_neg h];obtain⟨d,W,e⟩:∃d W,NF.quo s++39::R=d::W:=by
    cases hq:NF.quo s with
    |nil=>exact⟨39,R,rfl⟩
    |cons d W=>exact⟨d,W++39::R,rfl⟩
   show Lex.quote (c::(NF.quo s++39::R))=_;rw[e]at this⊢;unfold Lex.quote;rw[if_neg h,this];rfl
theorem JI{s:Bs}(h:s.length≤200):PT ([39]++NF.quo s++[39]) (3,s):=by
 refine⟨by simp,fun R hR=>?_,.inl (by simp)⟩;have e:[39]++NF.quo s++[39]++R=39::(NF.quo s++39::R):=by simp
 rw[e];refine⟨Lex.iT (by decide) (by intro e;exact absurd e.1 (by decide)),?_⟩;unfold token;dsimp only;rw[if_neg (by intro e;exact absurd e.1 (by decide)),if_neg (by decide),if_neg (by decide),if_pos (by decide)];unfold Lex.iE;rw[show(39::(NF.quo s++39::R)).drop 1=NF.quo s++39::R from rfl,CM s R hR];dsimp only;rw[if_pos h];refine congrArg (fun n=>some ((3:UInt8),s,n)) ?_;simp only[ah,ab,ai];omega
theorem Jg:∀n:Fin 256,Lex.pair (NF.iL (n.val/16)) (NF.iL (n.val%16))=UInt8.ofNat n.val:=by decide
theorem vD:∀n:Fin 16,Lex.hex (NF.iL n.val)=true∧(NF.iL n.val).toNat≠39:=by decide
theorem Eh(c:UInt8):Lex.pair (NF.iL (c.toNat/16)) (NF.iL (c.toNat%16))=c:=by
 have h:=Jg ⟨c.toNat,c.toNat_lt⟩;have e:UInt8.ofNat c.toNat=c:=UInt8.ofNat_toNat;rw[e]at h;exact h
theorem yL:∀(s R:Bs),Lex.gL (NF.gM s++39::R)=some (s,R):=by
 intro s;induction s with
 |nil=>
  intro R;cases R with
  |nil=>rfl
  |cons c W=>rfl
 |cons c s ih=>
  intro R;rw[NF.DO];show Lex.gL (NF.iL (c.toNat/16)::NF.iL (c.toNat%16)::(NF.gM s++39::R))=_;have ha:=vD ⟨c.toNat/16,by have:=c.toNat_lt;omega⟩;have hb:=vD ⟨c.toNat%16,cK _ (by decide)⟩;unfold Lex.gL;rw[if_neg ha.2,if_pos ⟨ha.1,hb.1⟩,ih R,Eh];rfl
theorem G4{s:Bs}(h:s.length≤200):PT ([120,39]++NF.gM s++[39]) (4,s):=by
 refine⟨by simp,fun R hR=>?_,.inl (by simp)⟩;have e:[120,39]++NF.gM s++[39]++R=120::39::(NF.gM s++39::R):=by simp
 rw[e];refine⟨Lex.iT (by decide) (by intro e;exact absurd e.1 (by decide)),?_⟩;unfold token;dsimp only;rw[if_pos ⟨by decide,rfl⟩];unfold Lex.jr;rw[show(120::39::(NF.gM s++39::R)).drop 2=NF.gM s++39::R from rfl,yL];dsimp only;rw[if_pos h];refine congrArg (fun n=>some ((4:UInt8),s,n)) ?_;simp only[ah,ab,ai];omega
theorem wA(n:Nat):Lex.dQ (Go.Lib.decDigits n) 0 48=true→(Go.Lib.decDigits n).length≤1:=by
 intro h;rw[NF.mE,NF.ub];rcases cl 1 (Go.Lib.nDigits n)with h1|h1
 ·exfalso;obtain⟨j,hj⟩:∃j,Go.Lib.nDigits n=j+1:=⟨Go.Lib.nDigits n-1,by omega⟩;have hp:=Go.Lib.lt_pow_nDigits n;rw[NF.mE,hj,NF.yc]at h;rw[hj,Nat.pow_succ]at hp;unfold Lex.dQ at h;simp only[List.getElem?_cons_zero,bz,aI]at h;have ht:=NF.lS n j;rw[h]at ht;have h48:(48:UInt8).toNat=48:=rfl;rw[h48]at ht;have hge:10^j≤n:=by
   rcases cl n (10^j)with hl|hl
   ·have:=NF.ke hl (by omega);omega
   ·exact hl
  have hpos:0<10^j:=Nat.pow_pos (by omega);have hq1:1≤n/10^j:=Nat.div_pos hge hpos;have hq2:n/10^j<10:=Nat.div_lt_of_lt_mul (by omega);rw[Nat.mod_eq_of_lt hq2]at ht;omega
 ·exact h1
theorem Bq(n:Nat):PT (Go.Lib.decDigits n) (2,Go.Lib.decDigits n):=Lz (kI n) (NF.ru n) (wA n)
theorem EG{v:Cell.Val}(h:nL v):PT (NF.prt v) (bL v):=by
 rcases h with rfl|rfl|rfl|⟨n,hn,rfl⟩|⟨n,hn,rfl⟩|⟨s,hs,rfl⟩|⟨s,hs,rfl⟩
 ·exact mP (n:=[110,117,108,108]) (by decide)
 ·exact mP (n:=[102,97,108,115,101]) (by decide)
 ·exact mP (n:=[116,114,117,101]) (by decide)
 ·show PT (NF.prt _) (2,NF.prt _);rw[jB];exact Bq n
 ·show PT (NF.prt _) (2,NF.prt _);rw[qq];have h4:=NF.oO (n%10000) (cK _ (by decide));exact Mz (kI _) (CU _ _) (NF.ru _) (wA _) (by omega) (by omega)
 ·have hr:=nL.right (v:=⟨4,0,bs s⟩) (.inr (.inr (.inr (.inr (.inr (.inl ⟨s,hs,rfl⟩))))));have e:NF.prt ⟨4,0,bs s⟩=[39]++NF.quo s++[39]:=by unfold NF.prt;rw[if_neg (by rw[hr];decide)];show [39]++NF.quo (bs s).data.toList++[39]=_;rw[dA]
  have eb:bL ⟨4,0,bs s⟩=(3,s):=by show((3:UInt8),(bs s).data.toList)=(3,s);rw[dA]
  rw[e,eb];exact JI hs
 ·have hr:=nL.right (v:=⟨5,0,bs s⟩) (.inr (.inr (.inr (.inr (.inr (.inr ⟨s,hs,rfl⟩))))));have e:NF.prt ⟨5,0,bs s⟩=[120,39]++NF.gM s++[39]:=by unfold NF.prt;rw[if_neg (by rw[hr];decide)];show [120,39]++NF.gM (bs s).data.toList++[39]=_;rw[dA]
  have eb:bL ⟨5,0,bs s⟩=(4,s):=by show((4:UInt8),(bs s).data.toList)=(4,s);rw[dA]
  rw[e,eb];exact G4 hs
def NL:List Bs→List BT→Prop
 |[],[]=>True
 |s::l,t::r=>PT s t∧NL l r
 |[],_::_=>False
 |_::_,[]=>False
theorem NL.app:∀{l m:List Bs} {r q:List BT},NL l r→NL m q→NL (l++m) (r++q):=by
 intro l;induction l with
 |nil=>
  intro m r q h h2;cases r with
  |nil=>exact h2
  |cons t r=>exact absurd h id
 |cons s l ih=>
  intro m r q h h2;cases r with
  |nil=>exact absurd h id
  |cons t r=>exact⟨h.1,ih h.2 h2⟩
theorem NL.len:∀{l:List Bs} {r:List BT},NL l r→r.length=l.length:=by
 intro l;induction l with
 |nil=>
  intro r h;cases r with
  |nil=>rfl
  |cons t r=>exact absurd h id
 |cons s l ih=>
  intro r h;cases r with
  |nil=>exact absurd h id
  |cons t r=>simp[ih h.2]
theorem NL.one{s:Bs}{t:BT}(h:PT s t):NL [s] [t]:=⟨h,trivial⟩
theorem pw{w:Bs}(h:Lex.word w=true):PT w (wd w):=mP h
theorem ps{c:UInt8}(h:c∈Lex.tb):PT [c] (sg [c]):=Fz h
theorem NL.words:∀{l:List Bs},(∀w∈l,Lex.word w=true)→NL l (l.map wd):=by
 intro l;induction l with
 |nil=>intro _;exact trivial
 |cons w l ih=>intro h;exact⟨mP (h w ag),ih fun v hv=>h v (au _ hv)⟩
theorem NL.pC{α:Type}{p:α→List Bs}{b:α→List BT}:∀{l:List α},(∀x∈l,NL (p x) (b x))→NL (I.pC p l) (bC b l):=by
 intro l;induction l with
 |nil=>intro _;exact trivial
 |cons x l ih=>
  intro h;have hx:=h x ag;have hl:=ih fun y hy=>h y (au _ hy)
  cases l with
  |nil=>
   show NL (p x) (b x++[]);rw[bF];exact hx
  |cons y l=>
   show NL (p x++[44]::I.pC p (y::l)) (b x++(sg [44]::b y++(l.flatMap fun y=>sg [44]::b y)));exact hx.app ⟨ps (by decide),hl⟩
theorem uo{o:UInt8}(h:o∈([3,4,5,6,7,8,9,10,11,12,13,14,15,17,18,19,20,21]:List UInt8)):PT (dw o) (Qo o):=by
 simp only[af,aj,aH]at h;rcases h with rfl|rfl|rfl|rfl|rfl|rfl|rfl|rfl|rfl|rfl|rfl|rfl|rfl|rfl|rfl|rfl|rfl|rfl
 ·exact ps (c:=45) (by decide)
 ·exact ps (c:=43) (by decide)
 ·exact ps (c:=45) (by decide)
 ·exact ps (c:=42) (by decide)
 ·exact ps (c:=61) (by decide)
 ·exact rG (a:=60) (b:=62) (by decide)
 ·exact ps (c:=60) (by decide)
 ·exact rG (a:=60) (b:=61) (by decide)
 ·exact ps (c:=62) (by decide)
 ·exact rG (a:=62) (b:=61) (by decide)
 ·exact pw (w:=[97,110,100]) (by decide)
 ·exact pw (w:=[111,114]) (by decide)
 ·exact pw (w:=[110,111,116]) (by decide)
 ·exact pw (w:=[99,111,117,110,116]) (by decide)
 ·exact pw (w:=[115,117,109]) (by decide)
 ·exact pw (w:=[109,105,110]) (by decide)
 ·exact pw (w:=[109,97,120]) (by decide)
 ·exact pw (w:=[117,115,101,114]) (by decide)
theorem NL.K{o:UInt8}{k:Ex}{l:List Bs}{r:List BT}(h:NL l r):NL (pK o k l) (bK o k r):=by
 unfold pK bK;split
 ·exact⟨ps (by decide),h.app (NL.one (ps (by decide)))⟩
 ·exact h
theorem pQ{e:Ex}(h:Ri e):NL (pE e) (bE e):=by
 induction h with
 | @lit v hv=>exact NL.one (EG hv)
 | @UN n h=>
  have e1:bE (.mk ⟨2,⟨0,0,dp⟩,bs n,dp,0⟩ [])=[wd n]:=by simp only[bE];rw[if_neg (by decide),if_pos (by decide),if_neg (by decide),eR]
  have e2:pE (.mk ⟨2,⟨0,0,dp⟩,bs n,dp,0⟩ [])=[n]:=by simp only[pE];rw[if_neg (by decide),if_pos (by decide),if_neg (by decide),eR]
  rw[e1,e2];exact NL.one (fb h)
 | @ox n o h h2=>
  have e1:bE (.mk ⟨2,⟨0,0,dp⟩,bs n,bs o,0⟩ [])=[wd o,sg [46],wd n]:=by simp only[bE];rw[if_neg (by decide),if_pos (by decide),eR,eR,if_pos h2.ne]
  have e2:pE (.mk ⟨2,⟨0,0,dp⟩,bs n,bs o,0⟩ [])=[o,[46],n]:=by simp only[pE];rw[if_neg (by decide),if_pos (by decide),eR,eR,if_pos h2.ne]
  rw[e1,e2];exact⟨fb h2,ps (by decide),fb h,trivial⟩
 |user=>exact NL.one (pw (w:=[117,115,101,114]) (by decide))
 |count=>exact⟨pw (w:=[99,111,117,110,116]) (by decide),ps (by decide),ps (by decide),ps (by decide),trivial⟩
 | @un o a ho h ih=>
  simp only[af,aj,aH]at ho;have fold:∀o∈([17,18,19,20]:List UInt8),NL (dw o::[40]::(pK o a (pE a)++[[41]])) (Qo o::sg [40]::(bK o a (bE a)++[sg [41]])):=fun o ho=>by
   refine⟨uo ((by decide:∀o∈([17,18,19,20]:List UInt8),o∈([3,4,5,6,7,8,9,10,11,12,13,14,15,17,18,19,20,21]:List UInt8)) o ho),ps (by decide),(NL.K ih).app (NL.one (ps (by decide)))⟩
  rcases ho with rfl|rfl|rfl|rfl|rfl|rfl|rfl
  ·exact⟨uo (o:=3) (by decide),NL.K ih⟩
  ·exact⟨uo (o:=15) (by decide),NL.K ih⟩
  ·exact(NL.K (o:=16) ih).app ⟨pw (w:=[105,115]) (by decide),pw (w:=[110,117,108,108]) (by decide),trivial⟩
  ·exact fold 17 (by decide)
  ·exact fold 18 (by decide)
  ·exact fold 19 (by decide)
  ·exact fold 20 (by decide)
 | @bin o a b ho h h2 ih ih2=>exact(NL.K ih).app ⟨uo ((by decide:∀o∈([4,5,6,7,8,9,10,11,12,13,14]:List UInt8),o∈([3,4,5,6,7,8,9,10,11,12,13,14,15,17,18,19,20,21]:List UInt8)) o ho),NL.K ih2⟩
theorem NL.nB{s:Bs}{l:List Bs}{r:List BT}(h:s≠[]→NL l r):NL (I.nB s l) (bN s r):=by
 unfold I.nB bN;split
 ·exact trivial
 ·rename_i hs;exact h hs
theorem NL.bB{b:Bool}{l:List Bs}{r:List BT}(h:NL l r):NL (if b=true then l else []) (I.bB b r):=by
 unfold I.bB;split
 ·exact h
 ·exact trivial
theorem Bw{l:List Ex}(h:yb l):NL (oc l) (oY l):=⟨ps (by decide),(NL.pC fun x hx=>pQ (h.2.2 x hx).1).app (NL.one (ps (by decide)))⟩
theorem vc{l:List Ex}{w:Bs}(h:QX l)(hw:Lex.word w=true):NL (Sv w l) (RO w l):=by
 rcases h with rfl|⟨e,he,rfl⟩
 ·exact trivial
 ·exact⟨pw hw,pQ he.1⟩
theorem Gh{i:Qq}(h:Ws i):NL (Xk i) (Wt i):=(pQ h.1.1).app (NL.nB fun hn=>⟨pw (w:=[97,115]) (by decide),fb (h.2.resolve_left hn),trivial⟩)
theorem xB{s:Src}(h:sE s):NL (l8 s) (jl s):=⟨fb h.1,NL.nB fun hn=>⟨pw (w:=[97,115]) (by decide),fb (h.2.resolve_left hn),trivial⟩⟩
theorem J2{s:Src}(h:sE s)(ho:QX s.on):NL (jO s) (jl s++RO [111,110] s.on):=(xB h).app (vc ho (by decide))
theorem Nd:∀{l:List Src},(∀s∈l,sE s∧QX s.on)→NL (pJ l) (bJ l):=by
 intro l;induction l with
 |nil=>intro _;exact trivial
 |cons s l ih=>
  intro h;have hs:=h s ag;exact NL.app (l:=[106,111,105,110]::jO s) (r:=wd [106,111,105,110]::(jl s++RO [111,110] s.on)) ⟨pw (w:=[106,111,105,110]) (by decide),J2 hs.1 hs.2⟩ (ih fun x hx=>h x (au _ hx))
theorem LI{l:List Src}(h:Xn l):NL (Xm l) (bFr l):=by
 obtain⟨s,r,rfl,h1,h2,h3,h4⟩:=h;have hs:NL (jO s) (jl s):=by
  have e:jO s=l8 s:=by unfold jO;rw[h2];exact bF _
  rw[e];exact xB h1
 exact NL.app hs (Nd fun x hx=>by
  obtain⟨g,e,he,hon⟩:=h4 x hx
  exact⟨g,.inr ⟨e,he,hon⟩⟩)
theorem Mj{l:List Ex}(h:l=[]∨LG QW 16 l):NL (TN l) (Vt l):=by
 unfold TN Vt;split
 ·exact trivial
 ·rename_i hn;exact⟨pw (w:=[103,114,111,117,112]) (by decide),pw (w:=[98,121]) (by decide),NL.pC fun x hx=>pQ ((h.resolve_left hn).2.2 x hx).1⟩
theorem KW{o:Ord}(h:TM o):NL (Zg o) (Wu o):=(pQ h.1).app (NL.bB ⟨pw (w:=[100,101,115,99]) (by decide),trivial⟩)
theorem KT{l:List Ord}(h:l=[]∨LG TM 16 l):NL (TO l) (Vu l):=by
 unfold TO Vu;split
 ·exact trivial
 ·rename_i hn;exact⟨pw (w:=[111,114,100,101,114]) (by decide),pw (w:=[98,121]) (by decide),NL.pC fun x hx=>KW ((h.resolve_left hn).2.2 x hx)⟩
theorem JM{n:Int}(h:n= -1∨As n):NL (qI n) (vW n):=by
 unfold qI vW;split
 ·exact trivial
 ·rename_i hn;have hg:=h.resolve_left hn;obtain⟨m,rfl⟩:∃m:Nat,n=(m:Int):=⟨n.toNat,by have:=hg.1;omega⟩;have e2:Go.Lib.itoa (m:Int)=Go.Lib.decDigits m:=(jB m);rw[e2];exact⟨pw (w:=[108,105,109,105,116]) (by decide),Bq m,trivial⟩
theorem DJ{q:NS}(h:PA q):NL (j5 q) (lK q):=by
 unfold j5 lK;rcases h.its with⟨h1,_⟩|⟨h1,h2⟩
 ·rw[if_pos h1,if_pos h1];exact NL.one (ps (by decide))
 ·rw[if_neg (by rw[h1];decide),if_neg (by rw[h1];decide)];exact NL.pC fun x hx=>Gh (h2.2.2 x hx)
theorem AV{q:NS}(h:PA q):NL (ld q) (wd [115,101,108,101,99,116]::lQ q):=
 ⟨pw (w:=[115,101,108,101,99,116]) (by decide),(DJ h).app ⟨pw (w:=[102,114,111,109]) (by decide),(LI h.fr).app ((vc h.wh (by decide)).app ((Mj h.gr).app ((KT h.od).app (JM h.lim))))⟩⟩
theorem Ld{l:List Ex}(h:QX l):NL (Xl l) (Vs l):=by
 rcases h with rfl|⟨e,he,rfl⟩
 ·exact trivial
 ·exact⟨pw (w:=[99,104,101,99,107]) (by decide),ps (by decide),(pQ he.1).app (NL.one (ps (by decide)))⟩
theorem Lg(a:UInt8):NL (Ul a) (TQ a):=by
 unfold Ul TQ;split
 ·exact NL.words (l:=[[111,110],[100,101,108,101,116,101],[99,97,115,99,97,100,101]]) (by decide)
 ·split
  ·exact NL.words (l:=[[111,110],[100,101,108,101,116,101],[115,101,116],[110,117,108,108]]) (by decide)
  ·exact trivial
theorem Ks{k:UInt8}(h:1≤k.toNat∧k.toNat≤5):Lex.word (SZ k)=true:=by
 have:k.toNat=1∨k.toNat=2∨k.toNat=3∨k.toNat=4∨k.toNat=5:=by omega
 unfold SZ;rcases this with e|e|e|e|e<;>rw[e]<;>decide
theorem J0{c:Oj}(h:Am c):NL (pt c) (zN c):=by
 have hrf:c.rf≠[]→NX c.rf:=fun hn=>by
  rcases h.2.2.2 with⟨e,_⟩|⟨e,_⟩
  ·exact absurd e hn
  ·exact e
 have e:pt c=c.nm::SZ c.k::((if c.pr=true then [[112,114,105,109,97,114,121],[107,101,121]]else [])++((if c.nn=true then [[110,111,116],[110,117,108,108]]else [])++((if c.un=true then [[117,110,105,113,117,101]]else [])++(Xl c.ck++(I.nB c.rf [[114,101,102,101,114,101,110,99,101,115],c.rf]++Ul c.ac))))):=by unfold pt;simp
 rw[e];exact⟨fb h.1,pw (Ks h.2.1),(NL.bB (NL.words (l:=[[112,114,105,109,97,114,121],[107,101,121]]) (by decide))).app ((NL.bB (NL.words (l:=[[110,111,116],[110,117,108,108]]) (by decide))).app ((NL.bB (NL.words (l:=[[117,110,105,113,117,101]]) (by decide))).app ((Ld h.2.2.1).app ((NL.nB (l:=[[114,101,102,101,114,101,110,99,101,115],c.rf]) (r:=[wd [114,101,102,101,114,101,110,99,101,115],wd c.rf]) fun hn=>⟨pw (w:=[114,101,102,101,114,101,110,99,101,115]) (by decide),fb (hrf hn),trivial⟩).app (Lg _)))))⟩
theorem JW{s:OI}(h:Cv s):NL (vK s) (yN s):=⟨fb h.1,ps (by decide),pQ h.2.1⟩
theorem MT{p:UInt8}(h:Uk p):Lex.word (word ((p.toNat:Int)-1) [[115,101,108,101,99,116],[105,110,115,101,114,116],[117,112,100,97,116,101],[100,101,108,101,116,101]])=true:=by
 have:p.toNat=1∨p.toNat=2∨p.toNat=3∨p.toNat=4:=by have:=h.1;have:=h.2;omega
 rcases this with e|e|e|e<;>rw[e]<;>decide
theorem Av{l:List UInt8}(h:uV l):NL (oL l) (pd l):=NL.pC fun x hx=>NL.one (pw (MT (h.2.2 x hx)))
theorem MH{ev:UInt8}(he:14≤ev.toNat∧ev.toNat≤16):Lex.word (word ((ev.toNat:Int)-14) [[105,110,115,101,114,116],[117,112,100,97,116,101],[100,101,108,101,116,101]])=true:=by
 have:ev.toNat=14∨ev.toNat=15∨ev.toNat=16:=by omega
 rcases this with e|e|e<;>rw[e]<;>decide
theorem rq{s:NC}(h:Pu s):NL (pS s) (bS s):=by
 cases h with
 | @table n cs hn hc=>exact⟨pw (w:=[99,114,101,97,116,101]) (by decide),pw (w:=[116,97,98,108,101]) (by decide),fb hn,ps (by decide),(NL.pC fun x hx=>J0 (hc.2.2 x hx)).app (NL.one (ps (by decide)))⟩
 | @view n q hn hq=>
  have h1:NL ([99,114,101,97,116,101]::[118,105,101,119]::n::[97,115]::([q].flatMap ld)) (wd [99,114,101,97,116,101]::wd [118,105,101,119]::wd n::wd [97,115]::wd [115,101,108,101,99,116]::[q].flatMap lQ):=by rw[show [q].flatMap ld=ld q by simp,show [q].flatMap lQ=lQ q by simp];exact⟨pw (by decide),pw (by decide),fb hn,pw (by decide),AV hq⟩
  exact h1
 | @fh n on t ev v hn he ho ht hv=>
  have h1:NL ([[99,114,101,97,116,101],[116,114,105,103,103,101,114],n,[97,102,116,101,114],word ((ev.toNat:Int)-14) [[105,110,115,101,114,116],[117,112,100,97,116,101],[100,101,108,101,116,101]],[111,110],on,[105,110,115,101,114,116],[105,110,116,111],t,[118,97,108,117,101,115]]++[v].flatMap oc) ([wd [99,114,101,97,116,101],wd [116,114,105,103,103,101,114],wd n,wd [97,102,116,101,114],wd (word ((ev.toNat:Int)-14) [[105,110,115,101,114,116],[117,112,100,97,116,101],[100,101,108,101,116,101]]),wd [111,110],wd on,wd [105,110,115,101,114,116],wd [105,110,116,111],wd t,wd [118,97,108,117,101,115]]++[v].flatMap oY):=by rw[show [v].flatMap oc=oc v by simp,show [v].flatMap oY=oY v by simp];exact NL.app ⟨pw (by decide),pw (by decide),fb hn,pw (by decide),pw (MH he),pw (by decide),fb ho,pw (by decide),pw (by decide),fb ht,pw (by decide),trivial⟩ (Bw hv)
  exact h1
 | @fN n on t e hn ho ht he=>
  have h1:NL ([[99,114,101,97,116,101],[112,111,108,105,99,121],n,[111,110],on,[116,111],t,[117,115,105,110,103],[40]]++([e].flatMap pE++[[41]])) ([wd [99,114,101,97,116,101],wd [112,111,108,105,99,121],wd n,wd [111,110],wd on,wd [116,111],wd t,wd [117,115,105,110,103],sg [40]]++([e].flatMap bE++[sg [41]])):=by rw[show [e].flatMap pE=pE e by simp,show [e].flatMap bE=bE e by simp];exact NL.app ⟨pw (by decide),pw (by decide),fb hn,pw (by decide),fb ho,pw (by decide),fb ht,pw (by decide),ps (by decide),trivial⟩ ((pQ he.1).app (NL.one (ps (by decide))))
  exact h1
 | @role n key hn hk=>exact⟨pw (w:=[99,114,101,97,116,101]) (by decide),pw (w:=[114,111,108,101]) (by decide),fb hn,NL.nB fun _=>⟨pw (w:=[107,101,121]) (by decide),by
  have:=EG (v:=⟨4,0,bs key⟩) (.inr (.inr (.inr (.inr (.inr (.inl ⟨key,hk,rfl⟩))))))
  have eb:bL ⟨4,0,bs key⟩=(3,key):=by
   show((3:UInt8),(bs key).data.toList)=(3,key)
   rw[dA]
  rw[eb]at this
  exact this,trivial⟩⟩
 | @drop k n hk hn=>
  simp only[af,aj,aH]at hk;rcases hk with rfl|rfl|rfl|rfl
  ·exact⟨pw (w:=[100,114,111,112]) (by decide),pw (w:=[116,97,98,108,101]) (by decide),fb hn,trivial⟩
  ·exact⟨pw (w:=[100,114,111,112]) (by decide),pw (w:=[118,105,101,119]) (by decide),fb hn,trivial⟩
  ·exact⟨pw (w:=[100,114,111,112]) (by decide),pw (w:=[116,114,105,103,103,101,114]) (by decide),fb hn,trivial⟩
  ·exact⟨pw (w:=[100,114,111,112]) (by decide),pw (w:=[112,111,108,105,99,121]) (by decide),fb hn,trivial⟩
 | @share k n on hk hn ho=>
  simp only[af,aj,aH]at hk;rcases hk with rfl|rfl
  ·exact⟨pw (w:=[103,114,97,110,116]) (by decide),fb hn,pw (w:=[116,111]) (by decide),fb ho,trivial⟩
  ·exact⟨pw (w:=[114,101,118,111,107,101]) (by decide),fb hn,pw (w:=[102,114,111,109]) (by decide),fb ho,trivial⟩
 | @fE pv n on opt hp hn ho=>
  have h1:NL ([103,114,97,110,116]::(oL pv++([[111,110],n,[116,111],on]++if opt=true then [[119,105,116,104],[103,114,97,110,116],[111,112,116,105,111,110]]else []))) (wd [103,114,97,110,116]::(pd pv++([wd [111,110],wd n,wd [116,111],wd on]++bB opt [wd [119,105,116,104],wd [103,114,97,110,116],wd [111,112,116,105,111,110]]))):=
   ⟨pw (by decide),(Av hp).app (NL.app ⟨pw (by decide),fb hn,pw (by decide),fb ho,trivial⟩ (NL.bB (NL.words (l:=[[119,105,116,104],[103,114,97,110,116],[111,112,116,105,111,110]]) (by decide))))⟩
  exact h1
 | @gj pv n on hp hn ho=>
  have h1:NL ([114,101,118,111,107,101]::(oL pv++[[111,110],n,[102,114,111,109],on])) (wd [114,101,118,111,107,101]::(pd pv++[wd [111,110],wd n,wd [102,114,111,109],wd on])):=
   ⟨pw (by decide),(Av hp).app ⟨pw (by decide),fb hn,pw (by decide),fb ho,trivial⟩⟩
  exact h1
 | @insert n v hn hv=>exact⟨pw (w:=[105,110,115,101,114,116]) (by decide),pw (w:=[105,110,116,111]) (by decide),fb hn,pw (w:=[118,97,108,117,101,115]) (by decide),NL.pC fun x hx=>Bw (hv.2.2 x hx)⟩
 | @update n l w hn hl hw=>exact⟨pw (w:=[117,112,100,97,116,101]) (by decide),fb hn,pw (w:=[115,101,116]) (by decide),(NL.pC fun x hx=>JW (hl.2.2 x hx)).app (vc hw (by decide))⟩
 | @remove n w hn hw=>exact⟨pw (w:=[100,101,108,101,116,101]) (by decide),pw (w:=[102,114,111,109]) (by decide),fb hn,vc hw (by decide)⟩
 | @query q hq=>
  have h1:NL ([q].flatMap ld) (wd [115,101,108,101,99,116]::[q].flatMap lQ):=by rw[show [q].flatMap ld=ld q by simp,show [q].flatMap lQ=lQ q by simp];exact AV hq
  exact h1
 | @plain k hk=>
  simp only[af,aj,aH]at hk;rcases hk with rfl|rfl|rfl
  ·exact NL.one (pw (w:=[98,101,103,105,110]) (by decide))
  ·exact NL.one (pw (w:=[99,111,109,109,105,116]) (by decide))
  ·exact NL.one (pw (w:=[114,111,108,108,98,97,99,107]) (by decide))
end I
end
section
namespace Lex
theorem uM(X:List UInt8):skip false (32::X)=skip false X:=by simp[skip,blank]
end Lex
namespace I
open Ev (Ex Hd)
open Lex (Bl Sk bare skip token)
def nc(sep:Bs):List Bs→Bs→Bs
 |[],tail=>tail
 |[s],tail=>s++tail
 |s::t::r,tail=>s++(sep++nc sep (t::r) tail)
theorem Gu:∀(l:List Bs) (tail:Bs),nc [32] l tail=di l++tail:=by
 intro l;induction l with
 |nil=>intro _;rfl
 |cons s l ih=>
  intro tail;cases l with
  |nil=>rfl
  |cons t r=>
   show s++(32::nc [32] (t::r) tail)=(s++32::di (t::r))++tail;rw[ih tail];simp
theorem uJ{s R:Bs}{t:BT}{tt:List BT}(h:PT s t)(hR:Bl R)(hs:Sk R tt):Sk (s++R) (t::tt):=by
 obtain⟨h1,h2⟩:=h.cut R hR;obtain⟨c,x,rfl⟩:=List.exists_cons_of_ne_nil h.ne;exact Sk.cons (c:=c) (r:=x++R) h1 h2 (by rw[←List.cons_append,List.drop_left];exact hs)
theorem AF{sep tail:Bs}{tt:List BT}(hsep:∀X,skip false (sep++X)=skip false X)(hb:∀X,Bl (sep++X))(ht:Bl tail)(hs:Sk tail tt):∀{l:List Bs} {ts:List BT},NL l ts→Sk (nc sep l tail) (ts++tt):=by
 intro l;induction l with
 |nil=>
  intro ts h;cases ts with
  |nil=>exact hs
  |cons t r=>exact absurd h id
 |cons s l ih=>
  intro ts h;cases ts with
  |nil=>exact absurd h id
  |cons t r=>
   cases l with
   |nil=>
    cases r with
    |nil=>exact uJ h.1 ht hs
    |cons u r=>exact absurd h.2 id
   |cons s2 l=>exact uJ h.1 (hb _) ((ih h.2).same (hsep _))
theorem Ha{l:List Bs}{ts:List BT}(h:NL l ts):Sk (di l) ts:=by
 have:=AF (sep:=[32]) (tail:=[]) (tt:=[]) Lex.uM (fun X=>Lex.qR X) Lex.An (Sk.nil rfl) h;rw[Gu,bF,bF]at this;exact this
theorem kM:∀l:List Bs,(di l).length≤sz l-1∧(l≠[]→(di l).length+1=sz l):=by
 intro l;induction l with
 |nil=>exact⟨aa _,fun h=>absurd rfl h⟩
 |cons s l ih=>
  have key:(di (s::l)).length+1=sz (s::l):=by
   cases l with
   |nil=>show s.length+1=sz [s];simp[sz]
   |cons t r=>
    have:=ih.2 (by simp);show(s++32::di (t::r)).length+1=_;rw[ah,ab,cU];omega
  exact⟨by omega,fun _=>key⟩
theorem Il{text:Bs}{ts:List BT}(hl:text.length≤4096)(h:Sk text ts):∃tx,Lex.told text=(tx,0,0)∧bare tx=ts:=by
 obtain⟨tx,h1,h2⟩:=h;exact⟨tx,by rw[Lex.qT _ (by omega),h1],h2⟩
theorem rD{text:Bs}{tx:List Tok}(h:Lex.told text=(tx,0,0)):parse text=if(run text.length tx).2.e≠0 then(NC.zero,(run text.length tx).2.e,(run text.length tx).2.c)else if(run text.length tx).2.d=true then(NC.zero,301,0)else((run text.length tx).1,0,0):=by
 unfold parse;rw[h];rw[if_neg (by simp)]
theorem wX{text:Bs}{ts:List BT}{s:NC}(hs:Pu s)(hl:text.length≤4096)(h:Sk text ts)(hb:ts=bS s∨ts=bS s++[sg [59]]):parse text=(s,0,0):=by
 obtain⟨tx,h1,h2⟩:=Il hl h;obtain⟨r1,r2,r3⟩:=run_read (T:=text.length) hs (l:=tx) (by rw[h2];exact hb);rw[rD h1,if_neg (by rw[r2];simp),if_neg (by rw[r3];decide),r1]
theorem lW{s:NC}(h:Pu s)(hz:sz (pS s)≤4097):parse (di (pS s))=(s,0,0):=
 wX h (by have:=(kM (pS s)).1;omega) (Ha (rq h)) (.inl rfl)
end I
end
namespace I
theorem ml{s:NC}(h:Pu s)(hz:sz (pS s)≤4097):NM s=(di (pS s),0):=by
 unfold NM;rw[vZ h hz,if_neg Bool.false_ne_true];dsimp only;rw[lW h hz,if_neg];rintro(h|h)
 ·exact h rfl
 ·exact h rfl
theorem zk{s:NC}(h:Pu s)(hz:4097<sz (pS s)):NM s=([],330):=by
 unfold NM;rw[if_pos (vC h hz)]
theorem zJ{s:NC}(h:¬Pu s):NM s=([],330):=by
 unfold NM;by_cases hb:(dO s Rk).b=true
 ·rw[if_pos hb]
 ·rw[if_neg hb];by_cases hc:(parse (di (dO s Rk).p)).2.1≠0∨s≠(parse (di (dO s Rk).p)).1
  ·rw[if_pos hc]
  ·exfalso;have h0:(parse (di (dO s Rk).p)).2.1=0:=Decidable.byContradiction fun e=>hc (.inl e)
   have h1:s=(parse (di (dO s Rk).p)).1:=Classical.byContradiction fun e=>hc (.inr e)
   have:=(qp h0).1;rw[←h1]at this;exact h this
theorem mD{s:NC}(h:(NM s).2=0):Pu s∧sz (pS s)≤4097∧NM s=(di (pS s),0):=by
 by_cases hg:Pu s
 ·rcases cl 4097 (sz (pS s))with hz|hz
  ·rw[zk hg hz]at h;exact absurd h (by decide)
  ·exact⟨hg,hz,ml hg hz⟩
 ·rw[zJ hg]at h;exact absurd h (by decide)
end I
end Go.Proofs.YtnicfobpclehkaaGreatDoor
