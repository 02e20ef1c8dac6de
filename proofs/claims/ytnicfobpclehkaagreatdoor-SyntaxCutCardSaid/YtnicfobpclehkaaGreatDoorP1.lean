set_option maxHeartbeats 200000
set_option linter.unusedVariables false
set_option linter.unusedSimpArgs false
namespace Go.Proofs.YtnicfobpclehkaaGreatDoor
abbrev aa := @Nat.le_refl
abbrev ab := @List.length_cons
abbrev af := @List.mem_cons
abbrev ag := @List.mem_cons_self
abbrev ah := @List.length_append
abbrev ai := @List.length_nil
abbrev aj := @List.not_mem_nil
abbrev ao := @Nat.zero_le
abbrev aq := @decide_eq_true
abbrev ar := @decide_eq_false
abbrev au := @List.mem_cons_of_mem
abbrev aw := @Nat.le_trans
abbrev ay := @List.getElem?_eq_some_iff
abbrev az := @of_decide_eq_true
abbrev aB := @Nat.lt_of_lt_of_le
abbrev aC := @List.eq_nil_of_length_eq_zero
abbrev aD := @List.length_singleton
abbrev aE := @List.getElem?_eq_getElem
abbrev aF := @UInt8.toNat_inj
abbrev aG := @Bool.eq_iff_iff
abbrev aH := @or_false
abbrev aI := @decide_eq_true_eq
abbrev aJ := @List.length_drop
abbrev aK := @Array.length_toList
abbrev aM := @List.mem_append
abbrev aN := @Bool.and_eq_true
abbrev aO := @Bool.false_eq_true
abbrev aP := @List.length_take
abbrev aQ := @List.size_toArray
abbrev aR := @List.mem_of_getElem?
abbrev aS := @List.take_of_length_le
abbrev aT := @Prod.mk.injEq
abbrev aV := @beq_iff_eq
abbrev aW := @Nat.zero_add
abbrev aX := @List.append_assoc
abbrev aY := @List.drop_eq_getElem_cons
abbrev aZ := @List.nil_append
abbrev ba := @List.getElem?_append_left
abbrev bc := @List.drop_of_length_le
abbrev bf := @List.getElem?_map
abbrev bg := @List.getElem?_append_right
abbrev bh := @Nat.add_zero
abbrev bj := @ByteArray.data_append
abbrev bm := @beq_eq_false_iff_ne
abbrev bo := @if_true
abbrev bp := @List.sum_cons
abbrev bq := @List.take_add_one
abbrev br := @List.getElem_toArray
abbrev bu := @List.map_nil
abbrev bw := @Nat.lt_succ_self
abbrev bx := @if_false
abbrev bz := @Option.some.injEq
abbrev bA := @Option.some.inj
abbrev bF := @List.append_nil
abbrev bH := @List.sum_nil
abbrev bI := @List.tail_cons
abbrev bM := @true_or
abbrev bO := @or_true
abbrev bQ := @List.getElem?_drop
abbrev bT := @List.drop_length
abbrev bU := @List.drop_drop
abbrev bV := @List.toList_toArray
abbrev bW := @List.pairwise_cons
abbrev bX := @decide_eq_true_iff
abbrev bY := @Nat.add_comm
abbrev bZ := @Nat.mul_one
abbrev cd := @Array.getElem?_eq_some_iff
abbrev cf := @of_decide_eq_false
abbrev cg := @Option.map_some
abbrev cj := @List.length_map
abbrev cl := @Nat.lt_or_ge
abbrev cm := @Bool.or_eq_false_iff
abbrev cn := @List.map_congr_left
abbrev cq := @decide_eq_false_iff_not
abbrev cr := @Option.map_eq_some_iff
abbrev ct := @Nat.zero_mul
abbrev cu := @Nat.eq_zero_or_pos
abbrev cw := @List.map_append
abbrev cz := @Bool.false_or
abbrev cC := @Nat.add_assoc
abbrev cD := @Bool.true_and
abbrev cH := @Bool.and_false
abbrev cI := @Array.size_replicate
abbrev cJ := @Bool.or_eq_true
abbrev cK := @Nat.mod_lt
namespace Lex
def letter(c:UInt8):Bool:=decide (97≤c.toNat∧c.toNat≤122)||decide (c.toNat=95)
def digit(c:UInt8):Bool:=decide (48≤c.toNat∧c.toNat≤57)
def eN(c:UInt8):Bool:=letter c||digit c
def hex(c:UInt8):Bool:=digit c||decide (97≤c.toNat∧c.toNat≤102)
def blank(c:UInt8):Bool:=decide (c.toNat=32∨c.toNat=9∨c.toNat=10∨c.toNat=13)
def je(c:UInt8):Bool:=decide (c.toNat≠10)
def span(p:UInt8→Bool):List UInt8→Nat
 |[]=>0
 |c::l=>if p c=true then span p l+1 else 0
theorem gU(p:UInt8→Bool):∀l,span p l≤l.length:=by
 intro l;induction l with
 |nil=>simp[span]
 |cons c l ih=>simp only[span,ab];split<;>omega
def dQ(l:List UInt8)(i:Nat)(c:UInt8):Bool:=decide (l[i]?=some c)
def skip:Bool→List UInt8→List UInt8
 |_,[]=>[]
 |true,c::l=>if c.toNat=10 then skip false l else skip true l
 |false,c::l=>if blank c=true then skip false l else if c.toNat=45∧dQ l 0 45=true then skip true l else c::l
theorem kY:∀(l:List UInt8) (b:Bool),(skip b l).length≤l.length:=by
 intro l;induction l with
 |nil=>intro b;cases b<;>simp[skip]
 |cons c l ih=>
  intro b;have h1:=ih true;have h2:=ih false;cases b<;>simp only[skip]<;>(repeat' split)<;>simp only[ab]<;>omega
def quote:List UInt8→Option (List UInt8×List UInt8)
 |[]=>none
 |[c]=>if c.toNat=39 then some ([],[])else none
 |c::d::l=>if c.toNat=39 then(if d.toNat=39 then(quote l).map (fun p=>(39::p.1,p.2))else some ([],d::l))else(quote (d::l)).map (fun p=>(c::p.1,p.2))
def ef(c:UInt8):Nat:=if digit c=true then c.toNat-48 else c.toNat-87
def pair(a b:UInt8):UInt8:=UInt8.ofNat (ef a*16+ef b)
def gL:List UInt8→Option (List UInt8×List UInt8)
 |[]=>none
 |[c]=>if c.toNat=39 then some ([],[])else none
 |c::d::l=>if c.toNat=39 then some ([],d::l)else if hex c=true∧hex d=true then(gL l).map (fun p=>(pair c d::p.1,p.2))else none
def tb:List UInt8:=[40,41,44,46,59,43,45,42,61,60,62]
def jr(l:List UInt8):Option (UInt8×List UInt8×Nat):=
 match gL (l.drop 2)with
 |none=>none
 |some (s,x)=>if s.length≤200 then some (4,s,l.length-x.length)else none
def me(l:List UInt8):Option (UInt8×List UInt8×Nat):=if span eN l≤24 then some (1,l.take (span eN l),span eN l)else none
def gN(l:List UInt8):Option (UInt8×List UInt8×Nat):=
 if dQ l 0 48=true∧1<span digit l then none
 else if dQ l (span digit l) 46=true∧0<span digit (l.drop (span digit l+1))then
  (if 4<span digit (l.drop (span digit l+1))then none
   else some (2,l.take (span digit l+1+span digit (l.drop (span digit l+1))),span digit l+1+span digit (l.drop (span digit l+1))))
 else some (2,l.take (span digit l),span digit l)
def iE(l:List UInt8):Option (UInt8×List UInt8×Nat):=
 match quote (l.drop 1)with
 |none=>none
 |some (s,x)=>if s.length≤200 then some (3,s,l.length-x.length)else none
def lY(l:List UInt8):Option (UInt8×List UInt8×Nat):=
 match l with
 |[]=>none
 |c::r=>
  if(c.toNat=60∧(dQ r 0 62=true∨dQ r 0 61=true))∨(c.toNat=62∧dQ r 0 61=true)then some (5,l.take 2,2)
  else if c∈tb then some (5,l.take 1,1)
  else none
def token(l:List UInt8):Option (UInt8×List UInt8×Nat):=
 match l with
 |[]=>none
 |c::r=>
  if c.toNat=120∧dQ r 0 39=true then jr l
  else if letter c=true then me l
  else if digit c=true then gN l
  else if c.toNat=39 then iE l
  else lY l
abbrev Tok:=UInt8×List UInt8×Nat
def fy:Nat→Nat→List UInt8→Except Nat (List Tok)
 |0,_,_=>.ok []
 |f+1,at_,l=>
  match skip false l with
  |[]=>.ok []
  |c::r=>
   match token (c::r)with
   |none=>.error (at_+(l.length-(c::r).length))
   |some (k,s,n)=>
    match fy f (at_+(l.length-(c::r).length)+n) ((c::r).drop n)with
    | .error e=>.error e
    | .ok ts=>.ok ((k,s,at_+(l.length-(c::r).length))::ts)
def tokens(l:List UInt8):Except (Nat×Nat) (List Tok):=
 if 4096<l.length then .error (3,0)else
 match fy (l.length+1) 0 l with
 | .error e=>.error (290,e)
 | .ok ts=>.ok ts
end Lex
namespace Lex
theorem sw(p:UInt8→Bool):∀(l:List UInt8) (j:Nat),j<span p l→∃c,l[j]?=some c∧p c=true:=by
 intro l;induction l with
 |nil=>intro j h;simp[span]at h
 |cons c l ih=>
  intro j h;simp only[span]at h;split at h
  ·rename_i hc;cases j with
   |zero=>exact⟨c,rfl,hc⟩
   |succ j=>
    obtain⟨d,h1,h2⟩:=ih j (by omega);exact⟨d,by simpa using h1,h2⟩
  ·omega
theorem CV(p:UInt8→Bool):∀(l:List UInt8) (c:UInt8),l[span p l]?=some c→p c=false:=by
 intro l;induction l with
 |nil=>intro c h;simp[span]at h
 |cons d l ih=>
  intro c h;simp only[span]at h;split at h
  ·exact ih c (by simpa using h)
  ·rename_i hd;simp at h;subst h;simpa using hd
theorem Bx(p:UInt8→Bool):∀(l:List UInt8) (k:Nat),(∀j c,j<k→l[j]?=some c→p c=true)→k≤l.length→(∀c,l[k]?=some c→p c=false)→span p l=k:=by
 intro l;induction l with
 |nil=>intro k _ h _;simp at h;subst h;rfl
 |cons d l ih=>
  intro k h1 h2 h3;cases k with
  |zero=>
   have:=h3 d rfl;simp only[span];rw[if_neg (by simp[this])]
  |succ k=>
   have hd:=h1 0 d (by omega) rfl;simp only[span];rw[if_pos hd,ih k (fun j c hj hc=>h1 (j+1) c (by omega) (by simpa using hc)) (by simpa using h2) (fun c hc=>h3 c (by simpa using hc))]
theorem yF:∀l:List UInt8,skip false l=skip false (l.drop (span blank l)):=by
 intro l;induction l with
 |nil=>rfl
 |cons c l ih=>
  simp only[span];split
  ·rename_i hc;rw[List.drop_succ_cons,←ih];simp only[skip];rw[if_pos hc]
  ·rfl
theorem Dl:∀l:List UInt8,skip true l=skip false (l.drop (span je l)):=by
 intro l;induction l with
 |nil=>rfl
 |cons c l ih=>
  simp only[span];by_cases hc:c.toNat=10
  ·rw[if_neg (by simp[je,hc]),List.drop_zero];simp only[skip];rw[if_pos hc,if_pos (by simp[blank,hc])]
  ·rw[if_pos (by simp[je,hc]),List.drop_succ_cons,←ih];simp only[skip];rw[if_neg hc]
theorem Cq{l:List UInt8}(h0:dQ l 0 45=true)(h1:dQ l 1 45=true):skip false l=skip false (l.drop (span je l)):=by
 cases l with
 |nil=>simp[dQ]at h0
 |cons c l=>
  have hc:c=45:=by simpa[dQ]using h0
  subst hc;have h1':dQ l 0 45=true:=by simpa[dQ]using h1
  have e1:skip false (45::l)=skip true l:=by simp only[skip];rw[if_neg (by decide),if_pos ⟨by decide,h1'⟩]
  rw[e1,Dl];simp only[span];rw[if_pos (by decide),List.drop_succ_cons]
theorem tz{l:List UInt8}(hb:∀c,l[0]?=some c→blank c=false)(h:dQ l 0 45=false∨dQ l 1 45=false):skip false l=l:=by
 cases l with
 |nil=>rfl
 |cons c l=>
  have:=hb c rfl;simp only[skip];rw[if_neg (by simp[this]),if_neg];rintro⟨h1,h2⟩;rcases h with h|h
  ·simp[dQ]at h;exact h (aF.1 (by simpa using h1))
  ·simp[dQ]at h h2;exact h h2
def fu(l:List UInt8)(i:Nat):Nat:=l.length-(skip false (l.drop i)).length
theorem pA{l:List UInt8}{i j:Nat}(h:skip false (l.drop i)=l.drop j)(hj:j≤l.length):fu l i=j:=by
 unfold fu;rw[h,aJ];omega
theorem fT(l:List UInt8)(i j:Nat)(c:UInt8):dQ (l.drop i) j c=dQ l (i+j) c:=by simp[dQ]
theorem vR:∀(l:List UInt8) (b:Bool),∃k,k≤l.length∧skip b l=l.drop k:=by
 intro l;induction l with
 |nil=>intro b;exact⟨0,by simp,by cases b<;>rfl⟩
 |cons c l ih=>
  intro b;have step:∀b',∃k,k≤(c::l).length∧skip b' l=(c::l).drop k:=by intro b';obtain⟨k,h1,h2⟩:=ih b';exact⟨k+1,by simp;omega,by simpa using h2⟩
  cases b
  ·simp only[skip];split
   ·exact step false
   ·split
    ·exact step true
    ·exact⟨0,by simp,rfl⟩
  ·simp only[skip];split
   ·exact step false
   ·exact step true
theorem o3(l:List UInt8)(i:Nat)(hi:i≤l.length):i≤fu l i∧fu l i≤l.length∧skip false (l.drop i)=l.drop (fu l i):=by
 obtain⟨k,h1,h2⟩:=vR (l.drop i) false;rw[aJ]at h1;rw[bU]at h2;have:=pA (l:=l) (i:=i) (j:=i+k) (by rw[h2]) (by omega);rw[this];exact⟨by omega,by omega,h2⟩
end Lex
namespace Lex
theorem C2:∀(f:Nat) (l:List UInt8),l.length≤f→∀s x,quote l=some (s,x)→x.length<l.length∧s.length≤l.length:=by
 intro f;induction f with
 |zero=>
  intro l h s x hq;obtain rfl:l=[]:=aC (by omega);cases hq
 |succ f ih=>
  intro l h s x hq;match l,h with
  |[],_=>cases hq
  |[c],_=>
   simp only[quote]at hq;split at hq
   ·injection hq with hq
    injection hq with h1 h2
    subst h1 h2;simp
   ·cases hq
  |c::d::l,h=>
   simp only[quote]at hq;split at hq
   ·split at hq
    ·cases hl:quote l with
     |none=>rw[hl]at hq;cases hq
     |some p=>
      rw[hl]at hq;simp only[cg,bz,aT]at hq;have:=ih l (by simp at h;omega) p.1 p.2 hl;rw[←hq.1,←hq.2];simp only[ab];omega
    ·injection hq with hq
     injection hq with h1 h2
     subst h1 h2;simp
   ·cases hl:quote (d::l)with
    |none=>rw[hl]at hq;cases hq
    |some p=>
     rw[hl]at hq;simp only[cg,bz,aT]at hq;have:=ih (d::l) (by simp at h⊢;omega) p.1 p.2 hl;rw[←hq.1,←hq.2];simp only[ab]at this⊢;omega
theorem tA:∀(f:Nat) (l:List UInt8),l.length≤f→∀s x,gL l=some (s,x)→x.length<l.length∧s.length≤l.length:=by
 intro f;induction f with
 |zero=>
  intro l h s x hq;obtain rfl:l=[]:=aC (by omega);cases hq
 |succ f ih=>
  intro l h s x hq;match l,h with
  |[],_=>cases hq
  |[c],_=>
   simp only[gL]at hq;split at hq
   ·injection hq with hq
    injection hq with h1 h2
    subst h1 h2;simp
   ·cases hq
  |c::d::l,h=>
   simp only[gL]at hq;split at hq
   ·injection hq with hq
    injection hq with h1 h2
    subst h1 h2;simp
   ·split at hq
    ·cases hl:gL l with
     |none=>rw[hl]at hq;cases hq
     |some p=>
      rw[hl]at hq;simp only[cg,bz,aT]at hq;have:=ih l (by simp at h;omega) p.1 p.2 hl;rw[←hq.1,←hq.2];simp only[ab];omega
    ·cases hq
theorem og{p:UInt8→Bool}{c:UInt8}{l:List UInt8}(h:p c=true):1≤span p (c::l):=by
 simp only[span];rw[if_pos h];omega
theorem iX{l:List UInt8}{k:UInt8}{s:List UInt8}{n:Nat}(h:token l=some (k,s,n)):1≤n∧n≤l.length∧s.length≤l.length:=by
 cases l with
 |nil=>cases h
 |cons c r=>
  unfold token at h;simp only at h;split at h
  ·rename_i hx;unfold jr at h;cases hp:gL ((c::r).drop 2)with
   |none=>rw[hp]at h;cases h
   |some p=>
    rw[hp]at h;obtain⟨s',x⟩:=p;have hl:=tA _ _ (aa _) s' x hp;simp only[aJ]at hl;simp only at h;split at h
    ·injection h with h
     simp only[aT]at h;obtain⟨_,h1,h2⟩:=h;subst h1 h2;omega
    ·cases h
  ·split at h
   ·rename_i hx;unfold me at h;split at h
    ·injection h with h
     simp only[aT]at h;obtain⟨_,h1,h2⟩:=h;subst h1 h2;have:=gU eN (c::r);have h3:1≤span eN (c::r):=og (by unfold eN;rw[hx];rfl);refine⟨h3,this,?_⟩;rw[aP];omega
    ·cases h
   ·split at h
    ·rename_i hx;have h3:1≤span digit (c::r):=og hx;have h4:=gU digit (c::r);have h5:=gU digit ((c::r).drop (span digit (c::r)+1));rw[aJ]at h5;unfold gN at h;split at h
     ·cases h
     ·split at h
      ·rename_i hy;split at h
       ·cases h
       ·injection h with h
        simp only[aT]at h;obtain⟨_,h1,h2⟩:=h;subst h1 h2;refine⟨by omega,by omega,?_⟩;rw[aP];omega
      ·injection h with h
       simp only[aT]at h;obtain⟨_,h1,h2⟩:=h;subst h1 h2;refine⟨h3,h4,?_⟩;rw[aP];omega
    ·split at h
     ·unfold iE at h;cases hp:quote ((c::r).drop 1)with
      |none=>rw[hp]at h;cases h
      |some p=>
       rw[hp]at h;obtain⟨s',x⟩:=p;have hl:=C2 _ _ (aa _) s' x hp;simp only[aJ]at hl;simp only at h;split at h
       ·injection h with h
        simp only[aT]at h;obtain⟨_,h1,h2⟩:=h;subst h1 h2;omega
       ·cases h
     ·unfold lY at h;simp only at h;split at h
      ·rename_i hx;injection h with h
       simp only[aT]at h;obtain⟨_,h1,h2⟩:=h;subst h1 h2;have:1≤r.length:=by
        cases r with
        |nil=>rcases hx with⟨_,h|h⟩|⟨_,h⟩<;>simp[dQ]at h
        |cons d r=>simp
       refine⟨by omega,by simp;omega,?_⟩;rw[aP];omega
      ·split at h
       ·injection h with h
        simp only[aT]at h;obtain⟨_,h1,h2⟩:=h;subst h1 h2;refine⟨by omega,by simp,?_⟩;rw[aP];omega
       ·cases h
def head(l:List UInt8)(f k:Nat):Except Nat (List Tok):=
 if l.length≤k then .ok []else
 match token (l.drop k)with
 |none=>.error k
 |some (kd,s,n)=>
  match fy f (k+n) (l.drop (k+n))with
  | .error e=>.error e
  | .ok ts=>.ok ((kd,s,k)::ts)
theorem tH(l:List UInt8)(f j:Nat)(hj:j≤l.length):fy (f+1) j (l.drop j)=head l f (fu l j):=by
 obtain⟨h1,h2,h3⟩:=o3 l j hj;unfold fy head;rw[h3];by_cases hk:l.length≤fu l j
 ·rw[if_pos hk,bc hk]
 ·rw[if_neg hk];cases hd:l.drop (fu l j)with
  |nil=>
   have:=congrArg List.length hd;rw[aJ]at this;simp at this;omega
  |cons c r=>
   have hlen:(c::r).length=l.length-fu l j:=by rw[←hd,aJ]
   have e:j+((l.drop j).length-(c::r).length)=fu l j:=by rw[hlen,aJ];omega
   simp only[e];cases ht:token (c::r)with
   |none=>rfl
   |some t=>
    obtain⟨kd,s,n⟩:=t;simp only;rw[←hd,bU]<;>cases fy f (fu l j+n) (l.drop (fu l j+n))<;>rfl
def pre(acc:List Tok):Except Nat (List Tok)→Except Nat (List Tok)
 | .error e=>.error e
 | .ok ts=>.ok (acc++ts)
theorem J9(x:Except Nat (List Tok)):pre [] x=x:=by cases x<;>rfl
theorem Ca{l:List UInt8}{f k:Nat}{kd:UInt8}{s:List UInt8}{n:Nat}{acc:List Tok}(hk:¬l.length≤k)(ht:token (l.drop k)=some (kd,s,n))(hf:1≤f):pre acc (head l f k)=pre (acc++[(kd,s,k)]) (head l (f-1) (fu l (k+n))):=by
 have hl:=iX ht;rw[aJ]at hl;have e:fy f (k+n) (l.drop (k+n))=head l (f-1) (fu l (k+n)):=by obtain⟨f',rfl⟩:∃f',f=f'+1:=⟨f-1,by omega⟩;rw[Nat.add_sub_cancel];exact tH l f' (k+n) (by omega)
 have e1:head l f k=match head l (f-1) (fu l (k+n))with
  | .error e=>.error e
  | .ok ts=>.ok ((kd,s,k)::ts):=by
  rw[←e];conv=>lhs;unfold head
  rw[if_neg hk,ht]
 rw[e1];cases head l (f-1) (fu l (k+n))with
 |error e=>rfl
 |ok ts=>simp[pre]
theorem Hb{l:List UInt8}{f k:Nat}{acc:List Tok}(hk:¬l.length≤k)(ht:token (l.drop k)=none):pre acc (head l f k)=.error k:=by
 unfold head;rw[if_neg hk,ht];rfl
theorem D9{l:List UInt8}{f k:Nat}{acc:List Tok}(hk:l.length≤k):pre acc (head l f k)=.ok acc:=by
 unfold head;rw[if_pos hk];simp[pre]
def told(l:List UInt8):List Tok×Nat×Nat:=
 match tokens l with
 | .error e=>([],e.1,e.2)
 | .ok ts=>(ts,0,0)
theorem po{l:List UInt8}(h:4096<l.length):told l=([],3,0):=by
 unfold told tokens;rw[if_pos h]
theorem qB{l:List UInt8}{e:Nat}(h:¬4096<l.length)(ht:fy (l.length+1) 0 l=.error e):told l=([],290,e):=by
 unfold told tokens;rw[if_neg h,ht]
theorem Bv{l:List UInt8}{ts:List Tok}(h:¬4096<l.length)(ht:fy (l.length+1) 0 l=.ok ts):told l=(ts,0,0):=by
 unfold told tokens;rw[if_neg h,ht]
end Lex
namespace Cell
structure Val where
 k:UInt8
 n:Int
 s:ByteArray
def txt(v:Val):List UInt8:=v.s.data.toList
theorem Val.ext'{a b:Val}(h1:a.k=b.k)(h2:a.n=b.n)(h3:txt a=txt b):a=b:=by
 obtain⟨ak,an,⟨⟨as1⟩⟩⟩:=a;obtain⟨bk,bn,⟨⟨bs⟩⟩⟩:=b;simp[txt]at h1 h2 h3;subst h1 h2 h3;rfl
def js(v:Val):Bool:=
 match v.k.toNat with
 |0=>decide (v.n=0)&&decide (v.s.size=0)
 |1=>(decide (v.n=0)||decide (v.n=1))&&decide (v.s.size=0)
 |2=>decide (v.s.size=0)
 |3=>decide (v.s.size=0)
 |4=>decide (v.n=0)&&decide (v.s.size≤200)
 |5=>decide (v.n=0)&&decide (v.s.size≤200)
 |_=>false
end Cell
namespace Lex
theorem vG{p:UInt8→Bool}{y:UInt8}(hy:p y=false)(B:List UInt8):∀l,span p (l++y::B)=span p l:=by
 intro l;induction l with
 |nil=>simp only[aZ,span];rw[if_neg (by simp[hy])]
 |cons c l ih=>simp only[List.cons_append,span];rw[ih]
theorem Dw:∀(n:Nat) (l:List UInt8) (f f' a:Nat),l.length≤n→l.length<f→l.length<f'→fy f a l=fy f' a l:=by
 intro n;induction n with
 |zero=>
  intro l f f' a hn hf hf';obtain rfl:l=[]:=aC (by omega);obtain⟨g,rfl⟩:∃g,f=g+1:=⟨f-1,by omega⟩;obtain⟨g',rfl⟩:∃g,f'=g+1:=⟨f'-1,by omega⟩;rfl
 |succ n ih=>
  intro l f f' a hn hf hf';obtain⟨g,rfl⟩:∃g,f=g+1:=⟨f-1,by omega⟩;obtain⟨g',rfl⟩:∃g,f'=g+1:=⟨f'-1,by omega⟩;have hsk:=kY l false;simp only[fy];cases hs:skip false l with
  |nil=>rfl
  |cons c r=>
   rw[hs]at hsk;simp only;cases ht:token (c::r)with
   |none=>rfl
   |some t=>
    obtain⟨k,s,m⟩:=t;have hm:=iX ht;simp only;rw[ih ((c::r).drop m) g g' _ (by rw[aJ];omega) (by rw[aJ];omega) (by rw[aJ];omega)]
def run(a:Nat)(l:List UInt8):Except Nat (List Tok):=fy (l.length+1) a l
theorem iG{a:Nat}{l:List UInt8}(h:skip false l=[]):run a l=.ok []:=by
 unfold run fy;rw[h]
theorem oq{a:Nat}{l r:List UInt8}{c:UInt8}(h:skip false l=c::r)(ht:token (c::r)=none):run a l=.error (a+(l.length-(c::r).length)):=by
 unfold run fy;rw[h];simp only[ht]
theorem j8{a:Nat}{l r:List UInt8}{c:UInt8}{k:UInt8}{s:List UInt8}{n:Nat}(h:skip false l=c::r)(ht:token (c::r)=some (k,s,n)):run a l=pre [(k,s,a+(l.length-(c::r).length))] (run (a+(l.length-(c::r).length)+n) ((c::r).drop n)):=by
 have hsk:=kY l false;rw[h]at hsk;have hm:=iX ht;have e:run (a+(l.length-(c::r).length)+n) ((c::r).drop n)=fy l.length (a+(l.length-(c::r).length)+n) ((c::r).drop n):=by unfold run;exact Dw _ _ _ _ _ (aa _) (by omega) (by rw[aJ];omega)
 rw[e];conv=>lhs;unfold run fy
 rw[h];simp only[ht];cases fy l.length (a+(l.length-(c::r).length)+n) ((c::r).drop n)<;>rfl
def AA(d:Nat)(ts:List Tok):List Tok:=ts.map fun t=>(t.1,t.2.1,t.2.2+d)
def EI(d:Nat):Except Nat (List Tok)→Except Nat (List Tok)
 | .error e=>.error (e+d)
 | .ok ts=>.ok (AA d ts)
theorem tE:∀(n:Nat) (l:List UInt8) (a d:Nat),l.length≤n→run (a+d) l=EI d (run a l):=by
 intro n;induction n with
 |zero=>
  intro l a d hn;obtain rfl:l=[]:=aC (by omega);rw[iG rfl,iG rfl];rfl
 |succ n ih=>
  intro l a d hn;cases hs:skip false l with
  |nil=>rw[iG hs,iG hs];rfl
  |cons c r=>
   have hsk:=kY l false;rw[hs]at hsk;cases ht:token (c::r)with
   |none=>
    rw[oq hs ht,oq hs ht];show _=Except.error _;congr 1;omega
   |some t=>
    obtain⟨k,s,m⟩:=t;have hm:=iX ht;rw[j8 hs ht,j8 hs ht];have e:a+d+(l.length-(c::r).length)+m=a+(l.length-(c::r).length)+m+d:=by omega
    rw[e,ih ((c::r).drop m) _ d (by rw[aJ];omega)];cases run (a+(l.length-(c::r).length)+m) ((c::r).drop m)with
    |error e=>rfl
    |ok ts=>
     simp only[EI,pre,AA,cw,List.map_cons,bu];congr 3;rw[show a+d+(l.length-(c::r).length)=a+(l.length-(c::r).length)+d by omega]
theorem qT(l:List UInt8)(h:¬4096<l.length):told l=match run 0 l with| .error e=>([],290,e)| .ok ts=>(ts,0,0):=by
 cases hr:run 0 l with
 |error e=>exact qB h hr
 |ok ts=>exact Bv h hr
end Lex
namespace Lex
def bare(ts:List Tok):List (UInt8×List UInt8):=ts.map fun t=>(t.1,t.2.1)
theorem rE(d:Nat)(ts:List Tok):bare (AA d ts)=bare ts:=by
 unfold bare AA;rw[List.map_map];rfl
def Sk(l:List UInt8)(sk:List (UInt8×List UInt8)):Prop:=∃ts,run 0 l=.ok ts∧bare ts=sk
theorem Sk.at{l:List UInt8}{sk:List (UInt8×List UInt8)}(h:Sk l sk)(a:Nat):∃ts,run a l=.ok ts∧bare ts=sk:=by
 obtain⟨ts,h1,h2⟩:=h;have:=tE _ l 0 a (aa _);rw[aW,h1]at this;exact⟨_,this,by rw[rE];exact h2⟩
theorem Sk.of{l:List UInt8}{a:Nat}{ts:List Tok}(h:run a l=.ok ts):Sk l (bare ts):=by
 have:=tE _ l 0 a (aa _);rw[aW,h]at this;cases h0:run 0 l with
 |error e=>rw[h0]at this;cases this
 |ok t0=>
  rw[h0]at this;injection this with this
  exact⟨t0,h0,by rw[this,rE]⟩
theorem Sk.cons{l r:List UInt8}{c k:UInt8}{s:List UInt8}{n:Nat}{sk:List (UInt8×List UInt8)}(h:skip false l=c::r)(ht:token (c::r)=some (k,s,n))(hs:Sk ((c::r).drop n) sk):Sk l ((k,s)::sk):=by
 obtain⟨ts,h1,h2⟩:=hs.at (0+(l.length-(c::r).length)+n);refine⟨(k,s,0+(l.length-(c::r).length))::ts,?_,?_⟩
 ·rw[j8 h ht,h1];rfl
 ·show(k,s)::bare ts=_;rw[h2]
theorem Sk.nil{l:List UInt8}(h:skip false l=[]):Sk l []:=⟨[],iG h,rfl⟩
theorem Sk.same{l l':List UInt8}{sk:List (UInt8×List UInt8)}(h:Sk l sk)(he:skip false l'=skip false l):Sk l' sk:=by
 cases hs:skip false l with
 |nil=>
  obtain⟨ts,h1,h2⟩:=h;rw[iG hs]at h1;injection h1 with h1
  subst h1 h2;exact Sk.nil (he.trans hs)
 |cons c r=>
  obtain⟨ts,h1,h2⟩:=h;cases ht:token (c::r)with
  |none=>rw[oq hs ht]at h1;cases h1
  |some t=>
   obtain⟨k,s,n⟩:=t;rw[j8 hs ht]at h1;cases hr:run (0+(l.length-(c::r).length)+n) ((c::r).drop n)with
   |error e=>rw[hr]at h1;cases h1
   |ok ts'=>
    rw[hr]at h1;injection h1 with h1
    subst h1 h2;exact Sk.cons (he.trans hs) ht (Sk.of hr)
end Lex
end Go.Proofs.YtnicfobpclehkaaGreatDoor
