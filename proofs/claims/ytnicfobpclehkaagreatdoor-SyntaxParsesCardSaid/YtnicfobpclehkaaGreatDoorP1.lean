set_option maxHeartbeats 200000
set_option linter.unusedVariables false
set_option linter.unusedSimpArgs false
namespace Go.Proofs.YtnicfobpclehkaaGreatDoor
namespace Lex
def letter(c:UInt8):Bool:=decide (97≤c.toNat∧c.toNat≤122)||decide (c.toNat=95)
def digit(c:UInt8):Bool:=decide (48≤c.toNat∧c.toNat≤57)
def aL(c:UInt8):Bool:=letter c||digit c
def hex(c:UInt8):Bool:=digit c||decide (97≤c.toNat∧c.toNat≤102)
def blank(c:UInt8):Bool:=decide (c.toNat=32∨c.toNat=9∨c.toNat=10∨c.toNat=13)
def fi(c:UInt8):Bool:=decide (c.toNat≠10)
def span(p:UInt8→Bool):List UInt8→Nat
 |[]=>0
 |c::l=>if p c=true then span p l+1 else 0
theorem dj(p:UInt8→Bool):∀l,span p l≤l.length:=by
 intro l;induction l with
 |nil=>simp[span]
 |cons c l ih=>simp only[span,List.length_cons];split<;>omega
def aZ(l:List UInt8)(i:Nat)(c:UInt8):Bool:=decide (l[i]?=some c)
def skip:Bool→List UInt8→List UInt8
 |_,[]=>[]
 |true,c::l=>if c.toNat=10 then skip false l else skip true l
 |false,c::l=>if blank c=true then skip false l else if c.toNat=45∧aZ l 0 45=true then skip true l else c::l
theorem BT:∀(l:List UInt8) (b:Bool),(skip b l).length≤l.length:=by
 intro l;induction l with
 |nil=>intro b;cases b<;>simp[skip]
 |cons c l ih=>
  intro b;have h1:=ih true;have h2:=ih false;cases b<;>simp only[skip]<;>(repeat' split)<;>simp only[List.length_cons]<;>omega
def quote:List UInt8→Option (List UInt8×List UInt8)
 |[]=>none
 |[c]=>if c.toNat=39 then some ([],[])else none
 |c::d::l=>if c.toNat=39 then(if d.toNat=39 then(quote l).map (fun p=>(39::p.1,p.2))else some ([],d::l))else(quote (d::l)).map (fun p=>(c::p.1,p.2))
def df(c:UInt8):Nat:=if digit c=true then c.toNat-48 else c.toNat-87
def pair(a b:UInt8):UInt8:=UInt8.ofNat (df a*16+df b)
def cT:List UInt8→Option (List UInt8×List UInt8)
 |[]=>none
 |[c]=>if c.toNat=39 then some ([],[])else none
 |c::d::l=>if c.toNat=39 then some ([],d::l)else if hex c=true∧hex d=true then(cT l).map (fun p=>(pair c d::p.1,p.2))else none
def oG:List UInt8:=[40,41,44,46,59,43,45,42,61,60,62]
def dD(l:List UInt8):Option (UInt8×List UInt8×Nat):=
 match cT (l.drop 2)with
 |none=>none
 |some (s,x)=>if s.length≤200 then some (4,s,l.length-x.length)else none
def iu(l:List UInt8):Option (UInt8×List UInt8×Nat):=if span aL l≤24 then some (1,l.take (span aL l),span aL l)else none
def fo(l:List UInt8):Option (UInt8×List UInt8×Nat):=
 if aZ l 0 48=true∧1<span digit l then none
 else if aZ l (span digit l) 46=true∧0<span digit (l.drop (span digit l+1))then
  (if 4<span digit (l.drop (span digit l+1))then none
   else some (2,l.take (span digit l+1+span digit (l.drop (span digit l+1))),span digit l+1+span digit (l.drop (span digit l+1))))
 else some (2,l.take (span digit l),span digit l)
def dS(l:List UInt8):Option (UInt8×List UInt8×Nat):=
 match quote (l.drop 1)with
 |none=>none
 |some (s,x)=>if s.length≤200 then some (3,s,l.length-x.length)else none
def jE(l:List UInt8):Option (UInt8×List UInt8×Nat):=
 match l with
 |[]=>none
 |c::r=>
  if(c.toNat=60∧(aZ r 0 62=true∨aZ r 0 61=true))∨(c.toNat=62∧aZ r 0 61=true)then some (5,l.take 2,2)
  else if c∈oG then some (5,l.take 1,1)
  else none
def token(l:List UInt8):Option (UInt8×List UInt8×Nat):=
 match l with
 |[]=>none
 |c::r=>
  if c.toNat=120∧aZ r 0 39=true then dD l
  else if letter c=true then iu l
  else if digit c=true then fo l
  else if c.toNat=39 then dS l
  else jE l
abbrev Tok:=UInt8×List UInt8×Nat
def im:Nat→Nat→List UInt8→Except Nat (List Tok)
 |0,_,_=>.ok []
 |f+1,at_,l=>
  match skip false l with
  |[]=>.ok []
  |c::r=>
   match token (c::r)with
   |none=>.error (at_+(l.length-(c::r).length))
   |some (k,s,n)=>
    match im f (at_+(l.length-(c::r).length)+n) ((c::r).drop n)with
    | .error e=>.error e
    | .ok ts=>.ok ((k,s,at_+(l.length-(c::r).length))::ts)
def tokens(l:List UInt8):Except (Nat×Nat) (List Tok):=
 if 4096<l.length then .error (3,0)else
 match im (l.length+1) 0 l with
 | .error e=>.error (290,e)
 | .ok ts=>.ok ts
end Lex
namespace Lex
theorem pz(p:UInt8→Bool):∀(l:List UInt8) (j:Nat),j<span p l→∃c,l[j]?=some c∧p c=true:=by
 intro l;induction l with
 |nil=>intro j h;simp[span]at h
 |cons c l ih=>
  intro j h;simp only[span]at h;split at h
  ·rename_i hc;cases j with
   |zero=>exact⟨c,rfl,hc⟩
   |succ j=>
    obtain⟨d,h1,h2⟩:=ih j (by omega);exact⟨d,by simpa using h1,h2⟩
  ·omega
theorem yf(p:UInt8→Bool):∀(l:List UInt8) (c:UInt8),l[span p l]?=some c→p c=false:=by
 intro l;induction l with
 |nil=>intro c h;simp[span]at h
 |cons d l ih=>
  intro c h;simp only[span]at h;split at h
  ·exact ih c (by simpa using h)
  ·rename_i hd;simp at h;subst h;simpa using hd
theorem rW(p:UInt8→Bool):∀(l:List UInt8) (k:Nat),(∀j c,j<k→l[j]?=some c→p c=true)→k≤l.length→(∀c,l[k]?=some c→p c=false)→span p l=k:=by
 intro l;induction l with
 |nil=>intro k _ h _;simp at h;subst h;rfl
 |cons d l ih=>
  intro k h1 h2 h3;cases k with
  |zero=>
   have:=h3 d rfl;simp only[span];rw[if_neg (by simp[this])]
  |succ k=>
   have hd:=h1 0 d (by omega) rfl;simp only[span];rw[if_pos hd,ih k (fun j c hj hc=>h1 (j+1) c (by omega) (by simpa using hc)) (by simpa using h2) (fun c hc=>h3 c (by simpa using hc))]
theorem wq:∀l:List UInt8,skip false l=skip false (l.drop (span blank l)):=by
 intro l;induction l with
 |nil=>rfl
 |cons c l ih=>
  simp only[span];split
  ·rename_i hc;rw[List.drop_succ_cons,←ih];simp only[skip];rw[if_pos hc]
  ·rfl
theorem pI:∀l:List UInt8,skip true l=skip false (l.drop (span fi l)):=by
 intro l;induction l with
 |nil=>rfl
 |cons c l ih=>
  simp only[span];by_cases hc:c.toNat=10
  ·rw[if_neg (by simp[fi,hc]),List.drop_zero];simp only[skip];rw[if_pos hc,if_pos (by simp[blank,hc])]
  ·rw[if_pos (by simp[fi,hc]),List.drop_succ_cons,←ih];simp only[skip];rw[if_neg hc]
theorem zT{l:List UInt8}(h0:aZ l 0 45=true)(h1:aZ l 1 45=true):skip false l=skip false (l.drop (span fi l)):=by
 cases l with
 |nil=>simp[aZ]at h0
 |cons c l=>
  have hc:c=45:=by simpa[aZ]using h0
  subst hc;have h1':aZ l 0 45=true:=by simpa[aZ]using h1
  have e1:skip false (45::l)=skip true l:=by simp only[skip];rw[if_neg (by decide),if_pos ⟨by decide,h1'⟩]
  rw[e1,pI];simp only[span];rw[if_pos (by decide),List.drop_succ_cons]
theorem j0{l:List UInt8}(hb:∀c,l[0]?=some c→blank c=false)(h:aZ l 0 45=false∨aZ l 1 45=false):skip false l=l:=by
 cases l with
 |nil=>rfl
 |cons c l=>
  have:=hb c rfl;simp only[skip];rw[if_neg (by simp[this]),if_neg];rintro⟨h1,h2⟩;rcases h with h|h
  ·simp[aZ]at h;exact h (UInt8.toNat_inj.1 (by simpa using h1))
  ·simp[aZ]at h h2;exact h h2
def bZ(l:List UInt8)(i:Nat):Nat:=l.length-(skip false (l.drop i)).length
theorem gI{l:List UInt8}{i j:Nat}(h:skip false (l.drop i)=l.drop j)(hj:j≤l.length):bZ l i=j:=by
 unfold bZ;rw[h,List.length_drop];omega
theorem bX(l:List UInt8)(i j:Nat)(c:UInt8):aZ (l.drop i) j c=aZ l (i+j) c:=by simp[aZ]
theorem uc:∀(l:List UInt8) (b:Bool),∃k,k≤l.length∧skip b l=l.drop k:=by
 intro l;induction l with
 |nil=>intro b;exact⟨0,by simp,by cases b<;>rfl⟩
 |cons c l ih=>
  intro b;have step:∀b',∃k,k≤(c::l).length∧skip b' l=(c::l).drop k:=by intro b';obtain⟨k,h1,h2⟩:=ih b';exact⟨k+1,by simp;omega,by simpa using h2⟩
  cases b
  ·simp only[skip];split
   ·exact step false
   ·split
    ·exact step true
    ·exact⟨0,by simp,rfl⟩
  ·simp only[skip];split
   ·exact step false
   ·exact step true
theorem iL(l:List UInt8)(i:Nat)(hi:i≤l.length):i≤bZ l i∧bZ l i≤l.length∧skip false (l.drop i)=l.drop (bZ l i):=by
 obtain⟨k,h1,h2⟩:=uc (l.drop i) false;rw[List.length_drop]at h1;rw[List.drop_drop]at h2;have:=gI (l:=l) (i:=i) (j:=i+k) (by rw[h2]) (by omega);rw[this];exact⟨by omega,by omega,h2⟩
end Lex
namespace Lex
theorem yw:∀(f:Nat) (l:List UInt8),l.length≤f→∀s x,quote l=some (s,x)→x.length<l.length∧s.length≤l.length:=by
 intro f;induction f with
 |zero=>
  intro l h s x hq;obtain rfl:l=[]:=List.eq_nil_of_length_eq_zero (by omega);cases hq
 |succ f ih=>
  intro l h s x hq;match l,h with
  |[],_=>cases hq
  |[c],_=>
   simp only[quote]at hq;split at hq
   ·injection hq with hq
    injection hq with h1 h2
    subst h1 h2;simp
   ·cases hq
  |c::d::l,h=>
   simp only[quote]at hq;split at hq
   ·split at hq
    ·cases hl:quote l with
     |none=>rw[hl]at hq;cases hq
     |some p=>
      rw[hl]at hq;simp only[Option.map_some,Option.some.injEq,Prod.mk.injEq]at hq;have:=ih l (by simp at h;omega) p.1 p.2 hl;rw[←hq.1,←hq.2];simp only[List.length_cons];omega
    ·injection hq with hq
     injection hq with h1 h2
     subst h1 h2;simp
   ·cases hl:quote (d::l)with
    |none=>rw[hl]at hq;cases hq
    |some p=>
     rw[hl]at hq;simp only[Option.map_some,Option.some.injEq,Prod.mk.injEq]at hq;have:=ih (d::l) (by simp at h⊢;omega) p.1 p.2 hl;rw[←hq.1,←hq.2];simp only[List.length_cons]at this⊢;omega
theorem Aj:∀(f:Nat) (l:List UInt8),l.length≤f→∀s x,cT l=some (s,x)→x.length<l.length∧s.length≤l.length:=by
 intro f;induction f with
 |zero=>
  intro l h s x hq;obtain rfl:l=[]:=List.eq_nil_of_length_eq_zero (by omega);cases hq
 |succ f ih=>
  intro l h s x hq;match l,h with
  |[],_=>cases hq
  |[c],_=>
   simp only[cT]at hq;split at hq
   ·injection hq with hq
    injection hq with h1 h2
    subst h1 h2;simp
   ·cases hq
  |c::d::l,h=>
   simp only[cT]at hq;split at hq
   ·injection hq with hq
    injection hq with h1 h2
    subst h1 h2;simp
   ·split at hq
    ·cases hl:cT l with
     |none=>rw[hl]at hq;cases hq
     |some p=>
      rw[hl]at hq;simp only[Option.map_some,Option.some.injEq,Prod.mk.injEq]at hq;have:=ih l (by simp at h;omega) p.1 p.2 hl;rw[←hq.1,←hq.2];simp only[List.length_cons];omega
    ·cases hq
theorem lO{p:UInt8→Bool}{c:UInt8}{l:List UInt8}(h:p c=true):1≤span p (c::l):=by
 simp only[span];rw[if_pos h];omega
theorem j2{l:List UInt8}{k:UInt8}{s:List UInt8}{n:Nat}(h:token l=some (k,s,n)):1≤n∧n≤l.length∧s.length≤l.length:=by
 cases l with
 |nil=>cases h
 |cons c r=>
  unfold token at h;simp only at h;split at h
  ·rename_i hx;unfold dD at h;cases hp:cT ((c::r).drop 2)with
   |none=>rw[hp]at h;cases h
   |some p=>
    rw[hp]at h;obtain⟨s',x⟩:=p;have hl:=Aj _ _ (Nat.le_refl _) s' x hp;simp only[List.length_drop]at hl;simp only at h;split at h
    ·injection h with h
     simp only[Prod.mk.injEq]at h;obtain⟨_,h1,h2⟩:=h;subst h1 h2;omega
    ·cases h
  ·split at h
   ·rename_i hx;unfold iu at h;split at h
    ·injection h with h
     simp only[Prod.mk.injEq]at h;obtain⟨_,h1,h2⟩:=h;subst h1 h2;have:=dj aL (c::r);have h3:1≤span aL (c::r):=lO (by unfold aL;rw[hx];rfl);refine⟨h3,this,?_⟩;rw[List.length_take];omega
    ·cases h
   ·split at h
    ·rename_i hx;have h3:1≤span digit (c::r):=lO hx;have h4:=dj digit (c::r);have h5:=dj digit ((c::r).drop (span digit (c::r)+1));rw[List.length_drop]at h5;unfold fo at h;split at h
     ·cases h
     ·split at h
      ·rename_i hy;split at h
       ·cases h
       ·injection h with h
        simp only[Prod.mk.injEq]at h;obtain⟨_,h1,h2⟩:=h;subst h1 h2;refine⟨by omega,by omega,?_⟩;rw[List.length_take];omega
      ·injection h with h
       simp only[Prod.mk.injEq]at h;obtain⟨_,h1,h2⟩:=h;subst h1 h2;refine⟨h3,h4,?_⟩;rw[List.length_take];omega
    ·split at h
     ·unfold dS at h;cases hp:quote ((c::r).drop 1)with
      |none=>rw[hp]at h;cases h
      |some p=>
       rw[hp]at h;obtain⟨s',x⟩:=p;have hl:=yw _ _ (Nat.le_refl _) s' x hp;simp only[List.length_drop]at hl;simp only at h;split at h
       ·injection h with h
        simp only[Prod.mk.injEq]at h;obtain⟨_,h1,h2⟩:=h;subst h1 h2;omega
       ·cases h
     ·unfold jE at h;simp only at h;split at h
      ·rename_i hx;injection h with h
       simp only[Prod.mk.injEq]at h;obtain⟨_,h1,h2⟩:=h;subst h1 h2;have:1≤r.length:=by
        cases r with
        |nil=>rcases hx with⟨_,h|h⟩|⟨_,h⟩<;>simp[aZ]at h
        |cons d r=>simp
       refine⟨by omega,by simp;omega,?_⟩;rw[List.length_take];omega
      ·split at h
       ·injection h with h
        simp only[Prod.mk.injEq]at h;obtain⟨_,h1,h2⟩:=h;subst h1 h2;refine⟨by omega,by simp,?_⟩;rw[List.length_take];omega
       ·cases h
def head(l:List UInt8)(f k:Nat):Except Nat (List Tok):=
 if l.length≤k then .ok []else
 match token (l.drop k)with
 |none=>.error k
 |some (kd,s,n)=>
  match im f (k+n) (l.drop (k+n))with
  | .error e=>.error e
  | .ok ts=>.ok ((kd,s,k)::ts)
theorem lV(l:List UInt8)(f j:Nat)(hj:j≤l.length):im (f+1) j (l.drop j)=head l f (bZ l j):=by
 obtain⟨h1,h2,h3⟩:=iL l j hj;unfold im head;rw[h3];by_cases hk:l.length≤bZ l j
 ·rw[if_pos hk,List.drop_of_length_le hk]
 ·rw[if_neg hk];cases hd:l.drop (bZ l j)with
  |nil=>
   have:=congrArg List.length hd;rw[List.length_drop]at this;simp at this;omega
  |cons c r=>
   have hlen:(c::r).length=l.length-bZ l j:=by rw[←hd,List.length_drop]
   have e:j+((l.drop j).length-(c::r).length)=bZ l j:=by rw[hlen,List.length_drop];omega
   simp only[e];cases ht:token (c::r)with
   |none=>rfl
   |some t=>
    obtain⟨kd,s,n⟩:=t;simp only;rw[←hd,List.drop_drop]<;>cases im f (bZ l j+n) (l.drop (bZ l j+n))<;>rfl
def pre(acc:List Tok):Except Nat (List Tok)→Except Nat (List Tok)
 | .error e=>.error e
 | .ok ts=>.ok (acc++ts)
theorem xP(x:Except Nat (List Tok)):pre [] x=x:=by cases x<;>rfl
theorem qe{l:List UInt8}{f k:Nat}{kd:UInt8}{s:List UInt8}{n:Nat}{acc:List Tok}(hk:¬l.length≤k)(ht:token (l.drop k)=some (kd,s,n))(hf:1≤f):pre acc (head l f k)=pre (acc++[(kd,s,k)]) (head l (f-1) (bZ l (k+n))):=by
 have hl:=j2 ht;rw[List.length_drop]at hl;have e:im f (k+n) (l.drop (k+n))=head l (f-1) (bZ l (k+n)):=by obtain⟨f',rfl⟩:∃f',f=f'+1:=⟨f-1,by omega⟩;rw[Nat.add_sub_cancel];exact lV l f' (k+n) (by omega)
 have e1:head l f k=match head l (f-1) (bZ l (k+n))with
  | .error e=>.error e
  | .ok ts=>.ok ((kd,s,k)::ts):=by
  rw[←e];conv=>lhs;unfold head
  rw[if_neg hk,ht]
 rw[e1];cases head l (f-1) (bZ l (k+n))with
 |error e=>rfl
 |ok ts=>simp[pre]
theorem uB{l:List UInt8}{f k:Nat}{acc:List Tok}(hk:¬l.length≤k)(ht:token (l.drop k)=none):pre acc (head l f k)=.error k:=by
 unfold head;rw[if_neg hk,ht];rfl
theorem uq{l:List UInt8}{f k:Nat}{acc:List Tok}(hk:l.length≤k):pre acc (head l f k)=.ok acc:=by
 unfold head;rw[if_pos hk];simp[pre]
def told(l:List UInt8):List Tok×Nat×Nat:=
 match tokens l with
 | .error e=>([],e.1,e.2)
 | .ok ts=>(ts,0,0)
theorem j3{l:List UInt8}(h:4096<l.length):told l=([],3,0):=by
 unfold told tokens;rw[if_pos h]
theorem oa{l:List UInt8}{e:Nat}(h:¬4096<l.length)(ht:im (l.length+1) 0 l=.error e):told l=([],290,e):=by
 unfold told tokens;rw[if_neg h,ht]
theorem wX{l:List UInt8}{ts:List Tok}(h:¬4096<l.length)(ht:im (l.length+1) 0 l=.ok ts):told l=(ts,0,0):=by
 unfold told tokens;rw[if_neg h,ht]
end Lex
namespace Cell
structure Val where
 k:UInt8
 n:Int
 s:ByteArray
def txt(v:Val):List UInt8:=v.s.data.toList
theorem Val.ext'{a b:Val}(h1:a.k=b.k)(h2:a.n=b.n)(h3:txt a=txt b):a=b:=by
 obtain⟨ak,an,⟨⟨as1⟩⟩⟩:=a;obtain⟨bk,bn,⟨⟨bs⟩⟩⟩:=b;simp[txt]at h1 h2 h3;subst h1 h2 h3;rfl
def sa(v:Val):Bool:=
 match v.k.toNat with
 |0=>decide (v.n=0)&&decide (v.s.size=0)
 |1=>(decide (v.n=0)||decide (v.n=1))&&decide (v.s.size=0)
 |2=>decide (v.s.size=0)
 |3=>decide (v.s.size=0)
 |4=>decide (v.n=0)&&decide (v.s.size≤200)
 |5=>decide (v.n=0)&&decide (v.s.size≤200)
 |_=>false
def byteOf(n:Nat):UInt8:=UInt8.ofNat (n%256)
def be8(u:Nat):List UInt8:=[byteOf (u/72057594037927936),byteOf (u/281474976710656),byteOf (u/1099511627776),byteOf (u/4294967296),byteOf (u/16777216),byteOf (u/65536),byteOf (u/256),byteOf u]
def u64(n:Int):Nat:=(n%18446744073709551616).toNat
def i64(u:Nat):Int:=((u:Int)+9223372036854775808)%18446744073709551616-9223372036854775808
def tail(v:Val):List UInt8:=
 match v.k.toNat with
 |1=>[byteOf (v.n%256).toNat]
 |2=>be8 (u64 v.n)
 |3=>be8 (u64 v.n)
 |4=>byteOf v.s.size::txt v
 |5=>byteOf v.s.size::txt v
 |_=>[]
def bytes(v:Val):List UInt8:=v.k::tail v
def flat(r:List Val):List UInt8:=r.flatMap bytes
def row(r:List Val):Nat×List UInt8:=
 if r.all sa=false then(2,[])
 else if 12<r.length then(3,[])
 else if 480<1+(flat r).length then(3,[])
 else(0,byteOf r.length::flat r)
def mk(k:UInt8)(n:Int)(s:List UInt8):Val:=⟨k,n,⟨s.toArray⟩⟩
end Cell
section
namespace Val
open Go.Proofs.YtnicfobpclehkaaGreatDoor.Cell
def fit(x:Int):Option Int:=if -9223372036854775808≤x∧x≤9223372036854775807 then some x else none
def vz:Val:=⟨0,0,⟨#[]⟩⟩
def Yt(k:UInt8):Bool:=decide (k.toNat=2)||decide (k.toNat=3)
def yQ(a b:Val):Bool:=sa a&&sa b
def wrongKind(v:Val):Bool:=!decide (v.k.toNat=0)&&!Yt v.k
def asked(a b:Val):Bool×Nat:=
 if yQ a b=false then(false,2)
 else if(wrongKind a||wrongKind b)=true then(false,270)
 else(decide (a.k.toNat=0)||decide (b.k.toNat=0),0)
def answer(k:UInt8)(x:Int):Val×Nat:=
 match fit x with
 |none=>(vz,271)
 |some n=>(⟨k,n,⟨#[]⟩⟩,0)
def fixed(v:Val):Int:=if v.k.toNat=2 then v.n*10000 else v.n
def add(a b:Val):Val×Nat:=
 if(asked a b).2≠0∨(asked a b).1=true then(vz,(asked a b).2)
 else if a.k.toNat=2∧b.k.toNat=2 then answer 2 (a.n+b.n)else answer 3 (fixed a+fixed b)
def sub(a b:Val):Val×Nat:=
 if(asked a b).2≠0∨(asked a b).1=true then(vz,(asked a b).2)
 else if a.k.toNat=2∧b.k.toNat=2 then answer 2 (a.n-b.n)else answer 3 (fixed a-fixed b)
def neg(a:Val):Val×Nat:=
 if(asked a vz).2≠0∨a.k.toNat=0 then(vz,(asked a vz).2)else answer a.k (-a.n)
def holds(op:UInt8)(c:Int):Bool:=
 match op.toNat with
 |7=>decide (c=0)
 |8=>decide (c≠0)
 |9=>decide (c<0)
 |10=>decide (c≤0)
 |11=>decide (0<c)
 |12=>decide (0≤c)
 |_=>false
end Val
end
end Go.Proofs.YtnicfobpclehkaaGreatDoor
