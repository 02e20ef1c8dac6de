import Derived.Lib.Replace
import Derived.Test.YtnicfobpclehkaaGreatDoorP43
set_option maxHeartbeats 200000
set_option linter.unusedVariables false
set_option linter.unusedSimpArgs false
namespace Go.Proofs.YtnicfobpclehkaaGreatDoor
section
namespace Lex
theorem uC(a:Nat)(X:List UInt8):run a (32::X)=run (a+1) X:=by
 have e:=uM X;cases hs:skip false X with
 |nil=>
  rw[hs]at e;rw[iG e,iG hs]
 |cons c r=>
  rw[hs]at e;have hl:=kY X false;rw[hs]at hl;have hd:a+((32::X).length-(c::r).length)=a+1+(X.length-(c::r).length):=by rw[ab (a:=32)];omega
  cases ht:token (c::r)with
  |none=>rw[oq e ht,oq hs ht,hd]
  |some t=>
   obtain⟨k,s,n⟩:=t;rw[j8 e ht,j8 hs ht,hd]
end Lex
namespace I
open Ev (Ex Hd)
open Lex (Bl Sk bare skip token)
theorem kT{s R:Bs}{t:BT}{a:Nat}{ts:List Tok}(h:PT s t)(hR:Bl R)(hr:Lex.run (a+s.length) R=.ok ts):Lex.run a (s++R)=.ok ((t.1,t.2,a)::ts):=by
 obtain⟨h1,h2⟩:=h.cut R hR;obtain⟨c,x,rfl⟩:=List.exists_cons_of_ne_nil h.ne;have e:=Lex.j8 (a:=a) (l:=c::x++R) (c:=c) (r:=x++R) h1 h2;have e0:(c::x++R).length-(c::(x++R)).length=0:=by simp
 rw[e0,bh]at e;rw[e,←List.cons_append,List.drop_left,hr];rfl
theorem Gn{s:NC}(h:Pu s):pS s≠[]:=by
 intro e;have h1:=rq h;rw[e]at h1;have h2:bS s=[]:=aC h1.len;have h3:=vp (T:=0) h ⟨[],0,0,false⟩ [] (by rw[h2];rfl) xz;rw[h2]at h3;have h4:∀l:List (Bs×(St→NC×St)),pick 0 l ⟨[],0,0,false⟩=(NC.zero,fail 0 300 ⟨[],0,0,false⟩):=by
  intro l;induction l with
  |nil=>rfl
  |cons v l ih=>exact ih
 rw[h4]at h3;have h5:fail 0 300 ⟨[],0,0,false⟩=NO ([]:List BT).length ⟨[],0,0,false⟩:=congrArg Prod.snd h3;have h6:(300:Nat)=0:=congrArg St.e h5;exact absurd h6 (by decide)
end I
end
section
namespace I
open Lex (Bl Sk skip)
theorem tC{b:UInt8}{s:Bs}(h:Lib.indexByte s b<0):b ∉s:=by
 induction s with
 |nil=>simp
 |cons a l ih=>
  intro hm;have hg:=Lib.indexByte_ge l b;unfold Lib.indexByte at h;split at h
  ·omega
  ·rename_i hab;split at h
   ·rename_i he;rcases af.1 hm with e|hm
    ·exact hab (by rw[e];simp)
    ·exact ih (by simp at he;omega) hm
   ·omega
theorem CY{c:UInt8}{s:Bs}:∀{l:List Bs},s∈l→c∈s→c∈di l:=by
 intro l;induction l with
 |nil=>intro h;cases h
 |cons t l ih=>
  intro h hc;cases l with
  |nil=>
   rcases af.1 h with rfl|h
   ·exact hc
   ·cases h
  |cons u r=>
   show c∈t++32::di (u::r);rcases af.1 h with rfl|h
   ·exact List.mem_append_left _ hc
   ·exact List.mem_append_right _ (au _ (ih h hc))
theorem Gy:∀{l:List Bs} {ts:List BT},NL l ts→(39:UInt8) ∉di l→∀s∈l,(32:UInt8) ∉s:=by
 intro l ts h hq s hs;have hp:∀{l:List Bs} {ts:List BT},NL l ts→∀s∈l,∃t,PT s t:=by
  intro l;induction l with
  |nil=>intro _ _ s h;cases h
  |cons a l ih=>
   intro ts h s hs;cases ts with
   |nil=>exact absurd h id
   |cons t r=>
    rcases af.1 hs with rfl|hs
    ·exact⟨t,h.1⟩
    ·exact ih h.2 s hs
 obtain⟨t,ht⟩:=hp h s hs;rcases ht.nb with h1|h1
 ·exact absurd (CY hs h1) hq
 ·exact fun hm=>h1 _ hm rfl
end I
end
end Go.Proofs.YtnicfobpclehkaaGreatDoor
