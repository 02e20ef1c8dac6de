import Derived.Lib.Replace
import Derived.Test.YtnicfobpclehkaaGreatDoorP45
import Derived.Test.YtnicfobpclehkaaGreatDoorP2
set_option maxHeartbeats 25600000
set_option linter.unusedVariables false
set_option linter.unusedSimpArgs false
namespace Go.Proofs.YtnicfobpclehkaaGreatDoor
open Go.RowKit
section
namespace I
open Ev (Ex Hd)
open Lex (bare)
section
variable{T:Nat}
end
theorem Cs{T:Nat}{s:NC}(h:Pu s){l r:List Tok}{t u:Tok}(hl:l=r++[t,u])(hb:bare r=bS s)(ht:(t.1,t.2.1)=sg [59]):(run T l).2.e=300∧(run T l).2.c=u.2.2:=by
 have hb':bare l=bS s++sg [59]::[(u.1,u.2.1)]:=by rw[hl];unfold bare at hb⊢;rw[cw,hb];show bS s++[(t.1,t.2.1),(u.1,u.2.1)]=_;rw[ht]
 have e:=vp (T:=T) h ⟨l,0,0,false⟩ _ hb' (th _);have hlen:(bS s).length=r.length:=by rw[←hb,iv]
 have hr:(NO (bS s).length (⟨l,0,0,false⟩:St)).r=[t,u]:=by unfold NO;dsimp only;rw[hlen,hl,List.drop_left]
 unfold run;rw[e];dsimp only;have ha:acc [59] (NO (bS s).length (⟨l,0,0,false⟩:St))=NO 1 (NO (bS s).length ⟨l,0,0,false⟩):=by unfold acc;rw[if_pos (gd (dt (st:=⟨l,0,0,false⟩) hb') (by decide)),dn]
 have hr2:(NO 1 (NO (bS s).length (⟨l,0,0,false⟩:St))).r=[u]:=by show(NO (bS s).length (⟨l,0,0,false⟩:St)).r.drop 1=[u];rw[hr];rfl
 rw[ha,if_neg (by rw[hr2];simp)];unfold fail place;rw[hr2];exact⟨rfl,rfl⟩
end I
end
section
namespace Lex
theorem bl_9(W:List UInt8):Bl (9::W):=.inr ⟨9,W,rfl,.inr (.inl rfl)⟩
end Lex
namespace I
open Ev (Ex Hd)
open Lex (Bl Sk bare skip token)
end I
end
section
namespace Lex
end Lex
namespace I
open Ev (Ex Hd)
open Lex (Bl Sk bare skip token)
theorem EE{tail:Bs}{tt:List Tok}(ht:Bl tail):∀{l:List Bs} {ts:List BT} {a:Nat},l≠[]→NL l ts→Lex.run (a+(di l).length) tail=.ok tt→∃tx,Lex.run a (di l++tail)=.ok (tx++tt)∧bare tx=ts:=by
 intro l;induction l with
 |nil=>intro ts a h;exact absurd rfl h
 |cons s l ih=>
  intro ts a _ h hr;cases ts with
  |nil=>exact absurd h id
  |cons t r=>
   cases l with
   |nil=>
    cases r with
    |nil=>exact⟨[(t.1,t.2,a)],kT h.1 ht hr,rfl⟩
    |cons u r=>exact absurd h.2 id
   |cons s2 l=>
    have e:di (s::s2::l)=s++32::di (s2::l):=rfl;rw[e]at hr⊢;obtain⟨tx,h1,h2⟩:=ih (a:=a+s.length+1) (by simp) h.2 (by
     rw[ah,ab]at hr
     rw[show a+s.length+1+(di (s2::l)).length=a+(s.length+((di (s2::l)).length+1)) by omega]
     exact hr)
    have e2:s++32::di (s2::l)++tail=s++(32::(di (s2::l)++tail)):=by simp
    rw[e2];refine⟨(t.1,t.2,a)::tx,kT h.1 (Lex.qR _) (by rw[Lex.uC];exact h1),?_⟩;show(t.1,t.2)::bare tx=_;rw[h2]
theorem yH{text:Bs}(h:4096<text.length):parse text=(NC.zero,3,0):=by
 unfold parse;rw[Lex.po h,if_pos (by decide)]
theorem xQ{s:NC}(h:Pu s)(hl:(di (pS s)).length+4≤4096):(parse (di (pS s)++[32,59,32,59])).2=(300,(di (pS s)).length+3):=by
 obtain⟨L,hL⟩:∃L,L=(di (pS s)).length:=⟨_,rfl⟩;have ht:Lex.run (0+(di (pS s)).length) [32,59,32,59]=.ok [(5,[59],L+1),(5,[59],L+3)]:=by
  rw[aW,←hL,Lex.uC];have e:=kT (s:=[59]) (R:=[32,59]) (a:=L+1) (ts:=[(5,[59],L+3)]) (ps (c:=59) (by decide)) (Lex.qR _) (by
   rw[Lex.uC]
   have e2:=kT (s:=[59]) (R:=[]) (a:=L+3) (ts:=[]) (ps (c:=59) (by decide)) Lex.An (Lex.iG rfl)
   exact e2)
  exact e
 obtain⟨tx,h1,h2⟩:=EE (Lex.qR _) (Gn h) (rq h) ht;have hto:Lex.told (di (pS s)++[32,59,32,59])=(tx++[(5,[59],L+1),(5,[59],L+3)],0,0):=by rw[Lex.qT _ (by simp only[ah,ab,ai];omega),h1]
 obtain⟨r1,r2⟩:=Cs (T:=(di (pS s)++[32,59,32,59]).length) h (l:=tx++[(5,[59],L+1),(5,[59],L+3)]) rfl h2 rfl;rw[rD hto,if_pos (by rw[r1];decide),r1,r2,hL]
end I
end
section
namespace I
open Lex (Bl Sk skip)
def rep(b:UInt8)(new s:Bs):Bs:=s.flatMap fun c=>if c=b then new else [c]
theorem AK(b:UInt8)(new l m:Bs):rep b new (l++m)=rep b new l++rep b new m:=by simp[rep]
theorem vI(b:UInt8)(new l:Bs):rep b new (b::l)=new++rep b new l:=by simp[rep]
theorem ov{b:UInt8}{new:Bs}:∀{l:Bs},b ∉l→rep b new l=l:=by
 intro l;induction l with
 |nil=>intro _;rfl
 |cons c l ih=>
  intro h;have hc:¬c=b:=fun e=>h (by rw[e];exact ag)
  have e:rep b new (c::l)=(if c=b then new else [c])++rep b new l:=by simp[rep]
  rw[e,if_neg hc,ih fun hm=>h (au _ hm)];rfl
theorem JJ{b:UInt8}{new:Bs}(h:b ∉new):∀s:Bs,b ∉rep b new s:=by
 intro s;induction s with
 |nil=>simp[rep]
 |cons c l ih=>
  have e:rep b new (c::l)=(if c=b then new else [c])++rep b new l:=by simp[rep]
  rw[e];intro hm;rcases aM.1 hm with hm|hm
  ·split at hm
   ·exact h hm
   ·rename_i hc;exact hc (List.mem_singleton.1 hm).symm
  ·exact ih hm
theorem IG{b:UInt8}:∀s:Bs,(rep b [] s).length≤s.length:=by
 intro s;induction s with
 |nil=>simp[rep]
 |cons c l ih=>
  have e:rep b [] (c::l)=(if c=b then []else [c])++rep b [] l:=by simp[rep]
  rw[e,ah,ab];split
  ·simp only[ai];omega
  ·simp only[ab,ai];omega
theorem Lc{b:UInt8}{new:Bs}{k:Nat}(h1:1≤k)(h:new.length≤k):∀s:Bs,(rep b new s).length≤s.length*k:=by
 intro s;induction s with
 |nil=>simp[rep]
 |cons c l ih=>
  have e:rep b new (c::l)=(if c=b then new else [c])++rep b new l:=by simp[rep]
  rw[e,ah,ab,Nat.add_mul,Nat.one_mul];split
  ·omega
  ·simp only[ab,ai];omega
theorem K5(b:UInt8):∀s:Bs,(Lib.index s [b]= -1∧b ∉s)∨∃(i:Nat) (r:Bs),Lib.index s [b]=i∧s=s.take i++b::r∧i+1+r.length=s.length∧b ∉s.take i:=by
 intro s;induction s with
 |nil=>exact .inl ⟨rfl,by simp⟩
 |cons a l ih=>
  by_cases hb:a=b
  ·subst hb;exact .inr ⟨0,l,by simp[Lib.index,List.isPrefixOf],by simp,by simp;omega,by simp⟩
  ·have hb':¬b=a:=fun h=>hb h.symm
   have e:Lib.index (a::l) [b]=if Lib.index l [b]== -1 then -1 else Lib.index l [b]+1:=by
    conv=>lhs;unfold Lib.index
    rw[if_neg];simp[List.isPrefixOf];exact hb'
   rcases ih with⟨h1,h2⟩|⟨i,r,h1,h2,h3,h4⟩
   ·refine .inl ⟨by rw[e,h1];rfl,fun hm=>?_⟩;rcases af.1 hm with h|h
    ·exact hb' h
    ·exact h2 h
   ·refine .inr ⟨i+1,r,?_,?_,?_,fun hm=>?_⟩
    ·rw[e,h1,if_neg (by simp)];omega
    ·rw[List.take_succ_cons,List.cons_append,←h2]
    ·simp;omega
    ·rw[List.take_succ_cons]at hm;rcases af.1 hm with h|h
     ·exact hb' h
     ·exact h4 h
theorem tP(b:UInt8)(new:Bs):∀(n:Nat) (s:Bs),s.length≤n→Lib.replaceK [b] new (Lib.count s [b]) s=rep b new s∧Lib.count s [b]≤s.length:=by
 intro n;induction n with
 |zero=>
  intro s h;obtain rfl:s=[]:=aC (by omega);rw[Lib.count_miss (by rfl)];exact⟨rfl,aa _⟩
 |succ n ih=>
  intro s h;rcases K5 b s with⟨h1,h2⟩|⟨i,r,h1,h2,h3,h4⟩
  ·rw[Lib.count_miss h1];exact⟨(ov h2).symm,ao _⟩
  ·obtain⟨i1,i2⟩:=ih r (by omega);rw[Lib.count_hit (by simp) h1,bY,drop_one h2 h3];refine⟨?_,by omega⟩;rw[Lib.replaceK_hit _ _ _ _ i h1,drop_one h2 h3,i1];conv=>rhs;rw[h2]
   rw[AK,ov h4,vI,aX]
theorem pN{b:UInt8}{new:Bs}(h:new≠[b])(s:Bs):Lib.replaceAll s [b] new=rep b new s:=by
 have e:Lib.replaceAll s [b] new=Lib.replaceK [b] new (Lib.count s [b]) s:=by unfold Lib.replaceAll Lib.replace Lib.replaceNum;rw[if_neg (by simpa using fun e:[b]=new=>h e.symm),if_pos (.inl (by omega))]
 rw[e];exact(tP b new _ s (aa _)).1
theorem Mv(b:UInt8)(s:Bs):Lib.count s [b]≤s.length:=(tP b [] _ s (aa _)).2
theorem Df{sep:Bs}:∀{l:List Bs},(∀s∈l,(32:UInt8) ∉s)→rep 32 sep (di l)=nc sep l []:=by
 intro l;induction l with
 |nil=>intro _;rfl
 |cons s l ih=>
  intro h;cases l with
  |nil=>
   show rep 32 sep s=s++[];rw[ov (h s ag),bF]
  |cons t r=>
   show rep 32 sep (s++32::di (t::r))=s++(sep++nc sep (t::r) []);rw[AK,ov (h s ag),vI,ih fun x hx=>h x (au _ hx)]
theorem zq(sep:Bs):∀(l:List Bs) (tail:Bs),nc sep l []++tail=nc sep l tail:=by
 intro l;induction l with
 |nil=>intro _;rfl
 |cons s l ih=>
  intro tail;cases l with
  |nil=>show(s++[])++tail=s++tail;simp
  |cons t r=>
   show(s++(sep++nc sep (t::r) []))++tail=s++(sep++nc sep (t::r) tail);rw[←ih tail];simp
theorem Lh{nt:Bs}(hn:∀c∈nt,c.toNat≠10):Sk ([32,59,32,45,45]++nt) [sg [59]]:=by
 have e1:([32,59,32,45,45]++nt:Bs)=32::([59]++(32::45::45::nt)):=rfl;have hs:skip false (32::45::45::nt)=[]:=by
  have:∀l:Bs,(∀c∈l,c.toNat≠10)→skip true l=[]:=by
   intro l;induction l with
   |nil=>intro _;rfl
   |cons c l ih=>
    intro h;simp only[skip];rw[if_neg (h c ag)];exact ih fun d hd=>h d (au _ hd)
  simp[skip,Lex.blank,Lex.dQ,this nt hn]
 rw[e1];exact Sk.same (uJ (s:=[59]) (ps (c:=59) (by decide)) (Lex.qR _) (Sk.nil hs)) (Lex.uM _)
theorem Aq{s:NC}(hs:Pu s){nt:Bs}(hn:(10:UInt8) ∉nt)(hq:(39:UInt8) ∉di (pS s))(hl:([10]++rep 32 (Lex.pad nt) (di (pS s))++([32,59,32,45,45]++nt)).length≤4096):parse ([10]++rep 32 (Lex.pad nt) (di (pS s))++([32,59,32,45,45]++nt))=(s,0,0):=by
 have hn':∀c∈nt,c.toNat≠10:=fun c hc e=>hn (by rw[show(10:UInt8)=c from aF.1 e.symm];exact hc)
 refine wX hs hl ?_ (.inr rfl);rw[Df (Gy (rq hs) hq),aX,zq];refine Sk.same (AF (Lex.EF nt · hn') (fun X=>Lex.bl_9 _) (Lex.qR _) (Lh hn') (rq hs)) ?_;simp[skip,Lex.blank]
end I
end
section
set_option maxRecDepth 100000
theorem loose_any(cs:List Value)(s:I.NC)(text:ByteArray)(w:World)(hE:PD w)(hx:df.R w (fun b=>b<w.heap.size) cs s)(hsm:Py s)(hlm:Qp s)(htx:text.size≤140737488355328):
 Calls Tryz.prog 6 #[.agg cs.toArray,.string text] w fun e w'=>e=.returned (.bool true)∧Below w.heap.size w w':=by
 have h0:0<w.heap.size:=by have:=hE.six;omega
 have H0:=cN h0;have HE:=cN hE;have HX:=cN hx;have Qk:=cN hsm;have Qw:=cN hlm;have HTx:=cN htx;have IS:∀{l:List Value},l.length=13→(Tryz.prog.info? 30).map (·.size)=some l.length:=fun h=>by rw[h];kernel_rfl
 have lX:=cN (df.len hx);have F0:=cN (Fr.start h0 (jD w));clear hE hx hsm hlm htx h0;go_enter Tryz.func6,Tryz.ntmps6;go_upto_region 1 with fail
 refine P8 fun w1 hw=>?_
 have F1:Hid (Fr 0 w [(w.heap.size,30,cs.toArray)] [] (Kp w) w1):=by rw[hw];exact F0.o.new 30 cs.toArray
 have Q0:=cN (El.up (E:=df) HX.o (F1.o.bel));clear hw F0;obtain⟨gB,hgB⟩:∃g,g=w.heap.size:=⟨_,rfl⟩;rw[←hgB]at F1⊢;clear hgB;have RB:=cN (F1.o.jc (t:=30) (b:=gB) (cs:=cs) ag);go_wp2_with (refine j0 rfl rfl rfl RB.o (by kernel_rfl) (IS lX.o) ?_)
 with_reducible refine(Fr.copy F1.o (s:=s) Q0.o Qw.o).mono ?_
 rintro e w2 ⟨cs2,rfl,hF⟩;have F2:=cN hF;clear hF F1 RB Q0;go_wp2_with fail
 obtain⟨r,hr⟩:∃r,r=I.NM s:=⟨_,rfl⟩;have Su:=cN hr;with_reducible refine(Fr.print F2.o HE.o (F2.o.Tl (E:=df) (cs:=cs2) (x:=s) ag) Qk.o hr.symm (v:=I.bs r.1) (y:=(r.2:Int)) rfl rfl).mono ?_
 clear hr;rintro e w3 ⟨rfl,hF⟩;have F3:=cN hF;clear hF F2;by_cases hp:r.2=0
 ·obtain⟨g1,g2,g3⟩:=I.mD (s:=s) (by rw[←Su.o];exact hp);have e3:r.1=I.di (I.pS s):=by rw[Su.o.trans g3]
  have hpi:((r.2:Int)==0)=true:=by rw[hp];rfl
  have G1:=cN g1;have E3:=cN e3;clear g1 g2 g3 e3;obtain⟨T,hT⟩:∃T,T=I.bs r.1:=⟨_,rfl⟩;rw[←hT];have HT:=cN hT;have TL:=cN (show T.data.toList=I.di (I.pS s) by rw[hT,I.dA];exact E3.o);clear hT;by_cases h3:300<T.size
  ·have t1:decide ((300:Int)<(T.size:Int))=true:=aq (by omega);clear h3;go_wp2_with fail
   all_goals
    with_reducible refine(Fr.kO F3.o HE.o).mono ?_
    rintro e w4 ⟨rfl,hF⟩
    have FZ:=cN hF.bel
    clear hF F3
    go_wp2_with fail
    go_ret
    exact⟨rfl,FZ.o⟩
  ·have t1:decide ((300:Int)<(T.size:Int))=false:=ar (by omega);have H3:=cN h3;clear h3;go_wp2_with fail
   with_reducible refine(Tryz.strings_Contains_one T 39 _).mono ?_
   rintro e w4 ⟨rfl,rfl⟩;obtain⟨b,hb⟩:∃b,b=decide (0≤Lib.indexByte T.data.toList 39):=⟨_,rfl⟩;rw[←hb];have HB:=cN hb;clear hb;cases b with
   |true=>
    go_wp2_with fail
    all_goals
     with_reducible refine(Fr.kO F3.o HE.o).mono ?_
     rintro e w5 ⟨rfl,hF⟩
     have FZ:=cN hF.bel
     clear hF F3
     go_wp2_with fail
     go_ret
     exact⟨rfl,FZ.o⟩
   |false=>
    have hq:(39:UInt8) ∉I.di (I.pS s):=by rw[←TL.o];exact I.tC (Int.not_le.1 (cf HB.o.symm))
    have HQ:=cN hq;clear hq HB;by_cases h8:8<text.size
    ·have t2:decide ((8:Int)<(text.size:Int))=true:=aq (by omega);clear h8;go_wp2_with fail
     all_goals
      with_reducible refine(Fr.kO F3.o HE.o).mono ?_
      rintro e w5 ⟨rfl,hF⟩
      have FZ:=cN hF.bel
      clear hF F3
      go_wp2_with fail
      go_ret
      exact⟨rfl,FZ.o⟩
    ·have t2:decide ((8:Int)<(text.size:Int))=false:=ar (by omega);have H8:=cN h8;clear h8;go_wp2_with fail
     obtain⟨m,hm⟩:=Fr.num F3.o HE.o;with_reducible refine(Tryz.strings_ReplaceAll text ⟨#[10]⟩ ⟨#[]⟩ m _ (by have:=H8.o;omega) hm (by decide) (by have h1:(⟨#[]⟩:ByteArray).size=0:=rfl;rw[h1];have:=H8.o;omega)).mono ?_
     clear hm;rintro e w5 ⟨rfl,hb⟩;have F5:=cN (F3.o.quiet hb);clear hb F3;obtain⟨N,hN⟩:∃N,N=(⟨(Lib.replaceAll text.data.toList (⟨#[10]⟩:ByteArray).data.toList (⟨#[]⟩:ByteArray).data.toList).toArray⟩:ByteArray):=⟨_,rfl⟩;rw[←hN];have hNl:N.data.toList=I.rep 10 [] text.data.toList:=by rw[hN,bV];exact I.pN (by simp) _
     have HNl:=cN hNl;have HN10:=cN (show(10:UInt8) ∉N.data.toList by rw[hNl];exact I.JJ (by simp) _);have HNs:=cN (show N.size≤8 by
      have h1:=I.IG (b:=10) text.data.toList
      rw[←hNl]at h1
      have h2:N.data.toList.length=N.size:=by rw[aK];rfl
      have h4:text.data.toList.length=text.size:=by rw[aK];rfl
      have:=H8.o
      omega)
     clear hN hNl;have n8:=HNs.o;have t3:T.size≤300:=by have:=H3.o;omega
     go_wp2_with fail
     obtain⟨m,hm⟩:=Fr.num F5.o HE.o;have hcT:Lib.countB T ⟨#[32]⟩≤300:=by
      have h1:=I.Mv 32 T.data.toList;have h2:T.data.toList.length=T.size:=by rw[aK];rfl
      have:=H3.o;show Lib.count T.data.toList [32]≤300;omega
     obtain⟨W,hW⟩:∃W,W=(⟨#[9,32,45,45]⟩:ByteArray)++N++⟨#[10,32]⟩:=⟨_,rfl⟩;rw[←hW];have hWl:W.data.toList=Lex.pad N.data.toList:=by rw[hW];simp[bj,Lex.pad]
     have hWs:W.size≤14:=by
      have h2:W.data.toList.length=W.size:=by rw[aK];rfl
      have h4:N.data.toList.length=N.size:=by rw[aK];rfl
      have:=HNs.o;rw[hWl]at h2;simp only[Lex.pad,ab,ah,ai]at h2;omega
     with_reducible refine(Tryz.strings_ReplaceAll T ⟨#[32]⟩ W m _ (by have:=H3.o;omega) hm (by decide) (by have:=Nat.mul_le_mul hcT hWs;have:=H3.o;omega)).mono ?_
     clear hm hcT hWs;rintro e w6 ⟨rfl,hb⟩;have F6:=cN (F5.o.quiet hb);clear hb F5;obtain⟨S,hS⟩:∃S,S=(⟨(Lib.replaceAll T.data.toList (⟨#[32]⟩:ByteArray).data.toList W.data.toList).toArray⟩:ByteArray):=⟨_,rfl⟩;rw[←hS];have hSl:S.data.toList=I.rep 32 (Lex.pad N.data.toList) (I.di (I.pS s)):=by rw[hS,bV,hWl,TL.o];exact I.pN (by simp[Lex.pad]) _
     have OT:S.size≤4200:=by
      have h2:S.data.toList.length=S.size:=by rw[aK];rfl
      have h4:N.data.toList.length=N.size:=by rw[aK];rfl
      have h6:=I.Lc (b:=32) (new:=Lex.pad N.data.toList) (k:=14) (by omega) (by simp only[Lex.pad,ab,ah,ai];omega) (I.di (I.pS s));have h7:(I.di (I.pS s)).length=T.size:=by rw[←TL.o,aK];rfl
      rw[hSl]at h2;omega
     clear hW hWl hS;go_upto_region 6 with fail
     obtain⟨X,hX⟩:∃X,X=(⟨#[10]⟩:ByteArray)++S++⟨#[32,59,32,45,45]⟩++N:=⟨_,rfl⟩;rw[←hX];have hXl:X.data.toList=[10]++I.rep 32 (Lex.pad N.data.toList) (I.di (I.pS s))++([32,59,32,45,45]++N.data.toList):=by rw[hX];simp[bj,hSl]
     have hXs:X.data.toList.length=X.size:=by rw[aK];rfl
     have U6:=cN (show X=(⟨#[10]⟩:ByteArray)++S++⟨#[32,59,32,45,45]⟩++N from hX);have XL:=cN hXl;have XS:=cN hXs;clear hX hXl hXs hSl;by_cases hl:4096<X.size
     ·have t3:decide ((4096:Int)<(X.size:Int))=true:=aq (by omega);have Zs:=I.yH (text:=X.data.toList) (by rw[XS.o];exact hl);have hmx:X.size≤maxLen:=by
       unfold maxLen;have h5:X.size=1+S.size+5+N.size:=by rw[U6.o];simp only[ByteArray.size_append];rfl
       omega
      go_wp2_with fail
      with_reducible refine(Fr.parse F6.o HE.o X hmx (r:=(I.NC.zero,3,0)) Zs (x:=3) (y:=0) rfl rfl).mono ?_
      clear Zs hmx hl;rintro e w7 ⟨UA,rfl,hF⟩;have F7:=cN hF;clear hF F6;have L7:=cN (df.len F7.o.N6);have O7:=cN (nQ F7.o.N6);go_upto_region 7 with(first|refine wpList_store_mid rfl _ _ _ rfl _ 0 UA.toArray rfl rfl (iP (by rw[aQ,L7.o];rfl)) (by rw[aQ];exact IS L7.o) O7.o ?_|refine wpList_store_mid rfl _ _ _ rfl _ 0 #[.int .i64 3,.int .i64 0] rfl rfl (iU (by rfl)) (by kernel_rfl) (Wz _ _) ?_)
      refine P8 fun w8 hw=>?_
      have F8:=cN (F7.o.nP (vs:=[.int .i64 3,.int .i64 0]) hw (by rw[L7.o];rfl) rfl);clear hw F7 O7;obtain⟨Xr,PU⟩:∃g,g=w7.heap.size+1:=⟨_,rfl⟩;obtain⟨S6,OO⟩:∃g,g=w7.heap.size:=⟨_,rfl⟩;rw[←PU,←OO]at F8⊢;clear PU OO;obtain⟨q0,q1⟩:=F8.o.cQ.y2 0 1;simp at q0 q1;go_wp2_with fail
      all_goals
       with_reducible refine(Fr.kO F8.o HE.o).mono ?_
       rintro e w9 ⟨rfl,hF⟩
       have FZ:=cN hF.bel
       clear hF F8
       go_wp2_with fail
       go_ret
       exact⟨rfl,FZ.o⟩
     ·have t3:decide ((4096:Int)<(X.size:Int))=false:=ar (by omega);have Zs:I.parse X.data.toList=(s,0,0):=by rw[XL.o];exact I.Aq G1.o HN10.o HQ.o (by rw[←XL.o,XS.o];omega)
      go_wp2_with fail
      with_reducible refine(Fr.parse F6.o HE.o X (by unfold maxLen;omega) (r:=(s,0,0)) Zs (x:=0) (y:=0) rfl rfl).mono ?_
      clear Zs hl;rintro e w7 ⟨UA,rfl,hF⟩;have F7:=cN hF;clear hF F6;have L7:=cN (df.len F7.o.N6);have O7:=cN (nQ F7.o.N6);go_upto_region 7 with(first|refine wpList_store_mid rfl _ _ _ rfl _ 0 UA.toArray rfl rfl (iP (by rw[aQ,L7.o];rfl)) (by rw[aQ];exact IS L7.o) O7.o ?_|refine wpList_store_mid rfl _ _ _ rfl _ 0 #[.int .i64 0,.int .i64 0] rfl rfl (iU (by rfl)) (by kernel_rfl) (Wz _ _) ?_)
      refine P8 fun w8 hw=>?_
      have F8:=cN (F7.o.nP (vs:=[.int .i64 0,.int .i64 0]) hw (by rw[L7.o];rfl) rfl);clear hw F7 O7;obtain⟨Xr,PU⟩:∃g,g=w7.heap.size+1:=⟨_,rfl⟩;obtain⟨S6,OO⟩:∃g,g=w7.heap.size:=⟨_,rfl⟩;rw[←PU,←OO]at F8⊢;clear PU OO;go_upto_region 9 with fail
      obtain⟨Y,hY⟩:∃Y,Y=T++(⟨#[32,59,32,59]⟩:ByteArray):=⟨_,rfl⟩;have hYl:Y.data.toList=I.di (I.pS s)++[32,59,32,59]:=by rw[hY];simp[bj,TL.o]
      have To:(I.di (I.pS s)).length=T.size:=by rw[←TL.o,aK];rfl
      have hYs:Y.size≤maxLen:=by
       have h2:Y.data.toList.length=Y.size:=by rw[aK];rfl
       have:=H3.o;rw[hYl,ah,To]at h2;simp only[ab,ai]at h2;unfold maxLen;omega
      have h2p:=I.xQ G1.o (by have:=H3.o;omega);rw[←hYl,To]at h2p;have HY:=cN (Fr.parse F8.o HE.o Y hYs (r:=I.parse Y.data.toList) rfl (x:=300) (y:=(T.size:Int)+3) (by rw[h2p];rfl) (by rw[h2p];simp));rw[hY]at HY;clear hYl To hYs h2p hY;go_wp2_with fail
      with_reducible refine HY.o.mono ?_
      clear HY;rintro e w9 ⟨Zn,rfl,hF⟩;have F9:=cN hF;clear hF F8;have L9:=cN (df.len F9.o.N6);have O9:=cN (nQ F9.o.N6);go_upto_region 10 with(first|refine wpList_store_mid rfl _ _ _ rfl _ 0 Zn.toArray rfl rfl (iP (by rw[aQ,L9.o];rfl)) (by rw[aQ];exact IS L9.o) O9.o ?_|refine wpList_store_mid rfl _ _ _ rfl _ 0 #[.int .i64 300,.int .i64 ((T.size:Int)+3)] rfl rfl (iU (by rfl)) (by kernel_rfl) (Wz _ _) ?_)
      refine P8 fun RU hw=>?_
      have Pj:=cN (F9.o.nP (vs:=[.int .i64 300,.int .i64 ((T.size:Int)+3)]) hw (by rw[L9.o];rfl) rfl);clear hw F9 O9;obtain⟨gF2,PU⟩:∃g,g=w9.heap.size+1:=⟨_,rfl⟩;obtain⟨gS2,OO⟩:∃g,g=w9.heap.size:=⟨_,rfl⟩;rw[←PU,←OO]at Pj⊢;clear PU OO;obtain⟨q0,q1⟩:=(Pj.o.sN (b:=Xr) (t:=33) (cs:=#[.int .i64 0,.int .i64 0]) (by simp only[af,bM,bO])).y2 0 1;obtain⟨q2,q3⟩:=Pj.o.cQ.y2 0 1;simp at q0 q1 q2 q3;have RB:=cN (Pj.o.jc (t:=30) (b:=gB) (cs:=cs) (by simp only[af,bM,bO]));have RS:=cN (Pj.o.jc (t:=30) (b:=S6) (cs:=UA) (by simp only[af,bM,bO]));have Zt:=cN (El.up (E:=df) HX.o Pj.o.bel);go_wp2_with (first|refine dU rfl 30 _ rfl gB 0 rfl cs _ RB.o fP rfl (IS lX.o) ?_|refine dU rfl 30 _ rfl S6 0 rfl UA _ RS.o fP rfl (IS L7.o) ?_)
      with_reducible refine(Fr.same Pj.o Zt.o (Pj.o.Tl (E:=df) (cs:=UA) (x:=s) (by simp only[af,bM,bO])) rfl).mono ?_
      rintro e PW ⟨rfl,hF⟩;have Pv:=cN hF;obtain⟨q2,q3⟩:=Pv.o.cQ.y2 0 1;simp at q2 q3;clear hF Pj RB RS Zt;go_wp2_with fail
      all_goals
       with_reducible refine(Fr.kO Pv.o HE.o).mono ?_
       rintro e Qu ⟨rfl,hF⟩
       have FZ:=cN hF.bel
       clear hF Pv
       go_wp2_with fail
       go_ret
       exact⟨rfl,FZ.o⟩
 ·have hpi:((r.2:Int)==0)=false:=bm.2 (by omega);go_wp2_with fail
  all_goals
   with_reducible refine(Fr.kO F3.o HE.o).mono ?_
   rintro e w4 ⟨rfl,hF⟩
   have FZ:=cN hF.bel
   clear hF F3
   go_wp2_with fail
   go_ret
   exact⟨rfl,FZ.o⟩
end
end Go.Proofs.YtnicfobpclehkaaGreatDoor
