import Derived.Test.YtnicfobpclehkaaGreatDoorRows
import Derived.Laws.OwnMore
import Derived.IntWalk
import Derived.Deep.LoopGhost
import Derived.Deep.DeepCutAuto
import Derived.Test.YtnicfobpclehkaaGreatDoorP3
set_option maxHeartbeats 800000
set_option linter.unusedVariables false
set_option linter.unusedSimpArgs false
namespace Go.Proofs.YtnicfobpclehkaaGreatDoor
open Go.RowKit
section
namespace I
open Ev (Ex Hd)
abbrev Bs:=List UInt8
abbrev Tok:=Lex.Tok
def bs(l:Bs):ByteArray:=⟨l.toArray⟩
def dp:ByteArray:=bs []
structure St where
 r:List Tok
 e:Nat
 c:Nat
 d:Bool
structure Oj where
 nm:Bs
 k:UInt8
 pr:Bool
 nn:Bool
 un:Bool
 ck:List Ex
 rf:Bs
 ac:UInt8
structure Qq where
 x:Ex
 nm:Bs
structure Src where
 nm:Bs
 al:Bs
 on:List Ex
structure Ord where
 x:Ex
 ds:Bool
structure NS where
 all:Bool
 its:List Qq
 fr:List Src
 wh:List Ex
 gr:List Ex
 od:List Ord
 lim:Int
structure OI where
 nm:Bs
 x:Ex
structure NC where
 k:UInt8
 nm:Bs
 on:Bs
 NG:Bs
 ev:UInt8
 NH:List Oj
 q:List NS
 vals:List (List Ex)
 dD:List OI
 wh:List Ex
 pv:List UInt8
 opt:Bool
 key:Bs
def NC.zero:NC:=⟨0,[],[],[],0,[],[],[],[],[],[],false,[]⟩
def NC.of(k:UInt8):NC:={NC.zero with k:=k}
section
variable(T:Nat)
def place(st:St):Nat:=match st.r with
 |[]=>T
 |t::_=>t.2.2
def fail(e:Nat)(st:St):St:=if st.e=0 then⟨[],e,place T st,st.d⟩else⟨[],st.e,st.c,st.d⟩
def fD(st:St):St:=if st.r=[]then fail T 300 st else fail T 3 st
end
def hit(s:Bs)(t:Tok):Bool:=(decide (t.1=1)||decide (t.1=5))&&decide (t.2.1=s)
def dh(s:Bs)(st:St):Bool:=match st.r with
 |[]=>false
 |t::_=>hit s t
def next(st:St):St:={st with r:=st.r.tail}
def acc(s:Bs)(st:St):St:=if dh s st=true then next st else st
section
variable(T:Nat)
def expect:List Bs→St→St
 |[],st=>st
 |s::l,st=>if dh s st=true then expect l (next st)else fail T 300 st
def choose:Nat→List Bs→St→Nat×St
 |_,[],st=>(0,fail T 300 st)
 |i,s::l,st=>if dh s st=true then(i,next st)else choose (i+1) l st
def named(st:St):Bool:=match st.r with
 |[]=>false
 |t::_=>decide (t.1=1)&&!Lex.fJ t.2.1
def name(st:St):Bs×St:=match st.r with
 |[]=>([],fail T 300 st)
 |t::_=>if named st=true then(t.2.1,next st)else([],fail T 300 st)
def one:List (Bs×UInt8)→St→UInt8×St
 |[],st=>(0,st)
 |s::l,st=>if dh s.1 st=true then(s.2,next st)else one l st
end
def more{α:Type}(T most:Nat)(one:St→α×St):Nat→List α→St→List α×St
 |0,l,st=>(l,st)
 |f+1,l,st=>if dh [44] st=true then(if l.length=most then(l,fD T (next st))else more T most one f (l++[(one (next st)).1]) (one (next st)).2)else(l,st)
def list{α:Type}(T most:Nat)(one:St→α×St)(st:St):List α×St:=
 more T most one ((one st).2.r.length+1) [(one st).1] (one st).2
def inside{α:Type}(T:Nat)(part:St→α×St)(st:St):α×St:=
 ((part (expect T [[40]] st)).1,expect T [[41]] (part (expect T [[40]] st)).2)
def ef(l:Bs):Nat:=l.foldl (fun n c=>n*10+(c.toNat-48)) 0
def fR(l:Bs):Int×Nat:=if ef l≤9223372036854775807 then((ef l:Int),0)else(0,271)
def hd(o:UInt8):Hd:=⟨o,⟨0,0,dp⟩,dp,dp,0⟩
def lit(v:Cell.Val):Ex:=.mk ⟨1,v,dp,dp,0⟩ []
def un(o:UInt8)(a:Ex):Ex:=.mk (hd o) [a]
def bin(o:UInt8)(a b:Ex):Ex:=.mk (hd o) [a,b]
def cut:Bs→Bs×Option Bs
 |[]=>([],none)
 |c::l=>if c=46 then([],some l)else(c::(cut l).1,(cut l).2)
def fq(s:Bs):Bs×UInt8:=match (cut s).2 with
 |none=>((cut s).1,2)
 |some b=>((cut s).1++(b++[48,48,48]).take 4,3)
section
variable(T:Nat)
def literal(st:St):Ex×St:=match st.r with
 |[]=>(lit ⟨4,0,dp⟩,next st)
 |t::_=>
  if t.1=4 then(lit ⟨5,0,bs t.2.1⟩,next st)
  else if t.1=2 then
   (if(fR (fq t.2.1).1).2=0 then(lit ⟨(fq t.2.1).2,(fR (fq t.2.1).1).1,dp⟩,next st)else(lit ⟨(fq t.2.1).2,0,dp⟩,next (fail T 271 st)))
  else(lit ⟨4,0,bs t.2.1⟩,next st)
def dy(kid:St→Ex×St)(l:List (Bs×UInt8)):Nat→Ex→St→Ex×St
 |0,e,st=>(e,st)
 |f+1,e,st=>if(one l st).1=0 then(e,st)else dy kid l f (bin (one l st).1 e (kid (one l st).2).1) (kid (one l st).2).2
def chain(kid:St→Ex×St)(l:List (Bs×UInt8))(st:St):Ex×St:=
 dy kid l ((kid st).2.r.length+1) (kid st).1 (kid st).2
def dF(st:St):UInt8:=match st.r with
 |[]=>0
 |t::_=>t.1
def QO(st:St):Bs:=match st.r with
 |[]=>[]
 |t::_=>t.2.1
def fold(X:St→Ex×St)(op:UInt8)(st:St):Ex×St:=
 inside T (fun st=>if op=17∧dh [42] st=true then(.mk (hd op) [],next st)else(un op (X st).1,(X st).2)) st
def iN:List (Bs×UInt8):=[([99,111,117,110,116],17),([115,117,109],18),([109,105,110],19),([109,97,120],20)]
def dT(st:St):Ex×St:=
 if dh [46] (name T st).2=true then(.mk ⟨2,⟨0,0,dp⟩,bs (name T (next (name T st).2)).1,bs (name T st).1,0⟩ [],(name T (next (name T st).2)).2)
 else(.mk ⟨2,⟨0,0,dp⟩,bs (name T st).1,dp,0⟩ [],(name T st).2)
def dm(X:St→Ex×St)(st:St):Ex×St:=
 if dF st=2∨dF st=3∨dF st=4 then literal T st
 else if dF st=5∧QO st=[40]then inside T X st
 else if dh [110,117,108,108] st=true then(.mk (hd 1) [],next st)
 else if dh [116,114,117,101] st=true then(lit ⟨1,1,dp⟩,next st)
 else if dh [102,97,108,115,101] st=true then(lit ⟨1,0,dp⟩,next st)
 else if dh [117,115,101,114] st=true then(.mk (hd 21) [],next st)
 else if(one iN st).1=0 then dT T st
 else fold T X (one iN st).1 (one iN st).2
def again(s:Bs)(o:UInt8)(Y:St→Ex×St):Nat→St→Ex×St
 |0,st=>Y st
 |f+1,st=>if dh s st=true then(un o (again s o Y f (next st)).1,(again s o Y f (next st)).2)else Y st
def unary(X:St→Ex×St)(st:St):Ex×St:=again [45] 3 (dm T X) st.r.length st
def prod(X:St→Ex×St):St→Ex×St:=chain (unary T X) [([42],6)]
def sum(X:St→Ex×St):St→Ex×St:=chain (prod T X) [([43],4),([45],5)]
def il:List (Bs×UInt8):=[([61],7),([60,62],8),([60],9),([60,61],10),([62],11),([62,61],12)]
def RP(e:Ex)(st:St):Ex×St:=
 if dh [110,111,116] st=true then(un 15 (un 16 e),expect T [[110,117,108,108]] (next st))else(un 16 e,expect T [[110,117,108,108]] st)
def j4(X:St→Ex×St)(e:Ex)(st:St):Ex×St:=
 if(one il st).1=0 then(if dh [105,115] st=true then RP T e (next st)else(e,st))
 else(bin (one il st).1 e (sum T X (one il st).2).1,(sum T X (one il st).2).2)
def cmp(X:St→Ex×St)(st:St):Ex×St:=j4 T X (sum T X st).1 (sum T X st).2
def jt(X:St→Ex×St)(st:St):Ex×St:=again [110,111,116] 15 (cmp T X) st.r.length st
def oo(X:St→Ex×St):St→Ex×St:=chain (jt T X) [([97,110,100],13)]
def Sw(X:St→Ex×St):St→Ex×St:=chain (oo T X) [([111,114],14)]
def Pw:Nat→St→Ex×St
 |0,st=>(.mk (hd 0) [],st)
 |n+1,st=>Sw T (Pw n) st
def or(st:St):Ex×St:=Pw T (st.r.length+1) st
end
mutual
def depth:Ex→Nat
 | .mk _ ks=>dI ks+1
def dI:List Ex→Nat
 |[]=>0
 |k::ks=>max (depth k) (dI ks)
end
section
variable(T:Nat)
def expr(st:St):Ex×St:=((or T st).1,if 24<depth (or T st).1 then{(or T st).2 with d:=true}else(or T st).2)
def row:St→List Ex×St:=inside T (list T 16 (expr T))
def action(st:St):UInt8×St:=
 if dh [111,110] st=true then
  match choose T 0 [[114,101,115,116,114,105,99,116],[99,97,115,99,97,100,101],[115,101,116]] (expect T [[100,101,108,101,116,101]] (next st))with
  |(i,st)=>if i=2 then(2,expect T [[110,117,108,108]] st)else(if i=1 then 1 else 0,st)
 else(0,st)
def fW(c:Oj)(st:St):Oj×St:=if dh [112,114,105,109,97,114,121] st=true then({c with pr:=true},expect T [[107,101,121]] (next st))else(c,st)
def iu(c:Oj)(st:St):Oj×St:=if dh [110,111,116] st=true then({c with nn:=true},expect T [[110,117,108,108]] (next st))else(c,st)
def iM(c:Oj)(st:St):Oj×St:=if dh [117,110,105,113,117,101] st=true then({c with un:=true},next st)else(c,st)
def kH(c:Oj)(st:St):Oj×St:=if dh [99,104,101,99,107] st=true then({c with ck:=[(inside T (expr T) (next st)).1]},(inside T (expr T) (next st)).2)else(c,st)
def lF(c:Oj)(st:St):Oj×St:=if dh [114,101,102,101,114,101,110,99,101,115] st=true then({c with rf:=(name T (next st)).1,ac:=(action T (name T (next st)).2).1},(action T (name T (next st)).2).2)else(c,st)
def kinds:List UInt8:=[2,3,1,4,5]
def fp(st:St):Oj×St:=
 match name T st with
 |(n,st)=>match choose T 0 [[105,110,116],[100,101,99],[98,111,111,108],[116,101,120,116],[98,121,116,101,115]] st with
  |(i,st)=>(⟨n,kinds.getD i 0,false,false,false,[],[],0⟩,st)
def column(st:St):Oj×St:=
 match fp T st with
 |(c,st)=>match fW T c st with
  |(c,st)=>match iu T c st with
   |(c,st)=>match iM c st with
    |(c,st)=>match kH T c st with
     |(c,st)=>lF T c st
def table(st:St):NC×St:=
 match name T st with
 |(n,st)=>match inside T (list T 12 (column T)) st with
  |(cs,st)=>({NC.of 1 with nm:=n,NH:=cs},st)
def item(st:St):Qq×St:=
 match expr T st with
 |(e,st)=>if dh [97,115] st=true then(⟨e,(name T (next st)).1⟩,(name T (next st)).2)else(⟨e,[]⟩,st)
def source(st:St):Src×St:=
 match name T st with
 |(n,st)=>if dh [97,115] st=true then(⟨n,(name T (next st)).1,[]⟩,(name T (next st)).2)else(⟨n,[],[]⟩,st)
def order(st:St):Ord×St:=
 match expr T st with
 |(e,st)=>if dh [97,115,99] st=true then(⟨e,false⟩,next st)else if dh [100,101,115,99] st=true then(⟨e,true⟩,next st)else(⟨e,false⟩,st)
def kh(s:Bs):Int×Nat:=if(cut s).2=none then fR s else(0,271)
def fx(st:St):Int×St:=
 if dF st=2 then
  (if(kh (QO st)).2=0 then((kh (QO st)).1,if 1000000<(kh (QO st)).1 then next (fail T 271 st)else next st)else(0,next (fail T 271 st)))
 else(0,fail T 300 st)
def fV(st:St):List Ex×St:=if dh [119,104,101,114,101] st=true then([(expr T (next st)).1],(expr T (next st)).2)else([],st)
def ek:Nat→List Src→St→List Src×St×Bool
 |0,l,st=>(l,st,false)
 |f+1,l,st=>
  if dh [106,111,105,110] st=true then
   (if 16<l.length then(l,fD T (next st),true)
    else match source T (next st)with
     |(s,st)=>match expr T (expect T [[111,110]] st)with
      |(e,st)=>ek f (l++[{s with on:=[e]}]) st)
  else(l,st,false)
def nR(q:NS)(st:St):NS×St:=if dh [103,114,111,117,112] st=true then({q with gr:=(list T 16 (expr T) (expect T [[98,121]] (next st))).1},(list T 16 (expr T) (expect T [[98,121]] (next st))).2)else(q,st)
def nN(q:NS)(st:St):NS×St:=if dh [111,114,100,101,114] st=true then({q with od:=(list T 16 (order T) (expect T [[98,121]] (next st))).1},(list T 16 (order T) (expect T [[98,121]] (next st))).2)else(q,st)
def nz(q:NS)(st:St):NS×St:=if dh [108,105,109,105,116] st=true then({q with lim:=(fx T (next st)).1},(fx T (next st)).2)else(q,st)
def px(st:St):NS×St:=
 if dh [42] st=true then(⟨true,[],[],[],[],[],-1⟩,next st)
 else match list T 16 (item T) st with
  |(l,st)=>(⟨false,l,[],[],[],[],-1⟩,st)
def oS(q:NS)(st:St):NS×St:=
 match fV T st with
 |(wh,st)=>match nR T {q with wh:=wh} st with
  |(q,st)=>match nN T q st with
   |(q,st)=>nz T q st
def selection(st:St):NS×St:=
 match px T st with
 |(q,st)=>match source T (expect T [[102,114,111,109]] st)with
  |(s,st)=>match ek T (st.r.length+1) [s] st with
   |(l,st,true)=>({q with fr:=l},st)
   |(l,st,false)=>oS T {q with fr:=l} st
def drop(st:St):NC×St:=
 match choose T 0 [[116,97,98,108,101],[118,105,101,119],[116,114,105,103,103,101,114],[112,111,108,105,99,121]] st with
 |(i,st)=>match name T st with
  |(n,st)=>({NC.of ([2,4,6,8].getD i 0)with nm:=n},st)
def view(st:St):NC×St:=
 match name T st with
 |(n,st)=>match selection T (expect T [[97,115],[115,101,108,101,99,116]] st)with
  |(q,st)=>({NC.of 3 with nm:=n,q:=[q]},st)
def fh(st:St):NC×St:=
 match name T st with
 |(n,st)=>match choose T 0 [[105,110,115,101,114,116],[117,112,100,97,116,101],[100,101,108,101,116,101]] (expect T [[97,102,116,101,114]] st)with
  |(i,st)=>match name T (expect T [[111,110]] st)with
   |(on,st)=>match name T (expect T [[105,110,115,101,114,116],[105,110,116,111]] st)with
    |(NG,st)=>match row T (expect T [[118,97,108,117,101,115]] st)with
     |(v,st)=>({NC.of 5 with nm:=n,ev:=[14,15,16].getD i 0,on:=on,NG:=NG,vals:=[v]},st)
def fN(st:St):NC×St:=
 match name T st with
 |(n,st)=>match name T (expect T [[111,110]] st)with
  |(on,st)=>match name T (expect T [[116,111]] st)with
   |(NG,st)=>match inside T (expr T) (expect T [[117,115,105,110,103]] st)with
    |(e,st)=>({NC.of 7 with nm:=n,on:=on,NG:=NG,wh:=[e]},st)
def role(st:St):NC×St:=
 match name T st with
 |(n,st)=>
  if dh [107,101,121] st=true then(if dF (next st)=3 then({NC.of 9 with nm:=n,key:=QO (next st)},next (next st))else({NC.of 9 with nm:=n},fail T 300 (next st)))
  else({NC.of 9 with nm:=n},st)
def lH(st:St):UInt8×St:=
 match choose T 0 [[115,101,108,101,99,116],[105,110,115,101,114,116],[117,112,100,97,116,101],[100,101,108,101,116,101]] st with
 |(i,st)=>(UInt8.ofNat (i+1),st)
def fi(st:St):List UInt8×St:=if dh [97,108,108] st=true then([1,2,3,4],next st)else list T 16 (lH T) st
def share(role lH:UInt8)(word:Bs)(st:St):NC×St:=
 match (if named st=true then(NC.of role,st)else({NC.of lH with pv:=(fi T st).1},expect T [[111,110]] (fi T st).2))with
 |(s,st)=>match name T st with
  |(n,st)=>match name T (expect T [word] st)with
   |(on,st)=>({s with nm:=n,on:=on},st)
def fE(st:St):NC×St:=
 match share T 10 12 [116,111] st with
 |(s,st)=>if s.k=12∧dh [119,105,116,104] st=true then({s with opt:=true},expect T [[103,114,97,110,116],[111,112,116,105,111,110]] (next st))else(s,st)
def gj(st:St):NC×St:=share T 11 13 [102,114,111,109] st
def insert(st:St):NC×St:=
 match name T (expect T [[105,110,116,111]] st)with
 |(n,st)=>match list T 16 (row T) (expect T [[118,97,108,117,101,115]] st)with
  |(v,st)=>({NC.of 14 with nm:=n,vals:=v},st)
def ny(st:St):OI×St:=
 match name T st with
 |(n,st)=>match expr T (expect T [[61]] st)with
  |(e,st)=>(⟨n,e⟩,st)
def update(st:St):NC×St:=
 match name T st with
 |(n,st)=>match list T 16 (ny T) (expect T [[115,101,116]] st)with
  |(l,st)=>match fV T st with
   |(w,st)=>({NC.of 15 with nm:=n,dD:=l,wh:=w},st)
def remove(st:St):NC×St:=
 match name T (expect T [[102,114,111,109]] st)with
 |(n,st)=>match fV T st with
  |(w,st)=>({NC.of 16 with nm:=n,wh:=w},st)
def query(st:St):NC×St:=
 match selection T st with
 |(q,st)=>({NC.of 17 with q:=[q]},st)
def pick:List (Bs×(St→NC×St))→St→NC×St
 |[],st=>(NC.zero,fail T 300 st)
 |v::l,st=>if dh v.1 st=true then v.2 (next st)else pick l st
def create:St→NC×St:=pick T [([116,97,98,108,101],table T),([118,105,101,119],view T),([116,114,105,103,103,101,114],fh T),([112,111,108,105,99,121],fN T),([114,111,108,101],role T)]
def mh:List (Bs×(St→NC×St)):=[([99,114,101,97,116,101],create T),([100,114,111,112],drop T),([103,114,97,110,116],fE T),([114,101,118,111,107,101],gj T),([105,110,115,101,114,116],insert T),([117,112,100,97,116,101],update T),([100,101,108,101,116,101],remove T),([115,101,108,101,99,116],query T),([98,101,103,105,110],fun st=>(NC.of 18,st)),([99,111,109,109,105,116],fun st=>(NC.of 19,st)),([114,111,108,108,98,97,99,107],fun st=>(NC.of 20,st))]
def run(l:List Tok):NC×St:=
 match pick T (mh T) ⟨l,0,0,false⟩with
 |(s,st)=>(s,if(acc [59] st).r=[]then acc [59] st else fail T 300 (acc [59] st))
end
def parse(text:Bs):NC×Nat×Nat:=
 if(Lex.told text).2.1≠0 then(NC.zero,(Lex.told text).2.1,(Lex.told text).2.2)
 else if(run text.length (Lex.told text).1).2.e≠0 then(NC.zero,(run text.length (Lex.told text).1).2.e,(run text.length (Lex.told text).1).2.c)
 else if(run text.length (Lex.told text).1).2.d=true then(NC.zero,301,0)
 else((run text.length (Lex.told text).1).1,0,0)
end I
end
namespace Lex
def mq(s:List UInt8):Prop:=∃a b,a≠[]∧(∀c∈a,digit c=true)∧(∀c∈b,digit c=true)∧((s=a∧b=[])∨(s=a++46::b∧1≤b.length∧b.length≤4))
theorem pk(p:UInt8→Bool):∀l:List UInt8,∀c∈l.take (span p l),p c=true:=by
 intro l;induction l with
 |nil=>intro c h;simp[span]at h
 |cons d l ih=>
  intro c h;simp only[span]at h;split at h
  ·rename_i hd;rw[List.take_succ_cons]at h;rcases af.1 h with rfl|h
   ·exact hd
   ·exact ih c h
  ·simp at h
theorem tV{l:List UInt8}{s:List UInt8}{n:Nat}(h:token l=some (2,s,n)):mq s:=by
 cases l with
 |nil=>cases h
 |cons c r=>
  simp only[token]at h;split at h
  ·unfold jr at h;split at h
   ·cases h
   ·split at h
    ·injection h with h;injection h with h;exact absurd h (by decide)
    ·cases h
  ·split at h
   ·unfold me at h;split at h
    ·injection h with h;injection h with h;exact absurd h (by decide)
    ·cases h
   ·split at h
    ·rename_i hx;have h3:1≤span digit (c::r):=og hx;have ha:(c::r).take (span digit (c::r))≠[]:=by intro e;have:=congrArg List.length e;rw[aP]at this;have:=gU digit (c::r);simp only[ai]at*;omega
     unfold gN at h;split at h
     ·cases h
     ·split at h
      ·rename_i hy;split at h
       ·cases h
       ·rename_i hz;injection h with h
        simp only[aT]at h;obtain⟨_,h1,_⟩:=h;subst h1;refine⟨(c::r).take (span digit (c::r)),((c::r).drop (span digit (c::r)+1)).take (span digit ((c::r).drop (span digit (c::r)+1))),ha,pk _ _,pk _ _,.inr ⟨?_,?_,?_⟩⟩
        ·have h46:(c::r)[span digit (c::r)]?=some 46:=by simpa[dQ]using hy.1
         have e1:(c::r).drop (span digit (c::r))=46::(c::r).drop (span digit (c::r)+1):=by obtain⟨hlt,hk⟩:=ay.1 h46;rw[aY hlt,hk]
         rw[show span digit (c::r)+1+span digit ((c::r).drop (span digit (c::r)+1))=span digit (c::r)+(span digit ((c::r).drop (span digit (c::r)+1))+1) by omega,List.take_add,e1,List.take_succ_cons]
        ·have:=hy.2;rw[aP];have:=gU digit ((c::r).drop (span digit (c::r)+1));omega
        ·rw[aP];omega
      ·injection h with h
       simp only[aT]at h;obtain⟨_,h1,_⟩:=h;subst h1;exact⟨_,[],ha,pk _ _,fun c hc=>(by cases hc),.inl ⟨rfl,rfl⟩⟩
    ·split at h
     ·unfold iE at h;split at h
      ·cases h
      ·split at h
       ·injection h with h;injection h with h;exact absurd h (by decide)
       ·cases h
     ·unfold lY at h;simp only at h;split at h
      ·injection h with h;injection h with h;exact absurd h (by decide)
      ·split at h
       ·injection h with h;injection h with h;exact absurd h (by decide)
       ·cases h
structure US (n:Nat) (ts:List Tok):Prop where
 len:ts.length≤n
 str:∀t∈ts,t.2.1.length≤n
 at_:∀t∈ts,t.2.2≤n
 num:∀t∈ts,t.1=2→mq t.2.1
theorem Ix:∀(f a:Nat) (l:List UInt8) (ts:List Tok) (n:Nat),a+l.length≤n→fy f a l=.ok ts→ts.length≤l.length∧(∀t∈ts,t.2.1.length≤n)∧(∀t∈ts,t.2.2≤n)∧∀t∈ts,t.1=2→mq t.2.1:=by
 intro f;induction f with
 |zero=>
  intro a l ts n _ h;simp only[fy]at h;injection h with h
  subst h;exact⟨by simp,fun t h=>(by cases h),fun t h=>(by cases h),fun t h=>(by cases h)⟩
 |succ f ih=>
  intro a l ts n hn h;simp only[fy]at h;have hsl:=kY l false;cases hs:skip false l with
  |nil=>
   rw[hs]at h;injection h with h
   subst h;exact⟨by simp,fun t h=>(by cases h),fun t h=>(by cases h),fun t h=>(by cases h)⟩
  |cons c r=>
   rw[hs]at h hsl;simp only at h;cases ht:token (c::r)with
   |none=>rw[ht]at h;cases h
   |some t=>
    obtain⟨k,s,m⟩:=t;rw[ht]at h;simp only at h;obtain⟨t1,t2,t3⟩:=iX ht;cases hr:fy f (a+(l.length-(c::r).length)+m) ((c::r).drop m)with
    |error e=>rw[hr]at h;cases h
    |ok ts'=>
     rw[hr]at h;injection h with h
     subst h;obtain⟨i1,i2,i3,i4⟩:=ih _ _ _ n (by rw[aJ];omega) hr;rw[aJ]at i1;refine⟨by rw[ab];omega,fun t hm=>?_,fun t hm=>?_,fun t hm=>?_⟩
     ·rcases af.1 hm with rfl|hm
      ·simp only at*;omega
      ·exact i2 t hm
     ·rcases af.1 hm with rfl|hm
      ·simp only at*;omega
      ·exact i3 t hm
     ·rcases af.1 hm with rfl|hm
      ·intro hk;simp only at hk;subst hk;exact tV ht
      ·exact i4 t hm
theorem EZ(l:List UInt8):US l.length (told l).1:=by
 unfold told tokens;by_cases h:4096<l.length
 ·rw[if_pos h];exact⟨by simp,fun t h=>(by cases h),fun t h=>(by cases h),fun t h=>(by cases h)⟩
 ·rw[if_neg h];cases hr:fy (l.length+1) 0 l with
  |error e=>exact⟨by simp,fun t h=>(by cases h),fun t h=>(by cases h),fun t h=>(by cases h)⟩
  |ok ts=>
   obtain⟨h1,h2,h3,h4⟩:=Ix _ _ _ _ l.length (by omega) hr;exact⟨h1,h2,h3,h4⟩
theorem EJ{l:List UInt8}(h:(told l).2.1=0):l.length≤4096:=by
 by_cases hl:4096<l.length
 ·rw[po hl]at h;cases h
 ·omega
end Lex
theorem Kz:(Tryz.prog.info? 5).map (fun i=>(i.zero,i.size,i.bytes))=some (some (.int .u8 0),1,1):=by kernel_rfl
theorem bt:Bt Tryz.prog 101 5:=⟨Tryz.underlying101,Kz⟩
theorem below_drewN{B:Nat}{a w:World}(h:Below B a w)(n:Nat):Below B a (w.drewN n):=⟨h.os,h.tape,h.output,h.size,h.block⟩
theorem tU(l:List UInt8)(k:Nat)(x:UInt8)(h:l[k]?=some x):l.take k++[x]=l.take (k+1):=by
 rw[bq,h];rfl
theorem NA.xK{w w':World}{q:Nat}{g:Nat}{t:TypeId}{cs:Array Value}(h:NA w g t cs)(e:w'=w.drewN q):NA w' g t cs:=by rw[e];exact h
theorem Below.xK{B:Nat}{a w w':World}{q:Nat}(h:Below B a w)(e:w'=w.drewN q):Below B a w':=by rw[e];exact below_drewN h q
def Own(w:World)(base:Nat)(e:TypeId)(size:Nat)(v:Value)(n:Nat)(xs:List Value):Prop:=w.ownsRow base e size v n xs
section
variable{w w':World}{base size n:Nat}{e:TypeId}{v:Value}{xs:List Value}
theorem Own.row(h:Own w base e size v n xs):w.ownsRow base e size v n xs:=h
theorem Own.xK{q:Nat}(h:Own w base e size v n xs)(he:w'=w.drewN q):Own w' base e size v n xs:=by rw[he];exact BK h fun _ _=>rfl
end
theorem eI(s:ByteArray):s.data.toList.length=s.size:=by rw[aK];rfl
theorem j7{s:ByteArray}{i:Nat}(h:i<s.size):∃c,s.data.toList[i]?=some c∧s[i]=c:=by
 have hl:i<s.data.toList.length:=by rw[eI];exact h
 exact⟨s.data.toList[i],aE hl,rfl⟩
theorem ry{b c:Bool}(h:b=c):Ending.returned (.bool b)=.returned (.bool c):=by rw[h]
theorem jW(c:UInt8)(w:World):Calls Tryz.prog 119 #[.int .i32 (c.toNat:Int)] w fun e w'=>e=.returned (.bool (Lex.letter c))∧w=w':=by
 have hc:=c.toNat_lt;by_cases h1:97≤c.toNat
 ·go_enter Tryz.func119,Tryz.ntmps119;go_wp2;all_goals
   go_ret
   refine⟨?_,rfl⟩
   unfold Lex.letter
   exact ry (by rw[aG];simp;omega)
 ·go_enter Tryz.func119,Tryz.ntmps119;go_wp2;all_goals
   go_ret
   refine⟨?_,rfl⟩
   unfold Lex.letter
   exact ry (by rw[aG];simp;omega)
theorem gu(c:UInt8)(w:World):Calls Tryz.prog 121 #[.int .i32 (c.toNat:Int)] w fun e w'=>e=.returned (.bool (Lex.digit c))∧w=w':=by
 have hc:=c.toNat_lt;by_cases h1:48≤c.toNat
 ·go_enter Tryz.func121,Tryz.ntmps121;go_wp2;all_goals
   go_ret
   refine⟨?_,rfl⟩
   unfold Lex.digit
   exact ry (by rw[aG];simp;omega)
 ·go_enter Tryz.func121,Tryz.ntmps121;go_wp2;all_goals
   go_ret
   refine⟨?_,rfl⟩
   unfold Lex.digit
   exact ry (by rw[aG];simp;omega)
theorem Fb(c:UInt8)(w:World):Calls Tryz.prog 117 #[.int .i32 (c.toNat:Int)] w fun e w'=>e=.returned (.bool (Lex.je c))∧w=w':=by
 go_enter Tryz.func117,Tryz.ntmps117;go_wp2;go_ret;refine⟨?_,rfl⟩;unfold Lex.je;exact ry (by rw[aG];simp;omega)
theorem DV(c:UInt8)(w:World):Calls Tryz.prog 115 #[.int .i32 (c.toNat:Int)] w fun e w'=>e=.returned (.bool (Lex.blank c))∧w=w':=by
 have go:∀b:Bool,b=Lex.blank c→Calls Tryz.prog 115 #[.int .i32 (c.toNat:Int)] w fun e w'=>e=.returned (.bool b)∧w=w':=by
  intro b hb;have HB:=cN hb;clear hb;by_cases h1:c.toNat=32
  ·have q1:((c.toNat:Int)==32)=true:=by simp;omega
   have HF:Hid (b=true):=HB.o.trans (by simp[Lex.blank,h1]);clear h1;go_enter Tryz.func115,Tryz.ntmps115;go_wp2;go_ret;exact⟨by rw[HF.o];rfl,rfl⟩
  have q1:((c.toNat:Int)==32)=false:=by simp;omega
  by_cases h2:c.toNat=9
  ·have q2:((c.toNat:Int)==9)=true:=by simp;omega
   have HF:Hid (b=true):=HB.o.trans (by simp[Lex.blank,h2]);clear h1 h2;go_enter Tryz.func115,Tryz.ntmps115;go_wp2;go_ret;exact⟨by rw[HF.o];rfl,rfl⟩
  have q2:((c.toNat:Int)==9)=false:=by simp;omega
  by_cases h3:c.toNat=10
  ·have q3:((c.toNat:Int)==10)=true:=by simp;omega
   have HF:Hid (b=true):=HB.o.trans (by simp[Lex.blank,h3]);clear h1 h2 h3;go_enter Tryz.func115,Tryz.ntmps115;go_wp2;go_ret;exact⟨by rw[HF.o];rfl,rfl⟩
  have q3:((c.toNat:Int)==10)=false:=by simp;omega
  by_cases h4:c.toNat=13
  ·have q4:((c.toNat:Int)==13)=true:=by simp;omega
   have HF:Hid (b=true):=HB.o.trans (by simp[Lex.blank,h4]);clear h1 h2 h3 h4;go_enter Tryz.func115,Tryz.ntmps115;go_wp2;go_ret;exact⟨by rw[HF.o];rfl,rfl⟩
  have q4:((c.toNat:Int)==13)=false:=by simp;omega
  have HF:Hid (b=false):=HB.o.trans (by simp[Lex.blank,h1,h2,h3,h4]);clear h1 h2 h3 h4;go_enter Tryz.func115,Tryz.ntmps115;go_wp2;go_ret;exact⟨by rw[HF.o];rfl,rfl⟩
 exact go _ rfl
theorem nq(c:UInt8)(w:World):Calls Tryz.prog 120 #[.int .i32 (c.toNat:Int)] w fun e w'=>e=.returned (.bool (Lex.eN c))∧w=w':=by
 unfold Lex.eN;obtain⟨b1,h1⟩:∃b,b=Lex.letter c:=⟨_,rfl⟩;obtain⟨b2,h2⟩:∃b,b=Lex.digit c:=⟨_,rfl⟩;rw[←h1,←h2];have H1:=cN h1;have H2:=cN h2;clear h1 h2;cases b1;all_goals
  go_enter Tryz.func120,Tryz.ntmps120
  go_wp2_with (first|(go_at_call 119;with_reducible refine(jW c _).mono ?_;rintro e w' ⟨rfl,rfl⟩;rw[←H1.o])|(go_at_call 121;with_reducible refine(gu c _).mono ?_;rintro e w' ⟨rfl,rfl⟩;rw[←H2.o]))
  go_ret
  exact⟨by simp,rfl⟩
theorem IT(c:UInt8)(w:World):Calls Tryz.prog 193 #[.int .i32 (c.toNat:Int)] w fun e w'=>e=.returned (.bool (Lex.hex c))∧w=w':=by
 have hc:=c.toNat_lt;unfold Lex.hex;obtain⟨b2,h2⟩:∃b,b=Lex.digit c:=⟨_,rfl⟩;rw[←h2];have H2:=cN h2;clear h2;cases b2
 ·by_cases h1:97≤c.toNat;all_goals
   go_enter Tryz.func193,Tryz.ntmps193
   go_wp2_with (go_at_call 121;with_reducible refine(gu c _).mono ?_;rintro e w' ⟨rfl,rfl⟩;rw[←H2.o])
   all_goals
    go_ret
    exact⟨ry (by first|rfl|(rw[aG];simp;omega)|(rw[aG];simp)|(simp;omega)),rfl⟩
 ·go_enter Tryz.func193,Tryz.ntmps193;go_wp2_with (go_at_call 121;with_reducible refine(gu c _).mono ?_;rintro e w' ⟨rfl,rfl⟩;rw[←H2.o])
  go_ret;exact⟨by simp,rfl⟩
theorem jk(text:ByteArray)(at_:Nat)(N:FuncId)(p:UInt8→Bool)(w:World)(hm:text.size≤9223372036854775807)(hN:∀(x:Value) (w:World),(callFunc N #[x]).run Tryz.prog w=.ok (.enter N #[x]) w)(hp:∀(c:UInt8) (w:World),Calls Tryz.prog N #[.int .i32 (c.toNat:Int)] w fun e w'=>e=.returned (.bool (p c))∧w=w')(hat:at_≤text.size):
 Calls Tryz.prog 114 #[.string text,.int .i64 (at_:Int),.func (.func N) #[] #[]] w fun e w'=>e=.returned (.int .i64 ((at_+Lex.span p (text.data.toList.drop at_):Nat):Int))∧w=w':=by
 have HP:=cN hp;have HL:=cN (eI text);clear hp;go_enter Tryz.func114,Tryz.ntmps114;go_wp2_with fail
 go_loop [12] (fun i=>∃k:Nat,i=.int .i64 (k:Nat)∧at_+k≤text.size∧Hid (∀j c,j<k→(text.data.toList.drop at_)[j]?=some c→p c=true)) (fun i=>text.size-(intOf i).toNat);case atStart=>exact⟨0,rfl,by omega,fun j c h=>absurd h (by omega)⟩
 case round=>
  obtain⟨k,rfl,hk,HK⟩:=hrel;by_cases hlt:at_+k<text.size
  ·obtain⟨c,hc,hs⟩:=j7 hlt;have Xu:(k:Int)<(text.size:Int)-(at_:Int):=by omega
   have HC:=cN hc;have hcl:=c.toNat_lt;clear hc;go_wp2_with fail
   with_reducible refine(HP.o c _).mono ?_
   rintro e w' ⟨rfl,rfl⟩;cases hpc:p c with
   |true=>
    have HN:Hid (∀j d,j<k+1→(text.data.toList.drop at_)[j]?=some d→p d=true):=by
     intro j d hj hd;rcases cl j k with h|h
     ·exact HK.o j d h hd
     ·obtain rfl:j=k:=by omega
      rw[bQ,HC.o]at hd;injection hd with hd
      rw[←hd];exact hpc
    clear hpc;go_wp2_with fail
    go_round;case rel=>exact⟨k+1,by go_num,by omega,HN.o⟩
    case measure=>simp[intOf];omega
   |false=>
    have HF:Hid (Lex.span p (text.data.toList.drop at_)=k):=by
     refine Lex.Bx p _ k HK.o (by rw[aJ,HL.o];omega) ?_;intro d hd;rw[bQ,HC.o]at hd;injection hd with hd
     rw[←hd];exact hpc
    clear hpc;go_wp2_with fail
    go_ret;exact⟨kj (by rw[HF.o];omega),rfl⟩
  ·have HF:Hid (Lex.span p (text.data.toList.drop at_)=k):=by refine Lex.Bx p _ k HK.o (by rw[aJ,HL.o];omega) ?_;intro d hd;rw[bQ,List.getElem?_eq_none (by rw[HL.o];omega)]at hd;cases hd
   have Xu:¬(k:Int)<(text.size:Int)-(at_:Int):=by omega
   go_wp2_with fail
   go_ret;exact⟨kj (by rw[HF.o];omega),rfl⟩
theorem Dr(x:Value)(w:World):(callFunc 115 #[x]).run Tryz.prog w=.ok (.enter 115 #[x]) w:=by simp[go_sem]
theorem EV(x:Value)(w:World):(callFunc 117 #[x]).run Tryz.prog w=.ok (.enter 117 #[x]) w:=by simp[go_sem]
theorem nH(x:Value)(w:World):(callFunc 120 #[x]).run Tryz.prog w=.ok (.enter 120 #[x]) w:=by simp[go_sem]
theorem sU(x:Value)(w:World):(callFunc 121 #[x]).run Tryz.prog w=.ok (.enter 121 #[x]) w:=by simp[go_sem]
theorem Im(x:Value)(w:World):(callFunc 193 #[x]).run Tryz.prog w=.ok (.enter 193 #[x]) w:=by simp[go_sem]
theorem lE(text:ByteArray)(i:Int)(at_:Nat)(c:UInt8)(x:Int)(w:World)(hi:i=(at_:Int))(hx:x=(c.toNat:Int)):
 Calls Tryz.prog 116 #[.string text,.int .i64 i,.int .u8 x] w fun e w'=>e=.returned (.bool (Lex.dQ text.data.toList at_ c))∧w=w':=by
 subst hi hx;have HL:=cN (eI text);by_cases hlt:at_<text.size
 ·obtain⟨d,hd,hs⟩:=j7 hlt;have HF:Hid (Lex.dQ text.data.toList at_ c=((d.toNat:Int)==(c.toNat:Int))):=by show _=_;unfold Lex.dQ;rw[hd,aG];simp only[bz,aI,aV];exact⟨fun h=>by rw[h],fun h=>aF.1 (by omega)⟩
  have hltI:(at_:Int)<(text.size:Int):=by omega
  have tt:decide (at_<text.size)=true:=by simpa using hlt
  clear hd;go_enter Tryz.func116,Tryz.ntmps116;go_wp2;go_ret;exact⟨by rw[HF.o];rfl,rfl⟩
 ·have HF:Hid (Lex.dQ text.data.toList at_ c=false):=by show _=_;unfold Lex.dQ;rw[List.getElem?_eq_none (by rw[HL.o];omega)];simp
  have tt:decide (at_<text.size)=false:=by simpa using hlt
  go_enter Tryz.func116,Tryz.ntmps116;go_wp2;go_ret;exact⟨by rw[HF.o];rfl,rfl⟩
theorem b45:(45:Int)=((((45:UInt8)).toNat:Nat):Int):=rfl
theorem b39:(39:Int)=((((39:UInt8)).toNat:Nat):Int):=rfl
theorem b46:(46:Int)=((((46:UInt8)).toNat:Nat):Int):=rfl
theorem b62:(62:Int)=((((62:UInt8)).toNat:Nat):Int):=rfl
theorem b61:(61:Int)=((((61:UInt8)).toNat:Nat):Int):=rfl
theorem drop_at{l:List UInt8}{i:Nat}{c:UInt8}(h:l[i]?=some c):l.drop i=c::l.drop (i+1):=by
 obtain⟨hlt,hk⟩:=ay.1 h;rw[aY hlt,hk]
theorem Hq(text:ByteArray)(at_:Nat)(w:World)(hm:text.size+4≤9223372036854775807)(hat:at_≤text.size):
 Calls Tryz.prog 49 #[.string text,.int .i64 (at_:Int)] w fun e w'=>e=.returned (.int .i64 ((Lex.fu text.data.toList at_:Nat):Int))∧w=w':=by
 have HL:=cN (eI text);go_enter Tryz.func49,Tryz.ntmps49;go_wp2_with fail
 go_loopg [1] (text.size-at_) (fun g a wr=>∃k:Nat,g=text.size-k∧wr=w∧a=.int .i64 (k:Nat)∧k≤text.size∧Hid (Lex.skip false (text.data.toList.drop at_)=Lex.skip false (text.data.toList.drop k)));case atStart=>exact⟨at_,rfl,rfl,rfl,hat,rfl⟩
 case round=>
  obtain⟨k,rfl,rfl,rfl,hk,HS⟩:=hrel;go_wp2_with fail
  with_reducible refine(jk text k 115 Lex.blank _ (by omega) Dr DV hk).mono ?_
  rintro e w' ⟨rfl,rfl⟩;have hsp:=Lex.gU Lex.blank (text.data.toList.drop k);rw[aJ,HL.o]at hsp;obtain⟨k1,hk1⟩:∃x,x=k+Lex.span Lex.blank (text.data.toList.drop k):=⟨_,rfl⟩;have WA:Hid (Lex.skip false (text.data.toList.drop at_)=Lex.skip false (text.data.toList.drop k1)):=by rw[HS.o,Lex.yF,bU,←hk1];rfl
  have QZ:Hid (∀c,(text.data.toList.drop k1)[0]?=some c→Lex.blank c=false):=by intro c hc;apply Lex.CV Lex.blank (text.data.toList.drop k) c;rw[bQ,←hk1];simpa using hc
  have VA:k1≤text.size:=by omega
  have hkk:k≤k1:=by omega
  rw[←hk1];clear hsp hk1 HS;obtain⟨b1,hb1⟩:∃b,b=Lex.dQ text.data.toList k1 45:=⟨_,rfl⟩;obtain⟨b2,hb2⟩:∃b,b=Lex.dQ text.data.toList (k1+1) 45:=⟨_,rfl⟩;have H1:=cN hb1;have H2:=cN hb2;clear hb1 hb2;go_wp2_with fail
  with_reducible refine(lE text _ k1 45 _ _ rfl b45).mono ?_
  rintro e w' ⟨rfl,rfl⟩;rw[←H1.o];cases b1 with
  |false=>
   have HF:Hid (Lex.fu text.data.toList at_=k1):=by refine Lex.pA ?_ (by rw[HL.o];exact VA);rw[WA.o];exact Lex.tz QZ.o (Or.inl (by rw[Lex.fT];exact H1.o.symm))
   go_wp2_with fail
   go_ret;exact⟨kj (by rw[HF.o]),rfl⟩
  |true=>
   go_wp2_with fail
   with_reducible refine(lE text _ (k1+1) 45 _ _ (by omega) b45).mono ?_
   rintro e w' ⟨rfl,rfl⟩;rw[←H2.o];cases b2 with
   |false=>
    have HF:Hid (Lex.fu text.data.toList at_=k1):=by refine Lex.pA ?_ (by rw[HL.o];exact VA);rw[WA.o];exact Lex.tz QZ.o (Or.inr (by rw[Lex.fT];exact H2.o.symm))
    go_wp2_with fail
    go_ret;exact⟨kj (by rw[HF.o]),rfl⟩
   |true=>
    go_wp2_with fail
    with_reducible refine(jk text k1 117 Lex.je _ (by omega) EV Fb VA).mono ?_
    rintro e w' ⟨rfl,rfl⟩;have hsp:=Lex.gU Lex.je (text.data.toList.drop k1);rw[aJ,HL.o]at hsp;have hpos:0<Lex.span Lex.je (text.data.toList.drop k1):=by have h45:=H1.o.symm;unfold Lex.dQ at h45;rw[aI]at h45;rw[drop_at h45];simp only[Lex.span];rw[if_pos (by decide)];omega
    obtain⟨k2,hk2⟩:∃x,x=k1+Lex.span Lex.je (text.data.toList.drop k1):=⟨_,rfl⟩;have HS2:Hid (Lex.skip false (text.data.toList.drop at_)=Lex.skip false (text.data.toList.drop k2)):=by rw[WA.o,Lex.Cq (by rw[Lex.fT];exact H1.o.symm) (by rw[Lex.fT];exact H2.o.symm),bU,←hk2];rfl
    have hk2n:k2≤text.size:=by omega
    have hkk2:k1<k2:=by omega
    have HG:Hid (k1<text.size):=by show _<_;omega
    rw[←hk2];clear hsp hk2 hpos;go_wp2_with fail
    go_roundg (text.size-k2);case measure=>have:=HG.o;omega
    case rel=>exact⟨k2,rfl,rfl,rfl,hk2n,HS2.o⟩
theorem tn(c:UInt8)(w:World)(hc:Lex.hex c=true):Calls Tryz.prog 194 #[.int .u8 (c.toNat:Int)] w fun e w'=>e=.returned (.int .u8 ((Lex.ef c:Nat):Int))∧w=w':=by
 have hl:=c.toNat_lt;unfold Lex.ef;unfold Lex.hex at hc;cases hd:Lex.digit c with
 |true=>
  have H2:=cN hd;unfold Lex.digit at hd;rw[aI]at hd;rw[if_pos rfl];obtain⟨hd1,hd2⟩:=hd;clear hc;go_enter Tryz.func194,Tryz.ntmps194;go_wp2_with (go_at_call 121;with_reducible refine(gu c _).mono ?_;rintro e w' ⟨rfl,rfl⟩;rw[H2.o])
  go_ret;exact⟨kj (by omega),rfl⟩
 |false=>
  have H2:=cN hd;rw[hd,cz,aI]at hc;rw[if_neg (by simp)];obtain⟨hd1,hd2⟩:=hc;clear hd;go_enter Tryz.func194,Tryz.ntmps194;go_wp2_with (go_at_call 121;with_reducible refine(gu c _).mono ?_;rintro e w' ⟨rfl,rfl⟩;rw[H2.o])
  go_ret;exact⟨kj (by omega),rfl⟩
end Go.Proofs.YtnicfobpclehkaaGreatDoor
