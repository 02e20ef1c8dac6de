import Derived.Test.YtnicfobpclehkaaGreatDoorRows
import Derived.Laws.OwnMore
import Derived.IntWalk
import Derived.Deep.LoopGhost
import Derived.Deep.DeepCutAuto
import Derived.Test.YtnicfobpclehkaaGreatDoorP2
set_option maxHeartbeats 800000
set_option linter.unusedVariables false
set_option linter.unusedSimpArgs false
namespace Go.Proofs.YtnicfobpclehkaaGreatDoor
open Go.RowKit
section
namespace I
open Ev (Ex Hd)
abbrev Bs:=List UInt8
abbrev Tok:=Lex.Tok
def bs(l:Bs):ByteArray:=⟨l.toArray⟩
def aQ:ByteArray:=bs []
structure St where
 r:List Tok
 e:Nat
 c:Nat
 d:Bool
structure Ky where
 nm:Bs
 k:UInt8
 pr:Bool
 nn:Bool
 un:Bool
 ck:List Ex
 rf:Bs
 ac:UInt8
structure LL where
 x:Ex
 nm:Bs
structure Src where
 nm:Bs
 al:Bs
 on:List Ex
structure Ord where
 x:Ex
 ds:Bool
structure Kz where
 all:Bool
 its:List LL
 fr:List Src
 wh:List Ex
 gr:List Ex
 od:List Ord
 lim:Int
structure La where
 nm:Bs
 x:Ex
structure Km where
 k:UInt8
 nm:Bs
 on:Bs
 aF:Bs
 ev:UInt8
 Kv:List Ky
 q:List Kz
 vals:List (List Ex)
 bu:List La
 wh:List Ex
 pv:List UInt8
 opt:Bool
 key:Bs
def Km.zero:Km:=⟨0,[],[],[],0,[],[],[],[],[],[],false,[]⟩
def Km.of(k:UInt8):Km:={Km.zero with k:=k}
section
variable(T:Nat)
def place(st:St):Nat:=match st.r with
 |[]=>T
 |t::_=>t.2.2
def fail(e:Nat)(st:St):St:=if st.e=0 then⟨[],e,place T st,st.d⟩else⟨[],st.e,st.c,st.d⟩
def br(st:St):St:=if st.r=[]then fail T 300 st else fail T 3 st
end
def hit(s:Bs)(t:Tok):Bool:=(decide (t.1=1)||decide (t.1=5))&&decide (t.2.1=s)
def ae(s:Bs)(st:St):Bool:=match st.r with
 |[]=>false
 |t::_=>hit s t
def next(st:St):St:={st with r:=st.r.tail}
def acc(s:Bs)(st:St):St:=if ae s st=true then next st else st
section
variable(T:Nat)
def expect:List Bs→St→St
 |[],st=>st
 |s::l,st=>if ae s st=true then expect l (next st)else fail T 300 st
def choose:Nat→List Bs→St→Nat×St
 |_,[],st=>(0,fail T 300 st)
 |i,s::l,st=>if ae s st=true then(i,next st)else choose (i+1) l st
def named(st:St):Bool:=match st.r with
 |[]=>false
 |t::_=>decide (t.1=1)&&!Lex.bL t.2.1
def name(st:St):Bs×St:=match st.r with
 |[]=>([],fail T 300 st)
 |t::_=>if named st=true then(t.2.1,next st)else([],fail T 300 st)
def one:List (Bs×UInt8)→St→UInt8×St
 |[],st=>(0,st)
 |s::l,st=>if ae s.1 st=true then(s.2,next st)else one l st
end
def more{α:Type}(T most:Nat)(one:St→α×St):Nat→List α→St→List α×St
 |0,l,st=>(l,st)
 |f+1,l,st=>if ae [44] st=true then(if l.length=most then(l,br T (next st))else more T most one f (l++[(one (next st)).1]) (one (next st)).2)else(l,st)
def list{α:Type}(T most:Nat)(one:St→α×St)(st:St):List α×St:=
 more T most one ((one st).2.r.length+1) [(one st).1] (one st).2
def inside{α:Type}(T:Nat)(part:St→α×St)(st:St):α×St:=
 ((part (expect T [[40]] st)).1,expect T [[41]] (part (expect T [[40]] st)).2)
def df(l:Bs):Nat:=l.foldl (fun n c=>n*10+(c.toNat-48)) 0
def cR(l:Bs):Int×Nat:=if df l≤9223372036854775807 then((df l:Int),0)else(0,271)
def hd(o:UInt8):Hd:=⟨o,⟨0,0,aQ⟩,aQ,aQ,0⟩
def lit(v:Cell.Val):Ex:=.mk ⟨1,v,aQ,aQ,0⟩ []
def un(o:UInt8)(a:Ex):Ex:=.mk (hd o) [a]
def bin(o:UInt8)(a b:Ex):Ex:=.mk (hd o) [a,b]
def cut:Bs→Bs×Option Bs
 |[]=>([],none)
 |c::l=>if c=46 then([],some l)else(c::(cut l).1,(cut l).2)
def bN(s:Bs):Bs×UInt8:=match (cut s).2 with
 |none=>((cut s).1,2)
 |some b=>((cut s).1++(b++[48,48,48]).take 4,3)
section
variable(T:Nat)
def literal(st:St):Ex×St:=match st.r with
 |[]=>(lit ⟨4,0,aQ⟩,next st)
 |t::_=>
  if t.1=4 then(lit ⟨5,0,bs t.2.1⟩,next st)
  else if t.1=2 then
   (if(cR (bN t.2.1).1).2=0 then(lit ⟨(bN t.2.1).2,(cR (bN t.2.1).1).1,aQ⟩,next st)else(lit ⟨(bN t.2.1).2,0,aQ⟩,next (fail T 271 st)))
  else(lit ⟨4,0,bs t.2.1⟩,next st)
def ba(kid:St→Ex×St)(l:List (Bs×UInt8)):Nat→Ex→St→Ex×St
 |0,e,st=>(e,st)
 |f+1,e,st=>if(one l st).1=0 then(e,st)else ba kid l f (bin (one l st).1 e (kid (one l st).2).1) (kid (one l st).2).2
def chain(kid:St→Ex×St)(l:List (Bs×UInt8))(st:St):Ex×St:=
 ba kid l ((kid st).2.r.length+1) (kid st).1 (kid st).2
def au(st:St):UInt8:=match st.r with
 |[]=>0
 |t::_=>t.1
def Mv(st:St):Bs:=match st.r with
 |[]=>[]
 |t::_=>t.2.1
def fold(X:St→Ex×St)(op:UInt8)(st:St):Ex×St:=
 inside T (fun st=>if op=17∧ae [42] st=true then(.mk (hd op) [],next st)else(un op (X st).1,(X st).2)) st
def dd:List (Bs×UInt8):=[([99,111,117,110,116],17),([115,117,109],18),([109,105,110],19),([109,97,120],20)]
def cm(st:St):Ex×St:=
 if ae [46] (name T st).2=true then(.mk ⟨2,⟨0,0,aQ⟩,bs (name T (next (name T st).2)).1,bs (name T st).1,0⟩ [],(name T (next (name T st).2)).2)
 else(.mk ⟨2,⟨0,0,aQ⟩,bs (name T st).1,aQ,0⟩ [],(name T st).2)
def aD(X:St→Ex×St)(st:St):Ex×St:=
 if au st=2∨au st=3∨au st=4 then literal T st
 else if au st=5∧Mv st=[40]then inside T X st
 else if ae [110,117,108,108] st=true then(.mk (hd 1) [],next st)
 else if ae [116,114,117,101] st=true then(lit ⟨1,1,aQ⟩,next st)
 else if ae [102,97,108,115,101] st=true then(lit ⟨1,0,aQ⟩,next st)
 else if ae [117,115,101,114] st=true then(.mk (hd 21) [],next st)
 else if(one dd st).1=0 then cm T st
 else fold T X (one dd st).1 (one dd st).2
def again(s:Bs)(o:UInt8)(Y:St→Ex×St):Nat→St→Ex×St
 |0,st=>Y st
 |f+1,st=>if ae s st=true then(un o (again s o Y f (next st)).1,(again s o Y f (next st)).2)else Y st
def unary(X:St→Ex×St)(st:St):Ex×St:=again [45] 3 (aD T X) st.r.length st
def prod(X:St→Ex×St):St→Ex×St:=chain (unary T X) [([42],6)]
def sum(X:St→Ex×St):St→Ex×St:=chain (prod T X) [([43],4),([45],5)]
def fF:List (Bs×UInt8):=[([61],7),([60,62],8),([60],9),([60,61],10),([62],11),([62,61],12)]
def Ng(e:Ex)(st:St):Ex×St:=
 if ae [110,111,116] st=true then(un 15 (un 16 e),expect T [[110,117,108,108]] (next st))else(un 16 e,expect T [[110,117,108,108]] st)
def fv(X:St→Ex×St)(e:Ex)(st:St):Ex×St:=
 if(one fF st).1=0 then(if ae [105,115] st=true then Ng T e (next st)else(e,st))
 else(bin (one fF st).1 e (sum T X (one fF st).2).1,(sum T X (one fF st).2).2)
def cmp(X:St→Ex×St)(st:St):Ex×St:=fv T X (sum T X st).1 (sum T X st).2
def dz(X:St→Ex×St)(st:St):Ex×St:=again [110,111,116] 15 (cmp T X) st.r.length st
def gz(X:St→Ex×St):St→Ex×St:=chain (dz T X) [([97,110,100],13)]
def PK(X:St→Ex×St):St→Ex×St:=chain (gz T X) [([111,114],14)]
def Lw:Nat→St→Ex×St
 |0,st=>(.mk (hd 0) [],st)
 |n+1,st=>PK T (Lw n) st
def or(st:St):Ex×St:=Lw T (st.r.length+1) st
end
mutual
def depth:Ex→Nat
 | .mk _ ks=>bj ks+1
def bj:List Ex→Nat
 |[]=>0
 |k::ks=>max (depth k) (bj ks)
end
section
variable(T:Nat)
def expr(st:St):Ex×St:=((or T st).1,if 24<depth (or T st).1 then{(or T st).2 with d:=true}else(or T st).2)
def row:St→List Ex×St:=inside T (list T 16 (expr T))
def action(st:St):UInt8×St:=
 if ae [111,110] st=true then
  match choose T 0 [[114,101,115,116,114,105,99,116],[99,97,115,99,97,100,101],[115,101,116]] (expect T [[100,101,108,101,116,101]] (next st))with
  |(i,st)=>if i=2 then(2,expect T [[110,117,108,108]] st)else(if i=1 then 1 else 0,st)
 else(0,st)
def bc(c:Ky)(st:St):Ky×St:=if ae [112,114,105,109,97,114,121] st=true then({c with pr:=true},expect T [[107,101,121]] (next st))else(c,st)
def bY(c:Ky)(st:St):Ky×St:=if ae [110,111,116] st=true then({c with nn:=true},expect T [[110,117,108,108]] (next st))else(c,st)
def cp(c:Ky)(st:St):Ky×St:=if ae [117,110,105,113,117,101] st=true then({c with un:=true},next st)else(c,st)
def cM(c:Ky)(st:St):Ky×St:=if ae [99,104,101,99,107] st=true then({c with ck:=[(inside T (expr T) (next st)).1]},(inside T (expr T) (next st)).2)else(c,st)
def dK(c:Ky)(st:St):Ky×St:=if ae [114,101,102,101,114,101,110,99,101,115] st=true then({c with rf:=(name T (next st)).1,ac:=(action T (name T (next st)).2).1},(action T (name T (next st)).2).2)else(c,st)
def kinds:List UInt8:=[2,3,1,4,5]
def aC(st:St):Ky×St:=
 match name T st with
 |(n,st)=>match choose T 0 [[105,110,116],[100,101,99],[98,111,111,108],[116,101,120,116],[98,121,116,101,115]] st with
  |(i,st)=>(⟨n,kinds.getD i 0,false,false,false,[],[],0⟩,st)
def column(st:St):Ky×St:=
 match aC T st with
 |(c,st)=>match bc T c st with
  |(c,st)=>match bY T c st with
   |(c,st)=>match cp c st with
    |(c,st)=>match cM T c st with
     |(c,st)=>dK T c st
def table(st:St):Km×St:=
 match name T st with
 |(n,st)=>match inside T (list T 12 (column T)) st with
  |(cs,st)=>({Km.of 1 with nm:=n,Kv:=cs},st)
def item(st:St):LL×St:=
 match expr T st with
 |(e,st)=>if ae [97,115] st=true then(⟨e,(name T (next st)).1⟩,(name T (next st)).2)else(⟨e,[]⟩,st)
def source(st:St):Src×St:=
 match name T st with
 |(n,st)=>if ae [97,115] st=true then(⟨n,(name T (next st)).1,[]⟩,(name T (next st)).2)else(⟨n,[],[]⟩,st)
def order(st:St):Ord×St:=
 match expr T st with
 |(e,st)=>if ae [97,115,99] st=true then(⟨e,false⟩,next st)else if ae [100,101,115,99] st=true then(⟨e,true⟩,next st)else(⟨e,false⟩,st)
def fU(s:Bs):Int×Nat:=if(cut s).2=none then cR s else(0,271)
def bA(st:St):Int×St:=
 if au st=2 then
  (if(fU (Mv st)).2=0 then((fU (Mv st)).1,if 1000000<(fU (Mv st)).1 then next (fail T 271 st)else next st)else(0,next (fail T 271 st)))
 else(0,fail T 300 st)
def aq(st:St):List Ex×St:=if ae [119,104,101,114,101] st=true then([(expr T (next st)).1],(expr T (next st)).2)else([],st)
def aI:Nat→List Src→St→List Src×St×Bool
 |0,l,st=>(l,st,false)
 |f+1,l,st=>
  if ae [106,111,105,110] st=true then
   (if 16<l.length then(l,br T (next st),true)
    else match source T (next st)with
     |(s,st)=>match expr T (expect T [[111,110]] st)with
      |(e,st)=>aI f (l++[{s with on:=[e]}]) st)
  else(l,st,false)
def dH(q:Kz)(st:St):Kz×St:=if ae [103,114,111,117,112] st=true then({q with gr:=(list T 16 (expr T) (expect T [[98,121]] (next st))).1},(list T 16 (expr T) (expect T [[98,121]] (next st))).2)else(q,st)
def dm(q:Kz)(st:St):Kz×St:=if ae [111,114,100,101,114] st=true then({q with od:=(list T 16 (order T) (expect T [[98,121]] (next st))).1},(list T 16 (order T) (expect T [[98,121]] (next st))).2)else(q,st)
def db(q:Kz)(st:St):Kz×St:=if ae [108,105,109,105,116] st=true then({q with lim:=(bA T (next st)).1},(bA T (next st)).2)else(q,st)
def cO(st:St):Kz×St:=
 if ae [42] st=true then(⟨true,[],[],[],[],[],-1⟩,next st)
 else match list T 16 (item T) st with
  |(l,st)=>(⟨false,l,[],[],[],[],-1⟩,st)
def nu(q:Kz)(st:St):Kz×St:=
 match aq T st with
 |(wh,st)=>match dH T {q with wh:=wh} st with
  |(q,st)=>match dm T q st with
   |(q,st)=>db T q st
def selection(st:St):Kz×St:=
 match cO T st with
 |(q,st)=>match source T (expect T [[102,114,111,109]] st)with
  |(s,st)=>match aI T (st.r.length+1) [s] st with
   |(l,st,true)=>({q with fr:=l},st)
   |(l,st,false)=>nu T {q with fr:=l} st
def drop(st:St):Km×St:=
 match choose T 0 [[116,97,98,108,101],[118,105,101,119],[116,114,105,103,103,101,114],[112,111,108,105,99,121]] st with
 |(i,st)=>match name T st with
  |(n,st)=>({Km.of ([2,4,6,8].getD i 0)with nm:=n},st)
def view(st:St):Km×St:=
 match name T st with
 |(n,st)=>match selection T (expect T [[97,115],[115,101,108,101,99,116]] st)with
  |(q,st)=>({Km.of 3 with nm:=n,q:=[q]},st)
def cu(st:St):Km×St:=
 match name T st with
 |(n,st)=>match choose T 0 [[105,110,115,101,114,116],[117,112,100,97,116,101],[100,101,108,101,116,101]] (expect T [[97,102,116,101,114]] st)with
  |(i,st)=>match name T (expect T [[111,110]] st)with
   |(on,st)=>match name T (expect T [[105,110,115,101,114,116],[105,110,116,111]] st)with
    |(aF,st)=>match row T (expect T [[118,97,108,117,101,115]] st)with
     |(v,st)=>({Km.of 5 with nm:=n,ev:=[14,15,16].getD i 0,on:=on,aF:=aF,vals:=[v]},st)
def dE(st:St):Km×St:=
 match name T st with
 |(n,st)=>match name T (expect T [[111,110]] st)with
  |(on,st)=>match name T (expect T [[116,111]] st)with
   |(aF,st)=>match inside T (expr T) (expect T [[117,115,105,110,103]] st)with
    |(e,st)=>({Km.of 7 with nm:=n,on:=on,aF:=aF,wh:=[e]},st)
def role(st:St):Km×St:=
 match name T st with
 |(n,st)=>
  if ae [107,101,121] st=true then(if au (next st)=3 then({Km.of 9 with nm:=n,key:=Mv (next st)},next (next st))else({Km.of 9 with nm:=n},fail T 300 (next st)))
  else({Km.of 9 with nm:=n},st)
def cU(st:St):UInt8×St:=
 match choose T 0 [[115,101,108,101,99,116],[105,110,115,101,114,116],[117,112,100,97,116,101],[100,101,108,101,116,101]] st with
 |(i,st)=>(UInt8.ofNat (i+1),st)
def aX(st:St):List UInt8×St:=if ae [97,108,108] st=true then([1,2,3,4],next st)else list T 16 (cU T) st
def share(role cU:UInt8)(word:Bs)(st:St):Km×St:=
 match (if named st=true then(Km.of role,st)else({Km.of cU with pv:=(aX T st).1},expect T [[111,110]] (aX T st).2))with
 |(s,st)=>match name T st with
  |(n,st)=>match name T (expect T [word] st)with
   |(on,st)=>({s with nm:=n,on:=on},st)
def dk(st:St):Km×St:=
 match share T 10 12 [116,111] st with
 |(s,st)=>if s.k=12∧ae [119,105,116,104] st=true then({s with opt:=true},expect T [[103,114,97,110,116],[111,112,116,105,111,110]] (next st))else(s,st)
def iG(st:St):Km×St:=share T 11 13 [102,114,111,109] st
def insert(st:St):Km×St:=
 match name T (expect T [[105,110,116,111]] st)with
 |(n,st)=>match list T 16 (row T) (expect T [[118,97,108,117,101,115]] st)with
  |(v,st)=>({Km.of 14 with nm:=n,vals:=v},st)
def du(st:St):La×St:=
 match name T st with
 |(n,st)=>match expr T (expect T [[61]] st)with
  |(e,st)=>(⟨n,e⟩,st)
def update(st:St):Km×St:=
 match name T st with
 |(n,st)=>match list T 16 (du T) (expect T [[115,101,116]] st)with
  |(l,st)=>match aq T st with
   |(w,st)=>({Km.of 15 with nm:=n,bu:=l,wh:=w},st)
def remove(st:St):Km×St:=
 match name T (expect T [[102,114,111,109]] st)with
 |(n,st)=>match aq T st with
  |(w,st)=>({Km.of 16 with nm:=n,wh:=w},st)
def query(st:St):Km×St:=
 match selection T st with
 |(q,st)=>({Km.of 17 with q:=[q]},st)
def pick:List (Bs×(St→Km×St))→St→Km×St
 |[],st=>(Km.zero,fail T 300 st)
 |v::l,st=>if ae v.1 st=true then v.2 (next st)else pick l st
def create:St→Km×St:=pick T [([116,97,98,108,101],table T),([118,105,101,119],view T),([116,114,105,103,103,101,114],cu T),([112,111,108,105,99,121],dE T),([114,111,108,101],role T)]
def js:List (Bs×(St→Km×St)):=[([99,114,101,97,116,101],create T),([100,114,111,112],drop T),([103,114,97,110,116],dk T),([114,101,118,111,107,101],iG T),([105,110,115,101,114,116],insert T),([117,112,100,97,116,101],update T),([100,101,108,101,116,101],remove T),([115,101,108,101,99,116],query T),([98,101,103,105,110],fun st=>(Km.of 18,st)),([99,111,109,109,105,116],fun st=>(Km.of 19,st)),([114,111,108,108,98,97,99,107],fun st=>(Km.of 20,st))]
def run(l:List Tok):Km×St:=
 match pick T (js T) ⟨l,0,0,false⟩with
 |(s,st)=>(s,if(acc [59] st).r=[]then acc [59] st else fail T 300 (acc [59] st))
end
def parse(text:Bs):Km×Nat×Nat:=
 if(Lex.told text).2.1≠0 then(Km.zero,(Lex.told text).2.1,(Lex.told text).2.2)
 else if(run text.length (Lex.told text).1).2.e≠0 then(Km.zero,(run text.length (Lex.told text).1).2.e,(run text.length (Lex.told text).1).2.c)
 else if(run text.length (Lex.told text).1).2.d=true then(Km.zero,301,0)
 else((run text.length (Lex.told text).1).1,0,0)
end I
end
namespace Lex
def jt(s:List UInt8):Prop:=∃a b,a≠[]∧(∀c∈a,digit c=true)∧(∀c∈b,digit c=true)∧((s=a∧b=[])∨(s=a++46::b∧1≤b.length∧b.length≤4))
theorem l9(p:UInt8→Bool):∀l:List UInt8,∀c∈l.take (span p l),p c=true:=by
 intro l;induction l with
 |nil=>intro c h;simp[span]at h
 |cons d l ih=>
  intro c h;simp only[span]at h;split at h
  ·rename_i hd;rw[List.take_succ_cons]at h;rcases List.mem_cons.1 h with rfl|h
   ·exact hd
   ·exact ih c h
  ·simp at h
theorem An{l:List UInt8}{s:List UInt8}{n:Nat}(h:token l=some (2,s,n)):jt s:=by
 cases l with
 |nil=>cases h
 |cons c r=>
  simp only[token]at h;split at h
  ·unfold dD at h;split at h
   ·cases h
   ·split at h
    ·injection h with h;injection h with h;exact absurd h (by decide)
    ·cases h
  ·split at h
   ·unfold iu at h;split at h
    ·injection h with h;injection h with h;exact absurd h (by decide)
    ·cases h
   ·split at h
    ·rename_i hx;have h3:1≤span digit (c::r):=lO hx;have ha:(c::r).take (span digit (c::r))≠[]:=by intro e;have:=congrArg List.length e;rw[List.length_take]at this;have:=dj digit (c::r);simp only[List.length_nil]at*;omega
     unfold fo at h;split at h
     ·cases h
     ·split at h
      ·rename_i hy;split at h
       ·cases h
       ·rename_i hz;injection h with h
        simp only[Prod.mk.injEq]at h;obtain⟨_,h1,_⟩:=h;subst h1;refine⟨(c::r).take (span digit (c::r)),((c::r).drop (span digit (c::r)+1)).take (span digit ((c::r).drop (span digit (c::r)+1))),ha,l9 _ _,l9 _ _,.inr ⟨?_,?_,?_⟩⟩
        ·have h46:(c::r)[span digit (c::r)]?=some 46:=by simpa[aZ]using hy.1
         have e1:(c::r).drop (span digit (c::r))=46::(c::r).drop (span digit (c::r)+1):=by obtain⟨hlt,hk⟩:=List.getElem?_eq_some_iff.1 h46;rw[List.drop_eq_getElem_cons hlt,hk]
         rw[show span digit (c::r)+1+span digit ((c::r).drop (span digit (c::r)+1))=span digit (c::r)+(span digit ((c::r).drop (span digit (c::r)+1))+1) by omega,List.take_add,e1,List.take_succ_cons]
        ·have:=hy.2;rw[List.length_take];have:=dj digit ((c::r).drop (span digit (c::r)+1));omega
        ·rw[List.length_take];omega
      ·injection h with h
       simp only[Prod.mk.injEq]at h;obtain⟨_,h1,_⟩:=h;subst h1;exact⟨_,[],ha,l9 _ _,fun c hc=>(by cases hc),.inl ⟨rfl,rfl⟩⟩
    ·split at h
     ·unfold dS at h;split at h
      ·cases h
      ·split at h
       ·injection h with h;injection h with h;exact absurd h (by decide)
       ·cases h
     ·unfold jE at h;simp only at h;split at h
      ·injection h with h;injection h with h;exact absurd h (by decide)
      ·split at h
       ·injection h with h;injection h with h;exact absurd h (by decide)
       ·cases h
structure SU (n:Nat) (ts:List Tok):Prop where
 len:ts.length≤n
 str:∀t∈ts,t.2.1.length≤n
 at_:∀t∈ts,t.2.2≤n
 num:∀t∈ts,t.1=2→jt t.2.1
theorem DZ:∀(f a:Nat) (l:List UInt8) (ts:List Tok) (n:Nat),a+l.length≤n→im f a l=.ok ts→ts.length≤l.length∧(∀t∈ts,t.2.1.length≤n)∧(∀t∈ts,t.2.2≤n)∧∀t∈ts,t.1=2→jt t.2.1:=by
 intro f;induction f with
 |zero=>
  intro a l ts n _ h;simp only[im]at h;injection h with h
  subst h;exact⟨by simp,fun t h=>(by cases h),fun t h=>(by cases h),fun t h=>(by cases h)⟩
 |succ f ih=>
  intro a l ts n hn h;simp only[im]at h;have hsl:=BT l false;cases hs:skip false l with
  |nil=>
   rw[hs]at h;injection h with h
   subst h;exact⟨by simp,fun t h=>(by cases h),fun t h=>(by cases h),fun t h=>(by cases h)⟩
  |cons c r=>
   rw[hs]at h hsl;simp only at h;cases ht:token (c::r)with
   |none=>rw[ht]at h;cases h
   |some t=>
    obtain⟨k,s,m⟩:=t;rw[ht]at h;simp only at h;obtain⟨t1,t2,t3⟩:=j2 ht;cases hr:im f (a+(l.length-(c::r).length)+m) ((c::r).drop m)with
    |error e=>rw[hr]at h;cases h
    |ok ts'=>
     rw[hr]at h;injection h with h
     subst h;obtain⟨i1,i2,i3,i4⟩:=ih _ _ _ n (by rw[List.length_drop];omega) hr;rw[List.length_drop]at i1;refine⟨by rw[List.length_cons];omega,fun t hm=>?_,fun t hm=>?_,fun t hm=>?_⟩
     ·rcases List.mem_cons.1 hm with rfl|hm
      ·simp only at*;omega
      ·exact i2 t hm
     ·rcases List.mem_cons.1 hm with rfl|hm
      ·simp only at*;omega
      ·exact i3 t hm
     ·rcases List.mem_cons.1 hm with rfl|hm
      ·intro hk;simp only at hk;subst hk;exact An ht
      ·exact i4 t hm
theorem o8(l:List UInt8):SU l.length (told l).1:=by
 unfold told tokens;by_cases h:4096<l.length
 ·rw[if_pos h];exact⟨by simp,fun t h=>(by cases h),fun t h=>(by cases h),fun t h=>(by cases h)⟩
 ·rw[if_neg h];cases hr:im (l.length+1) 0 l with
  |error e=>exact⟨by simp,fun t h=>(by cases h),fun t h=>(by cases h),fun t h=>(by cases h)⟩
  |ok ts=>
   obtain⟨h1,h2,h3,h4⟩:=DZ _ _ _ _ l.length (by omega) hr;exact⟨h1,h2,h3,h4⟩
theorem tK{l:List UInt8}(h:(told l).2.1=0):l.length≤4096:=by
 by_cases hl:4096<l.length
 ·rw[j3 hl]at h;cases h
 ·omega
end Lex
theorem He:(Tryz.prog.info? 5).map (fun i=>(i.zero,i.size,i.bytes))=some (some .b,1,1):=by kernel_rfl
theorem bt:Bt Tryz.prog 101 5:=⟨Tryz.underlying101,He⟩
theorem below_drewN{B:Nat}{a w:World}(h:Below B a w)(n:Nat):Below B a (w.drewN n):=⟨h.os,h.tape,h.output,h.size,h.block⟩
theorem Rb.drewN{w:World}{B:Nat}{A:Option Addr}{n:Nat}{l:List UInt8}(h:Rb w B A n l)(q:Nat):Rb (w.drewN q) B A n l:=h.aR fun _ _=>rfl
theorem lP(l:List UInt8)(k:Nat)(x:UInt8)(h:l[k]?=some x):l.take k++[x]=l.take (k+1):=by
 rw[List.take_add_one,h];rfl
theorem Rb.qK{w w':World}{q:Nat}{A:Option Addr}{n B:Nat}{l:List UInt8}(h:Rb w B A n l)(e:w'=w.drewN q):Rb w' B A n l:=by rw[e];exact h.drewN q
theorem Kn.qK{w w':World}{q:Nat}{g:Nat}{t:TypeId}{cs:Array Value}(h:Kn w g t cs)(e:w'=w.drewN q):Kn w' g t cs:=by rw[e];exact h
theorem Below.qK{B:Nat}{a w w':World}{q:Nat}(h:Below B a w)(e:w'=w.drewN q):Below B a w':=by rw[e];exact below_drewN h q
def Own(w:World)(base:Nat)(e:TypeId)(size:Nat)(v:Value)(n:Nat)(xs:List Value):Prop:=w.ownsRow base e size v n xs
section
variable{w w':World}{base size n:Nat}{e:TypeId}{v:Value}{xs:List Value}
theorem Own.row(h:Own w base e size v n xs):w.ownsRow base e size v n xs:=h
theorem Own.below{C:Nat}(h:Own w base e size v n xs)(hb:Below C w w')(hC:w.heap.size≤C):Own w' base e size v n xs:=mb h (hb.mono hC)
theorem Own.qK{q:Nat}(h:Own w base e size v n xs)(he:w'=w.drewN q):Own w' base e size v n xs:=by rw[he];exact zy h fun _ _=>rfl
end
theorem aH(s:ByteArray):s.data.toList.length=s.size:=by rw[Array.length_toList];rfl
theorem bW{s:ByteArray}{i:Nat}(h:i<s.size):∃c,s.data.toList[i]?=some c∧s[i]=c:=by
 have hl:i<s.data.toList.length:=by rw[aH];exact h
 exact⟨s.data.toList[i],List.getElem?_eq_getElem hl,rfl⟩
theorem jv{b c:Bool}(h:b=c):Ending.returned (.bool b)=.returned (.bool c):=by rw[h]
theorem gU(c:UInt8)(w:World):Calls Tryz.prog 119 #[.int .i32 (c.toNat:Int)] w fun e w'=>e=.returned (.bool (Lex.letter c))∧w=w':=by
 have hc:=c.toNat_lt;by_cases h1:97≤c.toNat
 ·go_enter Tryz.func119,Tryz.ntmps119;go_wp2;all_goals
   go_ret
   refine⟨?_,rfl⟩
   unfold Lex.letter
   exact jv (by rw[Bool.eq_iff_iff];simp;omega)
 ·go_enter Tryz.func119,Tryz.ntmps119;go_wp2;all_goals
   go_ret
   refine⟨?_,rfl⟩
   unfold Lex.letter
   exact jv (by rw[Bool.eq_iff_iff];simp;omega)
theorem ed(c:UInt8)(w:World):Calls Tryz.prog 121 #[.int .i32 (c.toNat:Int)] w fun e w'=>e=.returned (.bool (Lex.digit c))∧w=w':=by
 have hc:=c.toNat_lt;by_cases h1:48≤c.toNat
 ·go_enter Tryz.func121,Tryz.ntmps121;go_wp2;all_goals
   go_ret
   refine⟨?_,rfl⟩
   unfold Lex.digit
   exact jv (by rw[Bool.eq_iff_iff];simp;omega)
 ·go_enter Tryz.func121,Tryz.ntmps121;go_wp2;all_goals
   go_ret
   refine⟨?_,rfl⟩
   unfold Lex.digit
   exact jv (by rw[Bool.eq_iff_iff];simp;omega)
theorem CV(c:UInt8)(w:World):Calls Tryz.prog 117 #[.int .i32 (c.toNat:Int)] w fun e w'=>e=.returned (.bool (Lex.fi c))∧w=w':=by
 go_enter Tryz.func117,Tryz.ntmps117;go_wp2;go_ret;refine⟨?_,rfl⟩;unfold Lex.fi;exact jv (by rw[Bool.eq_iff_iff];simp;omega)
theorem zG(c:UInt8)(w:World):Calls Tryz.prog 115 #[.int .i32 (c.toNat:Int)] w fun e w'=>e=.returned (.bool (Lex.blank c))∧w=w':=by
 have go:∀b:Bool,b=Lex.blank c→Calls Tryz.prog 115 #[.int .i32 (c.toNat:Int)] w fun e w'=>e=.returned (.bool b)∧w=w':=by
  intro b hb;have HB:=aa hb;clear hb;by_cases h1:c.toNat=32
  ·have q1:((c.toNat:Int)==32)=true:=by simp;omega
   have HF:Hid (b=true):=HB.o.trans (by simp[Lex.blank,h1]);clear h1;go_enter Tryz.func115,Tryz.ntmps115;go_wp2;go_ret;exact⟨by rw[HF.o];rfl,rfl⟩
  have q1:((c.toNat:Int)==32)=false:=by simp;omega
  by_cases h2:c.toNat=9
  ·have q2:((c.toNat:Int)==9)=true:=by simp;omega
   have HF:Hid (b=true):=HB.o.trans (by simp[Lex.blank,h2]);clear h1 h2;go_enter Tryz.func115,Tryz.ntmps115;go_wp2;go_ret;exact⟨by rw[HF.o];rfl,rfl⟩
  have q2:((c.toNat:Int)==9)=false:=by simp;omega
  by_cases h3:c.toNat=10
  ·have q3:((c.toNat:Int)==10)=true:=by simp;omega
   have HF:Hid (b=true):=HB.o.trans (by simp[Lex.blank,h3]);clear h1 h2 h3;go_enter Tryz.func115,Tryz.ntmps115;go_wp2;go_ret;exact⟨by rw[HF.o];rfl,rfl⟩
  have q3:((c.toNat:Int)==10)=false:=by simp;omega
  by_cases h4:c.toNat=13
  ·have q4:((c.toNat:Int)==13)=true:=by simp;omega
   have HF:Hid (b=true):=HB.o.trans (by simp[Lex.blank,h4]);clear h1 h2 h3 h4;go_enter Tryz.func115,Tryz.ntmps115;go_wp2;go_ret;exact⟨by rw[HF.o];rfl,rfl⟩
  have q4:((c.toNat:Int)==13)=false:=by simp;omega
  have HF:Hid (b=false):=HB.o.trans (by simp[Lex.blank,h1,h2,h3,h4]);clear h1 h2 h3 h4;go_enter Tryz.func115,Tryz.ntmps115;go_wp2;go_ret;exact⟨by rw[HF.o];rfl,rfl⟩
 exact go _ rfl
theorem kD(c:UInt8)(w:World):Calls Tryz.prog 120 #[.int .i32 (c.toNat:Int)] w fun e w'=>e=.returned (.bool (Lex.aL c))∧w=w':=by
 unfold Lex.aL;obtain⟨b1,h1⟩:=aab (Lex.letter c);obtain⟨b2,h2⟩:=aab (Lex.digit c);rw[←h1,←h2];have H1:=aa h1;have H2:=aa h2;clear h1 h2;cases b1;all_goals
  go_enter Tryz.func120,Tryz.ntmps120
  go_wp2_with (first|(go_at_call 119;with_reducible refine(gU c _).mono ?_;rintro e w' ⟨rfl,rfl⟩;rw[←H1.o])|(go_at_call 121;with_reducible refine(ed c _).mono ?_;rintro e w' ⟨rfl,rfl⟩;rw[←H2.o]))
  go_ret
  exact⟨by simp,rfl⟩
theorem Ee(c:UInt8)(w:World):Calls Tryz.prog 193 #[.int .i32 (c.toNat:Int)] w fun e w'=>e=.returned (.bool (Lex.hex c))∧w=w':=by
 have hc:=c.toNat_lt;unfold Lex.hex;obtain⟨b2,h2⟩:=aab (Lex.digit c);rw[←h2];have H2:=aa h2;clear h2;cases b2
 ·by_cases h1:97≤c.toNat;all_goals
   go_enter Tryz.func193,Tryz.ntmps193
   go_wp2_with (go_at_call 121;with_reducible refine(ed c _).mono ?_;rintro e w' ⟨rfl,rfl⟩;rw[←H2.o])
   all_goals
    go_ret
    exact⟨jv (by first|rfl|(rw[Bool.eq_iff_iff];simp;omega)|(rw[Bool.eq_iff_iff];simp)|(simp;omega)),rfl⟩
 ·go_enter Tryz.func193,Tryz.ntmps193;go_wp2_with (go_at_call 121;with_reducible refine(ed c _).mono ?_;rintro e w' ⟨rfl,rfl⟩;rw[←H2.o])
  go_ret;exact⟨by simp,rfl⟩
theorem fP(text:ByteArray)(at_:Nat)(N:FuncId)(p:UInt8→Bool)(w:World)(hm:text.size≤9223372036854775807)(hN:∀(x:Value) (w:World),(callFunc N #[x]).run Tryz.prog w=.ok (.enter N #[x]) w)(hp:∀(c:UInt8) (w:World),Calls Tryz.prog N #[.int .i32 (c.toNat:Int)] w fun e w'=>e=.returned (.bool (p c))∧w=w')(hat:at_≤text.size):
 Calls Tryz.prog 114 #[.s text,.i (at_:Int),.func (.func N) #[] #[]] w fun e w'=>e=.returned (.i ((at_+Lex.span p (text.data.toList.drop at_):Nat):Int))∧w=w':=by
 have HP:=aa hp;have HL:=aa (aH text);clear hp;go_enter Tryz.func114,Tryz.ntmps114;go_wp2_with fail
 go_loop [12] (fun i=>∃k:Nat,i=.i (k:Nat)∧at_+k≤text.size∧Hid (∀j c,j<k→(text.data.toList.drop at_)[j]?=some c→p c=true)) (fun i=>text.size-(intOf i).toNat);case atStart=>exact⟨0,rfl,by omega,fun j c h=>absurd h (by omega)⟩
 case round=>
  obtain⟨k,rfl,hk,HK⟩:=hrel;by_cases hlt:at_+k<text.size
  ·obtain⟨c,hc,hs⟩:=bW hlt;have Nv:(k:Int)<(text.size:Int)-(at_:Int):=by omega
   have HC:=aa hc;have hcl:=c.toNat_lt;clear hc;go_wp2_with fail
   with_reducible refine(HP.o c _).mono ?_
   rintro e w' ⟨rfl,rfl⟩;cases hpc:p c with
   |true=>
    have HN:Hid (∀j d,j<k+1→(text.data.toList.drop at_)[j]?=some d→p d=true):=by
     intro j d hj hd;rcases Nat.lt_or_ge j k with h|h
     ·exact HK.o j d h hd
     ·obtain rfl:j=k:=by omega
      rw[List.getElem?_drop,HC.o]at hd;injection hd with hd
      rw[←hd];exact hpc
    clear hpc;go_wp2_with fail
    go_round;case rel=>exact⟨k+1,by go_num,by omega,HN.o⟩
    case measure=>simp[intOf];omega
   |false=>
    have HF:Hid (Lex.span p (text.data.toList.drop at_)=k):=by
     refine Lex.rW p _ k HK.o (by rw[List.length_drop,HL.o];omega) ?_;intro d hd;rw[List.getElem?_drop,HC.o]at hd;injection hd with hd
     rw[←hd];exact hpc
    clear hpc;go_wp2_with fail
    go_ret;exact⟨gi (by rw[HF.o];omega),rfl⟩
  ·have HF:Hid (Lex.span p (text.data.toList.drop at_)=k):=by refine Lex.rW p _ k HK.o (by rw[List.length_drop,HL.o];omega) ?_;intro d hd;rw[List.getElem?_drop,List.getElem?_eq_none (by rw[HL.o];omega)]at hd;cases hd
   have Nv:¬(k:Int)<(text.size:Int)-(at_:Int):=by omega
   go_wp2_with fail
   go_ret;exact⟨gi (by rw[HF.o];omega),rfl⟩
theorem zS(x:Value)(w:World):(callFunc 115 #[x]).run Tryz.prog w=.ok (.enter 115 #[x]) w:=by simp[go_sem]
theorem Cd(x:Value)(w:World):(callFunc 117 #[x]).run Tryz.prog w=.ok (.enter 117 #[x]) w:=by simp[go_sem]
theorem ky(x:Value)(w:World):(callFunc 120 #[x]).run Tryz.prog w=.ok (.enter 120 #[x]) w:=by simp[go_sem]
theorem qj(x:Value)(w:World):(callFunc 121 #[x]).run Tryz.prog w=.ok (.enter 121 #[x]) w:=by simp[go_sem]
theorem Gp(x:Value)(w:World):(callFunc 193 #[x]).run Tryz.prog w=.ok (.enter 193 #[x]) w:=by simp[go_sem]
theorem jm(text:ByteArray)(i:Int)(at_:Nat)(c:UInt8)(x:Int)(w:World)(hi:i=(at_:Int))(hx:x=(c.toNat:Int)):
 Calls Tryz.prog 116 #[.s text,.i i,.u x] w fun e w'=>e=.returned (.bool (Lex.aZ text.data.toList at_ c))∧w=w':=by
 subst hi hx;have HL:=aa (aH text);by_cases hlt:at_<text.size
 ·obtain⟨d,hd,hs⟩:=bW hlt;have HF:Hid (Lex.aZ text.data.toList at_ c=((d.toNat:Int)==(c.toNat:Int))):=by show _=_;unfold Lex.aZ;rw[hd,Bool.eq_iff_iff];simp only[Option.some.injEq,decide_eq_true_eq,beq_iff_eq];exact⟨fun h=>by rw[h],fun h=>UInt8.toNat_inj.1 (by omega)⟩
  have VC:(at_:Int)<(text.size:Int):=by omega
  have tt:decide (at_<text.size)=true:=by simpa using hlt
  clear hd;go_enter Tryz.func116,Tryz.ntmps116;go_wp2;go_ret;exact⟨by rw[HF.o];rfl,rfl⟩
 ·have HF:Hid (Lex.aZ text.data.toList at_ c=false):=by show _=_;unfold Lex.aZ;rw[List.getElem?_eq_none (by rw[HL.o];omega)];simp
  have tt:decide (at_<text.size)=false:=by simpa using hlt
  go_enter Tryz.func116,Tryz.ntmps116;go_wp2;go_ret;exact⟨by rw[HF.o];rfl,rfl⟩
theorem b45:(45:Int)=((((45:UInt8)).toNat:Nat):Int):=rfl
theorem Yv:(39:Int)=((((39:UInt8)).toNat:Nat):Int):=rfl
theorem b46:(46:Int)=((((46:UInt8)).toNat:Nat):Int):=rfl
theorem b62:(62:Int)=((((62:UInt8)).toNat:Nat):Int):=rfl
theorem b61:(61:Int)=((((61:UInt8)).toNat:Nat):Int):=rfl
theorem drop_at{l:List UInt8}{i:Nat}{c:UInt8}(h:l[i]?=some c):l.drop i=c::l.drop (i+1):=by
 obtain⟨hlt,hk⟩:=List.getElem?_eq_some_iff.1 h;rw[List.drop_eq_getElem_cons hlt,hk]
theorem C2(text:ByteArray)(at_:Nat)(w:World)(hm:text.size+4≤9223372036854775807)(hat:at_≤text.size):
 Calls Tryz.prog 49 #[.s text,.i (at_:Int)] w fun e w'=>e=.returned (.i ((Lex.bZ text.data.toList at_:Nat):Int))∧w=w':=by
 have HL:=aa (aH text);go_enter Tryz.func49,Tryz.ntmps49;go_wp2_with fail
 go_loopg [1] (text.size-at_) (fun g a wr=>∃k:Nat,g=text.size-k∧wr=w∧a=.i (k:Nat)∧k≤text.size∧Hid (Lex.skip false (text.data.toList.drop at_)=Lex.skip false (text.data.toList.drop k)));case atStart=>exact⟨at_,rfl,rfl,rfl,hat,rfl⟩
 case round=>
  obtain⟨k,rfl,rfl,rfl,hk,HS⟩:=hrel;go_wp2_with fail
  with_reducible refine(fP text k 115 Lex.blank _ (by omega) zS zG hk).mono ?_
  rintro e w' ⟨rfl,rfl⟩;have hsp:=Lex.dj Lex.blank (text.data.toList.drop k);rw[List.length_drop,HL.o]at hsp;obtain⟨k1,hk1⟩:=aab (k+Lex.span Lex.blank (text.data.toList.drop k));have Og:Hid (Lex.skip false (text.data.toList.drop at_)=Lex.skip false (text.data.toList.drop k1)):=by rw[HS.o,Lex.wq,List.drop_drop,←hk1];rfl
  have VD:Hid (∀c,(text.data.toList.drop k1)[0]?=some c→Lex.blank c=false):=by intro c hc;apply Lex.yf Lex.blank (text.data.toList.drop k) c;rw[List.getElem?_drop,←hk1];simpa using hc
  have Tu:k1≤text.size:=by omega
  have hkk:k≤k1:=by omega
  rw[←hk1];clear hsp hk1 HS;obtain⟨b1,hb1⟩:=aab (Lex.aZ text.data.toList k1 45);obtain⟨b2,hb2⟩:=aab (Lex.aZ text.data.toList (k1+1) 45);have H1:=aa hb1;have H2:=aa hb2;clear hb1 hb2;go_wp2_with fail
  with_reducible refine(jm text _ k1 45 _ _ rfl b45).mono ?_
  rintro e w' ⟨rfl,rfl⟩;rw[←H1.o];cases b1 with
  |false=>
   have HF:Hid (Lex.bZ text.data.toList at_=k1):=by refine Lex.gI ?_ (by rw[HL.o];exact Tu);rw[Og.o];exact Lex.j0 VD.o (Or.inl (by rw[Lex.bX];exact H1.o.symm))
   go_wp2_with fail
   go_ret;exact⟨gi (by rw[HF.o]),rfl⟩
  |true=>
   go_wp2_with fail
   with_reducible refine(jm text _ (k1+1) 45 _ _ (by omega) b45).mono ?_
   rintro e w' ⟨rfl,rfl⟩;rw[←H2.o];cases b2 with
   |false=>
    have HF:Hid (Lex.bZ text.data.toList at_=k1):=by refine Lex.gI ?_ (by rw[HL.o];exact Tu);rw[Og.o];exact Lex.j0 VD.o (Or.inr (by rw[Lex.bX];exact H2.o.symm))
    go_wp2_with fail
    go_ret;exact⟨gi (by rw[HF.o]),rfl⟩
   |true=>
    go_wp2_with fail
    with_reducible refine(fP text k1 117 Lex.fi _ (by omega) Cd CV Tu).mono ?_
    rintro e w' ⟨rfl,rfl⟩;have hsp:=Lex.dj Lex.fi (text.data.toList.drop k1);rw[List.length_drop,HL.o]at hsp;have hpos:0<Lex.span Lex.fi (text.data.toList.drop k1):=by have h45:=H1.o.symm;unfold Lex.aZ at h45;rw[decide_eq_true_eq]at h45;rw[drop_at h45];simp only[Lex.span];rw[if_pos (by decide)];omega
    obtain⟨k2,hk2⟩:=aab (k1+Lex.span Lex.fi (text.data.toList.drop k1));have HS2:Hid (Lex.skip false (text.data.toList.drop at_)=Lex.skip false (text.data.toList.drop k2)):=by rw[Og.o,Lex.zT (by rw[Lex.bX];exact H1.o.symm) (by rw[Lex.bX];exact H2.o.symm),List.drop_drop,←hk2];rfl
    have Yw:k2≤text.size:=by omega
    have hkk2:k1<k2:=by omega
    have HG:Hid (k1<text.size):=by show _<_;omega
    rw[←hk2];clear hsp hk2 hpos;go_wp2_with fail
    go_roundg (text.size-k2);case measure=>have:=HG.o;omega
    case rel=>exact⟨k2,rfl,rfl,rfl,Yw,HS2.o⟩
theorem pT(c:UInt8)(w:World)(hc:Lex.hex c=true):Calls Tryz.prog 194 #[.u (c.toNat:Int)] w fun e w'=>e=.returned (.u ((Lex.df c:Nat):Int))∧w=w':=by
 have hl:=c.toNat_lt;unfold Lex.df;unfold Lex.hex at hc;cases hd:Lex.digit c with
 |true=>
  have H2:=aa hd;unfold Lex.digit at hd;rw[decide_eq_true_eq]at hd;rw[if_pos rfl];obtain⟨hd1,hd2⟩:=hd;clear hc;go_enter Tryz.func194,Tryz.ntmps194;go_wp2_with (go_at_call 121;with_reducible refine(ed c _).mono ?_;rintro e w' ⟨rfl,rfl⟩;rw[H2.o])
  go_ret;exact⟨gi (by omega),rfl⟩
 |false=>
  have H2:=aa hd;rw[hd,Bool.false_or,decide_eq_true_eq]at hc;rw[if_neg (by simp)];obtain⟨hd1,hd2⟩:=hc;clear hd;go_enter Tryz.func194,Tryz.ntmps194;go_wp2_with (go_at_call 121;with_reducible refine(ed c _).mono ?_;rintro e w' ⟨rfl,rfl⟩;rw[H2.o])
  go_ret;exact⟨gi (by omega),rfl⟩
end Go.Proofs.YtnicfobpclehkaaGreatDoor
