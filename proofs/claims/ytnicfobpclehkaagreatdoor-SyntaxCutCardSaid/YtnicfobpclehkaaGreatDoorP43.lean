import Derived.SizedLaws
import Derived.Deep.Strs
import Derived.Lib.SmallJoins
import Derived.Deep.Slices
import Derived.Deep.Fields
import Derived.ChangeSame
import Derived.Test.YtnicfobpclehkaaGreatDoorRows
import Derived.MakeChecks
import Derived.LaidLaws
import Derived.Lib.LaidTab
import Derived.OpenShut
import Derived.LaidMore
import Derived.Lay
import Derived.Stop.Joined
import Derived.Lib.Replace
import Derived.Test.YtnicfobpclehkaaGreatDoorP42
set_option maxHeartbeats 200000
set_option linter.unusedVariables false
set_option linter.unusedSimpArgs false
namespace Go.Proofs.YtnicfobpclehkaaGreatDoor
open Go.RowKit
section
set_option maxRecDepth 100000
open Go.ChangeShapes Go.WideShapes Go.ChangeAt Go.RowKit Go.Joins Go.Deep
section
variable{H:Type}{enc:TypeId×Value→H}{W:World}{held:Bool}
theorem qf{P:Program}{e:TypeId}{n:Nat}:∀{ds:List (DataW H)} {d:DataW H},d∈ds→n∈d.weights P e→n∈DataW.weightsAll P e ds:=by
 intro ds;induction ds with
 |nil=>intro d hd;cases hd
 |cons d0 ds ih=>
  intro d hd hn;simp only[DataW.weightsAll,aM];rcases af.1 hd with rfl|hd
  ·exact .inl hn
  ·exact .inr (ih hd hn)
def Tr(enc:TypeId×Value→H)(W:World)(held:Bool)(n:Nat)(t:TypeId)(cs:List Value):Prop:=∃y:DataW H×List MemPlace,DataW.trod enc Tryz.prog W 0 (fun _=>true) held n t cs=some y∧∀q∈y.1.weights Tryz.prog t,q≤reachBytes
theorem Tr.UR{t:TypeId}{fs:Array Field}{m:Nat}{cs:List Value}(ht:Tryz.prog.underlying t=some (.struct fs))(h:Tr enc W held m t cs):∃n,m=n+1∧cs.length=Tryz.prog.cellsOf t∧∀(i:Nat) (hi:i<fs.size),Tr enc W held n fs[i].type ((cs.drop fs[i].offset).take (Tryz.prog.cellsOf fs[i].type)):=by
 obtain⟨y,h,hz⟩:=h;obtain⟨xs,n,hn,rfl,hl,hlen,hf⟩:=DataW.trod_struct ht h;refine⟨n,hn,hl,fun i hi=>?_⟩;have hi':fs[i]?=some fs[i]:=Array.getElem?_eq_getElem hi;have h1:=hf i fs[i] hi';have hil:i<xs.length:=by rw[hlen];exact hi
 rw[aE hil]at h1;refine⟨_,h1,fun q hq=>hz q ?_⟩;show q∈(DataW.agg (xs.map (·.1))).weights Tryz.prog t;simp only[DataW.weights,ht];exact DataW.weights_mem_each (j:=i) (t:=fs[i].type) (d:=xs[i].1) (by rw[bf,Array.getElem?_toList,hi'];rfl) (by rw[bf,aE hil];rfl) q hq
theorem MJ(b:ByteArray):I.bs b.data.toList=b:=by unfold I.bs;rfl
theorem Tr.str{t:TypeId}{n:Nat}{v:Value}(ht:Tryz.prog.underlying t=some .string)(h:Tr enc W held n t [v]):∃s:I.Bs,v=.string (I.bs s)∧Sz s∧s.length≤140737488355328:=by
 obtain⟨y,h,hz⟩:=h;obtain⟨s,h1,rfl,h3⟩:=DataW.trod_string ht h;injection h1 with h1
 have hr:reachBytes=140737488351232:=rfl;have hw:=hz s.data.toList.length (by simp[DataW.weights]);refine⟨s.data.toList,by rw[h1,MJ],?_,by omega⟩;unfold Sz maxLen;omega
theorem Tr.byte{t:TypeId}{n:Nat}{v:Value}(ht:Tryz.prog.underlying t=some (.int .u8))(h:Tr enc W held n t [v]):∃c:UInt8,v=.int .u8 (c.toNat:Int):=by
 obtain⟨y,h,_⟩:=h;obtain⟨a,h1,_,hw⟩:=DataW.trod_int ht h;injection h1 with h1
 have hb:=bounds_u8 hw;refine⟨UInt8.ofNat a.toNat,?_⟩;rw[h1];congr 1;rw[UInt8.toNat_ofNat_of_lt' (by show a.toNat<256;omega)];omega
theorem Tr.long{t:TypeId}{n:Nat}{v:Value}(ht:Tryz.prog.underlying t=some (.int .i64))(h:Tr enc W held n t [v]):∃a:Int,v=.int .i64 a∧ -9223372036854775808≤a∧a≤9223372036854775807:=by
 obtain⟨y,h,_⟩:=h;obtain⟨a,h1,_,hw⟩:=DataW.trod_int ht h;injection h1 with h1
 have hb:=bounds_i64 hw;exact⟨a,h1,by omega,by omega⟩
theorem Tr.bool{t:TypeId}{n:Nat}{v:Value}(ht:Tryz.prog.underlying t=some .bool)(h:Tr enc W held n t [v]):∃b:Bool,v=.bool b:=by
 obtain⟨y,h,_⟩:=h;obtain⟨b,h1,_⟩:=DataW.trod_bool ht h;injection h1 with h1
 exact⟨b,h1⟩
theorem Tr.row{T e:TypeId}{n:Nat}{c:Value}{k Zr:Nat}(hT:Tryz.prog.underlying T=some (.slice e))(hC:Tryz.prog.cellsOf e=k)(hB:Tryz.prog.bytesOf e=Zr)(h:Tr enc W held n T [c]):
 ∃A m cp,c=.slice A m cp∧m≤cp∧cp≤9223372036854775807∧m*Zr≤140737488355328∧(0<m→∃a n',A=some a∧n=n'+1∧∀i,i<m→∃cs,W.cells? 0 (a.add (i*k)) k=some cs∧Tr enc W held n' e cs):=by
 obtain⟨y,h,hz⟩:=h;rcases DataW.trod_slice hT h with⟨hcs,hx⟩|⟨a,len,cap,elems,rest,n',hn,hcs,hx,_,hl,hm,hlen,hel,hsp,_⟩
 ·injection hcs with hcs
  exact⟨none,0,0,hcs,aa _,by omega,by omega,fun h=>absurd h (by omega)⟩
 ·injection hcs with hcs
  have hr:reachBytes=140737488351232:=rfl;rw[hx]at hz;have hcap:=hz _ (by simp only[DataW.weights,hT];exact ag);simp only[cj]at hcap;rw[hB,hr,(hsp rfl).1,hlen,show len+(cap-len)=cap by omega]at hcap;have hlb:len*Zr≤cap*Zr:=Nat.mul_le_mul_right _ hl;refine⟨some a,len,cap,hcs,hl,by have:maxLen=9223372036854775807:=rfl;omega,by omega,fun _=>⟨a,n',rfl,hn,fun i hi=>?_⟩⟩;have he:=hel i hi;rw[hC]at he;have hee:elems[i]?=some (elems[i]'(by omega)):=aE (by omega);rw[hee,Option.bind_eq_some_iff]at he;obtain⟨cs,hc,ht⟩:=he;refine⟨cs,hc,_,ht,fun q hq=>hz q ?_⟩;simp only[DataW.weights,hT,af,aM];exact .inr (.inl (qf (List.mem_map.2 ⟨_,List.getElem_mem (by omega),rfl⟩) hq))
def Op{α:Type}(enc:TypeId×Value→H)(W:World)(held:Bool)(E:El α)(p:α→Prop):Prop:=∀(n:Nat) (cs:List Value),Tr enc W held n E.t cs→∃x,E.R W (fun b=>b<W.heap.size) cs x∧p x
theorem k8{α:Type}{E:El α}{p:α→Prop}(h:Op enc W held E p){T:TypeId}{n:Nat}{c:Value}(hT:Tryz.prog.underlying T=some (.slice E.t))(hC:Tryz.prog.cellsOf E.t=E.k)(hB:Tryz.prog.bytesOf E.t=E.by')(ht:Tr enc W held n T [c]):
 ∃xs,Rr E W (fun b=>b<W.heap.size) c xs∧xs.length*E.by'≤140737488355328∧∀x∈xs,p x:=by
 obtain⟨A,m,cp,rfl,h1,h2,h3,h4⟩:=ht.row hT hC hB;have hspot:0<m→∃b off,A=some ⟨b,off,none⟩∧b<W.heap.size:=fun h0=>by
  obtain⟨a,n',rfl,_,hel⟩:=h4 h0
  obtain⟨cs,hc,htr⟩:=hel 0 h0
  obtain⟨x,hr,_⟩:=h n' cs htr
  obtain⟨_,hcl,hat⟩:=World.cells?_some hc
  have hlen:=E.len hr
  have hpos:=E.pos
  have hc0:=hat 0 (by omega)
  rw[aE (by omega),add_add,ct,aW]at hc0
  obtain⟨b,off,spot⟩:=a
  have hs:spot=none:=by simpa[Addr.add]using World.cell?_spot hc0
  subst hs
  exact⟨b,off,rfl,World.block_lt_of_cell? W _ hc0⟩
 have key:∀j,j≤m→∃xs:List α,xs.length=j∧(∀x∈xs,p x)∧∀i x,xs[i]?=some x→∃g off cs,A=some ⟨g,off,none⟩∧g<W.heap.size∧E.R W (fun b=>b<W.heap.size) cs x∧∀(t:Nat) (u:Value),cs[t]?=some u→W.cell? ⟨g,off+i*E.k+t,none⟩=some u:=by
  intro j;induction j with
  |zero=>intro _;exact⟨[],rfl,by simp,by simp⟩
  |succ j ih=>
   intro hj;obtain⟨xs,hl,hp,hx⟩:=ih (by omega);obtain⟨a,n',rfl,_,hel⟩:=h4 (by omega);obtain⟨cs,hc,htr⟩:=hel j (by omega);obtain⟨x,hr,hpx⟩:=h n' cs htr;obtain⟨_,hcl,hat⟩:=World.cells?_some hc;have hlen:=E.len hr;obtain⟨b,off,e,hblk⟩:=hspot (by omega);injection e with e
   subst e;refine⟨xs++[x],by simp[hl],fun y hy=>?_,fun i y hi=>?_⟩
   ·rcases aM.1 hy with hy|hy
    ·exact hp y hy
    ·simp only[af,aj,aH]at hy;rw[hy];exact hpx
   ·by_cases hlt:i<xs.length
    ·rw[ba hlt]at hi;exact hx i y hi
    ·rw[bg (by omega)]at hi;have hi0:i=j:=by have:=(ay.1 hi).1;simp at this;omega
     subst hi0;rw[hl,Nat.sub_self]at hi;injection hi with hi
     subst hi;refine⟨b,off,cs,rfl,hblk,hr,fun t u hu=>?_⟩;have ht:t<E.k:=by rw[←hlen];exact(ay.1 hu).1
     have:=hat t ht;rw[addr_add,addr_add]at this;rw[this];exact hu
 obtain⟨xs,hl,hp,hx⟩:=key m (aa _);subst hl;refine⟨xs,⟨A,cp,rfl,h1,h2,fun h0=>?_⟩,h3,hp⟩;obtain⟨g,off,_,e,hg,_⟩:=hx 0 _ (aE h0);refine⟨g,off,e,hg,fun i x hi=>?_⟩;obtain⟨g',off',cs,e',_,hr,hc⟩:=hx i x hi;rw[e]at e';injection e' with e'
 injection e' with e1 e2
 subst e1 e2;exact⟨cs,hr,hc⟩
theorem EP{α:Type}{l:List α}(h:l.length=3):∃c0 c1 c2,l=[c0,c1,c2]:=by
 match l,h with
 |[c0,c1,c2],_=>exact⟨_,_,_,rfl⟩
theorem Li{α:Type}{l:List α}(h:l.length=7):∃c0 c1 c2 c3 c4 c5 c6,l=[c0,c1,c2,c3,c4,c5,c6]:=by
 match l,h with
 |[c0,c1,c2,c3,c4,c5,c6],_=>exact⟨_,_,_,_,_,_,_,rfl⟩
theorem FG{α:Type}{l:List α}(h:l.length=8):∃c0 c1 c2 c3 c4 c5 c6 c7,l=[c0,c1,c2,c3,c4,c5,c6,c7]:=by
 match l,h with
 |[c0,c1,c2,c3,c4,c5,c6,c7],_=>exact⟨_,_,_,_,_,_,_,_,rfl⟩
theorem yK{α:Type}{l:List α}(h:l.length=9):∃c0 c1 c2 c3 c4 c5 c6 c7 c8,l=[c0,c1,c2,c3,c4,c5,c6,c7,c8]:=by
 match l,h with
 |[c0,c1,c2,c3,c4,c5,c6,c7,c8],_=>exact⟨_,_,_,_,_,_,_,_,_,rfl⟩
theorem JQ{α:Type}{l:List α}(h:l.length=13):∃c0 c1 c2 c3 c4 c5 c6 c7 c8 c9 c10 c11 c12,l=[c0,c1,c2,c3,c4,c5,c6,c7,c8,c9,c10,c11,c12]:=by
 match l,h with
 |[c0,c1,c2,c3,c4,c5,c6,c7,c8,c9,c10,c11,c12],_=>exact⟨_,_,_,_,_,_,_,_,_,_,_,_,_,rfl⟩
theorem Tr.val{n:Nat}{cs:List Value}(h:Tr enc W held n 48 cs):∃v:Cell.Val,cs=[.int .u8 (v.k.toNat:Int),.int .i64 v.n,.string v.s]∧vOk v:=by
 obtain⟨n',hn,hcl,hf⟩:=h.UR Tryz.underlying48;have hC:Tryz.prog.cellsOf 48=3:=by kernel_rfl
 rw[hC]at hcl;obtain⟨c0,c1,c2,rfl⟩:=EP hcl;have h0:=hf 0 (az rfl);have h1:=hf 1 (az rfl);have h2:=hf 2 (az rfl);have e0:Tryz.prog.cellsOf 37=1:=by kernel_rfl
 have e1:Tryz.prog.cellsOf 2=1:=by kernel_rfl
 have e2:Tryz.prog.cellsOf 9=1:=by kernel_rfl
 simp only[br,List.getElem_cons_zero,List.getElem_cons_succ,e0,e1,e2,List.drop_zero,List.take_succ_cons,List.take_zero,List.drop_succ_cons]at h0 h1 h2;obtain⟨k,rfl⟩:=h0.byte Tryz.underlying37;obtain⟨a,rfl,a1,a2⟩:=h1.long Tryz.underlying2;obtain⟨s,rfl,z,_⟩:=h2.str Tryz.underlying9;exact⟨⟨k,a,I.bs s⟩,rfl,by rw[lN];exact z,a1,a2⟩
theorem Tr.node{n:Nat}{cs:List Value}(h:Tr enc W held n 50 cs):∃(X:Ev.Hd) (c:Value) (m:Nat),n=m+1∧cs=[.int .u8 (X.o.toNat:Int),.int .u8 (X.v.k.toNat:Int),.int .i64 X.v.n,.string X.v.s,.string X.nm,.string X.of,.int .i64 X.n,c]∧qd X∧X.nm.size≤140737488355328∧X.of.size≤140737488355328∧Tr enc W held m 27 [c]:=by
 obtain⟨n',hn,hcl,hf⟩:=h.UR Tryz.underlying50;have hC:Tryz.prog.cellsOf 50=8:=by kernel_rfl
 rw[hC]at hcl;obtain⟨c0,c1,c2,c3,c4,c5,c6,c7,rfl⟩:=FG hcl;have h0:=hf 0 (az rfl);have h1:=hf 1 (az rfl);have h2:=hf 2 (az rfl);have h3:=hf 3 (az rfl);have h4:=hf 4 (az rfl);have h5:=hf 5 (az rfl);have e0:Tryz.prog.cellsOf 46=1:=by kernel_rfl
 have e1:Tryz.prog.cellsOf 48=3:=by kernel_rfl
 have e2:Tryz.prog.cellsOf 9=1:=by kernel_rfl
 have e3:Tryz.prog.cellsOf 3=1:=by kernel_rfl
 have e4:Tryz.prog.cellsOf 27=1:=by kernel_rfl
 simp only[br,List.getElem_cons_zero,List.getElem_cons_succ,e0,e1,e2,e3,e4,List.drop_zero,List.take_succ_cons,List.take_zero,List.drop_succ_cons]at h0 h1 h2 h3 h4 h5;obtain⟨o,rfl⟩:=h0.byte Tryz.underlying46;obtain⟨v,hv,ok⟩:=h1.val;simp only[List.cons.injEq,and_true]at hv;obtain⟨rfl,rfl,rfl⟩:=hv;obtain⟨nm,rfl,z1,b1⟩:=h2.str Tryz.underlying9;obtain⟨of,rfl,z2,b2⟩:=h3.str Tryz.underlying9;obtain⟨N,rfl,N1,N2⟩:=h4.long Tryz.underlying3;exact⟨⟨o,v,I.bs nm,I.bs of,N⟩,c7,n',hn,rfl,⟨ok,by rw[lN];exact z1,by rw[lN];exact z2,N1,N2⟩,by rw[lN];exact b1,by rw[lN];exact b2,h5⟩
theorem Tr.kids:∀(n:Nat) {c:Value},Tr enc W held n 27 [c]→∃A m cp ks,c=.slice A m cp∧O5 W (fun b=>b<W.heap.size) n A m ks∧m≤cp∧cp≤9223372036854775807∧∀k∈ks,OJ k:=by
 intro n;induction n using Nat.strongRecOn with
 |ind n ih=>
  intro c h;obtain⟨A,m,cp,rfl,h1,h2,h3,h4⟩:=h.row Tryz.underlying27 (k:=8) (Zr:=104) (by kernel_rfl) (by kernel_rfl);rcases cu m with h0|h0
  ·subst h0;exact⟨A,0,cp,[],rfl,O5.nil _ _ _ _,h1,h2,by simp⟩
  ·obtain⟨a,n',rfl,rfl,hel⟩:=h4 h0;have key:∀j,j≤m→∃xs:List Ev.Ex,xs.length=j∧(∀x∈xs,OJ x)∧∀i X ks,xs[i]?=some (.mk X ks)→∃A' c',(∀t u,(cT X A' ks.length c')[t]?=some u→W.cell? (a.add (i*8+t))=some u)∧ks.length≤c'∧c'≤9223372036854775807∧qd X∧O5 W (fun b=>b<W.heap.size) n' A' ks.length ks:=by
    intro j;induction j with
    |zero=>intro _;exact⟨[],rfl,by simp,by simp⟩
    |succ j ihj=>
     intro hj;obtain⟨xs,hl,hp,hx⟩:=ihj (by omega);obtain⟨cs,hc,htr⟩:=hel j (by omega);obtain⟨X,c2,m2,e2,rfl,hok,hnm,hof,h5⟩:=htr.node;obtain⟨A',l',cp',ks,rfl,hk,q1,q2,hsm⟩:=ih m2 (by omega) h5;have hlk:=hk.len.1;subst hlk;obtain⟨_,hcl,hat⟩:=World.cells?_some hc;refine⟨xs++[.mk X ks],by simp[hl],fun y hy=>?_,fun i Y Rt hi=>?_⟩
     ·rcases aM.1 hy with hy|hy
      ·exact hp y hy
      ·simp only[af,aj,aH]at hy;rw[hy];exact .mk hnm hof hsm
     ·by_cases hlt:i<xs.length
      ·rw[ba hlt]at hi;exact hx i Y Rt hi
      ·rw[bg (by omega)]at hi;have hi0:i=j:=by have:=(ay.1 hi).1;simp at this;omega
       subst hi0;rw[hl,Nat.sub_self]at hi;injection hi with hi
       injection hi with i1 i2
       subst i1 i2;refine⟨A',cp',fun t u hu=>?_,q1,q2,hok,hk.up (by omega)⟩;have ht:t<8:=(ay.1 hu).1;have:=hat t ht;have e3:(a.add (i*8)).add t=a.add (i*8+t):=add_add a _ _;rw[e3]at this;rw[this];exact hu
   obtain⟨xs,hl,hp,hx⟩:=key m (aa _);subst hl;refine⟨some a,xs.length,cp,xs,rfl,⟨rfl,h3,fun _=>?_⟩,h1,h2,hp⟩;obtain⟨A0,c0,hcell0,_⟩:=hx 0 (xs[0]'h0).hd (xs[0]'h0).ks (by rw[aE h0];cases xs[0]'h0;rfl);have hc0:=hcell0 0 _ rfl;obtain⟨b,off,spot⟩:=a;have hspot:spot=none:=by simpa[Addr.add]using World.cell?_spot hc0
   subst hspot;refine⟨b,off,rfl,World.block_lt_of_cell? W _ hc0,fun i X ks hi=>?_⟩;obtain⟨A',c',hcell,q1,q2,q3,q4⟩:=hx i X ks hi;have hc':=fun j v hv=>(addr_add b off (i*8+j))▸hcell j v hv
   exact⟨A',c',hc' 0 _ rfl,hc' 1 _ rfl,hc' 2 _ rfl,hc' 3 _ rfl,hc' 4 _ rfl,hc' 5 _ rfl,hc' 6 _ rfl,hc' 7 _ rfl,q1,q2,q3,q4⟩
theorem Jh:Op enc W held NI OJ:=by
 intro n cs h;obtain⟨X,c,m,rfl,rfl,hok,hnm,hof,h5⟩:=h.node;obtain⟨A,l,cp,ks,rfl,hk,q1,q2,hsm⟩:=Tr.kids m h5;exact⟨.mk X ks,⟨X,A,l,cp,ks,m,rfl,rfl,q1,q2,hok,hk⟩,.mk hnm hof hsm⟩
theorem mK{n:Nat}{c:Value}(h:Tr enc W held n 27 [c]):∃xs,Rr NI W (fun b=>b<W.heap.size) c xs∧Lx xs∧∀x∈xs,OJ x:=k8 Jh Tryz.underlying27 (by kernel_rfl) (by kernel_rfl) h
theorem KU:Op enc W held fL (fun i=>OJ i.x∧i.nm.length≤140737488355328):=by
 intro n cs h;obtain⟨n',hn,hcl,hf⟩:=h.UR Tryz.underlying130;have hC:Tryz.prog.cellsOf 130=9:=by kernel_rfl
 rw[hC]at hcl;obtain⟨c0,c1,c2,c3,c4,c5,c6,c7,c8,rfl⟩:=yK hcl;have h0:=hf 0 (az rfl);have h1:=hf 1 (az rfl);have e0:Tryz.prog.cellsOf 50=8:=by kernel_rfl
 have e1:Tryz.prog.cellsOf 9=1:=by kernel_rfl
 simp only[br,List.getElem_cons_zero,List.getElem_cons_succ,e0,e1,List.drop_zero,List.take_succ_cons,List.take_zero,List.drop_succ_cons]at h0 h1;obtain⟨x,hx,sx⟩:=Jh _ _ h0;obtain⟨s,rfl,z,b⟩:=h1.str Tryz.underlying9;exact⟨⟨x,s⟩,⟨_,rfl,hx,z⟩,sx,b⟩
theorem LQ:Op enc W held fY (fun i=>OJ i.x):=by
 intro n cs h;obtain⟨n',hn,hcl,hf⟩:=h.UR Tryz.underlying134;have hC:Tryz.prog.cellsOf 134=9:=by kernel_rfl
 rw[hC]at hcl;obtain⟨c0,c1,c2,c3,c4,c5,c6,c7,c8,rfl⟩:=yK hcl;have h0:=hf 0 (az rfl);have h1:=hf 1 (az rfl);have e0:Tryz.prog.cellsOf 50=8:=by kernel_rfl
 have e1:Tryz.prog.cellsOf 4=1:=by kernel_rfl
 simp only[br,List.getElem_cons_zero,List.getElem_cons_succ,e0,e1,List.drop_zero,List.take_succ_cons,List.take_zero,List.drop_succ_cons]at h0 h1;obtain⟨x,hx,sx⟩:=Jh _ _ h0;obtain⟨s,rfl⟩:=h1.bool Tryz.underlying4;exact⟨⟨x,s⟩,⟨_,rfl,hx⟩,sx⟩
theorem JZ:Op enc W held fG (fun i=>OJ i.x∧i.nm.length≤140737488355328):=by
 intro n cs h;obtain⟨n',hn,hcl,hf⟩:=h.UR Tryz.underlying85;have hC:Tryz.prog.cellsOf 85=9:=by kernel_rfl
 rw[hC]at hcl;obtain⟨c0,c1,c2,c3,c4,c5,c6,c7,c8,rfl⟩:=yK hcl;have h0:=hf 0 (az rfl);have h1:=hf 1 (az rfl);have e0:Tryz.prog.cellsOf 9=1:=by kernel_rfl
 have e1:Tryz.prog.cellsOf 50=8:=by kernel_rfl
 simp only[br,List.getElem_cons_zero,List.getElem_cons_succ,e0,e1,List.drop_zero,List.take_succ_cons,List.take_zero,List.drop_succ_cons]at h0 h1;obtain⟨x,hx,sx⟩:=Jh _ _ h1;obtain⟨s,rfl,z,b⟩:=h0.str Tryz.underlying9;exact⟨⟨s,x⟩,⟨_,rfl,hx,z⟩,sx,b⟩
theorem Mf:Op enc W held ft (fun s=>((∀y∈s.on,OJ y)∧s.nm.length≤140737488355328∧s.al.length≤140737488355328)∧Lx s.on):=by
 intro n cs h;obtain⟨n',hn,hcl,hf⟩:=h.UR Tryz.underlying132;have hC:Tryz.prog.cellsOf 132=3:=by kernel_rfl
 rw[hC]at hcl;obtain⟨c0,c1,c2,rfl⟩:=EP hcl;have h0:=hf 0 (az rfl);have h1:=hf 1 (az rfl);have h2:=hf 2 (az rfl);have e0:Tryz.prog.cellsOf 9=1:=by kernel_rfl
 have e1:Tryz.prog.cellsOf 27=1:=by kernel_rfl
 simp only[br,List.getElem_cons_zero,List.getElem_cons_succ,e0,e1,List.drop_zero,List.take_succ_cons,List.take_zero,List.drop_succ_cons]at h0 h1 h2;obtain⟨nm,rfl,z1,b1⟩:=h0.str Tryz.underlying9;obtain⟨al,rfl,z2,b2⟩:=h1.str Tryz.underlying9;obtain⟨on,ho,l,so⟩:=mK h2;exact⟨⟨nm,al,on⟩,⟨_,rfl,ho,z1,z2⟩,⟨so,b1,b2⟩,l⟩
theorem LN:Op enc W held eM (fun x=>((∀y∈x.ck,OJ y)∧x.nm.length≤140737488355328∧x.rf.length≤140737488355328)∧Lx x.ck):=by
 intro n cs h;obtain⟨n',hn,hcl,hf⟩:=h.UR Tryz.underlying40;have hC:Tryz.prog.cellsOf 40=8:=by kernel_rfl
 rw[hC]at hcl;obtain⟨c0,c1,c2,c3,c4,c5,c6,c7,rfl⟩:=FG hcl;have h0:=hf 0 (az rfl);have h1:=hf 1 (az rfl);have h2:=hf 2 (az rfl);have h3:=hf 3 (az rfl);have h4:=hf 4 (az rfl);have h5:=hf 5 (az rfl);have h6:=hf 6 (az rfl);have h7:=hf 7 (az rfl);have e0:Tryz.prog.cellsOf 9=1:=by kernel_rfl
 have e1:Tryz.prog.cellsOf 37=1:=by kernel_rfl
 have e2:Tryz.prog.cellsOf 4=1:=by kernel_rfl
 have e3:Tryz.prog.cellsOf 27=1:=by kernel_rfl
 have e4:Tryz.prog.cellsOf 38=1:=by kernel_rfl
 simp only[br,List.getElem_cons_zero,List.getElem_cons_succ,e0,e1,e2,e3,e4,List.drop_zero,List.take_succ_cons,List.take_zero,List.drop_succ_cons]at h0 h1 h2 h3 h4 h5 h6 h7;obtain⟨nm,rfl,z1,b1⟩:=h0.str Tryz.underlying9;obtain⟨k,rfl⟩:=h1.byte Tryz.underlying37;obtain⟨p,rfl⟩:=h2.bool Tryz.underlying4;obtain⟨nn,rfl⟩:=h3.bool Tryz.underlying4;obtain⟨u,rfl⟩:=h4.bool Tryz.underlying4;obtain⟨ck,ho,l,so⟩:=mK h5;obtain⟨rf,rfl,z2,b2⟩:=h6.str Tryz.underlying9;obtain⟨ac,rfl⟩:=h7.byte Tryz.underlying38;exact⟨⟨nm,k,p,nn,u,ck,rf,ac⟩,⟨_,rfl,ho,z1,z2⟩,⟨so,b1,b2⟩,l⟩
theorem Mu{n:Nat}{t e:TypeId}{cs:List Value}(hT:Tryz.prog.underlying t=some (.slice e))(h:Tr enc W held n t cs):∃c,cs=[c]:=by
 obtain⟨y,h,_⟩:=h;rcases DataW.trod_slice hT h with⟨hcs,_⟩|⟨a,len,cap,elems,rest,n',hn,hcs,_⟩
 ·exact⟨_,hcs⟩
 ·exact⟨_,hcs⟩
theorem Ll:Op enc W held fO (fun l=>(∀y∈l,OJ y)∧Lx l):=by
 intro n cs h;have h:Tr enc W held n 27 cs:=h;obtain⟨c,rfl⟩:=Mu Tryz.underlying27 h;obtain⟨xs,hr,l,sm⟩:=mK h;exact⟨xs,⟨_,rfl,hr⟩,sm,l⟩
theorem M1:Op enc W held jZ (fun _=>True):=by
 intro n cs h;have h:Tr enc W held n 51 cs:=h;obtain⟨y,h',hz⟩:=h;obtain⟨a,rfl,_,_⟩:=DataW.trod_int Tryz.underlying51 h';obtain⟨c,hc⟩:=Tr.byte (enc:=enc) (W:=W) (held:=held) Tryz.underlying51 ⟨y,h',hz⟩;rw[hc];exact⟨c,rfl,trivial⟩
theorem Mk:Op enc W held fw (fun q=>SH q∧SN q):=by
 intro n cs h;obtain⟨n',hn,hcl,hf⟩:=h.UR Tryz.underlying45;have hC:Tryz.prog.cellsOf 45=7:=by kernel_rfl
 rw[hC]at hcl;obtain⟨c0,c1,c2,c3,c4,c5,c6,rfl⟩:=Li hcl;have h0:=hf 0 (az rfl);have h1:=hf 1 (az rfl);have h2:=hf 2 (az rfl);have h3:=hf 3 (az rfl);have h4:=hf 4 (az rfl);have h5:=hf 5 (az rfl);have h6:=hf 6 (az rfl);have e0:Tryz.prog.cellsOf 4=1:=by kernel_rfl
 have e1:Tryz.prog.cellsOf 41=1:=by kernel_rfl
 have e2:Tryz.prog.cellsOf 42=1:=by kernel_rfl
 have e3:Tryz.prog.cellsOf 27=1:=by kernel_rfl
 have e4:Tryz.prog.cellsOf 43=1:=by kernel_rfl
 have e5:Tryz.prog.cellsOf 3=1:=by kernel_rfl
 simp only[br,List.getElem_cons_zero,List.getElem_cons_succ,e0,e1,e2,e3,e4,e5,List.drop_zero,List.take_succ_cons,List.take_zero,List.drop_succ_cons]at h0 h1 h2 h3 h4 h5 h6;obtain⟨al,rfl⟩:=h0.bool Tryz.underlying4;obtain⟨its,r1,l1,s1⟩:=k8 KU Tryz.underlying41 (by kernel_rfl) (by kernel_rfl) h1;obtain⟨fr,r2,l2,s2⟩:=k8 Mf Tryz.underlying42 (by kernel_rfl) (by kernel_rfl) h2;obtain⟨wh,r3,l3,s3⟩:=mK h3;obtain⟨gr,r4,l4,s4⟩:=mK h4;obtain⟨od,r5,l5,s5⟩:=k8 LQ Tryz.underlying43 (by kernel_rfl) (by kernel_rfl) h5;obtain⟨lim,rfl,m1,m2⟩:=h6.long Tryz.underlying3;exact⟨⟨al,its,fr,wh,gr,od,lim⟩,⟨_,_,_,_,_,rfl,r1,r2,r3,r4,r5,m1,m2⟩,⟨s1,fun s hs=>(s2 s hs).1,s3,s4,s5⟩,⟨l1,l2,fun s hs=>(s2 s hs).2,l3,l4,l5⟩⟩
theorem Mb:Op enc W held df (fun s=>Py s∧Qp s):=by
 intro n cs h;obtain⟨n',hn,hcl,hf⟩:=h.UR Tryz.underlying30;have hC:Tryz.prog.cellsOf 30=13:=by kernel_rfl
 rw[hC]at hcl;obtain⟨c0,c1,c2,c3,c4,c5,c6,c7,c8,c9,c10,c11,c12,rfl⟩:=JQ hcl;have h0:=hf 0 (az rfl);have h1:=hf 1 (az rfl);have h2:=hf 2 (az rfl);have h3:=hf 3 (az rfl);have h4:=hf 4 (az rfl);have h5:=hf 5 (az rfl);have h6:=hf 6 (az rfl);have h7:=hf 7 (az rfl);have h8:=hf 8 (az rfl);have h9:=hf 9 (az rfl);have h10:=hf 10 (az rfl);have h11:=hf 11 (az rfl);have h12:=hf 12 (az rfl);have e0:Tryz.prog.cellsOf 22=1:=by kernel_rfl
 have e1:Tryz.prog.cellsOf 9=1:=by kernel_rfl
 have e2:Tryz.prog.cellsOf 23=1:=by kernel_rfl
 have e3:Tryz.prog.cellsOf 24=1:=by kernel_rfl
 have e4:Tryz.prog.cellsOf 25=1:=by kernel_rfl
 have e5:Tryz.prog.cellsOf 26=1:=by kernel_rfl
 have e6:Tryz.prog.cellsOf 27=1:=by kernel_rfl
 have e7:Tryz.prog.cellsOf 28=1:=by kernel_rfl
 have e8:Tryz.prog.cellsOf 4=1:=by kernel_rfl
 simp only[br,List.getElem_cons_zero,List.getElem_cons_succ,e0,e1,e2,e3,e4,e5,e6,e7,e8,List.drop_zero,List.take_succ_cons,List.take_zero,List.drop_succ_cons]at h0 h1 h2 h3 h4 h5 h6 h7 h8 h9 h10 h11 h12;obtain⟨k,rfl⟩:=h0.byte Tryz.underlying22;obtain⟨nm,rfl,z1,b1⟩:=h1.str Tryz.underlying9;obtain⟨on,rfl,z2,b2⟩:=h2.str Tryz.underlying9;obtain⟨to',rfl,z3,b3⟩:=h3.str Tryz.underlying9;obtain⟨ev,rfl⟩:=h4.byte Tryz.underlying22;obtain⟨NH,r1,l1,s1⟩:=k8 LN Tryz.underlying23 (by kernel_rfl) (by kernel_rfl) h5;obtain⟨q,r2,l2,s2⟩:=k8 Mk Tryz.underlying24 (by kernel_rfl) (by kernel_rfl) h6;obtain⟨vals,r3,l3,s3⟩:=k8 Ll Tryz.underlying25 (by kernel_rfl) (by kernel_rfl) h7;obtain⟨dD,r4,l4,s4⟩:=k8 JZ Tryz.underlying26 (by kernel_rfl) (by kernel_rfl) h8;obtain⟨wh,r5,l5,s5⟩:=mK h9;obtain⟨pv,r6,l6,s6⟩:=k8 M1 Tryz.underlying28 (by kernel_rfl) (by kernel_rfl) h10;obtain⟨opt,rfl⟩:=h11.bool Tryz.underlying4;obtain⟨key,rfl,z4,b4⟩:=h12.str Tryz.underlying9;exact⟨⟨k,nm,on,to',ev,NH,q,vals,dD,wh,pv,opt,key⟩,⟨_,_,_,_,_,_,rfl,r1,r2,r3,r4,r5,r6,z1,z2,z3,z4⟩,⟨b1,b2,b3,b4,fun c hc=>(s1 c hc).1,fun c hc=>(s2 c hc).1,fun c hc=>(s3 c hc).1,s4,s5⟩,⟨l1,fun c hc=>(s1 c hc).2,l2,fun c hc=>(s2 c hc).2,l3,fun c hc=>(s3 c hc).2,l4,l5,l6⟩⟩
theorem open_stmt{v:Value}{d:DataW H}{p:List MemPlace}{r:Reach}{b0:Nat}(hv:Value.okWide Tryz.prog W r b0 30 v)(h:DataW.Trod enc Tryz.prog W 0 (fun _=>true) held 30 v d p)(hz:∀n∈d.weights Tryz.prog 30,n≤reachBytes):
 ∃(cs:List Value) (s:I.NC),v=.agg cs.toArray∧df.R W (fun b=>b<W.heap.size) cs s∧Py s∧Qp s:=by
 obtain⟨cs,rfl,hsz⟩:=okWide_struct Tryz.underlying30 hv;obtain⟨fuel,hf⟩:=h;obtain⟨s,hr,hs,hl⟩:=Mb (enc:=enc) (W:=W) (held:=held) fuel _ ⟨_,hf,hz⟩;exact⟨_,s,rfl,hr,hs,hl⟩
end
end
theorem ya{P:Program}{w:World}:∀{L:List (String×DataW Unit)} {ps:List MemPlace} {n:String} {d:DataW Unit},DataW.LaidVars P w L ps→(n,d)∈L→
 ∃g t cs fuel p,P.globalNamed n=some g∧(P.globals[g]?).map (·.type)=some t∧w.var? P n=some cs∧DataW.trod (fun _=>()) P w 0 (fun _=>true) false fuel t cs.toList=some (d,p):=by
 intro L;induction L with
 |nil=>intro ps n d _ h;cases h
 |cons x r ih=>
  intro ps n d h hm;obtain⟨n',d'⟩:=x;obtain⟨g,t,cs,fuel,p,q,h1,h2,h3,h4,h5,_⟩:=h;rcases af.1 hm with e|hm
  ·injection e with e1 e2
   subst e1 e2;exact⟨g,t,cs,fuel,p,h1,h2,h3,h4⟩
  ·exact ih h5 hm
theorem C9{P:Program}{w:World}{n:String}{cs:Array Value}{g:Nat}(hg:P.globalNamed n=some g)(h:w.var? P n=some cs):∃t m,w.heap[g]?=some (.cells cs t m):=by
 unfold World.var? at h;rw[hg]at h;simp only[Option.bind_some]at h;split at h
 ·rename_i cs' t m he;injection h with h
  subst h;exact⟨t,m,he⟩
 ·cases h
section
variable{w:World}{L:List (String×DataW Unit)}
theorem LA(h:laidMet Tryz.prog L w)(hm:("internal/strconv.uint64pow10",(Rows.laid_internal_strconv_uint64pow10:DataW Unit))∈L):Qr w:=by
 obtain⟨ps,h,_⟩:=h;obtain⟨g,t,cs,fuel,p,h1,h2,h3,h4⟩:=ya h hm;obtain rfl:3=g:=bA ((show Tryz.prog.globalNamed "internal/strconv.uint64pow10" =some 3 from by kernel_rfl).symm.trans h1);obtain rfl:266=t:=bA ((show(Tryz.prog.globals[(3:Nat)]?).map (·.type)=some 266 from by kernel_rfl).symm.trans h2);have e:(Rows.laid_internal_strconv_uint64pow10:DataW Unit)=Lib.tabData .u64 Lib.pow10Tab:=by kernel_rfl
 rw[e]at h4;have:=Lib.cells_of_tab Tryz.underlying266 Tryz.underlying236 (by kernel_rfl) (by kernel_rfl) h4;unfold Qr Lib.TabIs;rw[h3,←this]
theorem re(h:laidMet Tryz.prog L w){n:String}{g0:Nat}{t0:TypeId}{d d':DataW Unit}{name:String}{ms:Array (String×TypeId)}(hm:(n,d)∈L)(hg:Tryz.prog.globalNamed n=some g0)(ht:(Tryz.prog.globals[g0]?).map (·.type)=some t0)(hi:Tryz.prog.underlying t0=some (.interface ms))(hd:d=.iface name d'):∃te pe,w.cell? ⟨g0,0,none⟩=some (.iface te pe):=by
 obtain⟨ps,h,_⟩:=h;obtain⟨g,t,cs,fuel,p,h1,h2,h3,h4⟩:=ya h hm;obtain rfl:g0=g:=bA (hg.symm.trans h1);obtain rfl:t0=t:=bA (ht.symm.trans h2);rw[hd]at h4;obtain⟨_,u,v,e,_⟩:=iface_of_trod hi h4;obtain⟨t,m,hb⟩:=C9 hg h3;obtain rfl:cs=#[.iface u v]:=by cases cs;simp_all
 exact⟨u,v,by simp[World.cell?,hb]⟩
theorem env20_of(hL:laidMetH Tryz.prog L w)(hp:(L.all fun x=>x.2.handleName?.isNone)=true)(hsh:w.ShapedOpen Tryz.prog)
 (h1:("internal/strconv.uint64pow10",(Rows.laid_internal_strconv_uint64pow10:DataW Unit))∈L) (h2:("strconv.ErrSyntax",(Rows.laid_strconv_ErrSyntax:DataW Unit))∈L) (h3:("strconv.ErrRange",(Rows.laid_strconv_ErrRange:DataW Unit))∈L):PD w:=by
 rw[MakeChecks.laidMetH_plain _ _ _ hp]at hL;obtain⟨m,hm⟩:=Tryz.Gp.s1_3 w hsh;obtain⟨te,pe,e4⟩:=re hL h2 (g0:=4) (by kernel_rfl) (by kernel_rfl) Tryz.underlying106 rfl;obtain⟨tf,pf,e5⟩:=re hL h3 (g0:=5) (by kernel_rfl) (by kernel_rfl) Tryz.underlying106 rfl;have hx:=World.block_lt_of_cell? w _ e4;have hy:=World.block_lt_of_cell? w _ e5;have six:5<w.heap.size:=by first|exact hx|exact hy
 exact⟨⟨m,hm,LA hL h1⟩,⟨m,_,_,_,_,hm,by first|exact e4|exact e5,by first|exact e4|exact e5⟩,six⟩
end
variable{H:Type}{enc:TypeId×Value→H}
theorem handed_laid{a:Assume}{C:Checked}{os:Os}{f:FuncId}{fn:Func}{s:ChangeSpec}{conds:List PathCond}{apart fresh handsOn again:Bool}{L:List (String×DataW Unit)}
 (own:ownKnob C.prog.godebug=none) (started:os.Started) (noInit:C.prog.inits.idxOf? f=none) (hfn:C.prog.funcs[f]?=some fn)
 (witness:∃(w:World) (tape:Tape) (i:Input),w.os=os∧(w.forCall tape i).Shaped C.prog∧i.vars=[]∧Input.okWide C.prog (w.forCall tape i) .any w.heap.size f i∧
  ((s.pre enc C.prog fn conds apart (w.forCall tape i).memory i.args∧laidMetH C.prog L (w.forCall tape i).memory)∧sizedMet enc C.prog fn (OpenSpec.ofChange s) apart (w.forCall tape i).memory i.args)∧a.holds C.prog (lone (Frame.enter C.prog f i.args .normal) [] (w.forCall tape i)))
 (contract:∀(W:World) (base:Nat) (args:Array Value) (ds gs:List (DataW H)) (before:List MemPlace),
  (∀(j:Nat) t v,fn.params[j]?=some t→args[j]?=some v→Value.okWide C.prog W .any base t v)→
  DataW.Whole enc C.prog fn.params.toList s.vars apart W args.toList ds gs before→
  conds.all (PathCond.test C.prog ⟨fn.params.toList,ds,s.plain.varTypes C.prog,gs⟩)=true→
  (DataW.weightsEach C.prog (fn.params.toList++s.plain.varTypes C.prog) (ds++gs)).all (· ≤reachBytes)=true→
  W.ShapedOpen C.prog→laidMetH C.prog L W→
  Calls C.prog f args W fun e W'=>∃v,e=.returned v∧s.post enc C.prog fn apart fresh handsOn again W args v W'):
 ReturnsInHanded a C os f .any (fun w args=>(s.pre enc C.prog fn conds apart w args∧laidMetH C.prog L w)∧sizedMet enc C.prog fn (OpenSpec.ofChange s) apart w args) (s.post enc C.prog fn apart fresh handsOn again):=by
 refine returnsInHanded_of_calls own started noInit witness ?_;intro w tape i _ hsh _ hok hpre _;obtain⟨_,_,_,fn',hfn',_,_,_,_,hval⟩:=hok;have e:fn'=fn:=bA (hfn'.symm.trans hfn);subst e;obtain⟨⟨⟨ds,gs,before,hw,hc⟩,hx⟩,hz⟩:=hpre;have hw':=DataW.Whole.of_heap (w':=w.forCall tape i) (by rfl) hw;refine(contract (w.forCall tape i) w.heap.size i.args ds gs before hval hw' hc (hz.weights hw) hsh (laidMetH.of_heap (by rfl) hx)).mono fun e W' ⟨v,he,hp⟩=>?_
 subst he;exact ChangeSpec.post_blind hp
section
namespace I
open Lex (Bl Sk skip)
theorem drop_one{b:UInt8}{s r:Bs}{i:Nat}(h:s=s.take i++b::r)(hl:i+1+r.length=s.length):s.drop (i+[b].length)=r:=by
 have ht:(s.take i).length=i:=by rw[aP];omega
 conv=>lhs;rw[h]
 rw[List.drop_append,ht];simp;omega
end I
end
theorem Fr.num{w0 w:World}{own:eP}{its:List It}(F:Fr 0 w0 own its (Kp w0) w)(hE:PD w0):∃m,w.cell? ⟨0,0,Option.none⟩=some (.int .i64 m):=by
 obtain⟨⟨m,h⟩,_,_⟩:=hE.at F;exact⟨m,h.num⟩
section
namespace I
open Ev (Ex Hd)
def tk(m:Nat)(st:St):St:={st with r:=st.r.take m}
def Fin(T:Nat)(s:St):Prop:=s.r=[]∧((s.e=0∧s.d=false)∨(s.e=300∧s.c=T))
def Ok(s:St):Prop:=s.e=0∧s.d=false
theorem Ok.back{a b:St}(h:ON a b)(k:Ok b):Ok a:=⟨h.e k.1,by
 cases hd:a.d with
 |false=>rfl
 |true=>have:=h.d hd;rw[k.2]at this;cases this⟩
theorem gI{T m:Nat}{st:St}(h:(tk m st).r=[])(ok:Ok st):Fin T (tk m st):=⟨h,.inl ok⟩
theorem oM{T:Nat}{s:St}(h:Fin T s):Fin T (fail T 300 s)∧(fail T 300 s).e=300:=by
 obtain⟨hr,h⟩:=h;unfold fail place;rcases h with⟨he,hd⟩|⟨he,hc⟩
 ·rw[if_pos he,hr];exact⟨⟨rfl,.inr ⟨rfl,rfl⟩⟩,rfl⟩
 ·rw[if_neg (by omega)];exact⟨⟨rfl,.inr ⟨he,hc⟩⟩,he⟩
theorem Fin.app{α:Type}{T:Nat}{f:St→α×St}(hf:Eo T f){s:St}(h:Fin T s):Fin T (f s).2:=by
 rcases hf s h.1 with e|e
 ·rw[e];exact h
 ·rw[e];exact(oM h).1
theorem Fin.end{α:Type}{T:Nat}{f:St→α×St}(hf:su T f){s:St}(h:Fin T s):Fin T (f s).2∧(f s).2.e=300:=by
 rw[hf s h.1];exact oM h
theorem Fin.exp{T:Nat}{l:List Bs}(hl:l≠[]){s:St}(h:Fin T s):Fin T (expect T l s)∧(expect T l s).e=300:=by
 rw[lf h.1 hl];exact oM h
theorem eL(m:Nat)(st:St):(tk m st).r=[]∨∃k t r,m=k+1∧st.r=t::r:=by
 cases m with
 |zero=>exact .inl rfl
 |succ k=>
  cases hr:st.r with
  |nil=>exact .inl (by unfold tk;rw[hr];rfl)
  |cons t r=>exact .inr ⟨k,t,r,rfl,rfl⟩
section
variable{st:St}{k:Nat}{t:Tok}{r:List Tok}
theorem ou(h:st.r=t::r):(tk (k+1) st).r=t::r.take k:=by unfold tk;rw[h];rfl
theorem fg(h:st.r=t::r)(s:Bs):dh s (tk (k+1) st)=dh s st:=by unfold dh;rw[ou h,h]
theorem wS(h:st.r=t::r):named (tk (k+1) st)=named st:=by unfold named;rw[ou h,h]
theorem pg(h:st.r=t::r):dF (tk (k+1) st)=dF st:=by unfold dF;rw[ou h,h]
theorem zU(h:st.r=t::r):QO (tk (k+1) st)=QO st:=by unfold QO;rw[ou h,h]
theorem dV(k:Nat)(st:St):next (tk (k+1) st)=tk k (next st):=by
 unfold next tk
 simp only;congr 1;cases st.r with
 |nil=>simp
 |cons t r=>simp
theorem yC(h:st.r=t::r):∀l:List (Bs×UInt8),(one l (tk (k+1) st)).1=(one l st).1∧((one l st).1≠0∨True):=by
 intro l;refine⟨?_,.inr trivial⟩;induction l with
 |nil=>rfl
 |cons s l ih=>
  simp only[one];rw[fg h];split
  ·rfl
  ·exact ih
theorem ux(h:st.r=t::r):∀l:List (Bs×UInt8),((one l (tk (k+1) st)).2=tk k (one l st).2∧(one l st).2=next st)∨((one l st).1=0∧(one l st).2=st):=by
 intro l;induction l with
 |nil=>exact .inr ⟨rfl,rfl⟩
 |cons s l ih=>
  simp only[one];rw[fg h];split
  ·exact .inl ⟨dV k st,rfl⟩
  ·exact ih
end
def Out{α:Type}(T:Nat)(R:α→α→Prop)(p p':α×St):Prop:=(∃m,p'=(p.1,tk m p.2))∨(Fin T p'.2∧(p'.2.e=0→R p'.1 p.1))
def Tr{α:Type}(T:Nat)(R:α→α→Prop)(N M:Nat)(f f':St→α×St):Prop:=∀st m,Ok st→Ok (f st).2→st.r.length≤N→(tk m st).r.length≤M→Out T R (f st) (f' (tk m st))
section
variable{α β:Type}{T T' N M m:Nat}{R:α→α→Prop}{f f' g g':St→α×St}{st:St}{p p':α×St}
theorem Out.same(m:Nat)(h:p'=(p.1,tk m p.2)):Out T R p p':=.inl ⟨m,h⟩
theorem Out.all(h:Fin T p'.2)(he:p'.2.e=300):Out T R p p':=.inr ⟨h,fun e=>by omega⟩
theorem Out.any(h:Fin T p'.2):Out T (fun _ _=>True) p p':=.inr ⟨h,fun _=>trivial⟩
theorem Out.stop(hf:su T f')(h:(tk m st).r=[])(ok:Ok st):Out T R p (f' (tk m st)):=by
 obtain⟨a,b⟩:=Fin.end hf (gI (T:=T) h ok);exact .all a b
theorem Nc(h:st.r.length≤N+1)(hc:∃t r,st.r=t::r):(next st).r.length≤N:=by
 obtain⟨t,r,e⟩:=hc;unfold next
 simp only[e,bI];rw[e,ab]at h;omega
theorem MD{k:Nat}{t:Tok}{r:List Tok}(e:st.r=t::r)(h:(tk (k+1) st).r.length≤M+1):(tk k (next st)).r.length≤M:=by
 rw[ou e,ab]at h;unfold next tk
 simp only[e,bI];omega
theorem Es(m:Nat)(st:St):(tk m st).r.length≤st.r.length:=by unfold tk;simp only[aP];omega
theorem py:∀(l:List Bs) (st:St) (m:Nat),Ok st→Ok (expect T l st)→(∃m',expect T' l (tk m st)=tk m' (expect T l st))∨(Fin T' (expect T' l (tk m st))∧(expect T' l (tk m st)).e=300):=by
 intro l;induction l with
 |nil=>intro st m _ _;exact .inl ⟨m,rfl⟩
 |cons s l ih=>
  intro st m ok NJ;rcases eL m st with h|⟨k,t,r,rfl,e⟩
  ·exact .inr (Fin.exp (by simp) (gI h ok))
  ·simp only[expect]at NJ⊢;rw[fg e];split at NJ
   ·rename_i ha;rw[if_pos ha,if_pos ha,dV];exact ih (next st) k ok NJ
   ·exact absurd NJ.1 (ea (by decide))
theorem o8(hf:Tr T' R N M f f')(ev:NT f)(eo:Eo T' f'):Tr T' R (N+1) (M+1) (inside T f) (inside T' f'):=by
 intro st m ok NJ hN hM;rcases eL m st with h|⟨k,t,r,rfl,e⟩
 ·exact Out.stop (qH eo) h ok
 ·have o1:Ok (f (expect T [[40]] st)).2:=Ok.back (fa T _ _) NJ;have o0:Ok (expect T [[40]] st):=Ok.back (ev _) o1;have ha:dh [40] st=true:=by
   cases ha:dh [40] st with
   |true=>rfl
   |false=>
    have:=o0.1;simp only[expect,ha]at this;exact absurd this (ea (by decide))
  have e0:expect T [[40]] st=next st:=by simp only[expect,ha,bo]
  have e0':expect T' [[40]] (tk (k+1) st)=tk k (next st):=by simp only[expect,fg e,ha,bo,dV]
  rw[e0]at o1;rcases hf (next st) k ok o1 (Nc hN ⟨t,r,e⟩) (MD e hM)with⟨m',h⟩|⟨h,_⟩
  ·have e1:inside T' f' (tk (k+1) st)=((f (next st)).1,expect T' [[41]] (tk m' (f (next st)).2)):=by unfold inside;rw[e0',h]
   have e2:inside T f st=((f (next st)).1,expect T [[41]] (f (next st)).2):=by unfold inside;rw[e0]
   rw[e1,e2];rw[e2]at NJ;rcases py (T:=T) (T':=T') [[41]] (f (next st)).2 m' o1 NJ with⟨n,q⟩|⟨q,q2⟩
   ·exact .same n (by rw[q])
   ·exact .all q q2
  ·have e1:(inside T' f' (tk (k+1) st)).2=expect T' [[41]] (f' (tk k (next st))).2:=by unfold inside;rw[e0']
   obtain⟨q,q2⟩:=Fin.exp (l:=[[41]]) (by simp) h;exact .all (by rw[e1];exact q) (by rw[e1];exact q2)
end
end I
end
end Go.Proofs.YtnicfobpclehkaaGreatDoor
