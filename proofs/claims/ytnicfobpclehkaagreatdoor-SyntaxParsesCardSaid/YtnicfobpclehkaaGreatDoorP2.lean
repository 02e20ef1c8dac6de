import Derived.WalkKit
import Derived.ProofKit
import Derived.OpenShut
import Derived.ShutString
import Derived.ChangeOld
import Derived.Below
import Derived.OneCell
import Derived.Handy
import Derived.Outline
import Derived.WalkSpells
import Derived.WalkLawsBesides
import Derived.Laws.BytesArg
import Derived.Laws.BitsAllLaws
import Derived.Laws.BitsLemmas
import Derived.Deep.Draws
import Derived.Deep.AppendLies
import Derived.Deep.QuietTactic
import Derived.BigQuiet
import Derived.Lib.Hide
import Derived.Maps.AppendAt
import Derived.RegionTactic
import Derived.OwnWalk
import Derived.Laws.CopyOwn
import Derived.Lib.Replace
import Derived.Test.YtnicfobpclehkaaGreatDoorP1
set_option maxHeartbeats 200000
set_option linter.unusedVariables false
set_option linter.unusedSimpArgs false
namespace Go.Proofs.YtnicfobpclehkaaGreatDoor
open Go.RowKit
theorem aa{p:Prop}(h:p):Hid p:=h
def B8(c:UInt8):Value:=.int .u8 (c.toNat:Int)
theorem IB(l:List UInt8):∀u∈l.map B8,u.oneCell'=true:=by
 intro u hu;simp only[List.mem_map]at hu;obtain⟨c,_,rfl⟩:=hu;rfl
theorem addr_add(b off k:Nat):(⟨b,off,none⟩:Addr).add k=⟨b,off+k,none⟩:=by unfold Addr.add;split<;>simp_all
def Rd(w:World)(B size:Nat)(A:Option Addr)(n:Nat)(xs:List Value):Prop:=
 xs.length=n*size∧(0<n→∃b off,A=some ⟨b,off,none⟩∧b<B∧∀j u,xs[j]?=some u→w.cell? ⟨b,off+j,none⟩=some u)
def Rb(w:World)(B:Nat)(A:Option Addr)(n:Nat)(l:List UInt8):Prop:=Rd w B 1 A n (l.map B8)
section
variable{w w':World}{B B' size n:Nat}{A:Option Addr}{xs:List Value}{l:List UInt8}
theorem Rd.nil:Rd w B size A 0 []:=⟨by simp,fun h=>absurd h (by omega)⟩
theorem Rd.aR(h:Rd w B size A n xs)(hk:∀p:Addr,p.block<B→w'.cell? p=w.cell? p):Rd w' B size A n xs:=
 ⟨h.1,fun hn=>by
  obtain⟨b,off,e,hb,hc⟩:=h.2 hn
  exact⟨b,off,e,hb,fun j u hu=>(hk _ hb).trans (hc j u hu)⟩⟩
theorem Rd.more(h:Rd w B size A n xs)(hB:B≤B'):Rd w B' size A n xs:=
 ⟨h.1,fun hn=>by
  obtain⟨b,off,e,hb,hc⟩:=h.2 hn
  exact⟨b,off,e,by omega,hc⟩⟩
theorem Rd.below{C:Nat}(h:Rd w B size A n xs)(hb:Below C w w')(hC:B≤C):Rd w' B size A n xs:=h.aR fun _ hp=>hb.cell (by omega)
theorem Rd.own{base:Nat}{e:TypeId}{c:Nat}(h:w.ownsRow base e size (.slice A n c) n xs):Rd w w.heap.size size A n xs:=by
 refine⟨h.1,fun hn=>?_⟩;obtain⟨g,cap,hv,_,hlt⟩:=h.form hn;have hA:A=some ⟨g,0,none⟩:=by injection hv
 subst hA;refine⟨g,0,rfl,hlt,fun j u hu=>?_⟩;have:=h.cells (g:=g) rfl j u hu;rwa [addr_add]at this
theorem Rb.len(h:Rb w B A n l):l.length=n:=by simpa[Rb,Rd]using h.1
theorem Rb.nil:Rb w B A 0 []:=Rd.nil
theorem Rb.aR(h:Rb w B A n l)(hk:∀p:Addr,p.block<B→w'.cell? p=w.cell? p):Rb w' B A n l:=Rd.aR h hk
theorem Rb.more(h:Rb w B A n l)(hB:B≤B'):Rb w B' A n l:=Rd.more h hB
theorem Rb.below{C:Nat}(h:Rb w B A n l)(hb:Below C w w')(hC:B≤C):Rb w' B A n l:=Rd.below h hb hC
theorem Rb.own{base:Nat}{e:TypeId}{c:Nat}(h:w.ownsRow base e 1 (.slice A n c) n (l.map B8)):Rb w w.heap.size A n l:=Rd.own h
theorem Rb.at{k:Nat}(h:Rb w B A n l)(hk:k<n):∃b off c,A=some ⟨b,off,none⟩∧b<B∧l[k]?=some c∧w.cell? ⟨b,off+k,none⟩=some (.int .u8 (c.toNat:Int)):=by
 obtain⟨b,off,e,hb,hc⟩:=h.2 (by omega);have hl:k<l.length:=by rw[h.len];exact hk
 exact⟨b,off,l[k],e,hb,List.getElem?_eq_getElem hl,hc k _ (by simp[List.getElem?_eq_getElem hl,B8])⟩
theorem Rb.all(h:Rb w B A n l)(hn:0<n):∃b off,A=some ⟨b,off,none⟩∧b<B∧∀j c,l[j]?=some c→w.cell? ⟨b,off+j,none⟩=some (.int .u8 (c.toNat:Int)):=by
 obtain⟨b,off,e,hb,hc⟩:=h.2 hn;exact⟨b,off,e,hb,fun j c hj=>hc j _ (by simp[hj,B8])⟩
theorem Rb.take{k:Nat}(h:Rb w B A n l)(hk:k≤n):Rb w B A k (l.take k):=by
 refine⟨by simp[h.len];omega,fun h0=>?_⟩;obtain⟨b,off,e,hb,hc⟩:=h.2 (by omega);refine⟨b,off,e,hb,fun j u hu=>hc j u ?_⟩;rw[List.map_take,List.getElem?_take]at hu;split at hu
 ·exact hu
 ·cases hu
theorem Rb.je{P:Program}(h:Rb w B A n l)(src e dst:TypeId)(c:Nat)(hs:P.underlying src=some (.slice e))(he:P.underlying e=some (.int .u8))(hd:P.underlying dst=some .string):
 (convert src dst (.slice A n c)).run P w=.ok (.string ⟨l.toArray⟩) w:=by
 rcases Nat.eq_zero_or_pos n with h0|h0
 ·subst h0;have hl:l=[]:=List.eq_nil_of_length_eq_zero h.len;subst hl;cases A with
  |none=>exact run_convert_bytes_nil w src e hs he 0 c dst hd
  |some a=>
   rw[run_convert_bytes_string w src dst e _ 0 c hs he hd,run_bytesToString w a 0 c [] (by simpa using run_loadCells_list (P:=P) w a [] (by simp))];rfl
 ·obtain⟨b,off,rfl,hb,hc⟩:=h.all h0;rw[run_convert_bytes_arg w src e hs he b off n c (l.map fun c=>(c.toNat:Int)) (by simp[h.len]) (fun i hi=>by
   have hl:i<l.length:=by rw[h.len];exact hi
   rw[hc i l[i] (List.getElem?_eq_getElem hl)]
   simp[List.getD,List.getElem?_eq_getElem hl]) dst hd]
  congr 2;simp only[strOfNums,List.map_map];congr 1;conv=>rhs;rw[←List.map_id l]
  congr 1;apply List.map_congr_left;intro x _;simp
end
def Kn(w:World)(g:Nat)(t:TypeId)(cs:Array Value):Prop:=w.heap[g]?=some (.cells cs t (0,0))
section
variable{w w':World}{g:Nat}{t:TypeId}{cs:Array Value}
theorem Kn.lt(h:Kn w g t cs):g<w.heap.size:=lt_of_block h
theorem Kn.cell(h:Kn w g t cs)(i:Nat):w.cell? ⟨g,i,none⟩=cs[i]?:=cell_of_row w g i cs t (0,0) h
theorem Kn.frozen(h:Kn w g t cs)(i:Nat):w.frozen? ⟨g,i,none⟩=false:=by
 unfold Kn at h;simp[World.frozen?,h]
theorem Kn.new(w:World)(t:TypeId)(cs:Array Value):Kn (w.alloc (.cells cs t)) w.heap.size t cs:=heap_alloc_new w _
theorem Kn.alloc(h:Kn w g t cs)(o:Obj):Kn (w.alloc o) g t cs:=(Below.heap_alloc w o g h.lt).trans h
theorem Kn.put(h:Kn w g t cs)(i:Nat)(u:Value):Kn (w.setCell ⟨g,i,none⟩ u) g t (cs.setIfInBounds i u):=by
 unfold Kn at h⊢;simp[World.setCell,Array.getElem?_modify,h]
theorem Kn.far(h:Kn w g t cs){p:Addr}(hp:g≠p.block)(u:Value):Kn (w.setCell p u) g t cs:=(Below.heap_setCell w p u g hp).trans h
theorem Kn.below{B:Nat}(h:Kn w g t cs)(hb:Below B w w')(hg:g<B):Kn w' g t cs:=(hb.block g hg).trans h
theorem Kn.grown{row:Option Nat}(h:Kn w g t cs)(hb:w.grownBy w' row)(hg:some g≠row):Kn w' g t cs:=(hb.block g h.lt hg).trans h
end
theorem gi{k:IntKind}{a b:Int}(h:a=b):Ending.returned (.int k a)=.returned (.int k b):=by rw[h]
theorem _root_.Go.RowKit.Hid.o{p:Prop}(h:Hid p):p:=h
theorem Yu(o:UInt8)(k:Int)(h:(o.toNat:Int)≠k):((o.toNat:Int)==k)=false:=beq_eq_false_iff_ne.2 h
theorem Kn.y2{w:World}{g:Nat}{t:TypeId}{cs:Array Value}(h:Kn w g t cs)(i0 i1:Nat):w.cell? ⟨g,i0,none⟩=cs[i0]?∧w.cell? ⟨g,i1,none⟩=cs[i1]?:=⟨h.cell i0,h.cell i1⟩
theorem Kn.Y2{w:World}{g:Nat}{t:TypeId}{cs:Array Value}(h:Kn w g t cs):w.cell? ⟨g,0,none⟩=cs[0]?∧w.cell? ⟨g,1,none⟩=cs[1]?:=⟨h.cell 0,h.cell 1⟩
theorem Kn.z2{w:World}{g:Nat}{t:TypeId}{cs:Array Value}(h:Kn w g t cs)(i0 i1:Nat):w.frozen? ⟨g,i0,none⟩=false∧w.frozen? ⟨g,i1,none⟩=false:=⟨h.frozen i0,h.frozen i1⟩
theorem Kn.Z2{w:World}{g:Nat}{t:TypeId}{cs:Array Value}(h:Kn w g t cs):w.frozen? ⟨g,0,none⟩=false∧w.frozen? ⟨g,1,none⟩=false:=⟨h.frozen 0,h.frozen 1⟩
theorem Kn.y3{w:World}{g:Nat}{t:TypeId}{cs:Array Value}(h:Kn w g t cs)(i0 i1 i2:Nat):w.cell? ⟨g,i0,none⟩=cs[i0]?∧w.cell? ⟨g,i1,none⟩=cs[i1]?∧w.cell? ⟨g,i2,none⟩=cs[i2]?:=⟨h.cell i0,h.cell i1,h.cell i2⟩
theorem Kn.Y3{w:World}{g:Nat}{t:TypeId}{cs:Array Value}(h:Kn w g t cs):w.cell? ⟨g,0,none⟩=cs[0]?∧w.cell? ⟨g,1,none⟩=cs[1]?∧w.cell? ⟨g,2,none⟩=cs[2]?:=⟨h.cell 0,h.cell 1,h.cell 2⟩
theorem Kn.z3{w:World}{g:Nat}{t:TypeId}{cs:Array Value}(h:Kn w g t cs)(i0 i1 i2:Nat):w.frozen? ⟨g,i0,none⟩=false∧w.frozen? ⟨g,i1,none⟩=false∧w.frozen? ⟨g,i2,none⟩=false:=⟨h.frozen i0,h.frozen i1,h.frozen i2⟩
theorem Kn.Z3{w:World}{g:Nat}{t:TypeId}{cs:Array Value}(h:Kn w g t cs):w.frozen? ⟨g,0,none⟩=false∧w.frozen? ⟨g,1,none⟩=false∧w.frozen? ⟨g,2,none⟩=false:=⟨h.frozen 0,h.frozen 1,h.frozen 2⟩
theorem Kn.y4{w:World}{g:Nat}{t:TypeId}{cs:Array Value}(h:Kn w g t cs)(i0 i1 i2 i3:Nat):w.cell? ⟨g,i0,none⟩=cs[i0]?∧w.cell? ⟨g,i1,none⟩=cs[i1]?∧w.cell? ⟨g,i2,none⟩=cs[i2]?∧w.cell? ⟨g,i3,none⟩=cs[i3]?:=⟨h.cell i0,h.cell i1,h.cell i2,h.cell i3⟩
theorem Kn.Y7{w:World}{g:Nat}{t:TypeId}{cs:Array Value}(h:Kn w g t cs):w.cell? ⟨g,0,none⟩=cs[0]?∧w.cell? ⟨g,1,none⟩=cs[1]?∧w.cell? ⟨g,2,none⟩=cs[2]?∧w.cell? ⟨g,3,none⟩=cs[3]?∧w.cell? ⟨g,4,none⟩=cs[4]?∧w.cell? ⟨g,5,none⟩=cs[5]?∧w.cell? ⟨g,6,none⟩=cs[6]?:=⟨h.cell 0,h.cell 1,h.cell 2,h.cell 3,h.cell 4,h.cell 5,h.cell 6⟩
theorem Kn.Z7{w:World}{g:Nat}{t:TypeId}{cs:Array Value}(h:Kn w g t cs):w.frozen? ⟨g,0,none⟩=false∧w.frozen? ⟨g,1,none⟩=false∧w.frozen? ⟨g,2,none⟩=false∧w.frozen? ⟨g,3,none⟩=false∧w.frozen? ⟨g,4,none⟩=false∧w.frozen? ⟨g,5,none⟩=false∧w.frozen? ⟨g,6,none⟩=false:=⟨h.frozen 0,h.frozen 1,h.frozen 2,h.frozen 3,h.frozen 4,h.frozen 5,h.frozen 6⟩
theorem Kn.y8{w:World}{g:Nat}{t:TypeId}{cs:Array Value}(h:Kn w g t cs)(i0 i1 i2 i3 i4 i5 i6 i7:Nat):w.cell? ⟨g,i0,none⟩=cs[i0]?∧w.cell? ⟨g,i1,none⟩=cs[i1]?∧w.cell? ⟨g,i2,none⟩=cs[i2]?∧w.cell? ⟨g,i3,none⟩=cs[i3]?∧w.cell? ⟨g,i4,none⟩=cs[i4]?∧w.cell? ⟨g,i5,none⟩=cs[i5]?∧w.cell? ⟨g,i6,none⟩=cs[i6]?∧w.cell? ⟨g,i7,none⟩=cs[i7]?:=⟨h.cell i0,h.cell i1,h.cell i2,h.cell i3,h.cell i4,h.cell i5,h.cell i6,h.cell i7⟩
theorem Kn.Y8{w:World}{g:Nat}{t:TypeId}{cs:Array Value}(h:Kn w g t cs):w.cell? ⟨g,0,none⟩=cs[0]?∧w.cell? ⟨g,1,none⟩=cs[1]?∧w.cell? ⟨g,2,none⟩=cs[2]?∧w.cell? ⟨g,3,none⟩=cs[3]?∧w.cell? ⟨g,4,none⟩=cs[4]?∧w.cell? ⟨g,5,none⟩=cs[5]?∧w.cell? ⟨g,6,none⟩=cs[6]?∧w.cell? ⟨g,7,none⟩=cs[7]?:=⟨h.cell 0,h.cell 1,h.cell 2,h.cell 3,h.cell 4,h.cell 5,h.cell 6,h.cell 7⟩
theorem Kn.z8{w:World}{g:Nat}{t:TypeId}{cs:Array Value}(h:Kn w g t cs)(i0 i1 i2 i3 i4 i5 i6 i7:Nat):w.frozen? ⟨g,i0,none⟩=false∧w.frozen? ⟨g,i1,none⟩=false∧w.frozen? ⟨g,i2,none⟩=false∧w.frozen? ⟨g,i3,none⟩=false∧w.frozen? ⟨g,i4,none⟩=false∧w.frozen? ⟨g,i5,none⟩=false∧w.frozen? ⟨g,i6,none⟩=false∧w.frozen? ⟨g,i7,none⟩=false:=⟨h.frozen i0,h.frozen i1,h.frozen i2,h.frozen i3,h.frozen i4,h.frozen i5,h.frozen i6,h.frozen i7⟩
theorem Kn.Z8{w:World}{g:Nat}{t:TypeId}{cs:Array Value}(h:Kn w g t cs):w.frozen? ⟨g,0,none⟩=false∧w.frozen? ⟨g,1,none⟩=false∧w.frozen? ⟨g,2,none⟩=false∧w.frozen? ⟨g,3,none⟩=false∧w.frozen? ⟨g,4,none⟩=false∧w.frozen? ⟨g,5,none⟩=false∧w.frozen? ⟨g,6,none⟩=false∧w.frozen? ⟨g,7,none⟩=false:=⟨h.frozen 0,h.frozen 1,h.frozen 2,h.frozen 3,h.frozen 4,h.frozen 5,h.frozen 6,h.frozen 7⟩
theorem Kn.Y9{w:World}{g:Nat}{t:TypeId}{cs:Array Value}(h:Kn w g t cs):w.cell? ⟨g,0,none⟩=cs[0]?∧w.cell? ⟨g,1,none⟩=cs[1]?∧w.cell? ⟨g,2,none⟩=cs[2]?∧w.cell? ⟨g,3,none⟩=cs[3]?∧w.cell? ⟨g,4,none⟩=cs[4]?∧w.cell? ⟨g,5,none⟩=cs[5]?∧w.cell? ⟨g,6,none⟩=cs[6]?∧w.cell? ⟨g,7,none⟩=cs[7]?∧w.cell? ⟨g,8,none⟩=cs[8]?:=⟨h.cell 0,h.cell 1,h.cell 2,h.cell 3,h.cell 4,h.cell 5,h.cell 6,h.cell 7,h.cell 8⟩
theorem Kn.Z9{w:World}{g:Nat}{t:TypeId}{cs:Array Value}(h:Kn w g t cs):w.frozen? ⟨g,0,none⟩=false∧w.frozen? ⟨g,1,none⟩=false∧w.frozen? ⟨g,2,none⟩=false∧w.frozen? ⟨g,3,none⟩=false∧w.frozen? ⟨g,4,none⟩=false∧w.frozen? ⟨g,5,none⟩=false∧w.frozen? ⟨g,6,none⟩=false∧w.frozen? ⟨g,7,none⟩=false∧w.frozen? ⟨g,8,none⟩=false:=⟨h.frozen 0,h.frozen 1,h.frozen 2,h.frozen 3,h.frozen 4,h.frozen 5,h.frozen 6,h.frozen 7,h.frozen 8⟩
theorem Kn.KI{w:World}{g:Nat}{t:TypeId}{cs:Array Value}(h:Kn w g t cs):w.cell? ⟨g,0,none⟩=cs[0]?∧w.cell? ⟨g,1,none⟩=cs[1]?∧w.cell? ⟨g,2,none⟩=cs[2]?∧w.cell? ⟨g,3,none⟩=cs[3]?∧w.cell? ⟨g,4,none⟩=cs[4]?∧w.cell? ⟨g,5,none⟩=cs[5]?∧w.cell? ⟨g,6,none⟩=cs[6]?∧w.cell? ⟨g,7,none⟩=cs[7]?∧w.cell? ⟨g,8,none⟩=cs[8]?∧w.cell? ⟨g,9,none⟩=cs[9]?∧w.cell? ⟨g,10,none⟩=cs[10]?∧w.cell? ⟨g,11,none⟩=cs[11]?∧w.cell? ⟨g,12,none⟩=cs[12]?:=⟨h.cell 0,h.cell 1,h.cell 2,h.cell 3,h.cell 4,h.cell 5,h.cell 6,h.cell 7,h.cell 8,h.cell 9,h.cell 10,h.cell 11,h.cell 12⟩
theorem Kn.LW{w:World}{g:Nat}{t:TypeId}{cs:Array Value}(h:Kn w g t cs):w.frozen? ⟨g,0,none⟩=false∧w.frozen? ⟨g,1,none⟩=false∧w.frozen? ⟨g,2,none⟩=false∧w.frozen? ⟨g,3,none⟩=false∧w.frozen? ⟨g,4,none⟩=false∧w.frozen? ⟨g,5,none⟩=false∧w.frozen? ⟨g,6,none⟩=false∧w.frozen? ⟨g,7,none⟩=false∧w.frozen? ⟨g,8,none⟩=false∧w.frozen? ⟨g,9,none⟩=false∧w.frozen? ⟨g,10,none⟩=false∧w.frozen? ⟨g,11,none⟩=false∧w.frozen? ⟨g,12,none⟩=false:=⟨h.frozen 0,h.frozen 1,h.frozen 2,h.frozen 3,h.frozen 4,h.frozen 5,h.frozen 6,h.frozen 7,h.frozen 8,h.frozen 9,h.frozen 10,h.frozen 11,h.frozen 12⟩
abbrev _root_.Go.Value.z : Value := .slice none 0 0
abbrev _root_.Go.Value.e : Value := .string ⟨#[]⟩
abbrev _root_.Go.Value.o : Value := .int .i64 0
abbrev _root_.Go.Value.b : Value := .int .u8 0
abbrev _root_.Go.Value.f : Value := .bool false
abbrev _root_.Go.Value.i (n : Int) : Value := .int .i64 n
abbrev _root_.Go.Value.u (n : Int) : Value := .int .u8 n
abbrev _root_.Go.Value.p (g : Nat) : Value := .pointer (some ⟨g,0,none⟩)
abbrev _root_.Go.Value.s (b : ByteArray) : Value := .string b
abbrev _root_.Go.Value.l (a : Option Addr) (n c : Nat) : Value := .slice a n c
theorem aab.{u} {α : Sort u} (a : α) : ∃ x, x = a := ⟨a, rfl⟩
theorem aac.{u} {α : Sort u} (a : α) : ∃ x, a = x := ⟨a, rfl⟩
theorem mb{w w':World}{base:Nat}{e:TypeId}{size:Nat}{v:Value}{n:Nat}{xs:List Value}(h:w.ownsRow base e size v n xs)(hb:Below w.heap.size w w'):w'.ownsRow base e size v n xs:=
 h.kept ⟨hb.os,hb.tape,hb.output,hb.size,fun i hi _=>hb.block i hi⟩ (row:=none) (by cases hv:v.ownBlock<;>simp)
theorem fI(w:World)(base:Nat)(e:TypeId)(size:Nat):w.ownsRow base e size .z 0 []:=World.ownsRow_nil w base e size
theorem tI{w:World}{base base':Nat}{e:TypeId}{size:Nat}{v:Value}{n:Nat}{xs:List Value}(h:w.ownsRow base e size v n xs)(hb:base'≤base):w.ownsRow base' e size v n xs:=by
 refine⟨h.1,?_⟩;rcases h.2 with h2|⟨g,cap,cur,hv,hg,r⟩
 ·exact .inl h2
 ·exact .inr ⟨g,cap,cur,hv,by omega,r⟩
theorem fO{w:World}{base:Nat}{e:TypeId}{size:Nat}{v:Value}{n:Nat}{xs:List Value}(h:w.ownsRow base e size v n xs):∃A cap,v=.slice A n cap∧(∀g,v.ownBlock=some g→A=some ⟨g,0,none⟩)∧n≤cap∧cap≤maxLen:=by
 rcases h.2 with⟨rfl,rfl⟩|⟨g,cap,cur,rfl,_,_,h1,h2,_⟩
 ·exact⟨none,0,rfl,fun g hg=>by simp[Value.ownBlock]at hg,by omega,by unfold maxLen;omega⟩
 ·exact⟨_,cap,rfl,fun g' hg=>by simp[Value.ownBlock]at hg;subst hg;rfl,h1,h2⟩
theorem Ca{w:World}{base:Nat}{e:TypeId}{size:Nat}{v:Value}{n:Nat}{xs:List Value}(h:w.ownsRow base e size v n xs):∃A cap,v=.slice A n cap:=by
 obtain⟨A,cap,h,_⟩:=fO h;exact⟨A,cap,h⟩
theorem Eh{w:World}{base:Nat}{e:TypeId}{size:Nat}{v:Value}{n:Nat}{xs:List Value}(h:w.ownsRow base e size v n xs)(hn:0<n):∃g cap,v=.slice (some ⟨g,0,none⟩) n cap∧base≤g∧g<w.heap.size∧n≤cap∧cap≤9223372036854775807:=by
 rcases h.2 with⟨_,h0⟩|⟨g,cap,cur,hv,hb,hg,h1,h2,_⟩
 ·omega
 ·exact⟨g,cap,hv,hb,lt_of_block hg,h1,by unfold maxLen at h2;omega⟩
theorem Rb.cut{w:World}{B:Nat}{A:Option Addr}{n:Nat}{l:List UInt8}{k cap:Nat}(h:Rb w B A n l)(hk:k≤n)(hc:n≤cap):Rb w B (if cap=k then A else A.map (·.add k)) (n-k) (l.drop k):=by
 refine⟨by simp[h.len],fun hn=>?_⟩;obtain⟨b,off,rfl,hb,hcell⟩:=h.2 (by omega);rw[if_neg (by omega)];refine⟨b,off+k,by simp[addr_add],hb,fun j u hu=>?_⟩;rw[Nat.add_assoc];exact hcell _ u (by rw[←hu,List.map_drop,List.getElem?_drop])
theorem Rd.lit(w:World)(t:TypeId)(xs:List Value)(m:Nat×Nat:=(0,0)):Rd (w.alloc (.cells xs.toArray t m)) (w.heap.size+1) 1 (some ⟨w.heap.size,0,none⟩) xs.length xs:=by
 refine⟨by simp,fun _=>⟨w.heap.size,0,rfl,by omega,fun j u hu=>?_⟩⟩;have:=cell_of_row (w.alloc (.cells xs.toArray t m)) w.heap.size j xs.toArray t m (heap_alloc_new w _);rw[Nat.zero_add,this];simpa using hu
theorem Rb.lit(w:World)(t:TypeId)(l:List UInt8)(m:Nat×Nat:=(0,0)):Rb (w.alloc (.cells (l.map B8).toArray t m)) (w.alloc (.cells (l.map B8).toArray t m)).heap.size (some ⟨w.heap.size,0,none⟩) l.length l:=by
 have:=Rd.lit w t (l.map B8) m;rw[List.length_map]at this;have e:(w.alloc (.cells (l.map B8).toArray t m)).heap.size=w.heap.size+1:=by simp
 rw[e];exact this
section
variable{P:Program}(w:World)
theorem lF(base:Nat)(t ty e:TypeId)(i:TypeInfo)(size:Nat)(ht:P.underlying t=some (.slice e))(hi:P.info? e=some i)
 (v:Value) (n:Nat) (xs:List Value) (hown:w.ownsRow base e size v n xs) (c:Nat):(Builtin.append_ #[t,t] ty #[v,.slice none 0 c]).run P w=.ok v w:=by
 rcases hown.2 with⟨rfl,rfl⟩|⟨g,cap,cur,rfl,_,_,hnc,_⟩
 ·simp[Builtin.append_,run_underlying ht,sizeOf,typeInfo,hi,Builtin.lenOf,Builtin.firstCells]
 ·simp[Builtin.append_,run_underlying ht,sizeOf,typeInfo,hi,Builtin.lenOf,Builtin.firstCells,hnc,storeCells]
theorem kp(base:Nat)(t ty e:TypeId)(i:TypeInfo)(z:Value)(size bytes:Nat)(ht:P.underlying t=some (.slice e))(hi:P.info? e=some i)(hz:i.zero=some z)
 (hsize:i.size=size) (hby:i.bytes=bytes) (hzs:z.cells.size=size) (hsz:0<size)
 (v:Value) (n:Nat) (xs:List Value) (hown:w.ownsRow base e size v n xs)
 (B:Nat) (A:Option Addr) (m c:Nat) (news:List Value) (hr:Rd w B size A m news) (h1:∀u∈news,u.oneCell'=true)
 (h63:n+m≤maxLen) (hbytes:(n+m)*bytes≤140737488355328) (hbase:base≤w.heap.size):
 ∃v' w',(Builtin.append_ #[t,t] ty #[v,.slice A m c]).run P w=.ok v' w'∧w'.ownsRow base e size v' (n+m) (xs++news)∧w.grownBy w' v.ownBlock∧
  (v'.ownBlock=v.ownBlock∨v'.ownBlock=some w.heap.size):=by
 rcases A with _|ad
 ·have hm:m=0:=by
   rcases Nat.eq_zero_or_pos m with h0|h0
   ·exact h0
   ·obtain⟨b,off,h,_⟩:=hr.2 h0;cases h
  subst hm;have hn:news=[]:=List.eq_nil_of_length_eq_zero (by simpa using hr.1);subst hn;exact⟨v,w,lF w base t ty e i size ht hi v n xs hown c,by simpa using hown,World.grownBy.refl w _,.inl rfl⟩
 ·have hcells:∀j u,news[j]?=some u→w.cell? (ad.add j)=some u:=by
   intro j u hu;rcases Nat.eq_zero_or_pos m with h0|h0
   ·subst h0;have hn:news=[]:=List.eq_nil_of_length_eq_zero (by simpa using hr.1);subst hn;simp at hu
   ·obtain⟨b,off,h,_,hc⟩:=hr.2 h0;injection h with h
    subst h;rw[addr_add];exact hc j u hu
  obtain⟨v',w',hrun,h2,h3,_,h5⟩:=run_append_own_at (P:=P) w base t ty e i z size bytes ht hi hz hsize hby hzs hsz v n xs hown ad m c news hr.1 hcells h1 h63 hbytes hbase;exact⟨v',w',hrun,h2,h3,h5⟩
theorem jo{o:Oper}{a:Act}{K:Act→World→Prop}{Q:Exit→Act→World→Prop}(s x:Operand)(t:TypeId)
 (ho:o.op=.call {callee:=.builtin .append,args:=#[s,x],argTypes:=#[t,t]})
 (base:Nat) (e:TypeId) (i:TypeInfo) (z:Value) (size bytes:Nat) (ht:P.underlying t=some (.slice e)) (hi:P.info? e=some i) (hz:i.zero=some z)
 (hsize:i.size=size) (hby:i.bytes=bytes) (hzs:z.cells.size=size) (hsz:0<size)
 (v:Value) (n:Nat) (xs:List Value) (hs:a.eval s=v) (hown:w.ownsRow base e size v n xs)
 (B:Nat) (A:Option Addr) (m c:Nat) (news:List Value) (hx:a.eval x=.slice A m c) (hr:Rd w B size A m news) (h1:∀u∈news,u.oneCell'=true)
 (h63:n+m≤maxLen) (hbytes:(n+m)*bytes≤140737488355328) (hbase:base≤w.heap.size)
 (h:∀v' w',w'.ownsRow base e size v' (n+m) (xs++news)→w.grownBy w' v.ownBlock→(v'.ownBlock=v.ownBlock∨v'.ownBlock=some w.heap.size)→K (a.put o.dst v') w'):o.wp P a w K Q:=by
 obtain⟨v',w',hrun,h2,h3,h4⟩:=kp (P:=P) w base t o.type e i z size bytes ht hi hz hsize hby hzs hsz v n xs hown B A m c news hr h1 h63 hbytes hbase;unfold Oper.wp execOp;simp only[ho,resolve,invoke,builtin,Sem.run_bind,Sem.run_pure,Result.andThen_ok,List.map_toArray,List.map_cons,List.map_nil,hs,hx,hrun];exact h v' w' h2 h3 h4
theorem iR{ops:Array Oper}{rest:List Oper}{o:Oper}{a:Act}{Q:Exit→Act→World→Prop}(hgd:o.guard=none)(s x:Operand)(t:TypeId)
 (ho:o.op=.call {callee:=.builtin .append,args:=#[s,x],argTypes:=#[t,t]})
 (base:Nat) (e:TypeId) (i:TypeInfo) (z:Value) (size bytes:Nat) (ht:P.underlying t=some (.slice e)) (hi:P.info? e=some i) (hz:i.zero=some z)
 (hsize:i.size=size) (hby:i.bytes=bytes) (hzs:z.cells.size=size) (hsz:0<size)
 (v:Value) (n:Nat) (xs:List Value) (hs:a.eval s=v) (hown:w.ownsRow base e size v n xs)
 (B:Nat) (A:Option Addr) (m c:Nat) (news:List Value) (hx:a.eval x=.slice A m c) (hr:Rd w B size A m news) (h1:∀u∈news,u.oneCell'=true)
 (h63:n+m≤maxLen) (hbytes:(n+m)*bytes≤140737488355328) (hbase:base≤w.heap.size)
 (h:∀v' w',w'.ownsRow base e size v' (n+m) (xs++news)→Below base w w'→w.grownBy w' v.ownBlock→wpList P ops Q rest (a.put o.dst v') w'):wpList P ops Q (o::rest) a w:=
 wpList_plain hgd fun _ hK=>jo w s x t ho base e i z size bytes ht hi hz hsize hby hzs hsz v n xs hs hown B A m c news hx hr h1 h63 hbytes hbase fun v' w' h2 h3 _=>hK _ _ (h v' w' h2 ((Below.refl _ _).grown h3 hbase fun k hk=>(hown.lt k hk).1) h3)
def Bt(P:Program)(t e:TypeId):Prop:=P.underlying t=some (.slice e)∧(P.info? e).map (fun i=>(i.zero,i.size,i.bytes))=some (some .b,1,1)
theorem wQ{ops:Array Oper}{rest:List Oper}{o:Oper}{a:Act}{Q:Exit→Act→World→Prop}{t e:TypeId}(hT:Bt P t e)(hgd:o.guard=none)(s x:Operand)
 (ho:o.op=.call {callee:=.builtin .append,args:=#[s,x],argTypes:=#[t,t]})
 (base:Nat) (v:Value) (n:Nat) (l:List UInt8) (hs:a.eval s=v) (hown:w.ownsRow base e 1 v n (l.map B8))
 (B:Nat) (A:Option Addr) (m c:Nat) (ms:List UInt8) (hx:a.eval x=.slice A m c) (hr:Rb w B A m ms) (hbytes:n+m≤140737488355328) (hbase:base≤w.heap.size)
 (h:∀v' w',w'.ownsRow base e 1 v' (n+m) ((l++ms).map B8)→Below base w w'→w.grownBy w' v.ownBlock→wpList P ops Q rest (a.put o.dst v') w'):wpList P ops Q (o::rest) a w:=by
 obtain⟨i0,hi0,hz0,hz1,hz2⟩:=info_parts hT.2;refine iR w hgd s x t ho base e i0 _ 1 1 hT.1 hi0 hz0 hz1 hz2 rfl (by omega) v n _ hs hown B A m c _ hx hr (IB ms) (by unfold maxLen;omega) (by omega) hbase ?_;intro v' w' h1 h2 h3;rw[←List.map_append]at h1;exact h v' w' h1 h2 h3
theorem fQ{ops:Array Oper}{rest:List Oper}{o:Oper}{a:Act}{Q:Exit→Act→World→Prop}{t e:TypeId}{w0:World}{cs:Array Value}{mk:Nat×Nat}(hT:Bt P t e)(hgd:o.guard=none)(s x:Operand)
 (ho:o.op=.call {callee:=.builtin .append,args:=#[s,x],argTypes:=#[t,t]})
 (base:Nat) (v:Value) (n:Nat) (l:List UInt8) (hs:a.eval s=v) (hown:w0.ownsRow base e 1 v n (l.map B8))
 (g m c:Nat) (ms:List UInt8) (hx:a.eval x=.slice (some ⟨g,0,none⟩) m c) (hg:g=w0.heap.size) (hm:ms.length=m) (hcs:cs=(ms.map B8).toArray) (hbytes:n+m≤140737488355328) (hbase:base≤w0.heap.size)
 (h:∀v' w',w'.ownsRow base e 1 v' (n+m) ((l++ms).map B8)→Below base w0 w'→(w0.alloc (.cells cs e mk)).grownBy w' v.ownBlock→wpList P ops Q rest (a.put o.dst v') w'):wpList P ops Q (o::rest) a (w0.alloc (.cells cs e mk)):=by
 subst hg hcs hm;have hr:=Rb.lit w0 e ms mk;refine wQ (w0.alloc _) hT hgd s x ho base v n l hs (hown.alloc _) _ _ _ c ms hx hr hbytes (by simp;omega) ?_;intro v' w' h1 h2 h3;exact h v' w' h1 (((Below.refl _ _).alloc hbase _).trans h2) h3
end
theorem zy{w w':World}{base:Nat}{e:TypeId}{size:Nat}{v:Value}{n:Nat}{xs:List Value}(h:w.ownsRow base e size v n xs)(ha:∀k,v.ownBlock=some k→w'.heap[k]?=w.heap[k]?):w'.ownsRow base e size v n xs:=by
 refine⟨h.1,?_⟩;rcases h.2 with h2|⟨g,cap,cur,rfl,hg,hh,r⟩
 ·exact .inl h2
 ·exact .inr ⟨g,cap,cur,rfl,hg,by rw[ha g rfl];exact hh,r⟩
def SS(w:World)(g:Nat):Prop:=∀i,w.frozen? ⟨g,i,none⟩=false
section
variable{w w':World}{g:Nat}
theorem SS.mv(h:SS w g)(e:w'.heap[g]?=w.heap[g]?):SS w' g:=fun i=>by
 rw[←h i]
 unfold World.frozen?
 dsimp only
 rw[e]
theorem Kn.nf{t:TypeId}{cs:Array Value}(h:Kn w g t cs):SS w g:=h.frozen
theorem G2{t:TypeId}{cs:Array Value}(h:w.heap[g]?=some (.cells cs t (0,0))):SS w g:=Kn.nf h
end
structure El (α:Type) where
 t:TypeId
 k:Nat
 by':Nat
 R:World→(Nat→Prop)→List Value→α→Prop
 pos:0<k
 len:∀{w:World} {P:Nat→Prop} {cs:List Value} {x:α},R w P cs x→cs.length=k
 one:∀{w:World} {P:Nat→Prop} {cs:List Value} {x:α},R w P cs x→∀u∈cs,u.oneCell'=true
 aR:∀{w w':World} {P P':Nat→Prop} {cs:List Value} {x:α},(∀g,P g→P' g)→(∀g,P g→w'.heap[g]?=w.heap[g]?)→R w P cs x→R w' P' cs x
section
variable{α:Type}{E:El α}{w w':World}{P P':Nat→Prop}{v:Value}{xs:List α}{css:List (List Value)}{cs:List Value}{x:α}{lo g n c:Nat}{A:Option Addr}
theorem wV:∀{css:List (List Value)} {k i j:Nat} {cs:List Value} {u:Value},(∀cs∈css,cs.length=k)→css[i]?=some cs→cs[j]?=some u→css.flatten[i*k+j]?=some u:=by
 intro css;induction css with
 |nil=>intro k i j cs u _ h;simp at h
 |cons a r ih=>
  intro k i j cs u h hi hj;have ha:=h a List.mem_cons_self;have hjl:=(List.getElem?_eq_some_iff.1 hj).1;cases i with
  |zero=>
   simp at hi;subst hi;rw[List.flatten_cons,Nat.zero_mul,Nat.zero_add,List.getElem?_append_left hjl];exact hj
  |succ i=>
   rw[List.flatten_cons,List.getElem?_append_right (by rw[ha,Nat.add_mul];omega),ha];rw[show(i+1)*k+j-k=i*k+j by rw[Nat.add_mul];omega];exact ih (fun cs hc=>h cs (List.mem_cons_of_mem _ hc)) (by simpa using hi) hj
def Rr(E:El α)(w:World)(P:Nat→Prop)(v:Value)(xs:List α):Prop:=
 ∃A c,v=.slice A xs.length c∧xs.length≤c∧c≤9223372036854775807∧(0<xs.length→∃g off,A=some ⟨g,off,none⟩∧P g∧SS w g∧∀(i:Nat) (x:α),xs[i]?=some x→∃cs,E.R w P cs x∧∀(j:Nat) (u:Value),cs[j]?=some u→w.cell? ⟨g,off+i*E.k+j,none⟩=some u)
theorem Rr.aR(hP:∀g,P g→P' g)(hk:∀g,P g→w'.heap[g]?=w.heap[g]?)(h:Rr E w P v xs):Rr E w' P' v xs:=by
 obtain⟨A,c,e,h1,h2,h3⟩:=h;refine⟨A,c,e,h1,h2,fun h0=>?_⟩;obtain⟨g,off,e,hg,hz,hc⟩:=h3 h0;refine⟨g,off,e,hP g hg,hz.mv (hk g hg),fun i x hi=>?_⟩;obtain⟨cs,hr,hcell⟩:=hc i x hi;exact⟨cs,E.aR hP hk hr,fun j u hu=>(World.cell?_of_block (a:=⟨g,_,none⟩) (hk g hg)).trans (hcell j u hu)⟩
theorem Rr.nil(E:El α)(w:World)(P:Nat→Prop):Rr E w P .z []:=⟨none,0,rfl,by simp,by omega,fun h=>absurd h (by simp)⟩
theorem Rr.one(h:Rr E w P v xs):v.oneCell'=true:=by
 obtain⟨A,c,rfl,_⟩:=h;rfl
theorem Rr.at{i:Nat}(h:Rr E w P (.slice A n c) xs)(hi:i<n):∃g off x cs,A=some ⟨g,off,none⟩∧P g∧xs[i]?=some x∧E.R w P cs x∧∀j u,cs[j]?=some u→w.cell? ⟨g,off+i*E.k+j,none⟩=some u:=by
 obtain⟨A',c',e,h1,h2,h3⟩:=h;injection e with e1 e2 e3
 subst e1 e2 e3;obtain⟨g,off,e,hg,_,hc⟩:=h3 (by omega);obtain⟨cs,hr,hcell⟩:=hc i xs[i] (List.getElem?_eq_getElem hi);exact⟨g,off,xs[i],cs,e,hg,List.getElem?_eq_getElem hi,hr,hcell⟩
theorem Rr.form(h:Rr E w P v xs):∃A c,v=.slice A xs.length c∧xs.length≤c∧c≤9223372036854775807:=by
 obtain⟨A,c,e,h1,h2,_⟩:=h;exact⟨A,c,e,h1,h2⟩
theorem Rr.blk{t:TypeId}{cells:Array Value}(h:Kn w g t cells)(hcs:cells.toList=css.flatten)(hl:css.length=xs.length)(hR:∀(i:Nat) (cs:List Value) (x:α),css[i]?=some cs→xs[i]?=some x→E.R w P cs x)(hP:P g)(hn:n=xs.length)(hm:n≤9223372036854775807):Rr E w P (.slice (some ⟨g,0,none⟩) n n) xs:=by
 subst hn;refine⟨_,_,rfl,Nat.le_refl _,hm,fun _=>⟨g,0,rfl,hP,h.nf,fun i x hi=>?_⟩⟩;have hil:=(List.getElem?_eq_some_iff.1 hi).1;have hlen:∀cs∈css,cs.length=E.k:=fun cs hc=>by
  obtain⟨i,hi,e⟩:=List.mem_iff_getElem.1 hc
  exact E.len (hR i cs xs[i] (by rw[←e];exact List.getElem?_eq_getElem hi) (List.getElem?_eq_getElem (by omega)))
 have hci:css[i]?=some css[i]:=List.getElem?_eq_getElem (by omega);refine⟨css[i],hR i _ x hci hi,fun j u hu=>?_⟩;have h1:=wV hlen hci hu;rw[←hcs]at h1;have h2:=h.cell (i*E.k+j);rw[Nat.zero_add,h2];simpa using h1
theorem Ic{w:World}{base:Nat}{e:TypeId}{size:Nat}{g n c:Nat}{xs:List Value}(h:w.ownsRow base e size (.slice (some ⟨g,0,none⟩) n c) n xs):SS w g:=by
 rcases h.2 with⟨e,_⟩|⟨g',cap,cur,e,_,hg,_⟩
 ·cases e
 ·injection e with e
  injection e with e
  injection e with e
  subst e;exact G2 hg
def Pow(w:World)(lo:Nat)(v:Value):Nat→Prop:=fun g=>lo≤g∧g<w.heap.size∧some g≠v.ownBlock
def Ro(E:El α)(w:World)(lo:Nat)(v:Value)(xs:List α):Prop:=
 ∃css:List (List Value),css.length=xs.length∧w.ownsRow lo E.t E.k v xs.length css.flatten∧∀(i:Nat) (cs:List Value) (x:α),css[i]?=some cs→xs[i]?=some x→E.R w (Pow w lo v) cs x
theorem Ro.nil(E:El α)(w:World)(lo:Nat):Ro E w lo .z []:=⟨[],rfl,fI _ _ _ _,fun i cs x h=>by simp at h⟩
theorem Ro.grown{row:Option Nat}(h:Ro E w lo v xs)(hg:w.grownBy w' row)(hr:∀k,row=some k→k<lo):Ro E w' lo v xs:=by
 obtain⟨css,h1,h2,h3⟩:=h;refine⟨css,h1,h2.kept hg ?_,fun i cs x hi hx=>?_⟩
 ·cases hv:v.ownBlock with
  |none=>exact .inl rfl
  |some k=>
   right;intro e;have:=h2.lt k hv;have:=hr k e.symm;omega
 ·refine E.aR (fun g hp=>⟨hp.1,Nat.lt_of_lt_of_le hp.2.1 hg.size,hp.2.2⟩) (fun g hp=>?_) (h3 i cs x hi hx);refine hg.block g hp.2.1 fun e=>?_
  have:=hr g e.symm;have:=hp.1;omega
theorem Ro.below(h:Ro E w lo v xs)(hb:Below w.heap.size w w'):Ro E w' lo v xs:=
 h.grown (row:=none) ⟨hb.os,hb.tape,hb.output,hb.size,fun k hk _=>hb.block k hk⟩ (fun k e=>by cases e)
theorem Ro.form(h:Ro E w lo v xs):∃A c,v=.slice A xs.length c∧xs.length≤c∧c≤9223372036854775807:=by
 obtain⟨css,h1,h2,h3⟩:=h;obtain⟨A,c,e,_,c1,c2⟩:=fO h2;exact⟨A,c,e,c1,by unfold maxLen at c2;omega⟩
theorem Ro.rr(h:Ro E w lo v xs):Rr E w (fun g=>lo≤g∧g<w.heap.size) v xs:=by
 obtain⟨css,h1,h2,h3⟩:=h;obtain⟨A,c,rfl,hA,c1,c2⟩:=fO h2;refine⟨A,c,rfl,c1,by unfold maxLen at c2;omega,fun h0=>?_⟩;have hl:∀cs∈css,cs.length=E.k:=fun cs hc=>by
  obtain⟨i,hi,e⟩:=List.mem_iff_getElem.1 hc
  exact E.len (h3 i cs xs[i] (by rw[←e];exact List.getElem?_eq_getElem hi) (List.getElem?_eq_getElem (by omega)))
 obtain⟨g,cap,e,hg1,hg2,_⟩:=Eh h2 h0;injection e with e
 subst e;refine⟨g,0,rfl,⟨hg1,hg2⟩,Ic h2,fun i x hi=>?_⟩;have hil:=(List.getElem?_eq_some_iff.1 hi).1;refine⟨css[i],E.aR (fun g hp=>⟨hp.1,hp.2.1⟩) (fun _ _=>rfl) (h3 i _ x (List.getElem?_eq_getElem (by omega)) hi),fun j u hu=>?_⟩;have:=h2.cells (g:=g) rfl (i*E.k+j) u (wV hl (List.getElem?_eq_getElem (by omega)) hu);rw[addr_add]at this;rw[Nat.add_assoc];exact this
def El.Info(E:El α)(P:Program):Prop:=∃i z,P.info? E.t=some i∧i.zero=some z∧i.size=E.k∧i.bytes=E.by'∧z.cells.size=E.k
theorem Ro.app{Pr:Program}(hI:E.Info Pr){T ty:TypeId}(hT:Pr.underlying T=some (.slice E.t))(hF:Ro E w lo v xs){t:TypeId}{mk:Nat×Nat}(hg:w.heap[g]?=some (.cells cs.toArray t mk))(hx:E.R w (Pow w lo v) cs x)(hm:(xs.length+1)*E.by'≤140737488355328)(hn:xs.length+1≤maxLen)(hlo:lo≤w.heap.size):
 ∃v' w',(Builtin.append_ #[T,T] ty #[v,.slice (some ⟨g,0,none⟩) 1 c]).run Pr w=.ok v' w'∧Ro E w' lo v' (xs++[x])∧w.grownBy w' v.ownBlock∧Below lo w w':=by
 obtain⟨css,h1,h2,h3⟩:=hF;obtain⟨i0,z0,hi,hz,hs,hb,hzs⟩:=hI;have hcl:=E.len hx;have hr:Rd w (g+1) E.k (some ⟨g,0,none⟩) 1 cs:=by refine⟨by omega,fun _=>⟨g,0,rfl,by omega,fun j u hu=>?_⟩⟩;have:=cell_of_row w g j cs.toArray t mk hg;rw[Nat.zero_add,this];simpa using hu
 obtain⟨v',w',hrun,k1,k2,k3⟩:=kp (P:=Pr) w lo T ty E.t i0 z0 E.k E.by' hT hi hz hs hb hzs E.pos v xs.length css.flatten h2 (g+1) (some ⟨g,0,none⟩) 1 c cs hr (E.one hx) hn hm hlo;have hbl:Below lo w w':=(Below.refl _ _).grown k2 hlo fun k hk=>(h2.lt k hk).1
 have hP:∀g,Pow w lo v g→Pow w' lo v' g:=fun g hp=>⟨hp.1,Nat.lt_of_lt_of_le hp.2.1 k2.size,by
  rcases k3 with e|e
  ·rw[e];exact hp.2.2
  ·rw[e];intro q;injection q with q;have:=hp.2.1;omega⟩
 have hC:∀g,Pow w lo v g→w'.heap[g]?=w.heap[g]?:=fun g hp=>k2.block g hp.2.1 hp.2.2
 refine⟨v',w',hrun,⟨css++[cs],by simp[h1],by rw[List.length_append,List.flatten_append];simpa using k1,fun i cs' x' hi hx'=>?_⟩,k2,hbl⟩;by_cases hlt:i<css.length
 ·rw[List.getElem?_append_left hlt]at hi;rw[List.getElem?_append_left (by omega)]at hx';exact E.aR hP hC (h3 i cs' x' hi hx')
 ·rw[List.getElem?_append_right (by omega)]at hi hx';have:i=css.length:=by have:=(List.getElem?_eq_some_iff.1 hi).1;simp at this;omega
  subst this;rw[h1]at hx';simp at hi hx';subst hi hx';exact E.aR hP hC hx
theorem Ro.lit(h:Kn w g E.t cs.toArray)(hlo:lo≤g)(hx:E.R w (fun b=>lo≤b∧b<w.heap.size∧b≠g) cs x):Ro E w lo (.slice (some ⟨g,0,none⟩) 1 1) [x]:=by
 have hcl:=E.len hx;refine⟨[cs],rfl,⟨by simpa using hcl,.inr ⟨g,1,cs.toArray,rfl,hlo,h,by simp,by unfold maxLen;omega,by simpa using hcl,by simp[←hcl]⟩⟩,fun i cs' x' hi hx'=>?_⟩;have:i=0:=by have:=(List.getElem?_eq_some_iff.1 hi).1;simp at this;omega
 subst this;simp at hi hx';subst hi hx';exact E.aR (fun b hp=>⟨hp.1,hp.2.1,by intro e;simp[Value.ownBlock]at e;exact hp.2.2 e⟩) (fun _ _=>rfl) hx
end
def Lex.words:List UInt8:=[32,97,99,116,105,111,110,32,97,100,100,32,97,108,108,32,97,110,100,32,97,115,32,97,115,99,32,98,101,103,105,110,32,98,111,111,108,32,98,121,116,101,115,32,99,97,115,99,97,100,101,32,99,104,101,99,107,32,99,111,109,109,105,116,32,99,111,117,110,116,32,99,114,101,97,116,101,32,100,101,99,32,100,101,108,101,116,101,32,100,101,115,99,32,100,114,111,112,32,102,97,108,115,101,32,102,114,111,109,32,103,114,97,110,116,32,103,114,111,117,112,32,98,121,32,105,110,115,101,114,116,32,105,110,116,32,105,110,116,111,32,105,115,32,106,111,105,110,32,107,101,121,32,108,105,109,105,116,32,109,97,120,32,109,105,110,32,110,111,116,32,110,117,108,108,32,111,110,32,111,112,116,105,111,110,32,111,114,32,111,114,100,101,114,32,112,111,108,105,99,121,32,112,114,105,109,97,114,121,32,114,101,102,101,114,101,110,99,101,115,32,114,101,115,116,114,105,99,116,32,114,101,118,111,107,101,32,114,111,108,101,32,114,111,108,108,98,97,99,107,32,115,101,108,101,99,116,32,115,101,116,32,115,117,109,32,116,97,98,108,101,32,116,101,120,116,32,116,111,32,116,114,105,103,103,101,114,32,116,114,117,101,32,117,110,105,113,117,101,32,117,112,100,97,116,101,32,117,115,101,114,32,117,115,105,110,103,32,118,97,108,117,101,115,32,118,105,101,119,32,119,104,101,114,101,32,119,105,116,104,32,97,102,116,101,114,32]
def Lex.cH:List UInt8→Bool
 |[]=>false
 |c::_=>Lex.letter c
def Lex.word(l:List UInt8):Bool:=decide (1≤l.length)&&(decide (l.length≤24)&&(Lex.cH l&&decide (Lex.span Lex.aL l=l.length)))
def Lex.bL(l:List UInt8):Bool:=Lex.word l&&Lib.contains Lex.words (32::(l++[32]))
def Lex.name(l:List UInt8):Bool:=Lex.word l&&!Lex.bL l
namespace Ev
abbrev V:=Cell.Val
structure Hd where
 o:UInt8
 v:V
 nm:ByteArray
 of:ByteArray
 n:Int
inductive Ex where
 |mk (h:Hd) (ks:List Ex)
def Ex.hd:Ex→Hd
 | .mk h _=>h
def Ex.ks:Ex→List Ex
 | .mk _ ks=>ks
def inR(v:V):Prop:= -9223372036854775808≤v.n∧v.n≤9223372036854775807
end Ev
def Tt(v:Cell.Val):Prop:=v.s.size≤maxLen∧Ev.inR v
def pG(h:Ev.Hd):Prop:=Tt h.v∧h.nm.size≤maxLen∧h.of.size≤maxLen∧ -9223372036854775808≤h.n∧h.n≤9223372036854775807
def Xx(h:Ev.Hd)(A:Option Addr)(m c:Nat):Value:=.agg #[.u (h.o.toNat:Int),.u (h.v.k.toNat:Int),.i h.v.n,.s h.v.s,.s h.nm,.s h.of,.i h.n,.slice A m c]
def Mu(w:World)(P:Nat→Prop):Nat→Option Addr→Nat→List Ev.Ex→Prop
 |0,_,m,ks=>m=0∧ks=[]
 |d+1,A,m,ks=>m=ks.length∧m*104≤140737488355328∧(0<m→∃g off,A=some ⟨g,off,none⟩∧P g∧SS w g∧∀(i:Nat) (h:Ev.Hd) (ks':List Ev.Ex),ks[i]?=some (.mk h ks')→∃A' c',
  w.cell? ⟨g,off+i*8,none⟩=some (.u (h.o.toNat:Int))∧w.cell? ⟨g,off+i*8+1,none⟩=some (.u (h.v.k.toNat:Int))∧w.cell? ⟨g,off+i*8+2,none⟩=some (.i h.v.n)∧w.cell? ⟨g,off+i*8+3,none⟩=some (.s h.v.s)∧
  w.cell? ⟨g,off+i*8+4,none⟩=some (.s h.nm)∧w.cell? ⟨g,off+i*8+5,none⟩=some (.s h.of)∧w.cell? ⟨g,off+i*8+6,none⟩=some (.i h.n)∧w.cell? ⟨g,off+i*8+7,none⟩=some (.slice A' ks'.length c')∧
  ks'.length≤c'∧c'≤9223372036854775807∧pG h∧Mu w P d A' ks'.length ks')
section
variable{w w':World}{P P':Nat→Prop}
theorem Mu.len:∀{d:Nat} {A:Option Addr} {m:Nat} {ks:List Ev.Ex},Mu w P d A m ks→m=ks.length∧m*104≤140737488355328:=by
 intro d;cases d with
 |zero=>intro A m ks h;obtain⟨rfl,rfl⟩:=h;exact⟨rfl,by omega⟩
 |succ d=>intro A m ks h;exact⟨h.1,h.2.1⟩
theorem Mu.aR(hP:∀g,P g→P' g)(hk:∀g,P g→w'.heap[g]?=w.heap[g]?):∀{d:Nat} {A:Option Addr} {m:Nat} {ks:List Ev.Ex},Mu w P d A m ks→Mu w' P' d A m ks:=by
 intro d;induction d with
 |zero=>intro A m ks h;exact h
 |succ d ih=>
  intro A m ks h;obtain⟨h1,h2,h3⟩:=h;refine⟨h1,h2,fun h0=>?_⟩;obtain⟨g,off,e,hg,hz,hc⟩:=h3 h0;have hk2:∀o,w'.cell? ⟨g,o,none⟩=w.cell? ⟨g,o,none⟩:=fun o=>World.cell?_of_block (a:=⟨g,o,none⟩) (hk g hg)
  refine⟨g,off,e,hP g hg,hz.mv (hk g hg),fun i h ks' hi=>?_⟩;obtain⟨A',c',c0,c1,c2,c3,c4,c5,c6,c7,e1,e2,e3,e4⟩:=hc i h ks' hi;exact⟨A',c',(hk2 _).trans c0,(hk2 _).trans c1,(hk2 _).trans c2,(hk2 _).trans c3,(hk2 _).trans c4,(hk2 _).trans c5,(hk2 _).trans c6,(hk2 _).trans c7,e1,e2,e3,ih e4⟩
theorem Mu.next{d m:Nat}{A:Option Addr}{ks:List Ev.Ex}(h:Mu w (· <w.heap.size) d A m ks)(hb:Below w.heap.size w w'):Mu w' (· <w'.heap.size) d A m ks:=
 Mu.aR (fun _ hg=>Nat.lt_of_lt_of_le hg hb.size) (fun b hg=>hb.block b hg) h
theorem Mu.nil(w:World)(P:Nat→Prop)(d:Nat)(A:Option Addr):Mu w P d A 0 []:=by
 cases d with
 |zero=>exact⟨rfl,rfl⟩
 |succ d=>exact⟨rfl,by omega,fun h=>absurd h (by omega)⟩
theorem Mu.at{d m i:Nat}{A:Option Addr}{ks:List Ev.Ex}(h:Mu w P d A m ks)(hi:i<m):∃d' g off hd ks' A' c',d=d'+1∧A=some ⟨g,off,none⟩∧P g∧ks[i]?=some (.mk hd ks')∧
 w.cell? ⟨g,off+i*8,none⟩=some (.u (hd.o.toNat:Int))∧w.cell? ⟨g,off+i*8+1,none⟩=some (.u (hd.v.k.toNat:Int))∧w.cell? ⟨g,off+i*8+2,none⟩=some (.i hd.v.n)∧w.cell? ⟨g,off+i*8+3,none⟩=some (.s hd.v.s)∧
 w.cell? ⟨g,off+i*8+4,none⟩=some (.s hd.nm)∧w.cell? ⟨g,off+i*8+5,none⟩=some (.s hd.of)∧w.cell? ⟨g,off+i*8+6,none⟩=some (.i hd.n)∧w.cell? ⟨g,off+i*8+7,none⟩=some (.slice A' ks'.length c')∧
 ks'.length≤c'∧c'≤9223372036854775807∧pG hd∧Mu w P d' A' ks'.length ks':=by
 cases d with
 |zero=>obtain⟨rfl,_⟩:=h;omega
 |succ d=>
  obtain⟨h1,h2,h3⟩:=h;obtain⟨g,off,e,hg,_,hc⟩:=h3 (by omega);have hk:ks[i]?=some ks[i]:=List.getElem?_eq_getElem (by omega);obtain⟨hd,ks',hx⟩:∃hd ks',ks[i]=Ev.Ex.mk hd ks':=by
   cases hq:ks[i]with
   |mk hd ks'=>exact⟨hd,ks',rfl⟩
  rw[hx]at hk;obtain⟨A',c',hall⟩:=hc i hd ks' hk;exact⟨d,g,off,hd,ks',A',c',rfl,e,hg,hk,hall⟩
end
end Go.Proofs.YtnicfobpclehkaaGreatDoor
