import Derived.Deep.LoopGhost
import Derived.Test.YtnicfobpclehkaaGreatDoorP7
set_option maxHeartbeats 3200000
set_option linter.unusedVariables false
set_option linter.unusedSimpArgs false
namespace Go.Proofs.YtnicfobpclehkaaGreatDoor
open Go.RowKit
section
set_option maxRecDepth 100000
namespace I
theorem wG(T:Nat)(s:Bs)(st:St):dh s st=hit s (fj T st):=by
 unfold dh fj;cases st.r with
 |nil=>rfl
 |cons t r=>rfl
theorem AB{s:Bs}{t:Tok}(hk:t.1.toNat=1∨t.1.toNat=5)(hs:t.2.1=s):hit s t=true:=by
 unfold hit;have:t.1=1∨t.1=5:=by
  rcases hk with h|h
  ·exact .inl (aF.1 h)
  ·exact .inr (aF.1 h)
 rcases this with h|h<;>simp[h,hs]
theorem D2{s:Bs}{t:Tok}(h:¬(t.1.toNat=1∨t.1.toNat=5)∨t.2.1≠s):hit s t=false:=by
 unfold hit;rcases h with h|h
 ·have h1:¬t.1=1:=fun e=>h (.inl (by rw[e];rfl))
  have h5:¬t.1=5:=fun e=>h (.inr (by rw[e];rfl))
  simp[h1,h5]
 ·simp[h]
theorem ga{s:Bs}{st:St}(h:dh s st=true):acc s st=next st:=by unfold acc;rw[if_pos h]
theorem ic{s:Bs}{st:St}(h:dh s st=false):acc s st=st:=by unfold acc;rw[if_neg (by rw[h];decide)]
theorem oR{s:Bs}{st:St}(h:dh s st=true):st.r≠[]:=by
 intro e;unfold dh at h;rw[e]at h;cases h
end I
theorem PB.next{C:RC}{st:I.St}{w:World}{k:Nat}(h:PB C st w k)(hk:k≤C.ts.length):PB C (I.next st) (w.setCell ⟨C.g,2,none⟩ (.int .i64 ((k:Int)+1))) (k+1):=by
 obtain⟨h1,h2,h3⟩:=h;refine⟨by simpa[I.next]using h1.put 2 (.int .i64 ((k:Int)+1)),?_,by omega⟩;unfold I.next
 rw[h2,List.tail_drop]
theorem PB.cells{C:RC}{st:I.St}{w:World}{k:Nat}(h:PB C st w k):w.cell? ⟨C.g,0,none⟩=some (.string C.text)∧w.cell? ⟨C.g,1,none⟩=some (.slice C.A C.ts.length C.c)∧w.cell? ⟨C.g,2,none⟩=some (.int .i64 (k:Int))∧w.cell? ⟨C.g,3,none⟩=some (.int .i64 (st.e:Int))∧w.cell? ⟨C.g,4,none⟩=some (.int .i64 (st.c:Int))∧w.cell? ⟨C.g,5,none⟩=some (.bool st.d)∧(∀j,w.frozen? ⟨C.g,j,none⟩=false):=by
 have hB:=h.1;exact⟨hB.cell 0,hB.cell 1,hB.cell 2,hB.cell 3,hB.cell 4,hB.cell 5,fun j=>hB.frozen j⟩
theorem eF(C:RC)(s:ByteArray)(st:I.St)(w:World)(h:PS C st w):
 Calls Tryz.prog 25 #[.pointer (some ⟨C.g,0,none⟩),.string s] w fun e w'=>e=.returned (.bool (I.dh s.data.toList st))∧PS C (I.acc s.data.toList st) w'∧Ch C.g w.heap.size w w':=by
 have NK:=h.lt;have HP:=cN h;clear h;have HA:=cN (I.wG C.text.size s.data.toList st);obtain⟨t,ht⟩:∃t,t=I.fj C.text.size st:=⟨_,rfl⟩;rw[←ht]at HA;obtain⟨tk,ts,ta⟩:=t;have HT:=cN ht;clear ht;have HL:=cN (Lib.toList_data s);have hN:=C.ok.len;have hCs:=C.small;go_enter Tryz.func25,Tryz.ntmps25;go_wp2_with fail
 with_reducible refine(jX C st _ HP.o).mono ?_
 rintro e w1 ⟨rfl,hb⟩;rw[←HT.o];unfold qa;simp only;have Oa:=cN (HP.o.below hb NK);have Oh:=cN ((Ch.refl C.g w.heap.size w).below hb (aa _));have hs1:=hb.size;clear hb;have hlt1:C.g<w1.heap.size:=by omega
 by_cases hk:tk.toNat=1∨tk.toNat=5
 ·cases hq:(ts==s.toList)with
  |true=>
   have HY:Hid (I.dh s.data.toList st=true):=HA.o.trans (I.AB hk (by rw[←HL.o];simpa using hq));obtain⟨k,hpb⟩:=Oa.o.1;have hkl:k<C.ts.length:=by
    have h1:=I.oR HY.o;rw[hpb.2.1]at h1;by_cases h2:k<C.ts.length
    ·exact h2
    ·exact absurd (bc (by omega)) h1
   obtain⟨x0,x1,x2,x3,x4,x5,xf⟩:=hpb.cells;have VE:=xf 2;have HB:=cN hpb;clear hpb x0 x1 x3 x4 x5 xf;rcases hk with hk|hk
   all_goals
    first
     |(have t1:((tk.toNat:Int)==1)=true:=by simp;omega
       clear hk
       go_wp2_with fail)
     |(have t1:((tk.toNat:Int)==1)=false:=by simp;omega
       have t5:((tk.toNat:Int)==5)=true:=by simp;omega
       clear hk
       go_wp2_with fail)
    go_ret
    refine⟨by rw[HY.o]<;>rfl,?_,?_⟩
    ·rw[I.ga HY.o];exact(Oa.o.put ((Ch.refl _ _ _).set (p:=⟨C.g,2,none⟩) (.inl rfl) _) (HB.o.next (by omega))).alloc _
    ·exact(Oh.o.set (p:=⟨C.g,2,none⟩) (.inl rfl) _).alloc (by simpa using hs1) _
  |false=>
   have HY:Hid (I.dh s.data.toList st=false):=HA.o.trans (I.D2 (.inr (by rw[←HL.o];simpa using hq)));rcases hk with hk|hk
   all_goals
    first
     |(have t1:((tk.toNat:Int)==1)=true:=by simp;omega
       clear hk
       go_wp2_with fail)
     |(have t1:((tk.toNat:Int)==1)=false:=by simp;omega
       have t5:((tk.toNat:Int)==5)=true:=by simp;omega
       clear hk
       go_wp2_with fail)
    go_ret
    exact⟨by rw[HY.o]<;>rfl,by rw[I.ic HY.o];exact Oa.o.alloc _,Oh.o.alloc hs1 _⟩
 ·have HY:Hid (I.dh s.data.toList st=false):=HA.o.trans (I.D2 (.inl hk));have t1:((tk.toNat:Int)==1)=false:=by simp;omega
  have t5:((tk.toNat:Int)==5)=false:=by simp;omega
  clear hk;go_wp2_with fail
  go_ret;exact⟨by rw[HY.o]<;>rfl,by rw[I.ic HY.o];exact Oa.o.alloc _,Oh.o.alloc hs1 _⟩
theorem uD(C:RC)(x:Int)(n:Nat)(st:I.St)(w:World)(h:PS C st w)(hx:x=(n:Int)):
 Calls Tryz.prog 26 #[.pointer (some ⟨C.g,0,none⟩),.int .i64 x] w fun e w'=>e=.returned (.tuple #[])∧PS C (I.fail C.text.size n st) w'∧Ch C.g w.heap.size w w'∧PB C (I.fail C.text.size n st) w' C.ts.length:=by
 subst hx;have NK:=h.lt;have HP:=cN h;clear h;have hN:=C.ok.len;have hCs:=C.small;obtain⟨k,hpb⟩:=HP.o.1;obtain⟨x0,x1,x2,x3,x4,x5,xf⟩:=hpb.cells;have HB:=cN hpb;have VE:=xf 2;have xf3:=xf 3;have xf4:=xf 4;have Hxf:=cN xf;clear hpb xf;by_cases he:st.e=0
 ·have t1:((st.e:Int)==0)=true:=by simp[he]
  have HF:Hid (I.fail C.text.size n st=⟨[],n,(I.fj C.text.size st).2.2,st.d⟩):=by show _=_;unfold I.fail I.place I.fj;rw[if_pos he];cases st.r<;>rfl
  clear he;go_enter Tryz.func26,Tryz.ntmps26;go_wp2_with fail
  with_reducible refine(jX C st _ HP.o).mono ?_
  rintro e w1 ⟨rfl,hb⟩;obtain⟨t,ht⟩:∃t,t=I.fj C.text.size st:=⟨_,rfl⟩;rw[←ht]at HF⊢;obtain⟨tk,ts,ta⟩:=t;clear ht;unfold qa;simp only at HF⊢;have Oa:=cN (HP.o.below hb NK);have Oh:=cN ((Ch.refl C.g w.heap.size w).below hb (aa _));have hs1:=hb.size;have HB1:=cN (HB.o.1.below hb NK);clear hb x0 x1 x2 x3 x4 x5 VE xf3 xf4;obtain⟨x1,x2,x3,x4⟩:=HB1.o.y4 1 2 3 4;simp at x1 x2 x3 x4;obtain⟨VE,xf3,xf4⟩:=HB1.o.z3 2 3 4;have kf:=fun(w:World) (a b c:Value)=>Dg w a b c
  go_wp2_with fail
  go_end0;have hpb:PB C ⟨[],n,ta,st.d⟩ ((((w1.setCell ⟨C.g,3,none⟩ (.int .i64 (n:Int))).setCell ⟨C.g,4,none⟩ (.int .i64 (ta:Int))).setCell ⟨C.g,2,none⟩ (.int .i64 (C.ts.length:Int)))) C.ts.length:=⟨by simpa using((HB1.o.put 3 (.int .i64 (n:Int))).put 4 (.int .i64 (ta:Int))).put 2 (.int .i64 (C.ts.length:Int)),by simp,by omega⟩;refine⟨rfl,?_,?_,?_⟩
  ·rw[HF.o];exact Oa.o.put (((((Ch.refl _ _ _).set (p:=⟨C.g,3,none⟩) (.inl rfl) _)).set (p:=⟨C.g,4,none⟩) (.inl rfl) _).set (p:=⟨C.g,2,none⟩) (.inl rfl) _) hpb
  ·exact((Oh.o.set (p:=⟨C.g,3,none⟩) (.inl rfl) _).set (p:=⟨C.g,4,none⟩) (.inl rfl) _).set (p:=⟨C.g,2,none⟩) (.inl rfl) _
  ·rw[HF.o];exact hpb
 ·have t1:((st.e:Int)==0)=false:=by simp[he]
  have HF:Hid (I.fail C.text.size n st=⟨[],st.e,st.c,st.d⟩):=by show _=_;unfold I.fail;rw[if_neg he]
  clear he;go_enter Tryz.func26,Tryz.ntmps26;go_wp2_with fail
  go_end0;have hpb:PB C ⟨[],st.e,st.c,st.d⟩ (w.setCell ⟨C.g,2,none⟩ (.int .i64 (C.ts.length:Int))) C.ts.length:=⟨by simpa using HB.o.1.put 2 (.int .i64 (C.ts.length:Int)),by simp,by omega⟩;refine⟨rfl,?_,?_,?_⟩
  ·rw[HF.o];exact HP.o.put ((Ch.refl _ _ _).set (p:=⟨C.g,2,none⟩) (.inl rfl) _) hpb
  ·exact(Ch.refl _ _ _).set (p:=⟨C.g,2,none⟩) (.inl rfl) _
  ·rw[HF.o];exact hpb
theorem kV(C:RC)(x:Int)(n:Nat)(st:I.St)(w:World)(h:PS C st w)(hx:x=(n:Int)):
 Calls Tryz.prog 26 #[.pointer (some ⟨C.g,0,none⟩),.int .i64 x] w fun e w'=>e=.returned (.tuple #[])∧PS C (I.fail C.text.size n st) w'∧Ch C.g w.heap.size w w':=
 (uD C x n st w h hx).mono fun _ _ h=>⟨h.1,h.2.1,h.2.2.1⟩
end
section
set_option maxRecDepth 100000
def Pg(C:RC)(w:World):Nat→Prop:=fun b=>C.g<b∧b<w.heap.size
theorem Pg.up{C:RC}{w w':World}(h:w.heap.size≤w'.heap.size):∀b,Pg C w b→Pg C w' b:=fun _ hb=>⟨hb.1,aB hb.2 h⟩
theorem Rr.ch{α:Type}{E:El α}{C:RC}{w w':World}{v:Value}{xs:List α}(h:Rr E w (Pg C w) v xs)(hc:Ch C.g w.heap.size w w'):Rr E w' (Pg C w') v xs:=
 h.dH (Pg.up hc.size) fun b o hb=>hc.cell hb.2 (by have:=hb.1;omega)
theorem Rr.ch2{α:Type}{E:El α}{C:RC}{w0 w w':World}{v:Value}{xs:List α}(h:Rr E w (Pg C w0) v xs)(hs:w0.heap.size≤w.heap.size)(hc:Ch C.g w.heap.size w w'):Rr E w' (Pg C w0) v xs:=
 h.dH (fun _ h=>h) fun b o hb=>hc.cell (aB hb.2 hs) (by have:=hb.1;omega)
def Ql:El I.Bs where
 t:=9
 k:=1
 by':=16
 R:=fun _ _ cs x=>cs=[.string (I.bs x)]
 pos:=by decide
 len:=fun h=>by rw[h];rfl
 one:=fun h=>by rw[h];intro u hu;simp at hu;rw[hu];rfl
 dH:=fun _ _ h=>h
def IP:El (I.Bs×UInt8) where
 t:=250
 k:=2
 by':=24
 R:=fun _ _ cs x=>cs=[.string (I.bs x.1),.int .u8 (x.2.toNat:Int)]
 pos:=by decide
 len:=fun h=>by rw[h];rfl
 one:=fun h=>by rw[h];intro u hu;simp at hu;rcases hu with rfl|rfl<;>rfl
 dH:=fun _ _ h=>h
theorem dA(l:I.Bs):(I.bs l).data.toList=l:=by simp[I.bs]
theorem oF{C:RC}{w:World}{g n:Nat}{t:TypeId}{cells:Array Value}{ss:List I.Bs}(h:NA w g t cells)(hc:cells.toList=ss.map fun s=>Value.string (I.bs s))(hg:C.g<g)(hn:n=ss.length)(hm:n≤1000):Rr Ql w (Pg C w) (.slice (some ⟨g,0,none⟩) n n) ss:=by
 refine Rr.blk (css:=ss.map fun s=>[Value.string (I.bs s)]) h ?_ (by simp) (fun i cs x h1 h2=>?_) ⟨hg,h.lt⟩ hn (by omega)
 ·rw[hc];clear hc h hn;induction ss with
  |nil=>rfl
  |cons s r ih=>simp only[List.map_cons,List.flatten_cons,←ih];rfl
 ·rw[bf,h2]at h1;injection h1 with h1
  exact h1.symm
theorem kK{C:RC}{w:World}{g n:Nat}{t:TypeId}{cells:Array Value}{ss:List (I.Bs×UInt8)}(h:NA w g t cells)(hc:cells.toList=(ss.map fun s=>[Value.string (I.bs s.1),Value.int .u8 (s.2.toNat:Int)]).flatten)(hg:C.g<g)(hn:n=ss.length)(hm:n≤1000):Rr IP w (Pg C w) (.slice (some ⟨g,0,none⟩) n n) ss:=by
 refine Rr.blk (css:=ss.map fun s=>[Value.string (I.bs s.1),Value.int .u8 (s.2.toNat:Int)]) h hc (by simp) (fun i cs x h1 h2=>?_) ⟨hg,h.lt⟩ hn (by omega);rw[bf,h2]at h1;injection h1 with h1
 exact h1.symm
theorem pT(C:RC)(st:I.St)(w:World)(h:PS C st w):
 Calls Tryz.prog 202 #[.pointer (some ⟨C.g,0,none⟩)] w fun e w'=>e=.returned (.tuple #[])∧PS C (I.fD C.text.size st) w'∧Ch C.g w.heap.size w w':=by
 have NK:=h.lt;have HP:=cN h;clear h;have hN:=C.ok.len;have hCs:=C.small;have hCap:=C.cap;obtain⟨k,hpb⟩:=HP.o.1;obtain⟨x0,x1,x2,x3,x4,x5,xf⟩:=hpb.cells;have Hr:=cN hpb.2.1;clear hpb xf x0 x3 x4 x5;by_cases hlt:k<C.ts.length
 ·have t1:decide (k<C.ts.length)=true:=aq hlt;have HF:Hid (I.fD C.text.size st=I.fail C.text.size 3 st):=by show _=_;unfold I.fD;rw[if_neg];rw[Hr.o];intro e;have:=congrArg List.length e;rw[aJ]at this;simp at this;omega
  clear hlt;go_enter Tryz.func202,Tryz.ntmps202;go_wp2_with fail
  go_quiet (fail);go_wp2_with fail
  with_reducible refine(kV C 3 3 st _ (HP.o.drew _) rfl).mono ?_
  rintro e w1 ⟨rfl,hp,hc⟩;have Oa:=cN hp;have Oh:=cN hc;clear hp hc;go_wp2_with fail
  go_end0;exact⟨rfl,by rw[HF.o];exact Oa.o,((Ch.refl _ _ _).drew _).trans Oh.o (aa _)⟩
 ·have t1:decide (k<C.ts.length)=false:=ar hlt;have HF:Hid (I.fD C.text.size st=I.fail C.text.size 300 st):=by show _=_;unfold I.fD;rw[if_pos];rw[Hr.o,bc (by omega)]
  clear hlt;go_enter Tryz.func202,Tryz.ntmps202;go_wp2_with fail
  go_quiet (fail);go_wp2_with fail
  with_reducible refine(kV C 300 300 st _ (HP.o.drew _) rfl).mono ?_
  rintro e w1 ⟨rfl,hp,hc⟩;have Oa:=cN hp;have Oh:=cN hc;clear hp hc;go_wp2_with fail
  go_end0;exact⟨rfl,by rw[HF.o];exact Oa.o,((Ch.refl _ _ _).drew _).trans Oh.o (aa _)⟩
theorem zL{w:World}{b o:Nat}{v:Value}{x:Obj}(h:w.cell? ⟨b,o,none⟩=some v)(hb:b<w.heap.size):(w.alloc x).cell? ⟨b,o,none⟩=some v:=(World.cell?_of_block (a:=⟨b,o,none⟩) (aL w x b hb)).trans h
theorem rS{C:RC}{st:I.St}{w:World}(h:PS C st w):(I.fj C.text.size st).2.1.length≤4096:=by
 obtain⟨⟨k,hB,hr,_⟩,_⟩:=h;unfold I.fj;cases hq:st.r with
 |nil=>simp
 |cons t r=>
  have hm:t∈C.ts:=by rw[hr]at hq;exact List.mem_of_mem_drop (i:=k) (by rw[hq];exact ag)
  have:=C.ok.str t hm;have:=C.small;simp only;omega
theorem sP(C:RC)(st:I.St)(w:World)(h:PS C st w):
 Calls Tryz.prog 200 #[.pointer (some ⟨C.g,0,none⟩)] w fun e w'=>e=.returned (.bool (I.named st))∧Below w.heap.size w w':=by
 have NK:=h.lt;have HP:=cN h;have hts:=rS h;clear h;have HN:Hid (I.named st=(decide ((I.fj C.text.size st).1=1)&&!Lex.fJ (I.fj C.text.size st).2.1)):=by show _=_;unfold I.named I.fj;cases st.r<;>rfl
 obtain⟨t,ht⟩:∃t,t=I.fj C.text.size st:=⟨_,rfl⟩;rw[←ht]at HN hts;obtain⟨tk,ts,ta⟩:=t;have HT:=cN ht;clear ht;simp only at hts;go_enter Tryz.func200,Tryz.ntmps200;go_wp2_with fail
 with_reducible refine(jX C st _ HP.o).mono ?_
 rintro e w1 ⟨rfl,hb⟩;rw[←HT.o];unfold qa;simp only;have Oa:=cN (HP.o.below hb NK);have HB1:=cN hb;have hs1:=hb.size;clear hb;obtain⟨m,te,pe,tf,pf,hm,-,-⟩:=Oa.o.2.2;have h6:=C.six;have hz1:0<w1.heap.size:=by omega
 by_cases hk:tk.toNat=1
 ·have t1:((tk.toNat:Int)==1)=true:=by simp;omega
  have hsz:(⟨ts.toArray⟩:ByteArray).size≤maxLen:=by have:=eI ⟨ts.toArray⟩;simp at this;unfold maxLen;omega
  have Xz:Hid (I.named st=!Lex.fJ ts):=by show _=_;rw[HN.o,aq (by exact aF.1 hk),cD]
  clear hk;go_wp2_with fail
  with_reducible refine(ur ⟨ts.toArray⟩ m _ hsz (zL hm hz1)).mono ?_
  rintro e w2 ⟨rfl,hw⟩;subst hw;go_wp2_with fail
  go_ret;exact⟨by rw[Xz.o]<;>rfl,HB1.o.alloc hs1 _⟩
 ·have t1:((tk.toNat:Int)==1)=false:=by simp;omega
  have Xz:Hid (I.named st=false):=by show _=_;rw[HN.o,ar (fun e=>hk (by rw[show tk=1 from e];rfl)),Bool.false_and]
  clear hk;go_wp2_with fail
  go_ret;exact⟨by rw[Xz.o]<;>rfl,HB1.o.alloc hs1 _⟩
end
section
set_option maxRecDepth 100000
theorem rb(C:RC)(st:I.St)(w:World)(h:PS C st w):
 Calls Tryz.prog 131 #[.pointer (some ⟨C.g,0,none⟩)] w fun e w'=>e=.returned (.string (I.bs (I.name C.text.size st).1))∧PS C (I.name C.text.size st).2 w'∧Ch C.g w.heap.size w w':=by
 have NK:=h.lt;have HP:=cN h;clear h;have hN:=C.ok.len;have hCs:=C.small;go_enter Tryz.func131,Tryz.ntmps131;go_wp2_with fail
 with_reducible refine(sP C st _ HP.o).mono ?_
 rintro e w1 ⟨rfl,hb⟩;have Oa:=cN (HP.o.below hb NK);have Oh:=cN ((Ch.refl C.g w.heap.size w).below hb (aa _));have hs1:=hb.size;clear hb;cases hn:I.named st with
 |false=>
  have HF:Hid (I.name C.text.size st=([],I.fail C.text.size 300 st)):=by show _=_;unfold I.name;rw[hn];cases st.r<;>rfl
  clear hn;go_wp2_with fail
  with_reducible refine(kV C 300 300 st _ Oa.o rfl).mono ?_
  rintro e w2 ⟨rfl,hp,hc⟩;have Ow:=cN hp;have P7:=cN (Oh.o.trans hc hs1);clear hp hc;go_wp2_with fail
  go_ret;exact⟨by rw[HF.o]<;>rfl,by rw[HF.o];exact Ow.o,P7.o⟩
 |true=>
  have hne:st.r≠[]:=by intro e;unfold I.named at hn;rw[e]at hn;cases hn
  have HF:Hid (I.name C.text.size st=((I.fj C.text.size st).2.1,I.next st)):=by
   show _=_;unfold I.name I.fj;rw[hn];cases hr:st.r with
   |nil=>exact absurd hr hne
   |cons t r=>rfl
  have Hne:=cN hne;clear hn hne;obtain⟨t,ht⟩:∃t,t=I.fj C.text.size st:=⟨_,rfl⟩;rw[←ht]at HF;obtain⟨tk,ts,ta⟩:=t;have HT:=cN ht;clear ht;go_wp2_with fail
  with_reducible refine(jX C st _ Oa.o).mono ?_
  rintro e w2 ⟨rfl,hb⟩;rw[←HT.o];unfold qa;simp only;have Ow:=cN (Oa.o.below hb (by omega));have P7:=cN (Oh.o.below hb hs1);have hs2:=hb.size;clear hb;obtain⟨k,hpb⟩:=Ow.o.1;obtain⟨x0,x1,x2,x3,x4,x5,xf⟩:=hpb.cells;have VE:=xf 2;have HB:=cN hpb;have hkl:k<C.ts.length:=by
   have h1:=Hne.o;rw[hpb.2.1]at h1;by_cases h2:k<C.ts.length
   ·exact h2
   ·exact absurd (bc (by omega)) h1
  clear hpb x0 x1 x3 x4 x5 xf;have kf:=fun(w:World) (a b c:Value)=>DI w a b c
  go_wp2_with fail
  go_ret;exact⟨by rw[HF.o]<;>rfl,by rw[HF.o];exact Ow.o.put ((Ch.refl _ _ _).set (p:=⟨C.g,2,none⟩) (.inl rfl) _) (HB.o.next (by omega)),P7.o.set (p:=⟨C.g,2,none⟩) (.inl rfl) _⟩
namespace I
theorem vA{T:Nat}{ss:List Bs}{k:Nat}{s:Bs}(h:ss[k]?=some s)(st:St):expect T (ss.drop k) st=if dh s st=true then expect T (ss.drop (k+1)) (next st)else fail T 300 st:=by
 obtain⟨hk,e⟩:=ay.1 h;rw[aY hk,e,expect]
theorem vz{T:Nat}{ss:List Bs}{k:Nat}{s:Bs}(h:ss[k]?=some s)(st:St):choose T k (ss.drop k) st=if dh s st=true then(k,next st)else choose T (k+1) (ss.drop (k+1)) st:=by
 obtain⟨hk,e⟩:=ay.1 h;rw[aY hk,e,choose]
theorem ER{ss:List (Bs×UInt8)}{k:Nat}{s:Bs×UInt8}(h:ss[k]?=some s)(st:St):one (ss.drop k) st=if dh s.1 st=true then(s.2,next st)else one (ss.drop (k+1)) st:=by
 obtain⟨hk,e⟩:=ay.1 h;rw[aY hk,e,one]
end I
theorem lG(C:RC)(v:Value)(ss:List I.Bs)(st:I.St)(w:World)(h:PS C st w)(hl:Rr Ql w (Pg C w) v ss):
 Calls Tryz.prog 133 #[.pointer (some ⟨C.g,0,none⟩),v] w fun e w'=>e=.returned (.tuple #[])∧PS C (I.expect C.text.size ss st) w'∧Ch C.g w.heap.size w w':=by
 have NK:=h.lt;obtain⟨A,c,rfl,hc1,hc2⟩:=hl.form;obtain⟨n,hn⟩:∃n,n=ss.length:=⟨_,rfl⟩;rw[←hn]at hl hc1⊢;have HN:=cN hn;have HP:=cN h;have HL:=cN hl;clear h hl hn;go_enter Tryz.func133,Tryz.ntmps133;go_wp2_with fail
 go_loopg [8] n (fun gg i wr=>∃(k:Nat) (s1:I.St),k≤n∧gg=n-k∧i=.int .i64 (k:Nat)∧Hid (I.expect C.text.size ss st=I.expect C.text.size (ss.drop k) s1)∧Hid (PS C s1 wr)∧Hid (Ch C.g w.heap.size w wr));case atStart=>exact⟨0,st,ao _,rfl,rfl,cN rfl,HP,cN (Ch.refl _ _ _)⟩
 case round=>
  obtain⟨k,s1,hk,rfl,rfl,HE,Oa,Oh⟩:=hrel;obtain⟨w5,Qc⟩:∃w5,w5=wr:=⟨_,rfl⟩;subst Qc;have hs5:=Oh.o.size;by_cases hlt:k<n
  ·have Tn:=cN (HL.o.ch2 (aa _) Oh.o);obtain⟨b,off,s,cs,rfl,hb,hsk,hcs,hcell⟩:=Tn.o.at hlt;have e1:cs=[.string (I.bs s)]:=hcs;subst e1;have c0:=hcell 0 _ rfl;simp[Ql]at c0;have HS:=cN (I.vA (T:=C.text.size) hsk s1);have q1:(k:Int)<(n:Int):=by omega
   clear hsk hcs hcell hb Tn;go_wp2_with fail
   with_reducible refine(eF C (I.bs s) s1 _ Oa.o).mono ?_
   rintro e w6 ⟨rfl,hp,hc⟩;rw[dA]at hp⊢;have PE:=cN hp;have Qm:=cN (Oh.o.trans hc hs5);clear hp hc c0;cases ha:I.dh s s1 with
   |true=>
    have HE2:Hid (I.expect C.text.size ss st=I.expect C.text.size (ss.drop (k+1)) (I.next s1)):=by show _=_;rw[HE.o,HS.o,if_pos ha]
    have QA:Hid (PS C (I.next s1) w6):=by have:=PE.o;rw[I.ga ha]at this;exact this
    clear ha;go_wp2_with fail
    go_roundg (n-(k+1));case measure=>omega
    case rel=>exact⟨k+1,I.next s1,by omega,rfl,by go_num,HE2,QA,Qm⟩
   |false=>
    have HE2:Hid (I.expect C.text.size ss st=I.fail C.text.size 300 s1):=by show _=_;rw[HE.o,HS.o,if_neg (by rw[ha];decide)]
    have QA:Hid (PS C s1 w6):=by have:=PE.o;rw[I.ic ha]at this;exact this
    have hs6:=Qm.o.size;clear ha;go_wp2_with fail
    with_reducible refine(kV C 300 300 s1 _ QA.o rfl).mono ?_
    rintro e w7 ⟨rfl,hp,hc⟩;have Sx:=cN hp;have SP:=cN (Qm.o.trans hc hs6);clear hp hc;go_wp2_with fail
    exact ae (v:=.tuple #[]) (aA rfl _ _ _) rfl ⟨rfl,by rw[HE2.o];exact Sx.o,SP.o⟩
  ·have hkn:k=n:=by omega
   have HE2:Hid (I.expect C.text.size ss st=s1):=by show _=_;rw[HE.o,hkn,HN.o,bT];rfl
   clear hkn;go_wp2_with fail
   go_end0;exact⟨rfl,by rw[HE2.o];exact Oa.o,Oh.o⟩
theorem Ad(C:RC)(v:Value)(ss:List I.Bs)(st:I.St)(w:World)(h:PS C st w)(hl:Rr Ql w (Pg C w) v ss):
 Calls Tryz.prog 130 #[.pointer (some ⟨C.g,0,none⟩),v] w fun e w'=>e=.returned (.int .i64 ((I.choose C.text.size 0 ss st).1:Int))∧PS C (I.choose C.text.size 0 ss st).2 w'∧Ch C.g w.heap.size w w':=by
 have NK:=h.lt;obtain⟨A,c,rfl,hc1,hc2⟩:=hl.form;obtain⟨n,hn⟩:∃n,n=ss.length:=⟨_,rfl⟩;rw[←hn]at hl hc1⊢;have HN:=cN hn;have HP:=cN h;have HL:=cN hl;clear h hl hn;go_enter Tryz.func130,Tryz.ntmps130;go_wp2_with fail
 go_loopg [9] n (fun gg i wr=>∃(k:Nat) (s1:I.St),k≤n∧gg=n-k∧i=.int .i64 (k:Nat)∧Hid (I.choose C.text.size 0 ss st=I.choose C.text.size k (ss.drop k) s1)∧Hid (PS C s1 wr)∧Hid (Ch C.g w.heap.size w wr));case atStart=>exact⟨0,st,ao _,rfl,rfl,cN rfl,HP,cN (Ch.refl _ _ _)⟩
 case round=>
  obtain⟨k,s1,hk,rfl,rfl,HE,Oa,Oh⟩:=hrel;obtain⟨w5,Qc⟩:∃w5,w5=wr:=⟨_,rfl⟩;subst Qc;have hs5:=Oh.o.size;by_cases hlt:k<n
  ·have Tn:=cN (HL.o.ch2 (aa _) Oh.o);obtain⟨b,off,s,cs,rfl,hb,hsk,hcs,hcell⟩:=Tn.o.at hlt;have e1:cs=[.string (I.bs s)]:=hcs;subst e1;have c0:=hcell 0 _ rfl;simp[Ql]at c0;have HS:=cN (I.vz (T:=C.text.size) hsk s1);have q1:(k:Int)<(n:Int):=by omega
   clear hsk hcs hcell hb Tn;go_wp2_with fail
   with_reducible refine(eF C (I.bs s) s1 _ Oa.o).mono ?_
   rintro e w6 ⟨rfl,hp,hc⟩;rw[dA]at hp⊢;have PE:=cN hp;have Qm:=cN (Oh.o.trans hc hs5);clear hp hc c0;cases ha:I.dh s s1 with
   |true=>
    have HE2:Hid (I.choose C.text.size 0 ss st=(k,I.next s1)):=by show _=_;rw[HE.o,HS.o,if_pos ha]
    have QA:Hid (PS C (I.next s1) w6):=by have:=PE.o;rw[I.ga ha]at this;exact this
    clear ha;go_wp2_with fail
    go_ret;exact⟨by rw[HE2.o]<;>rfl,by rw[HE2.o];exact QA.o,Qm.o⟩
   |false=>
    have HE2:Hid (I.choose C.text.size 0 ss st=I.choose C.text.size (k+1) (ss.drop (k+1)) s1):=by show _=_;rw[HE.o,HS.o,if_neg (by rw[ha];decide)]
    have QA:Hid (PS C s1 w6):=by have:=PE.o;rw[I.ic ha]at this;exact this
    clear ha;go_wp2_with fail
    go_roundg (n-(k+1));case measure=>omega
    case rel=>exact⟨k+1,s1,by omega,rfl,by go_num,HE2,QA,Qm⟩
  ·have hkn:k=n:=by omega
   have HE2:Hid (I.choose C.text.size 0 ss st=(0,I.fail C.text.size 300 s1)):=by show _=_;rw[HE.o,hkn,HN.o,bT];rfl
   clear hkn;go_wp2_with fail
   with_reducible refine(kV C 300 300 s1 _ Oa.o rfl).mono ?_
   rintro e w7 ⟨rfl,hp,hc⟩;have Sx:=cN hp;have SP:=cN (Oh.o.trans hc hs5);clear hp hc;go_wp2_with fail
   go_ret;exact⟨by rw[HE2.o]<;>rfl,by rw[HE2.o];exact Sx.o,SP.o⟩
theorem qk(C:RC)(v:Value)(ss:List (I.Bs×UInt8))(st:I.St)(w:World)(h:PS C st w)(hl:Rr IP w (Pg C w) v ss):
 Calls Tryz.prog 247 #[.pointer (some ⟨C.g,0,none⟩),v] w fun e w'=>e=.returned (.int .u8 ((I.one ss st).1.toNat:Int))∧PS C (I.one ss st).2 w'∧Ch C.g w.heap.size w w':=by
 have NK:=h.lt;obtain⟨A,c,rfl,hc1,hc2⟩:=hl.form;obtain⟨n,hn⟩:∃n,n=ss.length:=⟨_,rfl⟩;rw[←hn]at hl hc1⊢;have HN:=cN hn;have HP:=cN h;have HL:=cN hl;clear h hl hn;go_enter Tryz.func247,Tryz.ntmps247;go_wp2_with fail
 go_loopg [9] n (fun gg i wr=>∃(k:Nat) (s1:I.St),k≤n∧gg=n-k∧i=.int .i64 (k:Nat)∧Hid (I.one ss st=I.one (ss.drop k) s1)∧Hid (PS C s1 wr)∧Hid (Ch C.g w.heap.size w wr));case atStart=>exact⟨0,st,ao _,rfl,rfl,cN rfl,HP,cN (Ch.refl _ _ _)⟩
 case round=>
  obtain⟨k,s1,hk,rfl,rfl,HE,Oa,Oh⟩:=hrel;obtain⟨w5,Qc⟩:∃w5,w5=wr:=⟨_,rfl⟩;subst Qc;have hs5:=Oh.o.size;by_cases hlt:k<n
  ·have Tn:=cN (HL.o.ch2 (aa _) Oh.o);obtain⟨b,off,s,cs,rfl,hb,hsk,hcs,hcell⟩:=Tn.o.at hlt;have e1:cs=[.string (I.bs s.1),.int .u8 (s.2.toNat:Int)]:=hcs;subst e1;have c0:=hcell 0 _ rfl;have c1:=hcell 1 _ rfl;simp[IP]at c0 c1;obtain⟨s,so⟩:=s;simp only at c0 c1;have HS:=cN (I.ER hsk s1);have q1:(k:Int)<(n:Int):=by omega
   clear hsk hcs hcell hb Tn;go_wp2_with fail
   with_reducible refine(eF C (I.bs s) s1 _ (Oa.o.alloc _)).mono ?_
   rintro e w6 ⟨rfl,hp,hc⟩;rw[dA]at hp⊢;have PE:=cN hp;have Qm:=cN ((Oh.o.alloc hs5 _).trans hc (by simp;omega));have hg5:=Oa.o.lt;have HK6:=cN ((NA.new w5 _ _).ch hc (by simp) (by omega));have d1:=HK6.o.cell 1;simp at d1;clear hp hc c0;cases ha:I.dh s s1 with
   |true=>
    have HE2:Hid (I.one ss st=(so,I.next s1)):=by show _=_;rw[HE.o,HS.o,if_pos ha]
    have QA:Hid (PS C (I.next s1) w6):=by have:=PE.o;rw[I.ga ha]at this;exact this
    clear ha;go_wp2_with fail
    go_ret;exact⟨by rw[HE2.o]<;>rfl,by rw[HE2.o];exact QA.o,Qm.o⟩
   |false=>
    have HE2:Hid (I.one ss st=I.one (ss.drop (k+1)) s1):=by show _=_;rw[HE.o,HS.o,if_neg (by rw[ha];decide)]
    have QA:Hid (PS C s1 w6):=by have:=PE.o;rw[I.ic ha]at this;exact this
    clear ha;go_wp2_with fail
    go_roundg (n-(k+1));case measure=>omega
    case rel=>exact⟨k+1,s1,by omega,rfl,by go_num,HE2,QA,Qm⟩
  ·have hkn:k=n:=by omega
   have HE2:Hid (I.one ss st=(0,s1)):=by show _=_;rw[HE.o,hkn,HN.o,bT];rfl
   clear hkn;go_wp2_with fail
   go_ret;exact⟨by rw[HE2.o]<;>rfl,by rw[HE2.o];exact Oa.o,Oh.o⟩
end
def cT(h:Ev.Hd)(A:Option Addr)(m c:Nat):List Value:=[.int .u8 (h.o.toNat:Int),.int .u8 (h.v.k.toNat:Int),.int .i64 h.v.n,.string h.v.s,.string h.nm,.string h.of,.int .i64 h.n,.slice A m c]
def XR(w:World)(P:Nat→Prop)(cs:List Value)(x:Ev.Ex):Prop:=∃h A m c ks d,cs=cT h A m c∧x=.mk h ks∧m≤c∧c≤9223372036854775807∧qd h∧O5 w P d A m ks
def NI:El Ev.Ex where
 t:=50
 k:=8
 by':=104
 R:=XR
 pos:=by decide
 len:=fun h=>by obtain⟨h,A,m,c,ks,d,rfl,_⟩:=h;rfl
 one:=fun h=>by
  obtain⟨h,A,m,c,ks,d,rfl,_⟩:=h
  intro u hu
  simp only[cT,af,aj,aH]at hu
  rcases hu with rfl|rfl|rfl|rfl|rfl|rfl|rfl|rfl<;>rfl
 dH:=fun hP hk h=>by
  obtain⟨h,A,m,c,ks,d,e1,e2,e3,e4,e5,e6⟩:=h
  exact⟨h,A,m,c,ks,d,e1,e2,e3,e4,e5,O5.dH hP hk e6⟩
section
variable{w w':World}{P P':Nat→Prop}
theorem O5.up:∀{d d':Nat} {A:Option Addr} {m:Nat} {ks:List Ev.Ex},d≤d'→O5 w P d A m ks→O5 w P d' A m ks:=by
 intro d;induction d with
 |zero=>
  intro d' A m ks _ h;obtain⟨rfl,rfl⟩:=h;exact O5.nil _ _ _ _
 |succ d ih=>
  intro d' A m ks hd h;obtain⟨d'',rfl⟩:∃k,d'=k+1:=⟨d'-1,by omega⟩;obtain⟨h1,h2,h3⟩:=h;refine⟨h1,h2,fun h0=>?_⟩;obtain⟨g,off,e,hg,hc⟩:=h3 h0;refine⟨g,off,e,hg,fun i h ks' hi=>?_⟩;obtain⟨A',c',c0,c1,c2,c3,c4,c5,c6,c7,e1,e2,e3,e4⟩:=hc i h ks' hi;exact⟨A',c',c0,c1,c2,c3,c4,c5,c6,c7,e1,e2,e3,ih (by omega) e4⟩
theorem oX{A:Option Addr}{n c:Nat}{ks:List Ev.Ex}(h:Rr NI w P (.slice A n c) ks)(hn:n*104≤140737488355328):∃d,O5 w P d A n ks:=by
 have hl:n=ks.length:=by obtain⟨A',c',e,_⟩:=h;injection e
 have hall:∀j,j≤n→∃D,∀i,i<j→∀hd ks',ks[i]?=some (.mk hd ks')→∃g off A' c',A=some ⟨g,off,none⟩∧P g∧(∀t u,(cT hd A' ks'.length c')[t]?=some u→w.cell? ⟨g,off+i*8+t,none⟩=some u)∧ks'.length≤c'∧c'≤9223372036854775807∧qd hd∧O5 w P D A' ks'.length ks':=by
  intro j;induction j with
  |zero=>intro _;exact⟨0,fun i hi=>by omega⟩
  |succ j ih=>
   intro hj;obtain⟨D,hD⟩:=ih (by omega);obtain⟨g,off,x,cs,e,hg,hx,⟨h1,A',m',c',UU,d,e1,e2,e3,e4,e5,e6⟩,hcell⟩:=h.at (i:=j) (by omega);subst e1 e2;refine⟨max D d,fun i hi hd ks' hk=>?_⟩;by_cases hij:i<j
   ·obtain⟨g',off',A'',c'',f1,f2,f3,f4,f5,f6,f7⟩:=hD i hij hd ks' hk;exact⟨g',off',A'',c'',f1,f2,f3,f4,f5,f6,f7.up (by omega)⟩
   ·obtain rfl:i=j:=by omega
    rw[hx]at hk;injection hk with hk
    injection hk with k1 k2
    subst k1 k2;have hm:=e6.len.1;subst hm;exact⟨g,off,A',c',e,hg,fun t u ht=>hcell t u ht,e3,e4,e5,e6.up (by omega)⟩
 obtain⟨D,hD⟩:=hall n (aa _);refine⟨D+1,hl,hn,fun h0=>?_⟩;obtain⟨g0,off0,x,cs,e,hg,hx,_,_⟩:=h.at (i:=0) h0;refine⟨g0,off0,e,hg,fun i hd ks' hk=>?_⟩;have hi:=(ay.1 hk).1;obtain⟨g',off',A'',c'',f1,f2,f3,f4,f5,f6,f7⟩:=hD i (by omega) hd ks' hk;rw[e]at f1;injection f1 with f1
 injection f1 with f1 f1'
 subst f1 f1';exact⟨A'',c'',f3 0 _ rfl,f3 1 _ rfl,f3 2 _ rfl,f3 3 _ rfl,f3 4 _ rfl,f3 5 _ rfl,f3 6 _ rfl,f3 7 _ rfl,f4,f5,f6,f7⟩
theorem jK{d n c:Nat}{A:Option Addr}{ks:List Ev.Ex}(h:O5 w P d A n ks)(hc:n≤c)(hc2:c≤9223372036854775807):Rr NI w P (.slice A n c) ks:=by
 have hl:=h.len.1;subst hl;refine⟨A,c,rfl,hc,hc2,fun h0=>?_⟩;cases d with
 |zero=>obtain⟨h1,_⟩:=h;omega
 |succ d=>
  obtain⟨_,_,h3⟩:=h;obtain⟨g,off,e,hg,hcell⟩:=h3 h0;refine⟨g,off,e,hg,fun i x hi=>?_⟩;obtain⟨hd,ks'⟩:=x;obtain⟨A',c',c0,c1,c2,c3,c4,c5,c6,c7,e1,e2,e3,e4⟩:=hcell i hd ks' hi;refine⟨cT hd A' ks'.length c',⟨hd,A',_,c',ks',d,rfl,rfl,e1,e2,e3,e4⟩,fun j u hj=>?_⟩;show w.cell? ⟨g,off+i*8+j,none⟩=some u;match j,hj with
  |0,hj=>injection hj with hj;rw[←hj];exact c0
  |1,hj=>injection hj with hj;rw[←hj];exact c1
  |2,hj=>injection hj with hj;rw[←hj];exact c2
  |3,hj=>injection hj with hj;rw[←hj];exact c3
  |4,hj=>injection hj with hj;rw[←hj];exact c4
  |5,hj=>injection hj with hj;rw[←hj];exact c5
  |6,hj=>injection hj with hj;rw[←hj];exact c6
  |7,hj=>injection hj with hj;rw[←hj];exact c7
end
def In(a c:Nat):Nat→Prop:=fun b=>a≤b∧b<c
section
variable{α:Type}{E:El α}{w w':World}{P P':Nat→Prop}{cs:List Value}{x:α}{v:Value}{xs:List α}
theorem El.hp(h:E.R w P cs x)(hP:∀b,P b→P' b)(hc:∀b,P b→w'.heap[b]?=w.heap[b]?):E.R w' P' cs x:=
 E.dH hP (fun b o hb=>World.cell?_of_block (a:=⟨b,o,none⟩) (hc b hb)) h
theorem Rr.hp(h:Rr E w P v xs)(hP:∀b,P b→P' b)(hc:∀b,P b→w'.heap[b]?=w.heap[b]?):Rr E w' P' v xs:=
 h.dH hP (fun b o hb=>World.cell?_of_block (a:=⟨b,o,none⟩) (hc b hb))
theorem El.ch{g B a c:Nat}(h:E.R w (In a c) cs x)(hc:Ch g B w w')(hB:c≤B)(hg:g<a):E.R w' (In a c) cs x:=
 El.hp h (fun _ h=>h) fun b hb=>hc.block b (aB hb.2 hB) (by have:=hb.1;omega)
end
theorem XR.hp{w w':World}{P P':Nat→Prop}{cs:List Value}{x:Ev.Ex}(h:XR w P cs x)(hP:∀b,P b→P' b)(hc:∀b,P b→w'.heap[b]?=w.heap[b]?):XR w' P' cs x:=El.hp (E:=NI) h hP hc
theorem XR.ch{w w':World}{g B a c:Nat}{cs:List Value}{x:Ev.Ex}(h:XR w (In a c) cs x)(hc:Ch g B w w')(hB:c≤B)(hg:g<a):XR w' (In a c) cs x:=El.ch (E:=NI) h hc hB hg
theorem dC{w:World}{P:Nat→Prop}{cs:List Value}{x:Ev.Ex}(h:XR w P cs x):∃h A m c ks,cs=cT h A m c∧x=.mk h ks:=by
 obtain⟨h,A,m,c,ks,d,e1,e2,_⟩:=h;exact⟨h,A,m,c,ks,e1,e2⟩
theorem MO(k:UInt8)(n:Int)(h1: -9223372036854775808≤n)(h2:n≤9223372036854775807):vOk ⟨k,n,I.dp⟩:=⟨by show(I.bs []).size≤_;unfold I.bs maxLen;decide,h1,h2⟩
theorem vM(o:UInt8):qd (I.hd o):=⟨MO 0 0 (by decide) (by decide),by show(I.bs []).size≤_;unfold I.bs maxLen;decide,by show(I.bs []).size≤_;unfold I.bs maxLen;decide,by show(-9223372036854775808:Int)≤0;decide,by show(0:Int)≤9223372036854775807;decide⟩
theorem iI{w:World}{P:Nat→Prop}{h:Ev.Hd}(hh:qd h):XR w P (cT h none 0 0) (.mk h []):=⟨h,none,0,0,[],0,rfl,rfl,by omega,by omega,hh,⟨rfl,rfl⟩⟩
theorem AD{w:World}{P:Nat→Prop}{g n:Nat}{t:TypeId}{cells:Array Value}{css:List (List Value)}{ks:List Ev.Ex}{h:Ev.Hd}(hb:NA w g t cells)(hcs:cells.toList=css.flatten)(hl:css.length=ks.length)(hR:∀(i:Nat) (cs:List Value) (x:Ev.Ex),css[i]?=some cs→ks[i]?=some x→XR w P cs x)(hg:P g)(hn:n=ks.length)(hm:n≤1000)(hh:qd h):XR w P (cT h (some ⟨g,0,none⟩) n n) (.mk h ks):=by
 obtain⟨d,hd⟩:=oX (Rr.blk (E:=NI) (P:=P) hb hcs hl hR hg hn (by omega)) (by omega);exact⟨h,_,n,n,ks,d,rfl,rfl,aa _,by omega,hh,hd⟩
theorem tv{w:World}{P:Nat→Prop}{g:Nat}{t:TypeId}{cells:Array Value}{ca:List Value}{a:Ev.Ex}(o:UInt8)(hb:NA w g t cells)(hcs:cells.toList=ca)(ha:XR w P ca a)(hg:P g):XR w P (cT (I.hd o) (some ⟨g,0,none⟩) 1 1) (I.un o a):=by
 refine AD (css:=[ca]) hb (by simp[hcs]) rfl (fun i cs x h1 h2=>?_) hg rfl (by omega) (vM o);match i with
 |0=>injection h1 with h1;injection h2 with h2;rw[←h1,←h2];exact ha
 |i+1=>simp at h1
theorem DZ{w:World}{P:Nat→Prop}{g:Nat}{t:TypeId}{cells:Array Value}{ca cb:List Value}{a b:Ev.Ex}(o:UInt8)(hb:NA w g t cells)(hcs:cells.toList=ca++cb)(ha:XR w P ca a)(hb':XR w P cb b)(hg:P g):XR w P (cT (I.hd o) (some ⟨g,0,none⟩) 2 2) (I.bin o a b):=by
 refine AD (css:=[ca,cb]) hb (by simp[hcs]) rfl (fun i cs x h1 h2=>?_) hg rfl (by omega) (vM o);match i with
 |0=>injection h1 with h1;injection h2 with h2;rw[←h1,←h2];exact ha
 |1=>injection h1 with h1;injection h2 with h2;rw[←h1,←h2];exact hb'
 |i+2=>simp at h1
theorem fo:(Tryz.prog.info? 50).map (·.size)=some 8:=by kernel_rfl
theorem hZ:Tryz.prog.underlying 50=some (.struct (Tryz.prog.fieldsOf 50)):=by kernel_rfl
theorem NA.oK(w:World)(o:Obj)(t:TypeId)(cs:Array Value):NA ((w.alloc o).alloc (.cells cs t)) (w.heap.size+1) t cs:=by
 have:=NA.new (w.alloc o) t cs;rwa [dc]at this
def ij(C:RC)(w:World)(r:Ev.Ex×I.St)(e:Ending)(w':World):Prop:=∃cs,e=.returned (.agg cs.toArray)∧XR w' (In w.heap.size w'.heap.size) cs r.1∧PS C r.2 w'∧Ch C.g w.heap.size w w'
def fH(C:RC)(N:FuncId)(args:Array Value)(kid:I.St→Ev.Ex×I.St)(n:Nat):Prop:=∀(st:I.St) (w:World),st.r.length≤n→PS C st w→Calls Tryz.prog N args w (ij C w (kid st))
theorem fH.at{C:RC}{N:FuncId}{args:Array Value}{kid:I.St→Ev.Ex×I.St}{n:Nat}(h:fH C N args kid n)(st:I.St)(w:World)(hn:st.r.length≤n)(hp:PS C st w):Calls Tryz.prog N args w (ij C w (kid st)):=h st w hn hp
theorem PS.KA{C:RC}{st:I.St}{w:World}(h:PS C st w):PS C st w.drew:=h.below (B:=w.heap.size) ⟨rfl,rfl,rfl,aa _,fun _ _=>rfl⟩ h.lt
theorem Ch.Fu{g B:Nat}{w w':World}(h:Ch g B w.drew w'):Ch g B w w':=⟨h.os,h.tape,h.output,h.size,h.block⟩
theorem fH.drew{C:RC}{N:FuncId}{args:Array Value}{kid:I.St→Ev.Ex×I.St}{n:Nat}(h:fH C N args kid n)(st:I.St)(w:World)(hn:st.r.length≤n)(hp:PS C st w):Calls Tryz.prog N args w.drew (ij C w (kid st)):=
 (h st w.drew hn hp.KA).mono fun _ _ ⟨cs,e,hx,hp,hc⟩=>⟨cs,e,hx,hp,hc.Fu⟩
namespace I
def eZ{α:Type}(k:St→α×St):Prop:=∀st,(k st).2.r.length≤st.r.length
theorem jz:∀(l:List (Bs×UInt8)) (st:St),(one l st).2.r.length≤st.r.length∧((one l st).1≠0→(one l st).2.r.length<st.r.length):=by
 intro l;induction l with
 |nil=>intro st;exact⟨aa _,fun h=>absurd rfl h⟩
 |cons s l ih=>
  intro st;unfold one;split
  ·rename_i h;have:=oR h;cases hr:st.r with
   |nil=>exact absurd hr this
   |cons t r=>simp[next,hr]
  ·exact ih st
theorem rP:∀(l:List (Bs×UInt8)) (st:St),(∀s∈l,s.2≠0)→(one l st).1=0→(one l st).2=st:=by
 intro l;induction l with
 |nil=>intro st _ _;rfl
 |cons s l ih=>
  intro st hl h;unfold one at h⊢;split
  ·rename_i hs;rw[if_pos hs]at h;exact absurd h (hl s ag)
  ·rename_i hs;rw[if_neg hs]at h;exact ih st (fun s hs=>hl s (au _ hs)) h
theorem xk{kid:St→Ev.Ex×St}{l:List (Bs×UInt8)}{f:Nat}{e:Ev.Ex}{st:St}(hf:st.r.length<f)(h:(one l st).1≠0):dy kid l f e st=dy kid l (f-1) (bin (one l st).1 e (kid (one l st).2).1) (kid (one l st).2).2:=by
 obtain⟨f,rfl⟩:∃k,f=k+1:=⟨f-1,by omega⟩;rw[dy,if_neg h];rfl
theorem yU{kid:St→Ev.Ex×St}{l:List (Bs×UInt8)}{f:Nat}{e:Ev.Ex}{st:St}(hf:st.r.length<f)(h:(one l st).1=0):dy kid l f e st=(e,st):=by
 obtain⟨f,rfl⟩:∃k,f=k+1:=⟨f-1,by omega⟩;rw[dy,if_pos h]
end I
end Go.Proofs.YtnicfobpclehkaaGreatDoor
