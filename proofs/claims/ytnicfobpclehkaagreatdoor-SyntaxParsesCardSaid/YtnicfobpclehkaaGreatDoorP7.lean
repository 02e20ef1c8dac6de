import Derived.Deep.LoopGhost
import Derived.Test.YtnicfobpclehkaaGreatDoorP6
set_option maxHeartbeats 3200000
set_option linter.unusedVariables false
set_option linter.unusedSimpArgs false
namespace Go.Proofs.YtnicfobpclehkaaGreatDoor
open Go.RowKit
section
set_option maxRecDepth 100000
namespace I
theorem tg(T:Nat)(s:Bs)(st:St):ae s st=hit s (cI T st):=by
 unfold ae cI;cases st.r with
 |nil=>rfl
 |cons t r=>rfl
theorem rJ{s:Bs}{t:Tok}(hk:t.1.toNat=1∨t.1.toNat=5)(hs:t.2.1=s):hit s t=true:=by
 unfold hit;have:t.1=1∨t.1=5:=by
  rcases hk with h|h
  ·exact .inl (UInt8.toNat_inj.1 h)
  ·exact .inr (UInt8.toNat_inj.1 h)
 rcases this with h|h<;>simp[h,hs]
theorem rb{s:Bs}{t:Tok}(h:¬(t.1.toNat=1∨t.1.toNat=5)∨t.2.1≠s):hit s t=false:=by
 unfold hit;rcases h with h|h
 ·have h1:¬t.1=1:=fun e=>h (.inl (by rw[e];rfl))
  have h5:¬t.1=5:=fun e=>h (.inr (by rw[e];rfl))
  simp[h1,h5]
 ·simp[h]
theorem di{s:Bs}{st:St}(h:ae s st=true):acc s st=next st:=by unfold acc;rw[if_pos h]
theorem dT{s:Bs}{st:St}(h:ae s st=false):acc s st=st:=by unfold acc;rw[if_neg (by rw[h];decide)]
theorem fm{s:Bs}{st:St}(h:ae s st=true):st.r≠[]:=by
 intro e;unfold ae at h;rw[e]at h;cases h
end I
theorem PB.next{C:RC}{st:I.St}{w:World}{k:Nat}(h:PB C st w k)(hk:k≤C.ts.length):PB C (I.next st) (w.setCell ⟨C.g,2,none⟩ (.i ((k:Int)+1))) (k+1):=by
 obtain⟨h1,h2,h3⟩:=h;refine⟨by simpa[I.next]using h1.put 2 (.i ((k:Int)+1)),?_,by omega⟩;unfold I.next
 rw[h2,List.tail_drop]
theorem PB.cells{C:RC}{st:I.St}{w:World}{k:Nat}(h:PB C st w k):w.cell? ⟨C.g,0,none⟩=some (.s C.text)∧w.cell? ⟨C.g,1,none⟩=some (.slice C.A C.ts.length C.c)∧w.cell? ⟨C.g,2,none⟩=some (.i (k:Int))∧w.cell? ⟨C.g,3,none⟩=some (.i (st.e:Int))∧w.cell? ⟨C.g,4,none⟩=some (.i (st.c:Int))∧w.cell? ⟨C.g,5,none⟩=some (.bool st.d)∧(∀j,w.frozen? ⟨C.g,j,none⟩=false):=by
 have hB:=h.1;exact⟨hB.cell 0,hB.cell 1,hB.cell 2,hB.cell 3,hB.cell 4,hB.cell 5,fun j=>hB.frozen j⟩
theorem bK(C:RC)(s:ByteArray)(st:I.St)(w:World)(h:PS C st w):
 Calls Tryz.prog 25 #[.p C.g,.s s] w fun e w'=>e=.returned (.bool (I.ae s.data.toList st))∧PS C (I.acc s.data.toList st) w'∧Ch C.g w.heap.size w w':=by
 have Kt:=h.lt;have HP:=aa h;clear h;have HA:=aa (I.tg C.text.size s.data.toList st);obtain⟨t,ht⟩:=aab (I.cI C.text.size st);rw[←ht]at HA;obtain⟨tk,ts,ta⟩:=t;have HT:=aa ht;clear ht;have HL:=aa (Lib.toList_data s);have hN:=C.ok.len;have hCs:=C.small;go_enter Tryz.func25,Tryz.ntmps25;go_wp2_with fail
 with_reducible refine(gY C st _ HP.o).mono ?_
 rintro e w1 ⟨rfl,hb⟩;rw[←HT.o];unfold gd;simp only;have KL:=aa (HP.o.below hb Kt);have KJ:=aa ((Ch.refl C.g w.heap.size w).below hb (Nat.le_refl _));have hs1:=hb.size;clear hb;have hlt1:C.g<w1.heap.size:=by omega
 by_cases hk:tk.toNat=1∨tk.toNat=5
 ·cases hq:(ts==s.toList)with
  |true=>
   have HY:Hid (I.ae s.data.toList st=true):=HA.o.trans (I.rJ hk (by rw[←HL.o];simpa using hq));obtain⟨k,hpb⟩:=KL.o.1;have hkl:k<C.ts.length:=by
    have h1:=I.fm HY.o;rw[hpb.2.1]at h1;by_cases h2:k<C.ts.length
    ·exact h2
    ·exact absurd (List.drop_of_length_le (by omega)) h1
   obtain⟨x0,x1,x2,x3,x4,x5,xf⟩:=hpb.cells;have TG:=xf 2;have HB:=aa hpb;clear hpb x0 x1 x3 x4 x5 xf;rcases hk with hk|hk
   all_goals
    first
     |(have t1:((tk.toNat:Int)==1)=true:=by simp;omega
       clear hk
       go_wp2_with fail)
     |(have t1:((tk.toNat:Int)==1)=false:=by simp;omega
       have t5:((tk.toNat:Int)==5)=true:=by simp;omega
       clear hk
       go_wp2_with fail)
    go_ret
    refine⟨by rw[HY.o]<;>rfl,?_,?_⟩
    ·rw[I.di HY.o];exact(KL.o.put ((Ch.refl _ _ _).set (p:=⟨C.g,2,none⟩) (.inl rfl) _) (HB.o.next (by omega))).alloc _
    ·exact(KJ.o.set (p:=⟨C.g,2,none⟩) (.inl rfl) _).alloc (by simpa using hs1) _
  |false=>
   have HY:Hid (I.ae s.data.toList st=false):=HA.o.trans (I.rb (.inr (by rw[←HL.o];simpa using hq)));rcases hk with hk|hk
   all_goals
    first
     |(have t1:((tk.toNat:Int)==1)=true:=by simp;omega
       clear hk
       go_wp2_with fail)
     |(have t1:((tk.toNat:Int)==1)=false:=by simp;omega
       have t5:((tk.toNat:Int)==5)=true:=by simp;omega
       clear hk
       go_wp2_with fail)
    go_ret
    exact⟨by rw[HY.o]<;>rfl,by rw[I.dT HY.o];exact KL.o.alloc _,KJ.o.alloc hs1 _⟩
 ·have HY:Hid (I.ae s.data.toList st=false):=HA.o.trans (I.rb (.inl hk));have t1:((tk.toNat:Int)==1)=false:=by simp;omega
  have t5:((tk.toNat:Int)==5)=false:=by simp;omega
  clear hk;go_wp2_with fail
  go_ret;exact⟨by rw[HY.o]<;>rfl,by rw[I.dT HY.o];exact KL.o.alloc _,KJ.o.alloc hs1 _⟩
theorem ru(C:RC)(x:Int)(n:Nat)(st:I.St)(w:World)(h:PS C st w)(hx:x=(n:Int)):
 Calls Tryz.prog 26 #[.p C.g,.i x] w fun e w'=>e=.returned (.tuple #[])∧PS C (I.fail C.text.size n st) w'∧Ch C.g w.heap.size w w'∧PB C (I.fail C.text.size n st) w' C.ts.length:=by
 subst hx;have Kt:=h.lt;have HP:=aa h;clear h;have hN:=C.ok.len;have hCs:=C.small;obtain⟨k,hpb⟩:=HP.o.1;obtain⟨x0,x1,x2,x3,x4,x5,xf⟩:=hpb.cells;have HB:=aa hpb;have TG:=xf 2;have xf3:=xf 3;have xf4:=xf 4;have Hxf:=aa xf;clear hpb xf;by_cases he:st.e=0
 ·have t1:((st.e:Int)==0)=true:=by simp[he]
  have HF:Hid (I.fail C.text.size n st=⟨[],n,(I.cI C.text.size st).2.2,st.d⟩):=by show _=_;unfold I.fail I.place I.cI;rw[if_pos he];cases st.r<;>rfl
  clear he;go_enter Tryz.func26,Tryz.ntmps26;go_wp2_with fail
  with_reducible refine(gY C st _ HP.o).mono ?_
  rintro e w1 ⟨rfl,hb⟩;obtain⟨t,ht⟩:=aab (I.cI C.text.size st);rw[←ht]at HF⊢;obtain⟨tk,ts,ta⟩:=t;clear ht;unfold gd;simp only at HF⊢;have KL:=aa (HP.o.below hb Kt);have KJ:=aa ((Ch.refl C.g w.heap.size w).below hb (Nat.le_refl _));have hs1:=hb.size;have HB1:=aa (HB.o.1.below hb Kt);clear hb x0 x1 x2 x3 x4 x5 TG xf3 xf4;have Ks:=HB1.o.y4 1 2 3 4;simp at Ks;obtain⟨TG,xf3,xf4⟩:=HB1.o.z3 2 3 4;have kf:=fun(w:World) (a b c:Value)=>zN w a b c
  go_wp2_with fail
  go_end0;have hpb:PB C ⟨[],n,ta,st.d⟩ ((((w1.setCell ⟨C.g,3,none⟩ (.i (n:Int))).setCell ⟨C.g,4,none⟩ (.i (ta:Int))).setCell ⟨C.g,2,none⟩ (.i (C.ts.length:Int)))) C.ts.length:=⟨by simpa using((HB1.o.put 3 (.i (n:Int))).put 4 (.i (ta:Int))).put 2 (.i (C.ts.length:Int)),by simp,by omega⟩;refine⟨rfl,?_,?_,?_⟩
  ·rw[HF.o];exact KL.o.put (((((Ch.refl _ _ _).set (p:=⟨C.g,3,none⟩) (.inl rfl) _)).set (p:=⟨C.g,4,none⟩) (.inl rfl) _).set (p:=⟨C.g,2,none⟩) (.inl rfl) _) hpb
  ·exact((KJ.o.set (p:=⟨C.g,3,none⟩) (.inl rfl) _).set (p:=⟨C.g,4,none⟩) (.inl rfl) _).set (p:=⟨C.g,2,none⟩) (.inl rfl) _
  ·rw[HF.o];exact hpb
 ·have t1:((st.e:Int)==0)=false:=by simp[he]
  have HF:Hid (I.fail C.text.size n st=⟨[],st.e,st.c,st.d⟩):=by show _=_;unfold I.fail;rw[if_neg he]
  clear he;go_enter Tryz.func26,Tryz.ntmps26;go_wp2_with fail
  go_end0;have hpb:PB C ⟨[],st.e,st.c,st.d⟩ (w.setCell ⟨C.g,2,none⟩ (.i (C.ts.length:Int))) C.ts.length:=⟨by simpa using HB.o.1.put 2 (.i (C.ts.length:Int)),by simp,by omega⟩;refine⟨rfl,?_,?_,?_⟩
  ·rw[HF.o];exact HP.o.put ((Ch.refl _ _ _).set (p:=⟨C.g,2,none⟩) (.inl rfl) _) hpb
  ·exact(Ch.refl _ _ _).set (p:=⟨C.g,2,none⟩) (.inl rfl) _
  ·rw[HF.o];exact hpb
theorem iO(C:RC)(x:Int)(n:Nat)(st:I.St)(w:World)(h:PS C st w)(hx:x=(n:Int)):
 Calls Tryz.prog 26 #[.p C.g,.i x] w fun e w'=>e=.returned (.tuple #[])∧PS C (I.fail C.text.size n st) w'∧Ch C.g w.heap.size w w':=
 (ru C x n st w h hx).mono fun _ _ h=>⟨h.1,h.2.1,h.2.2.1⟩
end
section
set_option maxRecDepth 100000
def Pg(C:RC)(w:World):Nat→Prop:=fun b=>C.g<b∧b<w.heap.size
theorem Pg.up{C:RC}{w w':World}(h:w.heap.size≤w'.heap.size):∀b,Pg C w b→Pg C w' b:=fun _ hb=>⟨hb.1,Nat.lt_of_lt_of_le hb.2 h⟩
theorem Rr.ch{α:Type}{E:El α}{C:RC}{w w':World}{v:Value}{xs:List α}(h:Rr E w (Pg C w) v xs)(hc:Ch C.g w.heap.size w w'):Rr E w' (Pg C w') v xs:=
 h.aR (Pg.up hc.size) fun b hb=>hc.block b hb.2 (by have:=hb.1;omega)
theorem Rr.YI{α:Type}{E:El α}{C:RC}{w0 w w':World}{v:Value}{xs:List α}(h:Rr E w (Pg C w0) v xs)(hs:w0.heap.size≤w.heap.size)(hc:Ch C.g w.heap.size w w'):Rr E w' (Pg C w0) v xs:=
 h.aR (fun _ h=>h) fun b hb=>hc.block b (Nat.lt_of_lt_of_le hb.2 hs) (by have:=hb.1;omega)
def MP:El I.Bs where
 t:=9
 k:=1
 by':=16
 R:=fun _ _ cs x=>cs=[.s (I.bs x)]
 pos:=by decide
 len:=fun h=>by rw[h];rfl
 one:=fun h=>by rw[h];intro u hu;simp at hu;rw[hu];rfl
 aR:=fun _ _ h=>h
def FG:El (I.Bs×UInt8) where
 t:=250
 k:=2
 by':=24
 R:=fun _ _ cs x=>cs=[.s (I.bs x.1),.u (x.2.toNat:Int)]
 pos:=by decide
 len:=fun h=>by rw[h];rfl
 one:=fun h=>by rw[h];intro u hu;simp at hu;rcases hu with rfl|rfl<;>rfl
 aR:=fun _ _ h=>h
theorem cL(l:I.Bs):(I.bs l).data.toList=l:=by simp[I.bs]
theorem jK{C:RC}{w:World}{g n:Nat}{t:TypeId}{cells:Array Value}{ss:List I.Bs}(h:Kn w g t cells)(hc:cells.toList=ss.map fun s=>Value.string (I.bs s))(hg:C.g<g)(hn:n=ss.length)(hm:n≤1000):Rr MP w (Pg C w) (.slice (some ⟨g,0,none⟩) n n) ss:=by
 refine Rr.blk (css:=ss.map fun s=>[Value.string (I.bs s)]) h ?_ (by simp) (fun i cs x h1 h2=>?_) ⟨hg,h.lt⟩ hn (by omega)
 ·rw[hc];clear hc h hn;induction ss with
  |nil=>rfl
  |cons s r ih=>simp only[List.map_cons,List.flatten_cons,←ih];rfl
 ·rw[List.getElem?_map,h2]at h1;injection h1 with h1
  exact h1.symm
theorem iS{C:RC}{w:World}{g n:Nat}{t:TypeId}{cells:Array Value}{ss:List (I.Bs×UInt8)}(h:Kn w g t cells)(hc:cells.toList=(ss.map fun s=>[Value.string (I.bs s.1),Value.int .u8 (s.2.toNat:Int)]).flatten)(hg:C.g<g)(hn:n=ss.length)(hm:n≤1000):Rr FG w (Pg C w) (.slice (some ⟨g,0,none⟩) n n) ss:=by
 refine Rr.blk (css:=ss.map fun s=>[Value.string (I.bs s.1),Value.int .u8 (s.2.toNat:Int)]) h hc (by simp) (fun i cs x h1 h2=>?_) ⟨hg,h.lt⟩ hn (by omega);rw[List.getElem?_map,h2]at h1;injection h1 with h1
 exact h1.symm
theorem mV(C:RC)(st:I.St)(w:World)(h:PS C st w):
 Calls Tryz.prog 202 #[.p C.g] w fun e w'=>e=.returned (.tuple #[])∧PS C (I.br C.text.size st) w'∧Ch C.g w.heap.size w w':=by
 have Kt:=h.lt;have HP:=aa h;clear h;have hN:=C.ok.len;have hCs:=C.small;have YH:=C.cap;obtain⟨k,hpb⟩:=HP.o.1;obtain⟨x0,x1,x2,x3,x4,x5,xf⟩:=hpb.cells;have Hr:=aa hpb.2.1;clear hpb xf x0 x3 x4 x5;by_cases hlt:k<C.ts.length
 ·have t1:decide (k<C.ts.length)=true:=decide_eq_true hlt;have HF:Hid (I.br C.text.size st=I.fail C.text.size 3 st):=by show _=_;unfold I.br;rw[if_neg];rw[Hr.o];intro e;have:=congrArg List.length e;rw[List.length_drop]at this;simp at this;omega
  clear hlt;go_enter Tryz.func202,Tryz.ntmps202;go_wp2_with fail
  go_quiet (fail);go_wp2_with fail
  with_reducible refine(iO C 3 3 st _ (HP.o.drew _) rfl).mono ?_
  rintro e w1 ⟨rfl,hp,hc⟩;have KL:=aa hp;have KJ:=aa hc;clear hp hc;go_wp2_with fail
  go_end0;exact⟨rfl,by rw[HF.o];exact KL.o,((Ch.refl _ _ _).drew _).trans KJ.o (Nat.le_refl _)⟩
 ·have t1:decide (k<C.ts.length)=false:=decide_eq_false hlt;have HF:Hid (I.br C.text.size st=I.fail C.text.size 300 st):=by show _=_;unfold I.br;rw[if_pos];rw[Hr.o,List.drop_of_length_le (by omega)]
  clear hlt;go_enter Tryz.func202,Tryz.ntmps202;go_wp2_with fail
  go_quiet (fail);go_wp2_with fail
  with_reducible refine(iO C 300 300 st _ (HP.o.drew _) rfl).mono ?_
  rintro e w1 ⟨rfl,hp,hc⟩;have KL:=aa hp;have KJ:=aa hc;clear hp hc;go_wp2_with fail
  go_end0;exact⟨rfl,by rw[HF.o];exact KL.o,((Ch.refl _ _ _).drew _).trans KJ.o (Nat.le_refl _)⟩
theorem vh{w:World}{b o:Nat}{v:Value}{x:Obj}(h:w.cell? ⟨b,o,none⟩=some v)(hb:b<w.heap.size):(w.alloc x).cell? ⟨b,o,none⟩=some v:=(World.cell?_of_block (a:=⟨b,o,none⟩) (Below.heap_alloc w x b hb)).trans h
theorem oX{C:RC}{st:I.St}{w:World}(h:PS C st w):(I.cI C.text.size st).2.1.length≤4096:=by
 obtain⟨⟨k,hB,hr,_⟩,_⟩:=h;unfold I.cI;cases hq:st.r with
 |nil=>simp
 |cons t r=>
  have hm:t∈C.ts:=by rw[hr]at hq;exact List.mem_of_mem_drop (i:=k) (by rw[hq];exact List.mem_cons_self)
  have:=C.ok.str t hm;have:=C.small;simp only;omega
theorem qP(C:RC)(st:I.St)(w:World)(h:PS C st w):
 Calls Tryz.prog 200 #[.p C.g] w fun e w'=>e=.returned (.bool (I.named st))∧Below w.heap.size w w':=by
 have Kt:=h.lt;have HP:=aa h;have hts:=oX h;clear h;have HN:Hid (I.named st=(decide ((I.cI C.text.size st).1=1)&&!Lex.bL (I.cI C.text.size st).2.1)):=by show _=_;unfold I.named I.cI;cases st.r<;>rfl
 obtain⟨t,ht⟩:=aab (I.cI C.text.size st);rw[←ht]at HN hts;obtain⟨tk,ts,ta⟩:=t;have HT:=aa ht;clear ht;simp only at hts;go_enter Tryz.func200,Tryz.ntmps200;go_wp2_with fail
 with_reducible refine(gY C st _ HP.o).mono ?_
 rintro e w1 ⟨rfl,hb⟩;rw[←HT.o];unfold gd;simp only;have KL:=aa (HP.o.below hb Kt);have HB1:=aa hb;have hs1:=hb.size;clear hb;obtain⟨m,te,pe,tf,pf,hm,-,-⟩:=KL.o.2.2;have h6:=C.six;have hz1:0<w1.heap.size:=by omega
 by_cases hk:tk.toNat=1
 ·have t1:((tk.toNat:Int)==1)=true:=by simp;omega
  have hsz:(⟨ts.toArray⟩:ByteArray).size≤maxLen:=by have:=aH ⟨ts.toArray⟩;simp at this;unfold maxLen;omega
  have Ou:Hid (I.named st=!Lex.bL ts):=by show _=_;rw[HN.o,decide_eq_true (by exact UInt8.toNat_inj.1 hk),Bool.true_and]
  clear hk;go_wp2_with fail
  with_reducible refine(sg ⟨ts.toArray⟩ m _ hsz (vh hm hz1)).mono ?_
  rintro e w2 ⟨rfl,hw⟩;subst hw;go_wp2_with fail
  go_ret;exact⟨by rw[Ou.o]<;>rfl,HB1.o.alloc hs1 _⟩
 ·have t1:((tk.toNat:Int)==1)=false:=by simp;omega
  have Ou:Hid (I.named st=false):=by show _=_;rw[HN.o,decide_eq_false (fun e=>hk (by rw[show tk=1 from e];rfl)),Bool.false_and]
  clear hk;go_wp2_with fail
  go_ret;exact⟨by rw[Ou.o]<;>rfl,HB1.o.alloc hs1 _⟩
end
section
set_option maxRecDepth 100000
theorem nP(C:RC)(st:I.St)(w:World)(h:PS C st w):
 Calls Tryz.prog 131 #[.p C.g] w fun e w'=>e=.returned (.s (I.bs (I.name C.text.size st).1))∧PS C (I.name C.text.size st).2 w'∧Ch C.g w.heap.size w w':=by
 have Kt:=h.lt;have HP:=aa h;clear h;have hN:=C.ok.len;have hCs:=C.small;go_enter Tryz.func131,Tryz.ntmps131;go_wp2_with fail
 with_reducible refine(qP C st _ HP.o).mono ?_
 rintro e w1 ⟨rfl,hb⟩;have KL:=aa (HP.o.below hb Kt);have KJ:=aa ((Ch.refl C.g w.heap.size w).below hb (Nat.le_refl _));have hs1:=hb.size;clear hb;cases hn:I.named st with
 |false=>
  have HF:Hid (I.name C.text.size st=([],I.fail C.text.size 300 st)):=by show _=_;unfold I.name;rw[hn];cases st.r<;>rfl
  clear hn;go_wp2_with fail
  with_reducible refine(iO C 300 300 st _ KL.o rfl).mono ?_
  rintro e w2 ⟨rfl,hp,hc⟩;have Ld:=aa hp;have Ms:=aa (KJ.o.trans hc hs1);clear hp hc;go_wp2_with fail
  go_ret;exact⟨by rw[HF.o]<;>rfl,by rw[HF.o];exact Ld.o,Ms.o⟩
 |true=>
  have hne:st.r≠[]:=by intro e;unfold I.named at hn;rw[e]at hn;cases hn
  have HF:Hid (I.name C.text.size st=((I.cI C.text.size st).2.1,I.next st)):=by
   show _=_;unfold I.name I.cI;rw[hn];cases hr:st.r with
   |nil=>exact absurd hr hne
   |cons t r=>rfl
  have Hne:=aa hne;clear hn hne;obtain⟨t,ht⟩:=aab (I.cI C.text.size st);rw[←ht]at HF;obtain⟨tk,ts,ta⟩:=t;have HT:=aa ht;clear ht;go_wp2_with fail
  with_reducible refine(gY C st _ KL.o).mono ?_
  rintro e w2 ⟨rfl,hb⟩;rw[←HT.o];unfold gd;simp only;have Ld:=aa (KL.o.below hb (by omega));have Ms:=aa (KJ.o.below hb hs1);have hs2:=hb.size;clear hb;obtain⟨k,hpb⟩:=Ld.o.1;obtain⟨x0,x1,x2,x3,x4,x5,xf⟩:=hpb.cells;have TG:=xf 2;have HB:=aa hpb;have hkl:k<C.ts.length:=by
   have h1:=Hne.o;rw[hpb.2.1]at h1;by_cases h2:k<C.ts.length
   ·exact h2
   ·exact absurd (List.drop_of_length_le (by omega)) h1
  clear hpb x0 x1 x3 x4 x5 xf;have kf:=fun(w:World) (a b c:Value)=>ym w a b c
  go_wp2_with fail
  go_ret;exact⟨by rw[HF.o]<;>rfl,by rw[HF.o];exact Ld.o.put ((Ch.refl _ _ _).set (p:=⟨C.g,2,none⟩) (.inl rfl) _) (HB.o.next (by omega)),Ms.o.set (p:=⟨C.g,2,none⟩) (.inl rfl) _⟩
namespace I
theorem mI{T:Nat}{ss:List Bs}{k:Nat}{s:Bs}(h:ss[k]?=some s)(st:St):expect T (ss.drop k) st=if ae s st=true then expect T (ss.drop (k+1)) (next st)else fail T 300 st:=by
 obtain⟨hk,e⟩:=List.getElem?_eq_some_iff.1 h;rw[List.drop_eq_getElem_cons hk,e,expect]
theorem sX{T:Nat}{ss:List Bs}{k:Nat}{s:Bs}(h:ss[k]?=some s)(st:St):choose T k (ss.drop k) st=if ae s st=true then(k,next st)else choose T (k+1) (ss.drop (k+1)) st:=by
 obtain⟨hk,e⟩:=List.getElem?_eq_some_iff.1 h;rw[List.drop_eq_getElem_cons hk,e,choose]
theorem DV{ss:List (Bs×UInt8)}{k:Nat}{s:Bs×UInt8}(h:ss[k]?=some s)(st:St):one (ss.drop k) st=if ae s.1 st=true then(s.2,next st)else one (ss.drop (k+1)) st:=by
 obtain⟨hk,e⟩:=List.getElem?_eq_some_iff.1 h;rw[List.drop_eq_getElem_cons hk,e,one]
end I
theorem iW(C:RC)(v:Value)(ss:List I.Bs)(st:I.St)(w:World)(h:PS C st w)(hl:Rr MP w (Pg C w) v ss):
 Calls Tryz.prog 133 #[.p C.g,v] w fun e w'=>e=.returned (.tuple #[])∧PS C (I.expect C.text.size ss st) w'∧Ch C.g w.heap.size w w':=by
 have Kt:=h.lt;obtain⟨A,c,rfl,hc1,hc2⟩:=hl.form;obtain⟨n,hn⟩:=aab ss.length;rw[←hn]at hl hc1⊢;have HN:=aa hn;have HP:=aa h;have HL:=aa hl;clear h hl hn;go_enter Tryz.func133,Tryz.ntmps133;go_wp2_with fail
 go_loopg [8] n (fun gg i wr=>∃(k:Nat) (s1:I.St),k≤n∧gg=n-k∧i=.i (k:Nat)∧Hid (I.expect C.text.size ss st=I.expect C.text.size (ss.drop k) s1)∧Hid (PS C s1 wr)∧Hid (Ch C.g w.heap.size w wr));case atStart=>exact⟨0,st,Nat.zero_le _,rfl,rfl,aa rfl,HP,aa (Ch.refl _ _ _)⟩
 case round=>
  obtain⟨k,s1,hk,rfl,rfl,HE,KL,KJ⟩:=hrel;obtain⟨w5,NH⟩:=aab wr;subst NH;have hs5:=KJ.o.size;by_cases hlt:k<n
  ·have QI:=aa (HL.o.YI (Nat.le_refl _) KJ.o);obtain⟨b,off,s,cs,rfl,hb,hsk,hcs,hcell⟩:=QI.o.at hlt;have e1:cs=[.s (I.bs s)]:=hcs;subst e1;have c0:=hcell 0 _ rfl;simp[MP]at c0;have HS:=aa (I.mI (T:=C.text.size) hsk s1);have q1:(k:Int)<(n:Int):=by omega
   clear hsk hcs hcell hb QI;go_wp2_with fail
   with_reducible refine(bK C (I.bs s) s1 _ KL.o).mono ?_
   rintro e w6 ⟨rfl,hp,hc⟩;rw[cL]at hp⊢;have Mp:=aa hp;have MX:=aa (KJ.o.trans hc hs5);clear hp hc c0;cases ha:I.ae s s1 with
   |true=>
    have HE2:Hid (I.expect C.text.size ss st=I.expect C.text.size (ss.drop (k+1)) (I.next s1)):=by show _=_;rw[HE.o,HS.o,if_pos ha]
    have Nk:Hid (PS C (I.next s1) w6):=by have:=Mp.o;rw[I.di ha]at this;exact this
    clear ha;go_wp2_with fail
    go_roundg (n-(k+1));case measure=>omega
    case rel=>exact⟨k+1,I.next s1,by omega,rfl,by go_num,HE2,Nk,MX⟩
   |false=>
    have HE2:Hid (I.expect C.text.size ss st=I.fail C.text.size 300 s1):=by show _=_;rw[HE.o,HS.o,if_neg (by rw[ha];decide)]
    have Nk:Hid (PS C s1 w6):=by have:=Mp.o;rw[I.dT ha]at this;exact this
    have hs6:=MX.o.size;clear ha;go_wp2_with fail
    with_reducible refine(iO C 300 300 s1 _ Nk.o rfl).mono ?_
    rintro e w7 ⟨rfl,hp,hc⟩;have PM:=aa hp;have Qe:=aa (MX.o.trans hc hs6);clear hp hc;go_wp2_with fail
    exact bodyPost_ret (v:=.tuple #[]) (results_none rfl _ _ _) rfl ⟨rfl,by rw[HE2.o];exact PM.o,Qe.o⟩
  ·have hkn:k=n:=by omega
   have HE2:Hid (I.expect C.text.size ss st=s1):=by show _=_;rw[HE.o,hkn,HN.o,List.drop_length];rfl
   clear hkn;go_wp2_with fail
   go_end0;exact⟨rfl,by rw[HE2.o];exact KL.o,KJ.o⟩
theorem wI(C:RC)(v:Value)(ss:List I.Bs)(st:I.St)(w:World)(h:PS C st w)(hl:Rr MP w (Pg C w) v ss):
 Calls Tryz.prog 130 #[.p C.g,v] w fun e w'=>e=.returned (.i ((I.choose C.text.size 0 ss st).1:Int))∧PS C (I.choose C.text.size 0 ss st).2 w'∧Ch C.g w.heap.size w w':=by
 have Kt:=h.lt;obtain⟨A,c,rfl,hc1,hc2⟩:=hl.form;obtain⟨n,hn⟩:=aab ss.length;rw[←hn]at hl hc1⊢;have HN:=aa hn;have HP:=aa h;have HL:=aa hl;clear h hl hn;go_enter Tryz.func130,Tryz.ntmps130;go_wp2_with fail
 go_loopg [9] n (fun gg i wr=>∃(k:Nat) (s1:I.St),k≤n∧gg=n-k∧i=.i (k:Nat)∧Hid (I.choose C.text.size 0 ss st=I.choose C.text.size k (ss.drop k) s1)∧Hid (PS C s1 wr)∧Hid (Ch C.g w.heap.size w wr));case atStart=>exact⟨0,st,Nat.zero_le _,rfl,rfl,aa rfl,HP,aa (Ch.refl _ _ _)⟩
 case round=>
  obtain⟨k,s1,hk,rfl,rfl,HE,KL,KJ⟩:=hrel;obtain⟨w5,NH⟩:=aab wr;subst NH;have hs5:=KJ.o.size;by_cases hlt:k<n
  ·have QI:=aa (HL.o.YI (Nat.le_refl _) KJ.o);obtain⟨b,off,s,cs,rfl,hb,hsk,hcs,hcell⟩:=QI.o.at hlt;have e1:cs=[.s (I.bs s)]:=hcs;subst e1;have c0:=hcell 0 _ rfl;simp[MP]at c0;have HS:=aa (I.sX (T:=C.text.size) hsk s1);have q1:(k:Int)<(n:Int):=by omega
   clear hsk hcs hcell hb QI;go_wp2_with fail
   with_reducible refine(bK C (I.bs s) s1 _ KL.o).mono ?_
   rintro e w6 ⟨rfl,hp,hc⟩;rw[cL]at hp⊢;have Mp:=aa hp;have MX:=aa (KJ.o.trans hc hs5);clear hp hc c0;cases ha:I.ae s s1 with
   |true=>
    have HE2:Hid (I.choose C.text.size 0 ss st=(k,I.next s1)):=by show _=_;rw[HE.o,HS.o,if_pos ha]
    have Nk:Hid (PS C (I.next s1) w6):=by have:=Mp.o;rw[I.di ha]at this;exact this
    clear ha;go_wp2_with fail
    go_ret;exact⟨by rw[HE2.o]<;>rfl,by rw[HE2.o];exact Nk.o,MX.o⟩
   |false=>
    have HE2:Hid (I.choose C.text.size 0 ss st=I.choose C.text.size (k+1) (ss.drop (k+1)) s1):=by show _=_;rw[HE.o,HS.o,if_neg (by rw[ha];decide)]
    have Nk:Hid (PS C s1 w6):=by have:=Mp.o;rw[I.dT ha]at this;exact this
    clear ha;go_wp2_with fail
    go_roundg (n-(k+1));case measure=>omega
    case rel=>exact⟨k+1,s1,by omega,rfl,by go_num,HE2,Nk,MX⟩
  ·have hkn:k=n:=by omega
   have HE2:Hid (I.choose C.text.size 0 ss st=(0,I.fail C.text.size 300 s1)):=by show _=_;rw[HE.o,hkn,HN.o,List.drop_length];rfl
   clear hkn;go_wp2_with fail
   with_reducible refine(iO C 300 300 s1 _ KL.o rfl).mono ?_
   rintro e w7 ⟨rfl,hp,hc⟩;have PM:=aa hp;have Qe:=aa (KJ.o.trans hc hs5);clear hp hc;go_wp2_with fail
   go_ret;exact⟨by rw[HE2.o]<;>rfl,by rw[HE2.o];exact PM.o,Qe.o⟩
theorem nD(C:RC)(v:Value)(ss:List (I.Bs×UInt8))(st:I.St)(w:World)(h:PS C st w)(hl:Rr FG w (Pg C w) v ss):
 Calls Tryz.prog 247 #[.p C.g,v] w fun e w'=>e=.returned (.u ((I.one ss st).1.toNat:Int))∧PS C (I.one ss st).2 w'∧Ch C.g w.heap.size w w':=by
 have Kt:=h.lt;obtain⟨A,c,rfl,hc1,hc2⟩:=hl.form;obtain⟨n,hn⟩:=aab ss.length;rw[←hn]at hl hc1⊢;have HN:=aa hn;have HP:=aa h;have HL:=aa hl;clear h hl hn;go_enter Tryz.func247,Tryz.ntmps247;go_wp2_with fail
 go_loopg [9] n (fun gg i wr=>∃(k:Nat) (s1:I.St),k≤n∧gg=n-k∧i=.i (k:Nat)∧Hid (I.one ss st=I.one (ss.drop k) s1)∧Hid (PS C s1 wr)∧Hid (Ch C.g w.heap.size w wr));case atStart=>exact⟨0,st,Nat.zero_le _,rfl,rfl,aa rfl,HP,aa (Ch.refl _ _ _)⟩
 case round=>
  obtain⟨k,s1,hk,rfl,rfl,HE,KL,KJ⟩:=hrel;obtain⟨w5,NH⟩:=aab wr;subst NH;have hs5:=KJ.o.size;by_cases hlt:k<n
  ·have QI:=aa (HL.o.YI (Nat.le_refl _) KJ.o);obtain⟨b,off,s,cs,rfl,hb,hsk,hcs,hcell⟩:=QI.o.at hlt;have e1:cs=[.s (I.bs s.1),.u (s.2.toNat:Int)]:=hcs;subst e1;have c0:=hcell 0 _ rfl;have c1:=hcell 1 _ rfl;simp[FG]at c0 c1;obtain⟨s,so⟩:=s;simp only at c0 c1;have HS:=aa (I.DV hsk s1);have q1:(k:Int)<(n:Int):=by omega
   clear hsk hcs hcell hb QI;go_wp2_with fail
   with_reducible refine(bK C (I.bs s) s1 _ (KL.o.alloc _)).mono ?_
   rintro e w6 ⟨rfl,hp,hc⟩;rw[cL]at hp⊢;have Mp:=aa hp;have MX:=aa ((KJ.o.alloc hs5 _).trans hc (by simp;omega));have hg5:=KL.o.lt;have YJ:=aa ((Kn.new w5 _ _).ch hc (by simp) (by omega));have d1:=YJ.o.cell 1;simp at d1;clear hp hc c0;cases ha:I.ae s s1 with
   |true=>
    have HE2:Hid (I.one ss st=(so,I.next s1)):=by show _=_;rw[HE.o,HS.o,if_pos ha]
    have Nk:Hid (PS C (I.next s1) w6):=by have:=Mp.o;rw[I.di ha]at this;exact this
    clear ha;go_wp2_with fail
    go_ret;exact⟨by rw[HE2.o]<;>rfl,by rw[HE2.o];exact Nk.o,MX.o⟩
   |false=>
    have HE2:Hid (I.one ss st=I.one (ss.drop (k+1)) s1):=by show _=_;rw[HE.o,HS.o,if_neg (by rw[ha];decide)]
    have Nk:Hid (PS C s1 w6):=by have:=Mp.o;rw[I.dT ha]at this;exact this
    clear ha;go_wp2_with fail
    go_roundg (n-(k+1));case measure=>omega
    case rel=>exact⟨k+1,s1,by omega,rfl,by go_num,HE2,Nk,MX⟩
  ·have hkn:k=n:=by omega
   have HE2:Hid (I.one ss st=(0,s1)):=by show _=_;rw[HE.o,hkn,HN.o,List.drop_length];rfl
   clear hkn;go_wp2_with fail
   go_ret;exact⟨by rw[HE2.o]<;>rfl,by rw[HE2.o];exact KL.o,KJ.o⟩
end
def ai(h:Ev.Hd)(A:Option Addr)(m c:Nat):List Value:=[.u (h.o.toNat:Int),.u (h.v.k.toNat:Int),.i h.v.n,.s h.v.s,.s h.nm,.s h.of,.i h.n,.slice A m c]
def XR(w:World)(P:Nat→Prop)(cs:List Value)(x:Ev.Ex):Prop:=∃h A m c ks d,cs=ai h A m c∧x=.mk h ks∧m≤c∧c≤9223372036854775807∧pG h∧Mu w P d A m ks
def Kr:El Ev.Ex where
 t:=50
 k:=8
 by':=104
 R:=XR
 pos:=by decide
 len:=fun h=>by obtain⟨h,A,m,c,ks,d,rfl,_⟩:=h;rfl
 one:=fun h=>by
  obtain⟨h,A,m,c,ks,d,rfl,_⟩:=h
  intro u hu
  simp only[ai,List.mem_cons,List.not_mem_nil,or_false]at hu
  rcases hu with rfl|rfl|rfl|rfl|rfl|rfl|rfl|rfl<;>rfl
 aR:=fun hP hk h=>by
  obtain⟨h,A,m,c,ks,d,e1,e2,e3,e4,e5,e6⟩:=h
  exact⟨h,A,m,c,ks,d,e1,e2,e3,e4,e5,Mu.aR hP hk e6⟩
section
variable{w w':World}{P P':Nat→Prop}
theorem Mu.up:∀{d d':Nat} {A:Option Addr} {m:Nat} {ks:List Ev.Ex},d≤d'→Mu w P d A m ks→Mu w P d' A m ks:=by
 intro d;induction d with
 |zero=>
  intro d' A m ks _ h;obtain⟨rfl,rfl⟩:=h;exact Mu.nil _ _ _ _
 |succ d ih=>
  intro d' A m ks hd h;obtain⟨d'',rfl⟩:∃k,d'=k+1:=⟨d'-1,by omega⟩;obtain⟨h1,h2,h3⟩:=h;refine⟨h1,h2,fun h0=>?_⟩;obtain⟨g,off,e,hg,hz,hc⟩:=h3 h0;refine⟨g,off,e,hg,hz,fun i h ks' hi=>?_⟩;obtain⟨A',c',c0,c1,c2,c3,c4,c5,c6,c7,e1,e2,e3,e4⟩:=hc i h ks' hi;exact⟨A',c',c0,c1,c2,c3,c4,c5,c6,c7,e1,e2,e3,ih (by omega) e4⟩
theorem qq{A:Option Addr}{n c:Nat}{ks:List Ev.Ex}(h:Rr Kr w P (.slice A n c) ks)(hn:n*104≤140737488355328):∃d,Mu w P d A n ks:=by
 have hl:n=ks.length:=by obtain⟨A',c',e,_⟩:=h;injection e
 have hall:∀j,j≤n→∃D,∀i,i<j→∀hd ks',ks[i]?=some (.mk hd ks')→∃g off A' c',A=some ⟨g,off,none⟩∧P g∧(∀t u,(ai hd A' ks'.length c')[t]?=some u→w.cell? ⟨g,off+i*8+t,none⟩=some u)∧ks'.length≤c'∧c'≤9223372036854775807∧pG hd∧Mu w P D A' ks'.length ks':=by
  intro j;induction j with
  |zero=>intro _;exact⟨0,fun i hi=>by omega⟩
  |succ j ih=>
   intro hj;obtain⟨D,hD⟩:=ih (by omega);obtain⟨g,off,x,cs,e,hg,hx,⟨h1,A',m',c',SW,d,e1,e2,e3,e4,e5,e6⟩,hcell⟩:=h.at (i:=j) (by omega);subst e1 e2;refine⟨max D d,fun i hi hd ks' hk=>?_⟩;by_cases hij:i<j
   ·obtain⟨g',off',YK,c'',f1,f2,f3,f4,f5,f6,f7⟩:=hD i hij hd ks' hk;exact⟨g',off',YK,c'',f1,f2,f3,f4,f5,f6,f7.up (by omega)⟩
   ·obtain rfl:i=j:=by omega
    rw[hx]at hk;injection hk with hk
    injection hk with k1 k2
    subst k1 k2;have hm:=e6.len.1;subst hm;exact⟨g,off,A',c',e,hg,fun t u ht=>hcell t u ht,e3,e4,e5,e6.up (by omega)⟩
 obtain⟨D,hD⟩:=hall n (Nat.le_refl _);refine⟨D+1,hl,hn,fun h0=>?_⟩;obtain⟨g0,YL,x,cs,e,hg,hx,_,_⟩:=h.at (i:=0) h0;refine⟨g0,YL,e,hg,(by
  obtain⟨_,_,e1,_,_,h3⟩:=h
  injection e1 with e1 e2 e3
  obtain⟨g1,o1,f1,_,hz,_⟩:=h3 (by omega)
  rw[←e1,e]at f1
  injection f1 with f1
  injection f1 with f1
  subst f1
  exact hz),fun i hd ks' hk=>?_⟩
 have hi:=(List.getElem?_eq_some_iff.1 hk).1;obtain⟨g',off',YK,c'',f1,f2,f3,f4,f5,f6,f7⟩:=hD i (by omega) hd ks' hk;rw[e]at f1;injection f1 with f1
 injection f1 with f1 f1'
 subst f1 f1';exact⟨YK,c'',f3 0 _ rfl,f3 1 _ rfl,f3 2 _ rfl,f3 3 _ rfl,f3 4 _ rfl,f3 5 _ rfl,f3 6 _ rfl,f3 7 _ rfl,f4,f5,f6,f7⟩
theorem iP{d n c:Nat}{A:Option Addr}{ks:List Ev.Ex}(h:Mu w P d A n ks)(hc:n≤c)(hc2:c≤9223372036854775807):Rr Kr w P (.slice A n c) ks:=by
 have hl:=h.len.1;subst hl;refine⟨A,c,rfl,hc,hc2,fun h0=>?_⟩;cases d with
 |zero=>obtain⟨h1,_⟩:=h;omega
 |succ d=>
  obtain⟨_,_,h3⟩:=h;obtain⟨g,off,e,hg,hz,hcell⟩:=h3 h0;refine⟨g,off,e,hg,hz,fun i x hi=>?_⟩;obtain⟨hd,ks'⟩:=x;obtain⟨A',c',c0,c1,c2,c3,c4,c5,c6,c7,e1,e2,e3,e4⟩:=hcell i hd ks' hi;refine⟨ai hd A' ks'.length c',⟨hd,A',_,c',ks',d,rfl,rfl,e1,e2,e3,e4⟩,fun j u hj=>?_⟩;show w.cell? ⟨g,off+i*8+j,none⟩=some u;match j,hj with
  |0,hj=>injection hj with hj;rw[←hj];exact c0
  |1,hj=>injection hj with hj;rw[←hj];exact c1
  |2,hj=>injection hj with hj;rw[←hj];exact c2
  |3,hj=>injection hj with hj;rw[←hj];exact c3
  |4,hj=>injection hj with hj;rw[←hj];exact c4
  |5,hj=>injection hj with hj;rw[←hj];exact c5
  |6,hj=>injection hj with hj;rw[←hj];exact c6
  |7,hj=>injection hj with hj;rw[←hj];exact c7
end
def In(a c:Nat):Nat→Prop:=fun b=>a≤b∧b<c
section
variable{α:Type}{E:El α}{w w':World}{P P':Nat→Prop}{cs:List Value}{x:α}{v:Value}{xs:List α}
theorem El.hp(h:E.R w P cs x)(hP:∀b,P b→P' b)(hc:∀b,P b→w'.heap[b]?=w.heap[b]?):E.R w' P' cs x:=
 E.aR hP hc h
theorem Rr.hp(h:Rr E w P v xs)(hP:∀b,P b→P' b)(hc:∀b,P b→w'.heap[b]?=w.heap[b]?):Rr E w' P' v xs:=
 h.aR hP hc
theorem El.ch{g B a c:Nat}(h:E.R w (In a c) cs x)(hc:Ch g B w w')(hB:c≤B)(hg:g<a):E.R w' (In a c) cs x:=
 El.hp h (fun _ h=>h) fun b hb=>hc.block b (Nat.lt_of_lt_of_le hb.2 hB) (by have:=hb.1;omega)
end
theorem XR.hp{w w':World}{P P':Nat→Prop}{cs:List Value}{x:Ev.Ex}(h:XR w P cs x)(hP:∀b,P b→P' b)(hc:∀b,P b→w'.heap[b]?=w.heap[b]?):XR w' P' cs x:=El.hp (E:=Kr) h hP hc
theorem XR.ch{w w':World}{g B a c:Nat}{cs:List Value}{x:Ev.Ex}(h:XR w (In a c) cs x)(hc:Ch g B w w')(hB:c≤B)(hg:g<a):XR w' (In a c) cs x:=El.ch (E:=Kr) h hc hB hg
theorem aV{w:World}{P:Nat→Prop}{cs:List Value}{x:Ev.Ex}(h:XR w P cs x):∃h A m c ks,cs=ai h A m c∧x=.mk h ks:=by
 obtain⟨h,A,m,c,ks,d,e1,e2,_⟩:=h;exact⟨h,A,m,c,ks,e1,e2⟩
theorem JX(k:UInt8)(n:Int)(h1: -9223372036854775808≤n)(h2:n≤9223372036854775807):Tt ⟨k,n,I.aQ⟩:=⟨by show(I.bs []).size≤_;unfold I.bs maxLen;decide,h1,h2⟩
theorem jx(o:UInt8):pG (I.hd o):=⟨JX 0 0 (by decide) (by decide),by show(I.bs []).size≤_;unfold I.bs maxLen;decide,by show(I.bs []).size≤_;unfold I.bs maxLen;decide,by show(-9223372036854775808:Int)≤0;decide,by show(0:Int)≤9223372036854775807;decide⟩
theorem bU{w:World}{P:Nat→Prop}{h:Ev.Hd}(hh:pG h):XR w P (ai h none 0 0) (.mk h []):=⟨h,none,0,0,[],0,rfl,rfl,by omega,by omega,hh,⟨rfl,rfl⟩⟩
theorem wZ{w:World}{P:Nat→Prop}{g n:Nat}{t:TypeId}{cells:Array Value}{css:List (List Value)}{ks:List Ev.Ex}{h:Ev.Hd}(hb:Kn w g t cells)(hcs:cells.toList=css.flatten)(hl:css.length=ks.length)(hR:∀(i:Nat) (cs:List Value) (x:Ev.Ex),css[i]?=some cs→ks[i]?=some x→XR w P cs x)(hg:P g)(hn:n=ks.length)(hm:n≤1000)(hh:pG h):XR w P (ai h (some ⟨g,0,none⟩) n n) (.mk h ks):=by
 obtain⟨d,hd⟩:=qq (Rr.blk (E:=Kr) (P:=P) hb hcs hl hR hg hn (by omega)) (by omega);exact⟨h,_,n,n,ks,d,rfl,rfl,Nat.le_refl _,by omega,hh,hd⟩
theorem qA{w:World}{P:Nat→Prop}{g:Nat}{t:TypeId}{cells:Array Value}{ca:List Value}{a:Ev.Ex}(o:UInt8)(hb:Kn w g t cells)(hcs:cells.toList=ca)(ha:XR w P ca a)(hg:P g):XR w P (ai (I.hd o) (some ⟨g,0,none⟩) 1 1) (I.un o a):=by
 refine wZ (css:=[ca]) hb (by simp[hcs]) rfl (fun i cs x h1 h2=>?_) hg rfl (by omega) (jx o);match i with
 |0=>injection h1 with h1;injection h2 with h2;rw[←h1,←h2];exact ha
 |i+1=>simp at h1
theorem vT{w:World}{P:Nat→Prop}{g:Nat}{t:TypeId}{cells:Array Value}{ca cb:List Value}{a b:Ev.Ex}(o:UInt8)(hb:Kn w g t cells)(hcs:cells.toList=ca++cb)(ha:XR w P ca a)(hb':XR w P cb b)(hg:P g):XR w P (ai (I.hd o) (some ⟨g,0,none⟩) 2 2) (I.bin o a b):=by
 refine wZ (css:=[ca,cb]) hb (by simp[hcs]) rfl (fun i cs x h1 h2=>?_) hg rfl (by omega) (jx o);match i with
 |0=>injection h1 with h1;injection h2 with h2;rw[←h1,←h2];exact ha
 |1=>injection h1 with h1;injection h2 with h2;rw[←h1,←h2];exact hb'
 |i+2=>simp at h1
theorem cD:(Tryz.prog.info? 50).map (·.size)=some 8:=by kernel_rfl
theorem eK:Tryz.prog.underlying 50=some (.struct (Tryz.prog.fieldsOf 50)):=by kernel_rfl
theorem Kn.mD(w:World)(o:Obj)(t:TypeId)(cs:Array Value):Kn ((w.alloc o).alloc (.cells cs t)) (w.heap.size+1) t cs:=by
 have:=Kn.new (w.alloc o) t cs;rwa [ay]at this
def eY(C:RC)(w:World)(r:Ev.Ex×I.St)(e:Ending)(w':World):Prop:=∃cs,e=.returned (.agg cs.toArray)∧XR w' (In w.heap.size w'.heap.size) cs r.1∧PS C r.2 w'∧Ch C.g w.heap.size w w'
def dy(C:RC)(N:FuncId)(args:Array Value)(kid:I.St→Ev.Ex×I.St)(n:Nat):Prop:=∀(st:I.St) (w:World),st.r.length≤n→PS C st w→Calls Tryz.prog N args w (eY C w (kid st))
theorem dy.at{C:RC}{N:FuncId}{args:Array Value}{kid:I.St→Ev.Ex×I.St}{n:Nat}(h:dy C N args kid n)(st:I.St)(w:World)(hn:st.r.length≤n)(hp:PS C st w):Calls Tryz.prog N args w (eY C w (kid st)):=h st w hn hp
theorem PS.Cf{C:RC}{st:I.St}{w:World}(h:PS C st w):PS C st w.drew:=h.below (B:=w.heap.size) ⟨rfl,rfl,rfl,Nat.le_refl _,fun _ _=>rfl⟩ h.lt
theorem Ch.sk{g B:Nat}{w w':World}(h:Ch g B w.drew w'):Ch g B w w':=⟨h.os,h.tape,h.output,h.size,h.block⟩
theorem dy.drew{C:RC}{N:FuncId}{args:Array Value}{kid:I.St→Ev.Ex×I.St}{n:Nat}(h:dy C N args kid n)(st:I.St)(w:World)(hn:st.r.length≤n)(hp:PS C st w):Calls Tryz.prog N args w.drew (eY C w (kid st)):=
 (h st w.drew hn hp.Cf).mono fun _ _ ⟨cs,e,hx,hp,hc⟩=>⟨cs,e,hx,hp,hc.sk⟩
namespace I
def ct{α:Type}(k:St→α×St):Prop:=∀st,(k st).2.r.length≤st.r.length
theorem gj:∀(l:List (Bs×UInt8)) (st:St),(one l st).2.r.length≤st.r.length∧((one l st).1≠0→(one l st).2.r.length<st.r.length):=by
 intro l;induction l with
 |nil=>intro st;exact⟨Nat.le_refl _,fun h=>absurd rfl h⟩
 |cons s l ih=>
  intro st;unfold one;split
  ·rename_i h;have:=fm h;cases hr:st.r with
   |nil=>exact absurd hr this
   |cons t r=>simp[next,hr]
  ·exact ih st
theorem oC:∀(l:List (Bs×UInt8)) (st:St),(∀s∈l,s.2≠0)→(one l st).1=0→(one l st).2=st:=by
 intro l;induction l with
 |nil=>intro st _ _;rfl
 |cons s l ih=>
  intro st hl h;unfold one at h⊢;split
  ·rename_i hs;rw[if_pos hs]at h;exact absurd h (hl s List.mem_cons_self)
  ·rename_i hs;rw[if_neg hs]at h;exact ih st (fun s hs=>hl s (List.mem_cons_of_mem _ hs)) h
theorem iD{kid:St→Ev.Ex×St}{l:List (Bs×UInt8)}{f:Nat}{e:Ev.Ex}{st:St}(hf:st.r.length<f)(h:(one l st).1≠0):ba kid l f e st=ba kid l (f-1) (bin (one l st).1 e (kid (one l st).2).1) (kid (one l st).2).2:=by
 obtain⟨f,rfl⟩:∃k,f=k+1:=⟨f-1,by omega⟩;rw[ba,if_neg h];rfl
theorem kJ{kid:St→Ev.Ex×St}{l:List (Bs×UInt8)}{f:Nat}{e:Ev.Ex}{st:St}(hf:st.r.length<f)(h:(one l st).1=0):ba kid l f e st=(e,st):=by
 obtain⟨f,rfl⟩:∃k,f=k+1:=⟨f-1,by omega⟩;rw[ba,if_pos h]
end I
end Go.Proofs.YtnicfobpclehkaaGreatDoor
