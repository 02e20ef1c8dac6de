import Derived.Laws.StructEq
import Derived.RegionTactic
import Derived.ChangeAlike
import Derived.Test.YtnicfobpclehkaaGreatDoorP5
set_option maxHeartbeats 3200000
set_option linter.unusedVariables false
set_option linter.unusedSimpArgs false
namespace Go.Proofs.YtnicfobpclehkaaGreatDoor
open Go.RowKit
section
set_option maxRecDepth 8000
theorem TP.parts{w w':World}{at_:Nat}{o:Option (UInt8×List UInt8×Nat)}{e:Ending}(h:TP w at_ o e w'):∃k s a n b,e=.returned (.tuple #[.agg #[.u k,.s s,.i a],.i n,.bool b])∧Below w.heap.size w w'∧∀w0 w'':World,Below w0.heap.size w0 w''→TP w0 at_ o (.returned (.tuple #[.agg #[.u k,.s s,.i a],.i n,.bool b])) w'':=by
 match o,h with
 |none,h=>
  obtain⟨k,s,a,n,rfl,hb⟩:=h;exact⟨k,s,a,n,false,rfl,hb,fun _ _ hb'=>⟨k,s,a,n,rfl,hb'⟩⟩
 |some (k,s,n),h=>
  obtain⟨rfl,hb⟩:=h;exact⟨_,_,_,_,_,rfl,hb,fun _ _ hb'=>⟨rfl,hb'⟩⟩
theorem fz{l:List UInt8}{i:Nat}{c:UInt8}(hc:l[i]?=some c):Lex.token (l.drop i)=if c.toNat=120∧Lex.aZ l (i+1) 39=true then Lex.dD (l.drop i)else if Lex.letter c=true then Lex.iu (l.drop i)else if Lex.digit c=true then Lex.fo (l.drop i)else if c.toNat=39 then Lex.dS (l.drop i)else Lex.jE (l.drop i):=by
 have e:Lex.aZ l (i+1) 39=Lex.aZ (l.drop (i+1)) 0 39:=by rw[Lex.bX]
 rw[e,drop_at hc];rfl
theorem Ak(c:UInt8)(x:Int)(w:World)(hx:x=(c.toNat:Int)):Calls Tryz.prog 119 #[.int .i32 x] w fun e w'=>e=.returned (.bool (Lex.letter c))∧w=w':=by
 subst hx;exact gU c w
theorem xU(text:ByteArray)(at_:Nat)(w:World)(hm:text.size≤1099511627776)(hat:at_<text.size):
 Calls Tryz.prog 50 #[.s text,.i (at_:Int)] w (TP w at_ (Lex.token (text.data.toList.drop at_))):=by
 have HL:=aa (aH text);obtain⟨c,hc,hs⟩:=bW hat;have hcl:=c.toNat_lt;obtain⟨o,ho⟩:=aab (Lex.token (text.data.toList.drop at_));rw[←ho];obtain⟨v39,Lr⟩:=aab (Lex.aZ text.data.toList (at_+1) 39);have HO:=aa (ho.trans (fz hc));rw[←Lr]at HO;have Tz:=aa Lr;have hlast:v39=true→at_+1<text.size:=by intro h;rw[Lr]at h;unfold Lex.aZ at h;rw[decide_eq_true_eq]at h;have:=(List.getElem?_eq_some_iff.1 h).1;rw[HL.o]at this;exact this
 have HLa:=aa hlast;clear ho hc Lr hlast;go_enter Tryz.func50,Tryz.ntmps50;by_cases LM:c.toNat=120
 ·have Ot:((c.toNat:Int)==120)=true:=by simp;omega
  go_wp2_with fail
  with_reducible refine(jm text _ (at_+1) 39 _ _ (by omega) Yv).mono ?_
  rintro e w' ⟨rfl,rfl⟩;rw[←Tz.o];cases v39 with
  |true=>
   have HF:Hid (o=Lex.dD (text.data.toList.drop at_)):=HO.o.trans (if_pos ⟨LM,rfl⟩);have Pc:=HLa.o rfl;clear LM;go_wp2_with fail
   with_reducible refine(uU text at_ _ hm Pc).mono ?_
   intro e w2 hpost;obtain⟨k2,s2,a2,n2,b2,rfl,hb2,hre⟩:=hpost.parts;have QG:=aa hre;have hblk:=Kn.below (Kn.new w 113 kI) hb2 (by simp);have hbel:=((Below.refl w.heap.size w).alloc (Nat.le_refl _) (.cells kI 113)).trans (hb2.mono (by simp));have HB:=aa hbel;have d0:w2.cell? ⟨w.heap.size,0,none⟩=some .b:=hblk.cell 0;have d1:w2.cell? ⟨w.heap.size,1,none⟩=some .e:=hblk.cell 1;have d2:w2.cell? ⟨w.heap.size,2,none⟩=some .o:=hblk.cell 2;obtain⟨f0,f1,f2⟩:=hblk.Z3;have Kt:=hblk.lt;clear hpost hre hb2 hblk hbel;go_wp2_with fail
   refine bodyPost_ret (v:=.tuple #[.agg #[.u k2,.s s2,.i a2],.i n2,.bool b2]) (by simp[results,Tryz.results50,go_sem,d0,d1,d2]) rfl ?_;rw[HF.o];exact QG.o _ _ (((HB.o.setCell (Nat.le_refl _) _).setCell (Nat.le_refl _) _).setCell (Nat.le_refl _) _)
  |false=>
   have hx:¬(c.toNat=120∧false=true):=by simp
   have hlet:Lex.letter c=true:=by unfold Lex.letter;simp[LM]
   have YC:Hid ((120:Int)=(c.toNat:Int)):=by show _=_;omega
   clear LM;have Nh:=aa hlet;have HF:Hid (o=Lex.iu (text.data.toList.drop at_)):=HO.o.trans (by rw[if_neg hx,if_pos hlet]);have Ni:=Lex.dj Lex.aL (text.data.toList.drop at_);rw[List.length_drop,HL.o]at Ni;obtain⟨n,hn⟩:=aab (Lex.span Lex.aL (text.data.toList.drop at_));rw[←hn]at Ni;have HN:=aa hn;unfold Lex.iu at HF;rw[←hn]at HF;clear hlet hn hx HO;go_wp2_with fail
   with_reducible refine(Ak c 120 _ YC.o).mono ?_
   rintro e w' ⟨rfl,rfl⟩;rw[Nh.o];go_wp2_with fail
   with_reducible refine(fP text at_ 120 Lex.aL _ (by omega) ky kD (by omega)).mono ?_
   rintro e w' ⟨rfl,rfl⟩;rw[←HN.o];obtain⟨e1,he1⟩:=aab (at_+n);rw[←he1];have Mf:Hid (e1=at_+n∧e1-at_=n):=⟨he1,by omega⟩;have Mz:e1≤text.size:=by omega
   have hI1:(at_:Int)≤(e1:Int):=by omega
   have hI2:(e1:Int)≤(text.size:Int):=by omega
   by_cases MO:n≤24
   ·have HG:=aa (HF.o.trans (if_pos MO));have t5:decide ((e1:Int)-(at_:Int)≤24)=true:=by simp;omega
    clear MO he1;go_wp2_with fail
    exact bodyPost_ret (v:=.tuple #[.agg #[.u 1,.s (text.extract at_ e1),.o],.i (e1:Int),.bool true]) (by simp[results,Tryz.results50,go_sem]) rfl (TP.yes HG.o rfl (by rw[extract_eq _ _ _ Mz,Mf.o.2]) (by rw[Mf.o.1]) ((Below.refl _ _).alloc (Nat.le_refl _) _))
   ·have HG:=aa (HF.o.trans (if_neg MO));have t5:decide ((e1:Int)-(at_:Int)≤24)=false:=by simp;omega
    clear MO he1;go_wp2_with fail
    exact bodyPost_ret (v:=.tuple #[.agg #[.u 1,.s (text.extract at_ e1),.o],.i (e1:Int),.f]) (by simp[results,Tryz.results50,go_sem]) rfl (TP.no HG.o ((Below.refl _ _).alloc (Nat.le_refl _) _))
 ·have Ot:((c.toNat:Int)==120)=false:=by simp;omega
  have hx:¬(c.toNat=120∧v39=true):=fun h=>LM h.1
  clear LM;cases hlet:Lex.letter c with
  |true=>
   have Nh:=aa hlet;have HF:Hid (o=Lex.iu (text.data.toList.drop at_)):=HO.o.trans (by rw[if_neg hx,if_pos hlet]);have Ni:=Lex.dj Lex.aL (text.data.toList.drop at_);rw[List.length_drop,HL.o]at Ni;obtain⟨n,hn⟩:=aab (Lex.span Lex.aL (text.data.toList.drop at_));rw[←hn]at Ni;have HN:=aa hn;unfold Lex.iu at HF;rw[←hn]at HF;clear hlet hn hx HO;go_wp2_with fail
   with_reducible refine(gU c _).mono ?_
   rintro e w' ⟨rfl,rfl⟩;rw[Nh.o];go_wp2_with fail
   with_reducible refine(fP text at_ 120 Lex.aL _ (by omega) ky kD (by omega)).mono ?_
   rintro e w' ⟨rfl,rfl⟩;rw[←HN.o];obtain⟨e1,he1⟩:=aab (at_+n);rw[←he1];have Mf:Hid (e1=at_+n∧e1-at_=n):=⟨he1,by omega⟩;have Mz:e1≤text.size:=by omega
   have hI1:(at_:Int)≤(e1:Int):=by omega
   have hI2:(e1:Int)≤(text.size:Int):=by omega
   by_cases MO:n≤24
   ·have HG:=aa (HF.o.trans (if_pos MO));have t5:decide ((e1:Int)-(at_:Int)≤24)=true:=by simp;omega
    clear MO he1;go_wp2_with fail
    exact bodyPost_ret (v:=.tuple #[.agg #[.u 1,.s (text.extract at_ e1),.o],.i (e1:Int),.bool true]) (by simp[results,Tryz.results50,go_sem]) rfl (TP.yes HG.o rfl (by rw[extract_eq _ _ _ Mz,Mf.o.2]) (by rw[Mf.o.1]) ((Below.refl _ _).alloc (Nat.le_refl _) _))
   ·have HG:=aa (HF.o.trans (if_neg MO));have t5:decide ((e1:Int)-(at_:Int)≤24)=false:=by simp;omega
    clear MO he1;go_wp2_with fail
    exact bodyPost_ret (v:=.tuple #[.agg #[.u 1,.s (text.extract at_ e1),.o],.i (e1:Int),.f]) (by simp[results,Tryz.results50,go_sem]) rfl (TP.no HG.o ((Below.refl _ _).alloc (Nat.le_refl _) _))
  |false=>
   have Nh:=aa hlet;have LY:Hid (o=_):=HO.o.trans (by rw[if_neg hx,if_neg (by rw[hlet];simp)]);clear hlet hx HO;go_wp2_with fail
   with_reducible refine(gU c _).mono ?_
   rintro e w' ⟨rfl,rfl⟩;rw[Nh.o];go_wp2_with fail
   with_reducible refine(ed c _).mono ?_
   rintro e w' ⟨rfl,rfl⟩;cases hdig:Lex.digit c with
   |true=>
    have HF:Hid (o=Lex.fo (text.data.toList.drop at_)):=LY.o.trans (if_pos hdig);clear hdig;go_wp2_with fail
    with_reducible refine(vI text at_ _ hm hat).mono ?_
    intro e w2 hpost;obtain⟨k2,s2,a2,n2,b2,rfl,hb2,hre⟩:=hpost.parts;have QG:=aa hre;have hblk:=Kn.below (Kn.new w 113 kI) hb2 (by simp);have hbel:=((Below.refl w.heap.size w).alloc (Nat.le_refl _) (.cells kI 113)).trans (hb2.mono (by simp));have HB:=aa hbel;have d0:w2.cell? ⟨w.heap.size,0,none⟩=some .b:=hblk.cell 0;have d1:w2.cell? ⟨w.heap.size,1,none⟩=some .e:=hblk.cell 1;have d2:w2.cell? ⟨w.heap.size,2,none⟩=some .o:=hblk.cell 2;obtain⟨f0,f1,f2⟩:=hblk.Z3;have Kt:=hblk.lt;clear hpost hre hb2 hblk hbel;go_wp2_with fail
    refine bodyPost_ret (v:=.tuple #[.agg #[.u k2,.s s2,.i a2],.i n2,.bool b2]) (by simp[results,Tryz.results50,go_sem,d0,d1,d2]) rfl ?_;rw[HF.o];exact QG.o _ _ (((HB.o.setCell (Nat.le_refl _) _).setCell (Nat.le_refl _) _).setCell (Nat.le_refl _) _)
   |false=>
    have Lb:Hid (o=_):=LY.o.trans (if_neg (by rw[hdig];simp));clear hdig LY;by_cases Lr:c.toNat=39
    ·have RD:((c.toNat:Int)==39)=true:=by simp;omega
     have HF:Hid (o=Lex.dS (text.data.toList.drop at_)):=Lb.o.trans (if_pos Lr);clear Lr;go_wp2_with fail
     with_reducible refine(wb text at_ _ hm hat).mono ?_
     intro e w2 hpost;obtain⟨k2,s2,a2,n2,b2,rfl,hb2,hre⟩:=hpost.parts;have QG:=aa hre;have hblk:=Kn.below (Kn.new w 113 kI) hb2 (by simp);have hbel:=((Below.refl w.heap.size w).alloc (Nat.le_refl _) (.cells kI 113)).trans (hb2.mono (by simp));have HB:=aa hbel;have d0:w2.cell? ⟨w.heap.size,0,none⟩=some .b:=hblk.cell 0;have d1:w2.cell? ⟨w.heap.size,1,none⟩=some .e:=hblk.cell 1;have d2:w2.cell? ⟨w.heap.size,2,none⟩=some .o:=hblk.cell 2;obtain⟨f0,f1,f2⟩:=hblk.Z3;have Kt:=hblk.lt;clear hpost hre hb2 hblk hbel;go_wp2_with fail
     refine bodyPost_ret (v:=.tuple #[.agg #[.u k2,.s s2,.i a2],.i n2,.bool b2]) (by simp[results,Tryz.results50,go_sem,d0,d1,d2]) rfl ?_;rw[HF.o];exact QG.o _ _ (((HB.o.setCell (Nat.le_refl _) _).setCell (Nat.le_refl _) _).setCell (Nat.le_refl _) _)
    ·have RD:((c.toNat:Int)==39)=false:=by simp;omega
     have HF:Hid (o=Lex.jE (text.data.toList.drop at_)):=Lb.o.trans (if_neg Lr);clear Lr;go_wp2_with fail
     with_reducible refine(BO text at_ _ hm hat).mono ?_
     intro e w2 hpost;obtain⟨k2,s2,a2,n2,b2,rfl,hb2,hre⟩:=hpost.parts;have QG:=aa hre;have hblk:=Kn.below (Kn.new w 113 kI) hb2 (by simp);have hbel:=((Below.refl w.heap.size w).alloc (Nat.le_refl _) (.cells kI 113)).trans (hb2.mono (by simp));have HB:=aa hbel;have d0:w2.cell? ⟨w.heap.size,0,none⟩=some .b:=hblk.cell 0;have d1:w2.cell? ⟨w.heap.size,1,none⟩=some .e:=hblk.cell 1;have d2:w2.cell? ⟨w.heap.size,2,none⟩=some .o:=hblk.cell 2;obtain⟨f0,f1,f2⟩:=hblk.Z3;have Kt:=hblk.lt;clear hpost hre hb2 hblk hbel;go_wp2_with fail
     refine bodyPost_ret (v:=.tuple #[.agg #[.u k2,.s s2,.i a2],.i n2,.bool b2]) (by simp[results,Tryz.results50,go_sem,d0,d1,d2]) rfl ?_;rw[HF.o];exact QG.o _ _ (((HB.o.setCell (Nat.le_refl _) _).setCell (Nat.le_refl _) _).setCell (Nat.le_refl _) _)
end
section
set_option maxRecDepth 8000
def cr:List Lex.Tok→List Value
 |[]=>[]
 |t::r=>.u (t.1.toNat:Int):: .s ⟨t.2.1.toArray⟩:: .i ((t.2.2:Nat):Int)::cr r
theorem vB:∀r:List Lex.Tok,(cr r).length=r.length*3:=by
 intro r;induction r with
 |nil=>rfl
 |cons v r ih=>simp only[cr,List.length_cons,ih];omega
theorem pD:∀r r':List Lex.Tok,cr (r++r')=cr r++cr r':=by
 intro r;induction r with
 |nil=>intro r';rfl
 |cons v r ih=>intro r';simp only[List.cons_append,cr,ih]
theorem vH(r:List Lex.Tok):∀u∈cr r,u.oneCell'=true:=by
 induction r with
 |nil=>intro u hu;cases hu
 |cons v r ih=>
  intro u hu;simp only[cr,List.mem_cons]at hu;rcases hu with rfl|rfl|rfl|hu
  ·rfl
  ·rfl
  ·rfl
  ·exact ih u hu
theorem zV:∀(r:List Lex.Tok) (i:Nat) (t:Lex.Tok),r[i]?=some t→(cr r)[i*3]?=some (.u (t.1.toNat:Int))∧(cr r)[i*3+1]?=some (.s ⟨t.2.1.toArray⟩)∧(cr r)[i*3+2]?=some (.i ((t.2.2:Nat):Int)):=by
 intro r;induction r with
 |nil=>intro i v h;simp at h
 |cons u r ih=>
  intro i v h;cases i with
  |zero=>simp at h;subst h;simp[cr]
  |succ i=>
   have:=ih i v (by simpa using h);rw[show(i+1)*3=i*3+1+1+1 by omega];simpa[cr]using this
theorem Kb:(Tryz.prog.info? 113).map (fun i=>(i.zero,i.size,i.bytes))=some (some (.agg #[.b,.s ByteArray.empty,.o]),3,32):=by kernel_rfl
theorem mP{ops:Array Oper}{rest:List Oper}{o:Oper}{a:Act}{Q:Exit→Act→World→Prop}{w0:World}{cs:Array Value}{mk:Nat×Nat}{t:TypeId}(ht:Tryz.prog.underlying t=some (.slice 113))(hgd:o.guard=none)(s x:Operand)
 (ho:o.op=.call {callee:=.builtin .append,args:=#[s,x],argTypes:=#[t,t]})
 (base:Nat) (v:Value) (n:Nat) (vs:List Lex.Tok) (hs:a.eval s=v) (hown:w0.ownsRow base 113 3 v n (cr vs))
 (c:Nat) (tk:Lex.Tok) (g:Nat) (hg:g=w0.heap.size) (hx:a.eval x=.slice (some ⟨g,0,none⟩) 1 c) (hcs:cs=#[.u (tk.1.toNat:Int),.s ⟨tk.2.1.toArray⟩,.i ((tk.2.2:Nat):Int)]) (hn:(n+1)*32≤140737488355328) (hbase:base≤w0.heap.size)
 (h:∀v' w',w'.ownsRow base 113 3 v' (n+1) (cr (vs++[tk]))→Below base w0 w'→wpList Tryz.prog ops Q rest (a.put o.dst v') w'):wpList Tryz.prog ops Q (o::rest) a (w0.alloc (.cells cs 113 mk)):=by
 subst hcs hg;obtain⟨i0,hi0,hz0,hz1,hz2⟩:=info_parts Kb;have hr:Rd (w0.alloc (.cells #[.u (tk.1.toNat:Int),.s ⟨tk.2.1.toArray⟩,.i ((tk.2.2:Nat):Int)] 113 mk)) (w0.heap.size+1) 3 (some ⟨w0.heap.size,0,none⟩) 1 (cr [tk]):=by have:=Rd.lit w0 113 (cr [tk]) mk;refine⟨rfl,fun _=>?_⟩;exact this.2 (by show 0<3;omega)
 refine iR (w0.alloc _) hgd s x t ho base 113 i0 _ 3 32 ht hi0 hz0 hz1 hz2 rfl (by omega) v n _ hs (hown.alloc _) _ _ 1 c _ hx hr (vH _) (by unfold maxLen;omega) hn (by simp;omega) ?_;intro v' w' h1 h2 h3;rw[←pD]at h1;exact h v' w' h1 (((Below.refl _ _).alloc hbase _).trans h2)
def TE(w:World)(p:List Lex.Tok×Nat×Nat)(e:Ending)(w':World):Prop:=
 ∃v,e=.returned (.tuple #[v,.agg #[.i ((p.2.1:Nat):Int),.i ((p.2.2:Nat):Int)]])∧w'.ownsRow w.heap.size 113 3 v p.1.length (cr p.1)∧Below w.heap.size w w'
theorem TE.mk{w w':World}{p:List Lex.Tok×Nat×Nat}{ts:List Lex.Tok}{a b:Nat}{x y:Int}{v:Value}(h:p=(ts,a,b))(hx:x=(a:Int))(hy:y=(b:Int))(ho:w'.ownsRow w.heap.size 113 3 v ts.length (cr ts))(hb:Below w.heap.size w w'):TE w p (.returned (.tuple #[v,.agg #[.i x,.i y]])) w':=by
 subst h hx hy;exact⟨v,rfl,ho,hb⟩
def KR(w:World)(l:List UInt8)(f k:Nat)(acc:List Lex.Tok)(v:Value)(wr:World):Prop:=
 k≤l.length∧acc.length≤k∧l.length≤f+k∧Lex.im (l.length+1) 0 l=Lex.pre acc (Lex.head l f k)∧wr.ownsRow (w.heap.size+1) 113 3 v acc.length (cr acc)∧Below w.heap.size w wr∧Kn wr w.heap.size 33 #[.o,.o]∧w.heap.size+1≤wr.heap.size
theorem TP.case{w w':World}{at_:Nat}{o:Option (UInt8×List UInt8×Nat)}{e:Ending}(h:TP w at_ o e w'):(o=none∧∃k s a n,e=.returned (.tuple #[.agg #[.u k,.s s,.i a],.i n,.f])∧Below w.heap.size w w')∨∃k s n,o=some (k,s,n)∧e=.returned (.tuple #[.agg #[.u (k.toNat:Int),.s ⟨s.toArray⟩,.o],.i ((at_+n:Nat):Int),.bool true])∧Below w.heap.size w w':=by
 match o,h with
 |none,h=>exact .inl ⟨rfl,h⟩
 |some (k,s,n),h=>exact .inr ⟨k,s,n,rfl,h.1,h.2⟩
theorem xa(text:ByteArray)(x:Int)(at_:Nat)(w:World)(hx:x=(at_:Int))(hm:text.size+4≤9223372036854775807)(hat:at_≤text.size):
 Calls Tryz.prog 49 #[.s text,.i x] w fun e w'=>e=.returned (.i ((Lex.bZ text.data.toList at_:Nat):Int))∧w=w':=by
 subst hx;exact C2 text at_ w hm hat
theorem wD(text:ByteArray)(w:World)(hm:text.size≤maxLen):
 Calls Tryz.prog 22 #[.s text] w (TE w (Lex.told text.data.toList)):=by
 unfold maxLen at hm;have HL:=aa (aH text);obtain⟨p,hp⟩:=aab (Lex.told text.data.toList);rw[←hp];have HP:=aa hp;clear hp;by_cases hlong:4096<text.size
 ·have HF:=aa (HP.o.trans (Lex.j3 (by rw[HL.o];exact hlong)));have t1:decide ((4096:Int)<(text.size:Int))=true:=by simp;omega
  clear hlong;go_enter Tryz.func22,Tryz.ntmps22;go_wp2_with fail
  exact bodyPost_ret (v:=.tuple #[.z,.agg #[.i 3,.o]]) (by simp[results,Tryz.results22,go_sem]) rfl (TE.mk HF.o rfl rfl (fI _ _ _ _) ((Below.refl _ _).alloc (Nat.le_refl _) _))
 ·have t1:decide ((4096:Int)<(text.size:Int))=false:=by simp;omega
  have hm2:text.size≤4096:=by omega
  have VI:Hid (¬4096<text.data.toList.length):=by rw[HL.o];exact hlong
  clear hlong hm;go_enter Tryz.func22,Tryz.ntmps22;go_wp2_with fail
  with_reducible refine(xa text _ 0 _ (by omega) (by omega) (by omega)).mono ?_
  rintro e w' ⟨rfl,rfl⟩;obtain⟨k0,hk0⟩:=aab (Lex.bZ text.data.toList 0);have TB:k0≤text.size:=by have:=(Lex.iL text.data.toList 0 (by omega)).2.1;rw[HL.o]at this;omega
  have VJ:Hid (Lex.im (text.data.toList.length+1) 0 text.data.toList=Lex.head text.data.toList text.data.toList.length k0):=by have:=Lex.lV text.data.toList text.data.toList.length 0 (by omega);rw[List.drop_zero,←hk0]at this;exact this
  rw[←hk0];clear hk0;go_wp2_with fail
  go_loopg [4,5] (text.size-k0) (fun g v i wr=>∃(k f:Nat) (acc:List Lex.Tok),g=text.size-k∧i=.i (k:Nat)∧KR w text.data.toList f k acc v wr);case atStart=>exact⟨k0,text.data.toList.length,[],rfl,rfl,by rw[HL.o];exact TB,by simp,by omega,by rw[Lex.xP];exact VJ.o,fI _ _ _ _,(Below.refl _ _).alloc (Nat.le_refl _) _,Kn.new _ _ _,by simp⟩
  case round=>
   obtain⟨k,f,acc,rfl,rfl,hk,hacc,hf,htk,hown,hbel,hblk,hsz⟩:=hrel;rw[HL.o]at hk hf;have HT:=aa htk;have MH:=aa hown;have HB:=aa hbel;have HK:=aa hblk;clear htk hown hbel hblk VJ;by_cases hlt:k<text.size
   ·have Nv:(k:Int)<(text.size:Int):=by omega
    have Nh:Hid (¬text.data.toList.length≤k):=by rw[HL.o];show¬_;omega
    go_wp2_with fail
    with_reducible refine(xU text k _ (by omega) hlt).mono ?_
    intro e w2 hpost;rcases hpost.case with⟨hno,k2,s2,a2,n2,rfl,hb2⟩|⟨k2,s2,n2,Nj,rfl,hb2⟩
    ·have HF:=aa (HP.o.trans (Lex.oa VI.o (HT.o.trans (Lex.uB Nh.o hno))));have hblk:=HK.o.below hb2 (by omega);have HB2:=aa (HB.o.trans (hb2.mono (by omega)));have d0:w2.cell? ⟨w.heap.size,0,none⟩=some .o:=hblk.cell 0;have d1:w2.cell? ⟨w.heap.size,1,none⟩=some .o:=hblk.cell 1;obtain⟨f0,f1⟩:=hblk.Z2;have Kt:=hblk.lt;have hne:w.heap.size≠w2.heap.size:=by omega
     have hz2:=hb2.size;clear hpost hno hb2 hblk;go_wp2_with fail
     refine bodyPost_ret (v:=.tuple #[.z,.agg #[.i 290,.i (k:Int)]]) (by simp[results,Tryz.results22,go_sem,d0,d1,Kt]) rfl (TE.mk HF.o rfl rfl (fI _ _ _ _) ?_);exact((HB2.o.setCell (show w.heap.size≤w.heap.size from Nat.le_refl _) _).setCell (show w.heap.size≤w.heap.size from Nat.le_refl _) _).alloc (by simp;omega) _
    ·have hl2:=Lex.j2 Nj;rw[List.length_drop,HL.o]at hl2;obtain⟨YD,YE,-⟩:=hl2;have HN:=aa (HT.o.trans (Lex.qe (acc:=acc) Nh.o Nj (by omega)));have LY:=aa (mb MH.o hb2);have Oq:=aa (HK.o.below hb2 (by omega));have HB2:=aa (HB.o.trans (hb2.mono (by omega)));have hz2:=hb2.size;clear hpost Nj hb2 MH HK HB HT;go_wp2_with (at_builtin;refine mP Tryz.underlying67 rfl (.tmp 32) (.tmp 34) rfl (w.heap.size+1) _ acc.length acc rfl (LY.o.alloc _) 1 (k2,s2,k) (w2.heap.size+1) (by simp) rfl rfl (by omega) (by simp;omega) ?_;intro v3 w3 hown3 hb3;have Lb:=aa hown3;have HB3:=aa hb3;clear hown3 hb3)
     with_reducible refine(xa text _ (k+n2) _ (by omega) (by omega) (by omega)).mono ?_
     rintro e w' ⟨rfl,rfl⟩;have hsk:=Lex.iL text.data.toList (k+n2) (by rw[HL.o];omega);rw[HL.o]at hsk;obtain⟨TC,QH,-⟩:=hsk;obtain⟨k3,hk3⟩:=aab (Lex.bZ text.data.toList (k+n2));rw[←hk3]at HN TC QH⊢;clear hk3;go_wp2_with fail
     go_roundg (text.size-k3);case measure=>omega
     case rel=>
      have hz3:=HB3.o.size;simp at hz3;refine⟨k3,f-1,acc++[(k2,s2,k)],rfl,rfl,by rw[HL.o];exact QH,by simp;omega,by rw[HL.o];omega,HN.o,?_,?_,?_,by omega⟩
      ·rw[List.length_append];exact Lb.o
      ·exact(HB2.o.alloc (by omega) _).trans (HB3.o.mono (by omega))
      ·exact(Oq.o.alloc _).below HB3.o (by omega)
   ·obtain rfl:k=text.size:=by omega
    have HF:=aa (HP.o.trans (Lex.wX VI.o (HT.o.trans (Lex.uq (by rw[HL.o];exact Nat.le_refl _)))));obtain⟨A1,c1,rfl⟩:=Ca MH.o;have hblk:=HK.o;have d0:wr.cell? ⟨w.heap.size,0,none⟩=some .o:=hblk.cell 0;have d1:wr.cell? ⟨w.heap.size,1,none⟩=some .o:=hblk.cell 1;obtain⟨f0,f1⟩:=hblk.Z2;have Kt:=hblk.lt;clear hblk;go_wp2_with fail
    refine bodyPost_ret (v:=.tuple #[.slice A1 acc.length c1,.agg #[.o,.o]]) (by simp[results,Tryz.results22,go_sem,d0,d1]) rfl (TE.mk HF.o rfl rfl ?_ ((HB.o.setCell (Nat.le_refl _) _).setCell (Nat.le_refl _) _));exact tI (ownsRow_setCell_below (ownsRow_setCell_below MH.o (show w.heap.size<w.heap.size+1 by omega) _) (show w.heap.size<w.heap.size+1 by omega) _) (by omega)
end
section
set_option maxRecDepth 100000
theorem three{α:Type}{l:List α}{β:Type}{f:α→β}{a b c:β}(h:l.map f=[a,b,c]):∃x y z,l=[x,y,z]∧f x=a∧f y=b∧f z=c:=by
 match l,h with
 |[x,y,z],h=>simp at h;exact⟨x,y,z,rfl,h.1,h.2.1,h.2.2⟩
theorem EZ(text:ByteArray)(x:Int)(at_:Nat)(N:FuncId)(p:UInt8→Bool)(w:World)(hx:x=(at_:Int))(hm:text.size≤9223372036854775807)(hN:∀(x:Value) (w:World),(callFunc N #[x]).run Tryz.prog w=.ok (.enter N #[x]) w)(hp:∀(c:UInt8) (w:World),Calls Tryz.prog N #[.int .i32 (c.toNat:Int)] w fun e w'=>e=.returned (.bool (p c))∧w=w')(hat:at_≤text.size):
 Calls Tryz.prog 114 #[.s text,.i x,.func (.func N) #[] #[]] w fun e w'=>e=.returned (.i ((at_+Lex.span p (text.data.toList.drop at_):Nat):Int))∧w=w':=by
 subst hx;exact fP text at_ N p w hm hN hp hat
theorem BM(s:ByteArray)(w:World)(hm:s.size≤maxLen):Calls Tryz.prog 246 #[.s s] w fun e w'=>e=.returned (.bool (Lex.word s.data.toList))∧w=w':=by
 unfold maxLen at hm;have HL:=aa (aH s);obtain⟨b,hb⟩:=aab (Lex.word s.data.toList);rw[←hb];unfold Lex.word at hb;rw[HL.o]at hb;have HB:=aa hb;clear hb;by_cases h1:1≤s.size
 ·have t1:decide ((1:Int)≤(s.size:Int))=true:=by simp;omega
  by_cases h2:s.size≤24
  ·have t2:decide ((s.size:Int)≤24)=true:=by simp;omega
   obtain⟨c,hc,hs⟩:=bW (show 0<s.size by omega);have hd:s.data.toList=c::s.data.toList.drop 1:=by have:=drop_at hc;simpa using this
   have hI:(0:Int)<(s.size:Int):=by omega
   have hcl:=c.toNat_lt;have HB2:Hid (b=(Lex.letter c&&decide (Lex.span Lex.aL s.data.toList=s.size))):=by
    show _=_;have e0:Lex.cH s.data.toList=Lex.letter c:=by rw[hd];rfl
    rw[HB.o,decide_eq_true h1,decide_eq_true h2,Bool.true_and,Bool.true_and,e0]
   clear HB hc hd;go_enter Tryz.func246,Tryz.ntmps246;go_wp2_with fail
   with_reducible refine(gU c _).mono ?_
   rintro e w' ⟨rfl,rfl⟩;cases hlt:Lex.letter c with
   |false=>
    have HF:Hid (b=false):=HB2.o.trans (by rw[hlt];rfl);clear hlt;go_wp2_with fail
    go_ret;exact⟨by rw[HF.o];rfl,rfl⟩
   |true=>
    have HF:=aa (HB2.o.trans (by rw[hlt,Bool.true_and]));clear hlt;go_wp2_with fail
    with_reducible refine(EZ s _ 0 120 Lex.aL _ (by omega) (by omega) ky kD (by omega)).mono ?_
    rintro e w' ⟨rfl,rfl⟩;rw[List.drop_zero,Nat.zero_add];obtain⟨n,hn⟩:=aab (Lex.span Lex.aL s.data.toList);rw[←hn]at HF⊢;clear hn;go_wp2_with fail
    go_ret;exact⟨by rw[HF.o];exact jv (by rw[Bool.eq_iff_iff];simp;omega),rfl⟩
  ·have t2:decide ((s.size:Int)≤24)=false:=by simp;omega
   have HF:Hid (b=false):=HB.o.trans (by rw[decide_eq_false h2];simp);go_enter Tryz.func246,Tryz.ntmps246;go_wp2_with fail
   go_ret;exact⟨by rw[HF.o];rfl,rfl⟩
 ·have t1:decide ((1:Int)≤(s.size:Int))=false:=by simp;omega
  have HF:Hid (b=false):=HB.o.trans (by rw[decide_eq_false h1];rfl);go_enter Tryz.func246,Tryz.ntmps246;go_wp2_with fail
  go_ret;exact⟨by rw[HF.o];rfl,rfl⟩
theorem tF:Lex.words.length<4294967281:=by decide +kernel
theorem ry(S T:ByteArray)(m:Int)(w:World)(hS:S.data.toList=Lex.words)(hM:w.cell? ⟨0,0,none⟩=some (.i m)):Calls Tryz.prog 17 #[.s S,.s T] w fun e w'=>e=.returned (.bool (Lib.contains Lex.words T.data.toList))∧w=w':=by
 rw[←hS];exact(Tryz.strings_Contains S T m w (by rw[←aH,hS];exact tF) hM).mono fun _ _ h=>⟨h.1,h.2.symm⟩
theorem Ds(s:ByteArray):((⟨#[32]⟩:ByteArray)++s++⟨#[32]⟩).data.toList=32::(s.data.toList++[32]):=by
 simp[ByteArray.data_append]
theorem sg(s:ByteArray)(m:Int)(w:World)(hm:s.size≤maxLen)(hM:w.cell? ⟨0,0,none⟩=some (.i m)):Calls Tryz.prog 235 #[.s s] w fun e w'=>e=.returned (.bool (Lex.bL s.data.toList))∧w=w':=by
 have HM:=aa hM;have HS:=aa hm;obtain⟨b,hb⟩:=aab (Lex.bL s.data.toList);rw[←hb];unfold Lex.bL at hb;have HB:=aa hb;clear hb hM hm;go_enter Tryz.func235,Tryz.ntmps235;go_wp2_with fail
 with_reducible refine(BM s _ HS.o).mono ?_
 rintro e w' ⟨rfl,rfl⟩;cases hw:Lex.word s.data.toList with
 |false=>
  have HF:Hid (b=false):=HB.o.trans (by rw[hw];rfl);clear hw;go_wp2_with fail
  go_ret;exact⟨by rw[HF.o];rfl,rfl⟩
 |true=>
  have HF:=aa (HB.o.trans (by rw[hw,Bool.true_and]));have MO:s.size≤24:=by unfold Lex.word at hw;simp at hw;have:=aH s;omega
  clear hw;go_wp2_with fail
  with_reducible refine(ry _ _ m _ ?_ HM.o).mono ?_
  ·kernel_rfl
  rintro e w' ⟨rfl,rfl⟩;rw[Ds,←HF.o];go_wp2_with fail
  go_ret;exact⟨rfl,rfl⟩
end
theorem ay(w:World)(o:Obj):(w.alloc o).heap.size=w.heap.size+1:=by simp
structure Ch (g B:Nat) (w w':World):Prop where
 os:w'.os=w.os
 tape:w'.tape=w.tape
 output:w'.output=w.output
 size:w.heap.size≤w'.heap.size
 block:∀k,k<B→k≠g→w'.heap[k]?=w.heap[k]?
section
variable{g B B':Nat}{w w1 w':World}
theorem Ch.refl(g B:Nat)(w:World):Ch g B w w:=⟨rfl,rfl,rfl,Nat.le_refl _,fun _ _ _=>rfl⟩
theorem Ch.trans(h:Ch g B w w1)(k:Ch g B' w1 w')(hB:B≤B'):Ch g B w w':=
 ⟨k.os.trans h.os,k.tape.trans h.tape,k.output.trans h.output,Nat.le_trans h.size k.size,fun i hi hg=>(k.block i (by omega) hg).trans (h.block i hi hg)⟩
theorem Ch.alloc(h:Ch g B w w1)(hB:B≤w1.heap.size)(o:Obj):Ch g B w (w1.alloc o):=
 ⟨h.os,h.tape,h.output,Nat.le_trans h.size (by simp),fun i hi hg=>(Below.heap_alloc w1 o i (by omega)).trans (h.block i hi hg)⟩
theorem Ch.set(h:Ch g B w w1){p:Addr}(hp:p.block=g∨B≤p.block)(u:Value):Ch g B w (w1.setCell p u):=
 ⟨h.os,h.tape,h.output,by simpa using h.size,fun i hi hg=>(Below.heap_setCell w1 p u i (by omega)).trans (h.block i hi hg)⟩
theorem Ch.below(h:Ch g B w w1)(k:Below B' w1 w')(hB:B≤B'):Ch g B w w':=
 ⟨k.os.trans h.os,k.tape.trans h.tape,k.output.trans h.output,Nat.le_trans h.size k.size,fun i hi hg=>(k.block i (by omega)).trans (h.block i hi hg)⟩
theorem Ch.drew(h:Ch g B w w1)(n:Nat):Ch g B w (w1.drewN n):=⟨h.os,h.tape,h.output,h.size,h.block⟩
theorem Ch.cell(h:Ch g B w w'){b o:Nat}(hb:b<B)(hg:b≠g):w'.cell? ⟨b,o,none⟩=w.cell? ⟨b,o,none⟩:=World.cell?_of_block (a:=⟨b,o,none⟩) (h.block b hb hg)
theorem Kn.ch{k:Nat}{t:TypeId}{cs:Array Value}(h:Kn w k t cs)(hc:Ch g B w w')(hk:k<B)(hg:k≠g):Kn w' k t cs:=(hc.block k hk hg).trans h
theorem Rd.ch{B0 size n:Nat}{A:Option Addr}{xs:List Value}(h:Rd w B0 size A n xs)(hc:Ch g B w w')(hB:B0≤B)(hg:B0≤g):Rd w' B0 size A n xs:=
 h.aR fun p hp=>World.cell?_of_block (hc.block p.block (by omega) (by omega))
end
def Qx(w:World):Prop:=∃(m:Int) (te:TypeId) (pe:Value) (tf:TypeId) (pf:Value),w.cell? ⟨0,0,none⟩=some (.i m)∧w.cell? ⟨4,0,none⟩=some (.iface te pe)∧w.cell? ⟨5,0,none⟩=some (.iface tf pf)
structure RC where
 text:ByteArray
 ts:List Lex.Tok
 A:Option Addr
 c:Nat
 g:Nat
 small:text.size≤4096
 ok:Lex.SU text.size ts
 cap:ts.length≤c∧c≤9223372036854775807
 six:5<g
abbrev RC.p (C:RC):Value:=.p C.g
def PB(C:RC)(st:I.St)(w:World)(k:Nat):Prop:=
 Kn w C.g 72 #[.s C.text,.slice C.A C.ts.length C.c,.i (k:Int),.i (st.e:Int),.i (st.c:Int),.bool st.d]∧st.r=C.ts.drop k∧k≤C.ts.length+1
def PS(C:RC)(st:I.St)(w:World):Prop:=(∃k,PB C st w k)∧Rd w C.g 3 C.A C.ts.length (cr C.ts)∧Qx w
section
variable{C:RC}{st:I.St}{w w':World}
theorem Qx.aR(h:Qx w)(hk:∀b o,b<6→w'.cell? ⟨b,o,none⟩=w.cell? ⟨b,o,none⟩):Qx w':=by
 obtain⟨m,te,pe,tf,pf,h1,h2,h3⟩:=h;exact⟨m,te,pe,tf,pf,(hk _ _ (by omega)).trans h1,(hk _ _ (by omega)).trans h2,(hk _ _ (by omega)).trans h3⟩
theorem PS.lt(h:PS C st w):C.g<w.heap.size:=by
 obtain⟨⟨k,h,_⟩,_⟩:=h;exact h.lt
theorem PS.below{B:Nat}(h:PS C st w)(hb:Below B w w')(hB:C.g<B):PS C st w':=by
 obtain⟨⟨k,h1,h2⟩,h3,h4⟩:=h;exact⟨⟨k,h1.below hb hB,h2⟩,h3.below hb (by omega),h4.aR fun b o hb'=>hb.cell (p:=⟨b,o,none⟩) (by have:=C.six;show b<B;omega)⟩
theorem PS.alloc(h:PS C st w)(o:Obj):PS C st (w.alloc o):=h.below ((Below.refl w.heap.size w).alloc (Nat.le_refl _) o) h.lt
theorem PS.set(h:PS C st w){p:Addr}(u:Value)(hp:C.g<p.block):PS C st (w.setCell p u):=h.below ((Below.refl (C.g+1) w).setCell hp u) (by omega)
theorem PS.drew(h:PS C st w)(n:Nat):PS C st (w.drewN n):=h.below (B:=w.heap.size) ⟨rfl,rfl,rfl,Nat.le_refl _,fun _ _=>rfl⟩ h.lt
theorem PS.put{st':I.St}{k':Nat}(h:PS C st w)(hc:Ch C.g (C.g+1) w w')(hb:PB C st' w' k'):PS C st' w':=by
 obtain⟨_,h3,h4⟩:=h;exact⟨⟨k',hb⟩,h3.ch hc (by omega) (by omega),h4.aR fun b o hb'=>hc.cell (by have:=C.six;omega) (by have:=C.six;omega)⟩
end
theorem fS{w:World}{g:Nat}{t:TypeId}{a0 a1 a2:Value}(h:Kn w g t #[a0,a1,a2])(u0 u1 u2:Value):Kn (((w.setCell ⟨g,0,none⟩ u0).setCell ⟨g,1,none⟩ u1).setCell ⟨g,2,none⟩ u2) g t #[u0,u1,u2]:=by simpa using(((h.put 0 u0).put 1 u1).put 2 u2)
theorem sL{w0 w:World}{r B g:Nat}(h:Ch r B w0 w)(hg:g=r∨B≤g)(u0 u1 u2:Value):Ch r B w0 (((w.setCell ⟨g,0,none⟩ u0).setCell ⟨g,1,none⟩ u1).setCell ⟨g,2,none⟩ u2):=(((h.set (p:=⟨g,0,none⟩) hg u0).set (p:=⟨g,1,none⟩) hg u1).set (p:=⟨g,2,none⟩) hg u2)
theorem YF{C:RC}{st:I.St}{w:World}{g:Nat}(h:PS C st w)(hg:C.g<g)(u0 u1 u2:Value):PS C st (((w.setCell ⟨g,0,none⟩ u0).setCell ⟨g,1,none⟩ u1).setCell ⟨g,2,none⟩ u2):=(((h.set (p:=⟨g,0,none⟩) u0 hg).set (p:=⟨g,1,none⟩) u1 hg).set (p:=⟨g,2,none⟩) u2 hg)
theorem fM{w0 w:World}{B g:Nat}(h:Below B w0 w)(hg:B≤g)(u0 u1 u2:Value):Below B w0 (((w.setCell ⟨g,0,none⟩ u0).setCell ⟨g,1,none⟩ u1).setCell ⟨g,2,none⟩ u2):=(((h.setCell (p:=⟨g,0,none⟩) hg u0).setCell (p:=⟨g,1,none⟩) hg u1).setCell (p:=⟨g,2,none⟩) hg u2)
theorem Hv{w:World}{g:Nat}{t:TypeId}{a0 a1 a2 a3 a4 a5 a6:Value}(h:Kn w g t #[a0,a1,a2,a3,a4,a5,a6])(u0 u1 u2 u3 u4 u5 u6:Value):Kn (((((((w.setCell ⟨g,0,none⟩ u0).setCell ⟨g,1,none⟩ u1).setCell ⟨g,2,none⟩ u2).setCell ⟨g,3,none⟩ u3).setCell ⟨g,4,none⟩ u4).setCell ⟨g,5,none⟩ u5).setCell ⟨g,6,none⟩ u6) g t #[u0,u1,u2,u3,u4,u5,u6]:=by simpa using(((((((h.put 0 u0).put 1 u1).put 2 u2).put 3 u3).put 4 u4).put 5 u5).put 6 u6)
theorem J5{w0 w:World}{r B g:Nat}(h:Ch r B w0 w)(hg:g=r∨B≤g)(u0 u1 u2 u3 u4 u5 u6:Value):Ch r B w0 (((((((w.setCell ⟨g,0,none⟩ u0).setCell ⟨g,1,none⟩ u1).setCell ⟨g,2,none⟩ u2).setCell ⟨g,3,none⟩ u3).setCell ⟨g,4,none⟩ u4).setCell ⟨g,5,none⟩ u5).setCell ⟨g,6,none⟩ u6):=(((((((h.set (p:=⟨g,0,none⟩) hg u0).set (p:=⟨g,1,none⟩) hg u1).set (p:=⟨g,2,none⟩) hg u2).set (p:=⟨g,3,none⟩) hg u3).set (p:=⟨g,4,none⟩) hg u4).set (p:=⟨g,5,none⟩) hg u5).set (p:=⟨g,6,none⟩) hg u6)
theorem aW{w:World}{g:Nat}{t:TypeId}{a0 a1 a2 a3 a4 a5 a6 a7:Value}(h:Kn w g t #[a0,a1,a2,a3,a4,a5,a6,a7])(u0 u1 u2 u3 u4 u5 u6 u7:Value):Kn ((((((((w.setCell ⟨g,0,none⟩ u0).setCell ⟨g,1,none⟩ u1).setCell ⟨g,2,none⟩ u2).setCell ⟨g,3,none⟩ u3).setCell ⟨g,4,none⟩ u4).setCell ⟨g,5,none⟩ u5).setCell ⟨g,6,none⟩ u6).setCell ⟨g,7,none⟩ u7) g t #[u0,u1,u2,u3,u4,u5,u6,u7]:=by simpa using((((((((h.put 0 u0).put 1 u1).put 2 u2).put 3 u3).put 4 u4).put 5 u5).put 6 u6).put 7 u7)
theorem bd{w0 w:World}{r B g:Nat}(h:Ch r B w0 w)(hg:g=r∨B≤g)(u0 u1 u2 u3 u4 u5 u6 u7:Value):Ch r B w0 ((((((((w.setCell ⟨g,0,none⟩ u0).setCell ⟨g,1,none⟩ u1).setCell ⟨g,2,none⟩ u2).setCell ⟨g,3,none⟩ u3).setCell ⟨g,4,none⟩ u4).setCell ⟨g,5,none⟩ u5).setCell ⟨g,6,none⟩ u6).setCell ⟨g,7,none⟩ u7):=((((((((h.set (p:=⟨g,0,none⟩) hg u0).set (p:=⟨g,1,none⟩) hg u1).set (p:=⟨g,2,none⟩) hg u2).set (p:=⟨g,3,none⟩) hg u3).set (p:=⟨g,4,none⟩) hg u4).set (p:=⟨g,5,none⟩) hg u5).set (p:=⟨g,6,none⟩) hg u6).set (p:=⟨g,7,none⟩) hg u7)
theorem eg{C:RC}{st:I.St}{w:World}{g:Nat}(h:PS C st w)(hg:C.g<g)(u0 u1 u2 u3 u4 u5 u6 u7:Value):PS C st ((((((((w.setCell ⟨g,0,none⟩ u0).setCell ⟨g,1,none⟩ u1).setCell ⟨g,2,none⟩ u2).setCell ⟨g,3,none⟩ u3).setCell ⟨g,4,none⟩ u4).setCell ⟨g,5,none⟩ u5).setCell ⟨g,6,none⟩ u6).setCell ⟨g,7,none⟩ u7):=((((((((h.set (p:=⟨g,0,none⟩) u0 hg).set (p:=⟨g,1,none⟩) u1 hg).set (p:=⟨g,2,none⟩) u2 hg).set (p:=⟨g,3,none⟩) u3 hg).set (p:=⟨g,4,none⟩) u4 hg).set (p:=⟨g,5,none⟩) u5 hg).set (p:=⟨g,6,none⟩) u6 hg).set (p:=⟨g,7,none⟩) u7 hg)
theorem qv{w:World}{g:Nat}{t:TypeId}{a0 a1 a2 a3 a4 a5 a6 a7 a8:Value}(h:Kn w g t #[a0,a1,a2,a3,a4,a5,a6,a7,a8])(u0 u1 u2 u3 u4 u5 u6 u7 u8:Value):Kn (((((((((w.setCell ⟨g,0,none⟩ u0).setCell ⟨g,1,none⟩ u1).setCell ⟨g,2,none⟩ u2).setCell ⟨g,3,none⟩ u3).setCell ⟨g,4,none⟩ u4).setCell ⟨g,5,none⟩ u5).setCell ⟨g,6,none⟩ u6).setCell ⟨g,7,none⟩ u7).setCell ⟨g,8,none⟩ u8) g t #[u0,u1,u2,u3,u4,u5,u6,u7,u8]:=by simpa using(((((((((h.put 0 u0).put 1 u1).put 2 u2).put 3 u3).put 4 u4).put 5 u5).put 6 u6).put 7 u7).put 8 u8)
theorem za{w0 w:World}{r B g:Nat}(h:Ch r B w0 w)(hg:g=r∨B≤g)(u0 u1 u2 u3 u4 u5 u6 u7 u8:Value):Ch r B w0 (((((((((w.setCell ⟨g,0,none⟩ u0).setCell ⟨g,1,none⟩ u1).setCell ⟨g,2,none⟩ u2).setCell ⟨g,3,none⟩ u3).setCell ⟨g,4,none⟩ u4).setCell ⟨g,5,none⟩ u5).setCell ⟨g,6,none⟩ u6).setCell ⟨g,7,none⟩ u7).setCell ⟨g,8,none⟩ u8):=(((((((((h.set (p:=⟨g,0,none⟩) hg u0).set (p:=⟨g,1,none⟩) hg u1).set (p:=⟨g,2,none⟩) hg u2).set (p:=⟨g,3,none⟩) hg u3).set (p:=⟨g,4,none⟩) hg u4).set (p:=⟨g,5,none⟩) hg u5).set (p:=⟨g,6,none⟩) hg u6).set (p:=⟨g,7,none⟩) hg u7).set (p:=⟨g,8,none⟩) hg u8)
theorem bC{w:World}{g:Nat}{t:TypeId}{a0 a1 a2 a3 a4 a5 a6 a7 a8 a9 XB YG a12:Value}(h:Kn w g t #[a0,a1,a2,a3,a4,a5,a6,a7,a8,a9,XB,YG,a12])(u0 u1 u2 u3 u4 u5 u6 u7 u8 u9 U8 U9 Va:Value):Kn (((((((((((((w.setCell ⟨g,0,none⟩ u0).setCell ⟨g,1,none⟩ u1).setCell ⟨g,2,none⟩ u2).setCell ⟨g,3,none⟩ u3).setCell ⟨g,4,none⟩ u4).setCell ⟨g,5,none⟩ u5).setCell ⟨g,6,none⟩ u6).setCell ⟨g,7,none⟩ u7).setCell ⟨g,8,none⟩ u8).setCell ⟨g,9,none⟩ u9).setCell ⟨g,10,none⟩ U8).setCell ⟨g,11,none⟩ U9).setCell ⟨g,12,none⟩ Va) g t #[u0,u1,u2,u3,u4,u5,u6,u7,u8,u9,U8,U9,Va]:=by simpa using(((((((((((((h.put 0 u0).put 1 u1).put 2 u2).put 3 u3).put 4 u4).put 5 u5).put 6 u6).put 7 u7).put 8 u8).put 9 u9).put 10 U8).put 11 U9).put 12 Va)
theorem cC{w0 w:World}{r B g:Nat}(h:Ch r B w0 w)(hg:g=r∨B≤g)(u0 u1 u2 u3 u4 u5 u6 u7 u8 u9 U8 U9 Va:Value):Ch r B w0 (((((((((((((w.setCell ⟨g,0,none⟩ u0).setCell ⟨g,1,none⟩ u1).setCell ⟨g,2,none⟩ u2).setCell ⟨g,3,none⟩ u3).setCell ⟨g,4,none⟩ u4).setCell ⟨g,5,none⟩ u5).setCell ⟨g,6,none⟩ u6).setCell ⟨g,7,none⟩ u7).setCell ⟨g,8,none⟩ u8).setCell ⟨g,9,none⟩ u9).setCell ⟨g,10,none⟩ U8).setCell ⟨g,11,none⟩ U9).setCell ⟨g,12,none⟩ Va):=(((((((((((((h.set (p:=⟨g,0,none⟩) hg u0).set (p:=⟨g,1,none⟩) hg u1).set (p:=⟨g,2,none⟩) hg u2).set (p:=⟨g,3,none⟩) hg u3).set (p:=⟨g,4,none⟩) hg u4).set (p:=⟨g,5,none⟩) hg u5).set (p:=⟨g,6,none⟩) hg u6).set (p:=⟨g,7,none⟩) hg u7).set (p:=⟨g,8,none⟩) hg u8).set (p:=⟨g,9,none⟩) hg u9).set (p:=⟨g,10,none⟩) hg U8).set (p:=⟨g,11,none⟩) hg U9).set (p:=⟨g,12,none⟩) hg Va)
def I.cI(T:Nat)(st:I.St):Lex.Tok:=match st.r with
 |[]=>(0,[],T)
 |t::_=>t
def gd(t:Lex.Tok):Value:=.agg #[.u (t.1.toNat:Int),.s ⟨t.2.1.toArray⟩,.i (t.2.2:Int)]
theorem lQ{w:World}{B:Nat}{A:Option Addr}{n k:Nat}{ts:List Lex.Tok}(h:Rd w B 3 A n (cr ts))(hk:k<n):∃b off t,A=some ⟨b,off,none⟩∧b<B∧ts.drop k=t::ts.drop (k+1)∧t∈ts∧w.cell? ⟨b,off+k*3,none⟩=some (.u (t.1.toNat:Int))∧w.cell? ⟨b,off+k*3+1,none⟩=some (.s ⟨t.2.1.toArray⟩)∧w.cell? ⟨b,off+k*3+2,none⟩=some (.i (t.2.2:Int)):=by
 have hl:ts.length=n:=by have:=h.1;rw[vB]at this;omega
 obtain⟨b,off,e,hb,hc⟩:=h.2 (by omega);have hk':k<ts.length:=by omega
 obtain⟨h1,h2,h3⟩:=zV ts k ts[k] (List.getElem?_eq_getElem hk');refine⟨b,off,ts[k],e,hb,List.drop_eq_getElem_cons hk',List.getElem_mem hk',hc _ _ h1,?_,?_⟩
 ·rw[Nat.add_assoc];exact hc _ _ h2
 ·rw[Nat.add_assoc];exact hc _ _ h3
theorem xq:(Tryz.prog.info? 113).map (·.size)=some 3:=by kernel_rfl
theorem Be:Tryz.prog.underlying 113=some (.struct (Tryz.prog.fieldsOf 113)):=by kernel_rfl
theorem ym(w:World)(a b c:Value):(Instr.field 113 (.agg #[a,b,c]) 1).run Tryz.prog w=.ok b w:=by kernel_rfl
theorem zN(w:World)(a b c:Value):(Instr.field 113 (.agg #[a,b,c]) 2).run Tryz.prog w=.ok c w:=by kernel_rfl
theorem gY(C:RC)(st:I.St)(w:World)(h:PS C st w):
 Calls Tryz.prog 62 #[C.p] w fun e w'=>e=.returned (gd (I.cI C.text.size st))∧Below w.heap.size w w':=by
 have hS:=C.small;have hN:=C.ok.len;have hA:=aa C.ok.at_;have YH:=C.cap;have Kt:=h.lt;obtain⟨⟨k,hB,hr,hk⟩,hR,hU⟩:=h;have HR:=aa hR;have Hr:=aa hr;obtain⟨x0,x1,x2⟩:=hB.Y3;simp at x0 x1 x2;clear hB hR hU hr;unfold RC.p;by_cases hlt:k<C.ts.length
 ·obtain⟨b,off,t,SV,hbl,hd,hm,c0,c1,c2⟩:=lQ HR.o hlt;have hat:=hA.o t hm;have HE:Hid (I.cI C.text.size st=t):=by show _=_;unfold I.cI;rw[Hr.o,hd]
  rw[SV]at x1;have q1:(0:Int)≤(k:Int):=by omega
  have q2:(k:Int)<(C.ts.length:Int):=by omega
  have t1:decide ((k:Int)<(C.ts.length:Int))=true:=decide_eq_true q2;have hb2:b<w.heap.size:=by omega
  clear hd hm hk hat SV;go_enter Tryz.func62,Tryz.ntmps62;go_wp2_with fail
  go_quiet (fail);go_wp2_with fail
  go_region;go_wp2_with fail
  rw[HE.o];exact bodyPost_ret (v:=gd t) (results_cell_row rfl _ _ w.heap.size 113 _ (0,0) _ rfl (fS (w:=(w.alloc _).drewN _) (Kn.new w _ _) _ _ _) Be rfl xq) rfl ⟨rfl,fM (below_drewN ((Below.refl _ _).alloc (Nat.le_refl _) _) _) (Nat.le_refl _) _ _ _⟩
 ·have HE:Hid (I.cI C.text.size st=(0,[],C.text.size)):=by show _=_;unfold I.cI;rw[Hr.o,List.drop_of_length_le (by omega)]
  have q2:¬(k:Int)<(C.ts.length:Int):=by omega
  have t1:decide ((k:Int)<(C.ts.length:Int))=false:=decide_eq_false q2;clear hk;go_enter Tryz.func62,Tryz.ntmps62;go_wp2_with fail
  go_quiet (fail);go_wp2_with fail
  rw[HE.o];exact bodyPost_ret (v:=gd (0,[],C.text.size)) (results_cell_row rfl _ _ w.heap.size 113 _ (0,0) _ rfl (fS (w:=(w.alloc _).drewN _) (Kn.new w _ _) _ _ _) Be rfl xq) rfl ⟨rfl,fM (below_drewN ((Below.refl _ _).alloc (Nat.le_refl _) _) _) (Nat.le_refl _) _ _ _⟩
end Go.Proofs.YtnicfobpclehkaaGreatDoor
