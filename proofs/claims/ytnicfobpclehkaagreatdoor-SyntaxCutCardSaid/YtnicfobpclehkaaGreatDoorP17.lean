import Derived.Deep.RegionHeld3
import Derived.Test.YtnicfobpclehkaaGreatDoorP16
set_option maxHeartbeats 3200000
set_option linter.unusedVariables false
set_option linter.unusedSimpArgs false
namespace Go.Proofs.YtnicfobpclehkaaGreatDoor
open Go.RowKit
section
set_option maxRecDepth 100000
theorem I.pV{ks:List Ev.Ex}{k:Nat}{h:Ev.Hd}{ks':List Ev.Ex}(hk:ks[k]?=some (.mk h ks')):I.dI (ks.take (k+1))=max (I.dI (ks.take k)) (I.dI ks'+1):=by
 induction ks generalizing k with
 |nil=>simp at hk
 |cons a r ih=>
  cases k with
  |zero=>
   simp at hk;subst hk;simp[I.dI,I.depth]
  |succ k=>
   simp at hk;rw[List.take_succ_cons,List.take_succ_cons,I.dI,I.dI,ih hk];omega
theorem I.tp{ks:List Ev.Ex}{k:Nat}:I.dI (ks.take k)≤I.dI ks:=by
 induction ks generalizing k with
 |nil=>simp
 |cons a r ih=>
  cases k with
  |zero=>simp[I.dI]
  |succ k=>
   rw[List.take_succ_cons,I.dI,I.dI];have:=ih (k:=k);omega
theorem I.Ah{ks:List Ev.Ex}{k:Nat}{h:Ev.Hd}{ks':List Ev.Ex}(hk:ks[k]?=some (.mk h ks')):I.dI ks'+1≤I.dI ks:=by
 have h1:=I.pV hk;have h2:=I.tp (ks:=ks) (k:=k+1);omega
theorem tK:∀(d:Nat) (h:Ev.Hd) (A:Option Addr) (m c:Nat) (ks:List Ev.Ex) (w:World),O5 w (· <w.heap.size) d A m ks→I.dI ks≤1000000000000000000→m≤c→c≤9223372036854775807→
 Calls Tryz.prog 15 #[.agg #[.int .u8 (h.o.toNat:Int),.int .u8 (h.v.k.toNat:Int),.int .i64 h.v.n,.string h.v.s,.string h.nm,.string h.of,.int .i64 h.n,.slice A m c]] w fun e w'=>e=.returned (.int .i64 ((I.dI ks+1:Nat):Int))∧Below w.heap.size w w':=by
 intro d;induction d using Nat.strongRecOn with
 |_ d ih=>
  intro h A m c ks w hk hd hmc hcc;obtain⟨hm,hm2⟩:=hk.len;subst hm;have HK:=cN hk;have HI:=cN ih;have HD:=cN hd;clear hk ih hd;go_enter Tryz.func15,Tryz.ntmps15;have HB0:=cN ((ax w.heap.size w).alloc (aa _) (.cells #[.int .u8 (h.o.toNat:Int),.int .u8 (h.v.k.toNat:Int),.int .i64 h.v.n,.string h.v.s,.string h.nm,.string h.of,.int .i64 h.n,.slice A ks.length c] 50));go_wp2_with fail
  go_loopg [3,9] ks.length (fun gg mo ix wr=>∃k:Nat,k≤ks.length∧gg=ks.length-k∧ix=.int .i64 (k:Int)∧mo=.int .i64 ((I.dI (ks.take k):Nat):Int)∧Hid (Below w.heap.size w wr));case atStart=>exact⟨0,by omega,by omega,rfl,rfl,HB0⟩
  case round=>
   obtain⟨k,hkl,rfl,rfl,rfl,HB⟩:=hrel;obtain⟨w1,hw1⟩:∃x,x=wr:=⟨_,rfl⟩;subst hw1;clear HB0;have hs1:=HB.o.size;have Ua:=cN (HK.o.next HB.o);by_cases hlt:k<ks.length
   ·obtain⟨d',g,off,hd',ks',A',c',rfl,rfl,hg,hi,e0,e1,e2,e3,e4,e5,e6,e7,l1,l2,l3,l4⟩:=Ua.o.at hlt;have HT:=cN (I.pV hi);have hD1:=I.Ah hi;have hD2:=HD.o;have hle:=I.tp (ks:=ks) (k:=k);have t1:decide ((k:Int)<(ks.length:Int))=true:=aq (by omega);have q2:(k:Int)<(ks.length:Int):=by omega
    have L4:=cN l4;have L3:=cN l3;clear hi l3 l4;obtain⟨w2,hw2⟩:∃x,x=w1.alloc (.cells #[.int .u8 (hd'.o.toNat:Int),.int .u8 (hd'.v.k.toNat:Int),.int .i64 hd'.v.n,.string hd'.v.s,.string hd'.nm,.string hd'.of,.int .i64 hd'.n,.slice A' ks'.length c'] 50):=⟨_,rfl⟩;have HB2:=cN (show Below w.heap.size w w2 by rw[hw2];exact HB.o.alloc hs1 _);have Px:=cN (show NA w2 w1.heap.size 50 _ by rw[hw2];exact NA.new w1 _ _);have hz2:w2.heap.size=w1.heap.size+1:=by rw[hw2];simp
    have HL2:=cN (show O5 w2 (· <w2.heap.size) d' A' ks'.length ks' by rw[hw2];exact L4.o.next ((ax w1.heap.size w1).alloc (aa _) _));go_upto_region 5 with fail
    rw[←hw2];clear hw2 e0 e1 e2 e3 e4 e5 e6 e7;obtain⟨x0,x1,x2,x3,x4,x5,x6,x7⟩:=Px.o.y8 0 1 2 3 4 5 6 7;simp at x0 x1 x2 x3 x4 x5 x6 x7;have hz3:w1.heap.size<w2.heap.size:=by omega
    have UY:w.heap.size≤w2.heap.size:=by omega
    obtain⟨D0,hD0⟩:∃n,n=I.dI (ks.take k):=⟨_,rfl⟩;obtain⟨D1,VP⟩:∃n,n=I.dI ks':=⟨_,rfl⟩;rw[←hD0]at HT hle⊢;rw[←VP]at HT hD1;have HD1:=cN VP;clear hz2 hD0 VP;go_wp2_with fail
    with_reducible refine(HI.o d' (by omega) hd' A' ks'.length c' ks' _ HL2.o (by rw[←HD1.o];omega) l1 l2).mono ?_
    rintro e w3 ⟨rfl,hb3⟩;rw[←HD1.o];have HB3:=cN (HB2.o.trans (hb3.mono UY));clear hb3;go_wp2_with fail
    all_goals
     go_roundg (ks.length-(k+1))
     case measure=>omega
     case rel=>exact⟨k+1,by omega,rfl,by go_num,by rw[HT.o,Nat.max_def];congr 1;split<;>first|omega|(split<;>omega)|(simp only[Nat.max_def];split<;>omega),HB3⟩
   ·have hk2:k=ks.length:=by omega
    have HE:=cN (show I.dI (ks.take k)=I.dI ks by rw[hk2,List.take_length]);have t1:decide ((k:Int)<(ks.length:Int))=false:=ar (by omega);have q2:¬(k:Int)<(ks.length:Int):=by omega
    have hD2:=HD.o;rw[HE.o];clear hk2;go_wp2_with fail
    go_ret;exact⟨by go_num,HB.o⟩
end
section
namespace I
open Ev (Ex)
theorem jV(o:UInt8)(a:Ex):depth (un o a)=depth a+1:=by simp[un,depth,dI]
theorem jM(o:UInt8)(a b:Ex):depth (bin o a b)=max (depth a) (depth b)+1:=by simp[bin,depth,dI]
theorem jY(h:Ev.Hd):depth (.mk h [])=1:=by simp[depth,dI]
theorem o9(v:Cell.Val):depth (lit v)=1:=by simp[lit,depth,dI]
theorem iY(e:Ex):1≤depth e:=by
 cases e with
 |mk h ks=>rw[depth];omega
def Qs(k:St→Ex×St):Prop:=∀st,depth (k st).1+(k st).2.r.length≤st.r.length+1
theorem zY{kid:St→Ex×St}(h:Qs kid)(l:List (Bs×UInt8))(M:Nat):∀(f:Nat) (e:Ex) (st:St),depth e+st.r.length≤M+1→st.r.length≤M→depth (dy kid l f e st).1+(dy kid l f e st).2.r.length≤M+1:=by
 intro f;induction f with
 |zero=>intro e st h1 _;exact h1
 |succ f ih=>
  intro e st h1 h2;unfold dy;by_cases h0:(one l st).1=0
  ·rw[if_pos h0];exact h1
  ·rw[if_neg h0];have ho:=(jz l st).2 h0;have hk:=h (one l st).2;have hp:=iY (kid (one l st).2).1;have hp2:=iY e;refine ih _ _ ?_ (by omega);rw[jM];omega
theorem mQ{kid:St→Ex×St}(h:Qs kid)(l:List (Bs×UInt8)):Qs (chain kid l):=by
 intro st;unfold chain;have h1:=h st;have h2:=iY (kid st).1;exact zY h l st.r.length _ _ _ h1 (by omega)
theorem sO{s:Bs}{o:UInt8}{Y:St→Ex×St}(h:Qs Y):∀(f:Nat),Qs (again s o Y f):=by
 intro f;induction f with
 |zero=>exact h
 |succ f ih=>
  intro st;unfold again;by_cases ha:dh s st=true
  ·rw[if_pos ha];have:=ih (next st);have:=gZ ha;rw[jV];simp only;omega
  ·rw[if_neg ha];exact h st
theorem vV(T:Nat):Qs (literal T):=by
 intro st;have hl:=oa T st;have hd:depth (literal T st).1=1:=by
  unfold literal;repeat' split
  all_goals exact o9 _
 omega
theorem zE(T:Nat):Qs (dT T):=by
 intro st;have hl:=p0 T st;have hd:depth (dT T st).1=1:=by unfold dT;split;all_goals exact jY _
 omega
theorem rJ{T:Nat}{k:St→Ex×St}{m:Nat}(h:∀st,depth (k st).1+(k st).2.r.length≤st.r.length+m)(st:St):depth (inside T k st).1+(inside T k st).2.r.length≤st.r.length+m:=by
 unfold inside;have h1:=h (expect T [[40]] st);have h2:=eH T [[40]] st;have h3:=eH T [[41]] (k (expect T [[40]] st)).2;simp only;omega
theorem EL{T:Nat}{X:St→Ex×St}(h:Qs X)(op:UInt8)(st:St):depth (fold T X op st).1+(fold T X op st).2.r.length≤st.r.length+2:=by
 unfold fold;refine rJ (fun st=>?_) st;show depth (if _ then _ else _:Ex×St).1+(if _ then _ else _:Ex×St).2.r.length≤_;split
 ·have:=dq st;simp only;rw[jY];omega
 ·have:=h st;simp only;rw[jV];omega
theorem wN{T:Nat}{X:St→Ex×St}(h:Qs X):Qs (dm T X):=by
 intro st;have hn:=dq st;have hf:=EL (T:=T) h (one iN st).1 (one iN st).2;have ho:=(jz iN st).2;unfold dm;repeat' split
 ·exact vV T st
 ·exact rJ (m:=1) h st
 ·simp only[jY];omega
 ·simp only[o9];omega
 ·simp only[o9];omega
 ·simp only[jY];omega
 ·exact zE T st
 ·rename_i h0;have:=ho h0;omega
theorem Cd{T:Nat}{X:St→Ex×St}(h:Qs X):Qs (unary T X):=by
 intro st;unfold unary;exact sO (wN h) st.r.length st
theorem FU{T:Nat}{X:St→Ex×St}(h:Qs X):Qs (prod T X):=mQ (Cd h) _
theorem AR{T:Nat}{X:St→Ex×St}(h:Qs X):Qs (sum T X):=mQ (FU h) _
theorem Kd{T:Nat}{X:St→Ex×St}(h:Qs X):Qs (cmp T X):=by
 intro st;have h1:=AR (T:=T) h st;unfold cmp j4;have h2:=AR (T:=T) h (one il (sum T X st).2).2;have ho:=(jz il (sum T X st).2).2;have hp:=iY (sum T X (one il (sum T X st).2).2).1;have hp2:=iY (sum T X st).1;by_cases h0:(one il (sum T X st).2).1=0
 ·rw[if_pos h0];by_cases hi:dh [105,115] (sum T X st).2=true
  ·rw[if_pos hi];have hl:=gZ hi;unfold RP;by_cases hn:dh [110,111,116] (next (sum T X st).2)=true
   ·rw[if_pos hn];have:=gZ hn;have:=eH T [[110,117,108,108]] (next (next (sum T X st).2));simp only[jV];omega
   ·rw[if_neg hn];have:=eH T [[110,117,108,108]] (next (sum T X st).2);simp only[jV];omega
  ·rw[if_neg hi];exact h1
 ·rw[if_neg h0];have:=ho h0;simp only[jM];omega
theorem IM{T:Nat}{X:St→Ex×St}(h:Qs X):Qs (jt T X):=by
 intro st;unfold jt;exact sO (Kd h) st.r.length st
theorem Ku{T:Nat}{X:St→Ex×St}(h:Qs X):Qs (oo T X):=mQ (IM h) _
theorem Is{T:Nat}{X:St→Ex×St}(h:Qs X):Qs (Sw T X):=mQ (Ku h) _
theorem JH(T:Nat):∀n,Qs (Pw T n):=by
 intro n;induction n with
 |zero=>
  intro st;show depth (.mk (hd 0) [])+_≤_;rw[jY];exact Nat.le_of_eq (bY _ _)
 |succ n ih=>
  intro st;exact Is ih st
theorem LK(T:Nat)(st:St):depth (or T st).1≤st.r.length+1:=by
 have:=JH T (st.r.length+1) st;unfold or;omega
theorem vO(T:Nat):eZ (or T):=fun st=>wv T (st.r.length+1) st
theorem ie(T:Nat):eZ (expr T):=by
 intro st;unfold expr;simp only;split
 ·exact vO T st
 ·exact vO T st
end I
end
section
set_option maxRecDepth 100000
theorem EC(w:World)(g:Nat)(u0 u1 u2 u3 u4 u5 u6 u7:Value)(t:TypeId)(cs:Array Value):NA (((((((((w.setCell ⟨g,0,none⟩ u0).setCell ⟨g,1,none⟩ u1).setCell ⟨g,2,none⟩ u2).setCell ⟨g,3,none⟩ u3).setCell ⟨g,4,none⟩ u4).setCell ⟨g,5,none⟩ u5).setCell ⟨g,6,none⟩ u6).setCell ⟨g,7,none⟩ u7).alloc (.cells cs t)) w.heap.size t cs:=by
 have:=NA.new ((((((((w.setCell ⟨g,0,none⟩ u0).setCell ⟨g,1,none⟩ u1).setCell ⟨g,2,none⟩ u2).setCell ⟨g,3,none⟩ u3).setCell ⟨g,4,none⟩ u4).setCell ⟨g,5,none⟩ u5).setCell ⟨g,6,none⟩ u6).setCell ⟨g,7,none⟩ u7) t cs;simpa using this
theorem sf(C:RC)(X:I.St→Ev.Ex×I.St)(n:Nat)(hK:fH C 283 #[.pointer (some ⟨C.g,0,none⟩)] (I.dm C.text.size X) n)(st:I.St)(w:World)(hn:st.r.length≤n)(h:PS C st w)(ih:∀(s1:I.St) (w1:World),s1.r.length<st.r.length→PS C s1 w1→Calls Tryz.prog 281 #[.pointer (some ⟨C.g,0,none⟩)] w1 (ij C w1 (I.unary C.text.size X s1))):
 Calls Tryz.prog 281 #[.pointer (some ⟨C.g,0,none⟩)] w (ij C w (I.unary C.text.size X st)):=by
 have NK:=h.lt;have HP:=cN h;have HK:=cN hK;have IH:=cN ih;clear h hK ih;go_enter Tryz.func281,Tryz.ntmps281;go_wp2_with fail
 with_reducible refine(eF C ⟨#[45]⟩ st _ (HP.o.alloc _)).mono ?_
 rintro e w1 ⟨rfl,hp1,hc1⟩;have hs1:=hc1.size;rw[dc]at hs1;have Oa:=cN hp1;have Oh:=cN (((Ch.refl C.g w.heap.size w).alloc (aa _) _).trans hc1 (by simp));have HR1:=cN ((NA.new w _ _).ch hc1 (by simp) (by omega));clear hp1 hc1;show _;cases ha:I.dh [45] st with
 |true=>
  have HF:Hid (I.unary C.text.size X st=(I.un 3 (I.unary C.text.size X (I.next st)).1,(I.unary C.text.size X (I.next st)).2)):=by show _=_;unfold I.unary;exact I.tR ha
  have hnl:=I.gZ ha;have Ow:Hid (PS C (I.next st) w1):=by have:=Oa.o;rw[show(⟨#[45]⟩:ByteArray).data.toList=[45]from rfl,I.ga ha]at this;exact this
  clear ha;go_wp2_with fail
  with_reducible refine(IH.o (I.next st) _ hnl Ow.o).mono ?_
  rintro e w3 ⟨Uu,rfl,hx3,hp3,hc3⟩;have hs3:=hc3.size;obtain⟨h3,A3,m3,c3,ks3,rfl,hk3⟩:=dC hx3;have Tc:=cN hx3;have Rl:=cN hp3;have Rv:=cN (Oh.o.trans hc3 (by omega));have HR3:=cN (HR1.o.ch hc3 (by omega) (by omega));clear hx3 hp3 hc3 hk3;unfold cT;obtain⟨w4,hw4⟩:∃x,w3.alloc (.cells #[.int .u8 (h3.o.toNat:Int),.int .u8 (h3.v.k.toNat:Int),.int .i64 h3.v.n,.string h3.v.s,.string h3.nm,.string h3.of,.int .i64 h3.n,.slice A3 m3 c3] 50)=x:=⟨_,rfl⟩;have HR4:=cN (show NA w4 w.heap.size _ _ from hw4▸HR3.o.alloc _);have HK4:=cN (show NA w4 w3.heap.size _ _ from hw4▸NA.new w3 _ _);have Q2:=cN (show PS C _ w4 from hw4▸Rl.o.alloc _);have Rm:=cN (show Ch C.g w.heap.size w w4 from hw4▸Rv.o.alloc (by omega) _);have X0:=cN (show XR w4 (In w1.heap.size w3.heap.size) _ _ from hw4▸Tc.o.hp (fun _ h=>h) fun b hb=>aL w3 _ b hb.2);have hs4:w4.heap.size=w3.heap.size+1:=by rw[←hw4,dc]
  have UY:w3.heap.size<w4.heap.size:=by omega
  clear hs4;obtain⟨r0,r1,r2,r3,r4,r5,r6,r7⟩:=HR4.o.y8 0 1 2 3 4 5 6 7;simp at r0 r1 r2 r3 r4 r5 r6 r7;obtain⟨f0,f1,f2,f3,f4,f5,f6,f7⟩:=HR4.o.z8 0 1 2 3 4 5 6 7;go_wp2_with fail
  refine ae (v:=.agg (cT (I.hd 3) (some ⟨w3.heap.size,0,none⟩) 1 1).toArray) (av rfl _ _ w.heap.size 50 _ (0,0) _ rfl (eO HR4.o _ _ _ _ _ _ _ _) hZ rfl fo) rfl ⟨_,rfl,?_,?_,?_⟩
  ·rw[HF.o];have hcs:=ez (Ch.refl w.heap.size w4.heap.size w4) (.inl rfl) (.int .u8 3) (.int .u8 0) (.int .i64 0) (.string ⟨#[]⟩) (.string ⟨#[]⟩) (.string ⟨#[]⟩) (.int .i64 0) (.slice (some ⟨w3.heap.size,0,none⟩) 1 1);refine tv (g:=w3.heap.size) (t:=50) (cells:=#[.int .u8 (h3.o.toNat:Int),.int .u8 (h3.v.k.toNat:Int),.int .i64 h3.v.n,.string h3.v.s,.string h3.nm,.string h3.of,.int .i64 h3.n,.slice A3 m3 c3]) 3 ((hcs.block _ UY (by omega)).trans HK4.o) rfl (X0.o.hp (fun b hb=>⟨by have:=hb.1;omega,by have:=hb.2;simp;omega⟩) fun b hb=>hcs.block b (by have:=hb.2;omega) (by have:=hb.1;omega)) ⟨by omega,by simp;omega⟩
  ·rw[HF.o];exact gz Q2.o NK _ _ _ _ _ _ _ _
  ·exact ez Rm.o (.inr (aa _)) _ _ _ _ _ _ _ _
 |false=>
  have HF:Hid (I.unary C.text.size X st=I.dm C.text.size X st):=by show _=_;unfold I.unary;exact I.xW ha
  have Ow:Hid (PS C st w1):=by have:=Oa.o;rw[show(⟨#[45]⟩:ByteArray).data.toList=[45]from rfl,I.ic ha]at this;exact this
  clear ha;go_wp2_with fail
  with_reducible refine(HK.o.at st _ hn Ow.o).mono ?_
  rintro e w3 ⟨Uu,rfl,hx3,hp3,hc3⟩;have hs3:=hc3.size;obtain⟨h3,A3,m3,c3,ks3,rfl,hk3⟩:=dC hx3;have Tc:=cN hx3;have Rl:=cN hp3;have Rv:=cN (Oh.o.trans hc3 (by omega));have HR3:=cN (HR1.o.ch hc3 (by omega) (by omega));clear hx3 hp3 hc3 hk3;unfold cT;obtain⟨r0,r1,r2,r3,r4,r5,r6,r7⟩:=HR3.o.y8 0 1 2 3 4 5 6 7;simp at r0 r1 r2 r3 r4 r5 r6 r7;obtain⟨f0,f1,f2,f3,f4,f5,f6,f7⟩:=HR3.o.z8 0 1 2 3 4 5 6 7;go_wp2_with fail
  refine ae (v:=.agg (cT h3 A3 m3 c3).toArray) (av rfl _ _ w.heap.size 50 _ (0,0) _ rfl (eO HR3.o _ _ _ _ _ _ _ _) hZ rfl fo) rfl ⟨_,rfl,?_,?_,?_⟩
  ·rw[HF.o];exact Tc.o.hp (fun b hb=>⟨by have:=hb.1;omega,by simp;exact hb.2⟩) fun b hb=>(ez (Ch.refl w.heap.size w3.heap.size w3) (.inl rfl) _ _ _ _ _ _ _ _).block b hb.2 (by have:=hb.1;omega)
  ·rw[HF.o];exact gz Rl.o NK _ _ _ _ _ _ _ _
  ·exact ez Rv.o (.inr (aa _)) _ _ _ _ _ _ _ _
theorem FE(C:RC)(X:I.St→Ev.Ex×I.St)(n:Nat)(hK:fH C 283 #[.pointer (some ⟨C.g,0,none⟩)] (I.dm C.text.size X) n):fH C 281 #[.pointer (some ⟨C.g,0,none⟩)] (I.unary C.text.size X) n:=by
 have:∀(m:Nat) (st:I.St) (w:World),st.r.length≤m→st.r.length≤n→PS C st w→Calls Tryz.prog 281 #[.pointer (some ⟨C.g,0,none⟩)] w (ij C w (I.unary C.text.size X st)):=by
  intro m;induction m with
  |zero=>exact fun st w hm hn h=>sf C X n hK st w hn h fun s1 w1 hl _=>absurd hl (by omega)
  |succ m ih=>exact fun st w hm hn h=>sf C X n hK st w hn h fun s1 w1 hl h1=>ih s1 w1 (by omega) (by omega) h1
 exact fun st w hn h=>this _ st w (aa _) hn h
theorem ye(C:RC)(X:I.St→Ev.Ex×I.St)(n:Nat)(hK:fH C 256 #[.pointer (some ⟨C.g,0,none⟩)] (I.cmp C.text.size X) n)(st:I.St)(w:World)(hn:st.r.length≤n)(h:PS C st w)(ih:∀(s1:I.St) (w1:World),s1.r.length<st.r.length→PS C s1 w1→Calls Tryz.prog 248 #[.pointer (some ⟨C.g,0,none⟩)] w1 (ij C w1 (I.jt C.text.size X s1))):
 Calls Tryz.prog 248 #[.pointer (some ⟨C.g,0,none⟩)] w (ij C w (I.jt C.text.size X st)):=by
 have NK:=h.lt;have HP:=cN h;have HK:=cN hK;have IH:=cN ih;clear h hK ih;go_enter Tryz.func248,Tryz.ntmps248;go_wp2_with fail
 with_reducible refine(eF C ⟨#[110,111,116]⟩ st _ (HP.o.alloc _)).mono ?_
 rintro e w1 ⟨rfl,hp1,hc1⟩;have hs1:=hc1.size;rw[dc]at hs1;have Oa:=cN hp1;have Oh:=cN (((Ch.refl C.g w.heap.size w).alloc (aa _) _).trans hc1 (by simp));have HR1:=cN ((NA.new w _ _).ch hc1 (by simp) (by omega));clear hp1 hc1;show _;cases ha:I.dh [110,111,116] st with
 |true=>
  have HF:Hid (I.jt C.text.size X st=(I.un 15 (I.jt C.text.size X (I.next st)).1,(I.jt C.text.size X (I.next st)).2)):=by show _=_;unfold I.jt;exact I.tR ha
  have hnl:=I.gZ ha;have Ow:Hid (PS C (I.next st) w1):=by have:=Oa.o;rw[show(⟨#[110,111,116]⟩:ByteArray).data.toList=[110,111,116]from rfl,I.ga ha]at this;exact this
  clear ha;go_wp2_with fail
  with_reducible refine(IH.o (I.next st) _ hnl Ow.o).mono ?_
  rintro e w3 ⟨Uu,rfl,hx3,hp3,hc3⟩;have hs3:=hc3.size;obtain⟨h3,A3,m3,c3,ks3,rfl,hk3⟩:=dC hx3;have Tc:=cN hx3;have Rl:=cN hp3;have Rv:=cN (Oh.o.trans hc3 (by omega));have HR3:=cN (HR1.o.ch hc3 (by omega) (by omega));clear hx3 hp3 hc3 hk3;unfold cT;obtain⟨w4,hw4⟩:∃x,w3.alloc (.cells #[.int .u8 (h3.o.toNat:Int),.int .u8 (h3.v.k.toNat:Int),.int .i64 h3.v.n,.string h3.v.s,.string h3.nm,.string h3.of,.int .i64 h3.n,.slice A3 m3 c3] 50)=x:=⟨_,rfl⟩;have HR4:=cN (show NA w4 w.heap.size _ _ from hw4▸HR3.o.alloc _);have HK4:=cN (show NA w4 w3.heap.size _ _ from hw4▸NA.new w3 _ _);have Q2:=cN (show PS C _ w4 from hw4▸Rl.o.alloc _);have Rm:=cN (show Ch C.g w.heap.size w w4 from hw4▸Rv.o.alloc (by omega) _);have X0:=cN (show XR w4 (In w1.heap.size w3.heap.size) _ _ from hw4▸Tc.o.hp (fun _ h=>h) fun b hb=>aL w3 _ b hb.2);have hs4:w4.heap.size=w3.heap.size+1:=by rw[←hw4,dc]
  have UY:w3.heap.size<w4.heap.size:=by omega
  clear hs4;obtain⟨r0,r1,r2,r3,r4,r5,r6,r7⟩:=HR4.o.y8 0 1 2 3 4 5 6 7;simp at r0 r1 r2 r3 r4 r5 r6 r7;obtain⟨f0,f1,f2,f3,f4,f5,f6,f7⟩:=HR4.o.z8 0 1 2 3 4 5 6 7;go_wp2_with fail
  refine ae (v:=.agg (cT (I.hd 15) (some ⟨w3.heap.size,0,none⟩) 1 1).toArray) (av rfl _ _ w.heap.size 50 _ (0,0) _ rfl (eO HR4.o _ _ _ _ _ _ _ _) hZ rfl fo) rfl ⟨_,rfl,?_,?_,?_⟩
  ·rw[HF.o];have hcs:=ez (Ch.refl w.heap.size w4.heap.size w4) (.inl rfl) (.int .u8 15) (.int .u8 0) (.int .i64 0) (.string ⟨#[]⟩) (.string ⟨#[]⟩) (.string ⟨#[]⟩) (.int .i64 0) (.slice (some ⟨w3.heap.size,0,none⟩) 1 1);refine tv (g:=w3.heap.size) (t:=50) (cells:=#[.int .u8 (h3.o.toNat:Int),.int .u8 (h3.v.k.toNat:Int),.int .i64 h3.v.n,.string h3.v.s,.string h3.nm,.string h3.of,.int .i64 h3.n,.slice A3 m3 c3]) 15 ((hcs.block _ UY (by omega)).trans HK4.o) rfl (X0.o.hp (fun b hb=>⟨by have:=hb.1;omega,by have:=hb.2;simp;omega⟩) fun b hb=>hcs.block b (by have:=hb.2;omega) (by have:=hb.1;omega)) ⟨by omega,by simp;omega⟩
  ·rw[HF.o];exact gz Q2.o NK _ _ _ _ _ _ _ _
  ·exact ez Rm.o (.inr (aa _)) _ _ _ _ _ _ _ _
 |false=>
  have HF:Hid (I.jt C.text.size X st=I.cmp C.text.size X st):=by show _=_;unfold I.jt;exact I.xW ha
  have Ow:Hid (PS C st w1):=by have:=Oa.o;rw[show(⟨#[110,111,116]⟩:ByteArray).data.toList=[110,111,116]from rfl,I.ic ha]at this;exact this
  clear ha;go_wp2_with fail
  with_reducible refine(HK.o.at st _ hn Ow.o).mono ?_
  rintro e w3 ⟨Uu,rfl,hx3,hp3,hc3⟩;have hs3:=hc3.size;obtain⟨h3,A3,m3,c3,ks3,rfl,hk3⟩:=dC hx3;have Tc:=cN hx3;have Rl:=cN hp3;have Rv:=cN (Oh.o.trans hc3 (by omega));have HR3:=cN (HR1.o.ch hc3 (by omega) (by omega));clear hx3 hp3 hc3 hk3;unfold cT;obtain⟨r0,r1,r2,r3,r4,r5,r6,r7⟩:=HR3.o.y8 0 1 2 3 4 5 6 7;simp at r0 r1 r2 r3 r4 r5 r6 r7;obtain⟨f0,f1,f2,f3,f4,f5,f6,f7⟩:=HR3.o.z8 0 1 2 3 4 5 6 7;go_wp2_with fail
  refine ae (v:=.agg (cT h3 A3 m3 c3).toArray) (av rfl _ _ w.heap.size 50 _ (0,0) _ rfl (eO HR3.o _ _ _ _ _ _ _ _) hZ rfl fo) rfl ⟨_,rfl,?_,?_,?_⟩
  ·rw[HF.o];exact Tc.o.hp (fun b hb=>⟨by have:=hb.1;omega,by simp;exact hb.2⟩) fun b hb=>(ez (Ch.refl w.heap.size w3.heap.size w3) (.inl rfl) _ _ _ _ _ _ _ _).block b hb.2 (by have:=hb.1;omega)
  ·rw[HF.o];exact gz Rl.o NK _ _ _ _ _ _ _ _
  ·exact ez Rv.o (.inr (aa _)) _ _ _ _ _ _ _ _
theorem LH(C:RC)(X:I.St→Ev.Ex×I.St)(n:Nat)(hK:fH C 256 #[.pointer (some ⟨C.g,0,none⟩)] (I.cmp C.text.size X) n):fH C 248 #[.pointer (some ⟨C.g,0,none⟩)] (I.jt C.text.size X) n:=by
 have:∀(m:Nat) (st:I.St) (w:World),st.r.length≤m→st.r.length≤n→PS C st w→Calls Tryz.prog 248 #[.pointer (some ⟨C.g,0,none⟩)] w (ij C w (I.jt C.text.size X st)):=by
  intro m;induction m with
  |zero=>exact fun st w hm hn h=>ye C X n hK st w hn h fun s1 w1 hl _=>absurd hl (by omega)
  |succ m ih=>exact fun st w hm hn h=>ye C X n hK st w hn h fun s1 w1 hl h1=>ih s1 w1 (by omega) (by omega) h1
 exact fun st w hn h=>this _ st w (aa _) hn h
end
section
set_option maxRecDepth 100000
def I.mT(X:I.St→Ev.Ex×I.St)(op:UInt8)(st:I.St):Ev.Ex×I.St:=if op=17∧I.dh [42] st=true then(.mk (I.hd op) [],I.next st)else(I.un op (X st).1,(X st).2)
theorem ES(C:RC)(X:I.St→Ev.Ex×I.St)(n:Nat)(hK:fH C 206 #[.pointer (some ⟨C.g,0,none⟩)] X n)(op:UInt8)(gO gR:Nat)(Qf:gO≠C.g)(hgR:gR≠C.g):
 jS C 290 #[.pointer (some ⟨gO,0,none⟩),.pointer (some ⟨gR,0,none⟩)] [(gO,.cells #[.int .u8 (op.toNat:Int)] 46 (0,0)),(gR,.cells #[.pointer (some ⟨C.g,0,none⟩)] 70 (0,0))] ij (I.mT X op) n:=by
 intro st w hn h hL;have NK:=h.lt;have HP:=cN h;have HK:=cN hK;have hO:w.heap[gO]?=some (.cells #[.int .u8 (op.toNat:Int)] 46 (0,0)):=hL _ ag;have hR:w.heap[gR]?=some (.cells #[.pointer (some ⟨C.g,0,none⟩)] 70 (0,0)):=hL _ (au _ ag);have ZG:=lt_of_block hO;have hRl:=lt_of_block hR;have o0:=cell_of_one hO;have d0:=cell_of_one hR;have HO:=cN hO;have HD:=cN hR;clear h hK hL hO hR;go_enter Tryz.func290,Tryz.ntmps290;by_cases VQ:op=17
 ·have q:((op.toNat:Int)==17)=true:=by rw[VQ];decide
  go_wp2_with fail
  with_reducible refine(eF C ⟨#[42]⟩ st _ (HP.o.alloc _)).mono ?_
  rintro e w1 ⟨rfl,hp1,hc1⟩;have hs1:=hc1.size;rw[dc]at hs1;rw[show(⟨#[42]⟩:ByteArray).data.toList=[42]from rfl]at hp1⊢;have Oa:=cN hp1;have U7:=cN (((Ch.refl C.g w.heap.size w).alloc (aa _) _).trans hc1 (by simp));have WL:=cN ((NA.new w _ _).ch hc1 (by simp) (by omega));have VR:=cN ((U7.o.block gO ZG Qf).trans HO.o);have VS:=cN ((U7.o.block gR hRl hgR).trans HD.o);have hOu:=lt_of_block VR.o;have hRu:=lt_of_block VS.o;clear hp1 hc1 o0 d0;have o0:=cell_of_one VR.o;have d0:=cell_of_one VS.o;cases ha:I.dh [42] st with
  |true=>
   have HF:Hid (I.mT X op st=(.mk (I.hd op) [],I.next st)):=by show _=_;unfold I.mT;rw[if_pos ⟨VQ,ha⟩]
   have Ow:Hid (PS C (I.next st) w1):=by have:=Oa.o;rw[I.ga ha]at this;exact this
   clear ha VQ;obtain⟨r0,r1,r2,r3,r4,r5,r6,r7⟩:=WL.o.y8 0 1 2 3 4 5 6 7;simp at r0 r1 r2 r3 r4 r5 r6 r7;obtain⟨f0,f1,f2,f3,f4,f5,f6,f7⟩:=WL.o.z8 0 1 2 3 4 5 6 7;go_wp2_with fail
   refine ae (v:=.agg (cT (I.hd op) none 0 0).toArray) (av rfl _ _ w.heap.size 50 _ (0,0) _ rfl (eO WL.o _ _ _ _ _ _ _ _) hZ rfl fo) rfl ⟨_,rfl,?_,?_,?_⟩
   ·rw[HF.o];exact iI (vM op)
   ·rw[HF.o];exact gz Ow.o NK _ _ _ _ _ _ _ _
   ·exact ez U7.o (.inr (aa _)) _ _ _ _ _ _ _ _
  |false=>
   have HFn:Hid (I.mT X op st=(I.un op (X st).1,(X st).2)):=by show _=_;unfold I.mT;rw[if_neg (by rintro⟨_,h⟩;rw[ha]at h;cases h)]
   have Ow:Hid (PS C st w1):=by have:=Oa.o;rw[I.ic ha]at this;exact this
   clear ha VQ q;have Pf:Hid (I.mT X op st=(I.un op (X st).1,(X st).2)):=HFn.o;go_wp2_with fail
   go_region_with ((with_reducible refine(HK.o.drew st _ hn (Ow.o)).mono ?_);rintro e w6 ⟨Rc,rfl,hx6,SA,hc6⟩;obtain⟨h6,A6,m6,c6,ZC,rfl,U1⟩:=dC hx6;unfold cT;have RR:=cN hx6;have PE:=cN SA;have Qm:=cN (U7.o.trans hc6 (by omega));have Ob:=cN (WL.o.ch hc6 (by omega) (by omega));have VT:=(hc6.block gO hOu Qf).trans VR.o;have hD6:=(hc6.block gR hRu hgR).trans VS.o;have hs6:=hc6.size;have WM:w.heap.size<w6.heap.size:=(by omega);clear hx6 SA hc6 U1;have o6:=cell_of_one VT;have d6:=cell_of_one hD6;have l6:=lt_of_block VT;have m6':=lt_of_block hD6;clear VT hD6;have r0:=Ob.o.cell 0;have r1:=Ob.o.cell 1;have r2:=Ob.o.cell 2;have r3:=Ob.o.cell 3;have r4:=Ob.o.cell 4;have r5:=Ob.o.cell 5;have r6:=Ob.o.cell 6;have r7:=Ob.o.cell 7;simp at r0 r1 r2 r3 r4 r5 r6 r7;have f0:=Ob.o.frozen 0;have f1:=Ob.o.frozen 1;have f2:=Ob.o.frozen 2;have f3:=Ob.o.frozen 3;have f4:=Ob.o.frozen 4;have f5:=Ob.o.frozen 5;have f6:=Ob.o.frozen 6;have f7:=Ob.o.frozen 7)
   all_goals
    obtain⟨w8,hw8⟩:∃x,x=World.alloc ((((((((w6.setCell ⟨w.heap.size,0,none⟩ (.int .u8 (op.toNat:Int))).setCell ⟨w.heap.size,1,none⟩ (.int .u8 0)).setCell ⟨w.heap.size,2,none⟩ (.int .i64 0)).setCell ⟨w.heap.size,3,none⟩ (.string ⟨#[]⟩)).setCell ⟨w.heap.size,4,none⟩ (.string ⟨#[]⟩)).setCell ⟨w.heap.size,5,none⟩ (.string ⟨#[]⟩)).setCell ⟨w.heap.size,6,none⟩ (.int .i64 0)).setCell ⟨w.heap.size,7,none⟩ (.slice (some ⟨w6.heap.size,0,none⟩) 1 1)) (.cells #[.int .u8 (h6.o.toNat:Int),.int .u8 (h6.v.k.toNat:Int),.int .i64 h6.v.n,.string h6.v.s,.string h6.nm,.string h6.of,.int .i64 h6.n,.slice A6 m6 c6] 50):=⟨_,rfl⟩
    rw[←hw8]
    have hsame:∀b,b<w6.heap.size→b≠w.heap.size→w8.heap[b]?=w6.heap[b]?:=fun b h1 h2=>by rw[hw8];exact(aL _ _ b (by simp;omega)).trans ((ez (Ch.refl w.heap.size w6.heap.size w6) (.inl rfl) _ _ _ _ _ _ _ _).block b h1 h2)
    have Uv:w8.heap.size=w6.heap.size+1:=by rw[hw8];simp
    have VU:=cN (show NA w8 w6.heap.size _ _ by rw[hw8];exact EC w6 w.heap.size _ _ _ _ _ _ _ _ _ _)
    have Uw:=cN (show NA w8 w.heap.size 50 (cT (I.hd op) (some ⟨w6.heap.size,0,none⟩) 1 1).toArray by rw[hw8];exact(eO Ob.o _ _ _ _ _ _ _ _).alloc _)
    have Sx:=cN (show PS C (X st).2 w8 by rw[hw8];exact(gz PE.o NK _ _ _ _ _ _ _ _).alloc _)
    have SP:=cN (show Ch C.g w.heap.size w w8 by rw[hw8];exact(ez Qm.o (.inr (aa _)) _ _ _ _ _ _ _ _).alloc (by simp;omega) _)
    have VV:=cN (show XR w8 (In w.heap.size w8.heap.size) (cT (I.hd op) (some ⟨w6.heap.size,0,none⟩) 1 1) (I.un op (X st).1)from
     tv op VU.o rfl (RR.o.hp (fun b hb=>⟨by have:=hb.1;omega,by have:=hb.2;omega⟩) fun b hb=>hsame b hb.2 (by have:=hb.1;omega)) ⟨by omega,by omega⟩)
    clear hsame Uv hw8
    go_wp2_with fail
    exact ae (v:=.agg (cT (I.hd op) (some ⟨w6.heap.size,0,none⟩) 1 1).toArray) (av rfl _ _ w.heap.size 50 _ (0,0) _ rfl Uw.o hZ rfl fo) rfl ⟨_,rfl,by rw[Pf.o];exact VV.o,by rw[Pf.o];exact Sx.o,SP.o⟩
 ·have q:((op.toNat:Int)==17)=false:=by simp;exact fun e=>VQ (aF.1 (by rw[show((17:UInt8).toNat)=17 from rfl];omega))
  have HFn:Hid (I.mT X op st=(I.un op (X st).1,(X st).2)):=by show _=_;unfold I.mT;rw[if_neg (by rintro⟨h,_⟩;exact VQ h)]
  clear VQ;obtain⟨w1,hw1⟩:∃x,x=w.alloc (.cells #[.int .u8 0,.int .u8 0,.int .i64 0,.string ⟨#[]⟩,.string ⟨#[]⟩,.string ⟨#[]⟩,.int .i64 0,.slice none 0 0] 50):=⟨_,rfl⟩;go_upto_region 3 with fail
  rw[←hw1];have Ow:=cN (show PS C st w1 by rw[hw1];exact HP.o.alloc _);have U7:=cN (show Ch C.g w.heap.size w w1 by rw[hw1];exact(Ch.refl C.g w.heap.size w).alloc (aa _) _);have WL:=cN (show NA w1 w.heap.size _ _ by rw[hw1];exact NA.new w _ _);have VR:=cN ((U7.o.block gO ZG Qf).trans HO.o);have VS:=cN ((U7.o.block gR hRl hgR).trans HD.o);have hOu:=lt_of_block VR.o;have hRu:=lt_of_block VS.o;have hs1:w.heap.size+1≤w1.heap.size:=by rw[hw1];simp
  clear hw1 o0 d0 q;have o0:=cell_of_one VR.o;have d0:=cell_of_one VS.o;have Pf:Hid (I.mT X op st=(I.un op (X st).1,(X st).2)):=HFn.o;go_wp2_with fail
  go_region_with ((with_reducible refine(HK.o.drew st _ hn (Ow.o)).mono ?_);rintro e w6 ⟨Rc,rfl,hx6,SA,hc6⟩;obtain⟨h6,A6,m6,c6,ZC,rfl,U1⟩:=dC hx6;unfold cT;have RR:=cN hx6;have PE:=cN SA;have Qm:=cN (U7.o.trans hc6 (by omega));have Ob:=cN (WL.o.ch hc6 (by omega) (by omega));have VT:=(hc6.block gO hOu Qf).trans VR.o;have hD6:=(hc6.block gR hRu hgR).trans VS.o;have hs6:=hc6.size;have WM:w.heap.size<w6.heap.size:=(by omega);clear hx6 SA hc6 U1;have o6:=cell_of_one VT;have d6:=cell_of_one hD6;have l6:=lt_of_block VT;have m6':=lt_of_block hD6;clear VT hD6;have r0:=Ob.o.cell 0;have r1:=Ob.o.cell 1;have r2:=Ob.o.cell 2;have r3:=Ob.o.cell 3;have r4:=Ob.o.cell 4;have r5:=Ob.o.cell 5;have r6:=Ob.o.cell 6;have r7:=Ob.o.cell 7;simp at r0 r1 r2 r3 r4 r5 r6 r7;have f0:=Ob.o.frozen 0;have f1:=Ob.o.frozen 1;have f2:=Ob.o.frozen 2;have f3:=Ob.o.frozen 3;have f4:=Ob.o.frozen 4;have f5:=Ob.o.frozen 5;have f6:=Ob.o.frozen 6;have f7:=Ob.o.frozen 7)
  all_goals
   obtain⟨w8,hw8⟩:∃x,x=World.alloc ((((((((w6.setCell ⟨w.heap.size,0,none⟩ (.int .u8 (op.toNat:Int))).setCell ⟨w.heap.size,1,none⟩ (.int .u8 0)).setCell ⟨w.heap.size,2,none⟩ (.int .i64 0)).setCell ⟨w.heap.size,3,none⟩ (.string ⟨#[]⟩)).setCell ⟨w.heap.size,4,none⟩ (.string ⟨#[]⟩)).setCell ⟨w.heap.size,5,none⟩ (.string ⟨#[]⟩)).setCell ⟨w.heap.size,6,none⟩ (.int .i64 0)).setCell ⟨w.heap.size,7,none⟩ (.slice (some ⟨w6.heap.size,0,none⟩) 1 1)) (.cells #[.int .u8 (h6.o.toNat:Int),.int .u8 (h6.v.k.toNat:Int),.int .i64 h6.v.n,.string h6.v.s,.string h6.nm,.string h6.of,.int .i64 h6.n,.slice A6 m6 c6] 50):=⟨_,rfl⟩
   rw[←hw8]
   have hsame:∀b,b<w6.heap.size→b≠w.heap.size→w8.heap[b]?=w6.heap[b]?:=fun b h1 h2=>by rw[hw8];exact(aL _ _ b (by simp;omega)).trans ((ez (Ch.refl w.heap.size w6.heap.size w6) (.inl rfl) _ _ _ _ _ _ _ _).block b h1 h2)
   have Uv:w8.heap.size=w6.heap.size+1:=by rw[hw8];simp
   have VU:=cN (show NA w8 w6.heap.size _ _ by rw[hw8];exact EC w6 w.heap.size _ _ _ _ _ _ _ _ _ _)
   have Uw:=cN (show NA w8 w.heap.size 50 (cT (I.hd op) (some ⟨w6.heap.size,0,none⟩) 1 1).toArray by rw[hw8];exact(eO Ob.o _ _ _ _ _ _ _ _).alloc _)
   have Sx:=cN (show PS C (X st).2 w8 by rw[hw8];exact(gz PE.o NK _ _ _ _ _ _ _ _).alloc _)
   have SP:=cN (show Ch C.g w.heap.size w w8 by rw[hw8];exact(ez Qm.o (.inr (aa _)) _ _ _ _ _ _ _ _).alloc (by simp;omega) _)
   have VV:=cN (show XR w8 (In w.heap.size w8.heap.size) (cT (I.hd op) (some ⟨w6.heap.size,0,none⟩) 1 1) (I.un op (X st).1)from
    tv op VU.o rfl (RR.o.hp (fun b hb=>⟨by have:=hb.1;omega,by have:=hb.2;omega⟩) fun b hb=>hsame b hb.2 (by have:=hb.1;omega)) ⟨by omega,by omega⟩)
   clear hsame Uv hw8
   go_wp2_with fail
   exact ae (v:=.agg (cT (I.hd op) (some ⟨w6.heap.size,0,none⟩) 1 1).toArray) (av rfl _ _ w.heap.size 50 _ (0,0) _ rfl Uw.o hZ rfl fo) rfl ⟨_,rfl,by rw[Pf.o];exact VV.o,by rw[Pf.o];exact Sx.o,SP.o⟩
theorem G9(C:RC)(X:I.St→Ev.Ex×I.St)(n:Nat)(hK:fH C 206 #[.pointer (some ⟨C.g,0,none⟩)] X n)(op:UInt8)(st:I.St)(w:World)(hn:st.r.length≤n)(h:PS C st w):
 Calls Tryz.prog 287 #[.pointer (some ⟨C.g,0,none⟩),.int .u8 (op.toNat:Int)] w (ij C w (I.fold C.text.size X op st)):=by
 have NK:=h.lt;have HP:=cN h;have HK:=cN hK;clear h hK;obtain⟨w1,hw1⟩:∃x,x=((w.alloc (.cells #[.pointer (some ⟨C.g,0,none⟩)] 70)).alloc (.cells #[.int .u8 (op.toNat:Int)] 46)).alloc (.cells #[.int .u8 0,.int .u8 0,.int .i64 0,.string ⟨#[]⟩,.string ⟨#[]⟩,.string ⟨#[]⟩,.int .i64 0,.slice none 0 0] 50):=⟨_,rfl⟩;go_enter Tryz.func287,Tryz.ntmps287;go_upto_region 1 with fail
 rw[←hw1];have hD1:NA w1 w.heap.size 70 #[.pointer (some ⟨C.g,0,none⟩)]:=by rw[hw1];exact((NA.new w _ _).alloc _).alloc _
 have ZH:NA w1 (w.heap.size+1) 46 #[.int .u8 (op.toNat:Int)]:=by rw[hw1];exact(NA.oK _ _ _ _).alloc _
 have HR1:Hid (NA w1 (w.heap.size+1+1) 50 #[.int .u8 0,.int .u8 0,.int .i64 0,.string ⟨#[]⟩,.string ⟨#[]⟩,.string ⟨#[]⟩,.int .i64 0,.slice none 0 0]):=by rw[hw1];have:=NA.new ((w.alloc (.cells #[.pointer (some ⟨C.g,0,none⟩)] 70)).alloc (.cells #[.int .u8 (op.toNat:Int)] 46)) 50 #[.int .u8 0,.int .u8 0,.int .i64 0,.string ⟨#[]⟩,.string ⟨#[]⟩,.string ⟨#[]⟩,.int .i64 0,.slice none 0 0];rw[dc,dc]at this;exact this
 have Oa:=cN (show PS C st w1 by rw[hw1];exact((HP.o.alloc _).alloc _).alloc _);have Oh:=cN (show Ch C.g w.heap.size w w1 by rw[hw1];exact(((Ch.refl C.g w.heap.size w).alloc (aa _) _).alloc (by simp) _).alloc (by simp;omega) _);have hs1:w1.heap.size=w.heap.size+1+1+1:=by rw[hw1];simp
 clear hw1;obtain⟨gR,hgR⟩:∃g,g=w.heap.size:=⟨_,rfl⟩;obtain⟨gO,Qf⟩:∃g,g=gR+1:=⟨_,rfl⟩;obtain⟨gX,Ph⟩:∃g,g=gO+1:=⟨_,rfl⟩;rw[←hgR]at hD1 ZH HR1 hs1⊢;rw[←Qf]at ZH HR1 hs1⊢;rw[←Ph]at HR1 hs1⊢;have b1:w.heap.size≤gR:=by omega
 have b2:gR<gO:=by omega
 have b3:gO<gX:=by omega
 have b4:gX<w1.heap.size:=by omega
 clear hgR Qf Ph hs1;have VL:Hid (iH [(gO,.cells #[.int .u8 (op.toNat:Int)] 46 (0,0)),(gR,.cells #[.pointer (some ⟨C.g,0,none⟩)] 70 (0,0))] w1):=fun p hp=>by
  rcases af.1 hp with rfl|hp
  ·exact ZH
  ·rcases af.1 hp with rfl|hp
   ·exact hD1
   ·cases hp
 have Rf:∀p∈([(gO,.cells #[.int .u8 (op.toNat:Int)] 46 (0,0)),(gR,.cells #[.pointer (some ⟨C.g,0,none⟩)] 70 (0,0))]:List (Nat×Obj)),p.1≠C.g:=fun p hp=>by
  rcases af.1 hp with rfl|hp
  ·show gO≠C.g;omega
  ·rcases af.1 hp with rfl|hp
   ·show gR≠C.g;omega
   ·cases hp
 have Rf:=cN Rf;have d0:=cell_of_one hD1;clear hD1 ZH;go_wp2_with fail
 with_reducible refine(kp C 290 #[] #[.pointer (some ⟨gO,0,none⟩),.pointer (some ⟨gR,0,none⟩)] #[.pointer (some ⟨gO,0,none⟩),.pointer (some ⟨gR,0,none⟩)] (fun w=>by simp[go_sem]) [(gO,.cells #[.int .u8 (op.toNat:Int)] 46 (0,0)),(gR,.cells #[.pointer (some ⟨C.g,0,none⟩)] 70 (0,0))] Rf.o (I.mT X op) n (ES C X n HK.o op gO gR (by omega) (by omega)) st _ (by omega) (.inl hn) Oa.o VL.o).mono ?_
 rintro e w2 ⟨cs2,rfl,hx2,hp2,hc2⟩;have hs2:=hc2.size;obtain⟨h2,A2,m2,c2,Rt,rfl,hk2⟩:=dC hx2;have Px:=cN hx2;have Ow:=cN hp2;have P7:=cN (Oh.o.trans hc2 (by omega));have HR2:=cN (HR1.o.ch hc2 (by omega) (by omega));clear hx2 hp2 hc2 hk2;unfold cT;obtain⟨r0,r1,r2,r3,r4,r5,r6,r7⟩:=HR2.o.y8 0 1 2 3 4 5 6 7;simp at r0 r1 r2 r3 r4 r5 r6 r7;obtain⟨f0,f1,f2,f3,f4,f5,f6,f7⟩:=HR2.o.z8 0 1 2 3 4 5 6 7;go_wp2_with fail
 refine ae (v:=.agg (cT h2 A2 m2 c2).toArray) (av rfl _ _ gX 50 _ (0,0) _ rfl (eO HR2.o _ _ _ _ _ _ _ _) hZ rfl fo) rfl ⟨_,rfl,?_,?_,?_⟩
 ·exact Px.o.hp (fun b hb=>⟨by have:=hb.1;omega,by have:=hb.2;simp;omega⟩) fun b hb=>(ez (Ch.refl gX w2.heap.size w2) (.inl rfl) _ _ _ _ _ _ _ _).block b (by have:=hb.2;omega) (by have:=hb.1;omega)
 ·exact gz Ow.o (by omega) _ _ _ _ _ _ _ _
 ·exact ez P7.o (.inr (by omega)) _ _ _ _ _ _ _ _
end
end Go.Proofs.YtnicfobpclehkaaGreatDoor
