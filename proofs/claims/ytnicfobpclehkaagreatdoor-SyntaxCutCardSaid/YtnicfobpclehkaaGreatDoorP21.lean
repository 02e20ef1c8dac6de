import Derived.Test.YtnicfobpclehkaaGreatDoorP20
set_option maxHeartbeats 12800000
set_option linter.unusedVariables false
set_option linter.unusedSimpArgs false
namespace Go.Proofs.YtnicfobpclehkaaGreatDoor
open Go.RowKit
section
set_option maxRecDepth 100000
namespace I
def fin(n:Nat)(W:Wr):Wr:=if W.b=true then W else dx (decide (n=0)) W
theorem rB{α:Type}(one:α→Wr→Wr)(l:List α)(w:Wr):each one l w=fin l.length (fm one (decide (0<0)) (l.drop 0) w):=rfl
theorem uF{W:Wr}(n:Nat)(h:W.b=true):fin n W=W:=if_pos h
theorem vh(n:Nat)(W:Wr):fin n W=dx (decide (n=0)) W:=by
 unfold fin;split
 ·rename_i h;unfold dx;rw[h];obtain⟨p,q,b⟩:=W;simp only at h;rw[h];rfl
 ·rfl
theorem nK{α:Type}{one:α→Wr→Wr}{l:List α}{k:Nat}{x:α}(h:l[k]?=some x)(c:Bool)(w:Wr):fm one c (l.drop k) w=if w.b=true then w else fm one true (l.drop (k+1)) (one x (option c [[44]] w)):=by
 obtain⟨hk,e⟩:=ay.1 h;rw[aY hk,e,fm]
end I
theorem Rr.pc{α:Type}{E:El α}{w:World}{P:Nat→Prop}{v:Value}{xs:List α}{i:Nat}(h:Rr E w P v xs)(hi:i<xs.length):∃g off c x cs,v=.slice (some ⟨g,off,none⟩) xs.length c∧xs.length≤c∧c≤9223372036854775807∧P g∧xs[i]?=some x∧E.R w P cs x∧cs.length=E.k∧w.rangeAt g (off+i*E.k) cs:=by
 obtain⟨A,c,rfl,h1,h2,h3⟩:=h;obtain⟨g,off,rfl,hg,hc⟩:=h3 (by omega);obtain⟨cs,hr,hcell⟩:=hc i xs[i] (aE hi);exact⟨g,off,c,xs[i],cs,rfl,h1,h2,hg,aE hi,hr,E.len hr,fun j u hu=>hcell j u hu⟩
section
variable{g:Nat}{w0 w w':World}{v0 v v':Value}{own own':eP}{st st':I.Wr}
theorem Fw.My{t:TypeId}{cs:Array Value}(F:Fw g w0 v0 own st v w)(hb:Below w.heap.size w w')(hB:NA w' w.heap.size t cs):Fw g w0 v0 ((w.heap.size,t,cs)::own) st v w':=by
 have h2:=F.quiet hb;refine⟨h2.lt,h2.ws,h2.ch,h2.bk,fun p hp=>?_,h2.ob⟩;rcases af.1 hp with rfl|hp
 ·refine⟨F.ch.size,hB,fun e=>?_⟩;have:=(F.ws.ob _ e).2;exact Nat.lt_irrefl _ this
 ·exact h2.own p hp
theorem Fw.drop(F:Fw g w0 v0 own st v w):Fw g w0 v0 [] st v w:=⟨F.lt,F.ws,F.ch,F.bk,fun p hp=>by simp at hp,F.ob⟩
theorem vX{α:Type}{E:El α}{cs:List Value}{x:α}(F:Fw g w0 v0 own st v w)(F':Fw g w0 v0 own' st' v' w')(h:E.R w (fun b=>b<g) cs x):E.R w' (fun b=>b<g) cs x:=El.hp h (fun _ h=>h) fun _ hb=>(F'.low hb).trans (F.low hb).symm
theorem LJ{α:Type}{E:El α}{u:Value}{xs:List α}(F:Fw g w0 v0 own st v w)(F':Fw g w0 v0 own' st' v' w')(h:Rr E w (fun b=>b<g) u xs):Rr E w' (fun b=>b<g) u xs:=Rr.hp h (fun _ h=>h) fun _ hb=>(F'.low hb).trans (F.low hb).symm
theorem Na{b:Nat}(F:Fw g w0 v0 own st v w)(h:b≠g∧v0.ownBlock≠some b)(hb:b<w0.heap.size):b≠g∧v.ownBlock≠some b:=by
 refine⟨h.1,fun e=>?_⟩;rcases F.bk with h2|h2
 ·exact h.2 (h2.symm.trans e)
 ·have:=h2 b e;omega
theorem we{P:Nat→Prop}{cs:List Value}{x:List Ev.Ex}(h:fO.R w P cs x):∃u,cs=[u]∧Rr NI w P u x:=h
theorem Iw{P:Nat→Prop}{cs:List Value}{x:UInt8}(h:jZ.R w P cs x):∃u,cs=[u]∧u=.int .u8 (x.toNat:Int):=⟨_,h,rfl⟩
end
def Tg{α:Type}(_:α→I.Wr→I.Wr):Prop:=True
abbrev Te {α:Type} {one:α→I.Wr→I.Wr} (_:Tg one):α→I.Wr→I.Wr:=one
def noB(_ _:Nat)(_:World)(_:Value):Prop:=True
def ZK(g gB:Nat)(w:World)(v:Value):Prop:=NA w gB 92 #[.pointer (some ⟨g,0,none⟩)]∧gB≠g∧v.ownBlock≠some gB
theorem pb{g gB:Nat}{w0 w:World}{v0 v:Value}{own:eP}{st:I.Wr}(F:Fw g w0 v0 own st v w)(h:ZK g gB w0 v0):NA w gB 92 #[.pointer (some ⟨g,0,none⟩)]∧(gB≠g∧v.ownBlock≠some gB):=by
 obtain⟨a,b,c⟩:=h;exact⟨F.iz a b c,Na F ⟨b,c⟩ a.lt⟩
abbrev qY {α:Type} (E:El α) (one:α→I.Wr→I.Wr) (hyp:α→Prop) (f:FuncId) (val:Nat→Nat→Value) (hB:Nat→Nat→World→Value→Prop):Prop:=∀(g gB:Nat) (u v:Value) (xs:List α) (st:I.Wr) (w:World) (_:Tg one) (_:Ps 7000 g v st w) (_:Rr E w (fun b=>b<g) u xs) (_:∀x∈xs,hyp x) (_:hB g gB w v),Calls Tryz.prog f #[.pointer (some ⟨g,0,none⟩),u,val g gB] w (gm g w v (I.each one xs st))
theorem kW:qY NI I.jy (fun x=>OJ x) 163 (fun g gB=>.func (.func 89) #[.pointer (some ⟨g,0,none⟩)] #[]) noB∧qY eM I.gY (fun x=>(∀y∈x.ck,OJ y)∧x.nm.length≤140737488355328∧x.rf.length≤140737488355328) 157 (fun g gB=>.func (.func 158) #[.pointer (some ⟨g,0,none⟩)] #[]) noB∧qY fL I.pY (fun x=>OJ x.x∧x.nm.length≤140737488355328) 165 (fun g gB=>.func (.func 166) #[] #[.pointer (some ⟨gB,0,none⟩)]) ZK∧qY fY I.l9 (fun x=>OJ x.x) 167 (fun g gB=>.func (.func 168) #[] #[.pointer (some ⟨gB,0,none⟩)]) ZK∧qY fG I.sF (fun x=>OJ x.x∧x.nm.length≤140737488355328) 87 (fun g gB=>.func (.func 88) #[] #[.pointer (some ⟨gB,0,none⟩)]) ZK:=by
 refine⟨?_,?_,?_,?_,?_⟩;all_goals
  intro g gB u v xs st w tg h hl hp hb
  have F0:=cN (Fw.start h.ws)
  have B0:=cN h.bd
  have Ol:=cN h.en
  have HL:=cN hl
  have HP:=cN hp
  have HB:=cN hb
  obtain⟨A,c,rfl,hc1,hc2⟩:=hl.form
  obtain⟨n,hn⟩:∃n,n=xs.length:=⟨_,rfl⟩
  rw[←hn]at hc1⊢
  have HN:=cN hn
  clear h hl hp hn hb
  dsimp only
  first|go_enter Tryz.func163,Tryz.ntmps163|go_enter Tryz.func157,Tryz.ntmps157|go_enter Tryz.func165,Tryz.ntmps165|go_enter Tryz.func167,Tryz.ntmps167|go_enter Tryz.func87,Tryz.ntmps87
  go_wp2_with fail
  go_loopg [10] n (fun gg i wr=>∃(k:Nat) (s1:I.Wr) (v1:Value),k≤n∧gg=n-k∧i=.int .i64 (k:Nat)∧Hid (I.each (Te tg) xs st=I.fin xs.length (I.fm (Te tg) (decide (0<k)) (xs.drop k) s1))∧Hid (Fw g w v [] s1 v1 wr)∧Hid (I.Bd 7000 s1))
  case atStart=>exact⟨0,st,v,ao _,rfl,rfl,cN (I.rB _ _ _),F0,B0⟩
  case round=>
   obtain⟨k,s1,v1,hk,rfl,rfl,HE,F1,B1⟩:=hrel
   obtain⟨w1,hw1⟩:∃W,W=wr:=⟨_,rfl⟩
   subst hw1
   by_cases hlt:k<n
   ·have Tx:=cN (F1.o.rr HL.o);obtain⟨gk,off,c2,x,cs,hv,q3,q4,hg,hi,hr,hcl,hra⟩:=Tx.o.pc (i:=k) (by rw[←HN.o];exact hlt);injection hv with e1 e2 e3
    subst e1 e3;clear e2 q3 q4;have q1:(k:Int)<(n:Int):=by omega
    have q0:(0:Int)≤(k:Int):=by omega
    have HS:=cN (I.nK (one:=Te tg) hi (decide (0<k)) s1);have HX:=cN (HP.o x (aR hi));have HR:=cN hr;have RH:=cN hra;have V0:=cN hcl;clear hi hg hr hra hcl Tx;have OX:=cN (all_oneCell_toArray (El.one _ HR.o));have cb1:w1.cell? ⟨g,2,none⟩=some (.bool s1.b):=by have:=F1.o.ws.blk.cell 2;simpa using this
    go_upto_region 3 with(first|refine j0 rfl rfl rfl RH.o (by kernel_rfl) (by rw[V0.o];kernel_rfl) ?_|refine wpList_store_mid rfl _ _ _ rfl _ 0 cs.toArray rfl rfl ((NA.new _ _ _).there (n:=cs.toArray.size) (by simp[V0.o];rfl)) (by rw[aQ,V0.o];kernel_rfl) OX.o ?_)
    refine P8 fun w2 hw2=>?_
    obtain⟨BX,HB2⟩:=made hw2 (by rw[V0.o];rfl);have F2:=cN (F1.o.My HB2.o BX.o);obtain⟨gx,hgx⟩:∃q,q=w1.heap.size:=⟨_,rfl⟩;have cb:=F2.o.ws.blk.cell 2;simp at cb;rw[←hgx]at F2⊢;clear hw2 BX hgx OX HB2;cases hb:s1.b with
    |true=>
     rw[hb]at cb;have HZ:Hid (I.each (Te tg) xs st=s1):=by show _=_;rw[HE.o,HS.o,if_pos hb];exact I.uF _ hb
     clear hb;go_wp2_with fail
     rw[HZ.o];exact ae (v:=.tuple #[]) (aA rfl _ _ _) rfl F2.o.done
    |false=>
     rw[hb]at cb;have HS2:Hid (I.fm (Te tg) (decide (0<k)) (xs.drop k) s1=I.fm (Te tg) (decide (0<k+1)) (xs.drop (k+1)) (Te tg x (I.option (decide (0<k)) [[44]] s1))):=by show _=_;rw[HS.o,if_neg (by rw[hb];decide),aq (Nat.succ_pos k)]
     have B2:=cN (B1.o.small hb);clear hb HS;go_wp2_with fail
     with_reducible refine(dS F2.o (decide (0<k)) (n:=1) (cells:=#[.string ⟨#[44]⟩]) [[44]] rfl rfl (by decide) (by simp<;>omega) (by have:=B2.o.le;omega)).mono ?_
     rintro e w4 ⟨v4,s4,hs4,rfl,hF⟩;have F4:=cN hF;have E4:=cN hs4;have B4:Hid (I.Bd 4098 s4):=by show I.Bd 4098 s4;rw[←hs4];exact I.Bd.mono (I.Bd.fQ 1 B2.o (by rfl)) (by decide)
     clear hF hs4 cb;have hrg:=F4.o.cQ.range;rw[bV]at hrg;have RX:=cN hrg;clear hrg;go_wp2_with (refine j0 rfl rfl rfl RX.o (by kernel_rfl) (by rw[V0.o];kernel_rfl) ?_)
     first|(with_reducible refine(F4.o.sub (kQ g cs x _ _ _ (Ps.of F4.o B4.o Ol.o) (vX F1.o F4.o HR.o) HX.o)).mono ?_)|(with_reducible refine(F4.o.sub (Hi g cs x _ _ _ (Ps.of F4.o B4.o Ol.o) (vX F1.o F4.o HR.o) HX.o.1 HX.o.2.1 HX.o.2.2)).mono ?_)|(with_reducible refine(F4.o.sub (Cf g gB cs x _ _ _ (Ps.of F4.o B4.o Ol.o) (vX F1.o F4.o HR.o) HX.o.1 HX.o.2 (pb F4.o HB.o).1 (pb F4.o HB.o).2)).mono ?_)|(with_reducible refine(F4.o.sub (zu g gB cs x _ _ _ (Ps.of F4.o B4.o Ol.o) (vX F1.o F4.o HR.o) HX.o (pb F4.o HB.o).1 (pb F4.o HB.o).2)).mono ?_)|(with_reducible refine(F4.o.sub (EB g gB cs x _ _ _ (Ps.of F4.o B4.o Ol.o) (vX F1.o F4.o HR.o) HX.o.1 HX.o.2 (pb F4.o HB.o).1 (pb F4.o HB.o).2)).mono ?_)
     rintro e w5 ⟨v5,rfl,hF⟩;have F5:=cN hF.drop;have hs:=B4.o;have B5:Hid (I.Bd 7000 (Te tg x s4)):=cN (by first|exact(hs.expr x).mono (by decide)|exact(hs.column x).mono (by decide)|exact(hs.item x).mono (by decide)|exact(hs.order x).mono (by decide)|exact(hs.set x).mono (by decide));have Uc:Hid (I.each (Te tg) xs st=I.fin xs.length (I.fm (Te tg) (decide (0<k+1)) (xs.drop (k+1)) (Te tg x s4))):=by show _=_;rw[HE.o,HS2.o,E4.o]
     clear hF hs;go_wp2_with fail
     go_roundg (n-(k+1));case measure=>omega
     case rel=>exact⟨k+1,_,v5,by omega,rfl,by go_num,Uc,F5,B5⟩
   ·have hkn:k=n:=by omega
    have t7:((n:Int)==0)=decide (xs.length=0):=by rw[←HN.o,aG,aV,bX];omega
    have HZ:Hid (I.each (Te tg) xs st=I.dx (decide (xs.length=0)) s1):=by show _=_;rw[HE.o,hkn,HN.o,bT];exact I.vh _ _
    have T7:=cN t7;clear hkn t7;go_wp2_with fail
    with_reducible refine(gw F1.o _).mono ?_
    rintro e w5 ⟨v5,s5,hs5,rfl,hF⟩;have F5:=cN hF;have E5:=cN hs5;clear hF hs5;go_wp2_with fail
    rw[HZ.o,←T7.o,E5.o];exact ae (v:=.tuple #[]) (aA rfl _ _ _) rfl F5.o.done
abbrev mS (g:Nat) (u v:Value) (xs:List (Ev.Ex)) (st:I.Wr) (w:World) (h:Ps 7000 g v st w) (hl:Rr NI w (fun b=>b<g) u xs) (hp:∀x∈xs,OJ x):=kW.1 g 0 u v xs st w trivial h hl hp trivial
abbrev vu (g:Nat) (u v:Value) (xs:List (I.Oj)) (st:I.Wr) (w:World) (h:Ps 7000 g v st w) (hl:Rr eM w (fun b=>b<g) u xs) (hp:∀x∈xs,(∀y∈x.ck,OJ y)∧x.nm.length≤140737488355328∧x.rf.length≤140737488355328):=kW.2.1 g 0 u v xs st w trivial h hl hp trivial
abbrev uT (g:Nat) (u v:Value) (xs:List (I.Qq)) (st:I.Wr) (w:World) (h:Ps 7000 g v st w) (hl:Rr fL w (fun b=>b<g) u xs) (hp:∀x∈xs,OJ x.x∧x.nm.length≤140737488355328) (gB:Nat) (bB:NA w gB 92 #[.pointer (some ⟨g,0,none⟩)]) (oB:gB≠g∧v.ownBlock≠some gB):=kW.2.2.1 g gB u v xs st w trivial h hl hp ⟨bB,oB⟩
abbrev uy (g:Nat) (u v:Value) (xs:List (I.Ord)) (st:I.Wr) (w:World) (h:Ps 7000 g v st w) (hl:Rr fY w (fun b=>b<g) u xs) (hp:∀x∈xs,OJ x.x) (gB:Nat) (bB:NA w gB 92 #[.pointer (some ⟨g,0,none⟩)]) (oB:gB≠g∧v.ownBlock≠some gB):=kW.2.2.2.1 g gB u v xs st w trivial h hl hp ⟨bB,oB⟩
abbrev sB (g:Nat) (u v:Value) (xs:List (I.OI)) (st:I.Wr) (w:World) (h:Ps 7000 g v st w) (hl:Rr fG w (fun b=>b<g) u xs) (hp:∀x∈xs,OJ x.x∧x.nm.length≤140737488355328) (gB:Nat) (bB:NA w gB 92 #[.pointer (some ⟨g,0,none⟩)]) (oB:gB≠g∧v.ownBlock≠some gB):=kW.2.2.2.2 g gB u v xs st w trivial h hl hp ⟨bB,oB⟩
theorem vF(g:Nat)(u:Value)(x:List Ev.Ex)(v:Value)(st:I.Wr)(w:World)(h:Ps 5000 g v st w)(hx:Rr NI w (fun b=>b<g) u x)(hsm:∀y∈x,OJ y):
 Calls Tryz.prog 86 #[.pointer (some ⟨g,0,none⟩),u] w (gm g w v (I.jF x st)):=by
 have F0:=cN (Fw.start h.ws);have B0:Hid (I.Bd 5000 st):=cN h.bd;have Ol:=cN h.en;have HR:=cN hx;have HM:=cN hsm;obtain⟨A,c,rfl,hc1,hc2⟩:=hx.form;clear h hx hsm;go_enter Tryz.func86,Tryz.ntmps86;go_wp2_with fail
 with_reducible refine eK (M:=5001) (dL F0.o (n:=1) (cells:=#[.string ⟨#[40]⟩]) [[40]] rfl rfl (by decide) (by simp<;>omega) (by have:=B0.o.le;omega)) ?_ fun v1 s1 w1 E1 F1 B1=>?_
 ·exact I.Bd.mono (I.Bd.dM 1 B0.o (by rfl)) (by decide)
 go_wp2_with fail
 with_reducible refine kB (M:=5001) F1.o (mS g _ _ x _ _ (Ps.of F1.o B1.o Ol.o) (F1.o.rr HR.o) HM.o) ?_ fun v2 s2 w2 E2 F2 B2=>?_
 ·exact(I.Bd.each (fun y _ _ hs=>(hs.expr y).mono (by decide)) B1.o:I.Bd (max _ 4241) _).mono (by decide)
 go_wp2_with fail
 with_reducible refine eK (M:=5002) (dL F2.o (n:=1) (cells:=#[.string ⟨#[41]⟩]) [[41]] rfl rfl (by decide) (by simp<;>omega) (by have:=B2.o.le;omega)) ?_ fun v3 s3 w3 E3 F3 B3=>?_
 ·exact I.Bd.mono (I.Bd.dM 1 B2.o (by rfl)) (by decide)
 have HS:Hid (I.jF x st=s3):=by show _=_;unfold I.jF;rw[E1.o,E2.o,E3.o]
 go_wp2_with fail
 rw[HS.o];exact ae (v:=.tuple #[]) (aA rfl _ _ _) rfl F3.o.done
theorem uN(g:Nat)(u v:Value)(xs:List (List Ev.Ex))(st:I.Wr)(w:World)(h:Ps 7000 g v st w)(hl:Rr fO w (fun b=>b<g) u xs)(hp:∀x∈xs,∀y∈x,OJ y):
 Calls Tryz.prog 85 #[.pointer (some ⟨g,0,none⟩),u,(.func (.func 86) #[.pointer (some ⟨g,0,none⟩)] #[])] w (gm g w v (I.each I.jF xs st)):=by
 have F0:=cN (Fw.start h.ws);have B0:=cN h.bd;have Ol:=cN h.en;have HL:=cN hl;have HP:=cN hp;obtain⟨A,c,rfl,hc1,hc2⟩:=hl.form;obtain⟨n,hn⟩:∃n,n=xs.length:=⟨_,rfl⟩;rw[←hn]at hc1⊢;have HN:=cN hn;clear h hl hp hn;go_enter Tryz.func85,Tryz.ntmps85;go_wp2_with fail
 go_loopg [10] n (fun gg i wr=>∃(k:Nat) (s1:I.Wr) (v1:Value),k≤n∧gg=n-k∧i=.int .i64 (k:Nat)∧Hid (I.each I.jF xs st=I.fin xs.length (I.fm I.jF (decide (0<k)) (xs.drop k) s1))∧Hid (Fw g w v [] s1 v1 wr)∧Hid (I.Bd 7000 s1));case atStart=>exact⟨0,st,v,ao _,rfl,rfl,cN (I.rB _ _ _),F0,B0⟩
 case round=>
  obtain⟨k,s1,v1,hk,rfl,rfl,HE,F1,B1⟩:=hrel;obtain⟨w1,hw1⟩:∃W,W=wr:=⟨_,rfl⟩;subst hw1;by_cases hlt:k<n
  ·have Tx:=cN (F1.o.rr HL.o);obtain⟨gk,off,c2,x,cs,hv,q3,q4,hg,hi,hr,hcl,hra⟩:=Tx.o.pc (i:=k) (by rw[←HN.o];exact hlt);injection hv with e1 e2 e3
   subst e1 e3;clear e2 q3 q4;have q1:(k:Int)<(n:Int):=by omega
   have q0:(0:Int)≤(k:Int):=by omega
   have HS:=cN (I.nK (one:=I.jF) hi (decide (0<k)) s1);have HX:=cN (HP.o x (aR hi));have HR:=cN hr;have RH:=cN hra;have V0:=cN hcl;clear hi hg hr hra hcl Tx;obtain⟨vx,rfl,UC⟩:=we HR.o;have d0:=RH.o 0 vx rfl;rw[bh,show k*fO.k=k from bZ k]at d0;have ZL:=cN UC;obtain⟨Ax,cx,rfl,_,_⟩:=UC.form;have d0:w1.cell? ⟨gk,off+k,none⟩=some (.slice Ax x.length cx):=d0;have F2:=F1;obtain⟨w2,hw2⟩:∃W,W=w1:=⟨_,rfl⟩;subst hw2;have cb:=F2.o.ws.blk.cell 2;simp at cb;go_upto_region 3 with fail
   cases hb:s1.b with
   |true=>
    rw[hb]at cb;have HZ:Hid (I.each I.jF xs st=s1):=by show _=_;rw[HE.o,HS.o,if_pos hb];exact I.uF _ hb
    clear hb;go_wp2_with fail
    rw[HZ.o];exact ae (v:=.tuple #[]) (aA rfl _ _ _) rfl F2.o.done
   |false=>
    rw[hb]at cb;have HS2:Hid (I.fm I.jF (decide (0<k)) (xs.drop k) s1=I.fm I.jF (decide (0<k+1)) (xs.drop (k+1)) (I.jF x (I.option (decide (0<k)) [[44]] s1))):=by show _=_;rw[HS.o,if_neg (by rw[hb];decide),aq (Nat.succ_pos k)]
    have B2:=cN (B1.o.small hb);clear hb HS;go_wp2_with fail
    with_reducible refine(dS F2.o (decide (0<k)) (n:=1) (cells:=#[.string ⟨#[44]⟩]) [[44]] rfl rfl (by decide) (by simp<;>omega) (by have:=B2.o.le;omega)).mono ?_
    rintro e w4 ⟨v4,s4,hs4,rfl,hF⟩;have F4:=cN hF;have E4:=cN hs4;have B4:Hid (I.Bd 4098 s4):=by show I.Bd 4098 s4;rw[←hs4];exact I.Bd.mono (I.Bd.fQ 1 B2.o (by rfl)) (by decide)
    clear hF hs4 cb;go_wp2_with fail
    with_reducible refine(F4.o.sub (vF g _ x _ _ _ (Ps.of F4.o B4.o Ol.o) (LJ F1.o F4.o ZL.o) HX.o)).mono ?_
    rintro e w5 ⟨v5,rfl,hF⟩;have F5:=cN hF.drop;have hs:=B4.o;have B5:Hid (I.Bd 7000 (I.jF x s4)):=cN ((hs.row x).mono (by decide));have Uc:Hid (I.each I.jF xs st=I.fin xs.length (I.fm I.jF (decide (0<k+1)) (xs.drop (k+1)) (I.jF x s4))):=by show _=_;rw[HE.o,HS2.o,E4.o]
    clear hF hs;go_wp2_with fail
    go_roundg (n-(k+1));case measure=>omega
    case rel=>exact⟨k+1,_,v5,by omega,rfl,by go_num,Uc,F5,B5⟩
  ·have hkn:k=n:=by omega
   have t7:((n:Int)==0)=decide (xs.length=0):=by rw[←HN.o,aG,aV,bX];omega
   have HZ:Hid (I.each I.jF xs st=I.dx (decide (xs.length=0)) s1):=by show _=_;rw[HE.o,hkn,HN.o,bT];exact I.vh _ _
   have T7:=cN t7;clear hkn t7;go_wp2_with fail
   with_reducible refine(gw F1.o _).mono ?_
   rintro e w5 ⟨v5,s5,hs5,rfl,hF⟩;have F5:=cN hF;have E5:=cN hs5;clear hF hs5;go_wp2_with fail
   rw[HZ.o,←T7.o,E5.o];exact ae (v:=.tuple #[]) (aA rfl _ _ _) rfl F5.o.done
theorem wZ(g:Nat)(u v:Value)(xs:List (UInt8))(st:I.Wr)(w:World)(h:Ps 7000 g v st w)(hl:Rr jZ w (fun b=>b<g) u xs)(hp:∀x∈xs,True)(gB:Nat)(bB:NA w gB 92 #[.pointer (some ⟨g,0,none⟩)])(oB:gB≠g∧v.ownBlock≠some gB):
 Calls Tryz.prog 161 #[.pointer (some ⟨g,0,none⟩),u,(.func (.func 162) #[] #[.pointer (some ⟨gB,0,none⟩)])] w (gm g w v (I.each I.iC xs st)):=by
 have F0:=cN (Fw.start h.ws);have B0:=cN h.bd;have Ol:=cN h.en;have HL:=cN hl;have HP:=cN hp;have HB:=cN bB;clear bB;obtain⟨A,c,rfl,hc1,hc2⟩:=hl.form;obtain⟨n,hn⟩:∃n,n=xs.length:=⟨_,rfl⟩;rw[←hn]at hc1⊢;have HN:=cN hn;clear h hl hp hn;go_enter Tryz.func161,Tryz.ntmps161;go_wp2_with fail
 go_loopg [10] n (fun gg i wr=>∃(k:Nat) (s1:I.Wr) (v1:Value),k≤n∧gg=n-k∧i=.int .i64 (k:Nat)∧Hid (I.each I.iC xs st=I.fin xs.length (I.fm I.iC (decide (0<k)) (xs.drop k) s1))∧Hid (Fw g w v [] s1 v1 wr)∧Hid (I.Bd 7000 s1));case atStart=>exact⟨0,st,v,ao _,rfl,rfl,cN (I.rB _ _ _),F0,B0⟩
 case round=>
  obtain⟨k,s1,v1,hk,rfl,rfl,HE,F1,B1⟩:=hrel;obtain⟨w1,hw1⟩:∃W,W=wr:=⟨_,rfl⟩;subst hw1;by_cases hlt:k<n
  ·have Tx:=cN (F1.o.rr HL.o);obtain⟨gk,off,c2,x,cs,hv,q3,q4,hg,hi,hr,hcl,hra⟩:=Tx.o.pc (i:=k) (by rw[←HN.o];exact hlt);injection hv with e1 e2 e3
   subst e1 e3;clear e2 q3 q4;have q1:(k:Int)<(n:Int):=by omega
   have q0:(0:Int)≤(k:Int):=by omega
   have HS:=cN (I.nK (one:=I.iC) hi (decide (0<k)) s1);have HX:=cN (HP.o x (aR hi));have HR:=cN hr;have RH:=cN hra;have V0:=cN hcl;clear hi hg hr hra hcl Tx;obtain⟨vx,rfl,UC⟩:=Iw HR.o;have d0:=RH.o 0 vx rfl;rw[bh,show k*jZ.k=k from bZ k]at d0;have ZL:=cN UC;subst UC;have F2:=F1;obtain⟨w2,hw2⟩:∃W,W=w1:=⟨_,rfl⟩;subst hw2;have cb:=F2.o.ws.blk.cell 2;simp at cb;go_upto_region 3 with fail
   cases hb:s1.b with
   |true=>
    rw[hb]at cb;have HZ:Hid (I.each I.iC xs st=s1):=by show _=_;rw[HE.o,HS.o,if_pos hb];exact I.uF _ hb
    clear hb;go_wp2_with fail
    rw[HZ.o];exact ae (v:=.tuple #[]) (aA rfl _ _ _) rfl F2.o.done
   |false=>
    rw[hb]at cb;have HS2:Hid (I.fm I.iC (decide (0<k)) (xs.drop k) s1=I.fm I.iC (decide (0<k+1)) (xs.drop (k+1)) (I.iC x (I.option (decide (0<k)) [[44]] s1))):=by show _=_;rw[HS.o,if_neg (by rw[hb];decide),aq (Nat.succ_pos k)]
    have B2:=cN (B1.o.small hb);clear hb HS;go_wp2_with fail
    with_reducible refine(dS F2.o (decide (0<k)) (n:=1) (cells:=#[.string ⟨#[44]⟩]) [[44]] rfl rfl (by decide) (by simp<;>omega) (by have:=B2.o.le;omega)).mono ?_
    rintro e w4 ⟨v4,s4,hs4,rfl,hF⟩;have F4:=cN hF;have E4:=cN hs4;have B4:Hid (I.Bd 4098 s4):=by show I.Bd 4098 s4;rw[←hs4];exact I.Bd.mono (I.Bd.fQ 1 B2.o (by rfl)) (by decide)
    clear hF hs4 cb;go_wp2_with fail
    with_reducible refine(F4.o.sub (BZ g gB x _ _ _ (Ps.of F4.o B4.o Ol.o) (F4.o.iz HB.o oB.1 oB.2))).mono ?_
    rintro e w5 ⟨v5,rfl,hF⟩;have F5:=cN hF.drop;have hs:=B4.o;have B5:Hid (I.Bd 7000 (I.iC x s4)):=cN ((hs.lH x).mono (by decide));have Uc:Hid (I.each I.iC xs st=I.fin xs.length (I.fm I.iC (decide (0<k+1)) (xs.drop (k+1)) (I.iC x s4))):=by show _=_;rw[HE.o,HS2.o,E4.o]
    clear hF hs;go_wp2_with fail
    go_roundg (n-(k+1));case measure=>omega
    case rel=>exact⟨k+1,_,v5,by omega,rfl,by go_num,Uc,F5,B5⟩
  ·have hkn:k=n:=by omega
   have t7:((n:Int)==0)=decide (xs.length=0):=by rw[←HN.o,aG,aV,bX];omega
   have HZ:Hid (I.each I.iC xs st=I.dx (decide (xs.length=0)) s1):=by show _=_;rw[HE.o,hkn,HN.o,bT];exact I.vh _ _
   have T7:=cN t7;clear hkn t7;go_wp2_with fail
   with_reducible refine(gw F1.o _).mono ?_
   rintro e w5 ⟨v5,s5,hs5,rfl,hF⟩;have F5:=cN hF;have E5:=cN hs5;clear hF hs5;go_wp2_with fail
   rw[HZ.o,←T7.o,E5.o];exact ae (v:=.tuple #[]) (aA rfl _ _ _) rfl F5.o.done
end
section
namespace I
open Ev (Ex Hd)
def jg(t:Wr→Wr):Bool→List Src→Wr→Wr
 |_,[],w=>t w
 |c,s::l,w=>if w.b=true then w else jg t true l (jJ s (option c [[106,111,105,110]] w))
def rj(q:NS)(w:Wr):Wr:=first q.wh [[119,104,101,114,101]] w
def jP(q:NS)(w:Wr):Wr:=if 0<q.gr.length then each jy q.gr (put [[103,114,111,117,112],[98,121]] w)else w
def lT(q:NS)(w:Wr):Wr:=if 0<q.od.length then each l9 q.od (put [[111,114,100,101,114],[98,121]] w)else w
def nx(q:NS)(w:Wr):Wr:=option (decide (q.lim≠ -1)) [[108,105,109,105,116],Lib.itoa q.lim] w
def kr(q:NS)(w:Wr):Wr:=nx q (lT q (jP q (rj q w)))
def gJ(q:NS)(w:Wr):Wr:=if q.all=true then put [[42]] w else each pY q.its w
def wa(q:NS)(w:Wr):Wr:=jg (kr q) false q.fr (dx (decide (q.fr.length=0)) (put [[102,114,111,109]] (gJ q (put [[115,101,108,101,99,116]] w))))
def ff(l:List NS)(w:Wr):Wr:=match l with
 |[q]=>if w.b=true then w else wa q w
 |_=>dx true w
def sv(s:NC)(w:Wr):Wr:=match s.vals with
 |[v]=>if w.b=true then w else jF v w
 |_=>dx true w
def eX(s:NC)(w:Wr):Wr:=
 if s.k.toNat=1 then put [[41]] (each gY s.NH (put [[116,97,98,108,101],s.nm,[40]] (put [[99,114,101,97,116,101]] w)))
 else if s.k.toNat=3 then ff s.q (put [[118,105,101,119],s.nm,[97,115]] (put [[99,114,101,97,116,101]] w))
 else if s.k.toNat=5 then sv s (put [[111,110],s.on,[105,110,115,101,114,116],[105,110,116,111],s.NG,[118,97,108,117,101,115]] (put [[116,114,105,103,103,101,114],s.nm,[97,102,116,101,114],word ((s.ev.toNat:Int)-14) [[105,110,115,101,114,116],[117,112,100,97,116,101],[100,101,108,101,116,101]]] (put [[99,114,101,97,116,101]] w)))
 else if s.k.toNat=7 then put [[41]] (first s.wh [] (put [[112,111,108,105,99,121],s.nm,[111,110],s.on,[116,111],s.NG,[117,115,105,110,103],[40]] (put [[99,114,101,97,116,101]] w)))
 else option (decide (s.key≠[])) [[107,101,121],NF.prt ⟨4,0,bs s.key⟩] (put [[114,111,108,101],s.nm] (put [[99,114,101,97,116,101]] w))
def dO(s:NC)(w:Wr):Wr:=
 if s.k.toNat=1∨s.k.toNat=3∨s.k.toNat=5∨s.k.toNat=7∨s.k.toNat=9 then eX s w
 else if s.k.toNat=2 then put [[100,114,111,112],[116,97,98,108,101],s.nm] w
 else if s.k.toNat=4 then put [[100,114,111,112],[118,105,101,119],s.nm] w
 else if s.k.toNat=6 then put [[100,114,111,112],[116,114,105,103,103,101,114],s.nm] w
 else if s.k.toNat=8 then put [[100,114,111,112],[112,111,108,105,99,121],s.nm] w
 else if s.k.toNat=10 then put [[103,114,97,110,116],s.nm,[116,111],s.on] w
 else if s.k.toNat=11 then put [[114,101,118,111,107,101],s.nm,[102,114,111,109],s.on] w
 else if s.k.toNat=12 then option s.opt [[119,105,116,104],[103,114,97,110,116],[111,112,116,105,111,110]] (put [[111,110],s.nm,[116,111],s.on] (jx s.pv (put [[103,114,97,110,116]] w)))
 else if s.k.toNat=13 then put [[111,110],s.nm,[102,114,111,109],s.on] (jx s.pv (put [[114,101,118,111,107,101]] w))
 else if s.k.toNat=14 then each jF s.vals (put [[105,110,115,101,114,116],[105,110,116,111],s.nm,[118,97,108,117,101,115]] w)
 else if s.k.toNat=15 then first s.wh [[119,104,101,114,101]] (each sF s.dD (put [[117,112,100,97,116,101],s.nm,[115,101,116]] w))
 else if s.k.toNat=16 then first s.wh [[119,104,101,114,101]] (put [[100,101,108,101,116,101],[102,114,111,109],s.nm] w)
 else if s.k.toNat=17 then ff s.q w
 else if s.k.toNat=18 then put [[98,101,103,105,110]] w
 else if s.k.toNat=19 then put [[99,111,109,109,105,116]] w
 else if s.k.toNat=20 then put [[114,111,108,108,98,97,99,107]] w
 else dx true w
section
variable{N M:Nat}{st:Wr}
theorem Bd.rj(h:Bd N st)(q:NS):Bd (max (N+1) 4241) (rj q st):=Bd.lC 1 h (by rfl)
theorem Bd.jP(h:Bd N st)(q:NS):Bd (max (N+2) 4241) (jP q st):=by
 unfold I.jP;split
 ·exact Bd.each (fun x _ _ hs=>(hs.expr x).mono (by omega)) (Bd.dM 2 h (by rfl))
 ·exact h.mono (by omega)
theorem Bd.lT(h:Bd N st)(q:NS):Bd (max (N+2) 4242) (lT q st):=by
 unfold I.lT;split
 ·exact Bd.each (fun x _ _ hs=>(hs.order x).mono (by omega)) (Bd.dM 2 h (by rfl))
 ·exact h.mono (by omega)
theorem Bd.nx(h:Bd N st)(q:NS):Bd (N+2) (nx q st):=Bd.fQ 2 h (by rfl)
theorem Bd.kr(h:Bd N st)(q:NS):Bd (max N 4241+10) (kr q st):=by
 unfold I.kr;exact Bd.mono (((h.rj q).jP q).lT q|>.nx q) (by omega)
theorem Bd.gJ(h:Bd N st)(q:NS):Bd (max (N+1) 4243) (gJ q st):=by
 unfold I.gJ;split
 ·exact Bd.mono (Bd.dM 1 h (by rfl)) (by omega)
 ·exact Bd.mono (Bd.each (M:=4243) (fun x _ _ hs=>(hs.item x).mono (by omega)) h) (by omega)
theorem Bd.jg{t:Wr→Wr}(ht:∀{N:Nat} {st:Wr},Bd N st→Bd (max N 4241+10) (t st)):∀(l:List Src) (c:Bool) {N:Nat} {st:Wr},Bd N st→Bd (max N 4241+10) (I.jg t c l st):=by
 intro l;induction l with
 |nil=>intro c N st h;exact ht h
 |cons s l ih=>
  intro c N st h;unfold I.jg;split
  ·exact h.mono (by omega)
  ·rename_i hb;exact Bd.mono (ih true (Bd.source (Bd.fQ 1 (h.small (by simpa using hb)) (by rfl)) s)) (by omega)
theorem Bd.wa(h:Bd N st)(q:NS):Bd (max N 4250+20) (wa q st):=by
 unfold I.wa;exact Bd.mono (Bd.jg (fun h=>h.kr q) _ _ ((Bd.dM 1 ((Bd.dM 1 h (by rfl)).gJ q) (by rfl)).dx _)) (by omega)
theorem Bd.ff(h:Bd N st)(l:List NS):Bd (max N 4250+20) (ff l st):=by
 unfold I.ff;split
 ·split
  ·exact h.mono (by omega)
  ·exact h.wa _
 ·exact(h.dx _).mono (by omega)
end
end I
end
end Go.Proofs.YtnicfobpclehkaaGreatDoor
