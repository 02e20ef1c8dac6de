import Derived.Test.YtnicfobpclehkaaGreatDoorP42
set_option maxHeartbeats 12800000
set_option linter.unusedVariables false
set_option linter.unusedSimpArgs false
namespace Go.Proofs.YtnicfobpclehkaaGreatDoor
open Go.RowKit
namespace I
theorem vE{text:Bs}(h:(parse text).2.1=0)(hl:text.length≤500):NM (parse text).1=(di (pS (parse text).1),0):=by
 obtain⟨h1,h2⟩:=qp h;exact ml h1 (by omega)
theorem Cx{text:Bs}(h:¬((parse text).2.1=0∧(parse text).2.2=0)):(parse text).1=NC.zero∧(parse text).2.1≠0:=by
 revert h;unfold parse;by_cases h1:(Lex.told text).2.1≠0
 ·rw[if_pos h1];exact fun _=>⟨rfl,h1⟩
 ·rw[if_neg h1];by_cases h2:(run text.length (Lex.told text).1).2.e≠0
  ·rw[if_pos h2];exact fun _=>⟨rfl,h2⟩
  ·rw[if_neg h2];by_cases h3:(run text.length (Lex.told text).1).2.d=true
   ·rw[if_pos h3];exact fun _=>⟨rfl,by decide⟩
   ·rw[if_neg h3];exact fun h=>absurd ⟨rfl,rfl⟩ h
end I
section
variable{w0 w:World}{own:eP}{its:List It}
end
theorem xd{l:List Ev.Ex}(h:l.length≤16):Lx l:=by unfold Lx;omega
theorem rW{l:List Ev.Ex}(h:I.QX l):Lx l:=xd (by rcases h with rfl|⟨e,_,rfl⟩<;>simp)
theorem Mw{l:List Ev.Ex}(h:l=[]∨I.LG I.QW 16 l):Lx l:=xd (by rcases h with rfl|h;simp;exact h.2.1)
theorem wK{q:I.NS}(h:I.PA q):SN q:=by
 refine⟨?_,?_,fun s hs=>rW (h.fr.src s hs).2,rW h.wh,Mw h.gr,?_⟩
 ·rcases h.its with⟨_,e⟩|⟨_,e⟩
  ·rw[e];simp
  ·have:=e.2.1;omega
 ·obtain⟨s,r,e,_,_,h3,_⟩:=h.fr;rw[e];simp only[ab];omega
 ·rcases h.od with e|e
  ·rw[e];simp
  ·have:=e.2.1;omega
theorem FP{s:I.NC}(h:I.Pu s):Qp s:=by
 have nl:∀{α:Type} {p:α→Prop},∀x∈([]:List α),p x:=fun x hx=>by cases hx
 have z:∀{α:Type} {k:Nat},([]:List α).length*k≤140737488355328:=by intro α k;simp
 have zx:Lx []:=by unfold Lx;simp
 have one:∀{α:Type} {p:α→Prop} {y:α},p y→∀x∈[y],p x:=fun hy x hx=>by
  simp only[af,aj,aH]at hx
  rw[hx];exact hy
 have o1:∀{α:Type} {y:α} {k:Nat},k≤1000→[y].length*k≤140737488355328:=fun h=>by simp only[ab,ai];omega
 cases h with
 | @table n cs hn hc=>exact⟨by have:=hc.2.1;show cs.length*72≤_;omega,fun c hx=>rW (hc.2.2 c hx).2.2.1,z,nl,z,nl,z,zx,z⟩
 | @view n q hn hq=>exact⟨z,nl,o1 (by decide),one (wK hq),z,nl,z,zx,z⟩
 | @fh n on t ev v hn he ho ht hv=>exact⟨z,nl,z,nl,o1 (by decide),one (xd hv.2.1),z,zx,z⟩
 | @fN n on t e hn ho ht he=>exact⟨z,nl,z,nl,z,nl,z,xd (by simp),z⟩
 | @role n key hn hk=>exact⟨z,nl,z,nl,z,nl,z,zx,z⟩
 | @drop k n hk hn=>exact⟨z,nl,z,nl,z,nl,z,zx,z⟩
 | @share k n on hk hn ho=>exact⟨z,nl,z,nl,z,nl,z,zx,z⟩
 | @fE pv n on opt hp hn ho=>exact⟨z,nl,z,nl,z,nl,z,zx,by have:=hp.2.1;show pv.length*1≤_;omega⟩
 | @gj pv n on hp hn ho=>exact⟨z,nl,z,nl,z,nl,z,zx,by have:=hp.2.1;show pv.length*1≤_;omega⟩
 | @insert n v hn hv=>exact⟨z,nl,z,nl,by have:=hv.2.1;show v.length*24≤_;omega,fun x hx=>xd (hv.2.2 x hx).2.1,z,zx,z⟩
 | @update n l w hn hl hw=>exact⟨z,nl,z,nl,z,nl,by have:=hl.2.1;show l.length*120≤_;omega,rW hw,z⟩
 | @remove n w hn hw=>exact⟨z,nl,z,nl,z,nl,z,rW hw,z⟩
 | @query q hq=>exact⟨z,nl,o1 (by decide),one (wK hq),z,nl,z,zx,z⟩
 | @plain k hk=>exact⟨z,nl,z,nl,z,nl,z,zx,z⟩
section
set_option maxRecDepth 100000
section
variable{w0 w w':World}{own:eP}{its:List It}
end
theorem KY(w:World)(P:Nat→Prop):df.R w P [.int .u8 0,.string ⟨#[]⟩,.string ⟨#[]⟩,.string ⟨#[]⟩,.int .u8 0,.slice none 0 0,.slice none 0 0,.slice none 0 0,.slice none 0 0,.slice none 0 0,.slice none 0 0,.bool false,.string ⟨#[]⟩] I.NC.zero:=⟨_,_,_,_,_,_,rfl,Rr.nil _ _ _,Rr.nil _ _ _,Rr.nil _ _ _,Rr.nil _ _ _,Rr.nil _ _ _,Rr.nil _ _ _,Sz.of (ao _),Sz.of (ao _),Sz.of (ao _),Sz.of (ao _)⟩
theorem back_any(cs:List Value)(s:I.NC)(text:ByteArray)(w:World)(hE:PD w)(hx:df.R w (fun b=>b<w.heap.size) cs s)(hsm:Py s)(hlm:Qp s)(htx:text.size≤140737488355328):
 Calls Tryz.prog 5 #[.agg cs.toArray,.string text] w fun e w'=>e=.returned (.bool true)∧Below w.heap.size w w':=by
 have h0:0<w.heap.size:=by have:=hE.six;omega
 have H0:=cN h0;have HE:=cN hE;have HX:=cN hx;have Qk:=cN hsm;have Qw:=cN hlm;have HTx:=cN (show text.size≤maxLen by unfold maxLen;omega);have IS:∀{l:List Value},l.length=13→(Tryz.prog.info? 30).map (·.size)=some l.length:=fun h=>by rw[h];kernel_rfl
 have lX:=cN (df.len hx);have F0:=cN (Fr.start h0 (jD w));clear hE hx hsm hlm htx h0;go_enter Tryz.func5,Tryz.ntmps5;go_upto_region 1 with fail
 refine P8 fun w1 hw=>?_
 have F1:Hid (Fr 0 w [(w.heap.size,30,cs.toArray)] [] (Kp w) w1):=by rw[hw];exact F0.o.new 30 cs.toArray
 have Q0:=cN (El.up (E:=df) HX.o (F1.o.bel));clear hw F0;obtain⟨gB,hgB⟩:∃g,g=w.heap.size:=⟨_,rfl⟩;rw[←hgB]at F1⊢;clear hgB;have RB:=cN (F1.o.jc (t:=30) (b:=gB) (cs:=cs) ag);go_wp2_with (refine j0 rfl rfl rfl RB.o (by kernel_rfl) (IS lX.o) ?_)
 with_reducible refine(Fr.copy F1.o (s:=s) Q0.o Qw.o).mono ?_
 rintro e w2 ⟨cs2,rfl,hF⟩;have F2:=cN hF;clear hF F1 RB Q0;go_wp2_with fail
 obtain⟨r,hr⟩:∃r,r=I.NM s:=⟨_,rfl⟩;have Su:=cN hr;with_reducible refine(Fr.print F2.o HE.o (F2.o.Tl (E:=df) (cs:=cs2) (x:=s) ag) Qk.o hr.symm (v:=I.bs r.1) (y:=(r.2:Int)) rfl rfl).mono ?_
 clear hr;rintro e w3 ⟨rfl,hF⟩;have F3:=cN hF;clear hF F2;go_upto_if 22 with fail
 go_cut []from 15 (fun wx=>Hid (Below w.heap.size w wx));case first=>
  by_cases hp:r.2=0
  ·obtain⟨g1,g2,g3⟩:=I.mD (s:=s) (by rw[←Su.o];exact hp);have hbk:=I.lW g1 g2;have e3:=Su.o.trans g3;have hpi:((r.2:Int)==0)=true:=by rw[hp];rfl
   have htl:(I.bs r.1).size≤maxLen:=by rw[lN,e3];have:=(I.kM (I.pS s)).1;unfold maxLen;simp only;omega
   have HTL:=cN htl;have HBK:=cN (show I.parse (I.bs r.1).data.toList=(s,0,0) by rw[I.dA,e3];exact hbk);clear g1 g2 g3 hbk e3 htl hp;go_wp2_with fail
   with_reducible refine(Fr.parse F3.o HE.o (I.bs r.1) HTL.o (r:=(s,0,0)) HBK.o (x:=0) (y:=0) rfl rfl).mono ?_
   rintro e w4 ⟨Un,rfl,hF⟩;have F4:=cN hF;clear hF F3;have L4:=cN (df.len F4.o.N6);have O4:=cN (nQ F4.o.N6);go_upto_region 4 with(first|refine wpList_store_mid rfl _ _ _ rfl _ 0 Un.toArray rfl rfl (iP (by rw[aQ,L4.o];rfl)) (by rw[aQ];exact IS L4.o) O4.o ?_|refine wpList_store_mid rfl _ _ _ rfl _ 0 #[.int .i64 0,.int .i64 0] rfl rfl (iU (by rfl)) (by kernel_rfl) (Wz _ _) ?_)
   refine P8 fun w5 hw=>?_
   have F5:=cN (F4.o.nP (vs:=[.int .i64 0,.int .i64 0]) hw (by rw[L4.o];rfl) rfl);clear hw F4 O4;obtain⟨gF,PU⟩:∃g,g=w4.heap.size+1:=⟨_,rfl⟩;obtain⟨gS,OO⟩:∃g,g=w4.heap.size:=⟨_,rfl⟩;rw[←PU,←OO]at F5⊢;clear PU OO;obtain⟨q0,q1⟩:=F5.o.cQ.y2 0 1;simp at q0 q1;have RB:=cN (F5.o.jc (t:=30) (b:=gB) (cs:=cs) (by simp only[af,bM,bO]));have RS:=cN (F5.o.jc (t:=30) (b:=gS) (cs:=Un) (by simp only[af,bM,bO]));have U6:=cN (El.up (E:=df) HX.o F5.o.bel);go_wp2_with (first|refine dU rfl 30 _ rfl gB 0 rfl cs _ RB.o fP rfl (IS lX.o) ?_|refine dU rfl 30 _ rfl gS 0 rfl Un _ RS.o fP rfl (IS L4.o) ?_)
   with_reducible refine(Fr.same F5.o U6.o (F5.o.Tl (E:=df) (cs:=Un) (x:=s) ag) rfl).mono ?_
   rintro e w6 ⟨rfl,hF⟩;have F6:=cN hF.bel;clear hF F5 RB RS U6 q0 q1;go_wp2_with fail
   go_meet;exact F6
  ·have hpi:((r.2:Int)==0)=false:=bm.2 (by omega);have F6:=cN F3.o.bel;clear hp;go_wp2_with fail
   go_meet;exact F6
 case rest=>
  have F7:=cN (Fr.again H0.o hcut.o);clear hcut F3 Su lX HX Qk Qw H0;obtain⟨p,hp⟩:∃p,p=I.parse text.data.toList:=⟨_,rfl⟩;have HP:=cN hp;go_wp2_with fail
  with_reducible refine(Fr.parse F7.o HE.o text HTx.o (r:=p) hp.symm (x:=(p.2.1:Int)) (y:=(p.2.2:Int)) rfl rfl).mono ?_
  clear hp;rintro e w8 ⟨Vy,rfl,hF⟩;have F8:=cN hF;clear hF F7;have L8:=cN (df.len F8.o.N6);have O8:=cN (nQ F8.o.N6);go_upto_region 7 with(first|refine wpList_store_mid rfl _ _ _ rfl _ 0 Vy.toArray rfl rfl (iP (by rw[aQ,L8.o];rfl)) (by rw[aQ];exact IS L8.o) O8.o ?_|refine wpList_store_mid rfl _ _ _ rfl _ 0 #[.int .i64 (p.2.1:Int),.int .i64 (p.2.2:Int)] rfl rfl (iU (by rfl)) (by kernel_rfl) (Wz _ _) ?_)
  refine P8 fun w9 hw=>?_
  have F9:=cN (F8.o.nP (vs:=[.int .i64 (p.2.1:Int),.int .i64 (p.2.2:Int)]) hw (by rw[L8.o];rfl) rfl);clear hw F8 O8;obtain⟨Xr,PU⟩:∃g,g=w8.heap.size+1:=⟨_,rfl⟩;obtain⟨S6,OO⟩:∃g,g=w8.heap.size:=⟨_,rfl⟩;rw[←PU,←OO]at F9⊢;clear PU OO;obtain⟨q0,q1⟩:=F9.o.cQ.y2 0 1;simp at q0 q1;have RS:=cN (F9.o.jc (t:=30) (b:=S6) (cs:=Vy) (by simp only[af,bM,bO]));by_cases hp:p.2.1=0∧p.2.2=0
  ·have HG:=cN (I.qp (text:=text.data.toList) (by rw[←HP.o];exact hp.1)).1;rw[←HP.o]at HG;have i1:(p.2.1:Int)=0:=by rw[hp.1];rfl
   have i2:(p.2.2:Int)=0:=by rw[hp.2];rfl
   rw[i1]at q0;rw[i2]at q1;have Hp:=cN hp;clear hp i1 i2;go_wp2_with (refine j0 rfl rfl rfl RS.o (by kernel_rfl) (IS L8.o) ?_)
   with_reducible refine(Fr.copy F9.o (s:=p.1) (F9.o.Tl (E:=df) (cs:=Vy) (x:=p.1) ag) (FP HG.o)).mono ?_
   rintro e RU ⟨cs10,rfl,hF⟩;have Pj:=cN hF;clear hF F9 RS q0 q1;go_wp2_with fail
   obtain⟨r,hr⟩:∃r,r=I.NM p.1:=⟨_,rfl⟩;have Su:=cN hr;with_reducible refine(Fr.print Pj.o HE.o (Pj.o.Tl (E:=df) (cs:=cs10) (x:=p.1) ag) (yf HG.o) hr.symm (v:=I.bs r.1) (y:=(r.2:Int)) rfl rfl).mono ?_
   clear hr;rintro e PW ⟨rfl,hF⟩;have Pv:=cN hF;clear hF Pj;by_cases hq:r.2=0
   ·have hpi:((r.2:Int)==0)=true:=by rw[hq];rfl
    obtain⟨g1,g2,g3⟩:=I.mD (s:=p.1) (by rw[←Su.o];exact hq);have e3:=Su.o.trans g3;have htl:(I.bs r.1).size≤maxLen:=by rw[lN,e3];have:=(I.kM (I.pS p.1)).1;unfold maxLen;simp only;omega
    have HTL:=cN htl;have HBK:=cN (show I.parse (I.bs r.1).data.toList=(p.1,0,0) by rw[I.dA,e3];exact I.lW g1 g2);clear g1 g2 g3 e3 htl hq;go_wp2_with fail
    with_reducible refine(Fr.parse Pv.o HE.o (I.bs r.1) HTL.o (r:=(p.1,0,0)) HBK.o (x:=0) (y:=0) rfl rfl).mono ?_
    rintro e Qu ⟨UQ,rfl,hF⟩;have PO:=cN hF;clear hF Pv;have L12:=cN (df.len PO.o.N6);have O12:=cN (nQ PO.o.N6);go_upto_region 13 with(first|refine wpList_store_mid rfl _ _ _ rfl _ 0 UQ.toArray rfl rfl (iP (by rw[aQ,L12.o];rfl)) (by rw[aQ];exact IS L12.o) O12.o ?_|refine wpList_store_mid rfl _ _ _ rfl _ 0 #[.int .i64 0,.int .i64 0] rfl rfl (iU (by rfl)) (by kernel_rfl) (Wz _ _) ?_)
    refine P8 fun Uf hw=>?_
    have Sj:=cN (PO.o.nP (vs:=[.int .i64 0,.int .i64 0]) hw (by rw[L12.o];rfl) rfl);clear hw PO O12;obtain⟨gF2,PU⟩:∃g,g=Qu.heap.size+1:=⟨_,rfl⟩;obtain⟨gS2,OO⟩:∃g,g=Qu.heap.size:=⟨_,rfl⟩;rw[←PU,←OO]at Sj⊢;clear PU OO;obtain⟨q0,q1⟩:=Sj.o.cQ.y2 0 1;simp at q0 q1;have RS:=cN (Sj.o.jc (t:=30) (b:=S6) (cs:=Vy) (by simp only[af,bM,bO]));have RT:=cN (Sj.o.jc (t:=30) (b:=gS2) (cs:=UQ) (by simp only[af,bM,bO]));go_wp2_with (first|refine dU rfl 30 _ rfl S6 0 rfl Vy _ RS.o fP rfl (IS L8.o) ?_|refine dU rfl 30 _ rfl gS2 0 rfl UQ _ RT.o fP rfl (IS L12.o) ?_)
    with_reducible refine(Fr.same Sj.o (Sj.o.Tl (E:=df) (cs:=Vy) (x:=p.1) (by simp only[af,bM,bO])) (Sj.o.Tl (E:=df) (cs:=UQ) (x:=p.1) ag) rfl).mono ?_
    rintro e ZO ⟨rfl,hF⟩;have UD:=cN hF;clear hF Sj RS RT q0 q1;go_wp2_with fail
    with_reducible refine(Fr.kO UD.o HE.o).mono ?_
    rintro e SX ⟨rfl,hF⟩;have Rx:=cN hF.bel;clear hF UD;go_wp2_with fail
    go_ret;exact⟨rfl,Rx.o⟩
   ·have hpi:((r.2:Int)==0)=false:=bm.2 (by omega);have ht:500<text.size:=by apply Nat.lt_of_not_le;intro hle;have h1:=I.vE (text:=text.data.toList) (by rw[←HP.o];exact Hp.o.1) (by rw[aK];exact hle);rw[←HP.o,←Su.o]at h1;exact hq (by rw[h1])
    have t1:decide ((500:Int)<(text.size:Int))=true:=aq (by omega);have HT:=cN ht;clear hq ht;go_wp2_with fail
    with_reducible refine(Fr.kO Pv.o HE.o).mono ?_
    rintro e SX ⟨rfl,hF⟩;have Rx:=cN hF.bel;clear hF Pv;go_wp2_with fail
    go_ret;exact⟨rfl,Rx.o⟩
  ·obtain⟨hz,hne⟩:=I.Cx (text:=text.data.toList) (by rw[←HP.o];exact hp);rw[←HP.o]at hz hne;have t1:((p.2.1:Int)==0)=false:=bm.2 (by omega);have HZ:=cN hz;clear hp hz hne;go_wp2_with (refine dU rfl 30 _ rfl S6 0 rfl Vy _ RS.o fP rfl (IS L8.o) ?_)
   with_reducible refine(Fr.same F9.o (F9.o.Tl (E:=df) (cs:=Vy) (x:=p.1) ag) (KY _ _) HZ.o).mono ?_
   rintro e RU ⟨rfl,hF⟩;have Pj:=cN hF;clear hF F9 RS q0 q1;go_wp2_with fail
   with_reducible refine(Fr.kO Pj.o HE.o).mono ?_
   rintro e PW ⟨rfl,hF⟩;have Pv:=cN hF.bel;clear hF Pj;go_wp2_with fail
   go_ret;exact⟨rfl,Pv.o⟩
end
end Go.Proofs.YtnicfobpclehkaaGreatDoor
