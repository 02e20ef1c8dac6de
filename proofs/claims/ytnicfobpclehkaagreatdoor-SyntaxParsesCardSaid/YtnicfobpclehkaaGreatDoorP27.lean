import Derived.RegionTactic
import Derived.ChangeAlike
import Derived.Test.YtnicfobpclehkaaGreatDoorP25
import Derived.Test.YtnicfobpclehkaaGreatDoorP26
set_option maxHeartbeats 20000000
set_option linter.unusedVariables false
set_option linter.unusedSimpArgs false
namespace Go.Proofs.YtnicfobpclehkaaGreatDoor
open Go.RowKit
section
set_option maxRecDepth 100000
theorem rangeAt.right{w:World}{g o:Nat}{l r:List Value}(h:w.rangeAt g o (l++r)){n:Nat}(hn:n=l.length):w.rangeAt g (o+n) r:=fun j v hv=>by
 have:=h (l.length+j) v (by rw[List.getElem?_append_right (by omega),Nat.add_sub_cancel_left];exact hv)
 rw[hn,Nat.add_assoc]
 exact this
theorem rangeAt.left{w:World}{g o:Nat}{l r:List Value}(h:w.rangeAt g o (l++r)):w.rangeAt g o l:=fun j v hv=>h j v (by rw[List.getElem?_append_left (List.getElem?_eq_some_iff.1 hv).1];exact hv)
theorem gw{l:List Ev.Ex}(h:∀x∈l,I.depth x≤1000000000000000000):Rp.deep l≤1000000000000000000:=gP (f:=I.depth) (Nat.zero_le _) h
theorem tZ(d:Nat)(q:I.Kz):Rp.fZ d q=Mr (fun o=>I.depth o.x) (Mr (fun s=>Rp.deep s.on) (Mr (fun i=>I.depth i.x) (max (max d (Rp.deep q.wh)) (Rp.deep q.gr)) q.its) q.fr) q.od:=rfl
theorem vp(s:I.Km):Rp.fL s=s.q.foldl Rp.fZ (Mr (fun x=>I.depth x.x) (Mr (fun l=>Rp.deep l) (Mr (fun c=>Rp.deep c.ck) (Rp.deep s.wh) s.Kv) s.vals) s.bu):=rfl
theorem Bz{d:Nat}{q:I.Kz}(hd:d≤1000000000000000000)(hq:Qb q):Rp.fZ d q≤1000000000000000000:=by
 rw[tZ];exact gP (gP (gP (Nat.max_le.2 ⟨Nat.max_le.2 ⟨hd,gw hq.wh⟩,gw hq.gr⟩) hq.its) fun s hs=>gw (hq.fr s hs)) hq.od
theorem CQ:∀{l:List I.Kz} {d:Nat},d≤1000000000000000000→(∀q∈l,Qb q)→l.foldl Rp.fZ d≤1000000000000000000:=by
 intro l;induction l with
 |nil=>intro d h _;exact h
 |cons a l ih=>intro d h hl;exact ih (Bz h (hl a List.mem_cons_self)) fun q hq=>hl q (List.mem_cons_of_mem _ hq)
theorem AP{d:Nat}{l:List I.Kz}{k:Nat}{x:I.Kz}(h:l[k]?=some x):(l.take (k+1)).foldl Rp.fZ d=Rp.fZ ((l.take k).foldl Rp.fZ d) x:=by
 rw[List.take_add_one,h,List.foldl_append];rfl
theorem uf(w:World)(cs:List Value)(s:I.Km)(hs:NN s)(hx:aB.R w (fun b=>b<w.heap.size) cs s):Calls Tryz.prog 31 #[.agg cs.toArray] w fun e w'=>e=.returned (.i ((Rp.fL s:Nat):Int))∧Below w.heap.size w w':=by
 have HS:=aa hs;clear hs;obtain⟨v5,v6,v7,v8,v9,v10,rfl,p5,p6,p7,p8,p9,QP,_,_,_,_⟩:=hx;obtain⟨A5,c5,rfl,_,_⟩:=p5.form;obtain⟨A6,c6,rfl,_,_⟩:=p6.form;obtain⟨A7,c7,rfl,_,_⟩:=p7.form;obtain⟨A8,c8,rfl,_,_⟩:=p8.form;obtain⟨A9,c9,rfl,_,_⟩:=p9.form;obtain⟨NV,c10,rfl,_,_⟩:=QP.form;show Calls Tryz.prog 31 #[.agg #[.u (s.k.toNat:Int),.s (I.bs s.nm),.s (I.bs s.on),.s (I.bs s.aF),.u (s.ev.toNat:Int),.slice A5 s.Kv.length c5,.slice A6 s.q.length c6,.slice A7 s.vals.length c7,.slice A8 s.bu.length c8,.slice A9 s.wh.length c9,.slice NV s.pv.length c10,.bool s.opt,.s (I.bs s.key)]] w _;rw[vp];obtain⟨w1,hw1⟩:=aab (w.alloc (.cells #[.u (s.k.toNat:Int),.s (I.bs s.nm),.s (I.bs s.on),.s (I.bs s.aF),.u (s.ev.toNat:Int),.slice A5 s.Kv.length c5,.slice A6 s.q.length c6,.slice A7 s.vals.length c7,.slice A8 s.bu.length c8,.slice A9 s.wh.length c9,.slice NV s.pv.length c10,.bool s.opt,.s (I.bs s.key)] 30));have HG:Hid (Kn w1 w.heap.size 30 #[.u (s.k.toNat:Int),.s (I.bs s.nm),.s (I.bs s.on),.s (I.bs s.aF),.u (s.ev.toNat:Int),.slice A5 s.Kv.length c5,.slice A6 s.q.length c6,.slice A7 s.vals.length c7,.slice A8 s.bu.length c8,.slice A9 s.wh.length c9,.slice NV s.pv.length c10,.bool s.opt,.s (I.bs s.key)]):=by rw[hw1];exact Kn.new w _ _
 have HB:Hid (Below w.heap.size w w1):=by rw[hw1];exact(Below.refl _ _).alloc (Nat.le_refl _) _
 have HB0:=aa (Below.refl w1.heap.size w1);have P5:=aa (p5.up HB.o);have P6:=aa (p6.up HB.o);have P7:=aa (p7.up HB.o);have P8:=aa (p8.up HB.o);have P9:=aa (p9.up HB.o);clear p5 p6 p7 p8 p9 QP;have D9:=aa (gw HS.o.wh);have D5:Hid (∀c∈s.Kv,Rp.deep c.ck≤1000000000000000000):=fun c hc=>gw (HS.o.Kv c hc)
 have D7:Hid (∀l∈s.vals,Rp.deep l≤1000000000000000000):=fun l hl=>gw (HS.o.vals l hl)
 have D8:Hid (∀t∈s.bu,I.depth t.x≤1000000000000000000):=HS.o.bu;go_enter Tryz.func31,Tryz.ntmps31;go_upto_region 1 with fail
 rw[←hw1];clear hw1;have x9:=HG.o.cell 9;simp at x9;go_wp2_with fail
 with_reducible refine(gJ w1 _ s.wh HS.o.wh P9.o).mono ?_
 rintro e w2 ⟨rfl,hb2⟩;have Ko:=aa (HB0.o.trans (hb2.mono HB0.o.size));clear hb2 HB0 x9;obtain⟨E0,hE0⟩:=aab (Rp.deep s.wh);have DL0:Hid (E0≤1000000000000000000):=by show E0≤_;rw[hE0];exact D9.o
 rw[←hE0];have HEn0:=aa hE0;clear hE0;go_wp2_with fail
 go_loopg [3,4] s.Kv.length (fun gg mo ix wr=>∃k:Nat,k≤s.Kv.length∧gg=s.Kv.length-k∧ix=.i (k:Int)∧mo=.i ((Mr (fun c:I.Ky=>Rp.deep c.ck) E0 (s.Kv.take k):Nat):Int)∧Hid (Below w1.heap.size w1 wr));case atStart=>exact⟨0,by omega,by omega,rfl,rfl,Ko⟩
 case round=>
  obtain⟨k1,hkl,rfl,rfl,rfl,KF⟩:=hrel;obtain⟨Ol,hw⟩:=aab wr;subst hw;clear Ko;have Ko:=KF;clear KF;by_cases hlt:k1<s.Kv.length
  ·obtain⟨g,off,c2,y,cs,hv,q1,q2,hg,hi,hr,hl,hra⟩:=((P5.o).up Ko.o).range hlt;injection hv with e1 e2 e3
   subst e1 e3;clear e2 q1 q2;have Lz:=aa (HG.o.below Ko.o (by have:=HG.o.lt;omega));have x5:=Lz.o.cell 5;simp at x5;clear Lz;have t1:decide ((k1:Int)<(s.Kv.length:Int))=true:=decide_eq_true (by omega);have q2:(k1:Int)<(s.Kv.length:Int):=by omega
   have HT:=aa (kQ (f:=(fun c:I.Ky=>Rp.deep c.ck)) (d:=E0) hi);have hle:=gT (f:=(fun c:I.Ky=>Rp.deep c.ck)) (k:=k1) (l:=s.Kv) DL0.o D5.o;have OL:=D5.o y (List.mem_of_getElem? hi);rw[show dC.k=8 from rfl]at hra;obtain⟨vv,rfl,hvv,_,_⟩:=hr;obtain⟨AX,cX,rfl,_,_⟩:=hvv.form;have HR:=aa hvv;have n5:=hra 5 _ rfl;have HM:=aa (List.mem_of_getElem? hi);clear hra hl hi hvv;obtain⟨D0,hD0⟩:∃n,n=Mr (fun c:I.Ky=>Rp.deep c.ck) E0 (s.Kv.take k1):=⟨_,rfl⟩;obtain⟨D1,hD1⟩:=aab (Rp.deep y.ck);have cc:=gJ Ol _ y.ck (HS.o.Kv y HM.o) HR.o;replace cc:Calls Tryz.prog 78 #[.slice AX y.ck.length cX] Ol fun e w'=>e=.returned (.i ((Rp.deep y.ck:Nat):Int))∧Below Ol.heap.size Ol w':=cc
   rw[←hD1]at cc;rw[←hD0]at HT hle⊢;rw[←hD1]at HT OL;have CC:=aa cc;clear cc hD0 hD1;go_wp2_with fail
   with_reducible refine CC.o.mono ?_
   rintro e w3 ⟨rfl,hb3⟩;have HB3:=aa (Ko.o.trans (hb3.mono Ko.o.size));clear hb3 CC;go_wp2_with fail
   all_goals
    go_roundg (s.Kv.length-(k1+1))
    case measure=>omega
    case rel=>exact⟨k1+1,by omega,rfl,by go_num,by rw[HT.o,Nat.max_def];congr 1;split<;>first|omega|(split<;>omega)|(simp only[Nat.max_def];split<;>omega),HB3⟩
  ·have hk2:k1=s.Kv.length:=by omega
   have HE:=aa (jc (f:=(fun c:I.Ky=>Rp.deep c.ck)) (d:=E0) (l:=s.Kv) hk2);have t1:decide ((k1:Int)<(s.Kv.length:Int))=false:=decide_eq_false (by omega);have q2:¬(k1:Int)<(s.Kv.length:Int):=by omega
   have Lz:=aa (HG.o.below Ko.o (by have:=HG.o.lt;omega));have x5:=Lz.o.cell 5;simp at x5;clear Lz;rw[HE.o];clear hk2;obtain⟨E1,hE1⟩:∃n,n=(Mr (fun c:I.Ky=>Rp.deep c.ck) E0 s.Kv):=⟨_,rfl⟩;have DL1:Hid (E1≤1000000000000000000):=by show E1≤_;rw[hE1];exact gP DL0.o D5.o
   rw[←hE1];have HEn1:=aa hE1;clear hE1;go_wp2_with fail
   go_loopg [3,5] s.vals.length (fun gg mo ix wr=>∃k:Nat,k≤s.vals.length∧gg=s.vals.length-k∧ix=.i (k:Int)∧mo=.i ((Mr (fun l:List Ev.Ex=>Rp.deep l) E1 (s.vals.take k):Nat):Int)∧Hid (Below w1.heap.size w1 wr));case atStart=>exact⟨0,by omega,by omega,rfl,rfl,Ko⟩
   case round=>
    obtain⟨k2,hkl,rfl,rfl,rfl,KF⟩:=hrel;obtain⟨NU,hw⟩:=aab wr;subst hw;clear Ko;have Ko:=KF;clear KF;by_cases hlt:k2<s.vals.length
    ·obtain⟨g,off,c2,y,cs,hv,q1,q2,hg,hi,hr,hl,hra⟩:=((P7.o).up Ko.o).range hlt;injection hv with e1 e2 e3
     subst e1 e3;clear e2 q1 q2;have Lz:=aa (HG.o.below Ko.o (by have:=HG.o.lt;omega));have x7:=Lz.o.cell 7;simp at x7;clear Lz;have t1:decide ((k2:Int)<(s.vals.length:Int))=true:=decide_eq_true (by omega);have q2:(k2:Int)<(s.vals.length:Int):=by omega
     have HT:=aa (kQ (f:=(fun l:List Ev.Ex=>Rp.deep l)) (d:=E1) hi);have hle:=gT (f:=(fun l:List Ev.Ex=>Rp.deep l)) (k:=k2) (l:=s.vals) DL1.o D7.o;have OL:=D7.o y (List.mem_of_getElem? hi);rw[show dM.k=1 from rfl]at hra;obtain⟨vv,rfl,hvv⟩:=hr;obtain⟨AX,cX,rfl,_,_⟩:=hvv.form;have HR:=aa hvv;have n5:=hra 0 _ rfl;simp only[Nat.add_zero,Nat.mul_one]at n5;have HM:=aa (List.mem_of_getElem? hi);clear hra hl hi hvv;obtain⟨D0,hD0⟩:∃n,n=Mr (fun l:List Ev.Ex=>Rp.deep l) E1 (s.vals.take k2):=⟨_,rfl⟩;obtain⟨D1,hD1⟩:=aab (Rp.deep y);have cc:=gJ NU _ y (HS.o.vals y HM.o) HR.o;replace cc:Calls Tryz.prog 78 #[.slice AX y.length cX] NU fun e w'=>e=.returned (.i ((Rp.deep y:Nat):Int))∧Below NU.heap.size NU w':=cc
     rw[←hD1]at cc;rw[←hD0]at HT hle⊢;rw[←hD1]at HT OL;have CC:=aa cc;clear cc hD0 hD1;go_wp2_with fail
     with_reducible refine CC.o.mono ?_
     rintro e w3 ⟨rfl,hb3⟩;have HB3:=aa (Ko.o.trans (hb3.mono Ko.o.size));clear hb3 CC;go_wp2_with fail
     all_goals
      go_roundg (s.vals.length-(k2+1))
      case measure=>omega
      case rel=>exact⟨k2+1,by omega,rfl,by go_num,by rw[HT.o,Nat.max_def];congr 1;split<;>first|omega|(split<;>omega)|(simp only[Nat.max_def];split<;>omega),HB3⟩
    ·have hk2:k2=s.vals.length:=by omega
     have HE:=aa (jc (f:=(fun l:List Ev.Ex=>Rp.deep l)) (d:=E1) (l:=s.vals) hk2);have t1:decide ((k2:Int)<(s.vals.length:Int))=false:=decide_eq_false (by omega);have q2:¬(k2:Int)<(s.vals.length:Int):=by omega
     have Lz:=aa (HG.o.below Ko.o (by have:=HG.o.lt;omega));have x7:=Lz.o.cell 7;simp at x7;clear Lz;rw[HE.o];clear hk2;obtain⟨E2,hE2⟩:∃n,n=(Mr (fun l:List Ev.Ex=>Rp.deep l) E1 s.vals):=⟨_,rfl⟩;have DL2:Hid (E2≤1000000000000000000):=by show E2≤_;rw[hE2];exact gP DL1.o D7.o
     rw[←hE2];have HEn2:=aa hE2;clear hE2;go_wp2_with fail
     go_loopg [3,6] s.bu.length (fun gg mo ix wr=>∃k:Nat,k≤s.bu.length∧gg=s.bu.length-k∧ix=.i (k:Int)∧mo=.i ((Mr (fun x:I.La=>I.depth x.x) E2 (s.bu.take k):Nat):Int)∧Hid (Below w1.heap.size w1 wr));case atStart=>exact⟨0,by omega,by omega,rfl,rfl,Ko⟩
     case round=>
      obtain⟨k3,hkl,rfl,rfl,rfl,KF⟩:=hrel;obtain⟨RO,hw⟩:=aab wr;subst hw;clear Ko;have Ko:=KF;clear KF;by_cases hlt:k3<s.bu.length
      ·obtain⟨g,off,c2,y,cs,hv,q1,q2,hg,hi,hr,hl,hra⟩:=((P8.o).up Ko.o).range hlt;injection hv with e1 e2 e3
       subst e1 e3;clear e2 q1 q2;have Lz:=aa (HG.o.below Ko.o (by have:=HG.o.lt;omega));have x8:=Lz.o.cell 8;simp at x8;clear Lz;have t1:decide ((k3:Int)<(s.bu.length:Int))=true:=decide_eq_true (by omega);have q2:(k3:Int)<(s.bu.length:Int):=by omega
       have HT:=aa (kQ (f:=(fun x:I.La=>I.depth x.x)) (d:=E2) hi);have hle:=gT (f:=(fun x:I.La=>I.depth x.x)) (k:=k3) (l:=s.bu) DL2.o D8.o;have OL:=D8.o y (List.mem_of_getElem? hi);rw[show dG.k=9 from rfl]at hra;obtain⟨ce,rfl,Ri,_⟩:=hr;have lx:ce.length=8:=Kr.len Ri;have HR:=aa Ri;have IX:=aa (show(Tryz.prog.info? 50).map (·.size)=some ce.length by rw[lx];exact cV);have MZ:=aa (rangeAt.right (l:=[_]) hra (n:=1) rfl);clear hra hl hi Ri lx;obtain⟨D0,hD0⟩:∃n,n=Mr (fun x:I.La=>I.depth x.x) E2 (s.bu.take k3):=⟨_,rfl⟩;obtain⟨D1,hD1⟩:=aab (I.depth y.x);have cc:=jq RO ce y.x OL HR.o;replace cc:Calls Tryz.prog 16 #[.agg ce.toArray] RO fun e w'=>e=.returned (.i ((I.depth y.x:Nat):Int))∧Below RO.heap.size RO w':=cc
       rw[←hD1]at cc;rw[←hD0]at HT hle⊢;rw[←hD1]at HT OL;have CC:=aa cc;clear cc hD0 hD1;go_wp2_with (refine wpList_load_mid rfl 50 (.tmp 58) rfl g (off+k3*9+1) rfl ce _ MZ.o hJ rfl IX.o ?_)
       with_reducible refine CC.o.mono ?_
       rintro e w3 ⟨rfl,hb3⟩;have HB3:=aa (Ko.o.trans (hb3.mono Ko.o.size));clear hb3 CC;go_wp2_with fail
       all_goals
        go_roundg (s.bu.length-(k3+1))
        case measure=>omega
        case rel=>exact⟨k3+1,by omega,rfl,by go_num,by rw[HT.o,Nat.max_def];congr 1;split<;>first|omega|(split<;>omega)|(simp only[Nat.max_def];split<;>omega),HB3⟩
      ·have hk2:k3=s.bu.length:=by omega
       have HE:=aa (jc (f:=(fun x:I.La=>I.depth x.x)) (d:=E2) (l:=s.bu) hk2);have t1:decide ((k3:Int)<(s.bu.length:Int))=false:=decide_eq_false (by omega);have q2:¬(k3:Int)<(s.bu.length:Int):=by omega
       have Lz:=aa (HG.o.below Ko.o (by have:=HG.o.lt;omega));have x8:=Lz.o.cell 8;simp at x8;clear Lz;rw[HE.o];clear hk2;obtain⟨E3,Ye⟩:∃n,n=(Mr (fun x:I.La=>I.depth x.x) E2 s.bu):=⟨_,rfl⟩;have DL3:Hid (E3≤1000000000000000000):=by show E3≤_;rw[Ye];exact gP DL2.o D8.o
       rw[←Ye];have HEn3:=aa Ye;clear Ye;go_wp2_with fail
       go_loopg [3,7] s.q.length (fun gg mo ix wr=>∃k:Nat,k≤s.q.length∧gg=s.q.length-k∧ix=.i (k:Int)∧mo=.i (((s.q.take k).foldl Rp.fZ E3:Nat):Int)∧Hid (Below w1.heap.size w1 wr));case atStart=>exact⟨0,by omega,by omega,rfl,rfl,Ko⟩
       case round=>
        obtain⟨k4,hkl,rfl,rfl,rfl,KF⟩:=hrel;obtain⟨W6,hw⟩:=aab wr;subst hw;clear Ko;have Ko:=KF;clear KF;by_cases hlt:k4<s.q.length
        ·obtain⟨g,off,c2,y,cs,hv,q1,q2,hg,hi,hr,hl,hra⟩:=(P6.o.up Ko.o).range hlt;injection hv with e1 e2 e3
         subst e1 e3;clear e2 q1 q2;have Lz:=aa (HG.o.below Ko.o (by have:=HG.o.lt;omega));have x6:=Lz.o.cell 6;simp at x6;clear Lz;have t1:decide ((k4:Int)<(s.q.length:Int))=true:=decide_eq_true (by omega);have q2:(k4:Int)<(s.q.length:Int):=by omega
         have HT:=aa (AP (d:=E3) hi);have Tl:=aa (HS.o.q y (List.mem_of_getElem? hi));have hle:(s.q.take k4).foldl Rp.fZ E3≤1000000000000000000:=CQ DL3.o fun q hq=>HS.o.q q (List.mem_of_mem_take hq)
         obtain⟨D0,hD0⟩:=aab ((s.q.take k4).foldl Rp.fZ E3);rw[←hD0]at HT hle⊢;clear hD0;have IQ:=aa (show(Tryz.prog.info? 45).map (·.size)=some cs.length by rw[hl];exact kT);rw[show eB.k=7 from rfl]at hra;obtain⟨u1,u2,u3,u4,u5,rfl,r1,r2,r3,r4,r5,_,_⟩:=hr;obtain⟨B1,d1,rfl,_,_⟩:=r1.form;obtain⟨B2,d2,rfl,_,_⟩:=r2.form;obtain⟨B3,d3,rfl,_,_⟩:=r3.form;obtain⟨B4,d4,rfl,_,_⟩:=r4.form;obtain⟨B5,d5,rfl,_,_⟩:=r5.form;have MZ:=aa hra;clear hra hl hi;obtain⟨w5,NH⟩:=aab (W6.alloc (.cells #[.bool y.all,.slice B1 y.its.length d1,.slice B2 y.fr.length d2,.slice B3 y.wh.length d3,.slice B4 y.gr.length d4,.slice B5 y.od.length d5,.i y.lim] 45));obtain⟨gq,hgq⟩:=aab W6.heap.size;have Yf:Hid (Kn w5 gq 45 #[.bool y.all,.slice B1 y.its.length d1,.slice B2 y.fr.length d2,.slice B3 y.wh.length d3,.slice B4 y.gr.length d4,.slice B5 y.od.length d5,.i y.lim]):=by rw[NH,hgq];exact Kn.new W6 _ _
         have UF:Hid (Below W6.heap.size W6 w5):=by rw[NH];exact(Below.refl _ _).alloc (Nat.le_refl _) _
         have Q1:=aa (r1.up UF.o);have Q2:=aa (r2.up UF.o);have Q3:=aa (r3.up UF.o);have Q4:=aa (r4.up UF.o);have Q5:=aa (r5.up UF.o);clear r1 r2 r3 r4 r5;go_upto_region 18 with(refine wpList_load_mid rfl 45 (.tmp 72) rfl g (off+k4*7) rfl [.bool y.all,.slice B1 y.its.length d1,.slice B2 y.fr.length d2,.slice B3 y.wh.length d3,.slice B4 y.gr.length d4,.slice B5 y.od.length d5,.i y.lim] _ MZ.o vW rfl IQ.o ?_)
         rw[←NH,←hgq];have OD:=aa (Ko.o.trans (UF.o.mono Ko.o.size));have bQ:=Yf.o.lt;clear NH hgq Ko MZ IQ x6 UF;obtain⟨y3,y4⟩:=Yf.o.y2 3 4;simp at y3 y4;obtain⟨Dw,hDw⟩:=aab (Rp.deep y.wh);obtain⟨Dg,hDg⟩:=aab (Rp.deep y.gr);have lw:Dw≤1000000000000000000:=by rw[hDw];exact gw Tl.o.wh
         have lg:Dg≤1000000000000000000:=by rw[hDg];exact gw Tl.o.gr
         have HDw:=aa hDw;have Tm:=aa hDg;clear hDw hDg;obtain⟨F0,hF0⟩:=aab (max (max D0 Dw) Dg);have FL0:Hid (F0≤1000000000000000000):=by show F0≤_;rw[hF0];exact Nat.max_le.2 ⟨Nat.max_le.2 ⟨hle,lw⟩,lg⟩
         have SG:=aa hF0;clear hF0;have hTs:=kG (l:=[(3,NT),(6,NT)]) (fun p hp=>by
          simp only[List.mem_cons,List.not_mem_nil,or_false]at hp
          rcases hp with rfl|rfl
          ·exact NT.uO
          ·exact NT.uO)
         have hSs:=po (l:=[(3,NS (.i (Dw:Int))),(6,NS (.i (Dg:Int)))]) (fun p hp=>by
          simp only[List.mem_cons,List.not_mem_nil,or_false]at hp
          rcases hp with rfl|rfl
          ·exact NS.some _
          ·exact NS.some _)
         have HTs:=aa hTs;have HSs:=aa hSs;clear hTs hSs;refine bo (tab [(3,NT),(6,NT)]) (Up w5) (w5.heap.size) 9 (Pl [(3,NS (.i (Dw:Int))),(6,NS (.i (Dg:Int)))]) (HSs.o) (HTs.o) (Up.ek _) Na (Na.turns (Up.ek _) (HTs.o)) (by kernel_rfl) (by kernel_rfl) (Up.start _) (Nat.le_refl _) ?_;simp only[List.take_succ_cons,List.take_zero,List.drop_succ_cons,List.drop_zero];iterate 3 (refine aw ?_ rfl rfl (fun w' hS=>?_) ?_;rotate_left;(first|(go_simp;rfl)|(have l0:=(hS.cell (p:=⟨gq,3,none⟩) bQ).trans y3;go_simp;rfl));go_frame)
         refine' cq _ _ _ rfl rfl (fun w'=>?_) (fun w' hS hh hs=>?_) (fun v3 h3=>?_);rotate_left 2
         ·go_simp;constructor<;>rfl
         ·have cc:=gJ w' _ y.wh Tl.o.wh (Q3.o.up hS);refine cc.mono ?_;rintro e w9 ⟨rfl,hb⟩;exact⟨_,rfl,⟨by rw[←HDw.o];rfl,trivial⟩,hb⟩
         obtain rfl:=h3;go_frame;iterate 2 (refine aw ?_ rfl rfl (fun w' hS=>?_) ?_;rotate_left;(first|(go_simp;rfl)|(have l0:=(hS.cell (p:=⟨gq,4,none⟩) bQ).trans y4;go_simp;rfl));go_frame)
         refine' cq _ _ _ rfl rfl (fun w'=>?_) (fun w' hS hh hs=>?_) (fun v6 h6=>?_);rotate_left 2
         ·go_simp;constructor<;>rfl
         ·have cc:=gJ w' _ y.gr Tl.o.gr (Q4.o.up hS);refine cc.mono ?_;rintro e w9 ⟨rfl,hb⟩;exact⟨_,rfl,⟨by rw[←Tm.o];rfl,trivial⟩,hb⟩
         obtain rfl:=h6;go_frame;refine aw (.i (F0:Int)) rfl rfl (fun w' hS=>?_) ?_
         ·have e0:=SG.o;clear SG;go_simp;repeat' split
          all_goals first|rfl|omega|(exfalso;omega)
         go_frame;refine aw ?_ rfl rfl (fun w' hS=>?_) ?_;rotate_left
         ·go_simp;rfl
         go_frame;refine cJ fun w2 hH=>?_
         have hup:Below w5.heap.size w5 w2:=hH.s;have Ko:=aa (OD.o.trans (hup.mono OD.o.size));have QF:=aa (Yf.o.below hup bQ);clear hH OD y3 y4 Yf;have Wn:=aa Ko.o;obtain⟨w6,Nl⟩:=aab w2;subst Nl;have M0:=aa (Below.refl w6.heap.size w6);have Q1':=aa ((Q1.o.up hup).up (Below.refl _ _));have Q2':=aa (Q2.o.up hup);have Q5':=aa (Q5.o.up hup);clear Ko Q1 Q2 Q3 Q4 Q5 hup;have DI:Hid (∀i∈y.its,I.depth i.x≤1000000000000000000):=Tl.o.its;have DF:Hid (∀s∈y.fr,Rp.deep s.on≤1000000000000000000):=fun s hs=>gw (Tl.o.fr s hs)
         have DO:Hid (∀o∈y.od,I.depth o.x≤1000000000000000000):=Tl.o.od;go_wp2_with fail
         go_loopg [3,9] y.its.length (fun gg mo ix wr=>∃k:Nat,k≤y.its.length∧gg=y.its.length-k∧ix=.i (k:Int)∧mo=.i ((Mr (fun i:I.LL=>I.depth i.x) F0 (y.its.take k):Nat):Int)∧Hid (Below w6.heap.size w6 wr));case atStart=>exact⟨0,by omega,by omega,rfl,rfl,M0⟩
         case round=>
          obtain⟨k5,hkl,rfl,rfl,rfl,KF⟩:=hrel;obtain⟨Yg,hw⟩:=aab wr;subst hw;clear M0;have M0:=KF;clear KF;by_cases hlt:k5<y.its.length
          ·obtain⟨g,off,c2,y',cs,hv,q1,q2,hg,hi,hr,hl,hra⟩:=((Q1'.o).up M0.o).range hlt;injection hv with e1 e2 e3
           subst e1 e3;clear e2 q1 q2;have Lz:=aa (QF.o.below M0.o (by have:=QF.o.lt;omega));have x1:=Lz.o.cell 1;simp at x1;clear Lz;have t1:decide ((k5:Int)<(y.its.length:Int))=true:=decide_eq_true (by omega);have q2:(k5:Int)<(y.its.length:Int):=by omega
           have HT:=aa (kQ (f:=(fun i:I.LL=>I.depth i.x)) (d:=F0) hi);have hle:=gT (f:=(fun i:I.LL=>I.depth i.x)) (k:=k5) (l:=y.its) FL0.o DI.o;have OL:=DI.o y' (List.mem_of_getElem? hi);rw[show cS.k=9 from rfl]at hra;obtain⟨ce,rfl,Ri,_⟩:=hr;have lx:ce.length=8:=Kr.len Ri;have HR:=aa Ri;have IX:=aa (show(Tryz.prog.info? 50).map (·.size)=some ce.length by rw[lx];exact cV);have MZ:=aa (rangeAt.left hra);clear hra hl hi Ri lx;obtain⟨D0,hD0⟩:∃n,n=Mr (fun i:I.LL=>I.depth i.x) F0 (y.its.take k5):=⟨_,rfl⟩;obtain⟨D1,hD1⟩:=aab (I.depth y'.x);have cc:=jq Yg ce y'.x OL HR.o;replace cc:Calls Tryz.prog 16 #[.agg ce.toArray] Yg fun e w'=>e=.returned (.i ((I.depth y'.x:Nat):Int))∧Below Yg.heap.size Yg w':=cc
           rw[←hD1]at cc;rw[←hD0]at HT hle⊢;rw[←hD1]at HT OL;have CC:=aa cc;clear cc hD0 hD1;go_wp2_with (refine wpList_load_mid rfl 50 (.tmp 94) rfl g (off+k5*9) rfl ce _ MZ.o hJ rfl IX.o ?_)
           with_reducible refine CC.o.mono ?_
           rintro e w3 ⟨rfl,hb3⟩;have HB3:=aa (M0.o.trans (hb3.mono M0.o.size));clear hb3 CC;go_wp2_with fail
           all_goals
            go_roundg (y.its.length-(k5+1))
            case measure=>omega
            case rel=>exact⟨k5+1,by omega,rfl,by go_num,by rw[HT.o,Nat.max_def];congr 1;split<;>first|omega|(split<;>omega)|(simp only[Nat.max_def];split<;>omega),HB3⟩
          ·have hk2:k5=y.its.length:=by omega
           have HE:=aa (jc (f:=(fun i:I.LL=>I.depth i.x)) (d:=F0) (l:=y.its) hk2);have t1:decide ((k5:Int)<(y.its.length:Int))=false:=decide_eq_false (by omega);have q2:¬(k5:Int)<(y.its.length:Int):=by omega
           have Lz:=aa (QF.o.below M0.o (by have:=QF.o.lt;omega));have x1:=Lz.o.cell 1;simp at x1;clear Lz;rw[HE.o];clear hk2;obtain⟨F1,hF1⟩:∃n,n=(Mr (fun i:I.LL=>I.depth i.x) F0 y.its):=⟨_,rfl⟩;have FL1:Hid (F1≤1000000000000000000):=by show F1≤_;rw[hF1];exact gP FL0.o DI.o
           rw[←hF1];have NC:=aa hF1;clear hF1;go_wp2_with fail
           go_loopg [3,10] y.fr.length (fun gg mo ix wr=>∃k:Nat,k≤y.fr.length∧gg=y.fr.length-k∧ix=.i (k:Int)∧mo=.i ((Mr (fun s:I.Src=>Rp.deep s.on) F1 (y.fr.take k):Nat):Int)∧Hid (Below w6.heap.size w6 wr));case atStart=>exact⟨0,by omega,by omega,rfl,rfl,M0⟩
           case round=>
            obtain⟨k6,hkl,rfl,rfl,rfl,KF⟩:=hrel;obtain⟨Yh,hw⟩:=aab wr;subst hw;clear M0;have M0:=KF;clear KF;by_cases hlt:k6<y.fr.length
            ·obtain⟨g,off,c2,y',cs,hv,q1,q2,hg,hi,hr,hl,hra⟩:=((Q2'.o).up M0.o).range hlt;injection hv with e1 e2 e3
             subst e1 e3;clear e2 q1 q2;have Lz:=aa (QF.o.below M0.o (by have:=QF.o.lt;omega));have x2:=Lz.o.cell 2;simp at x2;clear Lz;have t1:decide ((k6:Int)<(y.fr.length:Int))=true:=decide_eq_true (by omega);have q2:(k6:Int)<(y.fr.length:Int):=by omega
             have HT:=aa (kQ (f:=(fun s:I.Src=>Rp.deep s.on)) (d:=F1) hi);have hle:=gT (f:=(fun s:I.Src=>Rp.deep s.on)) (k:=k6) (l:=y.fr) FL1.o DF.o;have OL:=DF.o y' (List.mem_of_getElem? hi);rw[show bV.k=3 from rfl]at hra;obtain⟨vv,rfl,hvv,_,_⟩:=hr;obtain⟨AX,cX,rfl,_,_⟩:=hvv.form;have HR:=aa hvv;have n5:=hra 2 _ rfl;have HM:=aa (List.mem_of_getElem? hi);clear hra hl hi hvv;obtain⟨D0,hD0⟩:∃n,n=Mr (fun s:I.Src=>Rp.deep s.on) F1 (y.fr.take k6):=⟨_,rfl⟩;obtain⟨D1,hD1⟩:=aab (Rp.deep y'.on);have cc:=gJ Yh _ y'.on (Tl.o.fr y' HM.o) HR.o;replace cc:Calls Tryz.prog 78 #[.slice AX y'.on.length cX] Yh fun e w'=>e=.returned (.i ((Rp.deep y'.on:Nat):Int))∧Below Yh.heap.size Yh w':=cc
             rw[←hD1]at cc;rw[←hD0]at HT hle⊢;rw[←hD1]at HT OL;have CC:=aa cc;clear cc hD0 hD1;go_wp2_with fail
             with_reducible refine CC.o.mono ?_
             rintro e w3 ⟨rfl,hb3⟩;have HB3:=aa (M0.o.trans (hb3.mono M0.o.size));clear hb3 CC;go_wp2_with fail
             all_goals
              go_roundg (y.fr.length-(k6+1))
              case measure=>omega
              case rel=>exact⟨k6+1,by omega,rfl,by go_num,by rw[HT.o,Nat.max_def];congr 1;split<;>first|omega|(split<;>omega)|(simp only[Nat.max_def];split<;>omega),HB3⟩
            ·have hk2:k6=y.fr.length:=by omega
             have HE:=aa (jc (f:=(fun s:I.Src=>Rp.deep s.on)) (d:=F1) (l:=y.fr) hk2);have t1:decide ((k6:Int)<(y.fr.length:Int))=false:=decide_eq_false (by omega);have q2:¬(k6:Int)<(y.fr.length:Int):=by omega
             have Lz:=aa (QF.o.below M0.o (by have:=QF.o.lt;omega));have x2:=Lz.o.cell 2;simp at x2;clear Lz;rw[HE.o];clear hk2;obtain⟨F2,hF2⟩:∃n,n=(Mr (fun s:I.Src=>Rp.deep s.on) F1 y.fr):=⟨_,rfl⟩;have FL2:Hid (F2≤1000000000000000000):=by show F2≤_;rw[hF2];exact gP FL1.o DF.o
             rw[←hF2];have LA:=aa hF2;clear hF2;go_wp2_with fail
             go_loopg [3,11] y.od.length (fun gg mo ix wr=>∃k:Nat,k≤y.od.length∧gg=y.od.length-k∧ix=.i (k:Int)∧mo=.i ((Mr (fun o:I.Ord=>I.depth o.x) F2 (y.od.take k):Nat):Int)∧Hid (Below w6.heap.size w6 wr));case atStart=>exact⟨0,by omega,by omega,rfl,rfl,M0⟩
             case round=>
              obtain⟨k7,hkl,rfl,rfl,rfl,KF⟩:=hrel;obtain⟨Yi,hw⟩:=aab wr;subst hw;clear M0;have M0:=KF;clear KF;by_cases hlt:k7<y.od.length
              ·obtain⟨g,off,c2,y',cs,hv,q1,q2,hg,hi,hr,hl,hra⟩:=((Q5'.o).up M0.o).range hlt;injection hv with e1 e2 e3
               subst e1 e3;clear e2 q1 q2;have Lz:=aa (QF.o.below M0.o (by have:=QF.o.lt;omega));have x5:=Lz.o.cell 5;simp at x5;clear Lz;have t1:decide ((k7:Int)<(y.od.length:Int))=true:=decide_eq_true (by omega);have q2:(k7:Int)<(y.od.length:Int):=by omega
               have HT:=aa (kQ (f:=(fun o:I.Ord=>I.depth o.x)) (d:=F2) hi);have hle:=gT (f:=(fun o:I.Ord=>I.depth o.x)) (k:=k7) (l:=y.od) FL2.o DO.o;have OL:=DO.o y' (List.mem_of_getElem? hi);rw[show dx.k=9 from rfl]at hra;obtain⟨ce,rfl,Ri⟩:=hr;have lx:ce.length=8:=Kr.len Ri;have HR:=aa Ri;have IX:=aa (show(Tryz.prog.info? 50).map (·.size)=some ce.length by rw[lx];exact cV);have MZ:=aa (rangeAt.left hra);clear hra hl hi Ri lx;obtain⟨D0,hD0⟩:∃n,n=Mr (fun o:I.Ord=>I.depth o.x) F2 (y.od.take k7):=⟨_,rfl⟩;obtain⟨D1,hD1⟩:=aab (I.depth y'.x);have cc:=jq Yi ce y'.x OL HR.o;replace cc:Calls Tryz.prog 16 #[.agg ce.toArray] Yi fun e w'=>e=.returned (.i ((I.depth y'.x:Nat):Int))∧Below Yi.heap.size Yi w':=cc
               rw[←hD1]at cc;rw[←hD0]at HT hle⊢;rw[←hD1]at HT OL;have CC:=aa cc;clear cc hD0 hD1;go_wp2_with (refine wpList_load_mid rfl 50 (.tmp 126) rfl g (off+k7*9) rfl ce _ MZ.o hJ rfl IX.o ?_)
               with_reducible refine CC.o.mono ?_
               rintro e w3 ⟨rfl,hb3⟩;have HB3:=aa (M0.o.trans (hb3.mono M0.o.size));clear hb3 CC;go_wp2_with fail
               all_goals
                go_roundg (y.od.length-(k7+1))
                case measure=>omega
                case rel=>exact⟨k7+1,by omega,rfl,by go_num,by rw[HT.o,Nat.max_def];congr 1;split<;>first|omega|(split<;>omega)|(simp only[Nat.max_def];split<;>omega),HB3⟩
              ·have hk2:k7=y.od.length:=by omega
               have HE:=aa (jc (f:=(fun o:I.Ord=>I.depth o.x)) (d:=F2) (l:=y.od) hk2);have t1:decide ((k7:Int)<(y.od.length:Int))=false:=decide_eq_false (by omega);have q2:¬(k7:Int)<(y.od.length:Int):=by omega
               have Lz:=aa (QF.o.below M0.o (by have:=QF.o.lt;omega));have x5:=Lz.o.cell 5;simp at x5;clear Lz;rw[HE.o];clear hk2;obtain⟨F3,Yj⟩:∃n,n=(Mr (fun o:I.Ord=>I.depth o.x) F2 y.od):=⟨_,rfl⟩;have FL3:Hid (F3≤1000000000000000000):=by show F3≤_;rw[Yj];exact gP FL2.o DO.o
               rw[←Yj];have Ny:=aa Yj;clear Yj;have ND:=aa (Wn.o.trans (M0.o.mono Wn.o.size));have HZ:Hid (Rp.fZ D0 y=F3):=by show _=_;rw[tZ,Ny.o,LA.o,NC.o,SG.o,HDw.o,Tm.o]
               clear M0 Wn;go_wp2_with fail
               go_roundg (s.q.length-(k4+1));case measure=>omega
               case rel=>exact⟨k4+1,by omega,rfl,by go_num,by rw[HT.o,HZ.o],ND⟩
        ·have hk2:k4=s.q.length:=by omega
         have HE:=aa (show(s.q.take k4).foldl Rp.fZ E3=s.q.foldl Rp.fZ E3 by rw[hk2,List.take_length]);have t1:decide ((k4:Int)<(s.q.length:Int))=false:=decide_eq_false (by omega);have q2:¬(k4:Int)<(s.q.length:Int):=by omega
         have Lz:=aa (HG.o.below Ko.o (by have:=HG.o.lt;omega));have x6:=Lz.o.cell 6;simp at x6;clear Lz;rw[HE.o];clear hk2;go_wp2_with fail
         go_ret;exact⟨by rw[HEn3.o,HEn2.o,HEn1.o,HEn0.o];rfl,HB.o.trans (Ko.o.mono HB.o.size)⟩
end
structure Fl (g:Nat) (w0:World) (lo:Nat) (ow:bO) (its:List It) (Q:World→Prop) (w:World):Prop where
 fr:Fr g w0 ow [] Q w
 l1:w0.heap.size≤lo
 l2:lo≤w.heap.size
 lt:∀p∈ow,p.1<lo
 its:∀F∈its,F.P w (fun b=>w0.heap.size≤b∧b<lo∧∀p∈ow,p.1≠b)
section
variable{g lo:Nat}{w0 w w':World}{own:bO}{its:List It}{Q Q':World→Prop}
theorem Fl.start(h:Fr g w0 own its Q w):Fl g w0 w.heap.size own its Q w:=
 ⟨h.none,h.ch.size,Nat.le_refl _,fun p hp=>(h.own p hp).2.lt,fun F hF=>F.aR (fun _ hb=>hb) (fun _ _=>rfl) (h.its F hF)⟩
theorem Fl.gl(h:Fl g w0 lo own its Q w):g<lo:=Nat.lt_of_lt_of_le h.fr.lt h.l1
theorem Fl.q(h:Fl g w0 lo own its Q w):Q w:=h.fr.q
theorem Fl.call(h:Fl g w0 lo own its Q w)(hq:lu g Q' w')(hc:Ch g w.heap.size w w'):Fl g w0 lo own its Q' w':=
 ⟨h.fr.call hq hc,h.l1,Nat.le_trans h.l2 hc.size,h.lt,fun F hF=>F.aR (fun _ hb=>hb) (fun b hb=>hc.block b (by have:=hb.2.1;have:=h.l2;omega) (by have:=hb.1;have:=h.fr.lt;omega)) (h.its F hF)⟩
theorem Fl.tmp(h:Fl g w0 lo own its Q w)(o:Obj):Fl g w0 lo own its Q (w.alloc o):=
 ⟨h.fr.tmp o,h.l1,by have:=h.l2;simp;omega,h.lt,fun F hF=>F.aR (fun _ hb=>hb) (fun b hb=>Below.heap_alloc w o b (by have:=hb.2.1;have:=h.l2;omega)) (h.its F hF)⟩
theorem Fl.low(h:Fl g w0 lo own its Q w)(hb:Below lo w w'):Fl g w0 lo own its Q w':=
 ⟨h.fr.low hb h.gl h.l1 h.lt,h.l1,Nat.le_trans h.l2 hb.size,h.lt,fun F hF=>F.aR (fun _ hb=>hb) (fun b hk=>hb.block b hk.2.1) (h.its F hF)⟩
theorem Fl.aO{b:Nat}{t:TypeId}{cs:Array Value}(h:Fl g w0 lo ((b,t,cs)::own) its Q w)(i:Nat)(v:Value){cs':Array Value}(e:cs.setIfInBounds i v=cs'):Fl g w0 lo ((b,t,cs')::own) its Q (w.setCell ⟨b,i,none⟩ v):=by
 have hM:∀k,(w0.heap.size≤k∧k<lo∧∀p∈((b,t,cs)::own:bO),p.1≠k)→(w0.heap.size≤k∧k<lo∧∀p∈((b,t,cs')::own:bO),p.1≠k):=fun k hk=>⟨hk.1,hk.2.1,fun p hp=>by
  rcases List.mem_cons.1 hp with rfl|hp
  ·exact hk.2.2 (b,t,cs) List.mem_cons_self
  ·exact hk.2.2 p (List.mem_cons_of_mem _ hp)⟩
 refine⟨h.fr.aO i v e,h.l1,by have:=h.l2;simpa using this,fun p hp=>?_,fun F hF=>F.aR hM (fun k hk=>Below.heap_setCell w ⟨b,i,none⟩ v k (by have:=hk.2.2 (b,t,cs) List.mem_cons_self;exact fun e=>this e.symm)) (h.its F hF)⟩;rcases List.mem_cons.1 hp with rfl|hp
 ·exact h.lt (b,t,cs) List.mem_cons_self
 ·exact h.lt p (List.mem_cons_of_mem _ hp)
theorem Fl.done{α:Type}{E:El α}{v:Value}{xs:List α}(h:Fl g w0 lo own its Q w)(ho:Ro E w lo v xs):Fr g w0 own (It.rr E v xs::its) Q w:=by
 refine⟨h.fr.lt,h.fr.ps,h.fr.ch,h.fr.own,h.fr.nd,fun F hF=>?_⟩;rcases List.mem_cons.1 hF with rfl|hF
 ·exact ho.rr.hp (fun b hb=>⟨by have:=h.l1;omega,hb.2,fun p hp=>by have:=h.lt p hp;omega⟩) fun _ _=>rfl
 ·exact F.aR (fun b hb=>⟨hb.1,by have:=hb.2.1;have:=h.l2;omega,hb.2.2⟩) (fun _ _=>rfl) (h.its F hF)
theorem Fl.ab{b:Nat}{t:TypeId}{cs:Array Value}(h:Fl g w0 lo ((b,t,cs)::own) its Q w):Kn w b t cs:=h.fr.ab
end
def RSB(C:RC)(st:I.St)(w:World)(k:Nat):Prop:=
 Kn w C.g 79 #[.slice C.A C.ts.length C.c,.i (k:Int),.i (C.text.size:Int),.i (st.e:Int),.i (st.c:Int)]∧k≤C.ts.length∧(st.e=0→st.r=C.ts.drop k)∧(st.e≠0→st.r=[])
def KOk(ts:List Lex.Tok):Prop:=∀t∈ts,(t.1=1→Lex.word t.2.1=true)∧(t.1=5→Lex.cH t.2.1=false)
def RS(C:RC)(st:I.St)(w:World):Prop:=(∃k,RSB C st w k)∧Rd w C.g 3 C.A C.ts.length (cr C.ts)∧Qx w∧KOk C.ts
theorem RS.aJ{C:RC}{st:I.St}{w:World}(h:RS C st w):lu C.g (RS C st) w:=fun w' hk=>by
 obtain⟨⟨k,h1,h2⟩,h3,h4⟩:=h
 exact⟨⟨k,(hk C.g (Nat.le_refl _)).trans h1,h2⟩,h3.aR fun p hp=>World.cell?_of_block (hk p.block (by omega)),h4.1.aR fun b o hb=>World.cell?_of_block (a:=⟨b,o,none⟩) (hk b (by have:=C.six;omega)),h4.2⟩
theorem RS.lt{C:RC}{st:I.St}{w:World}(h:RS C st w):C.g<w.heap.size:=by
 obtain⟨⟨k,h,_⟩,_⟩:=h;exact h.lt
theorem RS.below{C:RC}{st:I.St}{w w':World}(h:RS C st w)(hb:Below w.heap.size w w'):RS C st w':=(h.aJ.mv fun b hk=>hb.block b (by have:=h.lt;omega)).at
def I.dV(st:I.St):Lex.Tok:=match st.r with
 |[]=>(0,[],0)
 |t::_=>t
theorem RS.put{C:RC}{st st':I.St}{w w':World}{k':Nat}(h:RS C st w)(hc:Ch C.g (C.g+1) w w')(hb:RSB C st' w' k'):RS C st' w':=by
 obtain⟨_,h3,h4⟩:=h;exact⟨⟨k',hb⟩,h3.ch hc (by omega) (by omega),h4.1.aR fun b o hb'=>hc.cell (by have:=C.six;omega) (by have:=C.six;omega),h4.2⟩
theorem ma(C:RC)(st:I.St)(w:World)(h:RS C st w):
 Calls Tryz.prog 77 #[.p C.g] w fun e w'=>(∃x:Nat,e=.returned (.i (x:Int))∧(st.e=0→x=I.place C.text.size st))∧Below w.heap.size w w':=by
 have hS:=C.small;have hN:=C.ok.len;have hA:=aa C.ok.at_;have Kt:=h.lt;obtain⟨⟨k,hB,hk,hr,hr2⟩,hR,hU⟩:=h;have HR:=aa hR;have Hr:=aa hr;obtain⟨x0,x1,x2⟩:=hB.Y3;simp at x0 x1 x2;clear hB hR hU hr hr2;by_cases hlt:k<C.ts.length
 ·obtain⟨b,off,t,SV,hbl,hd,hm,c0,c1,c2⟩:=lQ HR.o hlt;have hat:=hA.o t hm;have HE:Hid (st.e=0→t.2.2=I.place C.text.size st):=by intro he;unfold I.place;rw[Hr.o he,hd]
  rw[SV]at x0;have q1:(0:Int)≤(k:Int):=by omega
  have q2:(k:Int)<(C.ts.length:Int):=by omega
  have t1:decide ((k:Int)<(C.ts.length:Int))=true:=decide_eq_true q2;clear hd hm hk hat SV;go_enter Tryz.func77,Tryz.ntmps77;go_wp2_with fail
  go_quiet (fail);go_wp2_with fail
  go_quiet (fail);go_wp2_with fail
  go_ret;exact⟨⟨_,rfl,HE.o⟩,below_drewN (below_drewN (Below.refl _ _) _) _⟩
 ·have HE:Hid (st.e=0→C.text.size=I.place C.text.size st):=by intro he;unfold I.place;rw[Hr.o he,List.drop_of_length_le (by omega)]
  have q2:¬(k:Int)<(C.ts.length:Int):=by omega
  have t1:decide ((k:Int)<(C.ts.length:Int))=false:=decide_eq_false q2;clear hk;go_enter Tryz.func77,Tryz.ntmps77;go_wp2_with fail
  go_quiet (fail);go_wp2_with fail
  go_ret;exact⟨⟨_,rfl,HE.o⟩,below_drewN (Below.refl _ _) _⟩
theorem I.EV(T n:Nat)(st:I.St)(he:st.e≠0)(hr:st.r=[]):I.fail T n st=st:=by
 unfold I.fail;rw[if_neg he];cases st;simp at hr;subst hr;rfl
theorem mC(C:RC)(n x:Nat)(hn:n≠0)(st st':I.St)(w:World)(h:RS C st w)(h0:st.e=0→st'=⟨[],n,x,st.d⟩)(h1:st.e≠0→st'=st)(y:Int)(hy:y=(n:Int)):
 Calls Tryz.prog 76 #[.p C.g,.i y,.i (x:Int)] w fun e w'=>e=.returned (.tuple #[])∧RS C st' w'∧Ch C.g w.heap.size w w':=by
 subst hy;have HP:=aa h;have H0:=aa h0;have H1:=aa h1;obtain⟨⟨k,hB,hk,hr,hr2⟩,hR,hU⟩:=h;have HB:=aa hB;have Hr:=aa hr;have Hk:=aa hk;obtain⟨x3,x4⟩:=hB.y2 3 4;simp at x3 x4;obtain⟨z3,z4⟩:=hB.z2 3 4;clear hB hr hr2 hR hU h0 h1 hk;by_cases he:st.e=0
 ·have t1:((st.e:Int)==0)=true:=by simp[he]
  have HZ:=aa (H0.o he);clear he;go_enter Tryz.func76,Tryz.ntmps76;go_wp2_with fail
  go_end0;refine⟨rfl,?_,?_⟩
  ·rw[HZ.o];exact HP.o.put (((Ch.refl C.g (C.g+1) w).set (p:=⟨C.g,3,none⟩) (.inl rfl) _).set (p:=⟨C.g,4,none⟩) (.inl rfl) _) (k':=k) ⟨by simpa using(HB.o.put 3 (.i (n:Int))).put 4 (.i (x:Int)),Hk.o,fun e=>absurd e hn,fun _=>rfl⟩
  ·exact((Ch.refl C.g w.heap.size w).set (p:=⟨C.g,3,none⟩) (.inl rfl) _).set (p:=⟨C.g,4,none⟩) (.inl rfl) _
 ·have t1:((st.e:Int)==0)=false:=by simp[he]
  have HZ:=aa (H1.o he);clear he;go_enter Tryz.func76,Tryz.ntmps76;go_wp2_with fail
  go_end0;exact⟨rfl,by rw[HZ.o];exact HP.o,Ch.refl _ _ _⟩
theorem pR(C:RC)(st:I.St)(w:World)(h:RS C st w):
 Calls Tryz.prog 30 #[.p C.g] w fun e w'=>e=.returned (.tuple #[])∧RS C (I.fail C.text.size 300 st) w'∧Ch C.g w.heap.size w w':=by
 have HP:=aa h;obtain⟨⟨k,_,_,_,hr2⟩,_,_⟩:=h;have Vy:=aa hr2;clear hr2;go_enter Tryz.func30,Tryz.ntmps30;go_wp2_with fail
 with_reducible refine(ma C st _ HP.o).mono ?_
 rintro e w1 ⟨⟨x,rfl,hx⟩,hb⟩;have HX:=aa hx;have KL:=aa (HP.o.below hb);have HB1:=aa hb;clear hx hb;go_wp2_with fail
 with_reducible refine(mC C 300 x (by decide) st (I.fail C.text.size 300 st) _ KL.o (fun he=>by unfold I.fail;rw[if_pos he,HX.o he]) (fun he=>I.EV _ _ _ he (Vy.o he)) 300 rfl).mono ?_
 rintro e w2 ⟨rfl,hp,hc⟩;have Ld:=aa hp;have Ms:=aa ((Ch.refl C.g w.heap.size w).below HB1.o (Nat.le_refl _)|>.trans hc HB1.o.size);clear hp hc;go_wp2_with fail
 go_end0;exact⟨rfl,Ld.o,Ms.o⟩
theorem vY:(Tryz.prog.info? 113).map (·.size)=some 3:=by kernel_rfl
theorem DB:Tryz.prog.underlying 113=some (.struct (Tryz.prog.fieldsOf 113)):=by kernel_rfl
theorem nO(C:RC)(st:I.St)(w:World)(h:RS C st w):
 Calls Tryz.prog 149 #[.p C.g] w fun e w'=>e=.returned (gd (I.dV st))∧Below w.heap.size w w':=by
 have hS:=C.small;have hN:=C.ok.len;have hA:=aa C.ok.at_;have Kt:=h.lt;obtain⟨⟨k,hB,hk,hr,hr2⟩,hR,hU⟩:=h;have HR:=aa hR;have Hr:=aa hr;have Vy:=aa hr2;obtain⟨x0,x1,x3⟩:=hB.y3 0 1 3;simp at x0 x1 x3;clear hB hR hU hr hr2;have hz:=Kt;by_cases he:st.e=0
 ·have t0:((st.e:Int) !=0)=false:=by simp[he]
  have HR0:=aa (Hr.o he);clear he;by_cases hlt:k<C.ts.length
  ·obtain⟨b,off,t,SV,hbl,hd,hm,c0,c1,c2⟩:=lQ HR.o hlt;have hat:=hA.o t hm;have HE:Hid (I.dV st=t):=by show _=_;unfold I.dV;rw[HR0.o,hd]
   rw[SV]at x0;have q1:(0:Int)≤(k:Int):=by omega
   have q2:(k:Int)<(C.ts.length:Int):=by omega
   have t1:decide ((C.ts.length:Int)≤(k:Int))=false:=decide_eq_false (by omega);have t2:decide (C.ts.length≤k)=false:=decide_eq_false (by omega);have hbw:b<w.heap.size:=by omega
   clear hd hm hk hat SV;go_enter Tryz.func149,Tryz.ntmps149;go_wp2_with fail
   go_quiet (fail);go_wp2_with fail
   go_region;go_wp2_with fail
   rw[HE.o];exact bodyPost_ret (v:=gd t) (results_cell_row rfl _ _ w.heap.size 113 _ (0,0) _ rfl (fS (w:=(w.alloc _).drewN _) (Kn.new w _ _) _ _ _) DB rfl vY) rfl ⟨rfl,fM (below_drewN ((Below.refl _ _).alloc (Nat.le_refl _) _) _) (Nat.le_refl _) _ _ _⟩
  ·have HE:Hid (I.dV st=(0,[],0)):=by show _=_;unfold I.dV;rw[HR0.o,List.drop_of_length_le (by omega)]
   have t1:decide ((C.ts.length:Int)≤(k:Int))=true:=decide_eq_true (by omega);have t2:decide (C.ts.length≤k)=true:=decide_eq_true (by omega);clear hk;go_enter Tryz.func149,Tryz.ntmps149;go_wp2_with fail
   go_quiet (fail);go_wp2_with fail
   rw[HE.o];exact bodyPost_ret (v:=gd (0,[],0)) (results_cell_row rfl _ _ w.heap.size 113 _ (0,0) _ rfl (fS (w:=(w.alloc _).drewN _) (Kn.new w _ _) _ _ _) DB rfl vY) rfl ⟨rfl,fM (below_drewN ((Below.refl _ _).alloc (Nat.le_refl _) _) _) (Nat.le_refl _) _ _ _⟩
 ·have t0:((st.e:Int) !=0)=true:=by simp[he]
  have HE:Hid (I.dV st=(0,[],0)):=by show _=_;unfold I.dV;rw[Vy.o he]
  clear he hk;go_enter Tryz.func149,Tryz.ntmps149;go_wp2_with fail
  go_quiet (fail);go_wp2_with fail
  rw[HE.o];exact bodyPost_ret (v:=gd (0,[],0)) (results_cell_row rfl _ _ w.heap.size 113 _ (0,0) _ rfl (fS (w:=(w.alloc _).drewN _) (Kn.new w _ _) _ _ _) DB rfl vY) rfl ⟨rfl,fM (below_drewN ((Below.refl _ _).alloc (Nat.le_refl _) _) _) (Nat.le_refl _) _ _ _⟩
end Go.Proofs.YtnicfobpclehkaaGreatDoor
