import Derived.Test.YtnicfobpclehkaaGreatDoorRows
import Derived.MakeChecks
import Derived.LaidLaws
import Derived.Lib.LaidTab
import Derived.OpenShut
import Derived.SizedLaws
import Derived.LaidMore
import Derived.Lay
import Derived.Stop.Joined
import Derived.Test.YtnicfobpclehkaaGreatDoorP43
set_option maxHeartbeats 12800000
set_option linter.unusedVariables false
set_option linter.unusedSimpArgs false
namespace Go.Proofs.YtnicfobpclehkaaGreatDoor
open Go.RowKit
theorem Fr.elL{α:Type}{E:El α}{w0 w:World}{own:bO}{its:List It}(F:Fr 0 w0 own its (Kp w0) w){cs:List Value}{x:α}(hm:It.el E cs x∈its):E.R w (fun b=>w0.heap.size≤b∧b<w.heap.size) cs x:=El.hp (F.its _ hm:E.R w _ cs x) (fun _ hb=>⟨hb.1,hb.2.1⟩) fun _ _=>rfl
section
variable{w0 w:World}{own:bO}{its:List It}
theorem LG.bel(h:LG w){w':World}(hb:Below w.heap.size w w'):LG w':=by
 obtain⟨m,hm⟩:=h.e;exact⟨⟨m,oK hm fun b hk=>hb.block b hk⟩,o4 h.u h.six fun b hk=>hb.block b hk,Nat.lt_of_lt_of_le h.six hb.size⟩
theorem EK(hE:LG w)(text:ByteArray)(hs:text.size≤maxLen){r:I.Km×Nat×Nat}(hr:I.parse text.data.toList=r){x y:Int}(hx:x=(r.2.1:Int))(hy:y=(r.2.2:Int)):Calls Tryz.prog 8 #[.s text] w fun e w'=>∃cs,e=.returned (.tuple #[.agg cs.toArray,.agg #[.i x,.i y]])∧aB.R w' (fun b=>w.heap.size≤b∧b<w'.heap.size) cs r.1∧Below w.heap.size w w':=by
 subst hr hx hy;exact mq text w hs hE.u hE.six
theorem Fr.IZ(F:Fr 0 w0 own its (Kp w0) w)(hE:LG w0)(text:ByteArray)(hs:text.size≤maxLen){r:I.Km×Nat×Nat}(hr:I.parse text.data.toList=r){x y:Int}(hx:x=(r.2.1:Int))(hy:y=(r.2.2:Int)):Calls Tryz.prog 9 #[.s text] w fun e w'=>∃cs,e=.returned (.tuple #[.agg cs.toArray,.agg #[.i x,.i y]])∧Fr 0 w0 own (It.el aB cs r.1::its) (Kp w0) w':=by
 subst hr hx hy;obtain⟨h1,h2,h3⟩:=hE.at F;have h:=vy text w hs h2 h3;rw[I.BK]at h;refine h.mono ?_;rintro e w' ⟨cs,rfl,hR,hb⟩;exact⟨cs,rfl,F.make (It.el aB cs _) hb hR⟩
theorem Fr.same(F:Fr 0 w0 own its (Kp w0) w){cs cs':List Value}{x:I.Km}(hx:aB.R w (fun b=>b<w.heap.size) cs x)(hy:aB.R w (fun b=>b<w.heap.size) cs' x):Calls Tryz.prog 10 #[.agg cs.toArray,.agg cs'.toArray] w fun e w'=>e=.returned (.bool true)∧Fr 0 w0 own its (Kp w0) w':=by
 refine(Zo w cs cs' x trivial hx hy).mono ?_;rintro e w' ⟨rfl,hb⟩;exact⟨rfl,F.quiet hb⟩
theorem Fr.J7(F:Fr 0 w0 own its (Kp w0) w)(hE:LG w0):Calls Tryz.prog 11 #[] w fun e w'=>e=.returned (.bool true)∧Fr 0 w0 own its (Kp w0) w':=by
 obtain⟨h1,h2,h3⟩:=hE.at F;refine(yL w ⟨h1,h2,h3⟩).mono ?_;rintro e w' ⟨rfl,hb⟩;exact⟨rfl,F.quiet hb⟩
end
structure Pb (lo mx:Nat) (w w':World):Prop where
 b:Below lo w w'
 size:w'.heap.size=w.heap.size
 o:∀g,mx≤g→w'.heap[g]?=w.heap[g]?
 cell:∀p v,w.cell? p=some v→∃v',w'.cell? p=some v'
 fro:∀p,w'.frozen? p=w.frozen? p
section
variable{lo mx:Nat}{w w1 w':World}{α:Type}{E:El α}{P:Nat→Prop}{v:Value}{xs:List α}{cs:List Value}{x:α}{k n c:Nat}{A:Option Addr}
theorem Pb.refl(lo mx:Nat)(w:World):Pb lo mx w w:=⟨Below.refl lo w,rfl,fun _ _=>rfl,fun _ v h=>⟨v,h⟩,fun _=>rfl⟩
theorem Pb.set(h:Pb lo mx w w1){p:Addr}(h1:lo≤p.block)(h2:p.block<mx)(u:Value):Pb lo mx w (w1.setCell p u):=
 ⟨h.b.setCell h1 u,by simpa using h.size,fun g hg=>(Below.heap_setCell w1 p u g (by omega)).trans (h.o g hg),fun q x hq=>by
  obtain⟨y,hy⟩:=h.cell q x hq
  exact cell?_setCell_some hy,fun q=>by rw[World.frozen?_setCell];exact h.fro q⟩
theorem Pb.up(h:Pb lo mx w w')(hP:∀g,P g→mx≤g)(hx:E.R w P cs x):E.R w' P cs x:=E.aR (fun _ h=>h) (fun g hg=>h.o g (hP g hg)) hx
theorem Pb.blk{b:Nat}{t:TypeId}{z:Array Value}(h:Pb lo mx w w')(hb:mx≤b)(h0:Kn w b t z):Kn w' b t z:=(h.o b hb).trans h0
def OT(lo mx:Nat)(w:World)(k:Nat)(A:Option Addr)(n:Nat):Prop:=
 ∃g off,(0<n→A=some ⟨g,off,none⟩∧lo≤g∧g<mx)∧∀i j,i<n→j<k→(∃u,w.cell? ⟨g,off+i*k+j,none⟩=some u)∧w.frozen? ⟨g,off+i*k+j,none⟩=false
theorem OT.mv(h:OT lo mx w k A n)(hs:Pb lo mx w w'):OT lo mx w' k A n:=by
 obtain⟨g,off,h1,h2⟩:=h;refine⟨g,off,h1,fun i j hi hj=>?_⟩;obtain⟨⟨u,hu⟩,hf⟩:=h2 i j hi hj;exact⟨hs.cell _ u hu,(hs.fro _).trans hf⟩
theorem OT.of(h:Rr E w (fun g=>lo≤g∧g<mx) (.slice A n c) xs):OT lo mx w E.k A n:=by
 obtain⟨A',c',e,h1,h2,h3⟩:=h;injection e with e1 e2 e3
 subst e1 e2 e3;by_cases h0:0<xs.length
 ·obtain⟨g,off,e,hg,hz,hc⟩:=h3 h0;refine⟨g,off,fun _=>⟨e,hg⟩,fun i j hi hj=>?_⟩;obtain⟨cs,hr,hcell⟩:=hc i xs[i] (List.getElem?_eq_getElem hi);have hl:=E.len hr;exact⟨⟨_,hcell j (cs[j]'(by omega)) (List.getElem?_eq_getElem (by omega))⟩,hz _⟩
 ·exact⟨0,0,fun h=>absurd h h0,fun i j hi _=>absurd hi (by omega)⟩
theorem OT.at(h:OT lo mx w k A n){i j:Nat}(hi:i<n)(hj:j<k):∃g off u,A=some ⟨g,off,none⟩∧lo≤g∧g<mx∧w.cell? ⟨g,off+i*k+j,none⟩=some u∧w.frozen? ⟨g,off+i*k+j,none⟩=false:=by
 obtain⟨g,off,h1,h2⟩:=h;obtain⟨⟨u,hu⟩,hf⟩:=h2 i j hi hj;obtain⟨e,h3,h4⟩:=h1 (by omega);exact⟨g,off,u,e,h3,h4,hu,hf⟩
end
section
set_option maxRecDepth 100000
theorem par_any(text:ByteArray)(w:World)(hE:LG w)(htx:text.size≤140737488355328):
 Calls Tryz.prog 3 #[.s text] w fun e w'=>e=.returned (.bool true)∧Below w.heap.size w w':=by
 have HE:=aa hE;have HTx:=aa (show text.size≤maxLen by unfold maxLen;omega);have IS:∀{l:List Value},l.length=13→(Tryz.prog.info? 30).map (·.size)=some l.length:=fun h=>by rw[h];kernel_rfl
 obtain⟨p,hp⟩:=aab (I.parse text.data.toList);have HP:=aa hp;clear hE htx hp;go_enter Tryz.func3,Tryz.ntmps3;go_wp2_with fail
 with_reducible refine(EK HE.o text HTx.o HP.o.symm (x:=(p.2.1:Int)) (y:=(p.2.2:Int)) rfl rfl).mono ?_
 rintro e w1 ⟨cs1,rfl,hR,hB⟩;have Og:=aa hR;have HB1:=aa hB;have Mf:=aa (HE.o.bel hB);have F1:=aa (Fr.start (show 0<w1.heap.size by have:=Mf.o.six;omega) (lp w1));clear hR hB;have L1:=aa (aB.len Og.o);have O1:=aa (jO Og.o);go_upto_region 2 with(first|refine wpList_store_mid rfl _ _ _ rfl _ 0 cs1.toArray rfl rfl (jV (by rw[List.size_toArray,L1.o];rfl)) (by rw[List.size_toArray];exact IS L1.o) O1.o ?_|refine wpList_store_mid rfl _ _ _ rfl _ 0 #[.i (p.2.1:Int),.i (p.2.2:Int)] rfl rfl (jW (by rfl)) (by kernel_rfl) (XT _ _) ?_)
 refine MJ fun w2 hw=>?_
 have F2:=aa (F1.o.rP (vs:=[.i (p.2.1:Int),.i (p.2.2:Int)]) hw (by rw[L1.o];rfl) rfl);clear hw F1 O1;obtain⟨gF1,MV⟩:=aab (w1.heap.size+1);obtain⟨UC,Ls⟩:=aab w1.heap.size;rw[←MV,←Ls]at F2⊢;clear MV Ls;go_wp2_with fail
 with_reducible refine(Fr.parse F2.o Mf.o text HTx.o HP.o.symm (x:=(p.2.1:Int)) (y:=(p.2.2:Int)) rfl rfl).mono ?_
 rintro e w3 ⟨cs2,rfl,(F3:Hid _)⟩;clear F2;have L3:=aa (aB.len F3.o.Kx);have O3:=aa (jO F3.o.Kx);go_upto_region 3 with(first|refine wpList_store_mid rfl _ _ _ rfl _ 0 cs2.toArray rfl rfl (jV (by rw[List.size_toArray,L3.o];rfl)) (by rw[List.size_toArray];exact IS L3.o) O3.o ?_|refine wpList_store_mid rfl _ _ _ rfl _ 0 #[.i (p.2.1:Int),.i (p.2.2:Int)] rfl rfl (jW (by rfl)) (by kernel_rfl) (XT _ _) ?_)
 refine MJ fun w4 hw=>?_
 have F4:=aa (F3.o.rP (vs:=[.i (p.2.1:Int),.i (p.2.2:Int)]) hw (by rw[L3.o];rfl) rfl);clear hw F3 O3;obtain⟨gF2,MV⟩:=aab (w3.heap.size+1);obtain⟨gS2,Ls⟩:=aab w3.heap.size;rw[←MV,←Ls]at F4⊢;clear MV Ls;go_wp2_with fail
 with_reducible refine(Fr.IZ F4.o Mf.o text HTx.o HP.o.symm (x:=(p.2.1:Int)) (y:=(p.2.2:Int)) rfl rfl).mono ?_
 rintro e w5 ⟨Oy,rfl,(F5:Hid _)⟩;clear F4;have L5:=aa (aB.len F5.o.Kx);have O5:=aa (jO F5.o.Kx);go_upto_region 4 with(first|refine wpList_store_mid rfl _ _ _ rfl _ 0 Oy.toArray rfl rfl (jV (by rw[List.size_toArray,L5.o];rfl)) (by rw[List.size_toArray];exact IS L5.o) O5.o ?_|refine wpList_store_mid rfl _ _ _ rfl _ 0 #[.i (p.2.1:Int),.i (p.2.2:Int)] rfl rfl (jW (by rfl)) (by kernel_rfl) (XT _ _) ?_)
 refine MJ fun w6 hw=>?_
 have F6:=aa (F5.o.rP (vs:=[.i (p.2.1:Int),.i (p.2.2:Int)]) hw (by rw[L5.o];rfl) rfl);clear hw F5 O5;obtain⟨gF3,MV⟩:=aab (w5.heap.size+1);obtain⟨W3,Ls⟩:=aab w5.heap.size;rw[←MV,←Ls]at F6⊢;clear MV Ls;have Ks:=(F6.o.pZ (b:=gF1) (t:=33) (cs:=[.i (p.2.1:Int),.i (p.2.2:Int)].toArray) (by simp only[List.mem_cons,true_or,or_true])).Y2;have cj2:=F6.o.ab.Y2;simp at Ks cj2;have RS:=aa (F6.o.nx (t:=30) (b:=UC) (cs:=cs1) (by simp only[List.mem_cons,true_or,or_true]));have RW:=aa (F6.o.nx (t:=30) (b:=W3) (cs:=Oy) (by simp only[List.mem_cons,true_or,or_true]));go_wp2_with (first|refine cj rfl 30 _ rfl UC 0 rfl cs1 _ RS.o ij rfl (IS L1.o) ?_|refine cj rfl 30 _ rfl W3 0 rfl Oy _ RW.o ij rfl (IS L5.o) ?_)
 with_reducible refine(Fr.same F6.o (x:=p.1) (El.hp Og.o (fun _ h=>Nat.lt_of_lt_of_le h.2 F6.o.bel.size) (fun b h=>F6.o.bel.block b h.2)) (F6.o.XS (E:=aB) (cs:=Oy) (x:=p.1) (by simp only[List.mem_cons,true_or,or_true]))).mono ?_
 rintro e w7 ⟨rfl,(F7:Hid _)⟩;clear F6 RS RW Ks cj2;have HM:=aa (F7.o.own (UC,30,cs1.toArray) (by simp only[List.mem_cons,true_or,or_true]));obtain⟨A1,c1,A2,c2,A3,c3,A4,c4,A5,c5,A6,c6,rfl,r1,r2,r3,r5,r6⟩:=DR (El.hp (P':=fun b=>w.heap.size≤b∧b<w1.heap.size) Og.o (fun _ h=>h) (fun b h=>F7.o.bel.block b h.2));have U1:Hid (OT w.heap.size w1.heap.size w7 8 A1 p.1.Kv.length):=OT.of r1;have U2:Hid (OT w.heap.size w1.heap.size w7 7 A2 p.1.q.length):=OT.of r2;have U3:Hid (OT w.heap.size w1.heap.size w7 1 A3 p.1.vals.length):=OT.of r3;have U5:Hid (OT w.heap.size w1.heap.size w7 8 A5 p.1.wh.length):=OT.of r5;have U6:Hid (OT w.heap.size w1.heap.size w7 1 A6 p.1.pv.length):=OT.of r6;have z1:p.1.Kv.length≤9223372036854775807:=by obtain⟨_,_,_,n1,m1⟩:=r1.form;omega
 have z2:p.1.q.length≤9223372036854775807:=by obtain⟨_,_,_,n1,m1⟩:=r2.form;omega
 have z3:p.1.vals.length≤9223372036854775807:=by obtain⟨_,_,_,n1,m1⟩:=r3.form;omega
 have z5:p.1.wh.length≤9223372036854775807:=by obtain⟨_,_,_,n1,m1⟩:=r5.form;omega
 have z6:p.1.pv.length≤9223372036854775807:=by obtain⟨_,_,_,n1,m1⟩:=r6.form;omega
 have HT:=aa (F7.o.elL (E:=aB) (cs:=cs2) (x:=p.1) (by simp only[List.mem_cons,true_or,or_true]));have HW:=aa (F7.o.elL (E:=aB) (cs:=Oy) (x:=p.1) (by simp only[List.mem_cons,true_or,or_true]));have N2:=aa (F7.o.own (gS2,30,cs2.toArray) (by simp only[List.mem_cons,true_or,or_true]));have N3:=aa (F7.o.own (W3,30,Oy.toArray) (by simp only[List.mem_cons,true_or,or_true]));clear r1 r2 r3 r5 r6 Og;have HB:=aa (Pb.refl w.heap.size w1.heap.size w7);have x0:=(HB.o.blk HM.o.1 HM.o.2).cell 5;simp at x0;go_wp2_with fail
 go_loopg [9] p.1.Kv.length (fun gg i wr=>∃k:Nat,k≤p.1.Kv.length∧gg=p.1.Kv.length-k∧i=.i (k:Int)∧Hid (Pb w.heap.size w1.heap.size w7 wr));case atStart=>exact⟨0,Nat.zero_le _,rfl,rfl,HB⟩
 case round=>
  clear HB x0;obtain⟨k,hk,rfl,rfl,HB⟩:=hrel;have x0:=(HB.o.blk HM.o.1 HM.o.2).cell 5;simp at x0;by_cases hlt:k<p.1.Kv.length
  ·obtain⟨g,off,u,rfl,hg1,hg2,hu,hf⟩:=(U1.o.mv HB.o).at (j:=0) hlt (by decide);simp only[Nat.add_zero]at hu hf;have t1:decide ((k:Int)<(p.1.Kv.length:Int))=true:=decide_eq_true (by omega);have b1:(k:Int)<(p.1.Kv.length:Int):=by omega
   go_wp2_with fail
   go_roundg (p.1.Kv.length-(k+1));case measure=>omega
   case rel=>exact⟨k+1,by omega,rfl,by go_num,aa (HB.o.set hg1 hg2 _)⟩
  ·obtain rfl:k=p.1.Kv.length:=by omega
   have t1:decide ((p.1.Kv.length:Int)<(p.1.Kv.length:Int))=false:=decide_eq_false (by omega);have x0:=(HB.o.blk HM.o.1 HM.o.2).cell 6;simp at x0;go_wp2_with fail
   go_loopg [10] p.1.q.length (fun gg i wr=>∃k:Nat,k≤p.1.q.length∧gg=p.1.q.length-k∧i=.i (k:Int)∧Hid (Pb w.heap.size w1.heap.size w7 wr));case atStart=>exact⟨0,Nat.zero_le _,rfl,rfl,HB⟩
   case round=>
    clear HB x0;obtain⟨k,hk,rfl,rfl,HB⟩:=hrel;have x0:=(HB.o.blk HM.o.1 HM.o.2).cell 6;simp at x0;by_cases hlt:k<p.1.q.length
    ·obtain⟨g,off,u,rfl,hg1,hg2,hu,hf⟩:=(U2.o.mv HB.o).at (j:=6) hlt (by decide);have t1:decide ((k:Int)<(p.1.q.length:Int))=true:=decide_eq_true (by omega);have b1:(k:Int)<(p.1.q.length:Int):=by omega
     go_wp2_with fail
     go_roundg (p.1.q.length-(k+1));case measure=>omega
     case rel=>exact⟨k+1,by omega,rfl,by go_num,aa (HB.o.set hg1 hg2 _)⟩
    ·obtain rfl:k=p.1.q.length:=by omega
     have t1:decide ((p.1.q.length:Int)<(p.1.q.length:Int))=false:=decide_eq_false (by omega);have x0:=(HB.o.blk HM.o.1 HM.o.2).cell 9;simp at x0;go_wp2_with fail
     go_loopg [11] p.1.wh.length (fun gg i wr=>∃k:Nat,k≤p.1.wh.length∧gg=p.1.wh.length-k∧i=.i (k:Int)∧Hid (Pb w.heap.size w1.heap.size w7 wr));case atStart=>exact⟨0,Nat.zero_le _,rfl,rfl,HB⟩
     case round=>
      clear HB x0;obtain⟨k,hk,rfl,rfl,HB⟩:=hrel;have x0:=(HB.o.blk HM.o.1 HM.o.2).cell 9;simp at x0;by_cases hlt:k<p.1.wh.length
      ·obtain⟨g,off,u,rfl,hg1,hg2,hu,hf⟩:=(U5.o.mv HB.o).at (j:=0) hlt (by decide);simp only[Nat.add_zero]at hu hf;have t1:decide ((k:Int)<(p.1.wh.length:Int))=true:=decide_eq_true (by omega);have b1:(k:Int)<(p.1.wh.length:Int):=by omega
       go_wp2_with fail
       go_roundg (p.1.wh.length-(k+1));case measure=>omega
       case rel=>exact⟨k+1,by omega,rfl,by go_num,aa (HB.o.set hg1 hg2 _)⟩
      ·obtain rfl:k=p.1.wh.length:=by omega
       have t1:decide ((p.1.wh.length:Int)<(p.1.wh.length:Int))=false:=decide_eq_false (by omega);have x0:=(HB.o.blk HM.o.1 HM.o.2).cell 7;simp at x0;go_wp2_with fail
       go_loopg [12] p.1.vals.length (fun gg i wr=>∃k:Nat,k≤p.1.vals.length∧gg=p.1.vals.length-k∧i=.i (k:Int)∧Hid (Pb w.heap.size w1.heap.size w7 wr));case atStart=>exact⟨0,Nat.zero_le _,rfl,rfl,HB⟩
       case round=>
        clear HB x0;obtain⟨k,hk,rfl,rfl,HB⟩:=hrel;have x0:=(HB.o.blk HM.o.1 HM.o.2).cell 7;simp at x0;by_cases hlt:k<p.1.vals.length
        ·obtain⟨g,off,u,rfl,hg1,hg2,hu,hf⟩:=(U3.o.mv HB.o).at (j:=0) hlt (by decide);simp only[Nat.add_zero,Nat.mul_one]at hu hf;have t1:decide ((k:Int)<(p.1.vals.length:Int))=true:=decide_eq_true (by omega);have b1:(k:Int)<(p.1.vals.length:Int):=by omega
         go_wp2_with fail
         go_roundg (p.1.vals.length-(k+1));case measure=>omega
         case rel=>exact⟨k+1,by omega,rfl,by go_num,aa (HB.o.set hg1 hg2 _)⟩
        ·obtain rfl:k=p.1.vals.length:=by omega
         have t1:decide ((p.1.vals.length:Int)<(p.1.vals.length:Int))=false:=decide_eq_false (by omega);have x0:=(HB.o.blk HM.o.1 HM.o.2).cell 10;simp at x0;go_wp2_with fail
         go_loopg [13] p.1.pv.length (fun gg i wr=>∃k:Nat,k≤p.1.pv.length∧gg=p.1.pv.length-k∧i=.i (k:Int)∧Hid (Pb w.heap.size w1.heap.size w7 wr));case atStart=>exact⟨0,Nat.zero_le _,rfl,rfl,HB⟩
         case round=>
          clear HB x0;obtain⟨k,hk,rfl,rfl,HB⟩:=hrel;have x0:=(HB.o.blk HM.o.1 HM.o.2).cell 10;simp at x0;by_cases hlt:k<p.1.pv.length
          ·obtain⟨g,off,u,rfl,hg1,hg2,hu,hf⟩:=(U6.o.mv HB.o).at (j:=0) hlt (by decide);simp only[Nat.add_zero,Nat.mul_one]at hu hf;have t1:decide ((k:Int)<(p.1.pv.length:Int))=true:=decide_eq_true (by omega);have b1:(k:Int)<(p.1.pv.length:Int):=by omega
           go_wp2_with fail
           go_roundg (p.1.pv.length-(k+1));case measure=>omega
           case rel=>exact⟨k+1,by omega,rfl,by go_num,aa (HB.o.set hg1 hg2 _)⟩
          ·obtain rfl:k=p.1.pv.length:=by omega
           have t1:decide ((p.1.pv.length:Int)<(p.1.pv.length:Int))=false:=decide_eq_false (by omega);have H8:=aa ((HB1.o.trans (Below.mono F7.o.bel HB1.o.size)).trans (Below.mono HB.o.b (Nat.le_refl _)));have Sk:=aa (HE.o.bel H8.o);have F8:=aa (Fr.start (show 0<wr.heap.size by have:=Sk.o.six;omega) (lp wr));have T8:=aa (El.hp (P':=fun b=>b<wr.heap.size) HT.o (fun b h=>by have:=HB.o.size;omega) (fun b h=>HB.o.o b h.1));have W8:=aa (El.hp (P':=fun b=>b<wr.heap.size) HW.o (fun b h=>by have:=HB.o.size;omega) (fun b h=>HB.o.o b h.1));have RT:=(HB.o.blk N2.o.1 N2.o.2).range;have RW:=(HB.o.blk N3.o.1 N3.o.2).range;rw[List.toList_toArray]at RT RW;have RT':=aa RT;have RW':=aa RW;clear RT RW;go_wp2_with (first|refine cj rfl 30 _ rfl gS2 0 rfl cs2 _ RT'.o ij rfl (IS L3.o) ?_|refine cj rfl 30 _ rfl W3 0 rfl Oy _ RW'.o ij rfl (IS L5.o) ?_)
           with_reducible refine(Fr.same F8.o (x:=p.1) T8.o W8.o).mono ?_
           rintro e w9 ⟨rfl,(F9:Hid _)⟩;clear F8;go_wp2_with fail
           with_reducible refine(Fr.J7 F9.o Sk.o).mono ?_
           rintro e Lo ⟨rfl,hF⟩;have HZ:=aa (H8.o.trans (Below.mono hF.bel H8.o.size));clear hF F9;go_wp2_with fail
           go_ret;exact⟨rfl,HZ.o⟩
end
theorem tv{P:Program}{w:World}:∀{L:List (String×DataW Unit)} {ps:List MemPlace} {n:String} {d:DataW Unit},DataW.LaidVars P w L ps→(n,d)∈L→
 ∃g t cs fuel p,P.globalNamed n=some g∧(P.globals[g]?).map (·.type)=some t∧w.var? P n=some cs∧DataW.trod (fun _=>()) P w 0 (fun _=>true) false fuel t cs.toList=some (d,p):=by
 intro L;induction L with
 |nil=>intro ps n d _ h;cases h
 |cons x r ih=>
  intro ps n d h hm;obtain⟨n',d'⟩:=x;obtain⟨g,t,cs,fuel,p,q,h1,h2,h3,h4,h5,_⟩:=h;rcases List.mem_cons.1 hm with e|hm
  ·injection e with e1 e2
   subst e1 e2;exact⟨g,t,cs,fuel,p,h1,h2,h3,h4⟩
  ·exact ih h5 hm
theorem Am{P:Program}{w:World}{n:String}{cs:Array Value}{g:Nat}(hg:P.globalNamed n=some g)(h:w.var? P n=some cs):∃t m,w.heap[g]?=some (.cells cs t m):=by
 unfold World.var? at h;rw[hg]at h;simp only[Option.bind_some]at h;split at h
 ·rename_i cs' t m he;injection h with h
  subst h;exact⟨t,m,he⟩
 ·cases h
section
variable{w:World}{L:List (String×DataW Unit)}
theorem Hw(h:laidMet Tryz.prog L w)(hm:("internal/strconv.uint64pow10",(Rows.laid_internal_strconv_uint64pow10:DataW Unit))∈L):MT w:=by
 obtain⟨ps,h,_⟩:=h;obtain⟨g,t,cs,fuel,p,h1,h2,h3,h4⟩:=tv h hm;obtain rfl:3=g:=Option.some.inj ((show Tryz.prog.globalNamed "internal/strconv.uint64pow10" =some 3 from by kernel_rfl).symm.trans h1);obtain rfl:266=t:=Option.some.inj ((show(Tryz.prog.globals[(3:Nat)]?).map (·.type)=some 266 from by kernel_rfl).symm.trans h2);have e:(Rows.laid_internal_strconv_uint64pow10:DataW Unit)=Lib.tabData .u64 Lib.pow10Tab:=by kernel_rfl
 rw[e]at h4;have:=Lib.cells_of_tab Tryz.underlying266 Tryz.underlying236 (by kernel_rfl) (by kernel_rfl) h4;unfold MT Lib.TabIs;rw[h3,←this]
theorem oM(h:laidMet Tryz.prog L w){n:String}{g0:Nat}{t0:TypeId}{d d':DataW Unit}{name:String}{ms:Array (String×TypeId)}(hm:(n,d)∈L)(hg:Tryz.prog.globalNamed n=some g0)(ht:(Tryz.prog.globals[g0]?).map (·.type)=some t0)(hi:Tryz.prog.underlying t0=some (.interface ms))(hd:d=.iface name d'):∃te pe,w.cell? ⟨g0,0,none⟩=some (.iface te pe):=by
 obtain⟨ps,h,_⟩:=h;obtain⟨g,t,cs,fuel,p,h1,h2,h3,h4⟩:=tv h hm;obtain rfl:g0=g:=Option.some.inj (hg.symm.trans h1);obtain rfl:t0=t:=Option.some.inj (ht.symm.trans h2);rw[hd]at h4;obtain⟨_,u,v,e,_⟩:=iface_of_trod hi h4;obtain⟨t,m,hb⟩:=Am hg h3;obtain rfl:cs=#[.iface u v]:=by cases cs;simp_all
 exact⟨u,v,by simp[World.cell?,hb]⟩
theorem env20_of(hL:laidMetH Tryz.prog L w)(hp:(L.all fun x=>x.2.handleName?.isNone)=true)(hsh:w.ShapedOpen Tryz.prog)
 (h1:("internal/strconv.uint64pow10",(Rows.laid_internal_strconv_uint64pow10:DataW Unit))∈L) (h2:("strconv.ErrSyntax",(Rows.laid_strconv_ErrSyntax:DataW Unit))∈L) (h3:("strconv.ErrRange",(Rows.laid_strconv_ErrRange:DataW Unit))∈L):LG w:=by
 rw[MakeChecks.laidMetH_plain _ _ _ hp]at hL;obtain⟨m,hm⟩:=Tryz.BU.s1_3 w hsh;obtain⟨te,pe,e4⟩:=oM hL h2 (g0:=4) (by kernel_rfl) (by kernel_rfl) Tryz.underlying106 rfl;obtain⟨tf,pf,e5⟩:=oM hL h3 (g0:=5) (by kernel_rfl) (by kernel_rfl) Tryz.underlying106 rfl;have hx:=World.block_lt_of_cell? w _ e4;have hy:=World.block_lt_of_cell? w _ e5;have six:5<w.heap.size:=by first|exact hx|exact hy
 exact⟨⟨m,hm,Hw hL h1⟩,⟨m,_,_,_,_,hm,by first|exact e4|exact e5,by first|exact e4|exact e5⟩,six⟩
end
variable{H:Type}{enc:TypeId×Value→H}
theorem handed_laid{a:Assume}{C:Checked}{os:Os}{f:FuncId}{fn:Func}{s:ChangeSpec}{conds:List PathCond}{apart fresh handsOn again:Bool}{L:List (String×DataW Unit)}
 (own:ownKnob C.prog.godebug=none) (started:os.Started) (noInit:C.prog.inits.idxOf? f=none) (hfn:C.prog.funcs[f]?=some fn)
 (witness:∃(w:World) (tape:Tape) (i:Input),w.os=os∧(w.forCall tape i).Shaped C.prog∧i.vars=[]∧Input.okWide C.prog (w.forCall tape i) .any w.heap.size f i∧
  ((s.pre enc C.prog fn conds apart (w.forCall tape i).memory i.args∧laidMetH C.prog L (w.forCall tape i).memory)∧sizedMet enc C.prog fn (OpenSpec.ofChange s) apart (w.forCall tape i).memory i.args)∧a.holds C.prog (lone (Frame.enter C.prog f i.args .normal) [] (w.forCall tape i)))
 (contract:∀(W:World) (base:Nat) (args:Array Value) (ds gs:List (DataW H)) (before:List MemPlace),
  (∀(j:Nat) t v,fn.params[j]?=some t→args[j]?=some v→Value.okWide C.prog W .any base t v)→
  DataW.Whole enc C.prog fn.params.toList s.vars apart W args.toList ds gs before→
  conds.all (PathCond.test C.prog ⟨fn.params.toList,ds,s.plain.varTypes C.prog,gs⟩)=true→
  (DataW.weightsEach C.prog (fn.params.toList++s.plain.varTypes C.prog) (ds++gs)).all (· ≤reachBytes)=true→
  W.ShapedOpen C.prog→laidMetH C.prog L W→
  Calls C.prog f args W fun e W'=>∃v,e=.returned v∧s.post enc C.prog fn apart fresh handsOn again W args v W'):
 ReturnsInHanded a C os f .any (fun w args=>(s.pre enc C.prog fn conds apart w args∧laidMetH C.prog L w)∧sizedMet enc C.prog fn (OpenSpec.ofChange s) apart w args) (s.post enc C.prog fn apart fresh handsOn again):=by
 refine returnsInHanded_of_calls own started noInit witness ?_;intro w tape i _ hsh _ hok hpre _;obtain⟨_,_,_,fn',hfn',_,_,_,_,hval⟩:=hok;have e:fn'=fn:=Option.some.inj (hfn'.symm.trans hfn);subst e;obtain⟨⟨⟨ds,gs,before,hw,hc⟩,hx⟩,hz⟩:=hpre;have hw':=DataW.Whole.of_heap (w':=w.forCall tape i) (by rfl) hw;refine(contract (w.forCall tape i) w.heap.size i.args ds gs before hval hw' hc (hz.weights hw) hsh (laidMetH.of_heap (by rfl) hx)).mono fun e W' ⟨v,he,hp⟩=>?_
 subst he;exact ChangeSpec.post_blind hp
end Go.Proofs.YtnicfobpclehkaaGreatDoor
