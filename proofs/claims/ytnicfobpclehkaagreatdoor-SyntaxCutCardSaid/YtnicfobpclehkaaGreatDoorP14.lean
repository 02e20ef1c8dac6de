import Derived.Lib.ItoaLen
import Derived.Test.YtnicfobpclehkaaGreatDoorP12
import Derived.Test.YtnicfobpclehkaaGreatDoorP13
set_option maxHeartbeats 3200000
set_option linter.unusedVariables false
set_option linter.unusedSimpArgs false
namespace Go.Proofs.YtnicfobpclehkaaGreatDoor
open Go.RowKit
section
set_option maxRecDepth 100000
namespace I
open Ev (Ex Hd)
theorem Fs{f:Bool}{st:Wr}(h:(dx f st).b=false):dx f st=st∧st.b=false∧f=false:=by
 obtain⟨p,n,b⟩:=st;simp only[dx,cm]at h;obtain⟨rfl,rfl⟩:=h;exact⟨rfl,rfl,rfl⟩
theorem sS(o:UInt8)(n:Nat):dv o n≤2:=by
 unfold dv;repeat' split
 all_goals omega
theorem qX{d:Nat}{h:Hd}{ks:List Ex}{st:Wr}(hb:(dx (decide (24<d)||decide ((ks.length:Int)≠dv h.o ks.length)) st).b=true):within d (.mk h ks) st=dx (decide (24<d)||decide ((ks.length:Int)≠dv h.o ks.length)) st:=by
 rcases ks with _|⟨a,_|⟨b,_|⟨c,r⟩⟩⟩
 ·unfold within;exact if_pos hb
 ·unfold within;exact if_pos hb
 ·unfold within;exact if_pos hb
 ·have hk:=sS h.o (a::b::c::r).length;have:decide (((a::b::c::r).length:Int)≠dv h.o (a::b::c::r).length)=true:=aq (by simp only[ab]at hk⊢;omega);rw[this,Bool.or_true];unfold within;rfl
theorem Dt(o:UInt8):(dw o).length≤10:=by
 unfold dw word;split
 ·exact ao _
 ·rename_i h;have:∀i:Fin 19,(([[45],[43],[45],[42],[61],[60,62],[60],[60,61],[62],[62,61],[97,110,100],[111,114],[110,111,116],[],[99,111,117,110,116],[115,117,109],[109,105,110],[109,97,120],[117,115,101,114]]:List Bs).getD i.val []).length≤10:=by decide
  exact this ⟨((o.toNat:Int)-3).toNat,by simp at h;omega⟩
theorem Nu{o:UInt8}(h:((0:Nat):Int)=dv o 0):o.toNat=1∨o.toNat=2∨o.toNat=21∨o.toNat=17:=by
 unfold dv at h;repeat' split at h
 all_goals omega
theorem Nr{o:UInt8}(h:((1:Nat):Int)=dv o 1):(o.toNat=3∨o.toNat=15)∨o.toNat=16∨17≤o.toNat∧o.toNat≤20:=by
 unfold dv at h;repeat' split at h
 all_goals omega
theorem MP{o:UInt8}(h:((2:Nat):Int)=dv o 2):3<o.toNat∧o.toNat<15:=by
 unfold dv at h;repeat' split at h
 all_goals omega
theorem Fe{v:Cell.Val}(h0: -9223372036854775808≤v.n)(h1:v.n≤9223372036854775807):(NF.prt v).length≤1000:=by
 obtain⟨k,n,s⟩:=v;simp only at h0 h1;unfold NF.prt;cases hR:Cell.js ⟨k,n,s⟩with
 |false=>
  rw[if_pos rfl];exact ao _
 |true=>
  rw[if_neg (by decide)];have e:s.data.toList.length=s.size:=aK;have hs:k.toNat=4∨k.toNat=5→s.data.toList.length≤200:=fun hk=>by
   unfold Cell.js at hR
   rcases hk with hk|hk
   ·simp only[hk,aN,aI]at hR;omega
   ·simp only[hk,aN,aI]at hR;omega
  simp only;split
  ·decide
  ·split
   ·split<;>decide
   ·split
    ·have:=Go.Lib.itoa_length_le n h0 h1;omega
    ·split
     ·unfold NF.kg;have h2:(NF.minus n).length≤1:=by unfold NF.minus;split<;>decide
      have h3:(Go.Lib.decDigits (n.natAbs/10000)).length≤20:=by rw[Go.Lib.decDigits_length];exact Go.Lib.nDigits_le20 _ (by omega)
      have h4:(NF.SR (n.natAbs%10000) 4).length≤20:=by rw[NF.oO _ (cK _ (by decide))];decide
      simp only[ah,ab,ai];omega
     ·split
      ·have h5:=NF.Bh s.data.toList;have h6:=hs (.inl (by assumption));simp only[ah,ab,ai];omega
      ·by_cases h5:k.toNat=5
       ·have h6:=hs (.inr h5);have h7:=NF.rZ s.data.toList;simp only[ah,ab,ai];omega
       ·exfalso;unfold Cell.js at hR;simp only at hR;first|cases hR|(split at hR<;>first|omega|cases hR)
end I
theorem G6(s:ByteArray):(I.fB s).length=s.size:=aK
theorem MI(s:ByteArray):(!s.toList.isEmpty)=decide (I.fB s≠[]):=by
 rw[ByteArray.toList_eq];unfold I.fB;cases s.data.toList<;>rfl
theorem jQ{g k:Nat}{w0 w w':World}{v0 v:Value}{own:eP}{st:I.Wr}{t:TypeId}{mk:Nat×Nat}{cells:Array Value}{ss:List I.Bs}{n:Nat}(F:Fw g w0 v0 own st v w)(_:Below w.heap.size w w')(hk:w'.heap[k]?=some (.cells cells t mk))(hg:w.heap.size≤k)(hc:cells.toList=ss.map fun s=>Value.string (I.bs s))(hn:ss.length=n∧n≤1000):Rr Ql w' (Po g v w') (.slice (some ⟨k,0,none⟩) n n) ss:=by
 obtain⟨hn,hm⟩:=hn;subst hn;have hl:=F.ws.blk.lt;refine⟨_,_,rfl,aa _,by omega,fun h0=>⟨k,0,rfl,⟨lt_of_block hk,by omega,fun e=>by have:=(F.ws.ob _ e).2;omega⟩,fun i x hi=>⟨[.string (I.bs x)],rfl,fun j u hu=>?_⟩⟩⟩;have hj:=(ay.1 hu).1;simp at hj;subst hj;simp at hu;subst hu;have h1:=cM w' k i cells t mk hk;rw[show 0+i*Ql.k+0=i by show 0+i*1+0=i;omega,h1,←Array.getElem?_toList,hc,bf,hi];rfl
theorem Fw.o0{g b:Nat}{w0 w:World}{v0 v:Value}{own:eP}{st:I.Wr}{t:TypeId}{cs:Array Value}(h:Fw g w0 v0 ((b,t,cs)::own) st v w):b≠g∧v.ownBlock≠some b:=by
 have h1:=h.own _ ag;have h2:=h.lt;have h3:w0.heap.size≤b:=h1.1;exact⟨by omega,h1.2.2⟩
theorem Fw.o1{g b:Nat}{w0 w:World}{v0 v:Value}{own:eP}{p:Nat×TypeId×Array Value}{st:I.Wr}{t:TypeId}{cs:Array Value}(h:Fw g w0 v0 (p::(b,t,cs)::own) st v w):b≠g∧v.ownBlock≠some b:=by
 have h1:=h.own (b,t,cs) (by simp);have h2:=h.lt;have h3:w0.heap.size≤b:=h1.1;exact⟨by omega,h1.2.2⟩
theorem Fw.o2{g b:Nat}{w0 w:World}{v0 v:Value}{own:eP}{p q:Nat×TypeId×Array Value}{st:I.Wr}{t:TypeId}{cs:Array Value}(h:Fw g w0 v0 (p::q::(b,t,cs)::own) st v w):b≠g∧v.ownBlock≠some b:=by
 have h1:=h.own (b,t,cs) (by simp);have h2:=h.lt;have h3:w0.heap.size≤b:=h1.1;exact⟨by omega,h1.2.2⟩
theorem Kx(D:Nat)(hK:∀D',D=D'+1→Zz D'):Zz D:=by
 intro hd A m c ks g d v st w hS hB XB hh hsm hx hmc hc hd25;have hxl:=hx.len;obtain⟨hm,hm2⟩:=hxl;have hml:m≤9223372036854775807:=by omega
 have QQ:=cN hB;have Ol:=cN XB;have HH:=cN hh;have Qk:=cN hsm;obtain⟨hnm,hof⟩:=hsm.nm;clear hsm;have HX:=cN hx;have F0:=cN (Fw.start hS);have HK:=cN hK;have HM:=cN hm;obtain⟨⟨hvs,hv0,hv1⟩,_,_,_,_⟩:=hh;clear hS hB XB hx hK hm;unfold Vz;have F1:Hid (Fw g w v [(w.heap.size+1+1,3,#[.int .i64 (d:Int)]),(w.heap.size+1,50,#[.int .u8 (hd.o.toNat:Int),.int .u8 (hd.v.k.toNat:Int),.int .i64 hd.v.n,.string hd.v.s,.string hd.nm,.string hd.of,.int .i64 hd.n,.slice A m c]),(w.heap.size,92,#[.pointer (some ⟨g,0,none⟩)])] st v (((w.alloc (.cells #[.pointer (some ⟨g,0,none⟩)] 92)).alloc (.cells #[.int .u8 (hd.o.toNat:Int),.int .u8 (hd.v.k.toNat:Int),.int .i64 hd.v.n,.string hd.v.s,.string hd.nm,.string hd.of,.int .i64 hd.n,.slice A m c] 50)).alloc (.cells #[.int .i64 (d:Int)] 3))):=by have h1:=((F0.o.new 92 #[.pointer (some ⟨g,0,none⟩)]).new 50 #[.int .u8 (hd.o.toNat:Int),.int .u8 (hd.v.k.toNat:Int),.int .i64 hd.v.n,.string hd.v.s,.string hd.nm,.string hd.of,.int .i64 hd.n,.slice A m c]).new 3 #[.int .i64 (d:Int)];simp only[dc]at h1;exact h1
 go_enter Tryz.func164,Tryz.ntmps164;go_upto_region 1 with fail
 obtain⟨w1,hw1⟩:∃x,x=(((w.alloc (.cells #[.pointer (some ⟨g,0,none⟩)] 92)).alloc (.cells #[.int .u8 (hd.o.toNat:Int),.int .u8 (hd.v.k.toNat:Int),.int .i64 hd.v.n,.string hd.v.s,.string hd.nm,.string hd.of,.int .i64 hd.n,.slice A m c] 50)).alloc (.cells #[.int .i64 (d:Int)] 3)):=⟨_,rfl⟩;rw[←hw1]at F1;rw[←hw1];obtain⟨gD,hgD⟩:∃x,x=w.heap.size+1+1:=⟨_,rfl⟩;obtain⟨gE,SS⟩:∃x,x=w.heap.size+1:=⟨_,rfl⟩;obtain⟨gB,hgB⟩:∃x,x=w.heap.size:=⟨_,rfl⟩;rw[←hgD,←SS,←hgB]at F1;rw[←hgD,←SS,←hgB];clear hw1 hgD SS hgB F0;by_cases PG:24<d
 ·have t0:decide ((24:Int)<(d:Int))=true:=aq (by omega);have VK:Hid (true=(decide (24<d)||decide ((ks.length:Int)≠I.dv hd.o ks.length))):=by show _=_;rw[aq PG];rfl
  refine fF (fun w'=>Fw g w v [(gD,3,#[.int .i64 (d:Int)]),(gE,50,#[.int .u8 (hd.o.toNat:Int),.int .u8 (hd.v.k.toNat:Int),.int .i64 hd.v.n,.string hd.v.s,.string hd.nm,.string hd.of,.int .i64 hd.n,.slice A m c]),(gB,92,#[.pointer (some ⟨g,0,none⟩)])] st v w') 11 (by kernel_rfl) (by kernel_rfl) (F1.o.drew 1) ?_;simp only[List.take_succ_cons,List.take_zero,List.drop_succ_cons,List.drop_zero];refine cS ?_ rfl (fun w' hS=>?_) ?_;rotate_left
  ·have T4:=hS.dR.cell 0;simp at T4;go_simp;rfl
  go_frame;refine cS ?_ rfl (fun w' hS=>?_) ?_;rotate_left
  ·have VI:=hS.cQ.cell 0;simp at VI;go_simp;rfl
  go_frame;refine cS ?_ rfl (fun w' hS=>?_) ?_;rotate_left
  ·go_simp;rfl
  go_frame;refine cS ?_ rfl (fun w' hS=>?_) ?_;rotate_left
  ·go_simp;rfl
  go_frame;refine ik rfl ?_;go_frame;refine ik rfl ?_;go_frame;refine ik rfl ?_;go_frame;refine ik rfl ?_;go_frame;refine ik rfl ?_;go_frame;refine ik rfl ?_;go_frame;refine cS ?_ rfl (fun w' hS=>?_) ?_;rotate_left
  ·go_simp;rfl
  go_frame;refine iQ fun w2 hS=>?_
  have F2:=cN hS;clear hS F1;go_wp2_with fail
  with_reducible refine(gw F2.o _).mono ?_
  rintro e w3 ⟨v3,s3,hs3,rfl,hF⟩;have F3:=cN hF;have hs3:I.dx true st=s3:=hs3;have hb3:s3.b=true:=by rw[←hs3];exact Bool.or_true _
  have HS:Hid (I.within d (.mk hd ks) st=s3):=by show _=_;rw[VK.o]at hs3;rw[I.qX (by rw[hs3];exact hb3),hs3]
  clear hF hs3 PG;have cB:=F3.o.dR.cell 0;have cb:=F3.o.ws.blk.cell 2;simp at cB cb;rw[hb3]at cb;go_wp2_with fail
  rw[HS.o];exact ae (v:=.tuple #[]) (aA rfl _ _ _) rfl F3.o.done
 ·have t0:decide ((24:Int)<(d:Int))=false:=ar (by omega);have hd24:d≤24:=by omega
  obtain⟨fl,hfl⟩:∃f,f=((m:Int) !=I.dv hd.o m):=⟨_,rfl⟩;have VK:Hid (fl=(decide (24<d)||decide ((ks.length:Int)≠I.dv hd.o ks.length))):=by show _=_;rw[ar PG,cz,hfl,HM.o,aG];simp
  have ZB:=cN hfl;clear PG;refine fF (fun w'=>Fw g w v [(gD,3,#[.int .i64 (d:Int)]),(gE,50,#[.int .u8 (hd.o.toNat:Int),.int .u8 (hd.v.k.toNat:Int),.int .i64 hd.v.n,.string hd.v.s,.string hd.nm,.string hd.of,.int .i64 hd.n,.slice A m c]),(gB,92,#[.pointer (some ⟨g,0,none⟩)])] st v w') 11 (by kernel_rfl) (by kernel_rfl) (F1.o.drew 1) ?_;simp only[List.take_succ_cons,List.take_zero,List.drop_succ_cons,List.drop_zero];refine cS ?_ rfl (fun w' hS=>?_) ?_;rotate_left
  ·have T4:=hS.dR.cell 0;simp at T4;go_simp;rfl
  go_frame;refine cS ?_ rfl (fun w' hS=>?_) ?_;rotate_left
  ·have VI:=hS.cQ.cell 0;simp at VI;go_simp;rfl
  go_frame;refine cS ?_ rfl (fun w' hS=>?_) ?_;rotate_left
  ·go_simp;rfl
  go_frame;refine cS ?_ rfl (fun w' hS=>?_) ?_;rotate_left
  ·go_simp;rfl
  go_frame;refine cS ?_ rfl (fun w' hS=>?_) ?_;rotate_left
  ·go_simp;rfl
  go_frame;refine cS ?_ rfl (fun w' hS=>?_) ?_;rotate_left
  ·have XE:=hS.cR.cell 7;simp at XE;go_simp;rfl
  go_frame;refine cS ?_ rfl (fun w' hS=>?_) ?_;rotate_left
  ·go_simp;rfl
  go_frame;refine cS ?_ rfl (fun w' hS=>?_) ?_;rotate_left
  ·obtain⟨e0,e1,e2,e3,e4,e5,e6,e7⟩:=hS.cR.y8 0 1 2 3 4 5 6 7;simp at e0 e1 e2 e3 e4 e5 e6 e7;go_simp;rfl
  go_frame;refine jn _ _ _ rfl (fun w' hS=>?_) (fun w' (hS:(fun w'=>Fw g w v [(gD,3,#[.int .i64 (d:Int)]),(gE,50,#[.int .u8 (hd.o.toNat:Int),.int .u8 (hd.v.k.toNat:Int),.int .i64 hd.v.n,.string hd.v.s,.string hd.nm,.string hd.of,.int .i64 hd.n,.slice A m c]),(gB,92,#[.pointer (some ⟨g,0,none⟩)])] st v w') w')=>((zG hd A m c w' hml).mono fun e w2 hp=>⟨hp.1,hS.quiet hp.2⟩)) ?_
  ·go_simp;rfl
  go_frame;refine cS ?_ rfl (fun w' hS=>?_) ?_;rotate_left
  ·go_simp;rfl
  go_frame;refine cS ?_ rfl (fun w' hS=>?_) ?_;rotate_left
  ·go_simp;rfl
  go_frame;refine iQ fun w2 hS=>?_
  have F2:=cN hS;clear hS F1;go_wp2_with fail
  rw[←ZB.o];clear hfl;with_reducible refine(gw F2.o _).mono ?_
  rintro e w3 ⟨v3,s3,hs3,rfl,hF⟩;have F3:=cN hF;clear hF;have cB:=F3.o.dR.cell 0;have cb:=F3.o.ws.blk.cell 2;simp at cB cb;cases hb3:s3.b with
  |true=>
   rw[hb3]at cb;have HS:Hid (I.within d (.mk hd ks) st=s3):=by show _=_;rw[VK.o]at hs3;rw[I.qX (by rw[hs3];exact hb3),hs3]
   clear hs3;go_wp2_with fail
   rw[HS.o];exact ae (v:=.tuple #[]) (aA rfl _ _ _) rfl F3.o.done
  |false=>
   rw[hb3]at cb;obtain⟨e1,e2,e3⟩:=I.Fs (by rw[hs3];exact hb3);obtain rfl:s3=st:=hs3.symm.trans e1;have hkk:(m:Int)=I.dv hd.o m:=by rw[e3]at ZB;have:=ZB.o;simpa using this.symm
   have QZ:Hid (¬(I.dx (decide (24<d)||decide ((ks.length:Int)≠I.dv hd.o ks.length)) s3).b=true):=by show¬_;rw[←VK.o,hs3,hb3];decide
   have B3:=cN (QQ.o.small hb3);clear hs3 e1 e2 e3 VK ZB;have cE:=F3.o.cR.cell 0;simp at cE;go_wp2_with fail
   with_reducible refine(yq hd.o _).mono ?_
   rintro e w4 ⟨rfl,hb4⟩;have F4:=cN (F3.o.quiet hb4);clear hb4 F3 cB cb cE;obtain⟨T,hT⟩:∃T,T=I.dw hd.o:=⟨_,rfl⟩;rw[←hT];have HT:=cN hT;have To:T.length≤10:=by rw[hT];exact I.Dt _
   clear hT;have cB:=F4.o.dR.cell 0;have cE0:=F4.o.cR.cell 0;simp at cB cE0;rcases ks with _|⟨a,_|⟨b,_|⟨x,r⟩⟩⟩
   ·obtain rfl:m=0:=HM.o;have QZ:Hid (¬(I.dx (decide (24<d)||decide ((0:Int)≠I.dv hd.o 0)) s3).b=true):=cN QZ.o;rcases I.Nu hkk with h|h|h|h
    ·have t1:((hd.o.toNat:Int)==1)=true:=aV.2 (by omega);have t2:=cO hd.o 2 (by omega);have t21:=cO hd.o 21 (by omega);have t3:=cO hd.o 3 (by omega);have t15:=cO hd.o 15 (by omega);have t16:=cO hd.o 16 (by omega);have t17:=cO hd.o 17 (by omega);have t18:=cO hd.o 18 (by omega);have t19:=cO hd.o 19 (by omega);have t20:=cO hd.o 20 (by omega);obtain⟨c1,c2,c3⟩:=F4.o.cR.y3 1 2 3;simp at c1 c2 c3;have hgB:=F4.o.dR.lt;have SS:=F4.o.cR.lt;go_upto_region 10 with fail
     have hTs:=dZ (l:=[(3,PM)]) (fun p hp=>by
      simp only[af,aj,aH]at hp
      subst hp
      exact PM.mb)
     have OT:=eY (l:=[(3,PK (.string (I.bs (NF.prt hd.v))))]) (fun p hp=>by
      simp only[af,aj,aH]at hp
      subst hp
      exact PK.some _)
     have OH:=cN hTs;have Pk:=cN OT;clear hTs OT;refine db (tab [(3,PM)]) (Up w4) (w4.heap.size) 5 (Qe [(3,PK (.string (I.bs (NF.prt hd.v))))]) (Pk.o) (OH.o) (Up.dX _) OM (OM.turns (Up.dX _) (OH.o)) (by kernel_rfl) (by kernel_rfl) (Up.start _) (aa _) ?_;simp only[List.take_succ_cons,List.take_zero,List.drop_succ_cons,List.drop_zero];refine cP ?_ rfl rfl (fun w' hS=>?_) ?_;rotate_left
     ·have T4:=(hS.cell (p:=⟨gB,0,none⟩) hgB).trans cB;go_simp;rfl
     go_frame;refine cP ?_ rfl rfl (fun w' hS=>?_) ?_;rotate_left
     ·go_simp;rfl
     go_frame;refine cP ?_ rfl rfl (fun w' hS=>?_) ?_;rotate_left
     ·have c1':=(hS.cell (p:=⟨gE,1,none⟩) SS).trans c1;have c2':=(hS.cell (p:=⟨gE,2,none⟩) SS).trans c2;have c3':=(hS.cell (p:=⟨gE,3,none⟩) SS).trans c3;go_simp;rfl
     go_frame;refine' du _ _ _ rfl rfl (fun w'=>?_) (fun w' hS hh hs=>?_) (fun v3 h3=>?_);rotate_left 2
     ·go_simp;constructor<;>rfl
     ·have XM:=(F4.o.sb Ol.o) w' (fun b hb=>hS.block b (by have:=F4.o.ws.blk.lt;omega));obtain⟨m0,hE0⟩:=XM;refine(rH hd.v.k hd.v.n hd.v.s m0 w' hE0 hv0 hv1).mono ?_;rintro e w2 ⟨rfl,hb⟩;exact⟨_,rfl,⟨rfl,trivial⟩,hb⟩
     obtain rfl:=h3;go_frame;refine dJ (some (1,1)) (.cells #[.string (I.bs (NF.prt hd.v))] 9) rfl rfl (fun w' hS=>?_) fun g4=>?_
     ·go_simp;rfl
     go_frame;refine dz fun w5 hH=>?_
     have F5:=cN (F4.o.quiet hH.s);have hbk:=(hH.gh 4 _ _ rfl).1;have hbg:=(hH.gh 4 _ _ rfl).2;have HL:=cN (jQ (n:=1) (ss:=[NF.prt hd.v]) F4.o hH.s hbk hbg rfl ⟨rfl,by decide⟩);clear hH hbk hbg c1 c2 c3 cB;go_wp2_with fail
     simp only[ej];with_reducible refine(F5.o.sub (kv g _ _ [NF.prt hd.v] _ _ F5.o.ws HL.o (fun s hs=>by simp only[af,aj,aH]at hs;subst hs;have:=I.Fe hv0 hv1;omega) (by have:=B3.o.le;simp only[ab,ai];omega))).mono ?_
     rintro e w6 ⟨v6,rfl,hF⟩;have F6:=cN hF;clear hF;have HS:Hid (I.within d (.mk hd []) s3=I.put [NF.prt hd.v] s3):=by show _=_;unfold I.within;rw[if_neg QZ.o,if_pos h]
     go_wp2_with fail
     rw[HS.o];exact ae (v:=.tuple #[]) (aA rfl _ _ _) rfl F6.o.done
    ·have t1:=cO hd.o 1 (by omega);have t2:((hd.o.toNat:Int)==2)=true:=aV.2 (by omega);have t21:=cO hd.o 21 (by omega);have t3:=cO hd.o 3 (by omega);have t15:=cO hd.o 15 (by omega);have t16:=cO hd.o 16 (by omega);have t17:=cO hd.o 17 (by omega);have t18:=cO hd.o 18 (by omega);have t19:=cO hd.o 19 (by omega);have t20:=cO hd.o 20 (by omega);obtain⟨c4,c5⟩:=F4.o.cR.y2 4 5;simp at c4 c5;have HQ:Hid ((!hd.of.toList.isEmpty)=decide (I.fB hd.of≠[])):=cN (MI _);have UY:=G6 hd.nm;have hz5:=G6 hd.of;go_wp2_with fail
     rw[HQ.o];skip;go_wp2_with fail
     with_reducible refine(dS F4.o (decide (I.fB hd.of≠[])) (n:=2) (cells:=#[.string hd.of,.string ⟨#[46]⟩]) [(I.fB hd.of),[46]] rfl rfl (by decide) (fun s hs=>by simp only[af,aj,aH]at hs;rcases hs with rfl|rfl<;>first|omega|decide) (by have:=B3.o.le;omega)).mono ?_
     rintro e w5 ⟨v5,s5,hs5,rfl,hF⟩;have F5:=cN hF;have E5:=cN hs5;have B5:Hid (I.Bd 4099 s5):=by show I.Bd 4099 s5;rw[←hs5];exact I.Bd.mono (I.Bd.fQ 2 B3.o (by rfl)) (by decide)
     clear hF hs5 cB;have cB:=F5.o.dR.cell 0;simp at cB;have c4:=F5.o.cR.cell 4;simp at c4;go_wp2_with fail
     with_reducible refine(dL F5.o (n:=1) (cells:=#[.string hd.nm]) [(I.fB hd.nm)] rfl rfl (by decide) (fun s hs=>by simp only[af,aj,aH]at hs;subst hs;omega) (by have:=B5.o.le;omega)).mono ?_
     rintro e w6 ⟨v6,s6,hs6,rfl,hF⟩;have F6:=cN hF;have E6:=cN hs6;have B6:Hid (I.Bd 4100 s6):=by show I.Bd 4100 s6;rw[←hs6];exact I.Bd.mono (I.Bd.dM 1 B5.o (by rfl)) (by decide)
     clear hF hs6 cB;have cB:=F6.o.dR.cell 0;simp at cB;have HS:Hid (I.within d (.mk hd []) s3=s6):=by
      show _=_;unfold I.within;rw[if_neg QZ.o,if_neg (by omega),if_pos h];try simp only[←HT.o]
      rw[E5.o,E6.o]
     go_wp2_with fail
     rw[HS.o];exact ae (v:=.tuple #[]) (aA rfl _ _ _) rfl F6.o.done
    ·have t1:=cO hd.o 1 (by omega);have t2:=cO hd.o 2 (by omega);have t21:((hd.o.toNat:Int)==21)=true:=aV.2 (by omega);have t3:=cO hd.o 3 (by omega);have t15:=cO hd.o 15 (by omega);have t16:=cO hd.o 16 (by omega);have t17:=cO hd.o 17 (by omega);have t18:=cO hd.o 18 (by omega);have t19:=cO hd.o 19 (by omega);have t20:=cO hd.o 20 (by omega);go_wp2_with fail
     with_reducible refine(dL F4.o (n:=1) (cells:=#[.string (I.bs T)]) [T] rfl rfl (by decide) (fun s hs=>by simp only[af,aj,aH]at hs;subst hs;omega) (by have:=B3.o.le;omega)).mono ?_
     rintro e w5 ⟨v5,s5,hs5,rfl,hF⟩;have F5:=cN hF;have E5:=cN hs5;have B5:Hid (I.Bd 4098 s5):=by show I.Bd 4098 s5;rw[←hs5];exact I.Bd.mono (I.Bd.dM 1 B3.o (by rfl)) (by decide)
     clear hF hs5 cB;have cB:=F5.o.dR.cell 0;simp at cB;have HS:Hid (I.within d (.mk hd []) s3=s5):=by
      show _=_;unfold I.within;rw[if_neg QZ.o,if_neg (by omega),if_neg (by omega),if_pos h];try simp only[←HT.o]
      rw[E5.o]
     go_wp2_with fail
     rw[HS.o];exact ae (v:=.tuple #[]) (aA rfl _ _ _) rfl F5.o.done
    ·have t1:=cO hd.o 1 (by omega);have t2:=cO hd.o 2 (by omega);have t21:=cO hd.o 21 (by omega);have t3:=cO hd.o 3 (by omega);have t15:=cO hd.o 15 (by omega);have t16:=cO hd.o 16 (by omega);have t17:((hd.o.toNat:Int)==17)=true:=aV.2 (by omega);have t18:=cO hd.o 18 (by omega);have t19:=cO hd.o 19 (by omega);have t20:=cO hd.o 20 (by omega);go_wp2_with fail
     with_reducible refine(dL F4.o (n:=2) (cells:=#[.string (I.bs T),.string ⟨#[40]⟩]) [T,[40]] rfl rfl (by decide) (fun s hs=>by simp only[af,aj,aH]at hs;rcases hs with rfl|rfl<;>first|omega|decide) (by have:=B3.o.le;omega)).mono ?_
     rintro e w5 ⟨v5,s5,hs5,rfl,hF⟩;have F5:=cN hF;have E5:=cN hs5;have B5:Hid (I.Bd 4099 s5):=by show I.Bd 4099 s5;rw[←hs5];exact I.Bd.mono (I.Bd.dM 2 B3.o (by rfl)) (by decide)
     clear hF hs5 cB;have cB:=F5.o.dR.cell 0;simp at cB;have c7:=F5.o.cR.cell 7;simp at c7;go_wp2_with fail
     with_reducible refine(dL F5.o (n:=1) (cells:=#[.string ⟨#[42]⟩]) [[42]] rfl rfl (by decide) (by decide) (by have:=B5.o.le;omega)).mono ?_
     rintro e w6 ⟨v6,s6,hs6,rfl,hF⟩;have F6:=cN hF;have E6:=cN hs6;have B6:Hid (I.Bd 4100 s6):=by show I.Bd 4100 s6;rw[←hs6];exact I.Bd.mono (I.Bd.dM 1 B5.o (by rfl)) (by decide)
     clear hF hs6 cB;have cB:=F6.o.dR.cell 0;simp at cB;go_wp2_with fail
     with_reducible refine(dL F6.o (n:=1) (cells:=#[.string ⟨#[41]⟩]) [[41]] rfl rfl (by decide) (by decide) (by have:=B6.o.le;omega)).mono ?_
     rintro e w7 ⟨v7,s7,hs7,rfl,hF⟩;have F7:=cN hF;have E7:=cN hs7;have B7:Hid (I.Bd 4101 s7):=by show I.Bd 4101 s7;rw[←hs7];exact I.Bd.mono (I.Bd.dM 1 B6.o (by rfl)) (by decide)
     clear hF hs7 cB;have cB:=F7.o.dR.cell 0;simp at cB;have HS:Hid (I.within d (.mk hd []) s3=s7):=by
      show _=_;unfold I.within;rw[if_neg QZ.o,if_neg (by omega),if_neg (by omega),if_neg (by omega)];try simp only[←HT.o]
      rw[E5.o,E6.o,E7.o]
     go_wp2_with fail
     rw[HS.o];exact ae (v:=.tuple #[]) (aA rfl _ _ _) rfl F7.o.done
   ·obtain rfl:m=1:=HM.o;obtain⟨D',rfl⟩:∃D',D=D'+1:=by
     cases D with
     |zero=>obtain⟨_,h⟩:=HX.o;cases h
     |succ q=>exact⟨q,rfl⟩
    have HW:=cN (HK.o D' rfl);clear HK;have QZ:Hid (¬(I.dx (decide (24<d)||decide ((1:Int)≠I.dv hd.o 1)) s3).b=true):=cN QZ.o;rcases I.Nr hkk with h|h|h
    ·by_cases h3:hd.o.toNat=3
     ·have t1:=cO hd.o 1 (by omega);have t2:=cO hd.o 2 (by omega);have t21:=cO hd.o 21 (by omega);have t3:((hd.o.toNat:Int)==3)=true:=aV.2 (by omega);have t15:=cO hd.o 15 (by omega);have t16:=cO hd.o 16 (by omega);have t17:=cO hd.o 17 (by omega);have t18:=cO hd.o 18 (by omega);have t19:=cO hd.o 19 (by omega);have t20:=cO hd.o 20 (by omega);go_wp2_with fail
      with_reducible refine(dL F4.o (n:=1) (cells:=#[.string (I.bs T)]) [T] rfl rfl (by decide) (fun s hs=>by simp only[af,aj,aH]at hs;subst hs;omega) (by have:=B3.o.le;omega)).mono ?_
      rintro e w5 ⟨v5,s5,hs5,rfl,hF⟩;have F5:=cN hF;have E5:=cN hs5;have B5:Hid (I.Bd 4098 s5):=by show I.Bd 4098 s5;rw[←hs5];exact I.Bd.mono (I.Bd.dM 1 B3.o (by rfl)) (by decide)
      clear hF hs5 cB;have cB:=F5.o.dR.cell 0;simp at cB;go_wp2_with fail
      with_reducible refine(F5.o.sub (lv D' HW.o hd A _ c _ 0 0 rfl a rfl (Qk.o.kid (by simp)) g d gE gB gD _ _ _ F5.o.ws (B5.o.mono (by decide)) (F5.o.sb Ol.o) (F5.o.S8 HX.o) hd24 F5.o.cR F5.o.dR F5.o.cQ F5.o.o1 F5.o.o2 F5.o.o0)).mono ?_
      rintro e w6 ⟨v6,rfl,hF⟩;obtain⟨s6,hs6⟩:∃x,x=I.im hd.o a (I.within (d+1) a) s5:=⟨_,rfl⟩;rw[←hs6]at hF;have F6:=cN hF;have B6:Hid (I.Bd 4248 s6):=by show I.Bd 4248 s6;rw[hs6];exact(I.Bd.kid B5.o fun st hs=>I.Bd.within _ _ (aa _) hs).mono (by unfold I.kD;omega)
      have E6:=cN hs6.symm;clear hF hs6 cB;have cB:=F6.o.dR.cell 0;simp at cB;have HS:Hid (I.within d (.mk hd [a]) s3=s6):=by
       show _=_;unfold I.within;rw[if_neg QZ.o,if_pos h];try simp only[←HT.o]
       rw[E5.o,E6.o]
      go_wp2_with fail
      rw[HS.o];exact ae (v:=.tuple #[]) (aA rfl _ _ _) rfl F6.o.done
     ·have h4:hd.o.toNat=15:=by omega
      have t1:=cO hd.o 1 (by omega);have t2:=cO hd.o 2 (by omega);have t21:=cO hd.o 21 (by omega);have t3:=cO hd.o 3 (by omega);have t15:((hd.o.toNat:Int)==15)=true:=aV.2 (by omega);have t16:=cO hd.o 16 (by omega);have t17:=cO hd.o 17 (by omega);have t18:=cO hd.o 18 (by omega);have t19:=cO hd.o 19 (by omega);have t20:=cO hd.o 20 (by omega);go_wp2_with fail
      with_reducible refine(dL F4.o (n:=1) (cells:=#[.string (I.bs T)]) [T] rfl rfl (by decide) (fun s hs=>by simp only[af,aj,aH]at hs;subst hs;omega) (by have:=B3.o.le;omega)).mono ?_
      rintro e w5 ⟨v5,s5,hs5,rfl,hF⟩;have F5:=cN hF;have E5:=cN hs5;have B5:Hid (I.Bd 4098 s5):=by show I.Bd 4098 s5;rw[←hs5];exact I.Bd.mono (I.Bd.dM 1 B3.o (by rfl)) (by decide)
      clear hF hs5 cB;have cB:=F5.o.dR.cell 0;simp at cB;go_wp2_with fail
      with_reducible refine(F5.o.sub (lv D' HW.o hd A _ c _ 0 0 rfl a rfl (Qk.o.kid (by simp)) g d gE gB gD _ _ _ F5.o.ws (B5.o.mono (by decide)) (F5.o.sb Ol.o) (F5.o.S8 HX.o) hd24 F5.o.cR F5.o.dR F5.o.cQ F5.o.o1 F5.o.o2 F5.o.o0)).mono ?_
      rintro e w6 ⟨v6,rfl,hF⟩;obtain⟨s6,hs6⟩:∃x,x=I.im hd.o a (I.within (d+1) a) s5:=⟨_,rfl⟩;rw[←hs6]at hF;have F6:=cN hF;have B6:Hid (I.Bd 4248 s6):=by show I.Bd 4248 s6;rw[hs6];exact(I.Bd.kid B5.o fun st hs=>I.Bd.within _ _ (aa _) hs).mono (by unfold I.kD;omega)
      have E6:=cN hs6.symm;clear hF hs6 cB;have cB:=F6.o.dR.cell 0;simp at cB;have HS:Hid (I.within d (.mk hd [a]) s3=s6):=by
       show _=_;unfold I.within;rw[if_neg QZ.o,if_pos h];try simp only[←HT.o]
       rw[E5.o,E6.o]
      go_wp2_with fail
      rw[HS.o];exact ae (v:=.tuple #[]) (aA rfl _ _ _) rfl F6.o.done
    ·have t1:=cO hd.o 1 (by omega);have t2:=cO hd.o 2 (by omega);have t21:=cO hd.o 21 (by omega);have t3:=cO hd.o 3 (by omega);have t15:=cO hd.o 15 (by omega);have t16:((hd.o.toNat:Int)==16)=true:=aV.2 (by omega);have t17:=cO hd.o 17 (by omega);have t18:=cO hd.o 18 (by omega);have t19:=cO hd.o 19 (by omega);have t20:=cO hd.o 20 (by omega);go_wp2_with fail
     with_reducible refine(F4.o.sub (lv D' HW.o hd A _ c _ 0 0 rfl a rfl (Qk.o.kid (by simp)) g d gE gB gD _ _ _ F4.o.ws (B3.o.mono (by decide)) (F4.o.sb Ol.o) (F4.o.S8 HX.o) hd24 F4.o.cR F4.o.dR F4.o.cQ F4.o.o1 F4.o.o2 F4.o.o0)).mono ?_
     rintro e w5 ⟨v5,rfl,hF⟩;obtain⟨s5,hs5⟩:∃x,x=I.im hd.o a (I.within (d+1) a) s3:=⟨_,rfl⟩;rw[←hs5]at hF;have F5:=cN hF;have B5:Hid (I.Bd 4248 s5):=by show I.Bd 4248 s5;rw[hs5];exact(I.Bd.kid B3.o fun st hs=>I.Bd.within _ _ (aa _) hs).mono (by unfold I.kD;omega)
     have E5:=cN hs5.symm;clear hF hs5 cB;have cB:=F5.o.dR.cell 0;simp at cB;go_wp2_with fail
     with_reducible refine(dL F5.o (n:=2) (cells:=#[.string ⟨#[105,115]⟩,.string ⟨#[110,117,108,108]⟩]) [[105,115],[110,117,108,108]] rfl rfl (by decide) (by decide) (by have:=B5.o.le;omega)).mono ?_
     rintro e w6 ⟨v6,s6,hs6,rfl,hF⟩;have F6:=cN hF;have E6:=cN hs6;have B6:Hid (I.Bd 4250 s6):=by show I.Bd 4250 s6;rw[←hs6];exact I.Bd.mono (I.Bd.dM 2 B5.o (by rfl)) (by decide)
     clear hF hs6 cB;have cB:=F6.o.dR.cell 0;simp at cB;have HS:Hid (I.within d (.mk hd [a]) s3=s6):=by
      show _=_;unfold I.within;rw[if_neg QZ.o,if_neg (by omega),if_pos h];try simp only[←HT.o]
      rw[E5.o,E6.o]
     go_wp2_with fail
     rw[HS.o];exact ae (v:=.tuple #[]) (aA rfl _ _ _) rfl F6.o.done
    ·obtain⟨h1,h2⟩:=h;obtain h|h|h|h:hd.o.toNat=17∨hd.o.toNat=18∨hd.o.toNat=19∨hd.o.toNat=20:=by omega
     ·have t1:=cO hd.o 1 (by omega);have t2:=cO hd.o 2 (by omega);have t21:=cO hd.o 21 (by omega);have t3:=cO hd.o 3 (by omega);have t15:=cO hd.o 15 (by omega);have t16:=cO hd.o 16 (by omega);have t17:((hd.o.toNat:Int)==17)=true:=aV.2 (by omega);have t18:=cO hd.o 18 (by omega);have t19:=cO hd.o 19 (by omega);have t20:=cO hd.o 20 (by omega);go_wp2_with fail
      with_reducible refine(dL F4.o (n:=2) (cells:=#[.string (I.bs T),.string ⟨#[40]⟩]) [T,[40]] rfl rfl (by decide) (fun s hs=>by simp only[af,aj,aH]at hs;rcases hs with rfl|rfl<;>first|omega|decide) (by have:=B3.o.le;omega)).mono ?_
      rintro e w5 ⟨v5,s5,hs5,rfl,hF⟩;have F5:=cN hF;have E5:=cN hs5;have B5:Hid (I.Bd 4099 s5):=by show I.Bd 4099 s5;rw[←hs5];exact I.Bd.mono (I.Bd.dM 2 B3.o (by rfl)) (by decide)
      clear hF hs5 cB;have cB:=F5.o.dR.cell 0;simp at cB;have c7:=F5.o.cR.cell 7;simp at c7;go_wp2_with fail
      with_reducible refine(F5.o.sub (lv D' HW.o hd A _ c _ 0 0 rfl a rfl (Qk.o.kid (by simp)) g d gE gB gD _ _ _ F5.o.ws (B5.o.mono (by decide)) (F5.o.sb Ol.o) (F5.o.S8 HX.o) hd24 F5.o.cR F5.o.dR F5.o.cQ F5.o.o1 F5.o.o2 F5.o.o0)).mono ?_
      rintro e w6 ⟨v6,rfl,hF⟩;obtain⟨s6,hs6⟩:∃x,x=I.im hd.o a (I.within (d+1) a) s5:=⟨_,rfl⟩;rw[←hs6]at hF;have F6:=cN hF;have B6:Hid (I.Bd 4248 s6):=by show I.Bd 4248 s6;rw[hs6];exact(I.Bd.kid B5.o fun st hs=>I.Bd.within _ _ (aa _) hs).mono (by unfold I.kD;omega)
      have E6:=cN hs6.symm;clear hF hs6 cB;have cB:=F6.o.dR.cell 0;simp at cB;go_wp2_with fail
      with_reducible refine(dL F6.o (n:=1) (cells:=#[.string ⟨#[41]⟩]) [[41]] rfl rfl (by decide) (by decide) (by have:=B6.o.le;omega)).mono ?_
      rintro e w7 ⟨v7,s7,hs7,rfl,hF⟩;have F7:=cN hF;have E7:=cN hs7;have B7:Hid (I.Bd 4249 s7):=by show I.Bd 4249 s7;rw[←hs7];exact I.Bd.mono (I.Bd.dM 1 B6.o (by rfl)) (by decide)
      clear hF hs7 cB;have cB:=F7.o.dR.cell 0;simp at cB;have HS:Hid (I.within d (.mk hd [a]) s3=s7):=by
       show _=_;unfold I.within;rw[if_neg QZ.o,if_neg (by omega),if_neg (by omega)];try simp only[←HT.o]
       rw[E5.o,E6.o,E7.o]
      go_wp2_with fail
      rw[HS.o];exact ae (v:=.tuple #[]) (aA rfl _ _ _) rfl F7.o.done
     ·have t1:=cO hd.o 1 (by omega);have t2:=cO hd.o 2 (by omega);have t21:=cO hd.o 21 (by omega);have t3:=cO hd.o 3 (by omega);have t15:=cO hd.o 15 (by omega);have t16:=cO hd.o 16 (by omega);have t17:=cO hd.o 17 (by omega);have t18:((hd.o.toNat:Int)==18)=true:=aV.2 (by omega);have t19:=cO hd.o 19 (by omega);have t20:=cO hd.o 20 (by omega);go_wp2_with fail
      with_reducible refine(dL F4.o (n:=2) (cells:=#[.string (I.bs T),.string ⟨#[40]⟩]) [T,[40]] rfl rfl (by decide) (fun s hs=>by simp only[af,aj,aH]at hs;rcases hs with rfl|rfl<;>first|omega|decide) (by have:=B3.o.le;omega)).mono ?_
      rintro e w5 ⟨v5,s5,hs5,rfl,hF⟩;have F5:=cN hF;have E5:=cN hs5;have B5:Hid (I.Bd 4099 s5):=by show I.Bd 4099 s5;rw[←hs5];exact I.Bd.mono (I.Bd.dM 2 B3.o (by rfl)) (by decide)
      clear hF hs5 cB;have cB:=F5.o.dR.cell 0;simp at cB;have c7:=F5.o.cR.cell 7;simp at c7;go_wp2_with fail
      with_reducible refine(F5.o.sub (lv D' HW.o hd A _ c _ 0 0 rfl a rfl (Qk.o.kid (by simp)) g d gE gB gD _ _ _ F5.o.ws (B5.o.mono (by decide)) (F5.o.sb Ol.o) (F5.o.S8 HX.o) hd24 F5.o.cR F5.o.dR F5.o.cQ F5.o.o1 F5.o.o2 F5.o.o0)).mono ?_
      rintro e w6 ⟨v6,rfl,hF⟩;obtain⟨s6,hs6⟩:∃x,x=I.im hd.o a (I.within (d+1) a) s5:=⟨_,rfl⟩;rw[←hs6]at hF;have F6:=cN hF;have B6:Hid (I.Bd 4248 s6):=by show I.Bd 4248 s6;rw[hs6];exact(I.Bd.kid B5.o fun st hs=>I.Bd.within _ _ (aa _) hs).mono (by unfold I.kD;omega)
      have E6:=cN hs6.symm;clear hF hs6 cB;have cB:=F6.o.dR.cell 0;simp at cB;go_wp2_with fail
      with_reducible refine(dL F6.o (n:=1) (cells:=#[.string ⟨#[41]⟩]) [[41]] rfl rfl (by decide) (by decide) (by have:=B6.o.le;omega)).mono ?_
      rintro e w7 ⟨v7,s7,hs7,rfl,hF⟩;have F7:=cN hF;have E7:=cN hs7;have B7:Hid (I.Bd 4249 s7):=by show I.Bd 4249 s7;rw[←hs7];exact I.Bd.mono (I.Bd.dM 1 B6.o (by rfl)) (by decide)
      clear hF hs7 cB;have cB:=F7.o.dR.cell 0;simp at cB;have HS:Hid (I.within d (.mk hd [a]) s3=s7):=by
       show _=_;unfold I.within;rw[if_neg QZ.o,if_neg (by omega),if_neg (by omega)];try simp only[←HT.o]
       rw[E5.o,E6.o,E7.o]
      go_wp2_with fail
      rw[HS.o];exact ae (v:=.tuple #[]) (aA rfl _ _ _) rfl F7.o.done
     ·have t1:=cO hd.o 1 (by omega);have t2:=cO hd.o 2 (by omega);have t21:=cO hd.o 21 (by omega);have t3:=cO hd.o 3 (by omega);have t15:=cO hd.o 15 (by omega);have t16:=cO hd.o 16 (by omega);have t17:=cO hd.o 17 (by omega);have t18:=cO hd.o 18 (by omega);have t19:((hd.o.toNat:Int)==19)=true:=aV.2 (by omega);have t20:=cO hd.o 20 (by omega);go_wp2_with fail
      with_reducible refine(dL F4.o (n:=2) (cells:=#[.string (I.bs T),.string ⟨#[40]⟩]) [T,[40]] rfl rfl (by decide) (fun s hs=>by simp only[af,aj,aH]at hs;rcases hs with rfl|rfl<;>first|omega|decide) (by have:=B3.o.le;omega)).mono ?_
      rintro e w5 ⟨v5,s5,hs5,rfl,hF⟩;have F5:=cN hF;have E5:=cN hs5;have B5:Hid (I.Bd 4099 s5):=by show I.Bd 4099 s5;rw[←hs5];exact I.Bd.mono (I.Bd.dM 2 B3.o (by rfl)) (by decide)
      clear hF hs5 cB;have cB:=F5.o.dR.cell 0;simp at cB;have c7:=F5.o.cR.cell 7;simp at c7;go_wp2_with fail
      with_reducible refine(F5.o.sub (lv D' HW.o hd A _ c _ 0 0 rfl a rfl (Qk.o.kid (by simp)) g d gE gB gD _ _ _ F5.o.ws (B5.o.mono (by decide)) (F5.o.sb Ol.o) (F5.o.S8 HX.o) hd24 F5.o.cR F5.o.dR F5.o.cQ F5.o.o1 F5.o.o2 F5.o.o0)).mono ?_
      rintro e w6 ⟨v6,rfl,hF⟩;obtain⟨s6,hs6⟩:∃x,x=I.im hd.o a (I.within (d+1) a) s5:=⟨_,rfl⟩;rw[←hs6]at hF;have F6:=cN hF;have B6:Hid (I.Bd 4248 s6):=by show I.Bd 4248 s6;rw[hs6];exact(I.Bd.kid B5.o fun st hs=>I.Bd.within _ _ (aa _) hs).mono (by unfold I.kD;omega)
      have E6:=cN hs6.symm;clear hF hs6 cB;have cB:=F6.o.dR.cell 0;simp at cB;go_wp2_with fail
      with_reducible refine(dL F6.o (n:=1) (cells:=#[.string ⟨#[41]⟩]) [[41]] rfl rfl (by decide) (by decide) (by have:=B6.o.le;omega)).mono ?_
      rintro e w7 ⟨v7,s7,hs7,rfl,hF⟩;have F7:=cN hF;have E7:=cN hs7;have B7:Hid (I.Bd 4249 s7):=by show I.Bd 4249 s7;rw[←hs7];exact I.Bd.mono (I.Bd.dM 1 B6.o (by rfl)) (by decide)
      clear hF hs7 cB;have cB:=F7.o.dR.cell 0;simp at cB;have HS:Hid (I.within d (.mk hd [a]) s3=s7):=by
       show _=_;unfold I.within;rw[if_neg QZ.o,if_neg (by omega),if_neg (by omega)];try simp only[←HT.o]
       rw[E5.o,E6.o,E7.o]
      go_wp2_with fail
      rw[HS.o];exact ae (v:=.tuple #[]) (aA rfl _ _ _) rfl F7.o.done
     ·have t1:=cO hd.o 1 (by omega);have t2:=cO hd.o 2 (by omega);have t21:=cO hd.o 21 (by omega);have t3:=cO hd.o 3 (by omega);have t15:=cO hd.o 15 (by omega);have t16:=cO hd.o 16 (by omega);have t17:=cO hd.o 17 (by omega);have t18:=cO hd.o 18 (by omega);have t19:=cO hd.o 19 (by omega);have t20:((hd.o.toNat:Int)==20)=true:=aV.2 (by omega);go_wp2_with fail
      with_reducible refine(dL F4.o (n:=2) (cells:=#[.string (I.bs T),.string ⟨#[40]⟩]) [T,[40]] rfl rfl (by decide) (fun s hs=>by simp only[af,aj,aH]at hs;rcases hs with rfl|rfl<;>first|omega|decide) (by have:=B3.o.le;omega)).mono ?_
      rintro e w5 ⟨v5,s5,hs5,rfl,hF⟩;have F5:=cN hF;have E5:=cN hs5;have B5:Hid (I.Bd 4099 s5):=by show I.Bd 4099 s5;rw[←hs5];exact I.Bd.mono (I.Bd.dM 2 B3.o (by rfl)) (by decide)
      clear hF hs5 cB;have cB:=F5.o.dR.cell 0;simp at cB;have c7:=F5.o.cR.cell 7;simp at c7;go_wp2_with fail
      with_reducible refine(F5.o.sub (lv D' HW.o hd A _ c _ 0 0 rfl a rfl (Qk.o.kid (by simp)) g d gE gB gD _ _ _ F5.o.ws (B5.o.mono (by decide)) (F5.o.sb Ol.o) (F5.o.S8 HX.o) hd24 F5.o.cR F5.o.dR F5.o.cQ F5.o.o1 F5.o.o2 F5.o.o0)).mono ?_
      rintro e w6 ⟨v6,rfl,hF⟩;obtain⟨s6,hs6⟩:∃x,x=I.im hd.o a (I.within (d+1) a) s5:=⟨_,rfl⟩;rw[←hs6]at hF;have F6:=cN hF;have B6:Hid (I.Bd 4248 s6):=by show I.Bd 4248 s6;rw[hs6];exact(I.Bd.kid B5.o fun st hs=>I.Bd.within _ _ (aa _) hs).mono (by unfold I.kD;omega)
      have E6:=cN hs6.symm;clear hF hs6 cB;have cB:=F6.o.dR.cell 0;simp at cB;go_wp2_with fail
      with_reducible refine(dL F6.o (n:=1) (cells:=#[.string ⟨#[41]⟩]) [[41]] rfl rfl (by decide) (by decide) (by have:=B6.o.le;omega)).mono ?_
      rintro e w7 ⟨v7,s7,hs7,rfl,hF⟩;have F7:=cN hF;have E7:=cN hs7;have B7:Hid (I.Bd 4249 s7):=by show I.Bd 4249 s7;rw[←hs7];exact I.Bd.mono (I.Bd.dM 1 B6.o (by rfl)) (by decide)
      clear hF hs7 cB;have cB:=F7.o.dR.cell 0;simp at cB;have HS:Hid (I.within d (.mk hd [a]) s3=s7):=by
       show _=_;unfold I.within;rw[if_neg QZ.o,if_neg (by omega),if_neg (by omega)];try simp only[←HT.o]
       rw[E5.o,E6.o,E7.o]
      go_wp2_with fail
      rw[HS.o];exact ae (v:=.tuple #[]) (aA rfl _ _ _) rfl F7.o.done
   ·obtain rfl:m=2:=HM.o;obtain⟨D',rfl⟩:∃D',D=D'+1:=by
     cases D with
     |zero=>obtain⟨_,h⟩:=HX.o;cases h
     |succ q=>exact⟨q,rfl⟩
    have HW:=cN (HK.o D' rfl);clear HK;have QZ:Hid (¬(I.dx (decide (24<d)||decide ((2:Int)≠I.dv hd.o 2)) s3).b=true):=cN QZ.o;obtain⟨h1,h2⟩:=I.MP hkk;have t1:=cO hd.o 1 (by omega);have t2:=cO hd.o 2 (by omega);have t21:=cO hd.o 21 (by omega);have t3:=cO hd.o 3 (by omega);have t15:=cO hd.o 15 (by omega);have t16:=cO hd.o 16 (by omega);have t17:=cO hd.o 17 (by omega);have t18:=cO hd.o 18 (by omega);have t19:=cO hd.o 19 (by omega);have t20:=cO hd.o 20 (by omega);go_wp2_with fail
    with_reducible refine(F4.o.sub (lv D' HW.o hd A _ c _ 0 0 rfl a rfl (Qk.o.kid (by simp)) g d gE gB gD _ _ _ F4.o.ws (B3.o.mono (by decide)) (F4.o.sb Ol.o) (F4.o.S8 HX.o) hd24 F4.o.cR F4.o.dR F4.o.cQ F4.o.o1 F4.o.o2 F4.o.o0)).mono ?_
    rintro e w5 ⟨v5,rfl,hF⟩;obtain⟨s5,hs5⟩:∃x,x=I.im hd.o a (I.within (d+1) a) s3:=⟨_,rfl⟩;rw[←hs5]at hF;have F5:=cN hF;have B5:Hid (I.Bd 4248 s5):=by show I.Bd 4248 s5;rw[hs5];exact(I.Bd.kid B3.o fun st hs=>I.Bd.within _ _ (aa _) hs).mono (by unfold I.kD;omega)
    have E5:=cN hs5.symm;clear hF hs5 cB;have cB:=F5.o.dR.cell 0;simp at cB;go_wp2_with fail
    with_reducible refine(dL F5.o (n:=1) (cells:=#[.string (I.bs T)]) [T] rfl rfl (by decide) (fun s hs=>by simp only[af,aj,aH]at hs;subst hs;omega) (by have:=B5.o.le;omega)).mono ?_
    rintro e w6 ⟨v6,s6,hs6,rfl,hF⟩;have F6:=cN hF;have E6:=cN hs6;have B6:Hid (I.Bd 4249 s6):=by show I.Bd 4249 s6;rw[←hs6];exact I.Bd.mono (I.Bd.dM 1 B5.o (by rfl)) (by decide)
    clear hF hs6 cB;have cB:=F6.o.dR.cell 0;simp at cB;go_wp2_with fail
    with_reducible refine(F6.o.sub (lv D' HW.o hd A _ c _ 1 1 rfl b rfl (Qk.o.kid (by simp)) g d gE gB gD _ _ _ F6.o.ws (B6.o.mono (by decide)) (F6.o.sb Ol.o) (F6.o.S8 HX.o) hd24 F6.o.cR F6.o.dR F6.o.cQ F6.o.o1 F6.o.o2 F6.o.o0)).mono ?_
    rintro e w7 ⟨v7,rfl,hF⟩;obtain⟨s7,hs7⟩:∃x,x=I.im hd.o b (I.within (d+1) b) s6:=⟨_,rfl⟩;rw[←hs7]at hF;have F7:=cN hF;have B7:Hid (I.Bd 4251 s7):=by show I.Bd 4251 s7;rw[hs7];exact(I.Bd.kid B6.o fun st hs=>I.Bd.within _ _ (aa _) hs).mono (by unfold I.kD;omega)
    have E7:=cN hs7.symm;clear hF hs7 cB;have cB:=F7.o.dR.cell 0;simp at cB;have HS:Hid (I.within d (.mk hd [a,b]) s3=s7):=by
     show _=_;unfold I.within;rw[if_neg QZ.o];try simp only[←HT.o]
     rw[E5.o,E6.o,E7.o]
    go_wp2_with fail
    rw[HS.o];exact ae (v:=.tuple #[]) (aA rfl _ _ _) rfl F7.o.done
   ·exfalso;have h1:=I.sS hd.o m;have h2:=HM.o;simp only[ab]at h2;omega
end
end Go.Proofs.YtnicfobpclehkaaGreatDoor
