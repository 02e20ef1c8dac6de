import Derived.Test.YtnicfobpclehkaaGreatDoorP9
set_option maxHeartbeats 3200000
set_option linter.unusedVariables false
set_option linter.unusedSimpArgs false
namespace Go.Proofs.YtnicfobpclehkaaGreatDoor
open Go.RowKit
section
set_option maxRecDepth 100000
namespace I
theorem Gt{ss:List Bs}{k:Nat}{s:Bs}(h:ss[k]?=some s)(st:Wr):put (ss.drop k) st=put (ss.drop (k+1)) (fA s st):=by
 obtain⟨hk,e⟩:=ay.1 h;rw[aY hk,e,put]
end I
abbrev Po (g:Nat) (v:Value) (w:World):Nat→Prop:=fun k=>k<w.heap.size∧k≠g∧v.ownBlock≠some k
theorem Fw.Ns{g:Nat}{w0 w:World}{v0 v:Value}{own:eP}{st:I.Wr}(h:Fw g w0 v0 own st v w){α:Type}{E:El α}{u:Value}{xs:List α}(hx:Rr E w0 (Po g v0 w0) u xs):Rr E w (Po g v0 w0) u xs:=Rr.hp hx (fun _ h=>h) fun b hb=>h.ch.block b hb.1 hb.2.1 hb.2.2
theorem lN(s:I.Bs):(I.bs s).size=s.length:=by simp[I.bs,ByteArray.size]
theorem xP(s:I.Bs):(I.bs s).toList.isEmpty=decide (s=[]):=by
 rw[ByteArray.toList_eq,dA];cases s<;>rfl
theorem kv(g:Nat)(u v:Value)(ss:List I.Bs)(st:I.Wr)(w:World)(h:WS g w v st)(hl:Rr Ql w (Po g v w) u ss)(hz:∀s∈ss,s.length<562949953421311)(hp:st.p.length+ss.length≤9000):
 Calls Tryz.prog 82 #[.pointer (some ⟨g,0,none⟩),u] w (gm g w v (I.put ss st)):=by
 obtain⟨A,c,rfl,hc1,hc2⟩:=hl.form;obtain⟨n,hn⟩:∃n,n=ss.length:=⟨_,rfl⟩;rw[←hn]at hl hc1 hp⊢;have HN:=cN hn;have F0:=cN (Fw.start h);have HL:=cN hl;have HZ:=cN hz;clear h hl hn hz;go_enter Tryz.func82,Tryz.ntmps82;go_wp2_with fail
 go_loopg [8] n (fun gg i wr=>∃(k:Nat) (s1:I.Wr) (v1:Value),k≤n∧gg=n-k∧i=.int .i64 (k:Nat)∧s1.p.length=st.p.length+k∧Hid (I.put ss st=I.put (ss.drop k) s1)∧Hid (Fw g w v [] s1 v1 wr));case atStart=>exact⟨0,st,v,ao _,rfl,rfl,rfl,cN rfl,F0⟩
 case round=>
  obtain⟨k,s1,v1,hk,rfl,rfl,hs1,HE,F1⟩:=hrel;obtain⟨w5,Qc⟩:∃w5,w5=wr:=⟨_,rfl⟩;subst Qc;obtain⟨sp,sn,sb⟩:=s1;by_cases hlt:k<n
  ·have Tn:=cN (F1.o.Ns HL.o);obtain⟨b,off,s,cs,rfl,hb,hsk,hcs,hcell⟩:=Tn.o.at hlt;have e1:cs=[.string (I.bs s)]:=hcs;subst e1;have c0:=hcell 0 _ rfl;simp[Ql]at c0;have HS:=cN (I.Gt hsk ⟨sp,sn,sb⟩);have q1:(k:Int)<(n:Int):=by omega
   have hz1:=HZ.o s (aR hsk);clear hsk hcs hcell hb Tn;have d0:=F1.o.ws.blk.cell 0;simp at d0;have hnp:=F1.o.ws.np;have hs1:sp.length=st.p.length+k:=hs1;have hnp:sn≤sp.length*562949953421312:=hnp;obtain⟨w6,Qd⟩:∃x,x=w5.alloc (.cells #[.string (I.bs s)] 9):=⟨_,rfl⟩;have Us:=cN (show NA w6 w5.heap.size 9 #[.string (I.bs s)] by rw[Qd];exact NA.new w5 _ _);have HO6:=cN (show Ro Ql w6 (g+1) v1 sp by rw[Qd];exact F1.o.ws.own.alloc _);have RR:=cN (show Ql.R w6 (Pow w6 (g+1) v1) ([.string (I.bs s)]) s from rfl);have XA:g+1≤w6.heap.size:=by have:=F1.o.lt;have:=F1.o.ch.size;rw[Qd];simp;omega
   have e8:(sp++[s]).length=st.p.length+k+1:=by simp;omega
   go_upto_region 4 with(at_builtin;rw[←Qd];refine sD IB rfl (.tmp 16) (.tmp 18) Tryz.underlying62 rfl (g+1) _ sp rfl HO6.o w5.heap.size 1 ([.string (I.bs s)]) s rfl Us.o RR.o (by show(sp.length+1)*16≤140737488355328;omega) (by unfold maxLen;omega) XA ?_;intro v7 w7 WG T0 Zx;obtain⟨A7,c7,rfl,_,_⟩:=WG.form;have VG:=cN (F1.o.part _ Qd WG T0 Zx);have VH:NA w7 g 94 #[v1,.int .i64 (sn:Int),.bool sb]:=(F1.o.tmp _).ws.blk.grown (by rw[Qd]at T0;exact T0) (fun e=>by have:=(F1.o.ws.ob g e.symm).1;omega);have d7:=VH.cell 0;simp at d7;have f7:=VH.frozen 0;rw[e8]at VG;clear VH WG T0 Zx)
   obtain⟨w8,hw8⟩:∃x,x=w7.setCell ⟨g,0,none⟩ (.slice A7 (st.p.length+k+1) c7):=⟨_,rfl⟩;rw[←hw8]at VG;rw[←hw8];have b1:=VG.o.ws.blk.cell 1;have z1:=VG.o.ws.blk.frozen 1;simp at b1;clear hw8 d7 f7;have q2:sn+(s.length+1)≤(sp++[s]).length*562949953421312:=by rw[e8];omega
   have e9:=lN s;have WH:=cN (VG.o.M4 q2);go_upto_region 5 with fail
   obtain⟨w9,T3⟩:∃x,x=w8.setCell ⟨g,1,none⟩ (.int .i64 ((sn:Int)+((s.length:Int)+1))):=⟨_,rfl⟩;have e10:(((sn+(s.length+1):Nat)):Int)=(sn:Int)+((s.length:Int)+1):=by omega
   rw[e10,←T3]at WH;rw[←T3];have b9:=WH.o.ws.blk.cell 1;simp at b9;have HT:Hid (I.fA s ⟨sp,sn,sb⟩=I.dx (decide (s=[])||decide (4097<sn+(s.length+1))) ⟨sp++[s],sn+(s.length+1),sb⟩):=cN rfl;have HI:=cN (xP s);clear T3 b1 z1 e10 e9;by_cases h0:s=[]
   ·have t1:(I.bs s).toList.isEmpty=true:=by rw[HI.o];exact aq h0
    have HQ:Hid (I.fA s ⟨sp,sn,sb⟩=I.dx true ⟨sp++[s],sn+(s.length+1),sb⟩):=by show _=_;rw[HT.o,aq h0,Bool.true_or]
    clear h0;go_wp2_with fail
    with_reducible refine(WH.o.sub (o4 _ WH.o.ws)).mono ?_
    rintro e RU ⟨v10,rfl,hF⟩;have Pj:=cN hF;clear hF;have HE2:Hid (I.put ss st=I.put (ss.drop (k+1)) (I.dx true ⟨sp++[s],sn+(s.length+1),sb⟩)):=by show _=_;rw[HE.o,HS.o,HQ.o]
    go_wp2_with fail
    go_roundg (n-(k+1));case measure=>omega
    case rel=>exact⟨k+1,_,v10,by omega,rfl,by go_num,by simp[I.dx];omega,HE2,Pj⟩
   ·have t1:(I.bs s).toList.isEmpty=false:=by rw[HI.o];exact ar h0
    have HQ:Hid (I.fA s ⟨sp,sn,sb⟩=I.dx (decide ((4097:Int)<(sn:Int)+((s.length:Int)+1))) ⟨sp++[s],sn+(s.length+1),sb⟩):=by show _=_;rw[HT.o,ar h0,cz];congr 1;rw[aG,bX,bX];omega
    clear h0;go_wp2_with fail
    with_reducible refine(WH.o.sub (o4 _ WH.o.ws)).mono ?_
    rintro e RU ⟨v10,rfl,hF⟩;have Pj:=cN hF;clear hF;have HE2:Hid (I.put ss st=I.put (ss.drop (k+1)) (I.dx (decide ((4097:Int)<(sn:Int)+((s.length:Int)+1))) ⟨sp++[s],sn+(s.length+1),sb⟩)):=by show _=_;rw[HE.o,HS.o,HQ.o]
    go_wp2_with fail
    go_roundg (n-(k+1));case measure=>omega
    case rel=>exact⟨k+1,_,v10,by omega,rfl,by go_num,by simp[I.dx];omega,HE2,Pj⟩
  ·have hkn:k=n:=by omega
   have HE2:Hid (I.put ss st=⟨sp,sn,sb⟩):=by show _=_;rw[HE.o,hkn,HN.o,bT];rfl
   clear hkn;go_wp2_with fail
   go_end0;rw[HE2.o];exact F1.o.done
theorem nk(g:Nat)(b:Bool)(u v:Value)(ss:List I.Bs)(st:I.Wr)(w:World)(h:WS g w v st)(hl:Rr Ql w (Po g v w) u ss)(hz:∀s∈ss,s.length<562949953421311)(hp:st.p.length+ss.length≤9000):
 Calls Tryz.prog 84 #[.pointer (some ⟨g,0,none⟩),.bool b,u] w (gm g w v (I.option b ss st)):=by
 have F0:=cN (Fw.start h);have HL:=cN hl;have HZ:=cN hz;have hu:=hl.one;obtain⟨A,c,rfl,hc1,hc2⟩:=hl.form;clear h hl hz;cases b with
 |true=>
  go_enter Tryz.func84,Tryz.ntmps84;go_wp2_with fail
  with_reducible refine(kv g _ v ss st _ F0.o.ws HL.o HZ.o hp).mono ?_
  rintro e w2 ⟨rfl,hF⟩;go_wp2_with fail
  exact ae (v:=.tuple #[]) (aA rfl _ _ _) rfl ⟨rfl,hF⟩
 |false=>
  go_enter Tryz.func84,Tryz.ntmps84;go_wp2_with fail
  exact ae (v:=.tuple #[]) (aA rfl _ _ _) rfl F0.o.done
section
variable{g:Nat}{w0 w:World}{v0 v:Value}{own:eP}{st:I.Wr}
theorem yd(ss:List I.Bs):(ss.map fun s=>[Value.string (I.bs s)]).flatten=ss.map fun s=>Value.string (I.bs s):=by
 induction ss with
 |nil=>rfl
 |cons a r ih=>rw[List.map_cons,List.flatten_cons,ih];rfl
theorem pH(F:Fw g w0 v0 own st v w){n:Nat}{t:TypeId}{cells:Array Value}{ss:List I.Bs}(hc:cells.toList=ss.map fun s=>Value.string (I.bs s))(hn:n=ss.length)(hm:n≤1000):Rr Ql (w.alloc (.cells cells t)) (Po g v (w.alloc (.cells cells t))) (.slice (some ⟨w.heap.size,0,none⟩) n n) ss:=by
 have hl:=F.ws.blk.lt;refine Rr.blk (E:=Ql) (css:=ss.map fun s=>[Value.string (I.bs s)]) (NA.new w t cells) (by rw[hc,yd]) (by simp) (fun i cs x hi hx=>?_) ⟨by simp,by omega,fun e=>?_⟩ hn (by omega)
 ·rw[bf,hx]at hi;simp at hi;exact hi.symm
 ·have:=(F.ws.ob _ e).2;exact Nat.lt_irrefl _ this
theorem dL(F:Fw g w0 v0 own st v w){n:Nat}{t:TypeId}{cells:Array Value}(ss:List I.Bs)(hc:cells.toList=ss.map fun s=>Value.string (I.bs s))(hn:n=ss.length)(hm:n≤1000)(hz:∀s∈ss,s.length<562949953421311)(hp:st.p.length+n≤9000):
 Calls Tryz.prog 82 #[.pointer (some ⟨g,0,none⟩),.slice (some ⟨w.heap.size,0,none⟩) n n] (w.alloc (.cells cells t)) fun e w'=>∃v' st',I.put ss st=st'∧e=.returned (.tuple #[])∧Fw g w0 v0 own st' v' w':=
 (kv g _ v ss st _ (F.tmp _).ws (pH F hc hn hm) hz (by omega)).mono fun _ _ ⟨h1,v',h2,h3,h4⟩=>⟨v',_,rfl,h1,(F.tmp _).call h2 h3 h4⟩
theorem dS(F:Fw g w0 v0 own st v w)(b:Bool){n:Nat}{t:TypeId}{cells:Array Value}(ss:List I.Bs)(hc:cells.toList=ss.map fun s=>Value.string (I.bs s))(hn:n=ss.length)(hm:n≤1000)(hz:∀s∈ss,s.length<562949953421311)(hp:st.p.length+n≤9000):
 Calls Tryz.prog 84 #[.pointer (some ⟨g,0,none⟩),.bool b,.slice (some ⟨w.heap.size,0,none⟩) n n] (w.alloc (.cells cells t)) fun e w'=>∃v' st',I.option b ss st=st'∧e=.returned (.tuple #[])∧Fw g w0 v0 own st' v' w':=
 (nk g b _ v ss st _ (F.tmp _).ws (pH F hc hn hm) hz (by omega)).mono fun _ _ ⟨h1,v',h2,h3,h4⟩=>⟨v',_,rfl,h1,(F.tmp _).call h2 h3 h4⟩
theorem gw(F:Fw g w0 v0 own st v w)(b:Bool):Calls Tryz.prog 92 #[.pointer (some ⟨g,0,none⟩),.bool b] w fun e w'=>∃v' st',I.dx b st=st'∧e=.returned (.tuple #[])∧Fw g w0 v0 own st' v' w':=
 (o4 b F.ws).mono fun _ _ ⟨h1,v',h2,h3,h4⟩=>⟨v',_,rfl,h1,F.call h2 h3 h4⟩
end
end
section
set_option maxRecDepth 100000
theorem jU(i:Int)(u:Value)(ss:List I.Bs)(P:Nat→Prop)(w:World)(hl:Rr Ql w P u ss):
 Calls Tryz.prog 159 #[.int .i64 i,u] w fun e w'=>e=.returned (.string (I.bs (I.word i ss)))∧w'=w:=by
 obtain⟨A,c,rfl,hc1,hc2⟩:=hl.form;obtain⟨n,hn⟩:∃n,n=ss.length:=⟨_,rfl⟩;rw[←hn]at hl hc1⊢;have HN:=cN hn;clear hn;by_cases h0:i<0
 ·have t1:decide (i<0)=true:=aq h0;have HE:Hid (I.word i ss=[]):=if_pos (.inl h0);clear h0;go_enter Tryz.func159,Tryz.ntmps159;go_wp2_with fail
  go_ret;rw[HE.o];exact⟨rfl,rfl⟩
 ·have t1:decide (i<0)=false:=ar h0;by_cases h1:(n:Int)≤i
  ·have t2:decide ((n:Int)≤i)=true:=aq h1;have HE:Hid (I.word i ss=[]):=if_pos (.inr (by rw[←HN.o];exact h1));clear h0 h1;go_enter Tryz.func159,Tryz.ntmps159;go_wp2_with fail
   go_ret;rw[HE.o];exact⟨rfl,rfl⟩
  ·have t2:decide ((n:Int)≤i)=false:=ar h1;obtain⟨k,rfl⟩:∃k:Nat,i=(k:Int):=⟨i.toNat,by omega⟩;have hk:k<n:=by omega
   obtain⟨b,off,s,cs,rfl,hb,hsk,hcs,hcell⟩:=hl.at hk;have e1:cs=[.string (I.bs s)]:=hcs;subst e1;have c0:=hcell 0 _ rfl;simp[Ql]at c0;have q1:(k:Int)<(n:Int):=by omega
   have q0:(0:Int)≤(k:Int):=by omega
   have HE:Hid (I.word (k:Int) ss=s):=by show I.word (k:Int) ss=s;unfold I.word;rw[if_neg (by rw[←HN.o];omega),show((k:Int)).toNat=k by omega,List.getD_eq_getElem?_getD,hsk];rfl
   clear hsk hcs hcell hb hl h0 h1;go_enter Tryz.func159,Tryz.ntmps159;go_wp2_with fail
   go_ret;rw[HE.o];exact⟨rfl,rfl⟩
theorem IE(i:Int)(w:World){n:Nat}{t:TypeId}{cells:Array Value}(ss:List I.Bs)(hc:cells.toList=ss.map fun s=>Value.string (I.bs s))(hn:n=ss.length)(hm:n≤1000):
 Calls Tryz.prog 159 #[.int .i64 i,.slice (some ⟨w.heap.size,0,none⟩) n n] (w.alloc (.cells cells t)) fun e w'=>∃r,I.word i ss=r∧e=.returned (.string (I.bs r))∧w'=w.alloc (.cells cells t):=
 (jU i _ ss (fun _=>True) _ (Rr.blk (E:=Ql) (css:=ss.map fun s=>[Value.string (I.bs s)]) (NA.new w t cells) (by rw[hc,yd]) (by simp) (fun i cs x hi hx=>by
  rw[bf,hx]at hi
  simp at hi
  exact hi.symm) trivial hn (by omega))).mono fun _ _ ⟨h1,h2⟩=>⟨_,rfl,h1,h2⟩
theorem yq(o:UInt8)(w:World):Calls Tryz.prog 227 #[.int .u8 (o.toNat:Int)] w fun e w'=>e=.returned (.string (I.bs (I.dw o)))∧Below w.heap.size w w':=by
 have ho:=o.toNat_lt;go_enter Tryz.func227,Tryz.ntmps227;go_wp2_with fail
 with_reducible refine(IE _ _ (n:=19) (cells:=#[.string ⟨#[45]⟩,.string ⟨#[43]⟩,.string ⟨#[45]⟩,.string ⟨#[42]⟩,.string ⟨#[61]⟩,.string ⟨#[60,62]⟩,.string ⟨#[60]⟩,.string ⟨#[60,61]⟩,.string ⟨#[62]⟩,.string ⟨#[62,61]⟩,.string ⟨#[97,110,100]⟩,.string ⟨#[111,114]⟩,.string ⟨#[110,111,116]⟩,.string ⟨#[]⟩,.string ⟨#[99,111,117,110,116]⟩,.string ⟨#[115,117,109]⟩,.string ⟨#[109,105,110]⟩,.string ⟨#[109,97,120]⟩,.string ⟨#[117,115,101,114]⟩]) [[45],[43],[45],[42],[61],[60,62],[60],[60,61],[62],[62,61],[97,110,100],[111,114],[110,111,116],[],[99,111,117,110,116],[115,117,109],[109,105,110],[109,97,120],[117,115,101,114]] rfl rfl (by decide)).mono ?_
 rintro e w2 ⟨r,hr,rfl,rfl⟩;have HR:=cN hr;clear hr;go_wp2_with fail
 go_ret;refine⟨by rw[←HR.o];rfl,(ax w.heap.size w).alloc (aa _) _⟩
theorem wy(o:UInt8)(w:World):Calls Tryz.prog 226 #[.int .u8 (o.toNat:Int)] w fun e w'=>e=.returned (.bool (I.gn o))∧w'=w:=by
 by_cases h0:3≤o.toNat
 ·have t1:decide ((3:Int)≤(o.toNat:Int))=true:=aq (by omega);by_cases h1:o.toNat≤16
  ·have t2:decide ((o.toNat:Int)≤16)=true:=aq (by omega);have HE:Hid (I.gn o=true):=by show _=_;unfold I.gn;rw[aq h0,aq h1];rfl
   clear h0 h1;go_enter Tryz.func226,Tryz.ntmps226;go_wp2_with fail
   go_ret;rw[HE.o];exact⟨rfl,rfl⟩
  ·have t2:decide ((o.toNat:Int)≤16)=false:=ar (by omega);have HE:Hid (I.gn o=false):=by show _=_;unfold I.gn;rw[ar h1,cH]
   clear h0 h1;go_enter Tryz.func226,Tryz.ntmps226;go_wp2_with fail
   go_ret;rw[HE.o];exact⟨rfl,rfl⟩
 ·have t1:decide ((3:Int)≤(o.toNat:Int))=false:=ar (by omega);have HE:Hid (I.gn o=false):=by show _=_;unfold I.gn;rw[ar h0,Bool.false_and]
  clear h0;go_enter Tryz.func226,Tryz.ntmps226;go_wp2_with fail
  go_ret;rw[HE.o];exact⟨rfl,rfl⟩
end
section
set_option maxRecDepth 100000
theorem zG(h:Ev.Hd)(A:Option Addr)(m c:Nat)(w:World)(hm:m≤9223372036854775807):Calls Tryz.prog 224 #[Vz h A m c] w fun e w'=>e=.returned (.int .i64 (I.dv h.o m))∧Below w.heap.size w w':=by
 unfold Vz;by_cases g0:h.o.toNat=1
 ·skip;have t1:((h.o.toNat:Int)==1)=true:=aV.2 (by omega);have t2:=cO h.o 2 (by omega);have t3:=cO h.o 21 (by omega);have t4:=cO h.o 3 (by omega);have t5:=cO h.o 15 (by omega);have t6:=cO h.o 16 (by omega);have t7:=cO h.o 17 (by omega);have t8:decide ((3:Int)<(h.o.toNat:Int))=false:=ar (by omega);have t9:decide ((h.o.toNat:Int)<15)=true:=aq (by omega);have t10:decide ((17:Int)<(h.o.toNat:Int))=false:=ar (by omega);have t11:decide ((h.o.toNat:Int)≤20)=true:=aq (by omega);skip;have HE:Hid (I.dv h.o m=0):=by
   show _=_;unfold I.dv;repeat' split
   all_goals first|rfl|omega
  clear g0;go_enter Tryz.func224,Tryz.ntmps224;go_wp2_with fail
  go_ret;rw[HE.o];exact⟨rfl,(ax w.heap.size w).alloc (aa _) _⟩
 ·skip;by_cases g1:h.o.toNat=2
  ·skip;have t1:=cO h.o 1 (by omega);have t2:((h.o.toNat:Int)==2)=true:=aV.2 (by omega);have t3:=cO h.o 21 (by omega);have t4:=cO h.o 3 (by omega);have t5:=cO h.o 15 (by omega);have t6:=cO h.o 16 (by omega);have t7:=cO h.o 17 (by omega);have t8:decide ((3:Int)<(h.o.toNat:Int))=false:=ar (by omega);have t9:decide ((h.o.toNat:Int)<15)=true:=aq (by omega);have t10:decide ((17:Int)<(h.o.toNat:Int))=false:=ar (by omega);have t11:decide ((h.o.toNat:Int)≤20)=true:=aq (by omega);skip;have HE:Hid (I.dv h.o m=0):=by
    show _=_;unfold I.dv;repeat' split
    all_goals first|rfl|omega
   clear g0 g1;go_enter Tryz.func224,Tryz.ntmps224;go_wp2_with fail
   go_ret;rw[HE.o];exact⟨rfl,(ax w.heap.size w).alloc (aa _) _⟩
  ·skip;by_cases g2:h.o.toNat=21
   ·skip;have t1:=cO h.o 1 (by omega);have t2:=cO h.o 2 (by omega);have t3:((h.o.toNat:Int)==21)=true:=aV.2 (by omega);have t4:=cO h.o 3 (by omega);have t5:=cO h.o 15 (by omega);have t6:=cO h.o 16 (by omega);have t7:=cO h.o 17 (by omega);have t8:decide ((3:Int)<(h.o.toNat:Int))=true:=aq (by omega);have t9:decide ((h.o.toNat:Int)<15)=false:=ar (by omega);have t10:decide ((17:Int)<(h.o.toNat:Int))=true:=aq (by omega);have t11:decide ((h.o.toNat:Int)≤20)=false:=ar (by omega);skip;have HE:Hid (I.dv h.o m=0):=by
     show _=_;unfold I.dv;repeat' split
     all_goals first|rfl|omega
    clear g0 g1 g2;go_enter Tryz.func224,Tryz.ntmps224;go_wp2_with fail
    go_ret;rw[HE.o];exact⟨rfl,(ax w.heap.size w).alloc (aa _) _⟩
   ·skip;by_cases g3:h.o.toNat=3
    ·skip;have t1:=cO h.o 1 (by omega);have t2:=cO h.o 2 (by omega);have t3:=cO h.o 21 (by omega);have t4:((h.o.toNat:Int)==3)=true:=aV.2 (by omega);have t5:=cO h.o 15 (by omega);have t6:=cO h.o 16 (by omega);have t7:=cO h.o 17 (by omega);have t8:decide ((3:Int)<(h.o.toNat:Int))=false:=ar (by omega);have t9:decide ((h.o.toNat:Int)<15)=true:=aq (by omega);have t10:decide ((17:Int)<(h.o.toNat:Int))=false:=ar (by omega);have t11:decide ((h.o.toNat:Int)≤20)=true:=aq (by omega);skip;have HE:Hid (I.dv h.o m=1):=by
      show _=_;unfold I.dv;repeat' split
      all_goals first|rfl|omega
     clear g0 g1 g2 g3;go_enter Tryz.func224,Tryz.ntmps224;go_wp2_with fail
     go_ret;rw[HE.o];exact⟨rfl,(ax w.heap.size w).alloc (aa _) _⟩
    ·skip;by_cases g4:h.o.toNat=15
     ·skip;have t1:=cO h.o 1 (by omega);have t2:=cO h.o 2 (by omega);have t3:=cO h.o 21 (by omega);have t4:=cO h.o 3 (by omega);have t5:((h.o.toNat:Int)==15)=true:=aV.2 (by omega);have t6:=cO h.o 16 (by omega);have t7:=cO h.o 17 (by omega);have t8:decide ((3:Int)<(h.o.toNat:Int))=true:=aq (by omega);have t9:decide ((h.o.toNat:Int)<15)=false:=ar (by omega);have t10:decide ((17:Int)<(h.o.toNat:Int))=false:=ar (by omega);have t11:decide ((h.o.toNat:Int)≤20)=true:=aq (by omega);skip;have HE:Hid (I.dv h.o m=1):=by
       show _=_;unfold I.dv;repeat' split
       all_goals first|rfl|omega
      clear g0 g1 g2 g3 g4;go_enter Tryz.func224,Tryz.ntmps224;go_wp2_with fail
      go_ret;rw[HE.o];exact⟨rfl,(ax w.heap.size w).alloc (aa _) _⟩
     ·skip;by_cases g5:h.o.toNat=16
      ·skip;have t1:=cO h.o 1 (by omega);have t2:=cO h.o 2 (by omega);have t3:=cO h.o 21 (by omega);have t4:=cO h.o 3 (by omega);have t5:=cO h.o 15 (by omega);have t6:((h.o.toNat:Int)==16)=true:=aV.2 (by omega);have t7:=cO h.o 17 (by omega);have t8:decide ((3:Int)<(h.o.toNat:Int))=true:=aq (by omega);have t9:decide ((h.o.toNat:Int)<15)=false:=ar (by omega);have t10:decide ((17:Int)<(h.o.toNat:Int))=false:=ar (by omega);have t11:decide ((h.o.toNat:Int)≤20)=true:=aq (by omega);skip;have HE:Hid (I.dv h.o m=1):=by
        show _=_;unfold I.dv;repeat' split
        all_goals first|rfl|omega
       clear g0 g1 g2 g3 g4 g5;go_enter Tryz.func224,Tryz.ntmps224;go_wp2_with fail
       go_ret;rw[HE.o];exact⟨rfl,(ax w.heap.size w).alloc (aa _) _⟩
      ·skip;by_cases g6:3<h.o.toNat∧h.o.toNat<15
       ·skip;have t1:=cO h.o 1 (by omega);have t2:=cO h.o 2 (by omega);have t3:=cO h.o 21 (by omega);have t4:=cO h.o 3 (by omega);have t5:=cO h.o 15 (by omega);have t6:=cO h.o 16 (by omega);have t7:=cO h.o 17 (by omega);have t8:decide ((3:Int)<(h.o.toNat:Int))=true:=aq (by omega);have t9:decide ((h.o.toNat:Int)<15)=true:=aq (by omega);have t10:decide ((17:Int)<(h.o.toNat:Int))=false:=ar (by omega);have t11:decide ((h.o.toNat:Int)≤20)=true:=aq (by omega);skip;have HE:Hid (I.dv h.o m=2):=by
         show _=_;unfold I.dv;repeat' split
         all_goals first|rfl|omega
        clear g0 g1 g2 g3 g4 g5 g6;go_enter Tryz.func224,Tryz.ntmps224;go_wp2_with fail
        go_ret;rw[HE.o];exact⟨rfl,(ax w.heap.size w).alloc (aa _) _⟩
       ·skip;by_cases g7:h.o.toNat=17
        ·skip;have t1:=cO h.o 1 (by omega);have t2:=cO h.o 2 (by omega);have t3:=cO h.o 21 (by omega);have t4:=cO h.o 3 (by omega);have t5:=cO h.o 15 (by omega);have t6:=cO h.o 16 (by omega);have t7:((h.o.toNat:Int)==17)=true:=aV.2 (by omega);have t8:decide ((3:Int)<(h.o.toNat:Int))=true:=aq (by omega);have t9:decide ((h.o.toNat:Int)<15)=false:=ar (by omega);have t10:decide ((17:Int)<(h.o.toNat:Int))=false:=ar (by omega);have t11:decide ((h.o.toNat:Int)≤20)=true:=aq (by omega);skip;have HE:Hid (I.dv h.o m=((min m 1:Nat):Int)):=by
          show _=_;unfold I.dv;repeat' split
          all_goals first|rfl|omega
         clear g0 g1 g2 g3 g4 g5 g6 g7;go_enter Tryz.func224,Tryz.ntmps224;go_wp2_with fail
         go_ret;rw[HE.o,show((min m 1:Nat):Int)=min (m:Int) 1 by omega];exact⟨rfl,(ax w.heap.size w).alloc (aa _) _⟩
        ·skip;by_cases g8:17<h.o.toNat∧h.o.toNat≤20
         ·skip;have t1:=cO h.o 1 (by omega);have t2:=cO h.o 2 (by omega);have t3:=cO h.o 21 (by omega);have t4:=cO h.o 3 (by omega);have t5:=cO h.o 15 (by omega);have t6:=cO h.o 16 (by omega);have t7:=cO h.o 17 (by omega);have t8:decide ((3:Int)<(h.o.toNat:Int))=true:=aq (by omega);have t9:decide ((h.o.toNat:Int)<15)=false:=ar (by omega);have t10:decide ((17:Int)<(h.o.toNat:Int))=true:=aq (by omega);have t11:decide ((h.o.toNat:Int)≤20)=true:=aq (by omega);skip;have HE:Hid (I.dv h.o m=1):=by
           show _=_;unfold I.dv;repeat' split
           all_goals first|rfl|omega
          clear g0 g1 g2 g3 g4 g5 g6 g7 g8;go_enter Tryz.func224,Tryz.ntmps224;go_wp2_with fail
          go_ret;rw[HE.o];exact⟨rfl,(ax w.heap.size w).alloc (aa _) _⟩
         ·skip;have t1:=cO h.o 1 (by omega);have t2:=cO h.o 2 (by omega);have t3:=cO h.o 21 (by omega);have t4:=cO h.o 3 (by omega);have t5:=cO h.o 15 (by omega);have t6:=cO h.o 16 (by omega);have t7:=cO h.o 17 (by omega);have d1:(decide ((3:Int)<(h.o.toNat:Int))&&decide ((h.o.toNat:Int)<15))=false:=by rw[Bool.eq_false_iff];simp;omega
          by_cases g20:h.o.toNat=0
          ·have t20:decide ((3:Int)<(h.o.toNat:Int))=false:=ar (by omega);have t21:decide ((17:Int)<(h.o.toNat:Int))=false:=ar (by omega);have HE:Hid (I.dv h.o m= -1):=by
            show _=_;unfold I.dv;repeat' split
            all_goals first|rfl|omega
           clear g0 g1 g2 g3 g4 g5 g6 g7 g8 g20;go_enter Tryz.func224,Tryz.ntmps224;go_wp2_with fail
           go_ret;rw[HE.o];exact⟨rfl,(ax w.heap.size w).alloc (aa _) _⟩
          ·have t20:decide ((3:Int)<(h.o.toNat:Int))=true:=aq (by omega);have t22:decide ((h.o.toNat:Int)<15)=false:=ar (by omega);have t21:decide ((17:Int)<(h.o.toNat:Int))=true:=aq (by omega);have t23:decide ((h.o.toNat:Int)≤20)=false:=ar (by omega);have HE:Hid (I.dv h.o m= -1):=by
            show _=_;unfold I.dv;repeat' split
            all_goals first|rfl|omega
           clear g0 g1 g2 g3 g4 g5 g6 g7 g8 g20;go_enter Tryz.func224,Tryz.ntmps224;go_wp2_with fail
           go_ret;rw[HE.o];exact⟨rfl,(ax w.heap.size w).alloc (aa _) _⟩
end
section
namespace I
open Ev (Ex Hd)
structure Bd (N:Nat) (st:Wr):Prop where
 pn:st.p.length≤st.n
 nb:st.b=false→st.n≤4097
 le:st.p.length≤N
 sm:st.n=(st.p.map fun s=>s.length+1).sum
section
variable{N M:Nat}{st:Wr}
theorem Bd.mono(h:Bd N st)(hm:N≤M):Bd M st:=⟨h.pn,h.nb,aw h.le hm,h.sm⟩
theorem Bd.small(h:Bd N st)(hb:st.b=false):Bd 4097 st:=⟨h.pn,h.nb,aw h.pn (h.nb hb),h.sm⟩
theorem Bd.dx(h:Bd N st)(b:Bool):Bd N (I.dx b st):=⟨h.pn,fun hb=>h.nb (by simp only[I.dx,cm]at hb;exact hb.1),h.le,h.sm⟩
theorem Bd.fA(h:Bd N st)(s:Bs):Bd (N+1) (I.fA s st):=by
 have h1:=h.pn;have h2:=h.le;refine⟨?_,fun hb=>?_,?_,?_⟩
 ·show(st.p++[s]).length≤st.n+(s.length+1);simp;omega
 ·have hb:(st.b||(decide (s=[])||decide (4097<st.n+(s.length+1))))=false:=hb;rw[cm,cm,cq,cq]at hb;show st.n+(s.length+1)≤4097;omega
 ·show(st.p++[s]).length≤N+1;simp;omega
 ·show st.n+(s.length+1)=((st.p++[s]).map fun s=>s.length+1).sum;rw[cw,List.sum_append,h.sm];rfl
theorem Bd.put:∀(l:List Bs) {N:Nat} {st:Wr},Bd N st→Bd (N+l.length) (I.put l st):=by
 intro l;induction l with
 |nil=>intro N st h;exact h
 |cons s l ih=>
  intro N st h;exact(ih (h.fA s)).mono (by simp only[ab];omega)
theorem Bd.option(h:Bd N st)(b:Bool)(l:List Bs):Bd (N+l.length) (I.option b l st):=by
 unfold I.option;split
 ·exact h.put l
 ·exact h.mono (by omega)
theorem Bd.dM{l:List Bs}(k:Nat)(h:Bd N st)(hl:l.length=k):Bd (N+k) (I.put l st):=hl▸h.put l
theorem Bd.fQ{b:Bool}{l:List Bs}(k:Nat)(h:Bd N st)(hl:l.length=k):Bd (N+k) (I.option b l st):=hl▸h.option b l
def kD(d:Nat):Nat:=4097+6*(25-d)
theorem Bd.kid{o:UInt8}{k:Ex}{W:Wr→Wr}(h:Bd N st)(hW:∀st,Bd (N+1) st→Bd M (W st)):Bd (M+1) (im o k W st):=by
 unfold im;exact Bd.fQ 1 (hW _ (Bd.fQ 1 h (by rfl))) (by rfl)
theorem K0{h:Hd}{a:Ex}{l:List Ex}(ha:a∈l):SizeOf.sizeOf a<SizeOf.sizeOf (Ex.mk h l):=by
 have:=List.sizeOf_lt_of_mem ha;simp;omega
theorem Bd.within:∀(n:Nat) (e:Ex),SizeOf.sizeOf e≤n→∀{d N:Nat} {st:Wr},Bd N st→Bd (max N (kD d)) (I.within d e st):=by
 intro n;induction n with
 |zero=>
  intro e he;cases e;simp at he
 |succ n ih=>
  intro e he d N st h;obtain⟨h0,ks⟩:=e;have hk:∀a∈ks,SizeOf.sizeOf a≤n:=fun a ha=>by have:=K0 (h:=h0) ha;omega
  have hkd:d≤24→kD d=kD (d+1)+6∧4097≤kD (d+1):=fun hd=>by unfold kD;omega
  have hfl:∀(b:Bool),¬(I.dx (decide (24<d)||b) st).b=true→d≤24∧Bd 4097 st:=fun b hb=>by
   rw[Bool.not_eq_true]at hb
   simp only[I.dx,cm,cq]at hb
   exact⟨by omega,h.small hb.1⟩
  have Zy:∀a∈ks,∀{N:Nat} (st:Wr),Bd N st→Bd (max N (kD (d+1))) (I.within (d+1) a st):=fun a ha N st hs=>ih a (hk a ha) hs
  clear ih hk he;obtain⟨K,hK⟩:∃K,K=kD (d+1):=⟨_,rfl⟩;obtain⟨J,hJ⟩:∃K,K=kD d:=⟨_,rfl⟩;rw[←hK,←hJ]at hkd;rw[←hJ];rw[←hK]at Zy;clear hK hJ;rcases ks with _|⟨a,_|⟨b,_|⟨c,r⟩⟩⟩
  ·unfold I.within;split
   ·exact(h.dx _).mono (by omega)
   ·rename_i hb;obtain⟨hd,h2⟩:=hfl _ hb;obtain⟨e1,e2⟩:=hkd hd;split
    ·exact Bd.mono (Bd.dM 1 h2 (by rfl)) (by omega)
    ·split
     ·exact Bd.mono (Bd.dM 1 (Bd.fQ 2 (h2) (by rfl)) (by rfl)) (by omega)
     ·split
      ·exact Bd.mono (Bd.dM 1 (h2) (by rfl)) (by omega)
      ·exact Bd.mono (Bd.dM 1 (Bd.dM 1 (Bd.dM 2 (h2) (by rfl)) (by rfl)) (by rfl)) (by omega)
  ·unfold I.within;split
   ·exact(h.dx _).mono (by omega)
   ·rename_i hb;obtain⟨hd,h2⟩:=hfl _ hb;obtain⟨e1,e2⟩:=hkd hd;have ha:= @Zy a (by simp);split
    ·exact Bd.mono (Bd.kid (Bd.dM 1 (h2) (by rfl)) (fun st hs=>ha st hs)) (by omega)
    ·split
     ·exact Bd.mono (Bd.dM 2 (Bd.kid (h2) (fun st hs=>ha st hs)) (by rfl)) (by omega)
     ·exact Bd.mono (Bd.dM 1 (Bd.kid (Bd.dM 2 (h2) (by rfl)) (fun st hs=>ha st hs)) (by rfl)) (by omega)
  ·unfold I.within;split
   ·exact(h.dx _).mono (by omega)
   ·rename_i hb;obtain⟨hd,h2⟩:=hfl _ hb;obtain⟨e1,e2⟩:=hkd hd;have ha:= @Zy a (by simp);have hb:= @Zy b (by simp);exact Bd.mono (Bd.kid (Bd.dM 1 (Bd.kid (h2) (fun st hs=>ha st hs)) (by rfl)) (fun st hs=>hb st hs)) (by omega)
  ·unfold I.within;exact(h.dx _).mono (by omega)
theorem Lj:kD 1=4241:=rfl
theorem Bd.expr(h:Bd N st)(e:Ex):Bd (max N 4241) (jy e st):=by
 have:=Bd.within _ e (aa _) (d:=1) h;rw[Lj]at this;exact this
theorem Bd.first(h:Bd N st)(l:List Ex)(ws:List Bs):Bd (max (N+ws.length) 4241) (first l ws st):=by
 cases l with
 |nil=>exact h.mono (by omega)
 |cons e r=>exact(h.put ws).expr e
theorem Bd.lC{l:List Ex}{ws:List Bs}(k:Nat)(h:Bd N st)(hl:ws.length=k):Bd (max (N+k) 4241) (I.first l ws st):=hl▸h.first l ws
theorem Bd.fm{α:Type}{one:α→Wr→Wr}:∀(l:List α) (c:Bool) {N:Nat} {st:Wr},(∀x∈l,∀st,Bd 4098 st→Bd M (one x st))→Bd N st→Bd (max N M) (I.fm one c l st):=by
 intro l;induction l with
 |nil=>intro c N st _ h;exact h.mono (by omega)
 |cons x l ih=>
  intro c N st ho h;unfold I.fm;split
  ·exact h.mono (by omega)
  ·rename_i hb;exact(ih true (fun y hy=>ho y (au _ hy)) (ho x ag _ (((h.small (by simpa using hb)).option c [[44]]).mono (by simp)))).mono (by omega)
theorem Bd.each{α:Type}{one:α→Wr→Wr}{l:List α}(ho:∀x∈l,∀st,Bd 4098 st→Bd M (one x st))(h:Bd N st):Bd (max N M) (I.each one l st):=by
 have h2:=Bd.fm l false ho h;unfold I.each;split
 ·exact h2
 ·exact h2.dx _
theorem Bd.row(h:Bd N st)(l:List Ex):Bd (max (N+1) 4241+1) (jF l st):=Bd.dM 1 (Bd.each (fun x _ _ hs=>(hs.expr x).mono (by omega)) (Bd.dM 1 h (by rfl))) (by rfl)
theorem Bd.item(h:Bd N st)(i:Qq):Bd (max N 4241+2) (pY i st):=Bd.fQ 2 (Bd.expr (h) i.x) (by rfl)
theorem Bd.order(h:Bd N st)(i:Ord):Bd (max N 4241+1) (l9 i st):=Bd.fQ 1 (Bd.expr (h) i.x) (by rfl)
theorem Bd.set(h:Bd N st)(i:OI):Bd (max (N+2) 4241) (sF i st):=Bd.expr (Bd.dM 2 (h) (by rfl)) i.x
theorem Bd.lH(h:Bd N st)(p:UInt8):Bd (N+1) (iC p st):=Bd.dM 1 (h) (by rfl)
theorem Bd.fi(h:Bd N st)(l:List UInt8):Bd (max N 4099) (jx l st):=h.each fun x _ _ hs=>hs.lH x
theorem Bd.source(h:Bd N st)(s:Src):Bd (max (N+4) 4241) (jJ s st):=Bd.mono (Bd.lC 1 (Bd.fQ 2 (Bd.dM 1 (h) (by rfl)) (by rfl)) (by rfl)) (by omega)
theorem Bd.check(h:Bd N st)(l:List Ex):Bd (max (N+2) 4241+1) ((fun w=>if 0<l.length then I.put [[41]] (I.first l [[99,104,101,99,107],[40]] w)else w) st):=by
 show Bd _ (if 0<l.length then I.put [[41]] (I.first l [[99,104,101,99,107],[40]] st)else st);split
 ·exact Bd.dM 1 (Bd.lC 2 (h) (by rfl)) (by rfl)
 ·exact h.mono (by omega)
theorem Bd.column(h:Bd N st)(c:Oj):Bd (max (N+20) 4260) (gY c st):=
 Bd.mono (Bd.fQ 4 (Bd.fQ 3 (Bd.fQ 2 (Bd.check (Bd.fQ 1 (Bd.fQ 2 (Bd.fQ 2 (Bd.dM 2 (h) (by rfl)) (by rfl)) (by rfl)) (by rfl)) c.ck) (by rfl)) (by rfl)) (by rfl)) (by omega)
end
end I
end
theorem eK{g:Nat}{w0 w v0 own}{f:FuncId}{args:Array Value}{Q:Ending→World→Prop}{X:I.Wr}{M:Nat}
 (c:Calls Tryz.prog f args w fun e w'=>∃v' s',X=s'∧e=.returned (.tuple #[])∧Fw g w0 v0 own s' v' w') (b:I.Bd M X)
 (k:∀v' s' w',Hid (X=s')→Hid (Fw g w0 v0 own s' v' w')→Hid (I.Bd M s')→Q (.returned (.tuple #[])) w'):Calls Tryz.prog f args w Q:=
 c.mono fun _ w' ⟨v',s',h1,h2,h3⟩=>by subst h2;exact k v' s' w' h1 h3 (h1▸b)
theorem kB{g:Nat}{w0 w v0 v own st}{f:FuncId}{args:Array Value}{Q:Ending→World→Prop}{X:I.Wr}{M:Nat}(F:Fw g w0 v0 own st v w)
 (c:Calls Tryz.prog f args w (gm g w v X)) (b:I.Bd M X)
 (k:∀v' s' w',Hid (X=s')→Hid (Fw g w0 v0 own s' v' w')→Hid (I.Bd M s')→Q (.returned (.tuple #[])) w'):Calls Tryz.prog f args w Q:=
 (F.sub c).mono fun _ w' ⟨v',h2,h3⟩=>by subst h2;exact k v' X w' rfl h3 b
theorem rF(s:ByteArray):s.toList.length=s.size:=by
 rw[ByteArray.toList_eq,aK];rfl
theorem mJ{s:ByteArray}(h:s.size=0):s.toList=[]:=aC (by rw[rF,h])
theorem oN{s:ByteArray}(h:¬s.size=0):s.toList.isEmpty=false∧¬s.toList=[]:=by
 have hl:=rF s;cases hs:s.toList with
 |nil=>rw[hs]at hl;exact absurd hl.symm h
 |cons a t=>simp
theorem fI{b c:Bool}{x:Value}{P:Prop}(h:b=c)(hx:x=.bool c)(hp:P):Ending.returned x=.returned (.bool b)∧P:=by
 subst h hx;exact⟨rfl,hp⟩
theorem Cr(k:UInt8)(n:Int)(s:ByteArray)(w:World):
 Calls Tryz.prog 219 #[.agg #[.int .u8 (k.toNat:Int),.int .i64 n,.string s]] w fun e w'=>e=.returned (.bool (Cell.js ⟨k,n,s⟩))∧Below w.heap.size w w':=by
 obtain⟨b,hb⟩:∃b,b=Cell.js ⟨k,n,s⟩:=⟨_,rfl⟩;rw[←hb];unfold Cell.js at hb;simp only at hb;have HB:=cN hb;clear hb;by_cases h0:k.toNat=0
 ·have hb:=HB.o;simp only[h0]at hb;by_cases hs:s.size=0
  ·rw[aq hs]at hb;simp only[Bool.and_true]at hb;have hS1:=mJ hs;have HB0:=cN hb;clear hb HB hs;go_enter Tryz.func219,Tryz.ntmps219;go_wp2;all_goals
    go_ret
    refine fI ?_ rfl ((ax _ _).alloc (aa _) _)
    first|exact HB0.o|((rw[HB0.o];rw[aG];simp[*]);done)|(rw[HB0.o];rw[aG];simp;omega)
  ·rw[ar hs]at hb;simp only[cH]at hb;obtain⟨hS1,hS2⟩:=oN hs;have HB0:=cN hb;clear hb HB hs;go_enter Tryz.func219,Tryz.ntmps219;go_wp2;all_goals
    go_ret
    refine fI ?_ rfl ((ax _ _).alloc (aa _) _)
    first|exact HB0.o|((rw[HB0.o];rw[aG];simp[*]);done)|(rw[HB0.o];rw[aG];simp;omega)
 by_cases h1:k.toNat=1
 ·have hb:=HB.o;simp only[h1]at hb;by_cases hs:s.size=0
  ·rw[aq hs]at hb;simp only[Bool.and_true]at hb;have hS1:=mJ hs;have HB0:=cN hb;clear hb HB hs;go_enter Tryz.func219,Tryz.ntmps219;go_wp2;all_goals
    go_ret
    refine fI ?_ rfl ((ax _ _).alloc (aa _) _)
    first|exact HB0.o|((rw[HB0.o];rw[aG];simp[*]);done)|(rw[HB0.o];rw[aG];simp;omega)
  ·rw[ar hs]at hb;simp only[cH]at hb;obtain⟨hS1,hS2⟩:=oN hs;have HB0:=cN hb;clear hb HB hs;go_enter Tryz.func219,Tryz.ntmps219;go_wp2;all_goals
    go_ret
    refine fI ?_ rfl ((ax _ _).alloc (aa _) _)
    first|exact HB0.o|((rw[HB0.o];rw[aG];simp[*]);done)|(rw[HB0.o];rw[aG];simp;omega)
 by_cases h2:k.toNat=2
 ·have hb:=HB.o;simp only[h2]at hb;by_cases hs:s.size=0
  ·rw[aq hs]at hb;have hS1:=mJ hs;have HB0:=cN hb;clear hb HB hs;go_enter Tryz.func219,Tryz.ntmps219;go_wp2;all_goals
    go_ret
    refine fI ?_ rfl ((ax _ _).alloc (aa _) _)
    first|exact HB0.o|((rw[HB0.o];rw[aG];simp[*]);done)|(rw[HB0.o];rw[aG];simp;omega)
  ·rw[ar hs]at hb;obtain⟨hS1,hS2⟩:=oN hs;have HB0:=cN hb;clear hb HB hs;go_enter Tryz.func219,Tryz.ntmps219;go_wp2;all_goals
    go_ret
    refine fI ?_ rfl ((ax _ _).alloc (aa _) _)
    first|exact HB0.o|((rw[HB0.o];rw[aG];simp[*]);done)|(rw[HB0.o];rw[aG];simp;omega)
 by_cases h3:k.toNat=3
 ·have hb:=HB.o;simp only[h3]at hb;by_cases hs:s.size=0
  ·rw[aq hs]at hb;have hS1:=mJ hs;have HB0:=cN hb;clear hb HB hs;go_enter Tryz.func219,Tryz.ntmps219;go_wp2;all_goals
    go_ret
    refine fI ?_ rfl ((ax _ _).alloc (aa _) _)
    first|exact HB0.o|((rw[HB0.o];rw[aG];simp[*]);done)|(rw[HB0.o];rw[aG];simp;omega)
  ·rw[ar hs]at hb;obtain⟨hS1,hS2⟩:=oN hs;have HB0:=cN hb;clear hb HB hs;go_enter Tryz.func219,Tryz.ntmps219;go_wp2;all_goals
    go_ret
    refine fI ?_ rfl ((ax _ _).alloc (aa _) _)
    first|exact HB0.o|((rw[HB0.o];rw[aG];simp[*]);done)|(rw[HB0.o];rw[aG];simp;omega)
 by_cases h4:k.toNat=4
 ·have hb:=HB.o;simp only[h4]at hb;by_cases hs:s.size≤200
  ·rw[aq hs]at hb;simp only[Bool.and_true]at hb;have hS1:decide ((s.size:Int)≤200)=true:=by simp;omega
   have HB0:=cN hb;clear hb HB;go_enter Tryz.func219,Tryz.ntmps219;go_wp2;all_goals
    go_ret
    refine fI ?_ rfl ((ax _ _).alloc (aa _) _)
    first|exact HB0.o|((rw[HB0.o];rw[aG];simp[*]);done)|(rw[HB0.o];rw[aG];simp;omega)
  ·rw[ar hs]at hb;simp only[cH]at hb;have hS1:decide ((s.size:Int)≤200)=false:=by simp;omega
   have HB0:=cN hb;clear hb HB;go_enter Tryz.func219,Tryz.ntmps219;go_wp2;all_goals
    go_ret
    refine fI ?_ rfl ((ax _ _).alloc (aa _) _)
    first|exact HB0.o|((rw[HB0.o];rw[aG];simp[*]);done)|(rw[HB0.o];rw[aG];simp;omega)
 by_cases h5:k.toNat=5
 ·have hb:=HB.o;simp only[h5]at hb;by_cases hs:s.size≤200
  ·rw[aq hs]at hb;simp only[Bool.and_true]at hb;have hS1:decide ((s.size:Int)≤200)=true:=by simp;omega
   have HB0:=cN hb;clear hb HB;go_enter Tryz.func219,Tryz.ntmps219;go_wp2;all_goals
    go_ret
    refine fI ?_ rfl ((ax _ _).alloc (aa _) _)
    first|exact HB0.o|((rw[HB0.o];rw[aG];simp[*]);done)|(rw[HB0.o];rw[aG];simp;omega)
  ·rw[ar hs]at hb;simp only[cH]at hb;have hS1:decide ((s.size:Int)≤200)=false:=by simp;omega
   have HB0:=cN hb;clear hb HB;go_enter Tryz.func219,Tryz.ntmps219;go_wp2;all_goals
    go_ret
    refine fI ?_ rfl ((ax _ _).alloc (aa _) _)
    first|exact HB0.o|((rw[HB0.o];rw[aG];simp[*]);done)|(rw[HB0.o];rw[aG];simp;omega)
 have hb:=HB.o;have hb':b=false:=by split at hb<;>first|contradiction|exact hb
 have HB0:=cN hb';clear hb hb' HB;go_enter Tryz.func219,Tryz.ntmps219;go_wp2;all_goals
  go_ret
  exact fI HB0.o rfl ((ax _ _).alloc (aa _) _)
end Go.Proofs.YtnicfobpclehkaaGreatDoor
