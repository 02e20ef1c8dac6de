import Derived.Test.YtnicfobpclehkaaGreatDoorP34
set_option maxHeartbeats 3200000
set_option linter.unusedVariables false
set_option linter.unusedSimpArgs false
namespace Go.Proofs.YtnicfobpclehkaaGreatDoor
open Go.RowKit
section
set_option maxRecDepth 100000
theorem Rp.Dv{T:Nat}(st:I.St){a:Ev.Ex}{s:I.St}(h:Rp.expr T st=(a,s)):Rp.item T st=if I.ae [97,115] s=true then((⟨a,(I.name T (I.next s)).1⟩:I.LL),(I.name T (I.next s)).2)else(⟨a,[]⟩,s):=by
 unfold Rp.item;exact Rp.bnd (fun e st=>if I.ae [97,115] st=true then((⟨e,(I.name T (I.next st)).1⟩:I.LL),(I.name T (I.next st)).2)else(⟨e,[]⟩,st)) h
theorem Rp.rM{T:Nat}(st:I.St){a:Ev.Ex}{s:I.St}(h:Rp.expr T st=(a,s)):Rp.order T st=if I.ae [100,101,115,99] s=true then((⟨a,true⟩:I.Ord),I.next s)else(⟨a,false⟩,I.acc [97,115,99] s):=by
 unfold Rp.order;exact Rp.bnd (fun e st=>if I.ae [100,101,115,99] st=true then((⟨e,true⟩:I.Ord),I.next st)else(⟨e,false⟩,I.acc [97,115,99] st)) h
theorem kF(C:RC)(st:I.St)(w:World)(h:RS C st w):
 Calls Tryz.prog 73 #[.p C.g,.s ⟨#[119,104,101,114,101]⟩] w (VR Kr C w (Rp.aq C.text.size st)):=by
 have F0:=aa (Fr.start h.lt h.aJ);clear h;go_enter Tryz.func73,Tryz.ntmps73;go_wp2_with fail
 with_reducible refine(aG ⟨#[119,104,101,114,101]⟩ [119,104,101,114,101] rfl F0.o).mono ?_
 rintro e w1 ⟨b,hb,rfl,hF⟩;cases b with
 |true=>
  have Ku:=aa hb;have F1:Hid (Fr C.g w _ _ (RS C (I.next st)) w1):=hF;clear hF hb;go_wp2_with fail
  with_reducible refine(Fr.jD F1.o (dw C _ _ F1.o.q)).mono ?_
  rintro e w2 ⟨h1,A1,m1,c1,x1,s1,(X1:Hid _),rfl,hF⟩;have F2:=aa hF;clear hF;have HS:Hid (Rp.aq C.text.size st=([x1],s1)):=by show _=_;simp only[Rp.aq,Ku.o,X1.o,if_true]
  go_wp2_with fail
  go_ret;rw[HS.o];exact(Fr.ff (E:=Kr) (cs:=[.u (h1.o.toNat:Int),.u (h1.v.k.toNat:Int),.i h1.v.n,.s h1.v.s,.s h1.nm,.s h1.of,.i h1.n,.slice A1 m1 c1]) F2.o _).rk
 |false=>
  have Ku:=aa hb;have F1:Hid (Fr C.g w _ _ (RS C st) w1):=hF;clear hF hb;have HS:Hid (Rp.aq C.text.size st=([],st)):=by show _=_;simp only[Rp.aq,Ku.o,Bool.false_eq_true,if_false]
  go_wp2_with fail
  go_ret;rw[HS.o];exact F1.o.Az
theorem nh(C:RC)(st:I.St)(w:World)(h:RS C st w):
 Calls Tryz.prog 154 #[.p C.g] w (ER bV C w (I.source C.text.size st)):=by
 have F0:=aa (Fr.start h.lt h.aJ);clear h;go_enter Tryz.func154,Tryz.ntmps154;have K8:=aa (F0.o.new 132 #[.e,.e,.z]);go_wp2_with fail
 with_reducible refine(bh K8.o).mono ?_
 rintro e w1 ⟨n1,s1,(N1:Hid _),(Z1:Hid _),rfl,(F1:Hid _)⟩;go_upto_region 2 with fail
 have F2:=aa (F1.o.new 132 #[.s (I.bs n1),.e,.z]);obtain⟨w2,hw⟩:=aab (w1.alloc (.cells #[.s (I.bs n1),.e,.z] 132));obtain⟨g2,hg⟩:=aab w1.heap.size;rw[←hw,←hg]at F2;rw[←hw,←hg];clear hw hg;go_wp2_with fail
 with_reducible refine(aG ⟨#[97,115]⟩ [97,115] rfl F2.o).mono ?_
 rintro e w3 ⟨b,hb,rfl,hF⟩;cases b with
 |true=>
  have Ku:=aa hb;have F3:Hid (Fr C.g w _ _ (RS C (I.next s1)) w3):=hF;clear hF hb;go_wp2_with fail
  with_reducible refine(bh F3.o).mono ?_
  rintro e w4 ⟨n2,s2,(N2:Hid _),(Z2:Hid _),rfl,hF⟩;have F4:=aa hF;clear hF;have M5:=F4.o.ab.cell 1;simp at M5;have M9:=F4.o.ab.frozen 1;go_upto_region 4 with fail
  have F5:=aa (F4.o.aO 1 (.s (I.bs n2)) (cs':=#[.s (I.bs n1),.s (I.bs n2),.z]) rfl);obtain⟨w5,hw⟩:=aab (w4.setCell ⟨g2,1,none⟩ (.s (I.bs n2)));rw[←hw]at F5⊢;clear hw M5 M9;obtain⟨cz,hcz⟩:∃z:List Value,z=[.s (I.bs n1),.s (I.bs n2),.z]:=⟨_,rfl⟩;rw[←hcz]at F5;obtain⟨RS,TH,LC,OC⟩:=F5.o.Mg (k:=3) (by rw[hcz];rfl) rfl (by rw[hcz];rfl);have KN:=aa hcz;clear hcz;go_wp2_with (first|refine aU rfl rfl rfl RS.o (by kernel_rfl) (by rw[LC.o];kernel_rfl) ?_|refine wpList_store_mid rfl _ _ _ rfl _ 0 cz.toArray rfl rfl TH.o (by rw[List.size_toArray,LC.o];kernel_rfl) OC.o ?_)
  have FZ:=aa (F5.o.bS cz (by rw[LC.o];rfl));have HS:Hid (I.source C.text.size st=((⟨n1,n2,[]⟩:I.Src),s2)):=by show _=_;simp only[I.source,N1.o,Ku.o,N2.o,if_true]
  refine bodyPost_ret (v:=.agg cz.toArray) (results_cell_row rfl _ _ w.heap.size 132 _ (0,0) _ rfl FZ.o.ah fl rfl (by rw[List.size_toArray,LC.o];exact eJ)) rfl ?_;rw[HS.o];exact FZ.o.aK (cs:=cz) (El.cz KN.o (⟨_,rfl,Rr.nil _ _ _,Sz.of Z1.o,Sz.of Z2.o⟩))
 |false=>
  have Ku:=aa hb;have F3:Hid (Fr C.g w _ _ (RS C s1) w3):=hF;clear hF hb;obtain⟨cz,hcz⟩:∃z:List Value,z=[.s (I.bs n1),.e,.z]:=⟨_,rfl⟩;rw[←hcz]at F3;obtain⟨RS,TH,LC,OC⟩:=F3.o.Mg (k:=3) (by rw[hcz];rfl) rfl (by rw[hcz];rfl);have KN:=aa hcz;clear hcz;go_wp2_with (first|refine aU rfl rfl rfl RS.o (by kernel_rfl) (by rw[LC.o];kernel_rfl) ?_|refine wpList_store_mid rfl _ _ _ rfl _ 0 cz.toArray rfl rfl TH.o (by rw[List.size_toArray,LC.o];kernel_rfl) OC.o ?_)
  have FZ:=aa (F3.o.bS cz (by rw[LC.o];rfl));have HS:Hid (I.source C.text.size st=((⟨n1,[],[]⟩:I.Src),s1)):=by show _=_;simp only[I.source,N1.o,Ku.o,Bool.false_eq_true,if_false]
  refine bodyPost_ret (v:=.agg cz.toArray) (results_cell_row rfl _ _ w.heap.size 132 _ (0,0) _ rfl FZ.o.ah fl rfl (by rw[List.size_toArray,LC.o];exact eJ)) rfl ?_;rw[HS.o];exact FZ.o.aK (cs:=cz) (El.cz KN.o (⟨_,rfl,Rr.nil _ _ _,Sz.of Z1.o,Sz.of (Nat.zero_le _)⟩))
theorem qN(C:RC)(st:I.St)(w:World)(h:RS C st w):
 Calls Tryz.prog 153 #[.p C.g] w (ER cS C w (Rp.item C.text.size st)):=by
 have F0:=aa (Fr.start h.lt h.aJ);clear h;go_enter Tryz.func153,Tryz.ntmps153;have K8:=aa (F0.o.new 130 #[.b,.b,.o,.e,.e,.e,.o,.z,.e]);go_wp2_with fail
 with_reducible refine(Fr.jD K8.o (dw C _ _ K8.o.q)).mono ?_
 rintro e w1 ⟨h1,A1,m1,c1,x1,s1,(X1:Hid _),rfl,(F1:Hid _)⟩;go_upto_region 2 with fail
 have F2:=aa (F1.o.new 130 #[.u (h1.o.toNat:Int),.u (h1.v.k.toNat:Int),.i h1.v.n,.s h1.v.s,.s h1.nm,.s h1.of,.i h1.n,.slice A1 m1 c1,.e]);obtain⟨w2,hw⟩:=aab (w1.alloc (.cells #[.u (h1.o.toNat:Int),.u (h1.v.k.toNat:Int),.i h1.v.n,.s h1.v.s,.s h1.nm,.s h1.of,.i h1.n,.slice A1 m1 c1,.e] 130));obtain⟨g2,hg⟩:=aab w1.heap.size;rw[←hw,←hg]at F2;rw[←hw,←hg];clear hw hg;go_wp2_with fail
 with_reducible refine(aG ⟨#[97,115]⟩ [97,115] rfl F2.o).mono ?_
 rintro e w3 ⟨b,hb,rfl,hF⟩;cases b with
 |true=>
  have Ku:=aa hb;have F3:Hid (Fr C.g w _ _ (RS C (I.next s1)) w3):=hF;clear hF hb;go_wp2_with fail
  with_reducible refine(bh F3.o).mono ?_
  rintro e w4 ⟨n2,s2,(N2:Hid _),(Z2:Hid _),rfl,hF⟩;have F4:=aa hF;clear hF;have NJ:=F4.o.ab.cell 8;simp at NJ;have OA:=F4.o.ab.frozen 8;go_upto_region 4 with fail
  have F5:=aa (F4.o.aO 8 (.s (I.bs n2)) (cs':=#[.u (h1.o.toNat:Int),.u (h1.v.k.toNat:Int),.i h1.v.n,.s h1.v.s,.s h1.nm,.s h1.of,.i h1.n,.slice A1 m1 c1,.s (I.bs n2)]) rfl);obtain⟨w5,hw⟩:=aab (w4.setCell ⟨g2,8,none⟩ (.s (I.bs n2)));rw[←hw]at F5⊢;clear hw NJ OA;obtain⟨cz,hcz⟩:∃z:List Value,z=[.u (h1.o.toNat:Int),.u (h1.v.k.toNat:Int),.i h1.v.n,.s h1.v.s,.s h1.nm,.s h1.of,.i h1.n,.slice A1 m1 c1,.s (I.bs n2)]:=⟨_,rfl⟩;rw[←hcz]at F5;obtain⟨RS,TH,LC,OC⟩:=F5.o.Mg (k:=9) (by rw[hcz];rfl) rfl (by rw[hcz];rfl);have KN:=aa hcz;clear hcz;go_wp2_with (first|refine aU rfl rfl rfl RS.o (by kernel_rfl) (by rw[LC.o];kernel_rfl) ?_|refine wpList_store_mid rfl _ _ _ rfl _ 0 cz.toArray rfl rfl TH.o (by rw[List.size_toArray,LC.o];kernel_rfl) OC.o ?_)
  have FZ:=aa (F5.o.bS cz (by rw[LC.o];rfl));have HS:Hid (Rp.item C.text.size st=((⟨x1,n2⟩:I.LL),s2)):=by show _=_;rw[Rp.Dv st X1.o,if_pos Ku.o,N2.o]
  refine bodyPost_ret (v:=.agg cz.toArray) (results_cell_row rfl _ _ w.heap.size 130 _ (0,0) _ rfl FZ.o.ah gf rfl (by rw[List.size_toArray,LC.o];exact fK)) rfl ?_;rw[HS.o];exact FZ.o.aK (cs:=cz) (El.cz KN.o (⟨_,rfl,FZ.o.Kx,Sz.of Z2.o⟩))
 |false=>
  have Ku:=aa hb;have F3:Hid (Fr C.g w _ _ (RS C s1) w3):=hF;clear hF hb;obtain⟨cz,hcz⟩:∃z:List Value,z=[.u (h1.o.toNat:Int),.u (h1.v.k.toNat:Int),.i h1.v.n,.s h1.v.s,.s h1.nm,.s h1.of,.i h1.n,.slice A1 m1 c1,.e]:=⟨_,rfl⟩;rw[←hcz]at F3;obtain⟨RS,TH,LC,OC⟩:=F3.o.Mg (k:=9) (by rw[hcz];rfl) rfl (by rw[hcz];rfl);have KN:=aa hcz;clear hcz;go_wp2_with (first|refine aU rfl rfl rfl RS.o (by kernel_rfl) (by rw[LC.o];kernel_rfl) ?_|refine wpList_store_mid rfl _ _ _ rfl _ 0 cz.toArray rfl rfl TH.o (by rw[List.size_toArray,LC.o];kernel_rfl) OC.o ?_)
  have FZ:=aa (F3.o.bS cz (by rw[LC.o];rfl));have HS:Hid (Rp.item C.text.size st=((⟨x1,[]⟩:I.LL),s1)):=by show _=_;rw[Rp.Dv st X1.o,if_neg (by rw[Ku.o];decide)]
  refine bodyPost_ret (v:=.agg cz.toArray) (results_cell_row rfl _ _ w.heap.size 130 _ (0,0) _ rfl FZ.o.ah gf rfl (by rw[List.size_toArray,LC.o];exact fK)) rfl ?_;rw[HS.o];exact FZ.o.aK (cs:=cz) (El.cz KN.o (⟨_,rfl,FZ.o.Kx,Sz.of (Nat.zero_le _)⟩))
theorem oI(C:RC)(st:I.St)(w:World)(h:RS C st w):
 Calls Tryz.prog 155 #[.p C.g] w (ER dx C w (Rp.order C.text.size st)):=by
 have F0:=aa (Fr.start h.lt h.aJ);clear h;go_enter Tryz.func155,Tryz.ntmps155;have K8:=aa (F0.o.new 134 #[.b,.b,.o,.e,.e,.e,.o,.z,.f]);go_wp2_with fail
 with_reducible refine(Fr.jD K8.o (dw C _ _ K8.o.q)).mono ?_
 rintro e w1 ⟨h1,A1,m1,c1,x1,s1,(X1:Hid _),rfl,(F1:Hid _)⟩;go_upto_region 2 with fail
 have F2:=aa (F1.o.new 134 #[.u (h1.o.toNat:Int),.u (h1.v.k.toNat:Int),.i h1.v.n,.s h1.v.s,.s h1.nm,.s h1.of,.i h1.n,.slice A1 m1 c1,.f]);obtain⟨w2,hw⟩:=aab (w1.alloc (.cells #[.u (h1.o.toNat:Int),.u (h1.v.k.toNat:Int),.i h1.v.n,.s h1.v.s,.s h1.nm,.s h1.of,.i h1.n,.slice A1 m1 c1,.f] 134));obtain⟨g2,hg⟩:=aab w1.heap.size;rw[←hw,←hg]at F2;rw[←hw,←hg];clear hw hg;go_wp2_with fail
 with_reducible refine(aG ⟨#[100,101,115,99]⟩ [100,101,115,99] rfl F2.o).mono ?_
 rintro e w3 ⟨b,hb,rfl,hF⟩;cases b with
 |true=>
  have Ku:=aa hb;have F3:Hid (Fr C.g w _ _ (RS C (I.next s1)) w3):=hF;clear hF hb;have NJ:=F3.o.ab.cell 8;simp at NJ;have OA:=F3.o.ab.frozen 8;go_upto_region 3 with fail
  have F4:=aa (F3.o.aO 8 (.bool true) (cs':=#[.u (h1.o.toNat:Int),.u (h1.v.k.toNat:Int),.i h1.v.n,.s h1.v.s,.s h1.nm,.s h1.of,.i h1.n,.slice A1 m1 c1,.bool true]) rfl);obtain⟨w4,hw⟩:=aab (w3.setCell ⟨g2,8,none⟩ (.bool true));rw[←hw]at F4⊢;clear hw NJ OA;have k8:=F4.o.ab.cell 8;simp at k8;obtain⟨cz,hcz⟩:∃z:List Value,z=[.u (h1.o.toNat:Int),.u (h1.v.k.toNat:Int),.i h1.v.n,.s h1.v.s,.s h1.nm,.s h1.of,.i h1.n,.slice A1 m1 c1,.bool true]:=⟨_,rfl⟩;rw[←hcz]at F4;obtain⟨RS,TH,LC,OC⟩:=F4.o.Mg (k:=9) (by rw[hcz];rfl) rfl (by rw[hcz];rfl);have KN:=aa hcz;clear hcz;go_wp2_with (first|refine aU rfl rfl rfl RS.o (by kernel_rfl) (by rw[LC.o];kernel_rfl) ?_|refine wpList_store_mid rfl _ _ _ rfl _ 0 cz.toArray rfl rfl TH.o (by rw[List.size_toArray,LC.o];kernel_rfl) OC.o ?_)
  have FZ:=aa (F4.o.bS cz (by rw[LC.o];rfl));have HS:Hid (Rp.order C.text.size st=((⟨x1,true⟩:I.Ord),(I.next s1))):=by show _=_;rw[Rp.rM st X1.o,if_pos Ku.o]
  refine bodyPost_ret (v:=.agg cz.toArray) (results_cell_row rfl _ _ w.heap.size 134 _ (0,0) _ rfl FZ.o.ah dP rfl (by rw[List.size_toArray,LC.o];exact dr)) rfl ?_;rw[HS.o];exact FZ.o.aK (cs:=cz) (El.cz KN.o (⟨_,rfl,FZ.o.Kx⟩))
 |false=>
  have Ku:=aa hb;have F3:Hid (Fr C.g w _ _ (RS C s1) w3):=hF;clear hF hb;have NJ:=F3.o.ab.cell 8;simp at NJ;have OA:=F3.o.ab.frozen 8;go_upto_region 3 with fail
  have F4:=aa (F3.o.aO 8 .f (cs':=#[.u (h1.o.toNat:Int),.u (h1.v.k.toNat:Int),.i h1.v.n,.s h1.v.s,.s h1.nm,.s h1.of,.i h1.n,.slice A1 m1 c1,.f]) rfl);obtain⟨w4,hw⟩:=aab (w3.setCell ⟨g2,8,none⟩ .f);rw[←hw]at F4⊢;clear hw NJ OA;have k8:=F4.o.ab.cell 8;simp at k8;go_wp2_with fail
  with_reducible refine(aG ⟨#[97,115,99]⟩ [97,115,99] rfl F4.o).mono ?_
  rintro e w5 ⟨b,hb,rfl,hF⟩;cases b with
  |true=>
   have Lp:=aa hb;have F5:Hid (Fr C.g w _ _ (RS C (I.next s1)) w5):=hF;clear hF hb;clear k8;obtain⟨cz,hcz⟩:∃z:List Value,z=[.u (h1.o.toNat:Int),.u (h1.v.k.toNat:Int),.i h1.v.n,.s h1.v.s,.s h1.nm,.s h1.of,.i h1.n,.slice A1 m1 c1,.f]:=⟨_,rfl⟩;rw[←hcz]at F5;obtain⟨RS,TH,LC,OC⟩:=F5.o.Mg (k:=9) (by rw[hcz];rfl) rfl (by rw[hcz];rfl);have KN:=aa hcz;clear hcz;go_wp2_with (first|refine aU rfl rfl rfl RS.o (by kernel_rfl) (by rw[LC.o];kernel_rfl) ?_|refine wpList_store_mid rfl _ _ _ rfl _ 0 cz.toArray rfl rfl TH.o (by rw[List.size_toArray,LC.o];kernel_rfl) OC.o ?_)
   have FZ:=aa (F5.o.bS cz (by rw[LC.o];rfl));have HS:Hid (Rp.order C.text.size st=((⟨x1,false⟩:I.Ord),(I.next s1))):=by show _=_;rw[Rp.rM st X1.o,if_neg (by rw[Ku.o];decide),I.di Lp.o]
   refine bodyPost_ret (v:=.agg cz.toArray) (results_cell_row rfl _ _ w.heap.size 134 _ (0,0) _ rfl FZ.o.ah dP rfl (by rw[List.size_toArray,LC.o];exact dr)) rfl ?_;rw[HS.o];exact FZ.o.aK (cs:=cz) (El.cz KN.o (⟨_,rfl,FZ.o.Kx⟩))
  |false=>
   have Lp:=aa hb;have F5:Hid (Fr C.g w _ _ (RS C s1) w5):=hF;clear hF hb;clear k8;obtain⟨cz,hcz⟩:∃z:List Value,z=[.u (h1.o.toNat:Int),.u (h1.v.k.toNat:Int),.i h1.v.n,.s h1.v.s,.s h1.nm,.s h1.of,.i h1.n,.slice A1 m1 c1,.f]:=⟨_,rfl⟩;rw[←hcz]at F5;obtain⟨RS,TH,LC,OC⟩:=F5.o.Mg (k:=9) (by rw[hcz];rfl) rfl (by rw[hcz];rfl);have KN:=aa hcz;clear hcz;go_wp2_with (first|refine aU rfl rfl rfl RS.o (by kernel_rfl) (by rw[LC.o];kernel_rfl) ?_|refine wpList_store_mid rfl _ _ _ rfl _ 0 cz.toArray rfl rfl TH.o (by rw[List.size_toArray,LC.o];kernel_rfl) OC.o ?_)
   have FZ:=aa (F5.o.bS cz (by rw[LC.o];rfl));have HS:Hid (Rp.order C.text.size st=((⟨x1,false⟩:I.Ord),s1)):=by show _=_;rw[Rp.rM st X1.o,if_neg (by rw[Ku.o];decide),I.dT Lp.o]
   refine bodyPost_ret (v:=.agg cz.toArray) (results_cell_row rfl _ _ w.heap.size 134 _ (0,0) _ rfl FZ.o.ah dP rfl (by rw[List.size_toArray,LC.o];exact dr)) rfl ?_;rw[HS.o];exact FZ.o.aK (cs:=cz) (El.cz KN.o (⟨_,rfl,FZ.o.Kx⟩))
theorem qz(C:RC)(st:I.St)(w:World)(h:RS C st w):
 Calls Tryz.prog 72 #[.p C.g] w (ER dG C w (Rp.du C.text.size st)):=by
 have F0:=aa (Fr.start h.lt h.aJ);clear h;go_enter Tryz.func72,Tryz.ntmps72;have K8:=aa (F0.o.new 85 #[.e,.b,.b,.o,.e,.e,.e,.o,.z]);go_wp2_with fail
 with_reducible refine(bh K8.o).mono ?_
 rintro e w1 ⟨n1,s1,(N1:Hid _),(Z1:Hid _),rfl,(F1:Hid _)⟩;go_upto_region 2 with fail
 have F2:=aa (F1.o.new 85 #[.s (I.bs n1),.b,.b,.o,.e,.e,.e,.o,.z]);obtain⟨w2,hw⟩:=aab (w1.alloc (.cells #[.s (I.bs n1),.b,.b,.o,.e,.e,.e,.o,.z] 85));obtain⟨g2,hg⟩:=aab w1.heap.size;rw[←hw,←hg]at F2;rw[←hw,←hg];clear hw hg;go_wp2_with fail
 with_reducible refine(aN F2.o (n:=1) (cells:=#[.s ⟨#[61]⟩]) [[61]] rfl rfl (by decide)).mono ?_
 rintro e w3 ⟨s2,(E2:Hid _),rfl,(F3:Hid _)⟩;go_wp2_with fail
 with_reducible refine(Fr.jD F3.o (dw C _ _ F3.o.q)).mono ?_
 rintro e w4 ⟨h3,A3,m3,c3,x3,s3,(X3:Hid _),rfl,(F4:Hid _)⟩;have Ks:=F4.o.ab.y8 1 2 3 4 5 6 7 8;simp at Ks;obtain⟨M9,Mb,Mt,Oj,Ph,OB,NK,OA⟩:=F4.o.ab.z8 1 2 3 4 5 6 7 8;go_upto_region 4 with fail
 have F5:=aa ((((((((F4.o.aO 1 (.u (h3.o.toNat:Int)) (cs':=#[.s (I.bs n1),.u (h3.o.toNat:Int),.b,.o,.e,.e,.e,.o,.z]) rfl).aO 2 (.u (h3.v.k.toNat:Int)) (cs':=#[.s (I.bs n1),.u (h3.o.toNat:Int),.u (h3.v.k.toNat:Int),.o,.e,.e,.e,.o,.z]) rfl).aO 3 (.i h3.v.n) (cs':=#[.s (I.bs n1),.u (h3.o.toNat:Int),.u (h3.v.k.toNat:Int),.i h3.v.n,.e,.e,.e,.o,.z]) rfl).aO 4 (.s h3.v.s) (cs':=#[.s (I.bs n1),.u (h3.o.toNat:Int),.u (h3.v.k.toNat:Int),.i h3.v.n,.s h3.v.s,.e,.e,.o,.z]) rfl).aO 5 (.s h3.nm) (cs':=#[.s (I.bs n1),.u (h3.o.toNat:Int),.u (h3.v.k.toNat:Int),.i h3.v.n,.s h3.v.s,.s h3.nm,.e,.o,.z]) rfl).aO 6 (.s h3.of) (cs':=#[.s (I.bs n1),.u (h3.o.toNat:Int),.u (h3.v.k.toNat:Int),.i h3.v.n,.s h3.v.s,.s h3.nm,.s h3.of,.o,.z]) rfl).aO 7 (.i h3.n) (cs':=#[.s (I.bs n1),.u (h3.o.toNat:Int),.u (h3.v.k.toNat:Int),.i h3.v.n,.s h3.v.s,.s h3.nm,.s h3.of,.i h3.n,.z]) rfl).aO 8 (.slice A3 m3 c3) (cs':=#[.s (I.bs n1),.u (h3.o.toNat:Int),.u (h3.v.k.toNat:Int),.i h3.v.n,.s h3.v.s,.s h3.nm,.s h3.of,.i h3.n,.slice A3 m3 c3]) rfl);obtain⟨w5,hw⟩:=aab (((((((((w4.setCell ⟨g2,1,none⟩ (.u (h3.o.toNat:Int))).setCell ⟨g2,2,none⟩ (.u (h3.v.k.toNat:Int))).setCell ⟨g2,3,none⟩ (.i h3.v.n)).setCell ⟨g2,4,none⟩ (.s h3.v.s)).setCell ⟨g2,5,none⟩ (.s h3.nm)).setCell ⟨g2,6,none⟩ (.s h3.of)).setCell ⟨g2,7,none⟩ (.i h3.n)).setCell ⟨g2,8,none⟩ (.slice A3 m3 c3)));rw[←hw]at F5⊢;clear hw Ks M9 Mb Mt Oj Ph OB NK OA;obtain⟨cz,hcz⟩:∃z:List Value,z=[.s (I.bs n1),.u (h3.o.toNat:Int),.u (h3.v.k.toNat:Int),.i h3.v.n,.s h3.v.s,.s h3.nm,.s h3.of,.i h3.n,.slice A3 m3 c3]:=⟨_,rfl⟩;rw[←hcz]at F5;obtain⟨RS,TH,LC,OC⟩:=F5.o.Mg (k:=9) (by rw[hcz];rfl) rfl (by rw[hcz];rfl);have KN:=aa hcz;clear hcz;go_wp2_with (first|refine aU rfl rfl rfl RS.o (by kernel_rfl) (by rw[LC.o];kernel_rfl) ?_|refine wpList_store_mid rfl _ _ _ rfl _ 0 cz.toArray rfl rfl TH.o (by rw[List.size_toArray,LC.o];kernel_rfl) OC.o ?_)
 have FZ:=aa (F5.o.bS cz (by rw[LC.o];rfl));have HS:Hid (Rp.du C.text.size st=((⟨n1,x3⟩:I.La),s3)):=by show _=_;exact(Rp.CS st N1.o (by rw[E2.o];exact X3.o))
 refine bodyPost_ret (v:=.agg cz.toArray) (results_cell_row rfl _ _ w.heap.size 85 _ (0,0) _ rfl FZ.o.ah mT rfl (by rw[List.size_toArray,LC.o];exact lM)) rfl ?_;rw[HS.o];exact FZ.o.aK (cs:=cz) (El.cz KN.o (⟨_,rfl,FZ.o.Kx,Sz.of Z1.o⟩))
theorem vj(C:RC)(st:I.St)(w:World)(h:RS C st w):
 Calls Tryz.prog 147 #[.p C.g] w (BR C w (Rp.event C.text.size st)):=by
 have F0:=aa (Fr.start h.lt h.aJ);clear h;go_enter Tryz.func147,Tryz.ntmps147;go_wp2_with fail
 with_reducible refine(aG ⟨#[105,110,115,101,114,116]⟩ [105,110,115,101,114,116] rfl F0.o).mono ?_
 rintro e w1 ⟨b,hb,rfl,hF⟩;cases b with
 |true=>
  have MF:=aa hb;have F1:Hid (Fr C.g w _ _ (RS C (I.next st)) w1):=hF;clear hF hb;have HS:Hid (Rp.event C.text.size st=((14:UInt8),(I.next st))):=by show _=_;simp only[Rp.event,MF.o,if_true]
  go_wp2_with fail
  go_ret;rw[HS.o];exact F1.o.dc
 |false=>
  have MF:=aa hb;have F1:Hid (Fr C.g w _ _ (RS C st) w1):=hF;clear hF hb;go_wp2_with fail
  with_reducible refine(aG ⟨#[117,112,100,97,116,101]⟩ [117,112,100,97,116,101] rfl F1.o).mono ?_
  rintro e w2 ⟨b,hb,rfl,hF⟩;cases b with
  |true=>
   have Ku:=aa hb;have F2:Hid (Fr C.g w _ _ (RS C (I.next st)) w2):=hF;clear hF hb;have HS:Hid (Rp.event C.text.size st=((15:UInt8),(I.next st))):=by show _=_;simp only[Rp.event,MF.o,Ku.o,if_true,Bool.false_eq_true,if_false]
   go_wp2_with fail
   go_ret;rw[HS.o];exact F2.o.dc
  |false=>
   have Ku:=aa hb;have F2:Hid (Fr C.g w _ _ (RS C st) w2):=hF;clear hF hb;go_wp2_with fail
   with_reducible refine(aG ⟨#[100,101,108,101,116,101]⟩ [100,101,108,101,116,101] rfl F2.o).mono ?_
   rintro e w3 ⟨b,hb,rfl,hF⟩;cases b with
   |true=>
    have Lp:=aa hb;have F3:Hid (Fr C.g w _ _ (RS C (I.next st)) w3):=hF;clear hF hb;have HS:Hid (Rp.event C.text.size st=((16:UInt8),(I.next st))):=by show _=_;simp only[Rp.event,MF.o,Ku.o,Lp.o,if_true,Bool.false_eq_true,if_false]
    go_wp2_with fail
    go_ret;rw[HS.o];exact F3.o.dc
   |false=>
    have Lp:=aa hb;have F3:Hid (Fr C.g w _ _ (RS C st) w3):=hF;clear hF hb;go_wp2_with fail
    with_reducible refine(dh F3.o).mono ?_
    rintro e w4 ⟨s9,(E9:Hid _),rfl,(F4:Hid _)⟩;have HS:Hid (Rp.event C.text.size st=((0:UInt8),s9)):=by show _=_;simp only[Rp.event,MF.o,Ku.o,Lp.o,Bool.false_eq_true,if_false,E9.o]
    go_wp2_with fail
    go_ret;rw[HS.o];exact F4.o.dc
theorem zB(C:RC)(st:I.St)(w:World)(h:RS C st w):
 Calls Tryz.prog 66 #[.p C.g] w (ER aB C w (Rp.drop C.text.size st)):=by
 have F0:=aa (Fr.start h.lt h.aJ);clear h;go_enter Tryz.func66,Tryz.ntmps66;have F1:=aa (F0.o.new 30 #[.b,.e,.e,.e,.b,.z,.z,.z,.z,.z,.z,.f,.e]);obtain⟨w1,hw⟩:=aab (w.alloc (.cells #[.b,.e,.e,.e,.b,.z,.z,.z,.z,.z,.z,.f,.e] 30));go_upto_region 1 with fail
 rw[←hw]at F1⊢;clear hw;go_wp2_with fail
 with_reducible refine(aG ⟨#[116,97,98,108,101]⟩ [116,97,98,108,101] rfl F1.o).mono ?_
 rintro e w2 ⟨b,hb,rfl,hF⟩;cases b with
 |true=>
  have MF:=aa hb;have F2:Hid (Fr C.g w _ _ (RS C (I.next st)) w2):=hF;clear hF hb;go_wp2_with fail
  with_reducible refine(bh F2.o).mono ?_
  rintro e w3 ⟨n5,s5,(N5:Hid _),(Z5:Hid _),rfl,hF⟩;have F3:=aa hF;clear hF;have Ks:=F3.o.ab.KI;simp at Ks;obtain⟨KQ,KS,KT,K4,K5,K6,K7,K9,Ma,MC,KX,KY,KZ⟩:=F3.o.ab.LW;go_wp2_with fail
  have FZ:=aa (F3.o.gu (cC (Ch.refl _ _ _) (.inl rfl) (.u 2) (.s (I.bs n5)) .e .e .b .z .z .z .z .z .z .f .e) (bC F3.o.ab (.u 2) (.s (I.bs n5)) .e .e .b .z .z .z .z .z .z .f .e));have HS:Hid (Rp.drop C.text.size st=(({I.Km.of 2 with nm:=n5}:I.Km),s5)):=by show _=_;exact(Rp.nL st (by simp only[MF.o,if_true]) N5.o)
  refine bodyPost_ret (v:=.agg #[.u 2,.s (I.bs n5),.e,.e,.b,.z,.z,.z,.z,.z,.z,.f,.e]) (results_cell_row rfl _ _ w.heap.size 30 _ (0,0) _ rfl FZ.o.ab ag rfl af) rfl ?_;rw[HS.o];exact FZ.o.aK (cs:=[.u 2,.s (I.bs n5),.e,.e,.b,.z,.z,.z,.z,.z,.z,.f,.e]) (⟨_,_,_,_,_,_,rfl,Rr.nil _ _ _,Rr.nil _ _ _,Rr.nil _ _ _,Rr.nil _ _ _,Rr.nil _ _ _,Rr.nil _ _ _,Sz.of Z5.o,Sz.of (Nat.zero_le _),Sz.of (Nat.zero_le _),Sz.of (Nat.zero_le _)⟩)
 |false=>
  have MF:=aa hb;have F2:Hid (Fr C.g w _ _ (RS C st) w2):=hF;clear hF hb;go_wp2_with fail
  with_reducible refine(aG ⟨#[118,105,101,119]⟩ [118,105,101,119] rfl F2.o).mono ?_
  rintro e w3 ⟨b,hb,rfl,hF⟩;cases b with
  |true=>
   have Ku:=aa hb;have F3:Hid (Fr C.g w _ _ (RS C (I.next st)) w3):=hF;clear hF hb;go_wp2_with fail
   with_reducible refine(bh F3.o).mono ?_
   rintro e w4 ⟨n5,s5,(N5:Hid _),(Z5:Hid _),rfl,hF⟩;have F4:=aa hF;clear hF;have cj2:=F4.o.ab.KI;simp at cj2;obtain⟨KQ,KS,KT,K4,K5,K6,K7,K9,Ma,MC,KX,KY,KZ⟩:=F4.o.ab.LW;go_wp2_with fail
   have FZ:=aa (F4.o.gu (cC (Ch.refl _ _ _) (.inl rfl) (.u 4) (.s (I.bs n5)) .e .e .b .z .z .z .z .z .z .f .e) (bC F4.o.ab (.u 4) (.s (I.bs n5)) .e .e .b .z .z .z .z .z .z .f .e));have HS:Hid (Rp.drop C.text.size st=(({I.Km.of 4 with nm:=n5}:I.Km),s5)):=by show _=_;exact(Rp.nL st (by simp only[MF.o,Ku.o,if_true,Bool.false_eq_true,if_false]) N5.o)
   refine bodyPost_ret (v:=.agg #[.u 4,.s (I.bs n5),.e,.e,.b,.z,.z,.z,.z,.z,.z,.f,.e]) (results_cell_row rfl _ _ w.heap.size 30 _ (0,0) _ rfl FZ.o.ab ag rfl af) rfl ?_;rw[HS.o];exact FZ.o.aK (cs:=[.u 4,.s (I.bs n5),.e,.e,.b,.z,.z,.z,.z,.z,.z,.f,.e]) (⟨_,_,_,_,_,_,rfl,Rr.nil _ _ _,Rr.nil _ _ _,Rr.nil _ _ _,Rr.nil _ _ _,Rr.nil _ _ _,Rr.nil _ _ _,Sz.of Z5.o,Sz.of (Nat.zero_le _),Sz.of (Nat.zero_le _),Sz.of (Nat.zero_le _)⟩)
  |false=>
   have Ku:=aa hb;have F3:Hid (Fr C.g w _ _ (RS C st) w3):=hF;clear hF hb;go_wp2_with fail
   with_reducible refine(aG ⟨#[116,114,105,103,103,101,114]⟩ [116,114,105,103,103,101,114] rfl F3.o).mono ?_
   rintro e w4 ⟨b,hb,rfl,hF⟩;cases b with
   |true=>
    have Lp:=aa hb;have F4:Hid (Fr C.g w _ _ (RS C (I.next st)) w4):=hF;clear hF hb;go_wp2_with fail
    with_reducible refine(bh F4.o).mono ?_
    rintro e w5 ⟨n5,s5,(N5:Hid _),(Z5:Hid _),rfl,hF⟩;have F5:=aa hF;clear hF;have K0:=F5.o.ab.KI;simp at K0;obtain⟨KQ,KS,KT,K4,K5,K6,K7,K9,Ma,MC,KX,KY,KZ⟩:=F5.o.ab.LW;go_wp2_with fail
    have FZ:=aa (F5.o.gu (cC (Ch.refl _ _ _) (.inl rfl) (.u 6) (.s (I.bs n5)) .e .e .b .z .z .z .z .z .z .f .e) (bC F5.o.ab (.u 6) (.s (I.bs n5)) .e .e .b .z .z .z .z .z .z .f .e));have HS:Hid (Rp.drop C.text.size st=(({I.Km.of 6 with nm:=n5}:I.Km),s5)):=by show _=_;exact(Rp.nL st (by simp only[MF.o,Ku.o,Lp.o,if_true,Bool.false_eq_true,if_false]) N5.o)
    refine bodyPost_ret (v:=.agg #[.u 6,.s (I.bs n5),.e,.e,.b,.z,.z,.z,.z,.z,.z,.f,.e]) (results_cell_row rfl _ _ w.heap.size 30 _ (0,0) _ rfl FZ.o.ab ag rfl af) rfl ?_;rw[HS.o];exact FZ.o.aK (cs:=[.u 6,.s (I.bs n5),.e,.e,.b,.z,.z,.z,.z,.z,.z,.f,.e]) (⟨_,_,_,_,_,_,rfl,Rr.nil _ _ _,Rr.nil _ _ _,Rr.nil _ _ _,Rr.nil _ _ _,Rr.nil _ _ _,Rr.nil _ _ _,Sz.of Z5.o,Sz.of (Nat.zero_le _),Sz.of (Nat.zero_le _),Sz.of (Nat.zero_le _)⟩)
   |false=>
    have Lp:=aa hb;have F4:Hid (Fr C.g w _ _ (RS C st) w4):=hF;clear hF hb;go_wp2_with fail
    with_reducible refine(aN F4.o (n:=1) (cells:=#[.s ⟨#[112,111,108,105,99,121]⟩]) [[112,111,108,105,99,121]] rfl rfl (by decide)).mono ?_
    rintro e w5 ⟨s4,(E4:Hid _),rfl,(F5:Hid _)⟩;go_wp2_with fail
    with_reducible refine(bh F5.o).mono ?_
    rintro e w6 ⟨n5,s5,(N5:Hid _),(Z5:Hid _),rfl,(F6:Hid _)⟩;have Le:=F6.o.ab.KI;simp at Le;obtain⟨KQ,KS,KT,K4,K5,K6,K7,K9,Ma,MC,KX,KY,KZ⟩:=F6.o.ab.LW;go_wp2_with fail
    have FZ:=aa (F6.o.gu (cC (Ch.refl _ _ _) (.inl rfl) (.u 8) (.s (I.bs n5)) .e .e .b .z .z .z .z .z .z .f .e) (bC F6.o.ab (.u 8) (.s (I.bs n5)) .e .e .b .z .z .z .z .z .z .f .e));have HS:Hid (Rp.drop C.text.size st=(({I.Km.of 8 with nm:=n5}:I.Km),s5)):=by show _=_;exact(Rp.nL st (by simp only[MF.o,Ku.o,Lp.o,Bool.false_eq_true,if_false,E4.o]) N5.o)
    refine bodyPost_ret (v:=.agg #[.u 8,.s (I.bs n5),.e,.e,.b,.z,.z,.z,.z,.z,.z,.f,.e]) (results_cell_row rfl _ _ w.heap.size 30 _ (0,0) _ rfl FZ.o.ab ag rfl af) rfl ?_;rw[HS.o];exact FZ.o.aK (cs:=[.u 8,.s (I.bs n5),.e,.e,.b,.z,.z,.z,.z,.z,.z,.f,.e]) (⟨_,_,_,_,_,_,rfl,Rr.nil _ _ _,Rr.nil _ _ _,Rr.nil _ _ _,Rr.nil _ _ _,Rr.nil _ _ _,Rr.nil _ _ _,Sz.of Z5.o,Sz.of (Nat.zero_le _),Sz.of (Nat.zero_le _),Sz.of (Nat.zero_le _)⟩)
end
theorem I.dW{T n most:Nat}{st s:I.St}(h:I.eV T n most st=(true,s)):s=I.next st∧I.ae [44] st=true:=by
 unfold I.eV at h;by_cases ha:I.ae [44] st=true
 ·rw[if_pos ha]at h;injection h with h1 h2
  rw[decide_eq_true_eq]at h1;refine⟨?_,ha⟩;rw[←h2];unfold I.bM at h1⊢;split
  ·rename_i hc;rw[if_pos hc]at h1;exact absurd h1 (I.bz (by decide))
  ·rfl
 ·rw[if_neg ha]at h;injection h with h1 _
  exact absurd h1 (by decide)
theorem Rp.dJ{α:Type}{T most f:Nat}{one:I.St→α×I.St}{l:List α}{st s:I.St}(hf:st.r.length<f)(h:I.eV T l.length most st=(true,s)){x:α}{s2:I.St}(h2:one s=(x,s2)):Rp.dB T most one f l st=Rp.dB T most one (f-1) (l++[x]) s2:=by
 obtain⟨f,rfl⟩:∃k,f=k+1:=⟨f-1,by omega⟩;rw[Rp.dB,h];simp only[if_true];rw[h2];rfl
theorem Rp.eP{α:Type}{T most f:Nat}{one:I.St→α×I.St}{l:List α}{st s:I.St}(hf:st.r.length<f)(h:I.eV T l.length most st=(false,s)):Rp.dB T most one f l st=(l,s):=by
 obtain⟨f,rfl⟩:∃k,f=k+1:=⟨f-1,by omega⟩;rw[Rp.dB,h];rfl
theorem Rp.eM{α:Type}{T most:Nat}{one:I.St→α×I.St}{st:I.St}{x:α}{s:I.St}(h:one st=(x,s)):Rp.list T most one st=Rp.dB T most one (s.r.length+1) [x] s:=by
 unfold Rp.list;rw[h]
section
variable{C:RC}{w0 w:World}{lo:Nat}{own:bO}{its:List It}{st:I.St}{Q:World→Prop}
theorem jH(F:Fl C.g w0 lo own its (RS C st) w)(n most:Nat)(x y:Int)(hx:x=(n:Int))(hy:y=(most:Int)):Calls Tryz.prog 71 #[.p C.g,.i x,.i y] w fun e w'=>∃b s,I.eV C.text.size n most st=(b,s)∧e=.returned (.bool b)∧Fl C.g w0 lo own its (RS C s) w'∧Ch C.g w.heap.size w w':=
 (DX C n most x y hx hy st w F.q).mono fun _ _ ⟨h1,h2,h3⟩=>⟨_,_,rfl,h1,F.call h2.aJ h3,h3⟩
theorem Fl.jw{α:Type}{E:El α}{f:FuncId}{args:Array Value}{r:α×I.St}(F:Fl C.g w0 lo own its Q w)(h:Calls Tryz.prog f args w (ER E C w r)):Calls Tryz.prog f args w fun e w'=>∃cs x s,r=(x,s)∧e=.returned (.agg cs.toArray)∧E.R w' (In w.heap.size w'.heap.size) cs x∧Ch C.g w.heap.size w w'∧Fl C.g w0 lo own its (RS C s) w':=
 h.mono fun _ _ ⟨cs,h1,h2,h3,h4⟩=>⟨cs,r.1,r.2,rfl,h1,h2,h4,F.call h3.aJ h4⟩
theorem Ro.one{α:Type}{E:El α}{w1 w2:World}{cs:List Value}{x:α}(hw:w2=w1.alloc (.cells cs.toArray E.t))(hl:lo≤w1.heap.size)(hx:E.R w1 (In lo w1.heap.size) cs x):Ro E w2 lo (.slice (some ⟨w1.heap.size,0,none⟩) 1 1) [x]:=by
 subst hw;exact Ro.lit (Kn.new w1 _ _) hl (El.hp hx (fun b hb=>⟨hb.1,by have:=hb.2;simp;omega,by have:=hb.2;omega⟩) fun b hb=>Below.heap_alloc w1 _ b hb.2)
end
section
set_option maxRecDepth 100000
theorem oh(C:RC)(st:I.St)(w:World)(h:RS C st w):
 Calls Tryz.prog 70 #[.p C.g] w (VR Kr C w (Rp.row C.text.size st)):=by
 have M8:=aa (show∀st:I.St,Rp.Inv st→(Rp.expr C.text.size st).2.r.length≤st.r.length from fun st hi=>((Rp.rZ (T:=C.text.size)).aF hi).1);have F0:=aa (Fr.start h.lt h.aJ);clear h;go_enter Tryz.func70,Tryz.ntmps70;go_wp2_with fail
 with_reducible refine(aN F0.o (n:=1) (cells:=#[.s ⟨#[40]⟩]) [[40]] rfl rfl (by decide)).mono ?_
 rintro e w1 ⟨s1,(E1:Hid _),rfl,(F1:Hid _)⟩;go_wp2_with fail
 obtain⟨lo,hlo⟩:=aab w1.heap.size;have L1:=aa (Fl.start F1.o);rw[←hlo]at L1;have hlo1:lo≤w1.heap.size:=by omega
 have hlo2:w1.heap.size≤lo:=by omega
 clear hlo;with_reducible refine(Fl.jw L1.o (dw C _ _ L1.o.q)).mono ?_
 rintro e w2 ⟨cs2,x2,s2,(X2:Hid _),rfl,hx2,hc2,hL2⟩;have L2:=aa hL2;clear hL2;obtain⟨h2,A2,m2,c2,RJ,rfl,hk2⟩:=aV hx2;clear hk2;unfold ai;have hs2:=hc2.size;obtain⟨w3,hw⟩:=aab (w2.alloc (.cells #[.u (h2.o.toNat:Int),.u (h2.v.k.toNat:Int),.i h2.v.n,.s h2.v.s,.s h2.nm,.s h2.of,.i h2.n,.slice A2 m2 c2] 50));have Lb:=aa (Ro.one (E:=Kr) (lo:=lo) (cs:=[.u (h2.o.toNat:Int),.u (h2.v.k.toNat:Int),.i h2.v.n,.s h2.v.s,.s h2.nm,.s h2.of,.i h2.n,.slice A2 m2 c2]) (w1:=w2) hw (by omega) (El.hp (E:=Kr) hx2 (fun b hb=>⟨by have:=hb.1;omega,hb.2⟩) fun _ _=>rfl));have L3:=aa (L2.o.tmp (.cells #[.u (h2.o.toNat:Int),.u (h2.v.k.toNat:Int),.i h2.v.n,.s h2.v.s,.s h2.nm,.s h2.of,.i h2.n,.slice A2 m2 c2] 50));rw[←hw]at L3;obtain⟨v0,hv0⟩:=aab (Value.slice (some ⟨w2.heap.size,0,none⟩) 1 1);rw[←hv0]at Lb;have HF:=aa (Rp.eM (T:=C.text.size) (most:=16) (one:=Rp.expr C.text.size) X2.o);have hln:s2.r.length≤4096:=(L2.o.q).len;clear hx2 hc2 L2 L1;go_wp2_with fail
 rw[←hw,←hv0];clear hw hv0;go_loopg [3] s2.r.length (fun gg v wr=>∃(f:Nat) (xs:List Ev.Ex) (s0:I.St),gg=s0.r.length∧s0.r.length<f∧xs.length+s0.r.length≤4098∧Hid (Rp.list C.text.size 16 (Rp.expr C.text.size) s1=Rp.dB C.text.size 16 (Rp.expr C.text.size) f xs s0)∧Hid (Ro Kr wr lo v xs)∧Hid (Fl C.g w lo [] [] (RS C s0) wr));case atStart=>exact⟨_,_,_,rfl,by omega,by simp;omega,HF,Lb,L3⟩
 case round=>
  clear HF Lb L3 X2 F1 hs2 hln hlo1 hlo2;obtain⟨f,xs,s0,rfl,Lu,hxl,HF,HO,HL⟩:=hrel;obtain⟨NX,hw⟩:=aab wr;subst hw;obtain⟨A,c,rfl,hcp1,hcp2⟩:=HO.o.form;have hgl:=HL.o.gl;have Oe:=HL.o.l2;go_wp2_with fail
  with_reducible refine(jH HL.o xs.length 16 (xs.length:Int) 16 rfl rfl).mono ?_
  rintro e Nc ⟨b,Qd,hM,rfl,hL,hc21⟩;have HM:=aa hM;have KM:=aa hL;have KE:=aa (HO.o.ch hc21 hgl);clear hM hL hc21 HL;cases b with
  |false=>
   have HZ:=aa (HF.o.trans (Rp.eP Lu HM.o));have MU:=aa (KM.o.done KE.o);clear KM KE HO HF HM;have Og:=aa HZ.o;go_wp2_with fail
   with_reducible refine(aN MU.o (n:=1) (cells:=#[.s ⟨#[41]⟩]) [[41]] rfl rfl (by decide)).mono ?_
   rintro e KO ⟨Lx,(WL:Hid _),rfl,(ME:Hid _)⟩;have HS:Hid (Rp.row C.text.size st=(xs,Lx)):=by show _=_;unfold Rp.row I.inside;rw[E1.o,HZ.o];simp only;rw[WL.o]
   go_wp2_with fail
   go_ret;rw[HS.o];exact ME.o.rk
  |true=>
   obtain⟨rfl,hacc⟩:=I.dW HM.o;have hlt:=I.bx hacc;clear hacc HO;have Py:=KM.o.l2;go_wp2_with fail
   with_reducible refine(Fl.jw KM.o (dw C _ _ KM.o.q)).mono ?_
   rintro e KO ⟨Qt,KW,Lx,(LD:Hid _),rfl,Lg,hc22,LH⟩;have My:=aa LH;clear LH;obtain⟨h22,LU,m22,LV,ks22,rfl,UK⟩:=aV Lg;clear UK;unfold ai;have hls:=M8.o _ KM.o.q.inv;rw[LD.o]at hls;simp only at hls;have Mm:=aa (HF.o.trans (Rp.dJ Lu HM.o LD.o));have Ob:=hc22.size;obtain⟨NM,hw⟩:=aab (KO.alloc (.cells #[.u (h22.o.toNat:Int),.u (h22.v.k.toNat:Int),.i h22.v.n,.s h22.v.s,.s h22.nm,.s h22.of,.i h22.n,.slice LU m22 LV] 50));have HB23:=aa (show Kn NM KO.heap.size 50 #[.u (h22.o.toNat:Int),.u (h22.v.k.toNat:Int),.i h22.v.n,.s h22.v.s,.s h22.nm,.s h22.of,.i h22.n,.slice LU m22 LV] by rw[hw];exact Kn.new KO _ _);have UL:=aa (show Ro Kr NM lo (.slice A xs.length c) xs by rw[hw];exact(KE.o.ch hc22 hgl).alloc _);have HX23:=aa (show Kr.R NM (Pow NM lo (.slice A xs.length c)) [.u (h22.o.toNat:Int),.u (h22.v.k.toNat:Int),.i h22.v.n,.s h22.v.s,.s h22.nm,.s h22.of,.i h22.n,.slice LU m22 LV] KW by
    rw[hw]
    exact KE.o.pow (by omega) (El.hp (E:=Kr) Lg (P':=In Nc.heap.size KO.heap.size) (fun b hb=>hb) fun b hb=>Below.heap_alloc KO _ b hb.2) fun b hb=>⟨hb.1,by have:=hb.2;simp;omega⟩)
   have Yk:=aa (show Fl C.g w lo [] [] (RS C Lx) NM by rw[hw];exact My.o.tmp _);have hz23:=Yk.o.l2;clear Lg hc22 My KM KE HF HM LD;go_wp2_with (at_builtin;rw[←hw];refine dZ re rfl (.tmp 14) (.tmp 17) Tryz.underlying27 rfl lo _ xs rfl UL.o KO.heap.size 1 [.u (h22.o.toNat:Int),.u (h22.v.k.toNat:Int),.i h22.v.n,.s h22.v.s,.s h22.nm,.s h22.of,.i h22.n,.slice LU m22 LV] KW rfl HB23.o HX23.o (by show(xs.length+1)*104≤140737488355328;omega) (by unfold maxLen;omega) hz23 ?_;intro v24 Mi Lj MW LI;have Lt:=aa Lj;have Me:=aa (Yk.o.low LI);clear Lj MW LI)
   go_roundg Lx.r.length;case measure=>omega
   case rel=>exact⟨f-1,xs++[KW],Lx,rfl,by omega,by simp;omega,Mm,Lt,Me⟩
end
end Go.Proofs.YtnicfobpclehkaaGreatDoor
