import Derived.Deep.RegionHeld3
import Derived.Test.YtnicfobpclehkaaGreatDoorP11
set_option maxHeartbeats 3200000
set_option linter.unusedVariables false
set_option linter.unusedSimpArgs false
namespace Go.Proofs.YtnicfobpclehkaaGreatDoor
open Go.RowKit
section
set_option maxRecDepth 100000
def I.kt(X:I.St→Ev.Ex×I.St)(op:UInt8)(st:I.St):Ev.Ex×I.St:=if op=17∧I.ae [42] st=true then(.mk (I.hd op) [],I.next st)else(I.un op (X st).1,(X st).2)
theorem Bi(C:RC)(X:I.St→Ev.Ex×I.St)(n:Nat)(hK:dy C 206 #[.p C.g] X n)(op:UInt8)(gO gR:Nat)(TT:gO≠C.g)(hgR:gR≠C.g):
 gM C 290 #[.p gO,.p gR] [(gO,.cells #[.u (op.toNat:Int)] 46 (0,0)),(gR,.cells #[.p C.g] 70 (0,0))] eY (I.kt X op) n:=by
 intro st w hn h hL;have Kt:=h.lt;have HP:=aa h;have HK:=aa hK;have hO:w.heap[gO]?=some (.cells #[.u (op.toNat:Int)] 46 (0,0)):=hL _ List.mem_cons_self;have hR:w.heap[gR]?=some (.cells #[.p C.g] 70 (0,0)):=hL _ (List.mem_cons_of_mem _ List.mem_cons_self);have hOl:=lt_of_block hO;have hRl:=lt_of_block hR;have o0:=cell_of_one hO;have d0:=cell_of_one hR;have HO:=aa hO;have HD:=aa hR;clear h hK hL hO hR;go_enter Tryz.func290,Tryz.ntmps290;by_cases SZ:op=17
 ·have q:((op.toNat:Int)==17)=true:=by rw[SZ];decide
  go_wp2_with fail
  with_reducible refine(bK C ⟨#[42]⟩ st _ (HP.o.alloc _)).mono ?_
  rintro e w1 ⟨rfl,hp1,hc1⟩;have hs1:=hc1.size;rw[ay]at hs1;rw[show(⟨#[42]⟩:ByteArray).data.toList=[42]from rfl]at hp1⊢;have KL:=aa hp1;have S0:=aa (((Ch.refl C.g w.heap.size w).alloc (Nat.le_refl _) _).trans hc1 (by simp));have Vj:=aa ((Kn.new w _ _).ch hc1 (by simp) (by omega));have TU:=aa ((S0.o.block gO hOl TT).trans HO.o);have TV:=aa ((S0.o.block gR hRl hgR).trans HD.o);have Y5:=lt_of_block TU.o;have Y6:=lt_of_block TV.o;clear hp1 hc1 o0 d0;have o0:=cell_of_one TU.o;have d0:=cell_of_one TV.o;cases ha:I.ae [42] st with
  |true=>
   have HF:Hid (I.kt X op st=(.mk (I.hd op) [],I.next st)):=by show _=_;unfold I.kt;rw[if_pos ⟨SZ,ha⟩]
   have Ld:Hid (PS C (I.next st) w1):=by have:=KL.o;rw[I.di ha]at this;exact this
   clear ha SZ;obtain⟨r0,r1,r2,r3,r4,r5,r6,r7⟩:=Vj.o.Y8;simp at r0 r1 r2 r3 r4 r5 r6 r7;obtain⟨f0,f1,f2,f3,f4,f5,f6,f7⟩:=Vj.o.Z8;go_wp2_with fail
   refine bodyPost_ret (v:=.agg (ai (I.hd op) none 0 0).toArray) (results_cell_row rfl _ _ w.heap.size 50 _ (0,0) _ rfl (aW Vj.o _ _ _ _ _ _ _ _) eK rfl cD) rfl ⟨_,rfl,?_,?_,?_⟩
   ·rw[HF.o];exact bU (jx op)
   ·rw[HF.o];exact eg Ld.o Kt _ _ _ _ _ _ _ _
   ·exact bd S0.o (.inr (Nat.le_refl _)) _ _ _ _ _ _ _ _
  |false=>
   have Za:Hid (I.kt X op st=(I.un op (X st).1,(X st).2)):=by show _=_;unfold I.kt;rw[if_neg (by rintro⟨_,h⟩;rw[ha]at h;cases h)]
   have Ld:Hid (PS C st w1):=by have:=KL.o;rw[I.dT ha]at this;exact this
   clear ha SZ q;have LA:Hid (I.kt X op st=(I.un op (X st).1,(X st).2)):=Za.o;go_wp2_with fail
   go_region_with ((with_reducible refine(HK.o.drew st _ hn (Ld.o)).mono ?_);rintro e w6 ⟨XF,rfl,hx6,PQ,hc6⟩;obtain⟨h6,A6,m6,c6,YR,rfl,Ve⟩:=aV hx6;unfold ai;have Qf:=aa hx6;have Mp:=aa PQ;have MX:=aa (S0.o.trans hc6 (by omega));have K3:=aa (Vj.o.ch hc6 (by omega) (by omega));have TW:=(hc6.block gO Y5 TT).trans TU.o;have hD6:=(hc6.block gR Y6 hgR).trans TV.o;have hs6:=hc6.size;have Vk:w.heap.size<w6.heap.size:=(by omega);clear hx6 PQ hc6 Ve;have o6:=cell_of_one TW;have d6:=cell_of_one hD6;have l6:=lt_of_block TW;have m6':=lt_of_block hD6;clear TW hD6;have r0:=K3.o.cell 0;have r1:=K3.o.cell 1;have r2:=K3.o.cell 2;have r3:=K3.o.cell 3;have r4:=K3.o.cell 4;have r5:=K3.o.cell 5;have r6:=K3.o.cell 6;have r7:=K3.o.cell 7;simp at r0 r1 r2 r3 r4 r5 r6 r7;have f0:=K3.o.frozen 0;have f1:=K3.o.frozen 1;have f2:=K3.o.frozen 2;have f3:=K3.o.frozen 3;have f4:=K3.o.frozen 4;have f5:=K3.o.frozen 5;have f6:=K3.o.frozen 6;have f7:=K3.o.frozen 7)
   all_goals
    obtain⟨w8,hw8⟩:=aab (World.alloc ((((((((w6.setCell ⟨w.heap.size,0,none⟩ (.u (op.toNat:Int))).setCell ⟨w.heap.size,1,none⟩ .b).setCell ⟨w.heap.size,2,none⟩ .o).setCell ⟨w.heap.size,3,none⟩ .e).setCell ⟨w.heap.size,4,none⟩ .e).setCell ⟨w.heap.size,5,none⟩ .e).setCell ⟨w.heap.size,6,none⟩ .o).setCell ⟨w.heap.size,7,none⟩ (.slice (some ⟨w6.heap.size,0,none⟩) 1 1)) (.cells #[.u (h6.o.toNat:Int),.u (h6.v.k.toNat:Int),.i h6.v.n,.s h6.v.s,.s h6.nm,.s h6.of,.i h6.n,.slice A6 m6 c6] 50))
    rw[←hw8]
    have hsame:∀b,b<w6.heap.size→b≠w.heap.size→w8.heap[b]?=w6.heap[b]?:=fun b h1 h2=>by rw[hw8];exact(Below.heap_alloc _ _ b (by simp;omega)).trans ((bd (Ch.refl w.heap.size w6.heap.size w6) (.inl rfl) _ _ _ _ _ _ _ _).block b h1 h2)
    have S1:w8.heap.size=w6.heap.size+1:=by rw[hw8];simp
    have TY:=aa (show Kn w8 w6.heap.size _ _ by rw[hw8];exact DU w6 w.heap.size _ _ _ _ _ _ _ _ _ _)
    have Si:=aa (show Kn w8 w.heap.size 50 (ai (I.hd op) (some ⟨w6.heap.size,0,none⟩) 1 1).toArray by rw[hw8];exact(aW K3.o _ _ _ _ _ _ _ _).alloc _)
    have PM:=aa (show PS C (X st).2 w8 by rw[hw8];exact(eg Mp.o Kt _ _ _ _ _ _ _ _).alloc _)
    have Qe:=aa (show Ch C.g w.heap.size w w8 by rw[hw8];exact(bd MX.o (.inr (Nat.le_refl _)) _ _ _ _ _ _ _ _).alloc (by simp;omega) _)
    have TZ:=aa (show XR w8 (In w.heap.size w8.heap.size) (ai (I.hd op) (some ⟨w6.heap.size,0,none⟩) 1 1) (I.un op (X st).1)from
     qA op TY.o rfl (Qf.o.hp (fun b hb=>⟨by have:=hb.1;omega,by have:=hb.2;omega⟩) fun b hb=>hsame b hb.2 (by have:=hb.1;omega)) ⟨by omega,by omega⟩)
    clear hsame S1 hw8
    go_wp2_with fail
    exact bodyPost_ret (v:=.agg (ai (I.hd op) (some ⟨w6.heap.size,0,none⟩) 1 1).toArray) (results_cell_row rfl _ _ w.heap.size 50 _ (0,0) _ rfl Si.o eK rfl cD) rfl ⟨_,rfl,by rw[LA.o];exact TZ.o,by rw[LA.o];exact PM.o,Qe.o⟩
 ·have q:((op.toNat:Int)==17)=false:=by simp;exact fun e=>SZ (UInt8.toNat_inj.1 (by rw[show((17:UInt8).toNat)=17 from rfl];omega))
  have Za:Hid (I.kt X op st=(I.un op (X st).1,(X st).2)):=by show _=_;unfold I.kt;rw[if_neg (by rintro⟨h,_⟩;exact SZ h)]
  clear SZ;obtain⟨w1,hw1⟩:=aab (w.alloc (.cells #[.b,.b,.o,.e,.e,.e,.o,.z] 50));go_upto_region 3 with fail
  rw[←hw1];have Ld:=aa (show PS C st w1 by rw[hw1];exact HP.o.alloc _);have S0:=aa (show Ch C.g w.heap.size w w1 by rw[hw1];exact(Ch.refl C.g w.heap.size w).alloc (Nat.le_refl _) _);have Vj:=aa (show Kn w1 w.heap.size _ _ by rw[hw1];exact Kn.new w _ _);have TU:=aa ((S0.o.block gO hOl TT).trans HO.o);have TV:=aa ((S0.o.block gR hRl hgR).trans HD.o);have Y5:=lt_of_block TU.o;have Y6:=lt_of_block TV.o;have hs1:w.heap.size+1≤w1.heap.size:=by rw[hw1];simp
  clear hw1 o0 d0 q;have o0:=cell_of_one TU.o;have d0:=cell_of_one TV.o;have LA:Hid (I.kt X op st=(I.un op (X st).1,(X st).2)):=Za.o;go_wp2_with fail
  go_region_with ((with_reducible refine(HK.o.drew st _ hn (Ld.o)).mono ?_);rintro e w6 ⟨XF,rfl,hx6,PQ,hc6⟩;obtain⟨h6,A6,m6,c6,YR,rfl,Ve⟩:=aV hx6;unfold ai;have Qf:=aa hx6;have Mp:=aa PQ;have MX:=aa (S0.o.trans hc6 (by omega));have K3:=aa (Vj.o.ch hc6 (by omega) (by omega));have TW:=(hc6.block gO Y5 TT).trans TU.o;have hD6:=(hc6.block gR Y6 hgR).trans TV.o;have hs6:=hc6.size;have Vk:w.heap.size<w6.heap.size:=(by omega);clear hx6 PQ hc6 Ve;have o6:=cell_of_one TW;have d6:=cell_of_one hD6;have l6:=lt_of_block TW;have m6':=lt_of_block hD6;clear TW hD6;have r0:=K3.o.cell 0;have r1:=K3.o.cell 1;have r2:=K3.o.cell 2;have r3:=K3.o.cell 3;have r4:=K3.o.cell 4;have r5:=K3.o.cell 5;have r6:=K3.o.cell 6;have r7:=K3.o.cell 7;simp at r0 r1 r2 r3 r4 r5 r6 r7;have f0:=K3.o.frozen 0;have f1:=K3.o.frozen 1;have f2:=K3.o.frozen 2;have f3:=K3.o.frozen 3;have f4:=K3.o.frozen 4;have f5:=K3.o.frozen 5;have f6:=K3.o.frozen 6;have f7:=K3.o.frozen 7)
  all_goals
   obtain⟨w8,hw8⟩:=aab (World.alloc ((((((((w6.setCell ⟨w.heap.size,0,none⟩ (.u (op.toNat:Int))).setCell ⟨w.heap.size,1,none⟩ .b).setCell ⟨w.heap.size,2,none⟩ .o).setCell ⟨w.heap.size,3,none⟩ .e).setCell ⟨w.heap.size,4,none⟩ .e).setCell ⟨w.heap.size,5,none⟩ .e).setCell ⟨w.heap.size,6,none⟩ .o).setCell ⟨w.heap.size,7,none⟩ (.slice (some ⟨w6.heap.size,0,none⟩) 1 1)) (.cells #[.u (h6.o.toNat:Int),.u (h6.v.k.toNat:Int),.i h6.v.n,.s h6.v.s,.s h6.nm,.s h6.of,.i h6.n,.slice A6 m6 c6] 50))
   rw[←hw8]
   have hsame:∀b,b<w6.heap.size→b≠w.heap.size→w8.heap[b]?=w6.heap[b]?:=fun b h1 h2=>by rw[hw8];exact(Below.heap_alloc _ _ b (by simp;omega)).trans ((bd (Ch.refl w.heap.size w6.heap.size w6) (.inl rfl) _ _ _ _ _ _ _ _).block b h1 h2)
   have S1:w8.heap.size=w6.heap.size+1:=by rw[hw8];simp
   have TY:=aa (show Kn w8 w6.heap.size _ _ by rw[hw8];exact DU w6 w.heap.size _ _ _ _ _ _ _ _ _ _)
   have Si:=aa (show Kn w8 w.heap.size 50 (ai (I.hd op) (some ⟨w6.heap.size,0,none⟩) 1 1).toArray by rw[hw8];exact(aW K3.o _ _ _ _ _ _ _ _).alloc _)
   have PM:=aa (show PS C (X st).2 w8 by rw[hw8];exact(eg Mp.o Kt _ _ _ _ _ _ _ _).alloc _)
   have Qe:=aa (show Ch C.g w.heap.size w w8 by rw[hw8];exact(bd MX.o (.inr (Nat.le_refl _)) _ _ _ _ _ _ _ _).alloc (by simp;omega) _)
   have TZ:=aa (show XR w8 (In w.heap.size w8.heap.size) (ai (I.hd op) (some ⟨w6.heap.size,0,none⟩) 1 1) (I.un op (X st).1)from
    qA op TY.o rfl (Qf.o.hp (fun b hb=>⟨by have:=hb.1;omega,by have:=hb.2;omega⟩) fun b hb=>hsame b hb.2 (by have:=hb.1;omega)) ⟨by omega,by omega⟩)
   clear hsame S1 hw8
   go_wp2_with fail
   exact bodyPost_ret (v:=.agg (ai (I.hd op) (some ⟨w6.heap.size,0,none⟩) 1 1).toArray) (results_cell_row rfl _ _ w.heap.size 50 _ (0,0) _ rfl Si.o eK rfl cD) rfl ⟨_,rfl,by rw[LA.o];exact TZ.o,by rw[LA.o];exact PM.o,Qe.o⟩
theorem BL(C:RC)(X:I.St→Ev.Ex×I.St)(n:Nat)(hK:dy C 206 #[.p C.g] X n)(op:UInt8)(st:I.St)(w:World)(hn:st.r.length≤n)(h:PS C st w):
 Calls Tryz.prog 287 #[.p C.g,.u (op.toNat:Int)] w (eY C w (I.fold C.text.size X op st)):=by
 have Kt:=h.lt;have HP:=aa h;have HK:=aa hK;clear h hK;obtain⟨w1,hw1⟩:=aab (((w.alloc (.cells #[.p C.g] 70)).alloc (.cells #[.u (op.toNat:Int)] 46)).alloc (.cells #[.b,.b,.o,.e,.e,.e,.o,.z] 50));go_enter Tryz.func287,Tryz.ntmps287;go_upto_region 1 with fail
 rw[←hw1];have hD1:Kn w1 w.heap.size 70 #[.p C.g]:=by rw[hw1];exact((Kn.new w _ _).alloc _).alloc _
 have XJ:Kn w1 (w.heap.size+1) 46 #[.u (op.toNat:Int)]:=by rw[hw1];exact(Kn.mD _ _ _ _).alloc _
 have HR1:Hid (Kn w1 (w.heap.size+1+1) 50 #[.b,.b,.o,.e,.e,.e,.o,.z]):=by rw[hw1];have:=Kn.new ((w.alloc (.cells #[.p C.g] 70)).alloc (.cells #[.u (op.toNat:Int)] 46)) 50 #[.b,.b,.o,.e,.e,.e,.o,.z];rw[ay,ay]at this;exact this
 have KL:=aa (show PS C st w1 by rw[hw1];exact((HP.o.alloc _).alloc _).alloc _);have KJ:=aa (show Ch C.g w.heap.size w w1 by rw[hw1];exact(((Ch.refl C.g w.heap.size w).alloc (Nat.le_refl _) _).alloc (by simp) _).alloc (by simp;omega) _);have hs1:w1.heap.size=w.heap.size+1+1+1:=by rw[hw1];simp
 clear hw1;obtain⟨gR,hgR⟩:=aab w.heap.size;obtain⟨gO,TT⟩:=aab (gR+1);obtain⟨gX,RM⟩:=aab (gO+1);rw[←hgR]at hD1 XJ HR1 hs1⊢;rw[←TT]at XJ HR1 hs1⊢;rw[←RM]at HR1 hs1⊢;have b1:w.heap.size≤gR:=by omega
 have b2:gR<gO:=by omega
 have b3:gO<gX:=by omega
 have b4:gX<w1.heap.size:=by omega
 clear hgR TT RM hs1;have M8:Hid (ey [(gO,.cells #[.u (op.toNat:Int)] 46 (0,0)),(gR,.cells #[.p C.g] 70 (0,0))] w1):=fun p hp=>by
  rcases List.mem_cons.1 hp with rfl|hp
  ·exact XJ
  ·rcases List.mem_cons.1 hp with rfl|hp
   ·exact hD1
   ·cases hp
 have NR:∀p∈([(gO,.cells #[.u (op.toNat:Int)] 46 (0,0)),(gR,.cells #[.p C.g] 70 (0,0))]:List (Nat×Obj)),p.1≠C.g:=fun p hp=>by
  rcases List.mem_cons.1 hp with rfl|hp
  ·show gO≠C.g;omega
  ·rcases List.mem_cons.1 hp with rfl|hp
   ·show gR≠C.g;omega
   ·cases hp
 have NR:=aa NR;have d0:=cell_of_one hD1;clear hD1 XJ;go_wp2_with fail
 with_reducible refine(ir C 290 #[] #[.p gO,.p gR] #[.p gO,.p gR] (fun w=>by simp[go_sem]) [(gO,.cells #[.u (op.toNat:Int)] 46 (0,0)),(gR,.cells #[.p C.g] 70 (0,0))] NR.o (I.kt X op) n (Bi C X n HK.o op gO gR (by omega) (by omega)) st _ (by omega) (.inl hn) KL.o M8.o).mono ?_
 rintro e w2 ⟨cs2,rfl,hx2,hp2,hc2⟩;have hs2:=hc2.size;obtain⟨h2,A2,m2,c2,RJ,rfl,hk2⟩:=aV hx2;have NO:=aa hx2;have Ld:=aa hp2;have Ms:=aa (KJ.o.trans hc2 (by omega));have HR2:=aa (HR1.o.ch hc2 (by omega) (by omega));clear hx2 hp2 hc2 hk2;unfold ai;have Ks:=HR2.o.Y8;simp at Ks;obtain⟨f0,f1,f2,f3,f4,f5,f6,f7⟩:=HR2.o.Z8;go_wp2_with fail
 refine bodyPost_ret (v:=.agg (ai h2 A2 m2 c2).toArray) (results_cell_row rfl _ _ gX 50 _ (0,0) _ rfl (aW HR2.o _ _ _ _ _ _ _ _) eK rfl cD) rfl ⟨_,rfl,?_,?_,?_⟩
 ·exact NO.o.hp (fun b hb=>⟨by have:=hb.1;omega,by have:=hb.2;simp;omega⟩) fun b hb=>(bd (Ch.refl gX w2.heap.size w2) (.inl rfl) _ _ _ _ _ _ _ _).block b (by have:=hb.2;omega) (by have:=hb.1;omega)
 ·exact eg Ld.o (by omega) _ _ _ _ _ _ _ _
 ·exact bd Ms.o (.inr (by omega)) _ _ _ _ _ _ _ _
end
section
set_option maxRecDepth 100000
theorem I.jL(T:Nat)(st:I.St):I.au st=(I.cI T st).1∧I.Mv st=(I.cI T st).2.1:=by
 unfold I.au I.Mv I.cI;cases st.r<;>exact⟨rfl,rfl⟩
theorem noG(g:Nat):∀p∈([]:List (Nat×Obj)),p.1≠g:=fun p hp=>by cases hp
theorem zm(C:RC)(st:I.St)(w:World)(h:PS C st w):
 Calls Tryz.prog 131 #[.p C.g] w.drew fun e w'=>e=.returned (.s (I.bs (I.name C.text.size st).1))∧PS C (I.name C.text.size st).2 w'∧Ch C.g w.heap.size w w':=
 (nP C st w.drew h.Cf).mono fun _ _ ⟨a,b,c⟩=>⟨a,b,Ch.sk c⟩
theorem pU{C:RC}{st:I.St}{w:World}(h:PS C st w):(I.name C.text.size st).1.length≤4096:=by
 unfold I.name;cases hr:st.r with
 |nil=>exact Nat.zero_le _
 |cons t r=>
  simp only;split
  ·exact(nJ h hr).1
  ·exact Nat.zero_le _
theorem lH{n o:I.Bs}(h1:n.length≤4096)(h2:o.length≤4096):pG ⟨2,⟨0,0,I.aQ⟩,I.bs n,I.bs o,0⟩:=by
 have hs:∀l:I.Bs,l.length≤4096→(I.bs l).size≤maxLen:=fun l hl=>by
  have:=aH (I.bs l)
  rw[cL]at this
  unfold maxLen
  omega
 exact⟨JX 0 0 (by decide) (by decide),hs n h1,hs o h2,by show(-9223372036854775808:Int)≤0;decide,by show(0:Int)≤9223372036854775807;decide⟩
theorem vM(C:RC)(X:I.St→Ev.Ex×I.St)(N:Nat)(hK:∀m,m+1≤N→dy C 206 #[.p C.g] X m):dy C 283 #[.p C.g] (I.aD C.text.size X) N:=by
 intro st w hn h;have Kt:=h.lt;have HP:=aa h;have HK:=aa hK;clear h hK;have HF:Hid (I.aD C.text.size X st=(if I.au st=2∨I.au st=3∨I.au st=4 then I.literal C.text.size st else if I.au st=5∧I.Mv st=[40]then I.inside C.text.size X st else if I.ae [110,117,108,108] st=true then(.mk (I.hd 1) [],I.next st)else if I.ae [116,114,117,101] st=true then(I.lit ⟨1,1,I.aQ⟩,I.next st)else if I.ae [102,97,108,115,101] st=true then(I.lit ⟨1,0,I.aQ⟩,I.next st)else if I.ae [117,115,101,114] st=true then(.mk (I.hd 21) [],I.next st)else if(I.one [([99,111,117,110,116],17),([115,117,109],18),([109,105,110],19),([109,97,120],20)] st).1=0 then I.cm C.text.size st else I.fold C.text.size X (I.one [([99,111,117,110,116],17),([115,117,109],18),([109,105,110],19),([109,97,120],20)] st).1 (I.one [([99,111,117,110,116],17),([115,117,109],18),([109,105,110],19),([109,97,120],20)] st).2)):=rfl;obtain⟨hk1,hk2⟩:=I.jL C.text.size st;have HA:=aa (I.tg C.text.size [40] st);obtain⟨t,ht⟩:=aab (I.cI C.text.size st);obtain⟨tk,ts,ta⟩:=t;rw[←ht]at hk1 hk2 HA;have HT:=aa ht;have RL:=aa hk1;have Oq:=aa hk2;rw[hk1,hk2]at HF;clear ht hk1 hk2;simp only at HF;go_enter Tryz.func283,Tryz.ntmps283;go_wp2_with fail
 with_reducible refine(gY C st _ (HP.o.alloc _)).mono ?_
 rintro e w0 ⟨rfl,hb0⟩;rw[←HT.o];unfold gd;simp only;have hs0:=hb0.size;rw[ay]at hs0;obtain⟨w1,hw1⟩:=aab (w0.alloc (.cells #[.u (tk.toNat:Int),.s ⟨ts.toArray⟩,.i (ta:Int)] 113));go_upto_region 2 with fail
 rw[←hw1];have HT1:=aa (show Kn w1 w0.heap.size 113 #[.u (tk.toNat:Int),.s ⟨ts.toArray⟩,.i (ta:Int)] by rw[hw1];exact Kn.new w0 _ _);have KL:=aa (show PS C st w1 by rw[hw1];exact((HP.o.alloc _).below hb0 (by simp;omega)).alloc _);have KJ:=aa (show Ch C.g w.heap.size w w1 by rw[hw1];exact(((Ch.refl C.g w.heap.size w).alloc (Nat.le_refl _) _).below hb0 (by simp)).alloc (by omega) _);have HR1:=aa (show Kn w1 w.heap.size 50 #[.b,.b,.o,.e,.e,.e,.o,.z] by rw[hw1];exact((Kn.new w _ _).below hb0 (by simp)).alloc _);have hs1:w.heap.size+1≤w1.heap.size:=by rw[hw1];simp;omega
 obtain⟨g3,hg3⟩:=aab w0.heap.size;rw[←hg3]at HT1⊢;clear hw1 hb0 hg3 hs0;have Ks:=HT1.o.Y3;simp at Ks;by_cases Oz:tk=2∨tk=3∨tk=4
 ·have LA:Hid (I.aD C.text.size X st=I.literal C.text.size st):=by show _=_;rw[HF.o,if_pos Oz]
  have hlk:I.au st=2∨I.au st=3∨I.au st=4:=by rw[RL.o];exact Oz
  have HLk:=aa hlk;clear hlk;rcases Oz with rfl|rfl|rfl
  all_goals
   go_wp2_with fail
   with_reducible refine(ub C st _ KL.o HLk.o).mono ?_
   rintro e w2 ⟨cs2,rfl,hx2,hp2,hc2⟩
   have hs2:=hc2.size
   obtain⟨h2,A2,m2,c2,RJ,rfl,hk2⟩:=aV hx2
   have NO:=aa hx2
   have Ld:=aa hp2
   have Ms:=aa (KJ.o.trans hc2 (by omega))
   have HR2:=aa (HR1.o.ch hc2 (by omega) (by omega))
   clear hx2 hp2 hc2 hk2
   unfold ai
   have cj2:=HR2.o.Y8
   simp at cj2
   obtain⟨f0,f1,f2,f3,f4,f5,f6,f7⟩:=HR2.o.Z8
   go_wp2_with fail
   refine bodyPost_ret (v:=.agg (ai h2 A2 m2 c2).toArray) (results_cell_row rfl _ _ w.heap.size 50 _ (0,0) _ rfl (aW HR2.o _ _ _ _ _ _ _ _) eK rfl cD) rfl ⟨_,rfl,?_,?_,?_⟩
   ·rw[LA.o];exact NO.o.hp (fun b hb=>⟨by have:=hb.1;omega,by have:=hb.2;simp;omega⟩) fun b hb=>(bd (Ch.refl w.heap.size w2.heap.size w2) (.inl rfl) _ _ _ _ _ _ _ _).block b (by have:=hb.2;omega) (by have:=hb.1;omega)
   ·rw[LA.o];exact eg Ld.o Kt _ _ _ _ _ _ _ _
   ·exact bd Ms.o (.inr (Nat.le_refl _)) _ _ _ _ _ _ _ _
 ·have q2:((tk.toNat:Int)==2)=false:=by simp;exact fun e=>Oz (.inl (UInt8.toNat_inj.1 (by rw[show((2:UInt8).toNat)=2 from rfl];omega)))
  have q3:((tk.toNat:Int)==3)=false:=by simp;exact fun e=>Oz (.inr (.inl (UInt8.toNat_inj.1 (by rw[show((3:UInt8).toNat)=3 from rfl];omega))))
  have q4:((tk.toNat:Int)==4)=false:=by simp;exact fun e=>Oz (.inr (.inr (UInt8.toNat_inj.1 (by rw[show((4:UInt8).toNat)=4 from rfl];omega))))
  have HL:=aa Oz;clear Oz;by_cases Pe:tk=5∧ts=[40]
  ·have Nj:I.ae [40] st=true:=HA.o.trans (I.rJ (.inr (by show tk.toNat=5;rw[Pe.1];rfl)) Pe.2);have hlen:=I.bx Nj;have LA:Hid (I.aD C.text.size X st=I.inside C.text.size X st):=by show _=_;rw[HF.o,if_neg HL.o,if_pos Pe]
   obtain⟨rfl,rfl⟩:=Pe;clear hlen q2 q3 q4;go_wp2_with fail
   with_reducible refine(ir C 206 #[.p C.g] #[] #[.p C.g] (fun w=>by simp[go_sem]) [] (noG C.g) X (N-1) (gM.of (HK.o (N-1) (by have:=I.bx Nj;omega))) st _ (by omega) (.inr Nj) KL.o (ey.none _)).mono ?_
   rintro e w2 ⟨cs2,rfl,hx2,hp2,hc2⟩;have hs2:=hc2.size;obtain⟨h2,A2,m2,c2,RJ,rfl,hk2⟩:=aV hx2;have NO:=aa hx2;have Ld:=aa hp2;have Ms:=aa (KJ.o.trans hc2 (by omega));have HR2:=aa (HR1.o.ch hc2 (by omega) (by omega));clear hx2 hp2 hc2 hk2;unfold ai;have K0:=HR2.o.Y8;simp at K0;obtain⟨f0,f1,f2,f3,f4,f5,f6,f7⟩:=HR2.o.Z8;go_wp2_with fail
   refine bodyPost_ret (v:=.agg (ai h2 A2 m2 c2).toArray) (results_cell_row rfl _ _ w.heap.size 50 _ (0,0) _ rfl (aW HR2.o _ _ _ _ _ _ _ _) eK rfl cD) rfl ⟨_,rfl,?_,?_,?_⟩
   ·rw[LA.o];exact NO.o.hp (fun b hb=>⟨by have:=hb.1;omega,by have:=hb.2;simp;omega⟩) fun b hb=>(bd (Ch.refl w.heap.size w2.heap.size w2) (.inl rfl) _ _ _ _ _ _ _ _).block b (by have:=hb.2;omega) (by have:=hb.1;omega)
   ·rw[LA.o];exact eg Ld.o Kt _ _ _ _ _ _ _ _
   ·exact bd Ms.o (.inr (Nat.le_refl _)) _ _ _ _ _ _ _ _
  ·have Qi:=aa Pe;have hq:(tk=5∧(ts==[40])=false)∨((tk.toNat:Int)==5)=false:=by
    by_cases k5:tk=5
    ·exact .inl ⟨k5,by simpa using fun e=>Pe ⟨k5,e⟩⟩
    ·exact .inr (by simp;exact fun e=>k5 (UInt8.toNat_inj.1 (by rw[show((5:UInt8).toNat)=5 from rfl];omega)))
   clear Pe;rcases hq with⟨rfl,qs⟩|q5
   all_goals
    go_wp2_with fail
    with_reducible refine(bK C ⟨#[110,117,108,108]⟩ st _ KL.o).mono ?_
    rintro e w2 ⟨rfl,hp2,hc2⟩
    have hs2:=hc2.size
    rw[show(⟨#[110,117,108,108]⟩:ByteArray).data.toList=[110,117,108,108]from rfl]at hp2⊢
    have Ms:=aa (KJ.o.trans hc2 (by omega))
    have HR2:=aa (HR1.o.ch hc2 (by omega) (by omega))
    have VX:=aa hp2
    clear hp2 hc2
    cases ha2:I.ae [110,117,108,108] st with
    |true=>
     have LA:Hid (I.aD C.text.size X st=((.mk (I.hd 1) []:Ev.Ex),I.next st)):=by show _=_;rw[HF.o,if_neg HL.o,if_neg Qi.o,if_pos ha2]
     have Ld:Hid (PS C (I.next st) w2):=by have:=VX.o;rw[I.di ha2]at this;exact this
     clear ha2
     have Le:=HR2.o.Y8
     simp at Le
     obtain⟨f0,f1,f2,f3,f4,f5,f6,f7⟩:=HR2.o.Z8
     go_wp2_with fail
     refine bodyPost_ret (v:=.agg (ai (I.hd 1) none 0 0).toArray) (results_cell_row rfl _ _ w.heap.size 50 _ (0,0) _ rfl (aW HR2.o _ _ _ _ _ _ _ _) eK rfl cD) rfl ⟨_,rfl,?_,?_,?_⟩
     ·rw[LA.o];exact bU (jx 1)
     ·rw[LA.o];exact eg Ld.o Kt _ _ _ _ _ _ _ _
     ·exact bd Ms.o (.inr (Nat.le_refl _)) _ _ _ _ _ _ _ _
    |false=>
     have HA2:=aa (show¬I.ae [110,117,108,108] st=true by rw[ha2];decide)
     have Ld:Hid (PS C st w2):=by have:=VX.o;rw[I.dT ha2]at this;exact this
     clear ha2
     go_wp2_with fail
     with_reducible refine(bK C ⟨#[116,114,117,101]⟩ st _ Ld.o).mono ?_
     rintro e w3 ⟨rfl,hp3,hc3⟩
     have hs3:=hc3.size
     rw[show(⟨#[116,114,117,101]⟩:ByteArray).data.toList=[116,114,117,101]from rfl]at hp3⊢
     have Ov:=aa (Ms.o.trans hc3 (by omega))
     have HR3:=aa (HR2.o.ch hc3 (by omega) (by omega))
     have VY:=aa hp3
     clear hp3 hc3
     cases Vl:I.ae [116,114,117,101] st with
     |true=>
      have LA:Hid (I.aD C.text.size X st=(I.lit ⟨1,1,I.aQ⟩,I.next st)):=by show _=_;rw[HF.o,if_neg HL.o,if_neg Qi.o,if_neg HA2.o,if_pos Vl]
      have Oh:Hid (PS C (I.next st) w3):=by have:=VY.o;rw[I.di Vl]at this;exact this
      clear Vl
      have Ly:=HR3.o.Y8
      simp at Ly
      obtain⟨f0,f1,f2,f3,f4,f5,f6,f7⟩:=HR3.o.Z8
      go_wp2_with fail
      refine bodyPost_ret (v:=.agg (ai ⟨1,⟨1,1,I.aQ⟩,I.aQ,I.aQ,0⟩ none 0 0).toArray) (results_cell_row rfl _ _ w.heap.size 50 _ (0,0) _ rfl (aW HR3.o _ _ _ _ _ _ _ _) eK rfl cD) rfl ⟨_,rfl,?_,?_,?_⟩
      ·rw[LA.o];exact bU (fT (l:=[]) (by decide) (by decide) (by decide))
      ·rw[LA.o];exact eg Oh.o Kt _ _ _ _ _ _ _ _
      ·exact bd Ov.o (.inr (Nat.le_refl _)) _ _ _ _ _ _ _ _
     |false=>
      have OW:=aa (show¬I.ae [116,114,117,101] st=true by rw[Vl];decide)
      have Oh:Hid (PS C st w3):=by have:=VY.o;rw[I.dT Vl]at this;exact this
      clear Vl
      go_wp2_with fail
      with_reducible refine(bK C ⟨#[102,97,108,115,101]⟩ st _ Oh.o).mono ?_
      rintro e w4 ⟨rfl,OV,hc4⟩
      have hs4:=hc4.size
      rw[show(⟨#[102,97,108,115,101]⟩:ByteArray).data.toList=[102,97,108,115,101]from rfl]at OV⊢
      have Oi:=aa (Ov.o.trans hc4 (by omega))
      have HR4:=aa (HR3.o.ch hc4 (by omega) (by omega))
      have VZ:=aa OV
      clear OV hc4
      cases Vm:I.ae [102,97,108,115,101] st with
      |true=>
       have LA:Hid (I.aD C.text.size X st=(I.lit ⟨1,0,I.aQ⟩,I.next st)):=by show _=_;rw[HF.o,if_neg HL.o,if_neg Qi.o,if_neg HA2.o,if_neg OW.o,if_pos Vm]
       have NA:Hid (PS C (I.next st) w4):=by have:=VZ.o;rw[I.di Vm]at this;exact this
       clear Vm
       have Mj:=HR4.o.Y8
       simp at Mj
       obtain⟨f0,f1,f2,f3,f4,f5,f6,f7⟩:=HR4.o.Z8
       go_wp2_with fail
       refine bodyPost_ret (v:=.agg (ai ⟨1,⟨1,0,I.aQ⟩,I.aQ,I.aQ,0⟩ none 0 0).toArray) (results_cell_row rfl _ _ w.heap.size 50 _ (0,0) _ rfl (aW HR4.o _ _ _ _ _ _ _ _) eK rfl cD) rfl ⟨_,rfl,?_,?_,?_⟩
       ·rw[LA.o];exact bU (fT (l:=[]) (by decide) (by decide) (by decide))
       ·rw[LA.o];exact eg NA.o Kt _ _ _ _ _ _ _ _
       ·exact bd Oi.o (.inr (Nat.le_refl _)) _ _ _ _ _ _ _ _
      |false=>
       have Sj:=aa (show¬I.ae [102,97,108,115,101] st=true by rw[Vm];decide)
       have NA:Hid (PS C st w4):=by have:=VZ.o;rw[I.dT Vm]at this;exact this
       clear Vm
       go_wp2_with fail
       with_reducible refine(bK C ⟨#[117,115,101,114]⟩ st _ NA.o).mono ?_
       rintro e w5 ⟨rfl,Nw,Mk⟩
       have hs5:=Mk.size
       rw[show(⟨#[117,115,101,114]⟩:ByteArray).data.toList=[117,115,101,114]from rfl]at Nw⊢
       have Qz:=aa (Oi.o.trans Mk (by omega))
       have PU:=aa (HR4.o.ch Mk (by omega) (by omega))
       have V0:=aa Nw
       clear Nw Mk
       cases Vn:I.ae [117,115,101,114] st with
       |true=>
        have LA:Hid (I.aD C.text.size X st=((.mk (I.hd 21) []:Ev.Ex),I.next st)):=by show _=_;rw[HF.o,if_neg HL.o,if_neg Qi.o,if_neg HA2.o,if_neg OW.o,if_neg Sj.o,if_pos Vn]
        have PT:Hid (PS C (I.next st) w5):=by have:=V0.o;rw[I.di Vn]at this;exact this
        clear Vn
        have MY:=PU.o.Y8
        simp at MY
        obtain⟨f0,f1,f2,f3,f4,f5,f6,f7⟩:=PU.o.Z8
        go_wp2_with fail
        refine bodyPost_ret (v:=.agg (ai (I.hd 21) none 0 0).toArray) (results_cell_row rfl _ _ w.heap.size 50 _ (0,0) _ rfl (aW PU.o _ _ _ _ _ _ _ _) eK rfl cD) rfl ⟨_,rfl,?_,?_,?_⟩
        ·rw[LA.o];exact bU (jx 21)
        ·rw[LA.o];exact eg PT.o Kt _ _ _ _ _ _ _ _
        ·exact bd Qz.o (.inr (Nat.le_refl _)) _ _ _ _ _ _ _ _
       |false=>
        have HA5:=aa (show¬I.ae [117,115,101,114] st=true by rw[Vn];decide)
        have PT:Hid (PS C st w5):=by have:=V0.o;rw[I.dT Vn]at this;exact this
        clear Vn
        go_wp2_with fail
        with_reducible refine(nD C _ [([99,111,117,110,116],17),([115,117,109],18),([109,105,110],19),([109,97,120],20)] st _ (PT.o.alloc _) (iS (C:=C) (n:=4) (cells:=#[.s ⟨#[99,111,117,110,116]⟩,.u 17,.s ⟨#[115,117,109]⟩,.u 18,.s ⟨#[109,105,110]⟩,.u 19,.s ⟨#[109,97,120]⟩,.u 20]) (Kn.new _ _ _) rfl (by omega) rfl (by decide))).mono ?_
        rintro e w6 ⟨rfl,PQ,hc6⟩
        have hs6:=hc6.size
        rw[ay]at hs6
        have Mp:=aa PQ
        have MX:=aa ((Qz.o.alloc (by omega) _).trans hc6 (by simp;omega))
        have K3:=aa ((PU.o.alloc _).ch hc6 (by simp;omega) (by omega))
        clear PQ hc6
        have hol:=I.gj [([99,111,117,110,116],17),([115,117,109],18),([109,105,110],19),([109,97,120],20)] st
        by_cases h0:(I.one [([99,111,117,110,116],17),([115,117,109],18),([109,105,110],19),([109,97,120],20)] st).1=0
        ·have HZ:Hid (I.one [([99,111,117,110,116],17),([115,117,109],18),([109,105,110],19),([109,97,120],20)] st=(0,st)):=by have h2:=I.oC [([99,111,117,110,116],17),([115,117,109],18),([109,105,110],19),([109,97,120],20)] st (by decide) h0;exact aa (Prod.ext h0 h2)
         have LA:Hid (I.aD C.text.size X st=I.cm C.text.size st):=by show _=_;rw[HF.o,if_neg HL.o,if_neg Qi.o,if_neg HA2.o,if_neg OW.o,if_neg Sj.o,if_neg HA5.o,if_pos h0]
         rw[HZ.o]at Mp⊢;simp only at Mp⊢;clear h0 hol;go_wp2_with fail
         with_reducible refine(nP C st _ Mp.o).mono ?_
         rintro e w7 ⟨rfl,SX,OU⟩;have hs7:=OU.size;have hnl:=pU Mp.o;have Nk:=aa SX;have RI:=aa (MX.o.trans OU (by omega));have Qy:=aa (K3.o.ch OU (by omega) (by omega));clear SX OU;obtain⟨ns,hns⟩:=aab (I.name C.text.size st);obtain⟨n1,s1⟩:=ns;have Ny:Hid (I.cm C.text.size st=(if I.ae [46] s1=true then(.mk ⟨2,⟨0,0,I.aQ⟩,I.bs (I.name C.text.size (I.next s1)).1,I.bs n1,0⟩ [],(I.name C.text.size (I.next s1)).2)else(.mk ⟨2,⟨0,0,I.aQ⟩,I.bs n1,I.aQ,0⟩ [],s1))):=by show _=_;unfold I.cm;rw[←hns]
         rw[←hns]at Nk hnl⊢;simp only at Nk hnl⊢;clear hns;obtain⟨w8,hw8⟩:=aab (w7.alloc (.cells #[.u 2,.b,.o,.e,.s (I.bs n1),.e,.o,.z] 50));go_upto_region 18 with fail
         rw[←hw8];have Sk:=aa (show Kn w8 w7.heap.size 50 #[.u 2,.b,.o,.e,.s (I.bs n1),.e,.o,.z] by rw[hw8];exact Kn.new w7 _ _);have PM:=aa (show PS C s1 w8 by rw[hw8];exact Nk.o.alloc _);have Qe:=aa (show Ch C.g w.heap.size w w8 by rw[hw8];exact RI.o.alloc (by omega) _);have Si:=aa (show Kn w8 w.heap.size 50 #[.b,.b,.o,.e,.e,.e,.o,.z] by rw[hw8];exact Qy.o.alloc _);have QL:w8.heap.size=w7.heap.size+1:=by rw[hw8];simp
         obtain⟨g5,hg5⟩:=aab w7.heap.size;rw[←hg5]at Sk QL⊢;have hg5b:w.heap.size<g5:=by omega
         clear hw8 hg5;go_wp2_with fail
         with_reducible refine(bK C ⟨#[46]⟩ s1 _ PM.o).mono ?_
         rintro e w9 ⟨rfl,Zb,V1⟩;have T0:=V1.size;rw[show(⟨#[46]⟩:ByteArray).data.toList=[46]from rfl]at Zb⊢;have S2:=aa (Qe.o.trans V1 (by omega));have S5:=aa (Si.o.ch V1 (by omega) (by omega));have Vo:=aa (Sk.o.ch V1 (by omega) (by omega));have V2:=aa Zb;clear Zb V1;cases Vp:I.ae [46] s1 with
         |false=>
          have OZ:Hid (I.aD C.text.size X st=(.mk ⟨2,⟨0,0,I.aQ⟩,I.bs n1,I.aQ,0⟩ [],s1)):=by show _=_;rw[LA.o,Ny.o,if_neg (by rw[Vp];decide)]
          have Vq:Hid (PS C s1 w9):=by have:=V2.o;rw[I.dT Vp]at this;exact this
          clear Vp;have NP:=Vo.o.Y8;simp at NP;have NQ:=S5.o.Y8;simp at NQ;obtain⟨f0,f1,f2,f3,f4,f5,f6,f7⟩:=S5.o.Z8;go_wp2_with fail
          refine bodyPost_ret (v:=.agg (ai ⟨2,⟨0,0,I.aQ⟩,I.bs n1,I.aQ,0⟩ none 0 0).toArray) (results_cell_row rfl _ _ w.heap.size 50 _ (0,0) _ rfl (aW S5.o _ _ _ _ _ _ _ _) eK rfl cD) rfl ⟨_,rfl,?_,?_,?_⟩
          ·rw[OZ.o];exact bU (lH (o:=[]) hnl (by decide))
          ·rw[OZ.o];exact eg Vq.o Kt _ _ _ _ _ _ _ _
          ·exact bd S2.o (.inr (Nat.le_refl _)) _ _ _ _ _ _ _ _
         |true=>
          have OZ:Hid (I.aD C.text.size X st=(.mk ⟨2,⟨0,0,I.aQ⟩,I.bs (I.name C.text.size (I.next s1)).1,I.bs n1,0⟩ [],(I.name C.text.size (I.next s1)).2)):=by show _=_;rw[LA.o,Ny.o,if_pos Vp]
          have Vq:Hid (PS C (I.next s1) w9):=by have:=V2.o;rw[I.di Vp]at this;exact this
          clear Vp;have T5:=pU Vq.o;obtain⟨ms,hms⟩:=aab (I.name C.text.size (I.next s1));obtain⟨n2,s2⟩:=ms;have Ou:=aa hms;rw[←hms]at OZ T5;simp only at OZ T5;clear hms;have hg59:=Vo.o.lt;have M1:=Vo.o.Y8;simp at M1;go_wp2_with fail
          go_region_with ((with_reducible refine(zm C (I.next s1) _ Vq.o).mono ?_);rintro e Lo ⟨rfl,Sl,No⟩;rw[←Ou.o]at Sl⊢;simp only at Sl⊢;have Sm:=No.size;have Sn:=aa Sl;have V3:=aa (S2.o.trans No (by omega));have V5:=aa (S5.o.ch No (by omega) (by omega));have LZ:=aa (Vo.o.ch No (by omega) (by omega));clear Sl No;have y0:=LZ.o.cell 0;have y1:=LZ.o.cell 1;have y2:=LZ.o.cell 2;have y3:=LZ.o.cell 3;have y4:=LZ.o.cell 4;have y5:=LZ.o.cell 5;have y6:=LZ.o.cell 6;have y7:=LZ.o.cell 7;simp at y0 y1 y2 y3 y4 y5 y6 y7;have z0:=LZ.o.frozen 0;have z1:=LZ.o.frozen 1;have z2:=LZ.o.frozen 2;have z3:=LZ.o.frozen 3;have z4:=LZ.o.frozen 4;have z5:=LZ.o.frozen 5;have z6:=LZ.o.frozen 6;have z7:=LZ.o.frozen 7)
          all_goals
           first
           |(obtain⟨Lh,M4⟩:=aab ((Lo.setCell ⟨g5,5,none⟩ (.s (I.bs n1))).setCell ⟨g5,4,none⟩ (.s (I.bs n2)));rw[←M4];have V6:=aa (show Kn Lh g5 50 #[.u 2,.b,.o,.e,.s (I.bs n2),.s (I.bs n1),.o,.z] by(rw[M4];simpa using(LZ.o.put 5 (.s (I.bs n1))).put 4 (.s (I.bs n2))));have V7:=aa (show PS C s2 Lh by(rw[M4];exact(Sn.o.set (p:=⟨g5,5,none⟩) _ (by show C.g<g5;omega)).set (p:=⟨g5,4,none⟩) _ (by show C.g<g5;omega)));have V8:=aa (show Ch C.g w.heap.size w Lh by(rw[M4];exact(V3.o.set (p:=⟨g5,5,none⟩) (.inr (by show w.heap.size≤g5;omega)) _).set (p:=⟨g5,4,none⟩) (.inr (by show w.heap.size≤g5;omega)) _));have So:=aa (show Kn Lh w.heap.size 50 #[.b,.b,.o,.e,.e,.e,.o,.z] by(rw[M4];exact(V5.o.far (p:=⟨g5,5,none⟩) (by show w.heap.size≠g5;omega) _).far (p:=⟨g5,4,none⟩) (by show w.heap.size≠g5;omega) _)))
           |(obtain⟨Lh,M4⟩:=aab ((Lo.setCell ⟨g5,4,none⟩ (.s (I.bs n2))).setCell ⟨g5,5,none⟩ (.s (I.bs n1)));rw[←M4];have V6:=aa (show Kn Lh g5 50 #[.u 2,.b,.o,.e,.s (I.bs n2),.s (I.bs n1),.o,.z] by(rw[M4];simpa using(LZ.o.put 4 (.s (I.bs n2))).put 5 (.s (I.bs n1))));have V7:=aa (show PS C s2 Lh by(rw[M4];exact(Sn.o.set (p:=⟨g5,4,none⟩) _ (by show C.g<g5;omega)).set (p:=⟨g5,5,none⟩) _ (by show C.g<g5;omega)));have V8:=aa (show Ch C.g w.heap.size w Lh by(rw[M4];exact(V3.o.set (p:=⟨g5,4,none⟩) (.inr (by show w.heap.size≤g5;omega)) _).set (p:=⟨g5,5,none⟩) (.inr (by show w.heap.size≤g5;omega)) _));have So:=aa (show Kn Lh w.heap.size 50 #[.b,.b,.o,.e,.e,.e,.o,.z] by(rw[M4];exact(V5.o.far (p:=⟨g5,4,none⟩) (by show w.heap.size≠g5;omega) _).far (p:=⟨g5,5,none⟩) (by show w.heap.size≠g5;omega) _)))
           clear M4
           have NB:=V6.o.Y8
           simp at NB
           have Nn:=So.o.Y8
           simp at Nn
           obtain⟨f0,f1,f2,f3,f4,f5,f6,f7⟩:=So.o.Z8
           go_wp2_with fail
           refine bodyPost_ret (v:=.agg (ai ⟨2,⟨0,0,I.aQ⟩,I.bs n2,I.bs n1,0⟩ none 0 0).toArray) (results_cell_row rfl _ _ w.heap.size 50 _ (0,0) _ rfl (aW So.o _ _ _ _ _ _ _ _) eK rfl cD) rfl ⟨_,rfl,?_,?_,?_⟩
           ·rw[OZ.o];exact bU (lH T5 hnl)
           ·rw[OZ.o];exact eg V7.o Kt _ _ _ _ _ _ _ _
           ·exact bd V8.o (.inr (Nat.le_refl _)) _ _ _ _ _ _ _ _
        ·have hln:=hol.2 h0;have NC:Hid (I.aD C.text.size X st=I.fold C.text.size X (I.one [([99,111,117,110,116],17),([115,117,109],18),([109,105,110],19),([109,97,120],20)] st).1 (I.one [([99,111,117,110,116],17),([115,117,109],18),([109,105,110],19),([109,97,120],20)] st).2):=by show _=_;rw[HF.o,if_neg HL.o,if_neg Qi.o,if_neg HA2.o,if_neg OW.o,if_neg Sj.o,if_neg HA5.o,if_neg h0]
         obtain⟨os,hos⟩:=aab (I.one [([99,111,117,110,116],17),([115,117,109],18),([109,105,110],19),([109,97,120],20)] st);obtain⟨o,s1⟩:=os;rw[←hos]at Mp NC hln h0⊢;simp only at Mp NC hln h0⊢;have qo:((o.toNat:Int)==0)=false:=by simp;exact fun e=>h0 (UInt8.toNat_inj.1 (by rw[show((0:UInt8).toNat)=0 from rfl];omega))
         clear hol hos h0;go_wp2_with fail
         with_reducible refine(BL C X (N-1) (HK.o (N-1) (by omega)) o s1 _ (by omega) Mp.o).mono ?_
         rintro e w7 ⟨cs7,rfl,hx7,SX,OU⟩;have hs7:=OU.size;obtain⟨h7,A7,m7,c7,ks7,rfl,XD⟩:=aV hx7;have XK:=aa hx7;have Nk:=aa SX;have RI:=aa (MX.o.trans OU (by omega));have Qy:=aa (K3.o.ch OU (by omega) (by omega));clear hx7 SX OU XD;unfold ai;have QK:=Qy.o.Y8;simp at QK;obtain⟨f0,f1,f2,f3,f4,f5,f6,f7⟩:=Qy.o.Z8;go_wp2_with fail
         refine bodyPost_ret (v:=.agg (ai h7 A7 m7 c7).toArray) (results_cell_row rfl _ _ w.heap.size 50 _ (0,0) _ rfl (aW Qy.o _ _ _ _ _ _ _ _) eK rfl cD) rfl ⟨_,rfl,?_,?_,?_⟩
         ·rw[NC.o];exact XK.o.hp (fun b hb=>⟨by have:=hb.1;omega,by have:=hb.2;simp;omega⟩) fun b hb=>(bd (Ch.refl w.heap.size w7.heap.size w7) (.inl rfl) _ _ _ _ _ _ _ _).block b (by have:=hb.2;omega) (by have:=hb.1;omega)
         ·rw[NC.o];exact eg Nk.o Kt _ _ _ _ _ _ _ _
         ·exact bd RI.o (.inr (Nat.le_refl _)) _ _ _ _ _ _ _ _
end
end Go.Proofs.YtnicfobpclehkaaGreatDoor
