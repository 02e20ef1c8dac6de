import Derived.Test.YtnicfobpclehkaaGreatDoorP17
set_option maxHeartbeats 3200000
set_option linter.unusedVariables false
set_option linter.unusedSimpArgs false
namespace Go.Proofs.YtnicfobpclehkaaGreatDoor
open Go.RowKit
section
set_option maxRecDepth 100000
theorem I.qN(T:Nat)(st:I.St):I.dF st=(I.fj T st).1∧I.QO st=(I.fj T st).2.1:=by
 unfold I.dF I.QO I.fj;cases st.r<;>exact⟨rfl,rfl⟩
theorem noG(g:Nat):∀p∈([]:List (Nat×Obj)),p.1≠g:=fun p hp=>by cases hp
theorem CA(C:RC)(st:I.St)(w:World)(h:PS C st w):
 Calls Tryz.prog 131 #[.pointer (some ⟨C.g,0,none⟩)] w.drew fun e w'=>e=.returned (.string (I.bs (I.name C.text.size st).1))∧PS C (I.name C.text.size st).2 w'∧Ch C.g w.heap.size w w':=
 (rb C st w.drew h.KA).mono fun _ _ ⟨a,b,c⟩=>⟨a,b,Ch.Fu c⟩
theorem tF{C:RC}{st:I.St}{w:World}(h:PS C st w):(I.name C.text.size st).1.length≤4096:=by
 unfold I.name;cases hr:st.r with
 |nil=>exact ao _
 |cons t r=>
  simp only;split
  ·exact(qh h hr).1
  ·exact ao _
theorem xT{n o:I.Bs}(h1:n.length≤4096)(h2:o.length≤4096):qd ⟨2,⟨0,0,I.dp⟩,I.bs n,I.bs o,0⟩:=by
 have hs:∀l:I.Bs,l.length≤4096→(I.bs l).size≤maxLen:=fun l hl=>by
  have:=eI (I.bs l)
  rw[dA]at this
  unfold maxLen
  omega
 exact⟨MO 0 0 (by decide) (by decide),hs n h1,hs o h2,by show(-9223372036854775808:Int)≤0;decide,by show(0:Int)≤9223372036854775807;decide⟩
theorem zC(C:RC)(X:I.St→Ev.Ex×I.St)(N:Nat)(hK:∀m,m+1≤N→fH C 206 #[.pointer (some ⟨C.g,0,none⟩)] X m):fH C 283 #[.pointer (some ⟨C.g,0,none⟩)] (I.dm C.text.size X) N:=by
 intro st w hn h;have NK:=h.lt;have HP:=cN h;have HK:=cN hK;clear h hK;have HF:Hid (I.dm C.text.size X st=(if I.dF st=2∨I.dF st=3∨I.dF st=4 then I.literal C.text.size st else if I.dF st=5∧I.QO st=[40]then I.inside C.text.size X st else if I.dh [110,117,108,108] st=true then(.mk (I.hd 1) [],I.next st)else if I.dh [116,114,117,101] st=true then(I.lit ⟨1,1,I.dp⟩,I.next st)else if I.dh [102,97,108,115,101] st=true then(I.lit ⟨1,0,I.dp⟩,I.next st)else if I.dh [117,115,101,114] st=true then(.mk (I.hd 21) [],I.next st)else if(I.one [([99,111,117,110,116],17),([115,117,109],18),([109,105,110],19),([109,97,120],20)] st).1=0 then I.dT C.text.size st else I.fold C.text.size X (I.one [([99,111,117,110,116],17),([115,117,109],18),([109,105,110],19),([109,97,120],20)] st).1 (I.one [([99,111,117,110,116],17),([115,117,109],18),([109,105,110],19),([109,97,120],20)] st).2)):=rfl;obtain⟨hk1,hk2⟩:=I.qN C.text.size st;have HA:=cN (I.wG C.text.size [40] st);obtain⟨t,ht⟩:∃t,t=I.fj C.text.size st:=⟨_,rfl⟩;obtain⟨tk,ts,ta⟩:=t;rw[←ht]at hk1 hk2 HA;have HT:=cN ht;have Ua:=cN hk1;have TY:=cN hk2;rw[hk1,hk2]at HF;clear ht hk1 hk2;simp only at HF;go_enter Tryz.func283,Tryz.ntmps283;go_wp2_with fail
 with_reducible refine(jX C st _ (HP.o.alloc _)).mono ?_
 rintro e w0 ⟨rfl,hb0⟩;rw[←HT.o];unfold qa;simp only;have hs0:=hb0.size;rw[dc]at hs0;obtain⟨w1,hw1⟩:∃x,x=w0.alloc (.cells #[.int .u8 (tk.toNat:Int),.string ⟨ts.toArray⟩,.int .i64 (ta:Int)] 113):=⟨_,rfl⟩;go_upto_region 2 with fail
 rw[←hw1];have HT1:=cN (show NA w1 w0.heap.size 113 #[.int .u8 (tk.toNat:Int),.string ⟨ts.toArray⟩,.int .i64 (ta:Int)] by rw[hw1];exact NA.new w0 _ _);have Oa:=cN (show PS C st w1 by rw[hw1];exact((HP.o.alloc _).below hb0 (by simp;omega)).alloc _);have Oh:=cN (show Ch C.g w.heap.size w w1 by rw[hw1];exact(((Ch.refl C.g w.heap.size w).alloc (aa _) _).below hb0 (by simp)).alloc (by omega) _);have HR1:=cN (show NA w1 w.heap.size 50 #[.int .u8 0,.int .u8 0,.int .i64 0,.string ⟨#[]⟩,.string ⟨#[]⟩,.string ⟨#[]⟩,.int .i64 0,.slice none 0 0] by rw[hw1];exact((NA.new w _ _).below hb0 (by simp)).alloc _);have hs1:w.heap.size+1≤w1.heap.size:=by rw[hw1];simp;omega
 obtain⟨g3,hg3⟩:∃g,g=w0.heap.size:=⟨_,rfl⟩;rw[←hg3]at HT1⊢;clear hw1 hb0 hg3 hs0;obtain⟨t0,t1,t2⟩:=HT1.o.y3 0 1 2;simp at t0 t1 t2;by_cases Rw:tk=2∨tk=3∨tk=4
 ·have Pf:Hid (I.dm C.text.size X st=I.literal C.text.size st):=by show _=_;rw[HF.o,if_pos Rw]
  have hlk:I.dF st=2∨I.dF st=3∨I.dF st=4:=by rw[Ua.o];exact Rw
  have HLk:=cN hlk;clear hlk;rcases Rw with rfl|rfl|rfl
  all_goals
   go_wp2_with fail
   with_reducible refine(wg C st _ Oa.o HLk.o).mono ?_
   rintro e w2 ⟨cs2,rfl,hx2,hp2,hc2⟩
   have hs2:=hc2.size
   obtain⟨h2,A2,m2,c2,Rt,rfl,hk2⟩:=dC hx2
   have Px:=cN hx2
   have Ow:=cN hp2
   have P7:=cN (Oh.o.trans hc2 (by omega))
   have HR2:=cN (HR1.o.ch hc2 (by omega) (by omega))
   clear hx2 hp2 hc2 hk2
   unfold cT
   obtain⟨r0,r1,r2,r3,r4,r5,r6,r7⟩:=HR2.o.y8 0 1 2 3 4 5 6 7
   simp at r0 r1 r2 r3 r4 r5 r6 r7
   obtain⟨f0,f1,f2,f3,f4,f5,f6,f7⟩:=HR2.o.z8 0 1 2 3 4 5 6 7
   go_wp2_with fail
   refine ae (v:=.agg (cT h2 A2 m2 c2).toArray) (av rfl _ _ w.heap.size 50 _ (0,0) _ rfl (eO HR2.o _ _ _ _ _ _ _ _) hZ rfl fo) rfl ⟨_,rfl,?_,?_,?_⟩
   ·rw[Pf.o];exact Px.o.hp (fun b hb=>⟨by have:=hb.1;omega,by have:=hb.2;simp;omega⟩) fun b hb=>(ez (Ch.refl w.heap.size w2.heap.size w2) (.inl rfl) _ _ _ _ _ _ _ _).block b (by have:=hb.2;omega) (by have:=hb.1;omega)
   ·rw[Pf.o];exact gz Ow.o NK _ _ _ _ _ _ _ _
   ·exact ez P7.o (.inr (aa _)) _ _ _ _ _ _ _ _
 ·have q2:((tk.toNat:Int)==2)=false:=by simp;exact fun e=>Rw (.inl (aF.1 (by rw[show((2:UInt8).toNat)=2 from rfl];omega)))
  have q3:((tk.toNat:Int)==3)=false:=by simp;exact fun e=>Rw (.inr (.inl (aF.1 (by rw[show((3:UInt8).toNat)=3 from rfl];omega))))
  have q4:((tk.toNat:Int)==4)=false:=by simp;exact fun e=>Rw (.inr (.inr (aF.1 (by rw[show((4:UInt8).toNat)=4 from rfl];omega))))
  have HL:=cN Rw;clear Rw;by_cases Sd:tk=5∧ts=[40]
  ·have RQ:I.dh [40] st=true:=HA.o.trans (I.AB (.inr (by show tk.toNat=5;rw[Sd.1];rfl)) Sd.2);have hlen:=I.gZ RQ;have Pf:Hid (I.dm C.text.size X st=I.inside C.text.size X st):=by show _=_;rw[HF.o,if_neg HL.o,if_pos Sd]
   obtain⟨rfl,rfl⟩:=Sd;clear hlen q2 q3 q4;go_wp2_with fail
   with_reducible refine(kp C 206 #[.pointer (some ⟨C.g,0,none⟩)] #[] #[.pointer (some ⟨C.g,0,none⟩)] (fun w=>by simp[go_sem]) [] (noG C.g) X (N-1) (jS.of (HK.o (N-1) (by have:=I.gZ RQ;omega))) st _ (by omega) (.inr RQ) Oa.o (iH.none _)).mono ?_
   rintro e w2 ⟨cs2,rfl,hx2,hp2,hc2⟩;have hs2:=hc2.size;obtain⟨h2,A2,m2,c2,Rt,rfl,hk2⟩:=dC hx2;have Px:=cN hx2;have Ow:=cN hp2;have P7:=cN (Oh.o.trans hc2 (by omega));have HR2:=cN (HR1.o.ch hc2 (by omega) (by omega));clear hx2 hp2 hc2 hk2;unfold cT;obtain⟨r0,r1,r2,r3,r4,r5,r6,r7⟩:=HR2.o.y8 0 1 2 3 4 5 6 7;simp at r0 r1 r2 r3 r4 r5 r6 r7;obtain⟨f0,f1,f2,f3,f4,f5,f6,f7⟩:=HR2.o.z8 0 1 2 3 4 5 6 7;go_wp2_with fail
   refine ae (v:=.agg (cT h2 A2 m2 c2).toArray) (av rfl _ _ w.heap.size 50 _ (0,0) _ rfl (eO HR2.o _ _ _ _ _ _ _ _) hZ rfl fo) rfl ⟨_,rfl,?_,?_,?_⟩
   ·rw[Pf.o];exact Px.o.hp (fun b hb=>⟨by have:=hb.1;omega,by have:=hb.2;simp;omega⟩) fun b hb=>(ez (Ch.refl w.heap.size w2.heap.size w2) (.inl rfl) _ _ _ _ _ _ _ _).block b (by have:=hb.2;omega) (by have:=hb.1;omega)
   ·rw[Pf.o];exact gz Ow.o NK _ _ _ _ _ _ _ _
   ·exact ez P7.o (.inr (aa _)) _ _ _ _ _ _ _ _
  ·have SU:=cN Sd;have hq:(tk=5∧(ts==[40])=false)∨((tk.toNat:Int)==5)=false:=by
    by_cases k5:tk=5
    ·exact .inl ⟨k5,by simpa using fun e=>Sd ⟨k5,e⟩⟩
    ·exact .inr (by simp;exact fun e=>k5 (aF.1 (by rw[show((5:UInt8).toNat)=5 from rfl];omega)))
   clear Sd;rcases hq with⟨rfl,qs⟩|q5
   all_goals
    go_wp2_with fail
    with_reducible refine(eF C ⟨#[110,117,108,108]⟩ st _ Oa.o).mono ?_
    rintro e w2 ⟨rfl,hp2,hc2⟩
    have hs2:=hc2.size
    rw[show(⟨#[110,117,108,108]⟩:ByteArray).data.toList=[110,117,108,108]from rfl]at hp2⊢
    have P7:=cN (Oh.o.trans hc2 (by omega))
    have HR2:=cN (HR1.o.ch hc2 (by omega) (by omega))
    have X8:=cN hp2
    clear hp2 hc2
    cases ha2:I.dh [110,117,108,108] st with
    |true=>
     have Pf:Hid (I.dm C.text.size X st=((.mk (I.hd 1) []:Ev.Ex),I.next st)):=by show _=_;rw[HF.o,if_neg HL.o,if_neg SU.o,if_pos ha2]
     have Ow:Hid (PS C (I.next st) w2):=by have:=X8.o;rw[I.ga ha2]at this;exact this
     clear ha2
     obtain⟨r0,r1,r2,r3,r4,r5,r6,r7⟩:=HR2.o.y8 0 1 2 3 4 5 6 7
     simp at r0 r1 r2 r3 r4 r5 r6 r7
     obtain⟨f0,f1,f2,f3,f4,f5,f6,f7⟩:=HR2.o.z8 0 1 2 3 4 5 6 7
     go_wp2_with fail
     refine ae (v:=.agg (cT (I.hd 1) none 0 0).toArray) (av rfl _ _ w.heap.size 50 _ (0,0) _ rfl (eO HR2.o _ _ _ _ _ _ _ _) hZ rfl fo) rfl ⟨_,rfl,?_,?_,?_⟩
     ·rw[Pf.o];exact iI (vM 1)
     ·rw[Pf.o];exact gz Ow.o NK _ _ _ _ _ _ _ _
     ·exact ez P7.o (.inr (aa _)) _ _ _ _ _ _ _ _
    |false=>
     have HA2:=cN (show¬I.dh [110,117,108,108] st=true by rw[ha2];decide)
     have Ow:Hid (PS C st w2):=by have:=X8.o;rw[I.ic ha2]at this;exact this
     clear ha2
     go_wp2_with fail
     with_reducible refine(eF C ⟨#[116,114,117,101]⟩ st _ Ow.o).mono ?_
     rintro e w3 ⟨rfl,hp3,hc3⟩
     have hs3:=hc3.size
     rw[show(⟨#[116,114,117,101]⟩:ByteArray).data.toList=[116,114,117,101]from rfl]at hp3⊢
     have Rv:=cN (P7.o.trans hc3 (by omega))
     have HR3:=cN (HR2.o.ch hc3 (by omega) (by omega))
     have X9:=cN hp3
     clear hp3 hc3
     cases WN:I.dh [116,114,117,101] st with
     |true=>
      have Pf:Hid (I.dm C.text.size X st=(I.lit ⟨1,1,I.dp⟩,I.next st)):=by show _=_;rw[HF.o,if_neg HL.o,if_neg SU.o,if_neg HA2.o,if_pos WN]
      have Rl:Hid (PS C (I.next st) w3):=by have:=X9.o;rw[I.ga WN]at this;exact this
      clear WN
      obtain⟨r0,r1,r2,r3,r4,r5,r6,r7⟩:=HR3.o.y8 0 1 2 3 4 5 6 7
      simp at r0 r1 r2 r3 r4 r5 r6 r7
      obtain⟨f0,f1,f2,f3,f4,f5,f6,f7⟩:=HR3.o.z8 0 1 2 3 4 5 6 7
      go_wp2_with fail
      refine ae (v:=.agg (cT ⟨1,⟨1,1,I.dp⟩,I.dp,I.dp,0⟩ none 0 0).toArray) (av rfl _ _ w.heap.size 50 _ (0,0) _ rfl (eO HR3.o _ _ _ _ _ _ _ _) hZ rfl fo) rfl ⟨_,rfl,?_,?_,?_⟩
      ·rw[Pf.o];exact iI (kR (l:=[]) (by decide) (by decide) (by decide))
      ·rw[Pf.o];exact gz Rl.o NK _ _ _ _ _ _ _ _
      ·exact ez Rv.o (.inr (aa _)) _ _ _ _ _ _ _ _
     |false=>
      have Ub:=cN (show¬I.dh [116,114,117,101] st=true by rw[WN];decide)
      have Rl:Hid (PS C st w3):=by have:=X9.o;rw[I.ic WN]at this;exact this
      clear WN
      go_wp2_with fail
      with_reducible refine(eF C ⟨#[102,97,108,115,101]⟩ st _ Rl.o).mono ?_
      rintro e w4 ⟨rfl,Tv,hc4⟩
      have hs4:=hc4.size
      rw[show(⟨#[102,97,108,115,101]⟩:ByteArray).data.toList=[102,97,108,115,101]from rfl]at Tv⊢
      have Rm:=cN (Rv.o.trans hc4 (by omega))
      have HR4:=cN (HR3.o.ch hc4 (by omega) (by omega))
      have Ya:=cN Tv
      clear Tv hc4
      cases WO:I.dh [102,97,108,115,101] st with
      |true=>
       have Pf:Hid (I.dm C.text.size X st=(I.lit ⟨1,0,I.dp⟩,I.next st)):=by show _=_;rw[HF.o,if_neg HL.o,if_neg SU.o,if_neg HA2.o,if_neg Ub.o,if_pos WO]
       have Q2:Hid (PS C (I.next st) w4):=by have:=Ya.o;rw[I.ga WO]at this;exact this
       clear WO
       obtain⟨r0,r1,r2,r3,r4,r5,r6,r7⟩:=HR4.o.y8 0 1 2 3 4 5 6 7
       simp at r0 r1 r2 r3 r4 r5 r6 r7
       obtain⟨f0,f1,f2,f3,f4,f5,f6,f7⟩:=HR4.o.z8 0 1 2 3 4 5 6 7
       go_wp2_with fail
       refine ae (v:=.agg (cT ⟨1,⟨1,0,I.dp⟩,I.dp,I.dp,0⟩ none 0 0).toArray) (av rfl _ _ w.heap.size 50 _ (0,0) _ rfl (eO HR4.o _ _ _ _ _ _ _ _) hZ rfl fo) rfl ⟨_,rfl,?_,?_,?_⟩
       ·rw[Pf.o];exact iI (kR (l:=[]) (by decide) (by decide) (by decide))
       ·rw[Pf.o];exact gz Q2.o NK _ _ _ _ _ _ _ _
       ·exact ez Rm.o (.inr (aa _)) _ _ _ _ _ _ _ _
      |false=>
       have WQ:=cN (show¬I.dh [102,97,108,115,101] st=true by rw[WO];decide)
       have Q2:Hid (PS C st w4):=by have:=Ya.o;rw[I.ic WO]at this;exact this
       clear WO
       go_wp2_with fail
       with_reducible refine(eF C ⟨#[117,115,101,114]⟩ st _ Q2.o).mono ?_
       rintro e w5 ⟨rfl,QS,PN⟩
       have hs5:=PN.size
       rw[show(⟨#[117,115,101,114]⟩:ByteArray).data.toList=[117,115,101,114]from rfl]at QS⊢
       have Tb:=cN (Rm.o.trans PN (by omega))
       have Q3:=cN (HR4.o.ch PN (by omega) (by omega))
       have Yb:=cN QS
       clear QS PN
       cases WR:I.dh [117,115,101,114] st with
       |true=>
        have Pf:Hid (I.dm C.text.size X st=((.mk (I.hd 21) []:Ev.Ex),I.next st)):=by show _=_;rw[HF.o,if_neg HL.o,if_neg SU.o,if_neg HA2.o,if_neg Ub.o,if_neg WQ.o,if_pos WR]
        have SB:Hid (PS C (I.next st) w5):=by have:=Yb.o;rw[I.ga WR]at this;exact this
        clear WR
        obtain⟨r0,r1,r2,r3,r4,r5,r6,r7⟩:=Q3.o.y8 0 1 2 3 4 5 6 7
        simp at r0 r1 r2 r3 r4 r5 r6 r7
        obtain⟨f0,f1,f2,f3,f4,f5,f6,f7⟩:=Q3.o.z8 0 1 2 3 4 5 6 7
        go_wp2_with fail
        refine ae (v:=.agg (cT (I.hd 21) none 0 0).toArray) (av rfl _ _ w.heap.size 50 _ (0,0) _ rfl (eO Q3.o _ _ _ _ _ _ _ _) hZ rfl fo) rfl ⟨_,rfl,?_,?_,?_⟩
        ·rw[Pf.o];exact iI (vM 21)
        ·rw[Pf.o];exact gz SB.o NK _ _ _ _ _ _ _ _
        ·exact ez Tb.o (.inr (aa _)) _ _ _ _ _ _ _ _
       |false=>
        have HA5:=cN (show¬I.dh [117,115,101,114] st=true by rw[WR];decide)
        have SB:Hid (PS C st w5):=by have:=Yb.o;rw[I.ic WR]at this;exact this
        clear WR
        go_wp2_with fail
        with_reducible refine(qk C _ [([99,111,117,110,116],17),([115,117,109],18),([109,105,110],19),([109,97,120],20)] st _ (SB.o.alloc _) (kK (C:=C) (n:=4) (cells:=#[.string ⟨#[99,111,117,110,116]⟩,.int .u8 17,.string ⟨#[115,117,109]⟩,.int .u8 18,.string ⟨#[109,105,110]⟩,.int .u8 19,.string ⟨#[109,97,120]⟩,.int .u8 20]) (NA.new _ _ _) rfl (by omega) rfl (by decide))).mono ?_
        rintro e w6 ⟨rfl,SA,hc6⟩
        have hs6:=hc6.size
        rw[dc]at hs6
        have PE:=cN SA
        have Qm:=cN ((Tb.o.alloc (by omega) _).trans hc6 (by simp;omega))
        have Ob:=cN ((Q3.o.alloc _).ch hc6 (by simp;omega) (by omega))
        clear SA hc6
        have hol:=I.jz [([99,111,117,110,116],17),([115,117,109],18),([109,105,110],19),([109,97,120],20)] st
        by_cases h0:(I.one [([99,111,117,110,116],17),([115,117,109],18),([109,105,110],19),([109,97,120],20)] st).1=0
        ·have HZ:Hid (I.one [([99,111,117,110,116],17),([115,117,109],18),([109,105,110],19),([109,97,120],20)] st=(0,st)):=by have h2:=I.rP [([99,111,117,110,116],17),([115,117,109],18),([109,105,110],19),([109,97,120],20)] st (by decide) h0;exact cN (Prod.ext h0 h2)
         have Pf:Hid (I.dm C.text.size X st=I.dT C.text.size st):=by show _=_;rw[HF.o,if_neg HL.o,if_neg SU.o,if_neg HA2.o,if_neg Ub.o,if_neg WQ.o,if_neg HA5.o,if_pos h0]
         rw[HZ.o]at PE⊢;simp only at PE⊢;clear h0 hol;go_wp2_with fail
         with_reducible refine(rb C st _ PE.o).mono ?_
         rintro e w7 ⟨rfl,U2,RG⟩;have hs7:=RG.size;have hnl:=tF PE.o;have QA:=cN U2;have T8:=cN (Qm.o.trans RG (by omega));have Ta:=cN (Ob.o.ch RG (by omega) (by omega));clear U2 RG;obtain⟨ns,hns⟩:∃q,q=I.name C.text.size st:=⟨_,rfl⟩;obtain⟨n1,s1⟩:=ns;have SC:Hid (I.dT C.text.size st=(if I.dh [46] s1=true then(.mk ⟨2,⟨0,0,I.dp⟩,I.bs (I.name C.text.size (I.next s1)).1,I.bs n1,0⟩ [],(I.name C.text.size (I.next s1)).2)else(.mk ⟨2,⟨0,0,I.dp⟩,I.bs n1,I.dp,0⟩ [],s1))):=by show _=_;unfold I.dT;rw[←hns]
         rw[←hns]at QA hnl⊢;simp only at QA hnl⊢;clear hns;obtain⟨w8,hw8⟩:∃x,x=w7.alloc (.cells #[.int .u8 2,.int .u8 0,.int .i64 0,.string ⟨#[]⟩,.string (I.bs n1),.string ⟨#[]⟩,.int .i64 0,.slice none 0 0] 50):=⟨_,rfl⟩;go_upto_region 18 with fail
         rw[←hw8];have WT:=cN (show NA w8 w7.heap.size 50 #[.int .u8 2,.int .u8 0,.int .i64 0,.string ⟨#[]⟩,.string (I.bs n1),.string ⟨#[]⟩,.int .i64 0,.slice none 0 0] by rw[hw8];exact NA.new w7 _ _);have Sx:=cN (show PS C s1 w8 by rw[hw8];exact QA.o.alloc _);have SP:=cN (show Ch C.g w.heap.size w w8 by rw[hw8];exact T8.o.alloc (by omega) _);have Uw:=cN (show NA w8 w.heap.size 50 #[.int .u8 0,.int .u8 0,.int .i64 0,.string ⟨#[]⟩,.string ⟨#[]⟩,.string ⟨#[]⟩,.int .i64 0,.slice none 0 0] by rw[hw8];exact Ta.o.alloc _);have VW:w8.heap.size=w7.heap.size+1:=by rw[hw8];simp
         obtain⟨g5,hg5⟩:∃g,g=w7.heap.size:=⟨_,rfl⟩;rw[←hg5]at WT VW⊢;have hg5b:w.heap.size<g5:=by omega
         clear hw8 hg5;go_wp2_with fail
         with_reducible refine(eF C ⟨#[46]⟩ s1 _ Sx.o).mono ?_
         rintro e w9 ⟨rfl,hp9,Yc⟩;have Se:=Yc.size;rw[show(⟨#[46]⟩:ByteArray).data.toList=[46]from rfl]at hp9⊢;have WU:=cN (SP.o.trans Yc (by omega));have U8:=cN (Uw.o.ch Yc (by omega) (by omega));have WV:=cN (WT.o.ch Yc (by omega) (by omega));have Yd:=cN hp9;clear hp9 Yc;cases WW:I.dh [46] s1 with
         |false=>
          have SV:Hid (I.dm C.text.size X st=(.mk ⟨2,⟨0,0,I.dp⟩,I.bs n1,I.dp,0⟩ [],s1)):=by show _=_;rw[Pf.o,SC.o,if_neg (by rw[WW];decide)]
          have WX:Hid (PS C s1 w9):=by have:=Yd.o;rw[I.ic WW]at this;exact this
          clear WW;obtain⟨x0,x1,x2,x3,x4,x5,x6,x7⟩:=WV.o.y8 0 1 2 3 4 5 6 7;simp at x0 x1 x2 x3 x4 x5 x6 x7;obtain⟨r0,r1,r2,r3,r4,r5,r6,r7⟩:=U8.o.y8 0 1 2 3 4 5 6 7;simp at r0 r1 r2 r3 r4 r5 r6 r7;obtain⟨f0,f1,f2,f3,f4,f5,f6,f7⟩:=U8.o.z8 0 1 2 3 4 5 6 7;go_wp2_with fail
          refine ae (v:=.agg (cT ⟨2,⟨0,0,I.dp⟩,I.bs n1,I.dp,0⟩ none 0 0).toArray) (av rfl _ _ w.heap.size 50 _ (0,0) _ rfl (eO U8.o _ _ _ _ _ _ _ _) hZ rfl fo) rfl ⟨_,rfl,?_,?_,?_⟩
          ·rw[SV.o];exact iI (xT (o:=[]) hnl (by decide))
          ·rw[SV.o];exact gz WX.o NK _ _ _ _ _ _ _ _
          ·exact ez WU.o (.inr (aa _)) _ _ _ _ _ _ _ _
         |true=>
          have SV:Hid (I.dm C.text.size X st=(.mk ⟨2,⟨0,0,I.dp⟩,I.bs (I.name C.text.size (I.next s1)).1,I.bs n1,0⟩ [],(I.name C.text.size (I.next s1)).2)):=by show _=_;rw[Pf.o,SC.o,if_pos WW]
          have WX:Hid (PS C (I.next s1) w9):=by have:=Yd.o;rw[I.ga WW]at this;exact this
          clear WW;have VX:=tF WX.o;obtain⟨ms,hms⟩:∃q,q=I.name C.text.size (I.next s1):=⟨_,rfl⟩;obtain⟨n2,s2⟩:=ms;have Xz:=cN hms;rw[←hms]at SV VX;simp only at SV VX;clear hms;have hg59:=WV.o.lt;obtain⟨x0,x1,x2,x3,x4,x5,x6,x7⟩:=WV.o.y8 0 1 2 3 4 5 6 7;simp at x0 x1 x2 x3 x4 x5 x6 x7;go_wp2_with fail
          go_region_with ((with_reducible refine(CA C (I.next s1) _ WX.o).mono ?_);rintro e RU ⟨rfl,Ux,Tw⟩;rw[←Xz.o]at Ux⊢;simp only at Ux⊢;have hs10:=Tw.size;have Uy:=cN Ux;have Ye:=cN (WU.o.trans Tw (by omega));have Yf:=cN (U8.o.ch Tw (by omega) (by omega));have Pl:=cN (WV.o.ch Tw (by omega) (by omega));clear Ux Tw;have y0:=Pl.o.cell 0;have y1:=Pl.o.cell 1;have y2:=Pl.o.cell 2;have y3:=Pl.o.cell 3;have y4:=Pl.o.cell 4;have y5:=Pl.o.cell 5;have y6:=Pl.o.cell 6;have y7:=Pl.o.cell 7;simp at y0 y1 y2 y3 y4 y5 y6 y7;have z0:=Pl.o.frozen 0;have z1:=Pl.o.frozen 1;have z2:=Pl.o.frozen 2;have z3:=Pl.o.frozen 3;have z4:=Pl.o.frozen 4;have z5:=Pl.o.frozen 5;have z6:=Pl.o.frozen 6;have z7:=Pl.o.frozen 7)
          all_goals
           first
           |(obtain⟨PW,Qt⟩:∃x,x=(RU.setCell ⟨g5,5,none⟩ (.string (I.bs n1))).setCell ⟨g5,4,none⟩ (.string (I.bs n2)):=⟨_,rfl⟩;rw[←Qt];have Yg:=cN (show NA PW g5 50 #[.int .u8 2,.int .u8 0,.int .i64 0,.string ⟨#[]⟩,.string (I.bs n2),.string (I.bs n1),.int .i64 0,.slice none 0 0] by(rw[Qt];simpa using(Pl.o.put 5 (.string (I.bs n1))).put 4 (.string (I.bs n2))));have Yh:=cN (show PS C s2 PW by(rw[Qt];exact(Uy.o.set (p:=⟨g5,5,none⟩) _ (by show C.g<g5;omega)).set (p:=⟨g5,4,none⟩) _ (by show C.g<g5;omega)));have Yi:=cN (show Ch C.g w.heap.size w PW by(rw[Qt];exact(Ye.o.set (p:=⟨g5,5,none⟩) (.inr (by show w.heap.size≤g5;omega)) _).set (p:=⟨g5,4,none⟩) (.inr (by show w.heap.size≤g5;omega)) _));have Uz:=cN (show NA PW w.heap.size 50 #[.int .u8 0,.int .u8 0,.int .i64 0,.string ⟨#[]⟩,.string ⟨#[]⟩,.string ⟨#[]⟩,.int .i64 0,.slice none 0 0] by(rw[Qt];exact(Yf.o.far (p:=⟨g5,5,none⟩) (by show w.heap.size≠g5;omega) _).far (p:=⟨g5,4,none⟩) (by show w.heap.size≠g5;omega) _)))
           |(obtain⟨PW,Qt⟩:∃x,x=(RU.setCell ⟨g5,4,none⟩ (.string (I.bs n2))).setCell ⟨g5,5,none⟩ (.string (I.bs n1)):=⟨_,rfl⟩;rw[←Qt];have Yg:=cN (show NA PW g5 50 #[.int .u8 2,.int .u8 0,.int .i64 0,.string ⟨#[]⟩,.string (I.bs n2),.string (I.bs n1),.int .i64 0,.slice none 0 0] by(rw[Qt];simpa using(Pl.o.put 4 (.string (I.bs n2))).put 5 (.string (I.bs n1))));have Yh:=cN (show PS C s2 PW by(rw[Qt];exact(Uy.o.set (p:=⟨g5,4,none⟩) _ (by show C.g<g5;omega)).set (p:=⟨g5,5,none⟩) _ (by show C.g<g5;omega)));have Yi:=cN (show Ch C.g w.heap.size w PW by(rw[Qt];exact(Ye.o.set (p:=⟨g5,4,none⟩) (.inr (by show w.heap.size≤g5;omega)) _).set (p:=⟨g5,5,none⟩) (.inr (by show w.heap.size≤g5;omega)) _));have Uz:=cN (show NA PW w.heap.size 50 #[.int .u8 0,.int .u8 0,.int .i64 0,.string ⟨#[]⟩,.string ⟨#[]⟩,.string ⟨#[]⟩,.int .i64 0,.slice none 0 0] by(rw[Qt];exact(Yf.o.far (p:=⟨g5,4,none⟩) (by show w.heap.size≠g5;omega) _).far (p:=⟨g5,5,none⟩) (by show w.heap.size≠g5;omega) _)))
           clear Qt
           obtain⟨x0,x1,x2,x3,x4,x5,x6,x7⟩:=Yg.o.y8 0 1 2 3 4 5 6 7
           simp at x0 x1 x2 x3 x4 x5 x6 x7
           obtain⟨r0,r1,r2,r3,r4,r5,r6,r7⟩:=Uz.o.y8 0 1 2 3 4 5 6 7
           simp at r0 r1 r2 r3 r4 r5 r6 r7
           obtain⟨f0,f1,f2,f3,f4,f5,f6,f7⟩:=Uz.o.z8 0 1 2 3 4 5 6 7
           go_wp2_with fail
           refine ae (v:=.agg (cT ⟨2,⟨0,0,I.dp⟩,I.bs n2,I.bs n1,0⟩ none 0 0).toArray) (av rfl _ _ w.heap.size 50 _ (0,0) _ rfl (eO Uz.o _ _ _ _ _ _ _ _) hZ rfl fo) rfl ⟨_,rfl,?_,?_,?_⟩
           ·rw[SV.o];exact iI (xT VX hnl)
           ·rw[SV.o];exact gz Yh.o NK _ _ _ _ _ _ _ _
           ·exact ez Yi.o (.inr (aa _)) _ _ _ _ _ _ _ _
        ·have hln:=hol.2 h0;have Td:Hid (I.dm C.text.size X st=I.fold C.text.size X (I.one [([99,111,117,110,116],17),([115,117,109],18),([109,105,110],19),([109,97,120],20)] st).1 (I.one [([99,111,117,110,116],17),([115,117,109],18),([109,105,110],19),([109,97,120],20)] st).2):=by show _=_;rw[HF.o,if_neg HL.o,if_neg SU.o,if_neg HA2.o,if_neg Ub.o,if_neg WQ.o,if_neg HA5.o,if_neg h0]
         obtain⟨os,hos⟩:∃q,q=I.one [([99,111,117,110,116],17),([115,117,109],18),([109,105,110],19),([109,97,120],20)] st:=⟨_,rfl⟩;obtain⟨o,s1⟩:=os;rw[←hos]at PE Td hln h0⊢;simp only at PE Td hln h0⊢;have qo:((o.toNat:Int)==0)=false:=by simp;exact fun e=>h0 (aF.1 (by rw[show((0:UInt8).toNat)=0 from rfl];omega))
         clear hol hos h0;go_wp2_with fail
         with_reducible refine(G9 C X (N-1) (HK.o (N-1) (by omega)) o s1 _ (by omega) PE.o).mono ?_
         rintro e w7 ⟨UA,rfl,hx7,U2,RG⟩;have hs7:=RG.size;obtain⟨h7,A7,m7,c7,ks7,rfl,Zx⟩:=dC hx7;have U9:=cN hx7;have QA:=cN U2;have T8:=cN (Qm.o.trans RG (by omega));have Ta:=cN (Ob.o.ch RG (by omega) (by omega));clear hx7 U2 RG Zx;unfold cT;obtain⟨r0,r1,r2,r3,r4,r5,r6,r7⟩:=Ta.o.y8 0 1 2 3 4 5 6 7;simp at r0 r1 r2 r3 r4 r5 r6 r7;obtain⟨f0,f1,f2,f3,f4,f5,f6,f7⟩:=Ta.o.z8 0 1 2 3 4 5 6 7;go_wp2_with fail
         refine ae (v:=.agg (cT h7 A7 m7 c7).toArray) (av rfl _ _ w.heap.size 50 _ (0,0) _ rfl (eO Ta.o _ _ _ _ _ _ _ _) hZ rfl fo) rfl ⟨_,rfl,?_,?_,?_⟩
         ·rw[Td.o];exact U9.o.hp (fun b hb=>⟨by have:=hb.1;omega,by have:=hb.2;simp;omega⟩) fun b hb=>(ez (Ch.refl w.heap.size w7.heap.size w7) (.inl rfl) _ _ _ _ _ _ _ _).block b (by have:=hb.2;omega) (by have:=hb.1;omega)
         ·rw[Td.o];exact gz QA.o NK _ _ _ _ _ _ _ _
         ·exact ez T8.o (.inr (aa _)) _ _ _ _ _ _ _ _
end
section
set_option maxRecDepth 100000
theorem Mo(C:RC)(X:I.St→Ev.Ex×I.St)(hX:I.eZ X)(n:Nat)(hK:fH C 266 #[.pointer (some ⟨C.g,0,none⟩)] (I.sum C.text.size X) n):fH C 256 #[.pointer (some ⟨C.g,0,none⟩)] (I.cmp C.text.size X) n:=by
 intro st w hn h;have NK:=h.lt;have HP:=cN h;have HK:=cN hK;have hsl:=I.ra (T:=C.text.size) hX st;clear h hK hX;go_enter Tryz.func256,Tryz.ntmps256;go_wp2_with fail
 with_reducible refine(HK.o.at st _ hn (HP.o.alloc _)).mono ?_
 rintro e w1 ⟨cs1,rfl,hx1,hp1,hc1⟩;rw[dc]at hx1;have hs1:=hc1.size;rw[dc]at hs1;obtain⟨h1,A1,m1,c1,UU,rfl,hk1⟩:=dC hx1;obtain⟨r1,hr1⟩:∃r,r=I.sum C.text.size X st:=⟨_,rfl⟩;obtain⟨xe,s1⟩:=r1;rw[←hr1]at hx1 hp1 hsl;have Td:=cN hr1;simp only at hx1 hp1 hsl;have Q0:=cN hx1;have Oa:=cN hp1;have Oh:=cN (((Ch.refl C.g w.heap.size w).alloc (aa _) _).trans hc1 (by simp));have HR1:=cN ((NA.new w _ _).ch hc1 (by simp) (by omega));clear hx1 hp1 hc1 hk1 hr1;unfold cT;go_wp2_with fail
 have hlt1:=Oa.o.lt;with_reducible refine(qk C _ [([61],7),([60,62],8),([60],9),([60,61],10),([62],11),([62,61],12)] s1 _ ((Oa.o.alloc _).alloc _) (kK (C:=C) (n:=6) (cells:=#[.string ⟨#[61]⟩,.int .u8 7,.string ⟨#[60,62]⟩,.int .u8 8,.string ⟨#[60]⟩,.int .u8 9,.string ⟨#[60,61]⟩,.int .u8 10,.string ⟨#[62]⟩,.int .u8 11,.string ⟨#[62,61]⟩,.int .u8 12]) (NA.oK _ _ _ _) rfl (by omega) rfl (by decide))).mono ?_
 rintro e w2 ⟨rfl,hp2,hc2⟩;have hs2:=hc2.size;simp at hs2;have Ow:=cN hp2;have P7:=cN (((Oh.o.alloc (by omega) _).alloc (by simp;omega) _).trans hc2 (by simp;omega));have HR2:=cN (((HR1.o.alloc _).alloc _).ch hc2 (by simp;omega) (by omega));have HE2:=cN (((NA.new w1 _ _).alloc _).ch hc2 (by simp;omega) (by omega));have Px:=cN (Q0.o.hp (w':=w2) (fun _ h=>h) (fun b hb=>by
  have h1:=hb.1
  have h2:=hb.2
  exact(hc2.block b (by simp;omega) (by omega)).trans ((aL _ _ b (by simp;omega)).trans (aL w1 _ b h2))))
 clear hp2 hc2;obtain⟨g3,hg3⟩:∃g,g=w1.heap.size:=⟨_,rfl⟩;rw[←hg3]at HE2 Px hs2⊢;have hg3b:w.heap.size<g3:=by omega
 have hg32:g3<w2.heap.size:=by omega
 clear hg3;have hol:=I.jz [([61],7),([60,62],8),([60],9),([60,61],10),([62],11),([62,61],12)] s1;by_cases h0:(I.one [([61],7),([60,62],8),([60],9),([60,61],10),([62],11),([62,61],12)] s1).1=0
 ·have HZ:Hid (I.one [([61],7),([60,62],8),([60],9),([60,61],10),([62],11),([62,61],12)] s1=(0,s1)):=by have h2:=I.rP [([61],7),([60,62],8),([60],9),([60,61],10),([62],11),([62,61],12)] s1 (by decide) h0;exact cN (Prod.ext h0 h2)
  rw[HZ.o]at Ow⊢;simp only at Ow⊢;have Pf:Hid (I.cmp C.text.size X st=(if I.dh [105,115] s1=true then I.RP C.text.size xe (I.next s1)else(xe,s1))):=by show _=_;unfold I.cmp I.j4 I.il;rw[←Td.o];simp only;rw[if_pos h0]
  clear h0 hol;go_wp2_with fail
  with_reducible refine(eF C ⟨#[105,115]⟩ s1 _ Ow.o).mono ?_
  rintro e w3 ⟨rfl,hp3,hc3⟩;have hs3:=hc3.size;have Rl:=cN hp3;have Rv:=cN (P7.o.trans hc3 (by omega));have HR3:=cN (HR2.o.ch hc3 (by omega) (by omega));have ZD:=cN (HE2.o.ch hc3 (by omega) (by omega));have Tc:=cN (Px.o.ch hc3 (by omega) (by omega));clear hp3 hc3;cases ha:I.dh [105,115] s1 with
  |false=>
   have Q2:Hid (PS C s1 w3):=by have:=Rl.o;rw[show(⟨#[105,115]⟩:ByteArray).data.toList=[105,115]from rfl,I.ic ha]at this;exact this
   have SC:Hid (I.cmp C.text.size X st=(xe,s1)):=by show _=_;rw[Pf.o,if_neg (by rw[ha];decide)]
   clear ha;obtain⟨x0,x1,x2,x3,x4,x5,x6,x7⟩:=ZD.o.y8 0 1 2 3 4 5 6 7;simp at x0 x1 x2 x3 x4 x5 x6 x7;obtain⟨r0,r1,r2,r3,r4,r5,r6,r7⟩:=HR3.o.y8 0 1 2 3 4 5 6 7;simp at r0 r1 r2 r3 r4 r5 r6 r7;obtain⟨f0,f1,f2,f3,f4,f5,f6,f7⟩:=HR3.o.z8 0 1 2 3 4 5 6 7;go_wp2_with fail
   refine ae (v:=.agg (cT h1 A1 m1 c1).toArray) (av rfl _ _ w.heap.size 50 _ (0,0) _ rfl (eO HR3.o _ _ _ _ _ _ _ _) hZ rfl fo) rfl ⟨_,rfl,?_,?_,?_⟩
   ·rw[SC.o];exact Tc.o.hp (fun b hb=>⟨by have:=hb.1;omega,by have:=hb.2;simp;omega⟩) fun b hb=>(ez (Ch.refl w.heap.size w3.heap.size w3) (.inl rfl) _ _ _ _ _ _ _ _).block b (by have:=hb.2;omega) (by have:=hb.1;omega)
   ·rw[SC.o];exact gz Q2.o NK _ _ _ _ _ _ _ _
   ·exact ez Rv.o (.inr (aa _)) _ _ _ _ _ _ _ _
  |true=>
   have Q2:Hid (PS C (I.next s1) w3):=by have:=Rl.o;rw[show(⟨#[105,115]⟩:ByteArray).data.toList=[105,115]from rfl,I.ga ha]at this;exact this
   have SC:Hid (I.cmp C.text.size X st=I.RP C.text.size xe (I.next s1)):=by show _=_;rw[Pf.o,if_pos ha]
   clear ha;go_wp2_with fail
   with_reducible refine(eF C ⟨#[110,111,116]⟩ (I.next s1) _ Q2.o).mono ?_
   rintro e w4 ⟨rfl,Tv,hc4⟩;have hs4:=hc4.size;obtain⟨b,hb⟩:∃b,b=I.dh [110,111,116] (I.next s1):=⟨_,rfl⟩;obtain⟨s2,VY⟩:∃s,s=I.acc [110,111,116] (I.next s1):=⟨_,rfl⟩;have SV:Hid (I.RP C.text.size xe (I.next s1)=(if b=true then I.un 15 (I.un 16 xe)else I.un 16 xe,I.expect C.text.size [[110,117,108,108]] s2)):=by show _=_;unfold I.RP;rw[hb,VY];unfold I.acc;split<;>rfl
   rw[show(⟨#[110,111,116]⟩:ByteArray).data.toList=[110,111,116]from rfl,←VY]at Tv;rw[show(⟨#[110,111,116]⟩:ByteArray).data.toList=[110,111,116]from rfl,←hb];have SB:=cN Tv;have Rm:=cN (Rv.o.trans hc4 (by omega));have HR4:=cN (HR3.o.ch hc4 (by omega) (by omega));have HE4:=cN (ZD.o.ch hc4 (by omega) (by omega));have X0:=cN (Tc.o.ch hc4 (by omega) (by omega));clear Tv hc4 hb VY;go_wp2_with fail
   have hlt4:=SB.o.lt;with_reducible refine(lG C _ [[110,117,108,108]] s2 _ (SB.o.alloc _) (oF (C:=C) (n:=1) (cells:=#[.string ⟨#[110,117,108,108]⟩]) (NA.new _ _ _) rfl (by omega) rfl (by decide))).mono ?_
   rintro e w5 ⟨rfl,QS,PN⟩;have hs5:=PN.size;rw[dc]at hs5;have PE:=cN QS;have Tb:=cN ((Rm.o.alloc (by omega) _).trans PN (by simp;omega));have Q3:=cN ((HR4.o.alloc _).ch PN (by simp;omega) (by omega));have Uc:=cN ((HE4.o.alloc _).ch PN (by simp;omega) (by omega));have U6:=cN ((X0.o.hp (w':=w4.alloc _) (fun _ h=>h) fun b hb=>aL w4 _ b (by have:=hb.2;omega)).ch PN (by simp;omega) (by omega));clear QS PN;obtain⟨w6,Qd⟩:∃x,w5.alloc (.cells #[.int .u8 (h1.o.toNat:Int),.int .u8 (h1.v.k.toNat:Int),.int .i64 h1.v.n,.string h1.v.s,.string h1.nm,.string h1.of,.int .i64 h1.n,.slice A1 m1 c1] 50)=x:=⟨_,rfl⟩;have Ob:=cN (show NA w6 w.heap.size _ _ from Qd▸Q3.o.alloc _);have P6:=cN (show NA w6 g3 _ _ from Qd▸Uc.o.alloc _);have HK6:=cN (show NA w6 w5.heap.size _ _ from Qd▸NA.new w5 _ _);have QA:=cN (show PS C _ w6 from Qd▸PE.o.alloc _);have Qm:=cN (show Ch C.g w.heap.size w w6 from Qd▸Tb.o.alloc (by omega) _);have RR:=cN (show XR w6 (In (w.heap.size+1) g3) _ _ from Qd▸U6.o.hp (fun _ h=>h) fun b hb=>aL w5 _ b (by have:=hb.2;omega));have hs6:w6.heap.size=w5.heap.size+1:=by rw[←Qd,dc]
   have XT:w5.heap.size<w6.heap.size:=by omega
   have hg5:g3<w5.heap.size:=by omega
   clear hs6;obtain⟨w7,hw7⟩:∃x,x=((((((((w6.setCell ⟨g3,0,none⟩ (.int .u8 16)).setCell ⟨g3,1,none⟩ (.int .u8 0)).setCell ⟨g3,2,none⟩ (.int .i64 0)).setCell ⟨g3,3,none⟩ (.string ⟨#[]⟩)).setCell ⟨g3,4,none⟩ (.string ⟨#[]⟩)).setCell ⟨g3,5,none⟩ (.string ⟨#[]⟩)).setCell ⟨g3,6,none⟩ (.int .i64 0)).setCell ⟨g3,7,none⟩ (.slice (some ⟨w5.heap.size,0,none⟩) 1 1)):=⟨_,rfl⟩;have Va:=ez (Ch.refl g3 w6.heap.size w6) (.inl rfl) (.int .u8 16) (.int .u8 0) (.int .i64 0) (.string ⟨#[]⟩) (.string ⟨#[]⟩) (.string ⟨#[]⟩) (.int .i64 0) (.slice (some ⟨w5.heap.size,0,none⟩) 1 1);rw[←hw7]at Va;have Ta:=cN (show NA w7 w.heap.size _ _ from(Va.block _ (by omega) (by omega)).trans Ob.o);have ZI:Hid (NA w7 g3 50 #[.int .u8 16,.int .u8 0,.int .i64 0,.string ⟨#[]⟩,.string ⟨#[]⟩,.string ⟨#[]⟩,.int .i64 0,.slice (some ⟨w5.heap.size,0,none⟩) 1 1]):=cN (by rw[hw7];exact eO P6.o _ _ _ _ _ _ _ _);have Sx:=cN (show PS C (I.expect C.text.size [[110,117,108,108]] s2) w7 by rw[hw7];exact gz QA.o (by omega) _ _ _ _ _ _ _ _);have T8:=cN (show Ch C.g w.heap.size w w7 by rw[hw7];exact ez Qm.o (.inr (by omega)) _ _ _ _ _ _ _ _);have U9:=cN (show XR w7 (fun b=>w.heap.size<b∧b<w7.heap.size∧b≠g3) (cT (I.hd 16) (some ⟨w5.heap.size,0,none⟩) 1 1) (I.un 16 xe)from
    tv (g:=w5.heap.size) (t:=50) (cells:=#[.int .u8 (h1.o.toNat:Int),.int .u8 (h1.v.k.toNat:Int),.int .i64 h1.v.n,.string h1.v.s,.string h1.nm,.string h1.of,.int .i64 h1.n,.slice A1 m1 c1]) 16 ((Va.block _ XT (by omega)).trans HK6.o) rfl (RR.o.hp (fun b hb=>⟨by have:=hb.1;omega,by have:=hb.2;have:=Va.size;omega,by have:=hb.2;omega⟩) fun b hb=>Va.block b (by have:=hb.2;omega) (by have:=hb.2;omega)) ⟨by omega,by have:=Va.size;omega,by omega⟩)
   have hs7:=Va.size;clear Va;obtain⟨y0,y1,y2,y3,y4,y5,y6,y7⟩:=Uc.o.y8 0 1 2 3 4 5 6 7;simp at y0 y1 y2 y3 y4 y5 y6 y7;obtain⟨x0,x1,x2,x3,x4,x5,x6,x7⟩:=P6.o.y8 0 1 2 3 4 5 6 7;simp at x0 x1 x2 x3 x4 x5 x6 x7;obtain⟨z0,z1,z2,z3,z4,z5,z6,z7⟩:=P6.o.z8 0 1 2 3 4 5 6 7;go_upto_region 10 with fail
   rw[←hw7];clear hw7 Qd y0 y1 y2 y3 y4 y5 y6 y7 x0 x1 x2 x3 x4 x5 x6 x7 z0 z1 z2 z3 z4 z5 z6 z7;obtain⟨x0,x1,x2,x3,x4,x5,x6,x7⟩:=ZI.o.y8 0 1 2 3 4 5 6 7;simp at x0 x1 x2 x3 x4 x5 x6 x7;obtain⟨z0,z1,z2,z3,z4,z5,z6,z7⟩:=ZI.o.z8 0 1 2 3 4 5 6 7;obtain⟨r0,r1,r2,r3,r4,r5,r6,r7⟩:=Ta.o.y8 0 1 2 3 4 5 6 7;simp at r0 r1 r2 r3 r4 r5 r6 r7;obtain⟨f0,f1,f2,f3,f4,f5,f6,f7⟩:=Ta.o.z8 0 1 2 3 4 5 6 7;cases b with
   |false=>
    have VO:Hid (I.cmp C.text.size X st=(I.un 16 xe,I.expect C.text.size [[110,117,108,108]] s2)):=by show _=_;rw[SC.o,SV.o];rfl
    go_wp2_with fail
    refine ae (v:=.agg (cT (I.hd 16) (some ⟨w5.heap.size,0,none⟩) 1 1).toArray) (av rfl _ _ w.heap.size 50 _ (0,0) _ rfl (eO Ta.o _ _ _ _ _ _ _ _) hZ rfl fo) rfl ⟨_,rfl,?_,?_,?_⟩
    ·rw[VO.o];exact U9.o.hp (fun b hb=>⟨by have:=hb.1;omega,by have:=hb.2.1;simp;omega⟩) fun b hb=>(ez (Ch.refl w.heap.size w7.heap.size w7) (.inl rfl) _ _ _ _ _ _ _ _).block b hb.2.1 (by have:=hb.1;omega)
    ·rw[VO.o];exact gz Sx.o NK _ _ _ _ _ _ _ _
    ·exact ez T8.o (.inr (aa _)) _ _ _ _ _ _ _ _
   |true=>
    have VO:Hid (I.cmp C.text.size X st=(I.un 15 (I.un 16 xe),I.expect C.text.size [[110,117,108,108]] s2)):=by show _=_;rw[SC.o,SV.o];rfl
    have T0:=ZI.o.lt;obtain⟨w8,hw8⟩:∃x,w7.alloc (.cells #[.int .u8 16,.int .u8 0,.int .i64 0,.string ⟨#[]⟩,.string ⟨#[]⟩,.string ⟨#[]⟩,.int .i64 0,.slice (some ⟨w5.heap.size,0,none⟩) 1 1] 50)=x:=⟨_,rfl⟩;have Uw:=cN (show NA w8 w.heap.size _ _ from hw8▸Ta.o.alloc _);have WT:=cN (show NA w8 g3 _ _ from hw8▸ZI.o.alloc _);have VU:=cN (show NA w8 w7.heap.size _ _ from hw8▸NA.new w7 _ _);have WX:=cN (show PS C _ w8 from hw8▸Sx.o.alloc _);have SP:=cN (show Ch C.g w.heap.size w w8 from hw8▸T8.o.alloc (by omega) _);have VV:=cN (show XR w8 (fun b=>w.heap.size<b∧b<w7.heap.size∧b≠g3) _ _ from hw8▸U9.o.hp (fun _ h=>h) fun b hb=>aL w7 _ b hb.2.1);have VW:w8.heap.size=w7.heap.size+1:=by rw[←hw8,dc]
    have Uv:w7.heap.size<w8.heap.size:=by omega
    clear VW;obtain⟨w9,T3⟩:∃x,x=((((((((w8.setCell ⟨g3,0,none⟩ (.int .u8 15)).setCell ⟨g3,1,none⟩ (.int .u8 0)).setCell ⟨g3,2,none⟩ (.int .i64 0)).setCell ⟨g3,3,none⟩ (.string ⟨#[]⟩)).setCell ⟨g3,4,none⟩ (.string ⟨#[]⟩)).setCell ⟨g3,5,none⟩ (.string ⟨#[]⟩)).setCell ⟨g3,6,none⟩ (.int .i64 0)).setCell ⟨g3,7,none⟩ (.slice (some ⟨w7.heap.size,0,none⟩) 1 1)):=⟨_,rfl⟩;have WY:=ez (Ch.refl g3 w8.heap.size w8) (.inl rfl) (.int .u8 15) (.int .u8 0) (.int .i64 0) (.string ⟨#[]⟩) (.string ⟨#[]⟩) (.string ⟨#[]⟩) (.int .i64 0) (.slice (some ⟨w7.heap.size,0,none⟩) 1 1);rw[←T3]at WY;have U8:=cN (show NA w9 w.heap.size _ _ from(WY.block _ (by omega) (by omega)).trans Uw.o);have WV:Hid (NA w9 g3 50 #[.int .u8 15,.int .u8 0,.int .i64 0,.string ⟨#[]⟩,.string ⟨#[]⟩,.string ⟨#[]⟩,.int .i64 0,.slice (some ⟨w7.heap.size,0,none⟩) 1 1]):=cN (by rw[T3];exact eO WT.o _ _ _ _ _ _ _ _);have Uy:=cN (show PS C (I.expect C.text.size [[110,117,108,108]] s2) w9 by rw[T3];exact gz WX.o (by omega) _ _ _ _ _ _ _ _);have WU:=cN (show Ch C.g w.heap.size w w9 by rw[T3];exact ez SP.o (.inr (by omega)) _ _ _ _ _ _ _ _);have Se:=WY.size;have HX9:=cN (show XR w9 (fun b=>w.heap.size<b∧b<w9.heap.size∧b≠g3) (cT (I.hd 15) (some ⟨w7.heap.size,0,none⟩) 1 1) (I.un 15 (I.un 16 xe))from
     tv (g:=w7.heap.size) (t:=50) (cells:=#[.int .u8 16,.int .u8 0,.int .i64 0,.string ⟨#[]⟩,.string ⟨#[]⟩,.string ⟨#[]⟩,.int .i64 0,.slice (some ⟨w5.heap.size,0,none⟩) 1 1]) 15 ((WY.block _ Uv (by omega)).trans VU.o) rfl (VV.o.hp (fun b hb=>⟨hb.1,by have:=hb.2.1;omega,hb.2.2⟩) fun b hb=>WY.block b (by have:=hb.2.1;omega) hb.2.2) ⟨by omega,by omega,by omega⟩)
    clear WY;clear r0 r1 r2 r3 r4 r5 r6 r7 f0 f1 f2 f3 f4 f5 f6 f7;obtain⟨y0,y1,y2,y3,y4,y5,y6,y7⟩:=WT.o.y8 0 1 2 3 4 5 6 7;simp at y0 y1 y2 y3 y4 y5 y6 y7;clear z0 z1 z2 z3 z4 z5 z6 z7;obtain⟨z0,z1,z2,z3,z4,z5,z6,z7⟩:=WT.o.z8 0 1 2 3 4 5 6 7;go_upto_region 12 with fail
    rw[←T3];clear T3 hw8 y0 y1 y2 y3 y4 y5 y6 y7 x0 x1 x2 x3 x4 x5 x6 x7 z0 z1 z2 z3 z4 z5 z6 z7;obtain⟨x0,x1,x2,x3,x4,x5,x6,x7⟩:=WV.o.y8 0 1 2 3 4 5 6 7;simp at x0 x1 x2 x3 x4 x5 x6 x7;obtain⟨r0,r1,r2,r3,r4,r5,r6,r7⟩:=U8.o.y8 0 1 2 3 4 5 6 7;simp at r0 r1 r2 r3 r4 r5 r6 r7;obtain⟨f0,f1,f2,f3,f4,f5,f6,f7⟩:=U8.o.z8 0 1 2 3 4 5 6 7;go_wp2_with fail
    refine ae (v:=.agg (cT (I.hd 15) (some ⟨w7.heap.size,0,none⟩) 1 1).toArray) (av rfl _ _ w.heap.size 50 _ (0,0) _ rfl (eO U8.o _ _ _ _ _ _ _ _) hZ rfl fo) rfl ⟨_,rfl,?_,?_,?_⟩
    ·rw[VO.o];exact HX9.o.hp (fun b hb=>⟨by have:=hb.1;omega,by have:=hb.2.1;simp;omega⟩) fun b hb=>(ez (Ch.refl w.heap.size w9.heap.size w9) (.inl rfl) _ _ _ _ _ _ _ _).block b hb.2.1 (by have:=hb.1;omega)
    ·rw[VO.o];exact gz Uy.o NK _ _ _ _ _ _ _ _
    ·exact ez WU.o (.inr (aa _)) _ _ _ _ _ _ _ _
 ·have t0:(((I.one [([61],7),([60,62],8),([60],9),([60,61],10),([62],11),([62,61],12)] s1).1.toNat:Int) !=0)=true:=by simp;exact fun e=>h0 (aF.1 (by simpa using e))
  obtain⟨ro,hro⟩:∃r,r=I.one [([61],7),([60,62],8),([60],9),([60,61],10),([62],11),([62,61],12)] s1:=⟨_,rfl⟩;obtain⟨op,s2⟩:=ro;have Pf:Hid (I.cmp C.text.size X st=(I.bin op xe (I.sum C.text.size X s2).1,(I.sum C.text.size X s2).2)):=by show _=_;unfold I.cmp I.j4 I.il;rw[←Td.o];simp only;rw[if_neg h0,←hro]
  have hlo:=hol.1;rw[←hro]at Ow hlo t0⊢;simp only at Ow hlo t0⊢;clear h0 hol hro;obtain⟨x0,x1,x2,x3,x4,x5,x6,x7⟩:=HE2.o.y8 0 1 2 3 4 5 6 7;simp at x0 x1 x2 x3 x4 x5 x6 x7;go_wp2_with fail
  go_region_with ((with_reducible refine(HK.o.drew s2 _ (by omega) Ow.o).mono ?_);rintro e w6 ⟨Rc,rfl,hx6,SA,hc6⟩;obtain⟨h6,A6,m6,c6,ZC,rfl,U1⟩:=dC hx6;unfold cT;have RR:=cN hx6;have PE:=cN SA;have Qm:=cN (P7.o.trans hc6 (by omega));have P6:=cN (HE2.o.ch hc6 hg32 (by omega));have Ob:=cN (HR2.o.ch hc6 (by omega) (by omega));have HY6:=cN (Px.o.ch hc6 (by omega) (by omega));have hs6:=hc6.size;have XT:g3<w6.heap.size:=(by omega);have WM:w.heap.size<w6.heap.size:=(by omega);clear hx6 SA hc6 U1;have y0:=P6.o.cell 0;have y1:=P6.o.cell 1;have y2:=P6.o.cell 2;have y3:=P6.o.cell 3;have y4:=P6.o.cell 4;have y5:=P6.o.cell 5;have y6:=P6.o.cell 6;have y7:=P6.o.cell 7;simp at y0 y1 y2 y3 y4 y5 y6 y7;have r0:=Ob.o.cell 0;have r1:=Ob.o.cell 1;have r2:=Ob.o.cell 2;have r3:=Ob.o.cell 3;have r4:=Ob.o.cell 4;have r5:=Ob.o.cell 5;have r6:=Ob.o.cell 6;have r7:=Ob.o.cell 7;simp at r0 r1 r2 r3 r4 r5 r6 r7;have f0:=Ob.o.frozen 0;have f1:=Ob.o.frozen 1;have f2:=Ob.o.frozen 2;have f3:=Ob.o.frozen 3;have f4:=Ob.o.frozen 4;have f5:=Ob.o.frozen 5;have f6:=Ob.o.frozen 6;have f7:=Ob.o.frozen 7)
  all_goals
   obtain⟨w8,hw8⟩:∃x,x=World.alloc ((((((((w6.setCell ⟨w.heap.size,0,none⟩ (.int .u8 (op.toNat:Int))).setCell ⟨w.heap.size,1,none⟩ (.int .u8 0)).setCell ⟨w.heap.size,2,none⟩ (.int .i64 0)).setCell ⟨w.heap.size,3,none⟩ (.string ⟨#[]⟩)).setCell ⟨w.heap.size,4,none⟩ (.string ⟨#[]⟩)).setCell ⟨w.heap.size,5,none⟩ (.string ⟨#[]⟩)).setCell ⟨w.heap.size,6,none⟩ (.int .i64 0)).setCell ⟨w.heap.size,7,none⟩ (.slice (some ⟨w6.heap.size,0,none⟩) 2 2)) (.cells #[.int .u8 (h1.o.toNat:Int),.int .u8 (h1.v.k.toNat:Int),.int .i64 h1.v.n,.string h1.v.s,.string h1.nm,.string h1.of,.int .i64 h1.n,.slice A1 m1 c1,.int .u8 (h6.o.toNat:Int),.int .u8 (h6.v.k.toNat:Int),.int .i64 h6.v.n,.string h6.v.s,.string h6.nm,.string h6.of,.int .i64 h6.n,.slice A6 m6 c6] 50):=⟨_,rfl⟩
   rw[←hw8]
   have hsame:∀b,b<w6.heap.size→b≠w.heap.size→w8.heap[b]?=w6.heap[b]?:=fun b h1 h2=>by rw[hw8];exact(aL _ _ b (by simp;omega)).trans ((ez (Ch.refl w.heap.size w6.heap.size w6) (.inl rfl) _ _ _ _ _ _ _ _).block b h1 h2)
   have Uv:w8.heap.size=w6.heap.size+1:=by rw[hw8];simp
   have VU:=cN (show NA w8 w6.heap.size _ _ by rw[hw8];exact EC w6 w.heap.size _ _ _ _ _ _ _ _ _ _)
   have Uw:=cN (show NA w8 w.heap.size 50 (cT (I.hd op) (some ⟨w6.heap.size,0,none⟩) 2 2).toArray by rw[hw8];exact(eO Ob.o _ _ _ _ _ _ _ _).alloc _)
   have Sx:=cN (show PS C (I.sum C.text.size X s2).2 w8 by rw[hw8];exact(gz PE.o NK _ _ _ _ _ _ _ _).alloc _)
   have SP:=cN (show Ch C.g w.heap.size w w8 by rw[hw8];exact(ez Qm.o (.inr (aa _)) _ _ _ _ _ _ _ _).alloc (by simp;omega) _)
   have VV:=cN (show XR w8 (In w.heap.size w8.heap.size) (cT (I.hd op) (some ⟨w6.heap.size,0,none⟩) 2 2) (I.bin op xe (I.sum C.text.size X s2).1)from
    DZ op VU.o rfl (HY6.o.hp (fun b hb=>⟨by have:=hb.1;omega,by have:=hb.2;omega⟩) fun b hb=>hsame b (by have:=hb.2;omega) (by have:=hb.1;omega)) (RR.o.hp (fun b hb=>⟨by have:=hb.1;omega,by have:=hb.2;omega⟩) fun b hb=>hsame b hb.2 (by have:=hb.1;omega)) ⟨by omega,by omega⟩)
   clear hsame Uv hw8
   go_wp2_with fail
   exact ae (v:=.agg (cT (I.hd op) (some ⟨w6.heap.size,0,none⟩) 2 2).toArray) (av rfl _ _ w.heap.size 50 _ (0,0) _ rfl Uw.o hZ rfl fo) rfl ⟨_,rfl,by rw[Pf.o];exact VV.o,by rw[Pf.o];exact Sx.o,SP.o⟩
end
end Go.Proofs.YtnicfobpclehkaaGreatDoor
