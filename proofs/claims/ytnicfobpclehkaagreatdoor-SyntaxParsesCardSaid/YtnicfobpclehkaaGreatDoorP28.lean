import Derived.Lib.Index
import Derived.Test.YtnicfobpclehkaaGreatDoorP27
set_option maxHeartbeats 1600000
set_option linter.unusedVariables false
set_option linter.unusedSimpArgs false
namespace Go.Proofs.YtnicfobpclehkaaGreatDoor
open Go.RowKit
theorem I.zC(s:I.Bs)(st:I.St):I.ae s st=I.hit s (I.dV st):=by
 unfold I.ae I.dV;cases st.r<;>rfl
theorem xN(C:RC)(s:ByteArray)(st:I.St)(w:World)(h:RS C st w):
 Calls Tryz.prog 75 #[.p C.g,.s s] w fun e w'=>e=.returned (.bool (I.ae s.data.toList st))∧Below w.heap.size w w':=by
 have HP:=aa h;clear h;have HA:=aa (I.zC s.data.toList st);obtain⟨t,ht⟩:=aab (I.dV st);rw[←ht]at HA;obtain⟨tk,ts,ta⟩:=t;have HT:=aa ht;clear ht;have HL:=aa (Lib.toList_data s);go_enter Tryz.func75,Tryz.ntmps75;go_wp2_with fail
 with_reducible refine(nO C st _ HP.o).mono ?_
 rintro e w1 ⟨rfl,hb⟩;rw[←HT.o];unfold gd;simp only;have HB1:=aa (hb.alloc hb.size (.cells #[.u (tk.toNat:Int),.s ⟨ts.toArray⟩,.i (ta:Int)] 113));clear hb;by_cases hk:tk.toNat=1∨tk.toNat=5
 ·cases hq:(ts==s.toList)with
  |true=>
   have HY:Hid (I.ae s.data.toList st=true):=HA.o.trans (I.rJ hk (by rw[←HL.o];simpa using hq));rcases hk with hk|hk
   all_goals
    first
     |(have t1:((tk.toNat:Int)==1)=true:=by simp;omega
       clear hk
       go_wp2_with fail)
     |(have t1:((tk.toNat:Int)==1)=false:=by simp;omega
       have t5:((tk.toNat:Int)==5)=true:=by simp;omega
       clear hk
       go_wp2_with fail)
    go_ret
    exact⟨by rw[HY.o]<;>rfl,HB1.o⟩
  |false=>
   have HY:Hid (I.ae s.data.toList st=false):=HA.o.trans (I.rb (.inr (by rw[←HL.o];simpa using hq)));rcases hk with hk|hk
   all_goals
    first
     |(have t1:((tk.toNat:Int)==1)=true:=by simp;omega
       clear hk
       go_wp2_with fail)
     |(have t1:((tk.toNat:Int)==1)=false:=by simp;omega
       have t5:((tk.toNat:Int)==5)=true:=by simp;omega
       clear hk
       go_wp2_with fail)
    go_ret
    exact⟨by rw[HY.o]<;>rfl,HB1.o⟩
 ·have HY:Hid (I.ae s.data.toList st=false):=HA.o.trans (I.rb (.inl hk));have t1:((tk.toNat:Int)==1)=false:=by simp;omega
  have t5:((tk.toNat:Int)==5)=false:=by simp;omega
  clear hk;go_wp2_with fail
  go_ret;exact⟨by rw[HY.o]<;>rfl,HB1.o⟩
theorem RS.next{C:RC}{st:I.St}{w:World}{x:Int}(h:RS C st w)(hr:st.r≠[])(hx:w.cell? ⟨C.g,1,none⟩=some (.i x)):RS C (I.next st) (w.setCell ⟨C.g,1,none⟩ (.i (x+1))):=by
 obtain⟨⟨k,hB,hk,h1,h2⟩,h3,h4⟩:=h;have he:st.e=0:=by
  by_cases he:st.e=0
  ·exact he
  ·exact absurd (h2 he) hr
 have e:=hB.cell 1;rw[hx]at e;simp at e;subst e;have hlt:k<C.ts.length:=by
  by_cases hlt:k<C.ts.length
  ·exact hlt
  ·exact absurd (by rw[h1 he];exact List.drop_of_length_le (by omega)) hr
 refine RS.put ⟨⟨k,hB,hk,h1,h2⟩,h3,h4⟩ ((Ch.refl C.g (C.g+1) w).set (p:=⟨C.g,1,none⟩) (.inl rfl) _) (k':=k+1) ⟨by simpa[I.next]using hB.put 1 (.i ((k:Int)+1)),hlt,fun _=>?_,fun hn=>absurd he hn⟩;show st.r.tail=_;rw[h1 he,List.tail_drop]
theorem RS.cell{C:RC}{st:I.St}{w:World}(h:RS C st w):∃k:Nat,w.cell? ⟨C.g,1,none⟩=some (.i (k:Int))∧w.frozen? ⟨C.g,1,none⟩=false∧k≤4096:=by
 obtain⟨⟨k,hB,hk,h1,h2⟩,h3,h4⟩:=h;have e:=hB.cell 1;simp at e;have:=C.ok.len;have:=C.small;exact⟨k,e,hB.frozen 1,by omega⟩
theorem Cj(C:RC)(s:ByteArray)(st:I.St)(w:World)(h:RS C st w):
 Calls Tryz.prog 29 #[.p C.g,.s s] w fun e w'=>e=.returned (.bool (I.ae s.data.toList st))∧RS C (I.acc s.data.toList st) w'∧Ch C.g w.heap.size w w':=by
 have HP:=aa h;clear h;go_enter Tryz.func29,Tryz.ntmps29;go_wp2_with fail
 with_reducible refine(xN C s st _ HP.o).mono ?_
 rintro e w1 ⟨rfl,hb⟩;have KL:=aa (HP.o.below hb);have KJ:=aa ((Ch.refl C.g w.heap.size w).below hb (Nat.le_refl _));clear hb;cases ha:I.ae s.data.toList st with
 |true=>
  obtain⟨k,hk,hz,hkl⟩:=KL.o.cell;have HA:=aa ha;clear ha;go_wp2_with fail
  go_ret;exact⟨by rw[HA.o]<;>rfl,by rw[I.di HA.o];exact KL.o.next (I.fm HA.o) hk,KJ.o.set (p:=⟨C.g,1,none⟩) (.inl rfl) _⟩
 |false=>
  have HA:=aa ha;clear ha;go_wp2_with fail
  go_ret;exact⟨by rw[HA.o]<;>rfl,by rw[I.dT HA.o];exact KL.o,KJ.o⟩
section
variable{C:RC}{w0 w:World}{own:bO}{its:List It}{st:I.St}
theorem aG(s:ByteArray)(l:I.Bs)(hl:s.data.toList=l)(F:Fr C.g w0 own its (RS C st) w):Calls Tryz.prog 29 #[.p C.g,.s s] w fun e w'=>∃b,I.ae l st=b∧e=.returned (.bool b)∧Fr C.g w0 own its (RS C (if b=true then I.next st else st)) w':=by
 subst hl;refine(Cj C s st w F.q).mono fun _ _ ⟨h1,h2,h3⟩=>⟨_,rfl,h1,F.call (RS.aJ ?_) h3⟩
 exact h2
theorem Gs(s:ByteArray)(l:I.Bs)(hl:s.data.toList=l)(F:Fr C.g w0 own its (RS C st) w):Calls Tryz.prog 75 #[.p C.g,.s s] w fun e w'=>∃b,I.ae l st=b∧e=.returned (.bool b)∧Fr C.g w0 own its (RS C st) w':=by
 subst hl;exact(xN C s st w F.q).mono fun _ _ ⟨h1,h2⟩=>⟨_,rfl,h1,F.quiet h2⟩
theorem dh(F:Fr C.g w0 own its (RS C st) w):Calls Tryz.prog 30 #[.p C.g] w fun e w'=>∃s,I.fail C.text.size 300 st=s∧e=.returned (.tuple #[])∧Fr C.g w0 own its (RS C s) w':=
 (pR C st w F.q).mono fun _ _ ⟨h1,h2,h3⟩=>⟨_,rfl,h1,F.call h2.aJ h3⟩
theorem gZ(F:Fr C.g w0 own its (RS C st) w):Calls Tryz.prog 149 #[.p C.g] w fun e w'=>∃t,I.dV st=t∧e=.returned (gd t)∧Fr C.g w0 own its (RS C st) w':=
 (nO C st w F.q).mono fun _ _ ⟨h1,h2⟩=>⟨_,rfl,h1,F.quiet h2⟩
end
theorem Cp(C:RC)(v:Value)(ss:List I.Bs)(st:I.St)(w:World)(h:RS C st w)(hl:Rr MP w (Pg C w) v ss):
 Calls Tryz.prog 68 #[.p C.g,v] w fun e w'=>e=.returned (.tuple #[])∧RS C (I.expect C.text.size ss st) w'∧Ch C.g w.heap.size w w':=by
 have Kt:=h.lt;obtain⟨A,c,rfl,hc1,hc2⟩:=hl.form;have HL:=aa hl;have F0:=aa (Fr.start h.lt h.aJ);clear h hl;go_enter Tryz.func68,Tryz.ntmps68;go_wp2_with fail
 go_loopg [4] ss.length (fun gg ix wr=>∃(k:Nat) (s0:I.St),k≤ss.length∧gg=ss.length-k∧ix=.i (k:Int)∧Hid (I.expect C.text.size ss st=I.expect C.text.size (ss.drop k) s0)∧Hid (Fr C.g w [] [] (RS C s0) wr));case atStart=>exact⟨0,st,by omega,by omega,rfl,aa rfl,F0⟩
 case round=>
  obtain⟨k,s0,hkl,rfl,rfl,HS,HF⟩:=hrel;obtain⟨w1,hw⟩:=aab wr;subst hw;clear F0;have hs1:=HF.o.ch.size;have Ox:=aa (HL.o.hp (P':=Pg C w1) (fun b hb=>⟨hb.1,by have:=hb.2;omega⟩) fun b hb=>HF.o.ch.block b hb.2 (by have:=hb.1;omega));by_cases hlt:k<ss.length
  ·obtain⟨g,off,s,cs,rfl,hg,hi,hcs,hcell⟩:=Ox.o.at hlt;have hcs':cs=[.s (I.bs s)]:=hcs;subst hcs';have HP:=aa (I.mI (T:=C.text.size) hi s0);have e0:=hcell 0 _ rfl;rw[show MP.k=1 from rfl,Nat.add_zero]at e0;have t1:decide ((k:Int)<(ss.length:Int))=true:=decide_eq_true (by omega);have q2:(k:Int)<(ss.length:Int):=by omega
   have hgl:=hg.2;clear hcell hi hcs hg;rw[Nat.mul_one]at e0;go_wp2_with fail
   with_reducible refine(aG (I.bs s) s (cL s) HF.o).mono ?_
   rintro e w2 ⟨b,hb,rfl,hF⟩;cases b with
   |true=>
    have F2:Hid (Fr C.g w _ _ (RS C (I.next s0)) w2):=hF;have HZ:Hid (I.expect C.text.size ss st=I.expect C.text.size (ss.drop (k+1)) (I.next s0)):=by show _=_;rw[HS.o,HP.o,if_pos hb]
    clear hF hb HP HS e0;go_wp2_with fail
    go_roundg (ss.length-(k+1));case measure=>omega
    case rel=>exact⟨k+1,_,by omega,rfl,by go_num,HZ,F2⟩
   |false=>
    have F2:Hid (Fr C.g w _ _ (RS C s0) w2):=hF;have HZ:Hid (I.expect C.text.size ss st=I.fail C.text.size 300 s0):=by show _=_;rw[HS.o,HP.o,if_neg (by rw[hb];decide)]
    clear hF hb HP HS e0;go_wp2_with fail
    with_reducible refine(dh F2.o).mono ?_
    rintro e w3 ⟨s3,(E3:Hid _),rfl,(F3:Hid _)⟩;go_wp2_with fail
    exact bodyPost_ret (v:=.tuple #[]) (results_none rfl _ _ _) rfl ⟨rfl,by rw[HZ.o,E3.o];exact F3.o.q,F3.o.ch⟩
  ·have t1:decide ((k:Int)<(ss.length:Int))=false:=decide_eq_false (by omega);have q2:¬(k:Int)<(ss.length:Int):=by omega
   have hk:k=ss.length:=by omega
   have HZ:Hid (I.expect C.text.size ss st=s0):=by show _=_;rw[HS.o,hk,List.drop_length];rfl
   clear HS hk;go_wp2_with fail
   go_end0;exact⟨rfl,by rw[HZ.o];exact HF.o.q,HF.o.ch⟩
section
set_option maxRecDepth 100000
theorem cZ(c:UInt8)(w:World):Calls Tryz.prog 143 #[.u (c.toNat:Int)] w fun e w'=>e=.returned (.bool (Lex.letter c))∧w=w':=by
 have hc:=c.toNat_lt;by_cases h1:97≤c.toNat
 ·go_enter Tryz.func143,Tryz.ntmps143;go_wp2;all_goals
   go_ret
   refine⟨?_,rfl⟩
   unfold Lex.letter
   exact jv (by rw[Bool.eq_iff_iff];simp;omega)
 ·go_enter Tryz.func143,Tryz.ntmps143;go_wp2;all_goals
   go_ret
   refine⟨?_,rfl⟩
   unfold Lex.letter
   exact jv (by rw[Bool.eq_iff_iff];simp;omega)
theorem cg(c:UInt8)(w:World):Calls Tryz.prog 144 #[.u (c.toNat:Int)] w fun e w'=>e=.returned (.bool (Lex.digit c))∧w=w':=by
 have hc:=c.toNat_lt;by_cases h1:48≤c.toNat
 ·go_enter Tryz.func144,Tryz.ntmps144;go_wp2;all_goals
   go_ret
   refine⟨?_,rfl⟩
   unfold Lex.digit
   exact jv (by rw[Bool.eq_iff_iff];simp;omega)
 ·go_enter Tryz.func144,Tryz.ntmps144;go_wp2;all_goals
   go_ret
   refine⟨?_,rfl⟩
   unfold Lex.digit
   exact jv (by rw[Bool.eq_iff_iff];simp;omega)
def az(c:UInt8):Prop:=97≤c.toNat∧c.toNat≤122
instance (c:UInt8):Decidable (az c):=by unfold az;infer_instance
theorem yC:∀c∈Lex.words,az c∨c=32:=by decide +kernel
theorem kg:Lex.words.length=347:=by decide +kernel
def tC(c:UInt8):Bool:=decide (c≠32)
theorem vX:∀i,i<347→Lex.span tC (Lex.words.drop (i+1))≤24:=by decide +kernel
theorem contains_of{s sub:List UInt8}{i:Nat}(hi:i≤s.length)(h:Lib.occAt s sub i=true):Lib.contains s sub=true:=by
 unfold Lib.contains;rw[decide_eq_true_eq];have:∃k,k≤i∧Lib.occAt s sub k=true∧∀j,j<k→Lib.occAt s sub j=false:=by
  clear hi;induction i using Nat.strongRecOn with
  |_ i ih=>
   by_cases hx:∃j,j<i∧Lib.occAt s sub j=true
   ·obtain⟨j,hj,ho⟩:=hx;obtain⟨k,h1,h2,h3⟩:=ih j hj ho;exact⟨k,by omega,h2,h3⟩
   ·refine⟨i,Nat.le_refl _,h,fun j hj=>?_⟩;cases hb:Lib.occAt s sub j with
    |false=>rfl
    |true=>exact absurd ⟨j,hj,hb⟩ hx
 obtain⟨k,h1,h2,h3⟩:=this;rw[Lib.index_first (by omega) h2 h3];omega
theorem lJ{s sub:List UInt8}(h:∀j,j≤s.length→Lib.occAt s sub j=false):Lib.contains s sub=false:=by
 unfold Lib.contains;rw[Lib.index_none h];rfl
theorem rv{s sub:List UInt8}(h:Lib.contains s sub=true):∃i,i≤s.length∧Lib.occAt s sub i=true:=by
 apply Classical.byContradiction;intro hn;rw[lJ (fun j hj=>by
  cases hb:Lib.occAt s sub j with
  |false=>rfl
  |true=>exact absurd ⟨j,hj,hb⟩ hn)]at h
 cases h
theorem Iy{s sub:List UInt8}{i:Nat}(h:Lib.occAt s sub i=true):∃r,s.drop i=sub++r:=by
 unfold Lib.occAt at h;obtain⟨r,hr⟩:=List.isPrefixOf_iff_prefix.1 h;exact⟨r,hr.symm⟩
theorem tD{p:UInt8→Bool}:∀(l:List UInt8),(∀c∈l,p c=true)→Lex.span p l=l.length:=by
 intro l;induction l with
 |nil=>intro _;rfl
 |cons c l ih=>
  intro h;simp only[Lex.span,List.length_cons];rw[if_pos (h c (by simp)),ih (fun d hd=>h d (by simp[hd]))]
theorem Cy{p:UInt8→Bool}(x:UInt8)(r:List UInt8)(hx:p x=false):∀(l:List UInt8),(∀c∈l,p c=true)→Lex.span p (l++x::r)=l.length:=by
 intro l;induction l with
 |nil=>intro _;simp only[List.nil_append,Lex.span];rw[if_neg (by simp[hx])];rfl
 |cons c l ih=>
  intro h;simp only[List.cons_append,Lex.span,List.length_cons];rw[if_pos (h c (by simp)),ih (fun d hd=>h d (by simp[hd]))]
theorem qx{p:UInt8→Bool}:∀(l:List UInt8),Lex.span p l=l.length→∀c∈l,p c=true:=by
 intro l;induction l with
 |nil=>intro _ c hc;cases hc
 |cons d l ih=>
  intro h c hc;simp only[Lex.span,List.length_cons]at h;split at h
  ·rename_i hd;rcases List.mem_cons.1 hc with rfl|hc
   ·exact hd
   ·exact ih (by omega) c hc
  ·omega
theorem kW(l:List UInt8):Lex.bL l=(decide (∀c∈l,az c)&&(decide (0<l.length)&&Lib.contains Lex.words (32::(l++[32])))):=by
 unfold Lex.bL;cases hc:Lib.contains Lex.words (32::(l++[32]))with
 |false=>simp
 |true=>
  simp only[Bool.and_true];obtain⟨i,hi,ho⟩:=rv hc;obtain⟨r,hr⟩:=Iy ho;have hmem:∀c∈l,az c∨c=32:=by
   intro c hcm;apply yC;have:c∈Lex.words.drop i:=by rw[hr];simp[hcm]
   exact List.mem_of_mem_drop this
  rw[Bool.eq_iff_iff];constructor
  ·intro hw;unfold Lex.word at hw;simp only[Bool.and_eq_true,decide_eq_true_eq]at hw;obtain⟨h1,h2,h3,h4⟩:=hw;simp only[Bool.and_eq_true,decide_eq_true_eq];refine⟨fun c hcm=>?_,by omega⟩;rcases hmem c hcm with h|h
   ·exact h
   ·have:=qx l h4 c hcm;subst h;simp[Lex.aL,Lex.letter,Lex.digit]at this
  ·intro hw;simp only[Bool.and_eq_true,decide_eq_true_eq]at hw;obtain⟨haz,hpos⟩:=hw;have hil:i<347:=by have:=congrArg List.length hr;rw[List.length_drop,kg]at this;simp at this;omega
   have hlen:l.length≤24:=by
    have h1:=vX i hil;have h2:Lex.words.drop (i+1)=l++32::r:=by rw[←List.drop_drop,hr];simp
    rw[h2,Cy 32 r (by decide) l (fun c hcm=>by
     have:=haz c hcm
     unfold tC
     rw[decide_eq_true_eq]
     rintro rfl
     unfold az at this
     simp at this)]at h1
    exact h1
   unfold Lex.word;simp only[Bool.and_eq_true,decide_eq_true_eq];refine⟨hpos,hlen,?_,tD l fun c hcm=>?_⟩
   ·cases l with
    |nil=>simp at hpos
    |cons c l=>
     have this:97≤c.toNat∧c.toNat≤122:=haz c (by simp);simp only[Lex.cH,Lex.letter];rw[decide_eq_true this];rfl
   ·have this:97≤c.toNat∧c.toNat≤122:=haz c hcm;unfold Lex.aL Lex.letter;rw[decide_eq_true this];rfl
theorem Ef{l:List UInt8}{c:UInt8}(hc:c∈l)(h:¬az c):Lex.bL l=false:=by
 rw[kW,decide_eq_false (fun ha=>h (ha c hc))];rfl
theorem Fb{l:List UInt8}(h:∀c∈l,az c):Lex.bL l=(decide (0<l.length)&&Lib.contains Lex.words (32::(l++[32]))):=by
 rw[kW,decide_eq_true h,Bool.true_and]
theorem xI(s:ByteArray)(k:Nat)(h:k+(s.size+2)≤347):((⟨#[32,97,99,116,105,111,110,32,97,100,100,32,97,108,108,32,97,110,100,32,97,115,32,97,115,99,32,98,101,103,105,110,32,98,111,111,108,32,98,121,116,101,115,32,99,97,115,99,97,100,101,32,99,104,101,99,107,32,99,111,109,109,105,116,32,99,111,117,110,116,32,99,114,101,97,116,101,32,100,101,99,32,100,101,108,101,116,101,32,100,101,115,99,32,100,114,111,112,32,102,97,108,115,101,32,102,114,111,109,32,103,114,97,110,116,32,103,114,111,117,112,32,98,121,32,105,110,115,101,114,116,32,105,110,116,32,105,110,116,111,32,105,115,32,106,111,105,110,32,107,101,121,32,108,105,109,105,116,32,109,97,120,32,109,105,110,32,110,111,116,32,110,117,108,108,32,111,110,32,111,112,116,105,111,110,32,111,114,32,111,114,100,101,114,32,112,111,108,105,99,121,32,112,114,105,109,97,114,121,32,114,101,102,101,114,101,110,99,101,115,32,114,101,115,116,114,105,99,116,32,114,101,118,111,107,101,32,114,111,108,101,32,114,111,108,108,98,97,99,107,32,115,101,108,101,99,116,32,115,101,116,32,115,117,109,32,116,97,98,108,101,32,116,101,120,116,32,116,111,32,116,114,105,103,103,101,114,32,116,114,117,101,32,117,110,105,113,117,101,32,117,112,100,97,116,101,32,117,115,101,114,32,117,115,105,110,103,32,118,97,108,117,101,115,32,118,105,101,119,32,119,104,101,114,101,32,119,105,116,104,32,97,102,116,101,114,32]⟩:ByteArray).extract k (k+(s.size+2))).toList=((⟨#[32]⟩:ByteArray)++s++⟨#[32]⟩).toList↔Lib.occAt Lex.words (32::(s.data.toList++[32])) k=true:=by
 have e0:(⟨#[32,97,99,116,105,111,110,32,97,100,100,32,97,108,108,32,97,110,100,32,97,115,32,97,115,99,32,98,101,103,105,110,32,98,111,111,108,32,98,121,116,101,115,32,99,97,115,99,97,100,101,32,99,104,101,99,107,32,99,111,109,109,105,116,32,99,111,117,110,116,32,99,114,101,97,116,101,32,100,101,99,32,100,101,108,101,116,101,32,100,101,115,99,32,100,114,111,112,32,102,97,108,115,101,32,102,114,111,109,32,103,114,97,110,116,32,103,114,111,117,112,32,98,121,32,105,110,115,101,114,116,32,105,110,116,32,105,110,116,111,32,105,115,32,106,111,105,110,32,107,101,121,32,108,105,109,105,116,32,109,97,120,32,109,105,110,32,110,111,116,32,110,117,108,108,32,111,110,32,111,112,116,105,111,110,32,111,114,32,111,114,100,101,114,32,112,111,108,105,99,121,32,112,114,105,109,97,114,121,32,114,101,102,101,114,101,110,99,101,115,32,114,101,115,116,114,105,99,116,32,114,101,118,111,107,101,32,114,111,108,101,32,114,111,108,108,98,97,99,107,32,115,101,108,101,99,116,32,115,101,116,32,115,117,109,32,116,97,98,108,101,32,116,101,120,116,32,116,111,32,116,114,105,103,103,101,114,32,116,114,117,101,32,117,110,105,113,117,101,32,117,112,100,97,116,101,32,117,115,101,114,32,117,115,105,110,103,32,118,97,108,117,101,115,32,118,105,101,119,32,119,104,101,114,101,32,119,105,116,104,32,97,102,116,101,114,32]⟩:ByteArray).data.toList=Lex.words:=by kernel_rfl
 have e1:(⟨#[32,97,99,116,105,111,110,32,97,100,100,32,97,108,108,32,97,110,100,32,97,115,32,97,115,99,32,98,101,103,105,110,32,98,111,111,108,32,98,121,116,101,115,32,99,97,115,99,97,100,101,32,99,104,101,99,107,32,99,111,109,109,105,116,32,99,111,117,110,116,32,99,114,101,97,116,101,32,100,101,99,32,100,101,108,101,116,101,32,100,101,115,99,32,100,114,111,112,32,102,97,108,115,101,32,102,114,111,109,32,103,114,97,110,116,32,103,114,111,117,112,32,98,121,32,105,110,115,101,114,116,32,105,110,116,32,105,110,116,111,32,105,115,32,106,111,105,110,32,107,101,121,32,108,105,109,105,116,32,109,97,120,32,109,105,110,32,110,111,116,32,110,117,108,108,32,111,110,32,111,112,116,105,111,110,32,111,114,32,111,114,100,101,114,32,112,111,108,105,99,121,32,112,114,105,109,97,114,121,32,114,101,102,101,114,101,110,99,101,115,32,114,101,115,116,114,105,99,116,32,114,101,118,111,107,101,32,114,111,108,101,32,114,111,108,108,98,97,99,107,32,115,101,108,101,99,116,32,115,101,116,32,115,117,109,32,116,97,98,108,101,32,116,101,120,116,32,116,111,32,116,114,105,103,103,101,114,32,116,114,117,101,32,117,110,105,113,117,101,32,117,112,100,97,116,101,32,117,115,101,114,32,117,115,105,110,103,32,118,97,108,117,101,115,32,118,105,101,119,32,119,104,101,114,101,32,119,105,116,104,32,97,102,116,101,114,32]⟩:ByteArray).size=347:=by kernel_rfl
 obtain⟨W,hW⟩:∃W:ByteArray,W=(⟨#[32,97,99,116,105,111,110,32,97,100,100,32,97,108,108,32,97,110,100,32,97,115,32,97,115,99,32,98,101,103,105,110,32,98,111,111,108,32,98,121,116,101,115,32,99,97,115,99,97,100,101,32,99,104,101,99,107,32,99,111,109,109,105,116,32,99,111,117,110,116,32,99,114,101,97,116,101,32,100,101,99,32,100,101,108,101,116,101,32,100,101,115,99,32,100,114,111,112,32,102,97,108,115,101,32,102,114,111,109,32,103,114,97,110,116,32,103,114,111,117,112,32,98,121,32,105,110,115,101,114,116,32,105,110,116,32,105,110,116,111,32,105,115,32,106,111,105,110,32,107,101,121,32,108,105,109,105,116,32,109,97,120,32,109,105,110,32,110,111,116,32,110,117,108,108,32,111,110,32,111,112,116,105,111,110,32,111,114,32,111,114,100,101,114,32,112,111,108,105,99,121,32,112,114,105,109,97,114,121,32,114,101,102,101,114,101,110,99,101,115,32,114,101,115,116,114,105,99,116,32,114,101,118,111,107,101,32,114,111,108,101,32,114,111,108,108,98,97,99,107,32,115,101,108,101,99,116,32,115,101,116,32,115,117,109,32,116,97,98,108,101,32,116,101,120,116,32,116,111,32,116,114,105,103,103,101,114,32,116,114,117,101,32,117,110,105,113,117,101,32,117,112,100,97,116,101,32,117,115,101,114,32,117,115,105,110,103,32,118,97,108,117,101,115,32,118,105,101,119,32,119,104,101,114,101,32,119,105,116,104,32,97,102,116,101,114,32]⟩:ByteArray):=⟨_,rfl⟩;rw[←hW]at e0 e1⊢;have hl:(32::(s.data.toList++[32])).length=s.size+2:=by rw[List.length_cons,List.length_append,aH];rfl
 rw[Lib.occAt_iff_take _ _ _ (by rw[kg,hl];omega),hl,beq_iff_eq,ByteArray.toList_eq,ByteArray.toList_eq,Ds,extract_eq _ _ _ (by rw[e1];omega),e0,show k+(s.size+2)-k=s.size+2 by omega]
theorem pC(s:ByteArray)(w:World)(hm:s.size≤140737488355328):Calls Tryz.prog 217 #[.s s] w fun e w'=>e=.returned (.bool (Lex.bL s.data.toList))∧w=w':=by
 have HL:=aa (aH s);obtain⟨b,hb⟩:=aab (Lex.bL s.data.toList);rw[←hb];have HB:=aa hb;clear hb;go_enter Tryz.func217,Tryz.ntmps217;go_wp2_with fail
 go_loop [3] (fun i=>∃k:Nat,i=.i (k:Nat)∧k≤s.size∧Hid (∀c∈s.data.toList.take k,az c)) (fun i=>s.size-(intOf i).toNat);case atStart=>exact⟨0,rfl,by omega,fun c hc=>by simp at hc⟩
 case round=>
  obtain⟨k,rfl,hk,HK⟩:=hrel;by_cases hlt:k<s.size
  ·obtain⟨c,hc,hs⟩:=bW hlt;have Nv:(k:Int)<(s.size:Int):=by omega
   have hcl:=c.toNat_lt;by_cases haz:az c
   ·have HN:Hid (∀c∈s.data.toList.take (k+1),az c):=by
     intro d hd;rw[←lP _ k c hc]at hd;rcases List.mem_append.1 hd with h|h
     ·exact HK.o d h
     ·rw[List.mem_singleton.1 h];exact haz
    obtain⟨h1,h2⟩:=haz;have t1:decide ((c.toNat:Int)<97)=false:=by simp;omega
    have t2:decide ((122:Int)<(c.toNat:Int))=false:=by simp;omega
    clear hc h1 h2;go_wp2_with fail
    go_round;case rel=>exact⟨k+1,by go_num,by omega,HN.o⟩
    case measure=>simp[intOf];omega
   ·have HF:Hid (b=false):=HB.o.trans (Ef (List.mem_of_getElem? hc) haz);by_cases h1:c.toNat<97
    ·have t1:decide ((c.toNat:Int)<97)=true:=by simp;omega
     clear hc haz h1;go_wp2_with fail
     go_ret;exact⟨by rw[HF.o];rfl,rfl⟩
    ·have t1:decide ((c.toNat:Int)<97)=false:=by simp;omega
     have t2:decide ((122:Int)<(c.toNat:Int))=true:=by unfold az at haz;simp;omega
     clear hc haz h1;go_wp2_with fail
     go_ret;exact⟨by rw[HF.o];rfl,rfl⟩
  ·obtain rfl:k=s.size:=by omega
   have HA:Hid (b=(decide (0<s.size)&&Lib.contains Lex.words (32::(s.data.toList++[32])))):=by have:=HK.o;rw[List.take_of_length_le (by rw[HL.o];exact Nat.le_refl _)]at this;have h2:=HB.o.trans (Fb this);rw[HL.o]at h2;exact h2
   clear HB HK;go_wp2_with fail
   go_loop [5] (fun i=>∃k:Nat,i=.i (k:Nat)∧k≤347∧Hid (∀j,j<k→Lib.occAt Lex.words (32::(s.data.toList++[32])) j=false)) (fun i=>347-(intOf i).toNat);case atStart=>exact⟨0,rfl,by omega,fun j hj=>absurd hj (by omega)⟩
   case round=>
    obtain⟨k,rfl,hk,HK⟩:=hrel;by_cases hpos:0<s.size
    ·by_cases hroom:k+(s.size+2)≤347
     ·have t1:decide ((0:Int)<(s.size:Int))=true:=by simp;omega
      have t2:decide ((k:Int)+((s.size:Int)+2)≤347)=true:=by simp;omega
      by_cases ho:Lib.occAt Lex.words (32::(s.data.toList++[32])) k=true
      ·have t3:=(xI s k hroom).2 ho;have HF:Hid (b=true):=HA.o.trans (by rw[decide_eq_true hpos,contains_of (by rw[kg];omega) ho];rfl);clear ho;go_wp2_with fail
       go_ret;exact⟨by rw[HF.o];rfl,rfl⟩
      ·have t3:¬(_=_):=fun h=>ho ((xI s k hroom).1 h)
       have t4:=beq_eq_false_iff_ne.2 t3;have HN:Hid (∀j,j<k+1→Lib.occAt Lex.words (32::(s.data.toList++[32])) j=false):=by
        intro j hj;rcases Nat.lt_or_ge j k with h|h
        ·exact HK.o j h
        ·obtain rfl:j=k:=by omega
         simpa using ho
       clear ho;go_wp2_with fail
       go_round;case rel=>exact⟨k+1,by go_num,by omega,HN.o⟩
       case measure=>simp[intOf];omega
     ·have t1:decide ((0:Int)<(s.size:Int))=true:=by simp;omega
      have t2:decide ((k:Int)+((s.size:Int)+2)≤347)=false:=by simp;omega
      have HF:Hid (b=false):=HA.o.trans (by
       rw[lJ,Bool.and_false]
       intro j hj
       rcases Nat.lt_or_ge j k with h|h
       ·exact HK.o j h
       ·cases ho:Lib.occAt Lex.words (32::(s.data.toList++[32])) j with
        |false=>rfl
        |true=>
         rcases Lib.occAt_room ho with h2|h2
         ·rw[kg]at h2
          have:=aH s
          simp at h2
          omega
         ·simp at h2)
      go_wp2_with fail
      go_ret;exact⟨by rw[HF.o];rfl,rfl⟩
    ·have t1:decide ((0:Int)<(s.size:Int))=false:=decide_eq_false (by omega);have HF:Hid (b=false):=HA.o.trans (by rw[decide_eq_false hpos];rfl);go_wp2_with fail
     go_ret;exact⟨by rw[HF.o];rfl,rfl⟩
theorem yU(l:List UInt8)(c:UInt8)(hc:l[0]?=some c)(MO:l.length≤24)(hl:Lex.letter c=true)(hr:Lex.bL l=false):Lex.name l=decide (Lex.span Lex.aL l=l.length):=by
 unfold Lex.name Lex.word;rw[hr];cases l with
 |nil=>cases hc
 |cons d r=>
  have:d=c:=by simpa using hc
  subst this;rw[decide_eq_true (p:=1≤(d::r).length) (by simp),decide_eq_true (p:=(d::r).length≤24) MO];simp[Lex.cH,hl]
theorem iV{l:List UInt8}(h:Lex.word l=false∨Lex.bL l=true):Lex.name l=false:=by
 unfold Lex.name;rcases h with h|h<;>simp[h]
theorem B9{l:List UInt8}{c:UInt8}(hc:l[0]?=some c)(h:Lex.letter c=false):Lex.word l=false:=by
 cases l with
 |nil=>cases hc
 |cons d r=>
  have:d=c:=by simpa using hc
  subst this;unfold Lex.word;simp[Lex.cH,h]
theorem yG(s:ByteArray)(h:s.size=0):s.toList=[]:=by
 rw[ByteArray.toList_eq];exact List.eq_nil_of_length_eq_zero (by rw[aH];exact h)
theorem zA(s:ByteArray)(w:World)(hm:s.size≤140737488355328):Calls Tryz.prog 151 #[.s s] w fun e w'=>e=.returned (.bool (Lex.name s.data.toList))∧w=w':=by
 have HL:=aa (aH s);obtain⟨b,hb⟩:=aab (Lex.name s.data.toList);rw[←hb];have HB:=aa hb;have HM:=aa hm;clear hb;by_cases h0:s.size=0
 ·have HF:Hid (b=false):=HB.o.trans (iV (Or.inl (by unfold Lex.word;rw[decide_eq_false (by rw[HL.o];omega)];rfl)));have t1:=yG s h0;clear h0;go_enter Tryz.func151,Tryz.ntmps151;go_wp2_with fail
  go_ret;exact⟨by rw[HF.o];rfl,rfl⟩
 have t1:s.toList.isEmpty=false:=by
  rw[ByteArray.toList_eq];cases hd:s.data.toList with
  |nil=>have:=HL.o;rw[hd]at this;simp at this;omega
  |cons c l=>rfl
 have Xz:¬s.toList=[]:=by intro h;rw[h]at t1;cases t1
 by_cases MO:24<s.size
 ·have HF:Hid (b=false):=HB.o.trans (iV (Or.inl (by unfold Lex.word;rw[decide_eq_false (p:=s.data.toList.length≤24) (by rw[HL.o];omega)];simp)));have t2:decide ((24:Int)<(s.size:Int))=true:=by simp;omega
  clear h0 MO;go_enter Tryz.func151,Tryz.ntmps151;go_wp2_with fail
  go_ret;exact⟨by rw[HF.o];rfl,rfl⟩
 have t2:decide ((24:Int)<(s.size:Int))=false:=by simp;omega
 have hpos:0<s.size:=by omega
 obtain⟨c,hc,hs⟩:=bW hpos;have hI:(0:Int)<(s.size:Int):=by omega
 have hcl:=c.toNat_lt;have HC:=aa hc;have hsz:s.size≤24:=by omega
 clear hc h0 MO hm;go_enter Tryz.func151,Tryz.ntmps151;go_wp2_with fail
 with_reducible refine(cZ c _).mono ?_
 rintro e w' ⟨rfl,rfl⟩;cases hlet:Lex.letter c with
 |false=>
  have HF:Hid (b=false):=HB.o.trans (iV (Or.inl (B9 HC.o hlet)));clear hlet;go_wp2_with fail
  go_ret;exact⟨by rw[HF.o];rfl,rfl⟩
 |true=>
  have Nh:=aa hlet;clear hlet;go_wp2_with fail
  with_reducible refine(pC s _ HM.o).mono ?_
  rintro e w' ⟨rfl,rfl⟩;cases hres:Lex.bL s.data.toList with
  |true=>
   have HF:Hid (b=false):=HB.o.trans (iV (Or.inr hres));clear hres;go_wp2_with fail
   go_ret;exact⟨by rw[HF.o];rfl,rfl⟩
  |false=>
   have HN:=aa (HB.o.trans (yU _ c HC.o (by rw[HL.o];exact hsz) Nh.o hres));clear hres HB;go_wp2_with fail
   go_loop [3] (fun i=>∃k:Nat,i=.i (k:Nat)∧1≤k∧k≤s.size∧Hid (∀j d,j<k→s.data.toList[j]?=some d→Lex.aL d=true)) (fun i=>s.size-(intOf i).toNat);case atStart=>
    refine⟨1,rfl,by omega,by omega,fun j d hj hd=>?_⟩;obtain rfl:j=0:=by omega
    rw[HC.o]at hd;injection hd with hd
    rw[←hd];unfold Lex.aL;rw[Nh.o];rfl
   case round=>
    obtain⟨k,rfl,hk1,hk,HK⟩:=hrel;by_cases hlt:k<s.size
    ·obtain⟨d,hd,hsd⟩:=bW hlt;have Nv:(k:Int)<(s.size:Int):=by omega
     have hdl:=d.toNat_lt;have HD:=aa hd;clear hd;have next:Lex.aL d=true→∀j x,j<k+1→s.data.toList[j]?=some x→Lex.aL x=true:=by
      intro h j x hj hx;rcases Nat.lt_or_ge j k with h2|h2
      ·exact HK.o j x h2 hx
      ·obtain rfl:j=k:=by omega
       rw[HD.o]at hx;injection hx with hx
       rw[←hx];exact h
     have XA:=aa next
     clear next
     go_wp2_with fail
     with_reducible refine(cZ d _).mono ?_
     rintro e w' ⟨rfl,rfl⟩;cases hl2:Lex.letter d with
     |true=>
      have HW:Hid (Lex.aL d=true):=by unfold Lex.aL;rw[hl2];rfl
      clear hl2;go_wp2_with fail
      go_round;case rel=>exact⟨k+1,by go_num,by omega,by omega,XA.o HW.o⟩
      case measure=>simp[intOf];omega
     |false=>
      have HL2:=aa hl2;clear hl2;go_wp2_with fail
      with_reducible refine(cg d _).mono ?_
      rintro e w' ⟨rfl,rfl⟩;cases hd2:Lex.digit d with
      |true=>
       have HW:Hid (Lex.aL d=true):=by show Lex.aL d=true;unfold Lex.aL;rw[hd2];simp
       clear hd2;go_wp2_with fail
       go_round;case rel=>exact⟨k+1,by go_num,by omega,by omega,XA.o HW.o⟩
       case measure=>simp[intOf];omega
      |false=>
       have HF:Hid (b=false):=HN.o.trans (decide_eq_false (by
        intro h
        have:=qx _ h d (List.mem_of_getElem? HD.o)
        unfold Lex.aL at this
        rw[HL2.o,hd2]at this
        cases this))
       clear hd2;go_wp2_with fail
       go_ret;exact⟨by rw[HF.o];rfl,rfl⟩
    ·obtain rfl:k=s.size:=by omega
     have HF:Hid (b=true):=HN.o.trans (decide_eq_true (tD _ fun d hd=>by
      obtain⟨j,hj⟩:=List.getElem?_of_mem hd
      exact HK.o j d (by have:=(List.getElem?_eq_some_iff.1 hj).1;rw[HL.o]at this;exact this) hj))
     go_wp2_with fail
     go_ret;exact⟨by rw[HF.o];rfl,rfl⟩
end
theorem RS.tok{C:RC}{st:I.St}{w:World}(h:RS C st w){t:Lex.Tok}{r:List Lex.Tok}(hr:st.r=t::r):t∈C.ts∧t.2.1.length≤4096∧(t.1=2→Lex.jt t.2.1)∧(t.1=1→Lex.word t.2.1=true)∧(t.1=5→Lex.cH t.2.1=false):=by
 obtain⟨⟨k,hB,hk,h1,h2⟩,_,_,h5⟩:=h;have he:st.e=0:=by
  by_cases he:st.e=0
  ·exact he
  ·rw[h2 he]at hr;cases hr
 have hm:t∈C.ts:=by have:=h1 he;rw[hr]at this;exact List.mem_of_mem_drop (i:=k) (by rw[←this];exact List.mem_cons_self)
 have:=C.ok.str t hm;have:=C.small;exact⟨hm,by omega,C.ok.num t hm,h5 t hm⟩
theorem RS.rO{C:RC}{st:I.St}{w:World}(h:RS C st w):(I.name C.text.size st).1.length≤4096:=by
 unfold I.name;cases hr:st.r with
 |nil=>exact Nat.zero_le _
 |cons t r=>
  simp only;split
  ·exact(h.tok hr).2.1
  ·exact Nat.zero_le _
theorem zW(C:RC)(st:I.St)(w:World)(h:RS C st w):
 Calls Tryz.prog 69 #[.p C.g] w fun e w'=>e=.returned (.s (I.bs (I.name C.text.size st).1))∧RS C (I.name C.text.size st).2 w'∧Ch C.g w.heap.size w w':=by
 have F0:=aa (Fr.start h.lt h.aJ);have HP:=aa h;clear h;go_enter Tryz.func69,Tryz.ntmps69;go_wp2_with fail
 with_reducible refine(gZ F0.o).mono ?_
 rintro e w1 ⟨t,hT,rfl,(F1:Hid _)⟩;have HT:=aa hT;clear hT;obtain⟨tk,ts,ta⟩:=t;unfold gd;simp only;obtain⟨w2,hw⟩:=aab (w1.alloc (.cells #[.u (tk.toNat:Int),.s ⟨ts.toArray⟩,.i (ta:Int)] 113));have F2:=aa (F1.o.new 113 #[.u (tk.toNat:Int),.s ⟨ts.toArray⟩,.i (ta:Int)]);obtain⟨g2,hg⟩:=aab w1.heap.size;rw[←hw,←hg]at F2;go_upto_region 2 with fail
 rw[←hw,←hg];clear hw hg;obtain⟨c0,c1⟩:=F2.o.ab.Y2;simp at c0 c1;by_cases hk:tk=1
 ·subst hk;have hne:st.r≠[]:=by
   intro e;have:=HT.o;unfold I.dV at this;rw[e]at this;simp only at this;injection this with e1 _
   exact absurd e1 (by decide)
  obtain⟨r,hr⟩:∃r,st.r=(1,ts,ta)::r:=by
   have:=HT.o;unfold I.dV at this;cases hq:st.r with
   |nil=>exact absurd hq hne
   |cons a r=>rw[hq]at this;simp only at this;exact⟨r,by rw[this]⟩
  have hok:=HP.o.tok hr;have hnm:Lex.name ts=!Lex.bL ts:=by unfold Lex.name;rw[hok.2.2.2.1 rfl];rfl
  have hz:(⟨ts.toArray⟩:ByteArray).size≤140737488355328:=by
   have h1:=aH (⟨ts.toArray⟩:ByteArray);have h2:(⟨ts.toArray⟩:ByteArray).data.toList=ts:=by simp
   rw[h2]at h1;have h3:=hok.2.1;simp only at h3;omega
  have YT:=aa hnm;have UG:Hid (I.name C.text.size st=if(!Lex.bL ts)=true then(ts,I.next st)else([],I.fail C.text.size 300 st)):=by show _=_;unfold I.name I.named;rw[hr];simp
  have Nf:=aa hne;have t1:(((1:UInt8).toNat:Int) !=1)=false:=by decide
  have HZ:=aa hz;clear hok hnm hr hne hz;go_wp2_with fail
  with_reducible refine(zA ⟨ts.toArray⟩ _ HZ.o).mono ?_
  rintro e w3 ⟨rfl,rfl⟩;rw[show(⟨ts.toArray⟩:ByteArray).data.toList=ts by simp,YT.o];cases hres:Lex.bL ts with
  |false=>
   have Ou:Hid (I.name C.text.size st=(ts,I.next st)):=by show _=_;rw[UG.o,hres];rfl
   clear hres;obtain⟨k,hk,hzk,hkl⟩:=F2.o.q.cell;have hb1:=(F2.o.own _ List.mem_cons_self).1;have hb2:=F2.o.lt;simp only at hb1;have n1:¬C.g=g2:=by omega
   have n2:¬g2=C.g:=by omega
   clear hb1 hb2;go_wp2_with fail
   go_ret;exact⟨by rw[Ou.o];rfl,by rw[Ou.o];exact F2.o.q.next Nf.o hk,F2.o.ch.set (p:=⟨C.g,1,none⟩) (.inl rfl) _⟩
  |true=>
   have Ou:Hid (I.name C.text.size st=([],I.fail C.text.size 300 st)):=by show _=_;rw[UG.o,hres];rfl
   clear hres;go_wp2_with fail
   with_reducible refine(dh F2.o).mono ?_
   rintro e w4 ⟨s4,(E4:Hid _),rfl,(F4:Hid _)⟩;go_wp2_with fail
   go_ret;exact⟨by rw[Ou.o];rfl,by rw[Ou.o,E4.o];exact F4.o.q,F4.o.ch⟩
 ·have Ou:Hid (I.name C.text.size st=([],I.fail C.text.size 300 st)):=by
   show _=_;have h1:=HT.o;unfold I.dV at h1;unfold I.name I.named;cases hq:st.r with
   |nil=>rfl
   |cons a r=>
    rw[hq]at h1;simp only at h1;subst h1;simp[hk]
  have t1:((tk.toNat:Int) !=1)=true:=iz (b:=1) hk;clear hk;go_wp2_with fail
  with_reducible refine(dh F2.o).mono ?_
  rintro e w4 ⟨s4,(E4:Hid _),rfl,(F4:Hid _)⟩;go_wp2_with fail
  go_ret;exact⟨by rw[Ou.o];rfl,by rw[Ou.o,E4.o];exact F4.o.q,F4.o.ch⟩
theorem uv(C:RC)(n most:Nat)(st:I.St)(w:World)(h:RS C st w):
 Calls Tryz.prog 152 #[.p C.g,.i (n:Int),.i (most:Int)] w fun e w'=>e=.returned (.tuple #[])∧RS C (I.bM C.text.size n most st) w'∧Ch C.g w.heap.size w w':=by
 have HP:=aa h;obtain⟨⟨k,hB,hk,hr,hr2⟩,_,_⟩:=h;obtain⟨x0,x1⟩:=hB.Y2;simp at x0 x1;have Hr:=aa hr;have Vy:=aa hr2;clear hB hr hr2;by_cases hm:most≤n
 ·have t0:decide ((most:Int)≤(n:Int))=true:=decide_eq_true (by omega);have t0':decide (most≤n)=true:=decide_eq_true hm;by_cases hlt:k<C.ts.length
  ·have t1:decide ((k:Int)<(C.ts.length:Int))=true:=decide_eq_true (by omega);have t1':decide (k<C.ts.length)=true:=decide_eq_true hlt;have SG:Hid (st.e=0→I.bM C.text.size n most st=I.fail C.text.size 3 st):=fun he=>by
    unfold I.bM
    rw[if_pos ⟨hm,by rw[Hr.o he];simp;omega⟩]
   have NC:Hid (st.e≠0→I.bM C.text.size n most st=st):=fun he=>by
    unfold I.bM
    rw[if_neg (by rintro⟨_,h⟩;exact h (Vy.o he))]
   clear hm hlt;go_enter Tryz.func152,Tryz.ntmps152;go_wp2_with fail
   go_quiet (fail);go_wp2_with fail
   with_reducible refine(ma C st _ (HP.o.aJ.mv (w':=w.drewN _) fun _ _=>rfl).at).mono ?_
   rintro e w1 ⟨⟨x,rfl,hx⟩,hb⟩;have HX:=aa hx;have KL:=aa (RS.below (w:=w.drewN _) (HP.o.aJ.mv fun _ _=>rfl).at hb);have KJ:=aa ((((Ch.refl C.g w.heap.size w).drew _).below hb (Nat.le_refl _)));clear hx hb;go_wp2_with fail
   with_reducible refine(mC C 3 x (by decide) st (I.bM C.text.size n most st) _ KL.o (fun he=>by rw[SG.o he];unfold I.fail;rw[if_pos he,HX.o he]) (fun he=>NC.o he) 3 rfl).mono ?_
   rintro e w2 ⟨rfl,hp,hc⟩;have Ld:=aa hp;have Ms:=aa (KJ.o.trans hc KJ.o.size);clear hp hc;go_wp2_with fail
   go_end0;exact⟨rfl,Ld.o,Ms.o⟩
  ·have t1:decide ((k:Int)<(C.ts.length:Int))=false:=decide_eq_false (by omega);have t1':decide (k<C.ts.length)=false:=decide_eq_false hlt;have SG:Hid (I.bM C.text.size n most st=st):=by
    show _=_;unfold I.bM;rw[if_neg];rintro⟨_,h⟩;by_cases he:st.e=0
    ·exact h (by rw[Hr.o he];exact List.drop_of_length_le (by omega))
    ·exact h (Vy.o he)
   clear hm hlt;go_enter Tryz.func152,Tryz.ntmps152;go_wp2_with fail
   go_quiet (fail);go_wp2_with fail
   go_end0;exact⟨rfl,by rw[SG.o];exact(HP.o.aJ.mv fun _ _=>rfl).at,(Ch.refl _ _ _).drew _⟩
 ·have t0:decide ((most:Int)≤(n:Int))=false:=decide_eq_false (by omega);have t0':decide (most≤n)=false:=decide_eq_false hm;have SG:Hid (I.bM C.text.size n most st=st):=by show _=_;unfold I.bM;rw[if_neg (fun h=>hm h.1)]
  clear hm;go_enter Tryz.func152,Tryz.ntmps152;go_wp2_with fail
  go_quiet (fail);go_wp2_with fail
  go_end0;exact⟨rfl,by rw[SG.o];exact(HP.o.aJ.mv fun _ _=>rfl).at,(Ch.refl _ _ _).drew _⟩
theorem DX(C:RC)(n most:Nat)(x y:Int)(hx:x=(n:Int))(hy:y=(most:Int))(st:I.St)(w:World)(h:RS C st w):
 Calls Tryz.prog 71 #[.p C.g,.i x,.i y] w fun e w'=>e=.returned (.bool (I.eV C.text.size n most st).1)∧RS C (I.eV C.text.size n most st).2 w'∧Ch C.g w.heap.size w w':=by
 subst hx hy;have F0:=aa (Fr.start h.lt h.aJ);clear h;go_enter Tryz.func71,Tryz.ntmps71;go_wp2_with fail
 with_reducible refine(aG ⟨#[44]⟩ [44] rfl F0.o).mono ?_
 rintro e w1 ⟨b,hb,rfl,hF⟩;cases b with
 |true=>
  have F1:Hid (Fr C.g w _ _ (RS C (I.next st)) w1):=hF;have HM:Hid (I.eV C.text.size n most st=(decide ((I.bM C.text.size n most (I.next st)).e=0),I.bM C.text.size n most (I.next st))):=by show _=_;unfold I.eV;rw[if_pos hb]
  clear hF hb;go_wp2_with fail
  with_reducible refine(uv C n most (I.next st) _ F1.o.q).mono ?_
  rintro e w2 ⟨rfl,hp,hc⟩;have F2:=aa (F1.o.call hp.aJ hc);clear hp hc;obtain⟨s2,hs2⟩:=aab (I.bM C.text.size n most (I.next st));rw[←hs2]at HM F2;clear hs2;obtain⟨⟨k,hB,_,_,_⟩,_⟩:=F2.o.q;have x3:=hB.cell 3;simp at x3;clear hB;by_cases he:s2.e=0
  ·have t1:((s2.e:Int)==0)=true:=by simp[he]
   have W9:Hid (I.eV C.text.size n most st=(true,s2)):=by show _=_;rw[HM.o,decide_eq_true he]
   clear he;go_wp2_with fail
   go_ret;exact⟨by rw[W9.o]<;>rfl,by rw[W9.o];exact F2.o.q,F2.o.ch⟩
  ·have t1:((s2.e:Int)==0)=false:=by simp[he]
   have W9:Hid (I.eV C.text.size n most st=(false,s2)):=by show _=_;rw[HM.o,decide_eq_false he]
   clear he;go_wp2_with fail
   go_ret;exact⟨by rw[W9.o]<;>rfl,by rw[W9.o];exact F2.o.q,F2.o.ch⟩
 |false=>
  have F1:Hid (Fr C.g w _ _ (RS C st) w1):=hF;have HM:Hid (I.eV C.text.size n most st=(false,st)):=by show _=_;unfold I.eV;rw[if_neg (by rw[hb];decide)]
  clear hF hb;go_wp2_with fail
  go_ret;exact⟨by rw[HM.o]<;>rfl,by rw[HM.o];exact F1.o.q,F1.o.ch⟩
def I.et(s:I.Bs):UInt8:=if s=[61]then 7 else if s=[60,62]then 8 else if s=[60]then 9 else if s=[60,61]then 10 else if s=[62]then 11 else if s=[62,61]then 12 else 0
theorem yl(s:ByteArray)(w:World):Calls Tryz.prog 260 #[.s s] w fun e w'=>e=.returned (.u ((I.et s.data.toList).toNat:Int))∧w=w':=by
 have HL:=aa (Lib.toList_data s);obtain⟨l,hl⟩:=aab s.toList;have HZ:Hid (I.et s.data.toList=I.et l):=by show _=_;rw[hl,HL.o]
 by_cases h0:l=[61]
 ·have t0:(s.toList==[61])=true:=by rw[←hl,h0];decide
  have HV:Hid (I.et l=7):=by show _=_;unfold I.et;rw[if_pos h0]
  clear hl h0;go_enter Tryz.func260,Tryz.ntmps260;go_wp2_with fail
  go_ret;exact⟨by rw[HZ.o,HV.o];rfl,rfl⟩
 ·have t0:(s.toList==[61])=false:=by rw[←hl];simpa using h0
  by_cases h1:l=[60,62]
  ·have t1:(s.toList==[60,62])=true:=by rw[←hl,h1];decide
   have HV:Hid (I.et l=8):=by show _=_;unfold I.et;rw[if_neg h0,if_pos h1]
   clear hl h0 h1;go_enter Tryz.func260,Tryz.ntmps260;go_wp2_with fail
   go_ret;exact⟨by rw[HZ.o,HV.o];rfl,rfl⟩
  ·have t1:(s.toList==[60,62])=false:=by rw[←hl];simpa using h1
   by_cases h2:l=[60]
   ·have t2:(s.toList==[60])=true:=by rw[←hl,h2];decide
    have HV:Hid (I.et l=9):=by show _=_;unfold I.et;rw[if_neg h0,if_neg h1,if_pos h2]
    clear hl h0 h1 h2;go_enter Tryz.func260,Tryz.ntmps260;go_wp2_with fail
    go_ret;exact⟨by rw[HZ.o,HV.o];rfl,rfl⟩
   ·have t2:(s.toList==[60])=false:=by rw[←hl];simpa using h2
    by_cases h3:l=[60,61]
    ·have t3:(s.toList==[60,61])=true:=by rw[←hl,h3];decide
     have HV:Hid (I.et l=10):=by show _=_;unfold I.et;rw[if_neg h0,if_neg h1,if_neg h2,if_pos h3]
     clear hl h0 h1 h2 h3;go_enter Tryz.func260,Tryz.ntmps260;go_wp2_with fail
     go_ret;exact⟨by rw[HZ.o,HV.o];rfl,rfl⟩
    ·have t3:(s.toList==[60,61])=false:=by rw[←hl];simpa using h3
     by_cases h4:l=[62]
     ·have t4:(s.toList==[62])=true:=by rw[←hl,h4];decide
      have HV:Hid (I.et l=11):=by show _=_;unfold I.et;rw[if_neg h0,if_neg h1,if_neg h2,if_neg h3,if_pos h4]
      clear hl h0 h1 h2 h3 h4;go_enter Tryz.func260,Tryz.ntmps260;go_wp2_with fail
      go_ret;exact⟨by rw[HZ.o,HV.o];rfl,rfl⟩
     ·have t4:(s.toList==[62])=false:=by rw[←hl];simpa using h4
      by_cases h5:l=[62,61]
      ·have t5:(s.toList==[62,61])=true:=by rw[←hl,h5];decide
       have HV:Hid (I.et l=12):=by show _=_;unfold I.et;rw[if_neg h0,if_neg h1,if_neg h2,if_neg h3,if_neg h4,if_pos h5]
       clear hl h0 h1 h2 h3 h4 h5;go_enter Tryz.func260,Tryz.ntmps260;go_wp2_with fail
       go_ret;exact⟨by rw[HZ.o,HV.o];rfl,rfl⟩
      ·have t5:(s.toList==[62,61])=false:=by rw[←hl];simpa using h5
       have HV:Hid (I.et l=0):=by show _=_;unfold I.et;rw[if_neg h0,if_neg h1,if_neg h2,if_neg h3,if_neg h4,if_neg h5]
       clear hl h0 h1 h2 h3 h4 h5;go_enter Tryz.func260,Tryz.ntmps260;go_wp2_with fail
       go_ret;exact⟨by rw[HZ.o,HV.o];rfl,rfl⟩
def I.fe(s:I.Bs):UInt8:=if s=[115,117,109]then 18 else if s=[109,105,110]then 19 else if s=[109,97,120]then 20 else 0
theorem kM(s:ByteArray)(w:World):Calls Tryz.prog 288 #[.s s] w fun e w'=>e=.returned (.u ((I.fe s.data.toList).toNat:Int))∧w=w':=by
 have HL:=aa (Lib.toList_data s);obtain⟨l,hl⟩:=aab s.toList;have HZ:Hid (I.fe s.data.toList=I.fe l):=by show _=_;rw[hl,HL.o]
 by_cases h0:l=[115,117,109]
 ·have t0:(s.toList==[115,117,109])=true:=by rw[←hl,h0];decide
  have HV:Hid (I.fe l=18):=by show _=_;unfold I.fe;rw[if_pos h0]
  clear hl h0;go_enter Tryz.func288,Tryz.ntmps288;go_wp2_with fail
  go_ret;exact⟨by rw[HZ.o,HV.o];rfl,rfl⟩
 ·have t0:(s.toList==[115,117,109])=false:=by rw[←hl];simpa using h0
  by_cases h1:l=[109,105,110]
  ·have t1:(s.toList==[109,105,110])=true:=by rw[←hl,h1];decide
   have HV:Hid (I.fe l=19):=by show _=_;unfold I.fe;rw[if_neg h0,if_pos h1]
   clear hl h0 h1;go_enter Tryz.func288,Tryz.ntmps288;go_wp2_with fail
   go_ret;exact⟨by rw[HZ.o,HV.o];rfl,rfl⟩
  ·have t1:(s.toList==[109,105,110])=false:=by rw[←hl];simpa using h1
   by_cases h2:l=[109,97,120]
   ·have t2:(s.toList==[109,97,120])=true:=by rw[←hl,h2];decide
    have HV:Hid (I.fe l=20):=by show _=_;unfold I.fe;rw[if_neg h0,if_neg h1,if_pos h2]
    clear hl h0 h1 h2;go_enter Tryz.func288,Tryz.ntmps288;go_wp2_with fail
    go_ret;exact⟨by rw[HZ.o,HV.o];rfl,rfl⟩
   ·have t2:(s.toList==[109,97,120])=false:=by rw[←hl];simpa using h2
    have HV:Hid (I.fe l=0):=by show _=_;unfold I.fe;rw[if_neg h0,if_neg h1,if_neg h2]
    clear hl h0 h1 h2;go_enter Tryz.func288,Tryz.ntmps288;go_wp2_with fail
    go_ret;exact⟨by rw[HZ.o,HV.o];rfl,rfl⟩
end Go.Proofs.YtnicfobpclehkaaGreatDoor
