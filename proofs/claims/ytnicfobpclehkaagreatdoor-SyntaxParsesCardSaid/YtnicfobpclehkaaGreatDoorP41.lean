import Derived.Deep.CutBlock
import Derived.Test.YtnicfobpclehkaaGreatDoorP40
set_option maxHeartbeats 12800000
set_option linter.unusedVariables false
set_option linter.unusedSimpArgs false
namespace Go.Proofs.YtnicfobpclehkaaGreatDoor
open Go.RowKit
section
set_option maxRecDepth 100000
def SP(w:World)(at_:Nat)(o:Option (UInt8×List UInt8×Nat))(e:Ending)(w':World):Prop:=
 match o with
 |none=>∃s n,e=.returned (.tuple #[.s s,.i n,.f])∧Below w.heap.size w w'
 |some (_,s,n)=>e=.returned (.tuple #[.s ⟨s.toArray⟩,.i ((at_+n:Nat):Int),.bool true])∧Below w.heap.size w w'
theorem SP.no{w w':World}{at_:Nat}{o:Option (UInt8×List UInt8×Nat)}{s:ByteArray}{n:Int}(h:o=none)(hb:Below w.heap.size w w'):SP w at_ o (.returned (.tuple #[.s s,.i n,.f])) w':=by
 subst h;exact⟨_,_,rfl,hb⟩
theorem SP.yes{w w':World}{at_:Nat}{o:Option (UInt8×List UInt8×Nat)}{k:UInt8}{s:List UInt8}{n:Nat}{t:ByteArray}{m:Int}(h:o=some (k,s,n))(ht:t=⟨s.toArray⟩)(hm:m=((at_+n:Nat):Int))(hb:Below w.heap.size w w'):SP w at_ o (.returned (.tuple #[.s t,.i m,.bool true])) w':=by
 subst h ht hm;exact⟨rfl,hb⟩
def QS(w:World)(l:List UInt8)(at_ k:Nat)(acc:List UInt8)(v:Value)(wr:World):Prop:=
 k≤l.length∧acc.length≤k∧Lex.quote (l.drop (at_+1))=(Lex.quote (l.drop k)).map (fun p=>(acc++p.1,p.2))∧wr.ownsRow w.heap.size 5 1 v acc.length (acc.map B8)∧Below w.heap.size w wr∧w.heap.size≤wr.heap.size
theorem tE(text:ByteArray)(at_:Nat)(w:World)(hm:text.size≤1099511627776)(hat:at_<text.size):
 Calls Tryz.prog 145 #[.s text,.i (at_:Int)] w (SP w at_ (Lex.dS (text.data.toList.drop at_))):=by
 have HL:=aa (aH text);obtain⟨o,ho⟩:=aab (Lex.dS (text.data.toList.drop at_));have HO:=aa ho;rw[←ho];clear ho;go_enter Tryz.func145,Tryz.ntmps145;go_wp2_with fail
 go_loopg [7,1] (text.size-(at_+1)) (fun g v i wr=>∃(k:Nat) (acc:List UInt8),i=.i (k:Nat)∧g=text.size-k∧at_<k∧QS w text.data.toList at_ k acc v wr);case atStart=>exact⟨at_+1,[],by go_num,rfl,by omega,by rw[HL.o];omega,by simp,by simp,fI _ _ _ _,Below.refl _ _,Nat.le_refl _⟩
 case round=>
  obtain⟨k,acc,rfl,rfl,hak,hk,hacc,hq,hown,hbel,hsz⟩:=hrel;rw[HL.o]at hk;have HQ:=aa hq;have MH:=aa hown;have HB:=aa hbel;clear hq hown hbel;by_cases hlt:k<text.size
  ·obtain⟨c,hc,hs⟩:=bW hlt;have HC:=aa (drop_at hc);have hcl:=c.toNat_lt;have Nv:(k:Int)<(text.size:Int):=by omega
   clear hc;by_cases Lr:c.toNat=39
   ·have RD:((c.toNat:Int)==39)=true:=by simp;omega
    obtain⟨b1,hb1⟩:=aab (Lex.aZ text.data.toList (k+1) 39);have H1:=aa hb1;clear hb1;go_wp2_with fail
    with_reducible refine(fN text _ (k+1) _ (by omega)).mono ?_
    rintro e w' ⟨rfl,rfl⟩;obtain⟨a,ha⟩:=aab (MS text.data.toList (k+1));have qa:=mN text.data.toList (k+1) 39 (by decide) 39 rfl;rw[←ha,←H1.o]at qa;rw[←ha];clear ha;cases b1 with
    |false=>
     have HE:Hid (Lex.quote (text.data.toList.drop (at_+1))=some (acc,text.data.toList.drop (k+1))):=by show _=_;rw[HQ.o,HC.o,oJ Lr (by rw[Lex.bX];exact H1.o.symm)];simp
     have HT:=aa (HO.o.trans (mZ (by rw[HL.o];omega) HE.o));obtain⟨A1,c1,rfl,-,-,-⟩:=fO MH.o;have ec:=(Rb.own MH.o).je (P:=Tryz.prog) 101 5 9 c1 Tryz.underlying101 Tryz.underlying5 Tryz.underlying9;by_cases MA:acc.length≤200
     ·have HF:=aa (HT.o.trans (if_pos MA));have t2:decide ((acc.length:Int)≤200)=true:=by simp;omega
      clear Lr MA;go_wp2_with fail
      exact bodyPost_ret (v:=.tuple #[.s ⟨acc.toArray⟩,.i ((k:Int)+1),.bool true]) (by simp[results,Tryz.results145,go_sem]) rfl (SP.yes HF.o rfl (by omega) HB.o)
     ·have HF:=aa (HT.o.trans (if_neg MA));have t2:decide ((acc.length:Int)≤200)=false:=by simp;omega
      clear Lr MA;go_wp2_with fail
      exact bodyPost_ret (v:=.tuple #[.s ⟨acc.toArray⟩,.i ((k:Int)+1),.f]) (by simp[results,Tryz.results145,go_sem]) rfl (SP.no HF.o HB.o)
    |true=>
     have h1:=H1.o.symm;unfold Lex.aZ at h1;rw[decide_eq_true_eq]at h1;have hk2:k+1<text.size:=by have:=(List.getElem?_eq_some_iff.1 h1).1;rw[HL.o]at this;exact this
     have HN:Hid (Lex.quote (text.data.toList.drop (at_+1))=(Lex.quote (text.data.toList.drop (k+2))).map (fun p=>((acc++[39])++p.1,p.2))):=by show _=_;rw[HQ.o,HC.o,drop_at h1,qf Lr rfl,Option.map_map];congr 1;funext p;simp
     clear Lr h1;go_wp2_with (at_builtin;refine fQ bt rfl (.tmp 38) (.tmp 39) rfl w.heap.size _ acc.length acc rfl MH.o _ 1 1 [39] rfl rfl rfl rfl (by omega) hsz ?_;intro v3 w3 hown3 hb3 _;have Lb:=aa hown3;have HB3:=aa hb3;clear hown3 hb3)
     go_roundg (text.size-(k+2));case measure=>omega
     case rel=>
      have hz3:=HB3.o.size;refine⟨(k+2),acc++[39],by go_num,rfl,by omega,by rw[HL.o];omega,by simp;omega,?_,?_,HB.o.trans (HB3.o.mono (by omega)),by omega⟩
      ·exact HN.o
      ·rw[List.length_append];exact Lb.o
   ·have RD:((c.toNat:Int)==39)=false:=by simp;omega
    have HN:Hid (Lex.quote (text.data.toList.drop (at_+1))=(Lex.quote (text.data.toList.drop (k+1))).map (fun p=>((acc++[c])++p.1,p.2))):=by show _=_;rw[HQ.o,HC.o,nb Lr,Option.map_map];congr 1;funext p;simp
    clear Lr;go_wp2_with (at_builtin;refine fQ bt rfl (.tmp 20) (.tmp 24) rfl w.heap.size _ acc.length acc rfl MH.o _ 1 1 [c] rfl rfl rfl rfl (by omega) hsz ?_;intro v3 w3 hown3 hb3 _;have Lb:=aa hown3;have HB3:=aa hb3;clear hown3 hb3)
    go_roundg (text.size-(k+1));case measure=>omega
    case rel=>
     have hz3:=HB3.o.size;refine⟨(k+1),acc++[c],by go_num,rfl,by omega,by rw[HL.o];omega,by simp;omega,?_,?_,HB.o.trans (HB3.o.mono (by omega)),by omega⟩
     ·exact HN.o
     ·rw[List.length_append];exact Lb.o
  ·have HF:Hid (o=none):=by refine HO.o.trans (mJ ?_);rw[HQ.o,List.drop_of_length_le (by rw[HL.o];omega)];rfl
   have Nv:¬(k:Int)<(text.size:Int):=by omega
   go_wp2_with fail
   exact bodyPost_ret (v:=.tuple #[.e,.o,.f]) (by simp[results,Tryz.results145,go_sem]) rfl (SP.no HF.o HB.o)
theorem wt{c:UInt8}{r:List UInt8}(h:c.toNat=39):Lex.cT (c::r)=some ([],r):=by
 cases r with
 |nil=>simp[Lex.cT,h]
 |cons d r=>simp only[Lex.cT];rw[if_pos h]
theorem qn{c:UInt8}{l:List UInt8}{k:Nat}(h:c.toNat≠39)(hx:¬(Lex.hex c=true∧Lex.hex (MS l k)=true)):Lex.cT (c::l.drop k)=none:=by
 cases hd:l.drop k with
 |nil=>simp[Lex.cT,h]
 |cons d r=>
  have:MS l k=d:=by
   unfold MS;have:l[k]?=(l.drop k)[0]?:=by simp
   rw[this,hd];rfl
  rw[this]at hx;simp only[Lex.cT];rw[if_neg h,if_neg hx]
theorem uK{c:UInt8}{l:List UInt8}{k:Nat}(h:c.toNat≠39)(h1:Lex.hex c=true)(h2:Lex.hex (MS l k)=true):k<l.length∧Lex.cT (c::l.drop k)=(Lex.cT (l.drop (k+1))).map (fun p=>(Lex.pair c (MS l k)::p.1,p.2)):=by
 cases hk:l[k]? with
 |none=>
  unfold MS at h2;rw[hk]at h2;exact absurd h2 (by decide)
 |some d=>
  have:MS l k=d:=by unfold MS;rw[hk];rfl
  rw[this]at h2⊢;refine⟨(List.getElem?_eq_some_iff.1 hk).1,?_⟩;rw[drop_at hk];simp only[Lex.cT];rw[if_neg h,if_pos ⟨h1,h2⟩]
theorem uk{l:List UInt8}{at_ k:Nat}{acc:List UInt8}(hk:k≤l.length)(h:Lex.cT (l.drop (at_+2))=some (acc,l.drop k)):Lex.dD (l.drop at_)=if acc.length≤200 then some (4,acc,k-at_)else none:=by
 unfold Lex.dD;rw[List.drop_drop,h];simp only[List.length_drop];rw[show l.length-at_-(l.length-k)=k-at_ by omega]
theorem jA{l:List UInt8}{at_:Nat}(h:Lex.cT (l.drop (at_+2))=none):Lex.dD (l.drop at_)=none:=by
 unfold Lex.dD;rw[List.drop_drop,h]
def RfPS(w:World)(l:List UInt8)(at_ k:Nat)(acc:List UInt8)(v:Value)(wr:World):Prop:=
 acc.length≤k∧Lex.cT (l.drop (at_+2))=(Lex.cT (l.drop k)).map (fun p=>(acc++p.1,p.2))∧wr.ownsRow w.heap.size 5 1 v acc.length (acc.map B8)∧Below w.heap.size w wr∧w.heap.size≤wr.heap.size
theorem nC{c:UInt8}(h:Lex.hex c=true):mr c=Lex.df c:=by unfold mr;rw[if_pos h]
theorem uV(text:ByteArray)(i0:Int)(at_:Nat)(w:World)(hi0:i0=(at_:Int)+1)(hm:text.size≤1099511627776)(hat:at_+1<text.size):
 Calls Tryz.prog 142 #[.s text,.i i0] w (SP w at_ (Lex.dD (text.data.toList.drop at_))):=by
 subst hi0;have HL:=aa (aH text);obtain⟨o,ho⟩:=aab (Lex.dD (text.data.toList.drop at_));have HO:=aa ho;rw[←ho];clear ho;go_enter Tryz.func142,Tryz.ntmps142;go_wp2_with fail
 go_loopg [7,1] (text.size+1-(at_+2)) (fun g v i wr=>∃(k:Nat) (acc:List UInt8),i=.i (k:Nat)∧g=text.size+1-k∧at_+1<k∧k≤text.size+1∧RfPS w text.data.toList at_ k acc v wr);case atStart=>exact⟨at_+2,[],by go_num,rfl,by omega,by omega,by simp,by simp,fI _ _ _ _,Below.refl _ _,Nat.le_refl _⟩
 case round=>
  obtain⟨k,acc,rfl,rfl,hak,hk,hacc,hq,hown,hbel,hsz⟩:=hrel;have HQ:=aa hq;have MH:=aa hown;have HB:=aa hbel;clear hq hown hbel;by_cases hlt:k<text.size
  ·obtain⟨c,hc,hs⟩:=bW hlt;have HC:=aa (drop_at hc);have hcl:=c.toNat_lt;have Nv:(k:Int)<(text.size:Int):=by omega
   clear hc;by_cases Lr:c.toNat=39
   ·have RD:((c.toNat:Int)==39)=true:=by simp;omega
    have HE:Hid (Lex.cT (text.data.toList.drop (at_+2))=some (acc,text.data.toList.drop (k+1))):=by show _=_;rw[HQ.o,HC.o,wt Lr];simp
    have HT:=aa (HO.o.trans (uk (by rw[HL.o];omega) HE.o));obtain⟨A1,c1,rfl,-,-,-⟩:=fO MH.o;have ec:=(Rb.own MH.o).je (P:=Tryz.prog) 101 5 9 c1 Tryz.underlying101 Tryz.underlying5 Tryz.underlying9;by_cases MA:acc.length≤200
    ·have HF:=aa (HT.o.trans (if_pos MA));have t2:decide ((acc.length:Int)≤200)=true:=by simp;omega
     clear Lr MA;go_wp2_with fail
     exact bodyPost_ret (v:=.tuple #[.s ⟨acc.toArray⟩,.i ((k:Int)+1),.bool true]) (by simp[results,Tryz.results142,go_sem]) rfl (SP.yes HF.o rfl (by omega) HB.o)
    ·have HF:=aa (HT.o.trans (if_neg MA));have t2:decide ((acc.length:Int)≤200)=false:=by simp;omega
     clear Lr MA;go_wp2_with fail
     exact bodyPost_ret (v:=.tuple #[.s ⟨acc.toArray⟩,.i ((k:Int)+1),.f]) (by simp[results,Tryz.results142,go_sem]) rfl (SP.no HF.o HB.o)
   ·have RD:((c.toNat:Int)==39)=false:=by simp;omega
    obtain⟨d,hd⟩:=aab (MS text.data.toList (k+1));have HD:=aa hd;obtain⟨x1,hx1⟩:=aab (Lex.hex c);obtain⟨x2,hx2⟩:=aab (Lex.hex d);have H1:=aa hx1;have H2:=aa hx2;have Tz:=aa Lr;clear hd hx1 hx2 Lr;go_wp2_with fail
    with_reducible refine(sR c _).mono ?_
    rintro e w' ⟨rfl,rfl⟩;go_wp2_with fail
    with_reducible refine(fN text _ (k+1) _ (by omega)).mono ?_
    rintro e w' ⟨rfl,rfl⟩;rw[←HD.o];go_wp2_with fail
    with_reducible refine(sR d _).mono ?_
    rintro e w' ⟨rfl,rfl⟩;rw[←H1.o,←H2.o];obtain⟨n1,hn1⟩:=aab (mr c);obtain⟨n2,hn2⟩:=aab (mr d);rw[←hn1,←hn2];have UG:=aa hn1;have Ou:=aa hn2;clear hn1 hn2;cases x1 with
    |false=>
     have HF:Hid (o=none):=by refine HO.o.trans (jA ?_);rw[HQ.o,HC.o,qn Tz.o (by rw[←H1.o];simp)];rfl
     go_wp2_with fail
     exact bodyPost_ret (v:=.tuple #[.e,.o,.f]) (by simp[results,Tryz.results142,go_sem]) rfl (SP.no HF.o HB.o)
    |true=>
     cases x2 with
     |false=>
      have HF:Hid (o=none):=by refine HO.o.trans (jA ?_);rw[HQ.o,HC.o,qn Tz.o (by rw[←HD.o,←H2.o];simp)];rfl
      go_wp2_with fail
      exact bodyPost_ret (v:=.tuple #[.e,.o,.f]) (by simp[results,Tryz.results142,go_sem]) rfl (SP.no HF.o HB.o)
     |true=>
      have hnx:=uK (l:=text.data.toList) (k:=k+1) Tz.o H1.o.symm (by rw[←HD.o];exact H2.o.symm);rw[←HD.o]at hnx;have hk2:k+1<text.size:=by have:=hnx.1;rw[HL.o]at this;exact this
      have HN:Hid (Lex.cT (text.data.toList.drop (at_+2))=(Lex.cT (text.data.toList.drop (k+2))).map (fun p=>((acc++[Lex.pair c d])++p.1,p.2))):=by show _=_;rw[HQ.o,HC.o,hnx.2,Option.map_map];congr 1;funext p;simp
      have hw1:n1<16:=by rw[UG.o,nC H1.o.symm];exact iN H1.o.symm
      have hw2:n2<16:=by rw[Ou.o,nC H2.o.symm];exact iN H2.o.symm
      have HV:Hid ((#[Value.int .u8 ((n1:Int)*16+(n2:Int))]:Array Value)=([Lex.pair c d].map B8).toArray):=by show _=_;simp only[List.map_cons,List.map_nil];unfold B8;rw[sw H1.o.symm H2.o.symm,←nC H1.o.symm,←nC H2.o.symm,←UG.o,←Ou.o];simp
      clear hnx;go_wp2_with (at_builtin;refine fQ bt rfl (.tmp 52) (.tmp 57) rfl w.heap.size _ acc.length acc rfl MH.o _ 1 1 [Lex.pair c d] rfl rfl rfl HV.o (by omega) hsz ?_;intro v3 w3 hown3 hb3 _;have Lb:=aa hown3;have HB3:=aa hb3;clear hown3 hb3)
      go_roundg (text.size+1-(k+2));case measure=>omega
      case rel=>
       have hz3:=HB3.o.size;refine⟨(k+2),acc++[Lex.pair c d],by go_num,rfl,by omega,by omega,by simp;omega,?_,?_,HB.o.trans (HB3.o.mono (by omega)),by omega⟩
       ·exact HN.o
       ·rw[List.length_append];exact Lb.o
  ·have HF:Hid (o=none):=by refine HO.o.trans (jA ?_);rw[HQ.o,List.drop_of_length_le (by rw[HL.o];omega)];rfl
   have Nv:¬(k:Int)<(text.size:Int):=by omega
   go_wp2_with fail
   exact bodyPost_ret (v:=.tuple #[.e,.o,.f]) (by simp[results,Tryz.results142,go_sem]) rfl (SP.no HF.o HB.o)
end
section
set_option maxRecDepth 100000
def TQ(w:World)(at_:Nat)(o:Option (UInt8×List UInt8×Nat))(e:Ending)(w':World):Prop:=
 match o with
 |some (k,s,n)=>e=.returned (.tuple #[.agg #[.u (k.toNat:Int),.s ⟨s.toArray⟩,.i (at_:Int)],.i ((at_+n:Nat):Int),.bool true])∧Below w.heap.size w w'
 |none=>∃k s a n,e=.returned (.tuple #[.agg #[.u k,.s s,.i a],.i n,.f])∧Below w.heap.size w w'
theorem TQ.no{w w':World}{at_:Nat}{o:Option (UInt8×List UInt8×Nat)}{k a n:Int}{s:ByteArray}(h:o=none)(hb:Below w.heap.size w w'):TQ w at_ o (.returned (.tuple #[.agg #[.u k,.s s,.i a],.i n,.f])) w':=by
 subst h;exact⟨k,s,a,n,rfl,hb⟩
theorem TQ.yes{w w':World}{at_ n:Nat}{o:Option (UInt8×List UInt8×Nat)}{k:UInt8}{l:List UInt8}{s:ByteArray}{ki e:Int}(h:o=some (k,l,n))(hk:ki=(k.toNat:Int))(hs:s=⟨l.toArray⟩)(he:e=((at_+n:Nat):Int))(hb:Below w.heap.size w w'):TQ w at_ o (.returned (.tuple #[.agg #[.u ki,.s s,.i (at_:Int)],.i e,.bool true])) w':=by
 subst h hk hs he;exact⟨rfl,hb⟩
def On(w w1:World)(at_:Nat):Prop:=Below w.heap.size w w1∧Kn w1 w.heap.size 113 kI∧Kn w1 (w.heap.size+1) 113 #[.b,.e,.i (at_:Int)]
theorem On.new(w:World)(at_:Nat):On w ((w.alloc (.cells kI 113)).alloc (.cells #[.b,.e,.i (at_:Int)] 113)) at_:=by
 refine⟨((Below.refl _ _).alloc (Nat.le_refl _) _).alloc (by simp) _,(Kn.new _ _ _).alloc _,?_⟩;have:=Kn.new (w.alloc (.cells kI 113)) 113 #[.b,.e,.i (at_:Int)];rw[World.size_alloc]at this;exact this
theorem On.below{w w1 w2:World}{at_:Nat}(h:On w w1 at_)(hb:Below w1.heap.size w1 w2):On w w2 at_:=by
 have l1:=h.2.1.lt;have l2:=h.2.2.lt;exact⟨h.1.trans (hb.mono (by omega)),h.2.1.below hb l1,h.2.2.below hb l2⟩
theorem On.cells{w w1:World}{at_:Nat}(h:On w w1 at_):(w1.cell? ⟨w.heap.size,0,none⟩=some .b∧w1.cell? ⟨w.heap.size,1,none⟩=some .e∧w1.cell? ⟨w.heap.size,2,none⟩=some .o)∧(w1.cell? ⟨w.heap.size+1,0,none⟩=some .b∧w1.cell? ⟨w.heap.size+1,1,none⟩=some .e∧w1.cell? ⟨w.heap.size+1,2,none⟩=some (.i (at_:Int)))∧(∀i,w1.frozen? ⟨w.heap.size,i,none⟩=false)∧∀i,w1.frozen? ⟨w.heap.size+1,i,none⟩=false:=
 ⟨⟨h.2.1.cell 0,h.2.1.cell 1,h.2.1.cell 2⟩,⟨h.2.2.cell 0,h.2.2.cell 1,h.2.2.cell 2⟩,h.2.1.frozen,h.2.2.frozen⟩
theorem On.fs{w w1:World}{at_:Nat}(h:On w w1 at_)(u0 u1 v0 v1 v2:Value):Below w.heap.size w (((((w1.setCell ⟨w.heap.size+1,0,none⟩ u0).setCell ⟨w.heap.size+1,1,none⟩ u1).setCell ⟨w.heap.size,0,none⟩ v0).setCell ⟨w.heap.size,1,none⟩ v1).setCell ⟨w.heap.size,2,none⟩ v2):=
 ((((h.1.setCell (Nat.le_succ _) _).setCell (Nat.le_succ _) _).setCell (Nat.le_refl _) _).setCell (Nat.le_refl _) _).setCell (Nat.le_refl _) _
theorem On.three{w w1:World}{at_:Nat}(h:On w w1 at_)(v0 v1 v2:Value):Below w.heap.size w (((w1.setCell ⟨w.heap.size,0,none⟩ v0).setCell ⟨w.heap.size,1,none⟩ v1).setCell ⟨w.heap.size,2,none⟩ v2):=
 ((h.1.setCell (Nat.le_refl _) _).setCell (Nat.le_refl _) _).setCell (Nat.le_refl _) _
theorem DE(l:List UInt8)(i:Nat):Lex.digit (MS l i)=decide (0<Lex.span Lex.digit (l.drop i)):=by
 unfold MS;cases h:l[i]? with
 |none=>
  rw[List.drop_of_length_le (List.getElem?_eq_none_iff.1 h)];rfl
 |some d=>
  rw[drop_at h];exact sh _ _ _
theorem gC{p:UInt8→Bool}{l:List UInt8}{at_ k:Nat}{d:UInt8}(h:∀j c,j<k-at_→(l.drop at_)[j]?=some c→p c=true)(hak:at_≤k)(hd:l[k]?=some d)(hp:p d=true):∀j c,j<k+1-at_→(l.drop at_)[j]?=some c→p c=true:=by
 intro j c hj hc;rcases Nat.lt_or_ge j (k-at_)with h1|h1
 ·exact h j c h1 hc
 ·obtain rfl:j=k-at_:=by omega
  rw[List.getElem?_drop,show at_+(k-at_)=k by omega,hd]at hc;injection hc with hc
  rw[←hc];exact hp
theorem fV{p:UInt8→Bool}{l:List UInt8}{at_ k:Nat}(h:∀j c,j<k-at_→(l.drop at_)[j]?=some c→p c=true)(hak:at_≤k)(hk:k≤l.length)(hd:∀d,l[k]?=some d→p d=false):at_+Lex.span p (l.drop at_)=k:=by
 rw[Lex.rW p _ (k-at_) h (by rw[List.length_drop];omega)]
 ·omega
 ·intro c hc;rw[List.getElem?_drop,show at_+(k-at_)=k by omega]at hc;exact hd c hc
theorem Ba(text:ByteArray)(at_:Nat)(w:World)(hm:text.size≤1099511627776)(hat:at_<text.size)(c:UInt8)(hc:text.data.toList[at_]?=some c)(hlet:Lex.letter c=true)(hno:¬(c.toNat=120∧Lex.aZ text.data.toList (at_+1) 39=true)):
 Calls Tryz.prog 64 #[.s text,.i (at_:Int)] w (TQ w at_ (Lex.token (text.data.toList.drop at_))):=by
 have HL:=aa (aH text);obtain⟨o,ho⟩:=aab (Lex.token (text.data.toList.drop at_));rw[←ho];have HW:Hid (o=Lex.iu (text.data.toList.drop at_)):=by show _=_;rw[ho,fz hc,if_neg hno,if_pos hlet]
 have hs:text[at_]=c:=by
  obtain⟨d,h1,h2⟩:=bW hat;rw[hc]at h1;injection h1 with h1
  rw[h1];exact h2
 have hcl:=c.toNat_lt;have Nh:=aa hlet;clear ho hlet hc;by_cases LM:c.toNat=120
 ·have Ot:((c.toNat:Int)==120)=true:=by simp;omega
  have HF39:Hid (Lex.aZ text.data.toList (at_+1) 39=false):=by
   show _=_;cases h:Lex.aZ text.data.toList (at_+1) 39 with
   |false=>rfl
   |true=>exact absurd ⟨LM,h⟩ hno
  clear LM hno;go_enter Tryz.func64,Tryz.ntmps64;go_wp2_with fail
  with_reducible refine(fN text _ (at_+1) _ (by omega)).mono ?_
  rintro e w' ⟨rfl,rfl⟩;obtain⟨a,ha⟩:=aab (MS text.data.toList (at_+1));have qa:=mN text.data.toList (at_+1) 39 (by decide) 39 rfl;rw[←ha,HF39.o]at qa;rw[←ha];clear ha;go_wp2_with fail
  with_reducible refine(cZ c _).mono ?_
  rintro e w1 ⟨rfl,hw1⟩;rw[Nh.o];have Lv:Hid (On w w1 at_):=by rw[←hw1];exact On.new w at_
  clear hw1;have HF:Hid (o=Lex.iu (text.data.toList.drop at_)):=HW.o;have Ni:=Lex.dj Lex.aL (text.data.toList.drop at_);rw[List.length_drop,HL.o]at Ni;obtain⟨n,hn⟩:=aab (Lex.span Lex.aL (text.data.toList.drop at_));unfold Lex.iu at HF;rw[←hn]at HF Ni;obtain⟨e1,he1⟩:=aab (at_+n);have OS:Hid (at_+Lex.span Lex.aL (text.data.toList.drop at_)=e1):=by show _=_;rw[←hn,he1]
  have Mf:Hid (e1=at_+n∧e1-at_=n):=⟨he1,by omega⟩;have Mz:e1≤text.size:=by omega
  have hI1:(at_:Int)≤(e1:Int):=by omega
  have hI2:(e1:Int)≤(text.size:Int):=by omega
  clear hn he1;go_upto_block 1 with fail
  go_cut [10] (fun s10 wx=>wx=w1∧s10=.i (e1:Int));case first=>
   go_wp2_with fail
   go_loopg [10] (text.size-at_) (fun g a wr=>∃k:Nat,g=text.size-k∧wr=w1∧a=.i (k:Nat)∧at_≤k∧k≤text.size∧Hid (∀j d,j<k-at_→(text.data.toList.drop (at_))[j]?=some d→Lex.aL d=true));case atStart=>exact⟨at_,rfl,rfl,by go_num,Nat.le_refl _,by omega,fun j d h=>absurd h (by omega)⟩
   case round=>
    obtain⟨k,rfl,rfl,rfl,hak,hk,HK⟩:=hrel;by_cases hlt:k<text.size
    ·obtain⟨d,hd,hsd⟩:=bW hlt;have Ow:=aa hd;have hdl:=d.toNat_lt;have Nv:(k:Int)<(text.size:Int):=by omega
     clear hd;go_wp2_with fail
     with_reducible refine(cZ d _).mono ?_
     rintro e w' ⟨rfl,rfl⟩;cases hld:Lex.letter d with
     |true=>
      have UY:=aa hld;clear hld;have HN:=aa (gC HK.o hak Ow.o (by unfold Lex.aL;rw[UY.o];rfl));go_wp2_with fail
      go_roundg (text.size-(k+1));case measure=>omega
      case rel=>exact⟨k+1,rfl,rfl,by go_num,by omega,by omega,HN.o⟩
     |false=>
      have UY:=aa hld;clear hld;go_wp2_with fail
      with_reducible refine(cg d _).mono ?_
      rintro e w' ⟨rfl,rfl⟩;cases hdd:Lex.digit d with
      |true=>
       have PG:=aa hdd;clear hdd;have HN:=aa (gC HK.o hak Ow.o (by unfold Lex.aL;rw[PG.o,Bool.or_true]));go_wp2_with fail
       go_roundg (text.size-(k+1));case measure=>omega
       case rel=>exact⟨k+1,rfl,rfl,by go_num,by omega,by omega,HN.o⟩
      |false=>
       have PG:=aa hdd;clear hdd;have HE:=aa (OS.o.symm.trans (fV HK.o hak (by rw[HL.o];exact hk) (by intro d2 h2;rw[Ow.o]at h2;injection h2 with h2;rw[←h2];unfold Lex.aL;rw[UY.o,PG.o];rfl)));go_wp2_with fail
       go_meet;exact⟨rfl,by rw[HE.o]⟩
    ·have Nv:¬(k:Int)<(text.size:Int):=by omega
     have HE:=aa (OS.o.symm.trans (fV HK.o hak (by rw[HL.o];exact hk) (by intro d2 h2;rw[List.getElem?_eq_none (by rw[HL.o];omega)]at h2;cases h2)));go_wp2_with fail
     go_meet;exact⟨rfl,by rw[HE.o]⟩
  case rest=>
   obtain⟨rfl,rfl⟩:=hcut;obtain⟨⟨a0,a1,a2⟩,⟨b0,b1',b2'⟩,fa,fb⟩:=Lv.o.cells;have fa0:=fa 0;have fa1:=fa 1;have fa2:=fa 2;have SN:=fb 0;have SO:=fb 1;have SQ:=fb 2;have la:=Lv.o.2.1.lt;have lb:=Lv.o.2.2.lt;clear fa fb;by_cases MO:n≤24
   ·have HG:=aa (HF.o.trans (if_pos MO));have t5:decide ((e1:Int)-(at_:Int)≤24)=true:=by have:=Mf.o;simp;omega
    clear MO;go_wp2_with fail
    refine bodyPost_ret (v:=.tuple #[.agg #[.u 1,.s (text.extract at_ e1),.i (at_:Int)],.i (e1:Int),.bool true]) (by simp[results,Tryz.results64,go_sem,a0,a1,a2]) rfl ?_;exact TQ.yes HG.o rfl (by rw[extract_eq _ _ _ Mz,Mf.o.2]) (by rw[Mf.o.1]) (Lv.o.fs _ _ _ _ _)
   ·have HG:=aa (HF.o.trans (if_neg MO));have t5:decide ((e1:Int)-(at_:Int)≤24)=false:=by have:=Mf.o;simp;omega
    clear MO;go_wp2_with fail
    refine bodyPost_ret (v:=.tuple #[.agg #[.u 1,.s (text.extract at_ e1),.i (at_:Int)],.i (e1:Int),.f]) (by simp[results,Tryz.results64,go_sem,a0,a1,a2]) rfl ?_;exact TQ.no HG.o (Lv.o.fs _ _ _ _ _)
 ·have Ot:((c.toNat:Int)==120)=false:=by simp;omega
  clear LM hno;go_enter Tryz.func64,Tryz.ntmps64;go_wp2_with fail
  with_reducible refine(cZ c _).mono ?_
  rintro e w1 ⟨rfl,hw1⟩;rw[Nh.o];have Lv:Hid (On w w1 at_):=by rw[←hw1];exact On.new w at_
  clear hw1;have HF:Hid (o=Lex.iu (text.data.toList.drop at_)):=HW.o;have Ni:=Lex.dj Lex.aL (text.data.toList.drop at_);rw[List.length_drop,HL.o]at Ni;obtain⟨n,hn⟩:=aab (Lex.span Lex.aL (text.data.toList.drop at_));unfold Lex.iu at HF;rw[←hn]at HF Ni;obtain⟨e1,he1⟩:=aab (at_+n);have OS:Hid (at_+Lex.span Lex.aL (text.data.toList.drop at_)=e1):=by show _=_;rw[←hn,he1]
  have Mf:Hid (e1=at_+n∧e1-at_=n):=⟨he1,by omega⟩;have Mz:e1≤text.size:=by omega
  have hI1:(at_:Int)≤(e1:Int):=by omega
  have hI2:(e1:Int)≤(text.size:Int):=by omega
  clear hn he1;go_upto_block 1 with fail
  go_cut [10] (fun s10 wx=>wx=w1∧s10=.i (e1:Int));case first=>
   go_wp2_with fail
   go_loopg [10] (text.size-at_) (fun g a wr=>∃k:Nat,g=text.size-k∧wr=w1∧a=.i (k:Nat)∧at_≤k∧k≤text.size∧Hid (∀j d,j<k-at_→(text.data.toList.drop (at_))[j]?=some d→Lex.aL d=true));case atStart=>exact⟨at_,rfl,rfl,by go_num,Nat.le_refl _,by omega,fun j d h=>absurd h (by omega)⟩
   case round=>
    obtain⟨k,rfl,rfl,rfl,hak,hk,HK⟩:=hrel;by_cases hlt:k<text.size
    ·obtain⟨d,hd,hsd⟩:=bW hlt;have Ow:=aa hd;have hdl:=d.toNat_lt;have Nv:(k:Int)<(text.size:Int):=by omega
     clear hd;go_wp2_with fail
     with_reducible refine(cZ d _).mono ?_
     rintro e w' ⟨rfl,rfl⟩;cases hld:Lex.letter d with
     |true=>
      have UY:=aa hld;clear hld;have HN:=aa (gC HK.o hak Ow.o (by unfold Lex.aL;rw[UY.o];rfl));go_wp2_with fail
      go_roundg (text.size-(k+1));case measure=>omega
      case rel=>exact⟨k+1,rfl,rfl,by go_num,by omega,by omega,HN.o⟩
     |false=>
      have UY:=aa hld;clear hld;go_wp2_with fail
      with_reducible refine(cg d _).mono ?_
      rintro e w' ⟨rfl,rfl⟩;cases hdd:Lex.digit d with
      |true=>
       have PG:=aa hdd;clear hdd;have HN:=aa (gC HK.o hak Ow.o (by unfold Lex.aL;rw[PG.o,Bool.or_true]));go_wp2_with fail
       go_roundg (text.size-(k+1));case measure=>omega
       case rel=>exact⟨k+1,rfl,rfl,by go_num,by omega,by omega,HN.o⟩
      |false=>
       have PG:=aa hdd;clear hdd;have HE:=aa (OS.o.symm.trans (fV HK.o hak (by rw[HL.o];exact hk) (by intro d2 h2;rw[Ow.o]at h2;injection h2 with h2;rw[←h2];unfold Lex.aL;rw[UY.o,PG.o];rfl)));go_wp2_with fail
       go_meet;exact⟨rfl,by rw[HE.o]⟩
    ·have Nv:¬(k:Int)<(text.size:Int):=by omega
     have HE:=aa (OS.o.symm.trans (fV HK.o hak (by rw[HL.o];exact hk) (by intro d2 h2;rw[List.getElem?_eq_none (by rw[HL.o];omega)]at h2;cases h2)));go_wp2_with fail
     go_meet;exact⟨rfl,by rw[HE.o]⟩
  case rest=>
   obtain⟨rfl,rfl⟩:=hcut;obtain⟨⟨a0,a1,a2⟩,⟨b0,b1',b2'⟩,fa,fb⟩:=Lv.o.cells;have fa0:=fa 0;have fa1:=fa 1;have fa2:=fa 2;have SN:=fb 0;have SO:=fb 1;have SQ:=fb 2;have la:=Lv.o.2.1.lt;have lb:=Lv.o.2.2.lt;clear fa fb;by_cases MO:n≤24
   ·have HG:=aa (HF.o.trans (if_pos MO));have t5:decide ((e1:Int)-(at_:Int)≤24)=true:=by have:=Mf.o;simp;omega
    clear MO;go_wp2_with fail
    refine bodyPost_ret (v:=.tuple #[.agg #[.u 1,.s (text.extract at_ e1),.i (at_:Int)],.i (e1:Int),.bool true]) (by simp[results,Tryz.results64,go_sem,a0,a1,a2]) rfl ?_;exact TQ.yes HG.o rfl (by rw[extract_eq _ _ _ Mz,Mf.o.2]) (by rw[Mf.o.1]) (Lv.o.fs _ _ _ _ _)
   ·have HG:=aa (HF.o.trans (if_neg MO));have t5:decide ((e1:Int)-(at_:Int)≤24)=false:=by have:=Mf.o;simp;omega
    clear MO;go_wp2_with fail
    refine bodyPost_ret (v:=.tuple #[.agg #[.u 1,.s (text.extract at_ e1),.i (at_:Int)],.i (e1:Int),.f]) (by simp[results,Tryz.results64,go_sem,a0,a1,a2]) rfl ?_;exact TQ.no HG.o (Lv.o.fs _ _ _ _ _)
end
section
set_option maxRecDepth 100000
def Tr(w w1:World)(at_:Nat)(ki:Int):Prop:=Below w.heap.size w w1∧Kn w1 w.heap.size 113 kI∧Kn w1 (w.heap.size+1) 113 #[.u ki,.e,.i (at_:Int)]
theorem On.kind{w w1:World}{at_:Nat}(h:On w w1 at_)(ki:Int):Tr w (w1.setCell ⟨w.heap.size+1,0,none⟩ (.u ki)) at_ ki:=
 ⟨h.1.setCell (Nat.le_succ _) _,h.2.1.far (show w.heap.size≠w.heap.size+1 by omega) _,h.2.2.put 0 _⟩
theorem Tr.below{w w1 w2:World}{at_:Nat}{ki:Int}(h:Tr w w1 at_ ki)(hb:Below w1.heap.size w1 w2):Tr w w2 at_ ki:=by
 have l1:=h.2.1.lt;have l2:=h.2.2.lt;exact⟨h.1.trans (hb.mono (by omega)),h.2.1.below hb l1,h.2.2.below hb l2⟩
theorem Tr.cells{w w1:World}{at_:Nat}{ki:Int}(h:Tr w w1 at_ ki):(w1.cell? ⟨w.heap.size,0,none⟩=some .b∧w1.cell? ⟨w.heap.size,1,none⟩=some .e∧w1.cell? ⟨w.heap.size,2,none⟩=some .o)∧(w1.cell? ⟨w.heap.size+1,0,none⟩=some (.u ki)∧w1.cell? ⟨w.heap.size+1,1,none⟩=some .e∧w1.cell? ⟨w.heap.size+1,2,none⟩=some (.i (at_:Int)))∧(∀i,w1.frozen? ⟨w.heap.size,i,none⟩=false)∧∀i,w1.frozen? ⟨w.heap.size+1,i,none⟩=false:=
 ⟨⟨h.2.1.cell 0,h.2.1.cell 1,h.2.1.cell 2⟩,⟨h.2.2.cell 0,h.2.2.cell 1,h.2.2.cell 2⟩,h.2.1.frozen,h.2.2.frozen⟩
theorem Tr.four{w w1:World}{at_:Nat}{ki:Int}(h:Tr w w1 at_ ki)(u1 v0 v1 v2:Value):Below w.heap.size w ((((w1.setCell ⟨w.heap.size+1,1,none⟩ u1).setCell ⟨w.heap.size,0,none⟩ v0).setCell ⟨w.heap.size,1,none⟩ v1).setCell ⟨w.heap.size,2,none⟩ v2):=
 (((h.1.setCell (Nat.le_succ _) _).setCell (Nat.le_refl _) _).setCell (Nat.le_refl _) _).setCell (Nat.le_refl _) _
theorem SP.parts{w w':World}{at_:Nat}{o:Option (UInt8×List UInt8×Nat)}{e:Ending}(h:SP w at_ o e w'):∃s n b,e=.returned (.tuple #[.s s,.i n,.bool b])∧Below w.heap.size w w'∧∀(ki:Int) (w0 w'':World),(∀k s n,o=some (k,s,n)→ki=(k.toNat:Int))→Below w0.heap.size w0 w''→TQ w0 at_ o (.returned (.tuple #[.agg #[.u ki,.s s,.i (at_:Int)],.i n,.bool b])) w'':=by
 match o,h with
 |none,h=>
  obtain⟨s,n,rfl,hb⟩:=h;exact⟨s,n,false,rfl,hb,fun _ _ _ _ hb'=>TQ.no rfl hb'⟩
 |some (k,s,n),h=>
  obtain⟨rfl,hb⟩:=h;exact⟨_,_,_,rfl,hb,fun _ _ _ hk hb'=>TQ.yes rfl (hk k s n rfl) rfl rfl hb'⟩
theorem Ke(l:List UInt8):∀(k:UInt8) (s:List UInt8) (n:Nat),Lex.dD l=some (k,s,n)→(4:Int)=(k.toNat:Int):=by
 intro k s n h;unfold Lex.dD at h;repeat' split at h
 ·cases h
 ·injection h with h;injection h with h;rw[←h];rfl
 ·cases h
theorem J6(l:List UInt8):∀(k:UInt8) (s:List UInt8) (n:Nat),Lex.dS l=some (k,s,n)→(3:Int)=(k.toNat:Int):=by
 intro k s n h;unfold Lex.dS at h;repeat' split at h
 ·cases h
 ·injection h with h;injection h with h;rw[←h];rfl
 ·cases h
theorem zl(text:ByteArray)(at_:Nat)(w:World)(hm:text.size≤1099511627776)(hat:at_<text.size)(c:UInt8)(hc:text.data.toList[at_]?=some c)(LM:c.toNat=120)(Lr:Lex.aZ text.data.toList (at_+1) 39=true):
 Calls Tryz.prog 64 #[.s text,.i (at_:Int)] w (TQ w at_ (Lex.token (text.data.toList.drop at_))):=by
 have HL:=aa (aH text);obtain⟨o,ho⟩:=aab (Lex.token (text.data.toList.drop at_));rw[←ho];have HW:Hid (o=Lex.dD (text.data.toList.drop at_)):=by show _=_;rw[ho,fz hc,if_pos ⟨LM,Lr⟩]
 have hs:text[at_]=c:=by
  obtain⟨d,h1,h2⟩:=bW hat;rw[hc]at h1;injection h1 with h1
  rw[h1];exact h2
 have hcl:=c.toNat_lt;have Pc:at_+1<text.size:=by have h:=Lr;unfold Lex.aZ at h;rw[decide_eq_true_eq]at h;have:=(List.getElem?_eq_some_iff.1 h).1;rw[HL.o]at this;exact this
 have Ot:((c.toNat:Int)==120)=true:=by simp;omega
 have Tz:=aa Lr;clear ho hc LM Lr;go_enter Tryz.func64,Tryz.ntmps64;go_wp2_with fail
 with_reducible refine(fN text _ (at_+1) _ (by omega)).mono ?_
 rintro e w1 ⟨rfl,hw1⟩;obtain⟨a,ha⟩:=aab (MS text.data.toList (at_+1));have qa:=mN text.data.toList (at_+1) 39 (by decide) 39 rfl;rw[←ha,Tz.o]at qa;rw[←ha];clear ha;have Lv:Hid (On w w1 at_):=by rw[←hw1];exact On.new w at_
 clear hw1;obtain⟨⟨a0,a1,a2⟩,⟨b0,b1',b2'⟩,fa,fb⟩:=Lv.o.cells;have fa0:=fa 0;have fa1:=fa 1;have fa2:=fa 2;have SN:=fb 0;have SO:=fb 1;have SQ:=fb 2;have la:=Lv.o.2.1.lt;have lb:=Lv.o.2.2.lt;clear fa fb;go_wp2_with fail
 with_reducible refine(uV text _ at_ _ (by omega) hm Pc).mono ?_
 intro e w3 hpost;obtain⟨s2,n2,ok2,rfl,hb3,hre⟩:=hpost.parts;have QG:=aa hre;have Lb:=aa ((Lv.o.kind 4).below hb3);clear hpost hre hb3 a0 a1 a2 b0 b1' b2' fa0 fa1 fa2 SN SO SQ la lb Lv;obtain⟨⟨a0,a1,a2⟩,⟨b0,b1',b2'⟩,fa,fb⟩:=Lb.o.cells;have fa0:=fa 0;have fa1:=fa 1;have fa2:=fa 2;have SN:=fb 0;have SO:=fb 1;have SQ:=fb 2;have la:=Lb.o.2.1.lt;have lb:=Lb.o.2.2.lt;clear fa fb;go_wp2_with fail
 refine bodyPost_ret (v:=.tuple #[.agg #[.u 4,.s s2,.i (at_:Int)],.i n2,.bool ok2]) (by simp[results,Tryz.results64,go_sem,a0,a1,a2]) rfl ?_;rw[HW.o];exact QG.o 4 w _ (Ke _) (Lb.o.four _ _ _ _)
theorem yI(text:ByteArray)(at_:Nat)(w:World)(hm:text.size≤1099511627776)(hat:at_<text.size)(c:UInt8)(hc:text.data.toList[at_]?=some c)(Lr:c.toNat=39):
 Calls Tryz.prog 64 #[.s text,.i (at_:Int)] w (TQ w at_ (Lex.token (text.data.toList.drop at_))):=by
 have HL:=aa (aH text);obtain⟨o,ho⟩:=aab (Lex.token (text.data.toList.drop at_));rw[←ho];have HW:Hid (o=Lex.dS (text.data.toList.drop at_)):=by show _=_;rw[ho,fz hc,if_neg (by omega),if_neg (by simp[Lex.letter];omega),if_neg (by simp[Lex.digit];omega),if_pos Lr]
 have hs:text[at_]=c:=by
  obtain⟨d,h1,h2⟩:=bW hat;rw[hc]at h1;injection h1 with h1
  rw[h1];exact h2
 have hcl:=c.toNat_lt;have Nh:Hid (Lex.letter c=false):=by show _=_;simp[Lex.letter];omega
 have Tm:Hid (Lex.digit c=false):=by show _=_;simp[Lex.digit];omega
 have Ot:((c.toNat:Int)==120)=false:=by simp;omega
 have RD:((c.toNat:Int)==39)=true:=by simp;omega
 clear ho hc Lr;go_enter Tryz.func64,Tryz.ntmps64;go_wp2_with fail
 with_reducible refine(cZ c _).mono ?_
 rintro e w1 ⟨rfl,hw1⟩;rw[Nh.o];have Lv:Hid (On w w1 at_):=by rw[←hw1];exact On.new w at_
 clear hw1;go_wp2_with fail
 with_reducible refine(cg c _).mono ?_
 rintro e w' ⟨rfl,rfl⟩;rw[Tm.o];obtain⟨⟨a0,a1,a2⟩,⟨b0,b1',b2'⟩,fa,fb⟩:=Lv.o.cells;have fa0:=fa 0;have fa1:=fa 1;have fa2:=fa 2;have SN:=fb 0;have SO:=fb 1;have SQ:=fb 2;have la:=Lv.o.2.1.lt;have lb:=Lv.o.2.2.lt;clear fa fb;go_wp2_with fail
 with_reducible refine(tE text at_ _ hm hat).mono ?_
 intro e w3 hpost;obtain⟨s2,n2,ok2,rfl,hb3,hre⟩:=hpost.parts;have QG:=aa hre;have Lb:=aa ((Lv.o.kind 3).below hb3);clear hpost hre hb3 a0 a1 a2 b0 b1' b2' fa0 fa1 fa2 SN SO SQ la lb Lv;obtain⟨⟨a0,a1,a2⟩,⟨b0,b1',b2'⟩,fa,fb⟩:=Lb.o.cells;have fa0:=fa 0;have fa1:=fa 1;have fa2:=fa 2;have SN:=fb 0;have SO:=fb 1;have SQ:=fb 2;have la:=Lb.o.2.1.lt;have lb:=Lb.o.2.2.lt;clear fa fb;go_wp2_with fail
 refine bodyPost_ret (v:=.tuple #[.agg #[.u 3,.s s2,.i (at_:Int)],.i n2,.bool ok2]) (by simp[results,Tryz.results64,go_sem,a0,a1,a2]) rfl ?_;rw[HW.o];exact QG.o 3 w _ (J6 _) (Lb.o.four _ _ _ _)
end
section
set_option maxRecDepth 100000
theorem uP{l:List UInt8}{i:Nat}{c:UInt8}(hc:l[i]?=some c):Lex.jE (l.drop i)=if(c.toNat=60∧(Lex.aZ l (i+1) 62=true∨Lex.aZ l (i+1) 61=true))∨(c.toNat=62∧Lex.aZ l (i+1) 61=true)then some (5,(l.drop i).take 2,2)else if c∈Lex.oG then some (5,(l.drop i).take 1,1)else none:=by
 have e:∀d,Lex.aZ l (i+1) d=Lex.aZ (l.drop (i+1)) 0 d:=by intro d;rw[Lex.bX]
 rw[e,e,drop_at hc];rfl
theorem qZ{s:ByteArray}{i:Nat}{c:UInt8}(h:Lex.aZ s.data.toList i c=true):i<s.size:=by
 unfold Lex.aZ at h;rw[decide_eq_true_eq]at h;have:=(List.getElem?_eq_some_iff.1 h).1;rw[aH]at this;exact this
theorem qs13(c:UInt8){n:Nat}(h:n=c.toNat):((c.toNat:Int)==120)=decide (n=120)∧((c.toNat:Int)==39)=decide (n=39)∧((c.toNat:Int)==40)=decide (n=40)∧((c.toNat:Int)==41)=decide (n=41)∧((c.toNat:Int)==44)=decide (n=44)∧((c.toNat:Int)==46)=decide (n=46)∧((c.toNat:Int)==59)=decide (n=59)∧((c.toNat:Int)==43)=decide (n=43)∧((c.toNat:Int)==45)=decide (n=45)∧((c.toNat:Int)==42)=decide (n=42)∧((c.toNat:Int)==61)=decide (n=61)∧((c.toNat:Int)==60)=decide (n=60)∧((c.toNat:Int)==62)=decide (n=62):=by
 subst h;have e:∀k:Nat,((c.toNat:Int)==(k:Int))=decide (c.toNat=k):=fun k=>decide_eq_decide.2 ⟨fun h=>by omega,fun h=>by omega⟩
 exact⟨e 120,e 39,e 40,e 41,e 44,e 46,e 59,e 43,e 45,e 42,e 61,e 60,e 62⟩
theorem zk(text:ByteArray)(at_:Nat)(w:World)(hm:text.size≤1099511627776)(hat:at_<text.size)(c:UInt8)(hc:text.data.toList[at_]?=some c)(hs:text[at_]=c)(hlet:Lex.letter c=false)(hdig:Lex.digit c=false)(Lr:c.toNat≠39):
 Calls Tryz.prog 64 #[.s text,.i (at_:Int)] w (TQ w at_ (Lex.jE (text.data.toList.drop at_))):=by
 have HL:=aa (aH text);have hcl:=c.toNat_lt;have LM:c.toNat≠120:=fun h=>absurd hlet (by simp[Lex.letter,h])
 rw[uP hc];have Nh:=aa hlet;have Tm:=aa hdig;obtain⟨n,hn⟩:=aab c.toNat;obtain⟨Ot,RD,q40,q41,q44,q46,q59,q43,Yr,q42,q61,VG,U7⟩:=qs13 c hn;rw[←hn]at LM Lr⊢;simp only[LM,Lr,decide_false]at Ot RD;have hsg:c∈Lex.oG↔n∈[40,41,44,46,59,43,45,42,61,60,62]:=by simp only[hn,Lex.oG,List.mem_cons,List.not_mem_nil,or_false,←UInt8.toNat_inj];rfl
 obtain⟨o,ho⟩:∃o,o=(if(n=60∧(Lex.aZ text.data.toList (at_+1) 62=true∨Lex.aZ text.data.toList (at_+1) 61=true))∨(n=62∧Lex.aZ text.data.toList (at_+1) 61=true)then some (5,(text.data.toList.drop at_).take 2,2)else if c∈Lex.oG then some (5,(text.data.toList.drop at_).take 1,1)else none:Option (UInt8×List UInt8×Nat)):=⟨_,rfl⟩;rw[←ho];have HO:=aa ho;clear ho;have Tx:=aa hsg;clear hlet hdig LM Lr hsg hc hn;by_cases hno:n∈[40,41,44,46,59,43,45,42,61,60,62];case' neg=>
  have h1:=hno
  simp only[List.mem_cons,List.not_mem_nil,or_false,not_or]at h1
  have VB:=aa h1
  obtain⟨z40,z41,z44,z46,z59,z43,z45,z42,z61,z60,z62⟩:=h1
  simp only[z40,z41,z44,z46,z59,z43,z45,z42,z61,z60,z62,decide_false]at q40 q41 q44 q46 q59 q43 Yr q42 q61 VG U7
  clear hno z40 z41 z44 z46 z59 z43 z45 z42 z61 z60 z62
 case' pos=>
  simp only[List.mem_cons,List.not_mem_nil,or_false]at hno
  rcases hno with rfl|rfl|rfl|rfl|rfl|rfl|rfl|rfl|rfl|rfl|rfl
 all_goals try simp only[Nat.reduceEqDiff,decide_true,decide_false]at q40 q41 q44 q46 q59 q43 Yr q42 q61 VG U7
 all_goals
  go_enter Tryz.func64,Tryz.ntmps64
  go_wp2_with fail
  with_reducible refine(cZ c _).mono ?_
  rintro e w1 ⟨rfl,hw1⟩
  rw[Nh.o]
  have Lv:Hid (On w w1 at_):=by rw[←hw1];exact On.new w at_
  clear hw1
  go_wp2_with fail
  with_reducible refine(cg c _).mono ?_
  rintro e w' ⟨rfl,rfl⟩
  rw[Tm.o]
 all_goals first|(have _t:=(VG:_=true);(go_wp2_with fail;with_reducible refine(fN text _ (at_+1) _ (by omega)).mono ?_;rintro e w' ⟨rfl,rfl⟩;obtain⟨x1,hx1⟩:=aab (MS text.data.toList (at_+1));have qx1:=mN text.data.toList (at_+1) 62 (by decide) 62 rfl;obtain⟨b1,hb1⟩:=aab (Lex.aZ text.data.toList (at_+1) 62);rw[←hx1,←hb1]at qx1;rw[←hx1];rw[←hb1]at HO;clear hx1;cases b1;case' true=>(have Pc:=qZ hb1.symm;clear hb1));case' false=>(clear hb1;go_wp2_with fail;with_reducible refine(fN text _ (at_+1) _ (by omega)).mono ?_;rintro e w' ⟨rfl,rfl⟩;obtain⟨x2,hx2⟩:=aab (MS text.data.toList (at_+1));have qx2:=mN text.data.toList (at_+1) 61 (by decide) 61 rfl;obtain⟨b2,hb2⟩:=aab (Lex.aZ text.data.toList (at_+1) 61);rw[←hx2,←hb2]at qx2;rw[←hx2];rw[←hb2]at HO;clear hx2;cases b2;(case' true=>have Pc:=qZ hb2.symm);all_goals clear hb2))|(have _t:=(U7:_=true);(go_wp2_with fail;with_reducible refine(fN text _ (at_+1) _ (by omega)).mono ?_;rintro e w' ⟨rfl,rfl⟩;obtain⟨x2,hx2⟩:=aab (MS text.data.toList (at_+1));have qx2:=mN text.data.toList (at_+1) 61 (by decide) 61 rfl;obtain⟨b2,hb2⟩:=aab (Lex.aZ text.data.toList (at_+1) 61);rw[←hx2,←hb2]at qx2;rw[←hx2];rw[←hb2]at HO;clear hx2;cases b2;(case' true=>have Pc:=qZ hb2.symm);all_goals clear hb2))|skip
 all_goals
  have I3:(at_:Int)+1≤(text.size:Int):=by omega
  have I4:(at_:Int)≤(at_:Int)+1:=by omega
  have T2:((at_:Int)+1).toNat=at_+1:=by omega
  have I5:(at_:Int)≤(at_:Int)+2:=by omega
  have T3:((at_:Int)+2).toNat=at_+1+1:=by omega
  try have I6:(at_:Int)+2≤(text.size:Int):=by omega
  obtain⟨⟨a0,a1,a2⟩,⟨b0,b1',b2'⟩,fa,fb⟩:=Lv.o.cells
  have fa0:=fa 0
  have fa1:=fa 1
  have fa2:=fa 2
  have SN:=fb 0
  have SO:=fb 1
  have SQ:=fb 2
  have la:=Lv.o.2.1.lt
  have lb:=Lv.o.2.2.lt
  clear fa fb
  go_wp2_with fail
  first
  |(have _t:=Pc
    refine bodyPost_ret (v:=.tuple #[.agg #[.u 5,.s (text.extract at_ (at_+1+1)),.i (at_:Int)],.i ((at_:Int)+2),.bool true]) (by simp[results,Tryz.results64,go_sem,a0,a1,a2]) rfl ?_
    rw[show o=some (5,(text.data.toList.drop at_).take 2,2) by rw[HO.o];simp[Tx.o]]
    exact TQ.yes rfl rfl (by rw[extract_eq _ _ _ (by omega),show at_+1+1-at_=2 by omega]) (by omega) (Lv.o.fs _ _ _ _ _))
  |(have _t:=VB
    refine bodyPost_ret (v:=.tuple #[.agg #[.b,.e,.i (at_:Int)],.o,.f]) (by simp[results,Tryz.results64,go_sem,a0,a1,a2]) rfl ?_
    obtain⟨z40,z41,z44,z46,z59,z43,z45,z42,z61,z60,z62⟩:=VB.o
    rw[show o=none by rw[HO.o];simp[Tx.o,z40,z41,z44,z46,z59,z43,z45,z42,z61,z60,z62]]
    exact TQ.no rfl (Lv.o.three _ _ _))
  |(refine bodyPost_ret (v:=.tuple #[.agg #[.u 5,.s (text.extract at_ (at_+1)),.i (at_:Int)],.i ((at_:Int)+1),.bool true]) (by simp[results,Tryz.results64,go_sem,a0,a1,a2]) rfl ?_
    rw[show o=some (5,(text.data.toList.drop at_).take 1,1) by rw[HO.o];simp[Tx.o]]
    exact TQ.yes rfl rfl (by rw[extract_eq _ _ _ (by omega),show at_+1-at_=1 by omega]) (by omega) (Lv.o.fs _ _ _ _ _))
end
end Go.Proofs.YtnicfobpclehkaaGreatDoor
