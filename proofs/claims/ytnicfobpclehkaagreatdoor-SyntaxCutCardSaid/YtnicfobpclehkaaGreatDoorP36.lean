import Derived.Test.YtnicfobpclehkaaGreatDoorP35
set_option maxHeartbeats 200000
set_option linter.unusedVariables false
set_option linter.unusedSimpArgs false
namespace Go.Proofs.YtnicfobpclehkaaGreatDoor
section
set_option maxRecDepth 4000
namespace I
open Ev (Ex Hd)
open Lex (bare)
def bS(s:NC):List BT:=
 if s.k.toNat=1 then wd [99,114,101,97,116,101]::wd [116,97,98,108,101]::wd s.nm::sg [40]::(bC zN s.NH++[sg [41]])
 else if s.k.toNat=3 then wd [99,114,101,97,116,101]::wd [118,105,101,119]::wd s.nm::wd [97,115]::wd [115,101,108,101,99,116]::s.q.flatMap lQ
 else if s.k.toNat=5 then [wd [99,114,101,97,116,101],wd [116,114,105,103,103,101,114],wd s.nm,wd [97,102,116,101,114],wd (word ((s.ev.toNat:Int)-14) [[105,110,115,101,114,116],[117,112,100,97,116,101],[100,101,108,101,116,101]]),wd [111,110],wd s.on,wd [105,110,115,101,114,116],wd [105,110,116,111],wd s.NG,wd [118,97,108,117,101,115]]++s.vals.flatMap oY
 else if s.k.toNat=7 then [wd [99,114,101,97,116,101],wd [112,111,108,105,99,121],wd s.nm,wd [111,110],wd s.on,wd [116,111],wd s.NG,wd [117,115,105,110,103],sg [40]]++(s.wh.flatMap bE++[sg [41]])
 else if s.k.toNat=9 then wd [99,114,101,97,116,101]::wd [114,111,108,101]::wd s.nm::bN s.key [wd [107,101,121],(3,s.key)]
 else if s.k.toNat=2 then [wd [100,114,111,112],wd [116,97,98,108,101],wd s.nm]
 else if s.k.toNat=4 then [wd [100,114,111,112],wd [118,105,101,119],wd s.nm]
 else if s.k.toNat=6 then [wd [100,114,111,112],wd [116,114,105,103,103,101,114],wd s.nm]
 else if s.k.toNat=8 then [wd [100,114,111,112],wd [112,111,108,105,99,121],wd s.nm]
 else if s.k.toNat=10 then [wd [103,114,97,110,116],wd s.nm,wd [116,111],wd s.on]
 else if s.k.toNat=11 then [wd [114,101,118,111,107,101],wd s.nm,wd [102,114,111,109],wd s.on]
 else if s.k.toNat=12 then wd [103,114,97,110,116]::(pd s.pv++([wd [111,110],wd s.nm,wd [116,111],wd s.on]++bB s.opt [wd [119,105,116,104],wd [103,114,97,110,116],wd [111,112,116,105,111,110]]))
 else if s.k.toNat=13 then wd [114,101,118,111,107,101]::(pd s.pv++[wd [111,110],wd s.nm,wd [102,114,111,109],wd s.on])
 else if s.k.toNat=14 then wd [105,110,115,101,114,116]::wd [105,110,116,111]::wd s.nm::wd [118,97,108,117,101,115]::bC oY s.vals
 else if s.k.toNat=15 then wd [117,112,100,97,116,101]::wd s.nm::wd [115,101,116]::(bC yN s.dD++RO [119,104,101,114,101] s.wh)
 else if s.k.toNat=16 then wd [100,101,108,101,116,101]::wd [102,114,111,109]::wd s.nm::RO [119,104,101,114,101] s.wh
 else if s.k.toNat=17 then wd [115,101,108,101,99,116]::s.q.flatMap lQ
 else if s.k.toNat=18 then [wd [98,101,103,105,110]]
 else if s.k.toNat=19 then [wd [99,111,109,109,105,116]]
 else [wd [114,111,108,108,98,97,99,107]]
def DS(rest:List BT):Prop:=∀w:Bs,w≠[59]→eQ w rest=false
theorem xz:DS []:=fun _ _=>rfl
theorem th(rest:List BT):DS (sg [59]::rest):=fun w hw=>by
 have h:decide ((sg [59]).2=w)=false:=ar fun e=>hw e.symm
 show dW w (sg [59])=false
 unfold dW
 rw[h,cH]
def Re{α:Type}(f:St→α×St)(l:List BT)(x:α):Prop:=∀(st:St) (rest:List BT),bare st.r=l++rest→DS rest→f st=(x,NO l.length st)
theorem DS.all{rest:List BT}(h:DS rest){S:List Bs}(hS:∀w∈S,w≠[59]):∀w∈S,eQ w rest=false:=fun w hw=>h w (hS w hw)
theorem JL{T:Nat}{w:Bs}{st:St}{rest:List BT}{v:Bs×(St→NC×St)}(hb:bare st.r=wd w::rest):∀(l:List (Bs×(St→NC×St))),l.find? (fun v=>dW v.1 (wd w))=some v→pick T l st=v.2 (NO 1 st):=by
 intro l;induction l with
 |nil=>intro h;cases h
 |cons u l ih=>
  intro h;rw[List.find?_cons]at h;unfold pick;cases hu:dW u.1 (wd w)with
  |true=>
   rw[hu]at h;injection h with h
   rw[if_pos (gd hb hu),dn,h]
  |false=>
   rw[hu]at h;rw[if_neg (gH hb hu)];exact ih h
section
variable{T:Nat}
theorem GI{n:Bs}{cs:List Oj}(hn:NX n)(hc:LG Am 12 cs):Re (table T) (wd n::sg [40]::(bC zN cs++[sg [41]])) {NC.of 1 with nm:=n,NH:=cs}:=by
 intro st rest hb hr;have hb0:bare st.r=wd n::((sg [40]::(bC zN cs++[sg [41]]))++rest):=hb;have hb1:=Oq hb0;unfold table;rw[dB hn hb0];dsimp only;rw[mN (kn (T:=T) (most:=12) (S:=Nk) (b:=zN) (by decide) (fun y hy=>DE T (hc.2.2 y hy)) hc.1 hc.2.1) (by decide) _ rest hb1 fun w hw=>by cases hw];dsimp only;rw[cV];exact eV (by simp only[ab]<;>omega)
theorem Fo{q:NS}(h:PA q):Re (selection T) (lQ q) q:=fun st rest hb hr=>K3 T h st rest hb (hr.all (by decide))
theorem Kr{n:Bs}{q:NS}(hn:NX n)(hq:PA q):Re (view T) (wd n::wd [97,115]::wd [115,101,108,101,99,116]::lQ q) {NC.of 3 with nm:=n,q:=[q]}:=by
 intro st rest hb hr;have hb0:bare st.r=wd n::wd [97,115]::wd [115,101,108,101,99,116]::(lQ q++rest):=hb;have hb1:=Oq hb0;unfold view;rw[dB hn hb0];dsimp only;rw[vd hb1 (by decide) (by decide),Fo hq _ rest (br2 hb1) hr];dsimp only;rw[cV,cV];exact eV (by simp only[ab]<;>omega)
theorem MS{ev:UInt8}(he:14≤ev.toNat∧ev.toNat≤16):∃i,([[105,110,115,101,114,116],[117,112,100,97,116,101],[100,101,108,101,116,101]]:List Bs).findIdx? (fun s=>dW s (wd (word ((ev.toNat:Int)-14) [[105,110,115,101,114,116],[117,112,100,97,116,101],[100,101,108,101,116,101]])))=some i∧([14,15,16]:List UInt8).getD i 0=ev:=by
 have:ev.toNat=14∨ev.toNat=15∨ev.toNat=16:=by omega
 rcases this with e|e|e
 ·obtain rfl:ev=14:=aF.1 e;exact⟨0,by decide,by decide⟩
 ·obtain rfl:ev=15:=aF.1 e;exact⟨1,by decide,by decide⟩
 ·obtain rfl:ev=16:=aF.1 e;exact⟨2,by decide,by decide⟩
theorem yA{n on t:Bs}{ev:UInt8}{v:List Ex}(hn:NX n)(he:14≤ev.toNat∧ev.toNat≤16)(ho:NX on)(ht:NX t)(hv:yb v):Re (fh T) ([wd n,wd [97,102,116,101,114],wd (word ((ev.toNat:Int)-14) [[105,110,115,101,114,116],[117,112,100,97,116,101],[100,101,108,101,116,101]]),wd [111,110],wd on,wd [105,110,115,101,114,116],wd [105,110,116,111],wd t,wd [118,97,108,117,101,115]]++oY v) {NC.of 5 with nm:=n,ev:=ev,on:=on,NG:=t,vals:=[v]}:=by
 intro st rest hb hr;obtain⟨i,hi,hk⟩:=MS he;have hb0:bare st.r=wd n::wd [97,102,116,101,114]::wd (word ((ev.toNat:Int)-14) [[105,110,115,101,114,116],[117,112,100,97,116,101],[100,101,108,101,116,101]])::wd [111,110]::wd on::wd [105,110,115,101,114,116]::wd [105,110,116,111]::wd t::wd [118,97,108,117,101,115]::(oY v++rest):=hb;have hb1:=Oq hb0;have hb2:=Oq hb1;have hb3:=Oq hb2;have hb4:=Oq hb3;have hb5:=Oq hb4;have hb6:=br2 hb5;have S9:=Oq hb6;have Wv:=Oq S9;unfold fh;rw[dB hn hb0];dsimp only;rw[dN hb1 (by decide),jL hb2 _ 0 i hi];dsimp only;rw[dN hb3 (by decide),dB ho hb4];dsimp only;rw[vd hb5 (by decide) (by decide),dB ht hb6];dsimp only;rw[dN S9 (by decide),EW T hv _ rest Wv fun w hw=>by cases hw];dsimp only;simp only[cV];rw[aW,hk];exact eV (by simp only[ah,ab,ai]<;>omega)
theorem BW{n on t:Bs}{e:Ex}(hn:NX n)(ho:NX on)(ht:NX t)(he:QW e):Re (fN T) ([wd n,wd [111,110],wd on,wd [116,111],wd t,wd [117,115,105,110,103],sg [40]]++(bE e++[sg [41]])) {NC.of 7 with nm:=n,on:=on,NG:=t,wh:=[e]}:=by
 intro st rest hb hr;have hb0:bare st.r=wd n::wd [111,110]::wd on::wd [116,111]::wd t::wd [117,115,105,110,103]::((sg [40]::(bE e++[sg [41]]))++rest):=hb;have hb1:=Oq hb0;have hb2:=Oq hb1;have hb3:=Oq hb2;have hb4:=Oq hb3;have hb5:=Oq hb4;have hb6:=Oq hb5;unfold fN;rw[dB hn hb0];dsimp only;rw[dN hb1 (by decide),dB ho hb2];dsimp only;rw[dN hb3 (by decide),dB ht hb4];dsimp only;rw[dN hb5 (by decide),mN (jI T he) (by decide) _ rest hb6 fun w hw=>by cases hw];dsimp only;simp only[cV];exact eV (by simp only[ah,ab,ai]<;>omega)
theorem J5{n key:Bs}(hn:NX n):Re (role T) (wd n::bN key [wd [107,101,121],(3,key)]) {NC.of 9 with nm:=n,key:=key}:=by
 intro st rest hb hr;have hb0:bare st.r=wd n::(bN key [wd [107,101,121],(3,key)]++rest):=hb;have hb1:=Oq hb0;unfold role;rw[dB hn hb0];dsimp only;by_cases h:key=[]
 ·subst h;rw[if_neg (gH (rest:=rest) hb1 (hr _ (by decide)))];rfl
 ·have e:bN key [wd [107,101,121],(3,key)]=[wd [107,101,121],(3,key)]:=if_neg h;rw[e]at hb1⊢;have hb2:bare (NO 1 st).r=wd [107,101,121]::(3,key)::rest:=hb1;obtain⟨k1,k2⟩:=gf (Oq hb2);rw[if_pos (gd hb2 (by decide)),dn,k1,k2,if_pos rfl,dn,cV,cV];rfl
theorem qi{k:UInt8}{n w:Bs}{i:Nat}(hn:NX n)(hi:([[116,97,98,108,101],[118,105,101,119],[116,114,105,103,103,101,114],[112,111,108,105,99,121]]:List Bs).findIdx? (fun s=>dW s (wd w))=some i)(hk:([2,4,6,8]:List UInt8).getD i 0=k):Re (drop T) [wd w,wd n] {NC.of k with nm:=n}:=by
 intro st rest hb hr;have hb0:bare st.r=wd w::wd n::rest:=hb;have hb1:=Oq hb0;unfold drop;rw[jL hb0 _ 0 i hi];dsimp only;rw[dB hn hb1];dsimp only;rw[cV,Nat.zero_add,hk];rfl
theorem tN{r p:UInt8}{word n on:Bs}(hn:NX n)(ho:NX on):Re (share T r p word) [wd n,wd word,wd on] {NC.of r with nm:=n,on:=on}:=by
 intro st rest hb hr;have hb0:bare st.r=wd n::wd word::wd on::rest:=hb;have hb1:=Oq hb0;have hb2:=Oq hb1;unfold share;rw[if_pos (zj hn hb0)];dsimp only;rw[dB hn hb0];dsimp only;rw[dN hb1 (EM _),dB ho hb2];dsimp only;rw[cV,cV];rfl
theorem DU{st:St}{w:Bs}{rest:List BT}(hb:bare st.r=wd w::rest)(hw:Lex.fJ w=true):¬named st=true:=by
 unfold named;cases hr:st.r with
 |nil=>simp
 |cons t r=>
  rw[hr]at hb;have e:(t.1,t.2.1)=wd w:=(List.cons.inj hb).1;have e2:t.2.1=w:=congrArg Prod.snd e;dsimp only;rw[e2,hw];simp
theorem ti{r p:UInt8}{pv:List UInt8}{word n on:Bs}(hp:uV pv)(hn:NX n)(ho:NX on):∀(st:St) (rest:List BT),bare st.r=(pd pv++[wd [111,110],wd n,wd word,wd on])++rest→share T r p word st=({NC.of p with pv:=pv,nm:=n,on:=on},NO (pd pv++[wd [111,110],wd n,wd word,wd on]).length st):=by
 intro st rest hb;have hb0:bare st.r=pd pv++wd [111,110]::wd n::wd word::wd on::rest:=by rw[hb];simp
 have hb1:=dt hb0;have hb2:=Oq hb1;have hb3:=Oq hb2;have hb4:=Oq hb3;have hnn:¬named st=true:=by
  obtain⟨x,l,e⟩:∃x l,pv=x::l:=by
   cases pv with
   |nil=>exact absurd rfl hp.1
   |cons x l=>exact⟨x,l,rfl⟩
  have hx:Uk x:=hp.2.2 x (by rw[e];simp);rw[e]at hb0;exact DU hb0 (Bz hx).2
 unfold share;rw[if_neg hnn,GN T hp st _ hb0 fun w hw=>by simp at hw;rw[hw];rfl];dsimp only;rw[dN hb1 (by decide),dB hn hb2];dsimp only;rw[dN hb3 (EM _),dB ho hb4];dsimp only;simp only[cV];exact eV (by simp only[ah,ab,ai])
theorem Cw{n on:Bs}(hn:NX n)(ho:NX on):Re (fE T) [wd n,wd [116,111],wd on] {NC.of 10 with nm:=n,on:=on}:=by
 intro st rest hb hr;unfold fE;rw[tN hn ho st rest hb hr];dsimp only;rw[if_neg (fun h=>absurd h.1 (by decide:¬(10:UInt8)=12))]
theorem DH{pv:List UInt8}{n on:Bs}{opt:Bool}(hp:uV pv)(hn:NX n)(ho:NX on):Re (fE T) (pd pv++([wd [111,110],wd n,wd [116,111],wd on]++bB opt [wd [119,105,116,104],wd [103,114,97,110,116],wd [111,112,116,105,111,110]])) {NC.of 12 with pv:=pv,nm:=n,on:=on,opt:=opt}:=by
 intro st rest hb hr;have hb0:bare st.r=(pd pv++[wd [111,110],wd n,wd [116,111],wd on])++(bB opt [wd [119,105,116,104],wd [103,114,97,110,116],wd [111,112,116,105,111,110]]++rest):=by rw[hb];simp
 have hb1:=dt hb0;unfold fE;rw[ti hp hn ho st _ hb0];dsimp only;cases opt with
 |false=>
  rw[if_neg (fun h=>gH (rest:=rest) hb1 (hr _ (by decide)) h.2)];exact eV (by simp[bB])
 |true=>
  have hb2:bare (NO (pd pv++[wd [111,110],wd n,wd [116,111],wd on]).length st).r=wd [119,105,116,104]::wd [103,114,97,110,116]::wd [111,112,116,105,111,110]::rest:=hb1;rw[if_pos ⟨rfl,gd hb2 (by decide)⟩,dn,vd (Oq hb2) (by decide) (by decide),cV,cV];exact eV (by simp only[bB,bo,ah,ab,ai])
theorem CH{n:Bs}{v:List (List Ex)}(hn:NX n)(hv:LG yb 16 v):Re (insert T) (wd [105,110,116,111]::wd n::wd [118,97,108,117,101,115]::bC oY v) {NC.of 14 with nm:=n,vals:=v}:=by
 intro st rest hb hr;have hb0:bare st.r=wd [105,110,116,111]::wd n::wd [118,97,108,117,101,115]::(bC oY v++rest):=hb;have hb1:=Oq hb0;have hb2:=Oq hb1;unfold insert;rw[dN hb0 (by decide),dB hn hb1];dsimp only;rw[dN hb2 (by decide),kn (T:=T) (most:=16) (S:=[]) (b:=oY) (by intro w hw;cases hw) (fun y hy=>EW T (hv.2.2 y hy)) hv.1 hv.2.1 _ rest (Oq hb2) (hr.all (by decide))];dsimp only;simp only[cV];exact eV (by simp only[ab]<;>omega)
theorem C5{n:Bs}{l:List OI}{w:List Ex}(hn:NX n)(hl:LG Cv 16 l)(hw:QX w):Re (update T) (wd n::wd [115,101,116]::(bC yN l++RO [119,104,101,114,101] w)) {NC.of 15 with nm:=n,dD:=l,wh:=w}:=by
 intro st rest hb hr;have hb0:bare st.r=wd n::wd [115,101,116]::(bC yN l++(RO [119,104,101,114,101] w++rest)):=by rw[hb];simp
 have hb1:=Oq hb0;have hb2:=Oq hb1;have hb3:=dt hb2;unfold update;rw[dB hn hb0];dsimp only;rw[dN hb1 (by decide),kn (T:=T) (most:=16) (S:=So) (b:=yN) rQ (fun y hy=>Iv T (hl.2.2 y hy)) hl.1 hl.2.1 _ _ hb2 fun v hv=>AU ((by decide:∀v∈So++[[44]],dW v (wd [119,104,101,114,101])=false) v hv) (hr v ((by decide:∀v∈So++[[44]],v≠[59]) v hv))];dsimp only;rw[qG T hw _ rest hb3 (hr.all (by decide))];dsimp only;simp only[cV];exact eV (by simp only[ah,ab]<;>omega)
theorem Dy{n:Bs}{w:List Ex}(hn:NX n)(hw:QX w):Re (remove T) (wd [102,114,111,109]::wd n::RO [119,104,101,114,101] w) {NC.of 16 with nm:=n,wh:=w}:=by
 intro st rest hb hr;have hb0:bare st.r=wd [102,114,111,109]::wd n::(RO [119,104,101,114,101] w++rest):=hb;have hb1:=Oq hb0;unfold remove;rw[dN hb0 (by decide),dB hn hb1];dsimp only;rw[qG T hw _ rest (Oq hb1) (hr.all (by decide))];dsimp only;simp only[cV];exact eV (by simp only[ab]<;>omega)
theorem Gv{q:NS}(hq:PA q):Re (query T) (lQ q) {NC.of 17 with q:=[q]}:=by
 intro st rest hb hr;unfold query;rw[Fo hq st rest hb hr]
theorem rp(k:UInt8):Re (fun st=>(NC.of k,st)) [] (NC.of k):=fun _ _ _ _=>rfl
theorem ep{w:Bs}{f:St→NC×St}{L:List (Bs×(St→NC×St))}{l:List BT}{s:NC}(hf:L.find? (fun v=>dW v.1 (wd w))=some (w,f))(h:Re f l s):Re (pick T L) (wd w::l) s:=by
 intro st rest hb hr;have hb0:bare st.r=wd w::(l++rest):=hb;rw[JL hb0 L hf];dsimp only;rw[h _ rest (Oq hb0) hr,cV];exact eV (by simp only[ab]<;>omega)
theorem Re.cast{α:Type}{f:St→α×St}{l m:List BT}{x:α}(h:Re f l x)(e:m=l):Re f m x:=e▸h
theorem vp{s:NC}(h:Pu s):Re (pick T (mh T)) (bS s) s:=by
 cases h with
 | @table n cs hn hc=>exact ep (w:=[99,114,101,97,116,101]) (f:=create T) rfl (ep (w:=[116,97,98,108,101]) (f:=table T) rfl (GI hn hc))
 | @view n q hn hq=>exact Re.cast (ep (w:=[99,114,101,97,116,101]) (f:=create T) rfl (ep (w:=[118,105,101,119]) (f:=view T) rfl (Kr hn hq))) (by show wd [99,114,101,97,116,101]::wd [118,105,101,119]::wd n::wd [97,115]::wd [115,101,108,101,99,116]::[q].flatMap lQ=_;simp)
 | @fh n on t ev v hn he ho ht hv=>exact Re.cast (ep (w:=[99,114,101,97,116,101]) (f:=create T) rfl (ep (w:=[116,114,105,103,103,101,114]) (f:=fh T) rfl (yA hn he ho ht hv))) (by show [wd [99,114,101,97,116,101],wd [116,114,105,103,103,101,114],wd n,wd [97,102,116,101,114],wd (word ((ev.toNat:Int)-14) [[105,110,115,101,114,116],[117,112,100,97,116,101],[100,101,108,101,116,101]]),wd [111,110],wd on,wd [105,110,115,101,114,116],wd [105,110,116,111],wd t,wd [118,97,108,117,101,115]]++[v].flatMap oY=_;simp)
 | @fN n on t e hn ho ht he=>exact Re.cast (ep (w:=[99,114,101,97,116,101]) (f:=create T) rfl (ep (w:=[112,111,108,105,99,121]) (f:=fN T) rfl (BW hn ho ht he))) (by show [wd [99,114,101,97,116,101],wd [112,111,108,105,99,121],wd n,wd [111,110],wd on,wd [116,111],wd t,wd [117,115,105,110,103],sg [40]]++([e].flatMap bE++[sg [41]])=_;simp)
 | @role n key hn hk=>exact ep (w:=[99,114,101,97,116,101]) (f:=create T) rfl (ep (w:=[114,111,108,101]) (f:=role T) rfl (J5 hn))
 | @drop k n hk hn=>
  simp only[af,aj,aH]at hk;rcases hk with rfl|rfl|rfl|rfl
  ·exact ep (w:=[100,114,111,112]) (f:=drop T) rfl (qi (w:=[116,97,98,108,101]) (i:=0) hn (by decide) rfl)
  ·exact ep (w:=[100,114,111,112]) (f:=drop T) rfl (qi (w:=[118,105,101,119]) (i:=1) hn (by decide) rfl)
  ·exact ep (w:=[100,114,111,112]) (f:=drop T) rfl (qi (w:=[116,114,105,103,103,101,114]) (i:=2) hn (by decide) rfl)
  ·exact ep (w:=[100,114,111,112]) (f:=drop T) rfl (qi (w:=[112,111,108,105,99,121]) (i:=3) hn (by decide) rfl)
 | @share k n on hk hn ho=>
  simp only[af,aj,aH]at hk;rcases hk with rfl|rfl
  ·exact ep (w:=[103,114,97,110,116]) (f:=fE T) rfl (Cw hn ho)
  ·exact ep (w:=[114,101,118,111,107,101]) (f:=gj T) rfl (tN hn ho)
 | @fE pv n on opt hp hn ho=>exact ep (w:=[103,114,97,110,116]) (f:=fE T) rfl (DH hp hn ho)
 | @gj pv n on hp hn ho=>exact ep (w:=[114,101,118,111,107,101]) (f:=gj T) rfl (fun st rest hb _=>ti hp hn ho st rest hb)
 | @insert n v hn hv=>exact ep (w:=[105,110,115,101,114,116]) (f:=insert T) rfl (CH hn hv)
 | @update n l w hn hl hw=>exact ep (w:=[117,112,100,97,116,101]) (f:=update T) rfl (C5 hn hl hw)
 | @remove n w hn hw=>exact ep (w:=[100,101,108,101,116,101]) (f:=remove T) rfl (Dy hn hw)
 | @query q hq=>exact Re.cast (ep (w:=[115,101,108,101,99,116]) (f:=query T) rfl (Gv hq)) (by show wd [115,101,108,101,99,116]::[q].flatMap lQ=_;simp)
 | @plain k hk=>
  simp only[af,aj,aH]at hk;rcases hk with rfl|rfl|rfl
  ·exact ep (w:=[98,101,103,105,110]) (f:=fun st=>(NC.of 18,st)) rfl (rp 18)
  ·exact ep (w:=[99,111,109,109,105,116]) (f:=fun st=>(NC.of 19,st)) rfl (rp 19)
  ·exact ep (w:=[114,111,108,108,98,97,99,107]) (f:=fun st=>(NC.of 20,st)) rfl (rp 20)
end
theorem run_read{T:Nat}{s:NC}(h:Pu s){l:List Tok}(hb:bare l=bS s∨bare l=bS s++[sg [59]]):(run T l).1=s∧(run T l).2.e=0∧(run T l).2.d=false:=by
 have key:∀rest:List BT,bare l=bS s++rest→DS rest→pick T (mh T) ⟨l,0,0,false⟩=(s,NO (bS s).length ⟨l,0,0,false⟩):=fun rest hb hr=>vp h ⟨l,0,0,false⟩ rest hb hr
 unfold run;rcases hb with hb|hb
 ·have hb':bare l=bS s++[]:=by rw[hb,bF]
  have e:=key [] hb' xz;rw[e];dsimp only;have hr:(NO (bS s).length (⟨l,0,0,false⟩:St)).r=[]:=by have h1:=dt (st:=⟨l,0,0,false⟩) hb';exact aC (by rw[←iv,h1];rfl)
  have ha:acc [59] (NO (bS s).length (⟨l,0,0,false⟩:St))=NO (bS s).length ⟨l,0,0,false⟩:=by unfold acc;rw[if_neg];unfold dh;rw[hr];decide
  rw[ha,if_pos hr];exact⟨rfl,rfl,rfl⟩
 ·have e:=key [sg [59]] hb (th []);rw[e];dsimp only;have h1:=dt (st:=⟨l,0,0,false⟩) hb;have ha:acc [59] (NO (bS s).length (⟨l,0,0,false⟩:St))=NO 1 (NO (bS s).length ⟨l,0,0,false⟩):=by unfold acc;rw[if_pos (gd h1 (by decide)),dn]
  have hr:(NO 1 (NO (bS s).length (⟨l,0,0,false⟩:St))).r=[]:=aC (by rw[←iv,Oq h1];rfl);rw[ha,if_pos hr];exact⟨rfl,rfl,rfl⟩
end I
end
end Go.Proofs.YtnicfobpclehkaaGreatDoor
