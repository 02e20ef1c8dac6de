import Derived.Test.YtnicfobpclehkaaGreatDoorP1
set_option maxHeartbeats 200000
set_option linter.unusedVariables false
set_option linter.unusedSimpArgs false
namespace Go.Proofs.YtnicfobpclehkaaGreatDoor
namespace Lex
def pad(nt:List UInt8):List UInt8:=9::32::45::45::(nt++[10,32])
theorem ua:∀(nt:List UInt8) (W:List UInt8),(∀c∈nt,c.toNat≠10)→skip true (nt++10::W)=skip false W:=by
 intro nt;induction nt with
 |nil=>intro W _;simp[skip]
 |cons c nt ih=>
  intro W h;simp only[List.cons_append,skip];rw[if_neg (h c (by simp))];exact ih W fun d hd=>h d (by simp[hd])
theorem EF(nt:List UInt8)(W:List UInt8)(h:∀c∈nt,c.toNat≠10):skip false (pad nt++W)=skip false W:=by
 have e:pad nt++W=9::32::45::45::(nt++10::32::W):=by simp[pad]
 have h1:=ua nt (32::W) h;rw[e];simp[skip,blank,dQ,h1]
end Lex
end Go.Proofs.YtnicfobpclehkaaGreatDoor
