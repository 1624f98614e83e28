/-
  A part of the proof that the erased node of towncrier reads nothing (TopErased).
-/
import Derived.Test.YtaebfkcgdmodlaaGreatDoorJ06
namespace Go.Proofs.YtaebfkcgdmodlaaGreatDoor
open Go.RowKit Go.Proofs.Tryz
set_option maxHeartbeats 16000000
set_option maxRecDepth 100000
set_option linter.unusedVariables false
set_option linter.unusedSimpArgs false
variable{bx:List Bx}{b:Nat}{w0:World}
theorem Xj {is:List It}(p N M:Nat)(X:gY)(k:Nat)(x:gT)(v:ByteArray)(w:World)(E:Env b w0 (dJ p X::bx) (own X.ma M::is) w)(hN:N≤1000000)(hM:M+x.r.l.length≤1000000)(hx:X.x.all.l[k]?=some x)(hl:∀s2 M2 w',Env b w0 (dJ p ⟨X.x,X.rc,s2⟩::bx) (own s2 M2::is) w'→X.x.all.aA w' w' N) :
  Calls prog 191 #[p,(k:Int),v] w fun e w'=>∃s2:Sl bS,e=()∧Hid (s2.l=X.ma.l++x.r.l.map fun n=>⟨X.x.me,n,9,k,0,0,0,v,0,0⟩)∧Env b w0 (dJ p ⟨X.x,X.rc,s2⟩::bx) (own s2 (M+x.r.l.length)::is) w':=by
 have HL:=L_ hl;have HX:=L_ hx;have hlt:k<X.x.all.l.length:=(Zo.1 hx).1;have hL:=hl X.ma M w E;obtain⟨bb,off,x',hA,-,hx',hcc,-⟩:=hL.get (k:=k) hlt;have d0:w.cell? ⟨bb,off+k*2,none⟩=some (.slice x.r.A x.r.l.length x.r.c):=hL.gI (i:=0) hA hx rfl;clear hl hx hL hx' hcc
 go_enter func191,ntmps191
 refine G E [5,84,0,40,84] ?_;refine bQ d0 ?_;refine G0 [0,0] ?_;clear d0;refine G0 [4,19] ?_
 go_loopw [18] (fun y wr=>∃(j:Nat) (s2:Sl bS),y=(j:Int)∧j≤x.r.l.length∧Hid (s2.l=X.ma.l++(x.r.l.take j).map fun n=>⟨X.x.me,n,9,k,0,0,0,v,0,0⟩)∧Env b w0 (dJ p ⟨X.x,X.rc,s2⟩::bx) (own s2 (M+j)::is) wr) (fun y _=>x.r.l.length - (intOf y).toNat)
 case atStart=>exact⟨0,X.ma,rfl,Zq _,L_ (by simp),E⟩
 case round=>
  clear E;obtain⟨j,s2,rfl,hj,hs,E⟩:=hrel;refine bN ?_
  by_cases hjl:j<x.r.l.length
  ·have hw:IntKind.i64.wrap ((j:Int)+1)=((j+1:Nat):Int):=by rw[aaP _ (by omega)];rfl
   have hR:x.r.aA wr wr N:=((HL _ _ _ E).2.2.2.2 x (Zk HX)).1;obtain⟨bc,of2,n,hA2,-,hn,hcc,-⟩:=hR.get (k:=j) hjl;have d1:wr.cell? ⟨bc,of2+j,none⟩=some (.int .i64 n):=by simpa[aj.sz] using hcc 0 _ rfl
   have HN:=L_ hn;clear hR hcc hn;refine G0 [0,4,16,15,18,5,0] ?_;refine bQ d1 ?_;clear d1;refine fV ?_;refine aC (fO 0 16 E ?_);clear E;intro w2 E;refine ay 0 E ?_;refine ay 1 E ?_;refine ay 2 E ?_;refine ay 3 E ?_;refine aX 4 0 E ?_;refine ay 5 E ?_;refine ay 6 E ?_;refine ay 7 E ?_;refine ay 8 E ?_;refine aX 9 0 E ?_;refine ay 10 E ?_;refine ay 11 E ?_;refine ay 12 E ?_;refine ay 13 E ?_;refine uZ 14 E ?_;clear E;intro g36 w3 E;refine dL ?_;refine DX 15 0 (s:=s2) (M+(j+1)) (⟨some ⟨g36,0,none⟩,1,[(⟨X.x.me,n,9,k,0,0,0,v,0,0⟩:bS)]⟩:Sl bS) E (E.reads 0 1 10) (by have:=(show Sl.Own _ _ _ s2 from E.get 0).2.1;simp;omega) (by omega) ?_;clear E;intro s3 w4 h E;refine dL ?_;refine G E [30,0,0,61,20,23,0,0,9] ?_;clear E;intro w5 E;refine jI ?_
   go_roundw
   case rel=>exact⟨j+1,s3,rfl,hjl,L_ (by rw[h.out,hs.out,ZP,HN.out];simp),E.drop 1⟩
   case measure=>simp[intOf];omega
  ·refine fV ?_;refine G0 [4,17,27,28] ?_
   go_end0
   exact⟨s2,rfl,L_ (by rw[hs.out,Zz (by omega)]),E.less 0 (i:=own s2 (M+j)) (i':=own s2 (M+x.r.l.length)) fun h=>Sl.Own.mono h (Zh _) (by omega)⟩
end Go.Proofs.YtaebfkcgdmodlaaGreatDoor
