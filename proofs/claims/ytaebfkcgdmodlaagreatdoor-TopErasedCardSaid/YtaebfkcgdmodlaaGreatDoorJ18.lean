/-
  A part of the proof that the erased node of towncrier reads nothing (TopErased).
-/
import Derived.Test.YtaebfkcgdmodlaaGreatDoorJ17
import Derived.Test.YtaebfkcgdmodlaaGreatDoorJ12
namespace Go.Proofs.YtaebfkcgdmodlaaGreatDoor
open Go.RowKit Go.Proofs.Tryz
set_option maxHeartbeats 16000000
set_option maxRecDepth 100000
set_option linter.unusedVariables false
set_option linter.unusedSimpArgs false
variable{me:Int}
section
attribute [local irreducible] wpList av
structure jq (me num:Int)(g:gT)(y:dZ)(q:Int):Prop where
 log:y.log.l=[]
 vs:y.vs.l=[]
 wi:y.wi.l=[]
 t:qC y.t iZ
 ok:0≤me→me<6→0≤num→num<4→cB g.r.l g.m.l=0→me∈g.r.l→y.me=me∧y.num=num∧y.g.r.l=g.r.l∧y.g.m.l=g.m.l
theorem jq.z {num:Int}{g:gT}{q:Int}(h:0≤me→me<6→0≤num→num<4→cB g.r.l g.m.l=0→me∈g.r.l→False):jq me num g iN q:=⟨rfl,rfl,rfl,⟨rfl,rfl,rfl,rfl,rfl,rfl,rfl⟩,fun a b c d e f=>(h a b c d e f).elim⟩
theorem Sb (me num:Int)(g:gT)(w:World)(N:Nat)(hl:au.aA w w N g)(hN:N≤1000000) :
  Calls prog 83 #[me,num,g] w fun e w'=>∃(y:dZ) (q:Int),e=.returned (.tuple #[y,q])∧Hid (jq me num g y q)∧Env w w [] (sJ y N) w':=by
 have HL:=L_ hl;clear hl;have E:=Env.start w
 go_enter func83,ntmps83
 refine G E [5,71,3,70,3,0,4,6,5,0,9] ?_;clear E;intro g5 g6 w3 E
 by_cases c1:me<0
 case pos=>
  refine G E [0,0,1,81,4,7,5,0,60,0,4,22,24,9] ?_;clear E;intro w4 E;exact aI 0 E ⟨iN,2,rfl,L_ (jq.z fun a b c d e f=>by omega),(E.drop 2).iN N⟩
 refine G0 [84] ?_
 by_cases c2:6≤me
 case pos=>
  refine G E [84,1,80,2,4,7,5,0,60,0,4,22,24,9] ?_;clear E;intro w5 E;exact aI 0 E ⟨iN,2,rfl,L_ (jq.z fun a b c d e f=>by omega),(E.drop 2).iN N⟩
 refine G0 [84,0] ?_
 by_cases c3:num<0
 case pos=>
  refine G E [84,1,1,0,4,7,5,0,60,0,4,22,24,9] ?_;clear E;intro w6 E;exact aI 0 E ⟨iN,2,rfl,L_ (jq.z fun a b c d e f=>by omega),(E.drop 2).iN N⟩
 refine G0 [84,0] ?_
 by_cases c4:4≤num
 case pos=>
  refine G E [0,0,4,7,5,0,60,0,4,22,24,9] ?_;clear E;intro w7 E;exact aI 0 E ⟨iN,2,rfl,L_ (jq.z fun a b c d e f=>by omega),(E.drop 2).iN N⟩
 refine G0 [0,0,4,8,15,6,5] ?_;refine aB 1 2 E ?_;refine ah (OE g _ N (E.h HL) (by omega)) ?_;rintro _ w8 ⟨rfl,hb⟩;replace E:=E.up hb;clear hb;refine G0 [26] ?_
 by_cases h5:(cB g.r.l g.m.l !=0)=true
 case pos=>
  refine G E [0,4,5,0,0,4,7,5,0,0,60,0,4,22,24,9] ?_;clear E;intro w9 E;exact aI 0 E ⟨iN,_,rfl,L_ (jq.z fun a b c d e f=>(by simp[e] at h5)),(E.drop 2).iN N⟩
 replace h5:(cB g.r.l g.m.l !=0)=false:=by simpa using h5
 refine G E [0,4,5,0,0,4,8,15,6,5,0,41,0] ?_;refine ah (tY g.r me _ N (E.h HL).1 (by omega)) ?_;rintro _ w10 ⟨rfl,rfl⟩;refine G0 [26] ?_
 by_cases h6:me∈g.r.l
 case neg=>
  refine G E [0,4,7,5,0,60,0,4,22,24,9] ?_;clear E;intro w11 E;exact aI 0 E ⟨iN,6,rfl,L_ (jq.z fun a b c d e f=>h6 f),(E.drop 2).iN N⟩
 refine G0 [0,4,8,15,5] ?_;clear h6 h5 c1 c2 c3 c4;refine G0 [0,0] ?_;refine aB 1 2 E ?_;refine fV ?_;refine ah (yB ⟨me,num,g,⟨none,0,[]⟩,⟨none,0,[]⟩,iZ,⟨none,0,[]⟩,0⟩ _ N ⟨(E.h HL).1,(E.h HL).2,Sl.dh,Sl.dh,Sl.dh,Sl.dh,Sl.dh,Sl.dh⟩ (by omega)) (hr:=by go_simp<;>simp[iZ]) ?_;rintro _ w12 ⟨y,rfl,hy,F⟩;replace E:=E.call F;clear F;refine G E [26,60,0,4,22,9] ?_;clear E;intro w13 E;exact aI 0 E ⟨y,0,rfl,L_ ⟨hy.log,hy.vs,hy.wi,hy.t,fun _ _ _ _ _ _=>⟨hy.me,hy.num,hy.r,hy.m⟩⟩,E.drop 2⟩
end
variable{k:Nat}
section
attribute [local irreducible] wpList av aH
theorem NW (s r:Sl Int)(w:World)(N:Nat)(h:s.aA w w N)(h2:r.aA w w N)(hN:N≤1000000):Calls prog 93 #[s,r] w fun e w'=>e=.returned (.bool (decide (s.l=r.l)))∧Below w w w':=
 (rZ s.A s.l.length s.c r.A r.l.length r.c w w s.l r.l w (by have:=h.1;rwa[fF] at this) (by have:=h2.1;rwa[fF] at this) (by have:=h.2.2.2.1;omega) (by have:=h2.2.2.2.1;omega) _ rfl).mono fun e w' ⟨h1,q,h2⟩=>⟨h1,by rw[h2];exact below_drewN (aaO _ _) q⟩
structure jN (X:jl):Prop where
 me:0≤X.me∧X.me<6
 all:nG X.all.l
 se:∀s∈X.se.l,yL s∧s.me=X.me∧∃(k:Nat) (g:gT),s.num=(k:Int)∧X.all.l[k]?=some g∧s.g.r.l=g.r.l
 own:∀k:Nat,k<X.all.l.length→mD X (k:Int)=true→∃s∈X.se.l,s.num=(k:Int)
 n:X.se.l.length≤4
structure rO (X:jl)(k n:Nat):Prop where
 le:n≤k∧n≤X.se.l.length
 se:∀(j:Nat) (s:dZ),j<n→X.se.l[j]?=some s→yL s∧s.me=X.me∧∃(i:Nat) (g:gT),s.num=(i:Int)∧X.all.l[i]?=some g∧s.g.r.l=g.r.l
 own:∀i:Nat,i<k→mD X (i:Int)=true→∃s∈X.se.l,s.num=(i:Int)
theorem rO.skip {X:jl}{n:Nat}(h:rO X k n)(ho:mD X (k:Int)=false):rO X (k+1) n:=
 ⟨⟨by have:=h.le;omega,h.le.2⟩,h.se,fun i hi ho2=>by
  rcases aaA i k with h1|h1
  ·exact h.own i h1 ho2
  ·obtain rfl:i=k:=by omega
   rw[ho] at ho2;cases ho2⟩
theorem rO.more {X:jl}{n:Nat}{s:dZ}{g:gT}(h:rO X k n)(hs:X.se.l[n]?=some s)(hg:X.all.l[k]?=some g)(h1:yL s)(h2:s.me=X.me)(h3:s.num=(k:Int))(h4:s.g.r.l=g.r.l):rO X (k+1) (n+1):=
 ⟨⟨by have:=h.le;omega,(Zo.1 hs).1⟩,fun j t hj ht=>by
  rcases aaA j n with h5|h5
  ·exact h.se j t h5 ht
  ·obtain rfl:j=n:=by omega
   rw[hs] at ht;injection ht with ht
   subst ht;exact⟨h1,h2,k,g,h3,hg,h4⟩,fun i hi ho=>by
  rcases aaA i k with h5|h5
  ·exact h.own i h5 ho
  ·obtain rfl:i=k:=by omega
   exact⟨s,Zk hs,h3⟩⟩
theorem sO (X:jl)(w:World)(N:Nat)(hl:au.aA w w N X)(hN:N≤100000)(hN2:1000≤N)(hw:∀s∈X.se.l,yF s) :
  Calls prog 103 #[X] w fun e w'=>∃v:Int,e=.returned v∧Hid (v=0→jN X)∧Below w w w':=by
 have HL:=L_ hl;have HW:=L_ hw;have hsn:X.se.l.length≤N:=hl.2.1.2.2.2.1;have han:X.all.l.length≤N:=hl.1.2.2.2.1;have htn:X.ti.l.length≤N:=hl.2.2.2.2.2.1;have HNO:Hid ((8:Int)=0→jN X):=L_ (fun h=>absurd h (by decide));clear hl hw;have E:=Env.start w
 go_enter func103,ntmps103
 refine GD E [5,71,3,0,4,5,9] ?_;clear E;intro g1 w2 E;refine aB 0 4 E ?_;refine GD E [0,71,3,0,4,6,5,9] ?_;clear E;intro g13 w3 E;replace E:Env w w (dJ g13 ⟨X,⟨none,0,[]⟩,⟨none,0,[]⟩⟩::_) _ _:=E;refine GD E [84,0,40] ?_
 by_cases c1:X.me<0
 case pos=>
  refine G0 [0,0,1,81,80,4,7,5,0,4,22,24] ?_;exact ak ⟨8,rfl,HNO,E.aD⟩
 refine GD E [83,0,40] ?_
 by_cases c2:6≤X.me
 case pos=>
  refine G0 [84,1,80,2,2,4,7,5,0,4,22,24] ?_;exact ak ⟨8,rfl,HNO,E.aD⟩
 refine GD E [83,0,0,40] ?_;refine ah (Fe X.all _ N (E.h HL).1 (by omega)) ?_;rintro _ w4 ⟨v,rfl,hG,hb⟩;replace E:=E.up hb;clear hb;refine G0 [26] ?_
 by_cases h0:(v !=0)=true
 case pos=>
  refine G0 [0,0,4,7,5,0,4,22,24] ?_;exact ak ⟨8,rfl,HNO,E.aD⟩
 replace h0:(v !=0)=false:=by simpa using h0
 refine GD E [0,0,4,8,15,5,0,4,6,5,84,0,40,0,0,4,19] ?_;obtain rfl:v=0:=by simpa using h0
 have HG:=L_ (hG rfl);have HME:Hid (0≤X.me∧X.me<6):=L_ (by omega);have hal:=HG.2.1;clear h0 c1 c2 hG
 go_loopw [4,43] (fun z y wr=>∃(k n:Nat),y=(k:Int)∧z=(n:Int)∧k≤X.all.l.length∧Hid (rO X k n)∧Env w w (dJ g13 ⟨X,⟨none,0,[]⟩,⟨none,0,[]⟩⟩::(g1,45,X)::[]) [] wr) (fun _ y _=>X.all.l.length - (intOf y).toNat)
 case atStart=>exact⟨0,0,rfl,rfl,Zq _,L_ ⟨⟨Zh _,Zq _⟩,fun j s h=>absurd h (Nat.not_lt_zero _),fun i h=>absurd h (Nat.not_lt_zero _)⟩,E⟩
 case round=>
  clear E;obtain⟨k,n,rfl,rfl,hk,HS,E⟩:=hrel
  by_cases hlt:k<X.all.l.length
  case pos=>
   have hnk:=HS.le.1;have hw:IntKind.i64.wrap ((k:Int)+1)=((k+1:Nat):Int):=by rw[aaP _ (by omega)];rfl
   have hwn:IntKind.i64.wrap ((n:Int)+1)=((n+1:Nat):Int):=by rw[aaP _ (by omega)];rfl
   obtain⟨bb,off,g,hA,-,hg,hcc,-⟩:=(E.h HL).1.get (k:=k) hlt;replace hcc:=L_ hcc;replace hg:=L_ hg;refine G0 [5,0,4,16,15,18,5,0,0] ?_;refine fA g hcc ?_;clear hcc hA;refine GD E [70,3,0,60,4,6,5,0,0,9] ?_;clear E;intro g6 w6 E;replace E:=E.bD 1;refine ah (EC g13 N ⟨X,⟨none,0,[]⟩,⟨none,0,[]⟩⟩ (k:Int) _ E (by omega) (fun w' E'=>(E'.h HL).1) ⟨by omega,by omega⟩) ?_;clear E;rintro _ w7 ⟨rfl,E⟩;refine G0 [26] ?_;obtain⟨q,hq⟩:∃q,mD X (k:Int)=q:=⟨_,rfl⟩;rw[hq];replace hq:=L_ hq;cases q
   case false=>
    refine G0 [0,4,7,27,28,23,0,0,25] ?_
    go_roundw
    case rel=>exact⟨k+1,n,rfl,rfl,hlt,L_ (HS.skip hq),E.only 1⟩
    case measure=>simp[intOf];omega
   case true=>
    refine GD E [0,4,8,15,6,5,83,40,0] ?_
    by_cases e1:((n:Int)==(X.se.l.length:Int))=true
    case pos=>
     refine G0 [0,4,7,5,0,4,22,24] ?_;exact ak ⟨8,rfl,HNO,E.aD⟩
    replace e1:((n:Int)==(X.se.l.length:Int))=false:=by simpa using e1
    refine G0 [0,4,8,15] ?_;have hns:n<X.se.l.length:=by have h1:=HS.le.2;have h:¬(n:Int)=(X.se.l.length:Int):=(by simpa using e1);omega
    clear e1;obtain⟨bb,off,s,hA,-,hs,hcc,-⟩:=(E.h HL).2.1.get (k:=n) hns;replace hcc:=L_ hcc;replace hs:=L_ hs;have HSL:Hid (au.aA w w N s):=L_ (HL.2.1.2.2.2.2 s (Zk hs));have HGL:Hid (au.aA w w N g):=L_ (HL.1.2.2.2.2 g (Zk hg));refine GD E [5,84,0,40,0,0] ?_;refine fA s hcc ?_;clear hcc hA;refine GD E [70,3,60,9] ?_;clear E;intro g7 w9 E;refine aC (wp_seq (bP 0 34 [] (aaL [0]++aaN [1]++aaL [2,3,4,5,6,7,8,9,10,11,12,13,14,15,16,17,18,19,20,21,22,23,24]++aaN [25]++aaL [26,27,28,29,30,31,32,33]) E ?_));clear E;intro w10 E;refine gZ 0 15 E ?_;refine bT (xq s _ N (E.h HSL) hN hN2 (HW s (Zk hs))) ?_;rintro _ w11 ⟨⟨v,rfl,hv⟩,hb⟩;replace E:=E.up hb;clear hb;replace hv:=L_ hv;refine⟨_,rfl,E.weak,D_n ?_⟩
    by_cases e1:(v !=0)=true
    case pos=>
     refine GD E [32,32,36,33,33,33,32,32,33,33,33,33,32,32,36,34,33,32,32,36,29,1,1,0,4,7,5,0,4,22,24] ?_;exact ak ⟨8,rfl,HNO,E.aD⟩
    replace e1:(v !=0)=false:=by simpa using e1
    refine GD E [32,32,32,50,32,32,32,32,51] ?_
    by_cases e2:(s.me !=X.me)=true
    case pos=>
     refine GD E [32,32,32,33,33,33,33,32,32,36,34,33,32,32,36,29,1,1,0,4,7,5,0,4,22,24] ?_;exact ak ⟨8,rfl,HNO,E.aD⟩
    replace e2:(s.me !=X.me)=false:=by simpa using e2
    refine GD E [32,32,32,32,50,32] ?_
    by_cases e3:(s.num !=(k:Int))=true
    case pos=>
     refine GD E [32,32,32,36,34,33,32,32,36,29,1,1,0,4,7,5,0,4,22,24] ?_;exact ak ⟨8,rfl,HNO,E.aD⟩
    replace e3:(s.num !=(k:Int))=false:=by simpa using e3
    refine GD E [35,50,32,52] ?_;refine bT (NW s.g.r g.r _ N (E.h HSL).1 (E.h HGL).1 (by omega)) ?_;rintro _ w12 ⟨rfl,hb⟩;replace E:=E.up hb;clear hb;refine⟨_,rfl,E.weak,D_n ?_⟩;obtain⟨q1,hq1⟩:∃q1,decide (s.g.r.l=g.r.l)=q1:=⟨_,rfl⟩;rw[hq1];replace hq1:=L_ hq1;cases q1
    case false=>
     refine GD E [32,32,32,36,29,1,1,0,4,7,5,0,4,22,24] ?_;exact ak ⟨8,rfl,HNO,E.aD⟩
    case true=>
     refine GD E [35,50,32,52,29] ?_;refine ah (NW s.g.m g.m _ N (E.h HSL).2.1 (E.h HGL).2 (by omega)) ?_;rintro _ w13 ⟨rfl,hb⟩;replace E:=E.up hb;clear hb;refine G0 [26] ?_;obtain⟨q2,hq2⟩:∃q2,decide (s.g.m.l=g.m.l)=q2:=⟨_,rfl⟩;rw[hq2];clear hq2;cases q2
     case false=>
      refine G0 [0,0,4,7,5,0,4,22,24] ?_;exact ak ⟨8,rfl,HNO,E.aD⟩
     case true=>
      refine G0 [0,0,4,8,15,23,84,20,23,0,0,25] ?_
      go_roundw
      case rel=>exact⟨k+1,n+1,rfl,rfl,hlt,L_ (HS.more hs hg (hv (by simpa using e1)) (by simpa using e2) (by simpa using e3) (aae hq1)),(E.drop 1).only 1⟩
      case measure=>simp[intOf];omega
  case neg=>
   refine GD E [5,0,4,17,27,28,6,5,83,40,0] ?_
   by_cases e1:((n:Int) !=(X.se.l.length:Int))=true
   case pos=>
    refine G0 [0,4,7,5,0,4,22,24] ?_;exact ak ⟨8,rfl,HNO,E.aD⟩
   replace e1:((n:Int) !=(X.se.l.length:Int))=false:=by simpa using e1
   refine G0 [0,4,8,15,5] ?_;have HN:Hid (n=X.se.l.length):=L_ (by have h:(n:Int)=(X.se.l.length:Int):=(by simpa using e1);omega);have hkn:k=X.all.l.length:=by omega
   have HOK:Hid (jN X):=L_ ⟨HME,HG,fun s hs=>by obtain⟨j,hj⟩:=aaF hs;exact HS.se j s (by rw[HN.out];exact(Zo.1 hj).1) hj,fun i hi ho=>HS.own i (by omega) ho,by have:=HS.le.1;rw[←HN.out];omega⟩;clear e1 hkn hlt hk HS HN;refine fV ?_;refine ah (Gj g13 N ⟨X,⟨none,0,[]⟩,⟨none,0,[]⟩⟩ _ E (by omega) hN2 (fun w' E'=>⟨(E'.h HL).1,(E'.h HL).2.1⟩) (fun x hx=>(HW x hx).log)) ?_;clear E;rintro _ w14 ⟨gm,rfl,E⟩;refine GD E [26,0,4,6,5,84,0,40,0,0,4,19] ?_
   go_loopw [124] (fun y wr=>∃(j:Nat),y=(j:Int)∧j≤X.ti.l.length∧Env w w (dJ g13 ⟨X,⟨none,0,[]⟩,⟨none,0,[]⟩⟩::(g1,45,X)::[]) (sj gm::[]) wr) (fun y _=>X.ti.l.length - (intOf y).toNat)
   case atStart=>exact⟨0,rfl,Zq _,E⟩
   case round=>
    clear E;obtain⟨j,rfl,hj,E⟩:=hrel
    by_cases hlt:j<X.ti.l.length
    case pos=>
     have hw:IntKind.i64.wrap ((j:Int)+1)=((j+1:Nat):Int):=by rw[aaP _ (by omega)];rfl
     obtain⟨bb,off,t,hA,-,ht,hcc,-⟩:=(E.h HL).2.2.get (k:=j) hlt;replace hcc:=L_ hcc;clear ht;refine G0 [5,0,4,16,15,18,5,0,0] ?_;refine fA t hcc ?_;refine GD E [70,3,0,60,9] ?_;clear E;intro g10 w16 E;refine aC (bP 0 33 [] (aaL [0,1,2,3,4,5,6,7,8,9,10,11,12]++aaN [13]++aaL [14,15,16,17,18,19,20,21,22,23,24,25,26,27,28,29,30,31,32]) E ?_);clear E;intro w17 E;refine ni E ?_
     by_cases h0:0<j
     case' pos=>
      have h1:((0:Int)<(j:Int)):=by omega
      have hw2:IntKind.i64.wrap ((j:Int) - 1)=((j - 1:Nat):Int):=by rw[aaP _ (by omega)];omega
      have hj1:j - 1<X.ti.l.length:=by omega
      obtain⟨z,hz⟩:∃z,X.ti.l[j - 1]?=some z:=⟨_,Zl hj1⟩;replace hz:=L_ hz;refine GD E [35,32,51,32,32,32] ?_;refine R4 E z (fun w' E' q u hu=>by have h:=Sl.aA.gI (E'.h HL).2.2 (i:=q) hA hz hu;simpa[aj.sz] using h) ?_;refine gZ 0 3 E ?_;refine bT (rJ z t _) ?_;rintro _ w18 ⟨rfl,hb⟩;replace E:=E.up hb;clear hb;refine⟨_,rfl,E.weak,D_n ?_⟩;obtain⟨q,hq⟩:∃q,uF (bZ z.i t.i) (bZ z.g t.g)=q:=⟨_,rfl⟩;rw[hq];clear hq
      by_cases c7:0≤q
      case pos=>
       refine GD E [32,32,32,33,33,33,32,32,33,33,33,32,32,36,33,29,1,1,0,4,7,5,0,4,22,24] ?_;exact ak ⟨8,rfl,HNO,E.aD⟩
      iterate 4 refine ni E ?_
      clear c7 h1 h0 hw2 hj1 hz
     case' neg=>
      have h1:¬((0:Int)<(j:Int)):=by omega
      refine GD E [32,32,36,36,34,33,32,32,32] ?_;clear h1 h0
     all_goals
      clear hcc hA;refine Ee 0 E ?_
      by_cases c1:t.t<1
      case pos=>
       refine GD E [32,32,32,33,33,33,32,32,36,33,29,1,1,0,4,7,5,0,4,22,24] ?_;exact ak ⟨8,rfl,HNO,E.aD⟩
      refine GD E [32,32,32,32,50] ?_
      by_cases c2:1073741824<t.t
      case pos=>
       refine GD E [32,32,32,36,33,29,1,1,0,4,7,5,0,4,22,24] ?_;exact ak ⟨8,rfl,HNO,E.aD⟩
      refine GD E [35,50,32,50,32,29] ?_;clear c1 c2;refine SG (i:=t.i) (j:=t.g) 0 E ?_;intro c;cases c
      case false=>
       refine G0 [0,0,4,7,5,0,4,22,24] ?_;exact ak ⟨8,rfl,HNO,E.aD⟩
      case true=>
       refine G0 [0,0,4,8,21,23,0,0,25] ?_
       go_roundw
       case rel=>exact⟨j+1,rfl,hlt,E.drop 1⟩
       case measure=>simp[intOf];omega
    case neg=>
     refine G0 [5,0,4,17,27,28,5,0,4,22] ?_;exact ak ⟨0,rfl,L_ (fun _=>HOK),E.aD⟩
end
variable{Pg:Int→ByteArray→Prop}{bx:List Bx}{M M' N b j:Nat}{w w0:World}
section
attribute [local irreducible] wpList av aH
theorem CS (c:lJ)(w:World)(N:Nat)(h:au.aA w w N c)(hc:ny c):Calls prog 27 #[c] w fun e w'=>∃(t:ByteArray) (v:Int),e=.returned (.tuple #[t,v])∧Hid ((v=0↔Cp.dU c.hc.cmd=true)∧(v=0→t.data.toList=Cp.aV c.hc.cmd))∧Below w w w':=by
 refine(Hy c.hc w (c.at_ h hc) _ rfl _ rfl).mono ?_;rintro e w' ⟨h1,h2⟩;refine⟨_,_,h1,L_ ?_,h2⟩;unfold LV;cases hm:Cp.dU c.hc.cmd
 ·exact⟨by simp,fun h=>absurd h (by simp)⟩
 ·exact⟨by simp,fun _=>by simp[IC]⟩
def cO (X:gY)(N M K:Nat):List It:=[own X.ma M,own X.rc K,own X.x.se N,own X.x.all N,own X.x.ti N]
structure Dc (Pg:Int→ByteArray→Prop)(X:jl)(m:bS):Prop where
 f:m.f=X.me
 v:m.k=7∨Pg m.g m.v
 t:∃(k:Nat) (g:gT),m.g=(k:Int)∧X.all.l[k]?=some g∧m.t∈g.r.l
 wf:gN m
def DF (Pg:Int→ByteArray→Prop)(X:jl)(s:dZ):Prop:=lu (Pg s.num) s∧s.me=X.me∧∃(k:Nat) (g:gT),s.num=(k:Int)∧X.all.l[k]?=some g∧s.g.r.l=g.r.l
structure eF (Pg:Int→ByteArray→Prop)(X:gY):Prop where
 se:∀s∈X.x.se.l,DF Pg X.x s
 ma:∀m∈X.ma.l,Dc Pg X.x m
 rc:∀r∈X.rc.l,Pg r.g r.v∧Gs r
 ti:∀t∈X.x.ti.l,i64 t.t
 gr:nG X.x.all.l
 me:0≤X.x.me∧X.x.me<6
structure eX (X Y:gY):Prop where
 me:Y.x.me=X.x.me
 all:Y.x.all=X.x.all
 ti:Y.x.ti=X.x.ti
 num:Y.x.se.l.map (·.num)=X.x.se.l.map (·.num)
theorem eX.refl (X:gY):eX X X:=⟨rfl,rfl,rfl,rfl⟩
theorem eX.trans {X Y Z:gY}(h:eX X Y)(k:eX Y Z):eX X Z:=⟨k.me.trans h.me,k.all.trans h.all,k.ti.trans h.ti,k.num.trans h.num⟩
theorem eF.sz {X:gY}(h:eF Pg X)(hz:oH Pg):ED X.x.se.l:=fun x hx v hv=>(hz _ v ((h.se x hx).1.log v hv)).1
theorem Rm {l:List dZ}{s y:dZ}(hs:l[j]?=some s)(e:y.num=s.num):(l.set j y).map (·.num)=l.map (·.num):=by
 rw[List.map_set,e];refine List.ext_getElem? fun i=>?_;rw[aaH]
 split
 ·rename_i h
  subst h;rw[ZU,hs,aaS (by simpa using (Zo.1 hs).1)];rfl
 ·rfl
theorem DF.to {X:jl}{s y:dZ}(h:DF Pg X s)(t:sW (Pg s.num) s y):DF Pg X y:=
 ⟨by rw[t.num];exact t.inn,t.me.trans h.2.1,by obtain⟨k,g,h1,h2,h3⟩:=h.2.2;exact⟨k,g,t.num.trans h1,h2,t.r.trans h3⟩⟩
theorem eF.seat {X:gY}{s y:dZ}{rc:Sl Re}{ma:Sl bS}(h:eF Pg X)(hs:X.x.se.l[j]?=some s)(t:sW (Pg s.num) s y)(hr:∀r∈rc.l,Pg r.g r.v∧Gs r)(hm:∀m∈ma.l,Dc Pg X.x m):eF Pg ⟨⟨X.x.me,X.x.all,⟨X.x.se.A,X.x.se.c,X.x.se.l.set j y⟩,X.x.ti⟩,rc,ma⟩∧eX X ⟨⟨X.x.me,X.x.all,⟨X.x.se.A,X.x.se.c,X.x.se.l.set j y⟩,X.x.ti⟩,rc,ma⟩:=
 ⟨⟨fun z hz=>(aat hz).elim (fun h1=>h.se z h1) fun e=>by rw[e];exact(h.se s (Zk hs)).to t,fun m h1=>⟨(hm m h1).f,(hm m h1).v,(hm m h1).t,(hm m h1).wf⟩,hr,h.ti,h.gr,h.me⟩,rfl,rfl,rfl,Rm hs t.num⟩
theorem eF.TY {X:gY}{ma:Sl bS}(h:eF Pg X)(hm:∀m∈ma.l,Dc Pg X.x m):eF Pg ⟨X.x,X.rc,ma⟩:=⟨h.se,hm,h.rc,h.ti,h.gr,h.me⟩
theorem eF.out {X:gY}{s y:dZ}{rc:List Re}{ma:List bS}(h:eF Pg X)(hs:s∈X.x.se.l)(t:sW (Pg s.num) s y)(o:xD (Pg s.num) y rc ma):(∀r∈rc,Pg r.g r.v∧Gs r)∧∀m∈ma,Dc Pg X.x m:=by
 obtain⟨h1,h2,k,g,h3,h4,h5⟩:=h.se s hs;refine⟨fun r hr=>?_,fun m hm=>?_⟩
 ·obtain⟨a,b,c⟩:=o.rc r hr;exact⟨by rw[a,t.num];exact b,c⟩
 ·obtain⟨a,b,c,d,e⟩:=o.ma m hm;exact⟨a.trans (t.me.trans h2),d.imp id fun d=>by rw[b,t.num];exact d,⟨k,g,b.trans (t.num.trans h3),h4,by rw[←h5,←t.r];exact c⟩,e⟩
theorem Env.yI {K:Nat}{is:List It}{X:gY}(E:Env b w0 bx (cO X N M K++is) w)(h:M≤M'):Env b w0 bx (cO X N M' K++is) w:=E.l9 h
theorem Cb {is:List It}(p N:Nat)(X:gY)(id g:Int)(w:World)(E:Env b w0 (dJ p X::bx) is w)(hN:N≤100000)(hN2:1000≤N)(hl:∀w',Env b w0 (dJ p X::bx) is w'→X.x.se.aA w' w' N∧X.x.ti.aA w' w' N)(hz:ED X.x.se.l)(ht:∀t∈X.x.ti.l,i64 t.t) :
  Calls prog 171 #[p,id,g] w fun e w'=>∃t:Int,e=.returned t∧i64 t∧Env b w0 (dJ p X::bx) is w':=by
 have HL:=L_ hl;have HZ:=L_ hz;have HT:=L_ ht;clear hl hz ht
 go_enter func171,ntmps171
 refine G0 [5,0,4,6,5,0,0] ?_;refine ah (RG p N X g _ E (by omega) (fun w' E'=>(HL w' E').1)) ?_;clear E;rintro _ w2 ⟨y,rfl,hy,E⟩;refine G0 [26] ?_
 by_cases hy0:0≤y
 case pos=>
  refine G0 [0,4,5,0,0,4,7] ?_;obtain⟨k,s,rfl,hs,-,-⟩:=hy.resolve_left (fun h=>by omega);have hks:k<X.x.se.l.length:=(Zo.1 hs).1;obtain⟨bb,off,s2,hA,-,hs2,hcc,hsl⟩:=(HL _ E).1.get (k:=k) hks;rw[hs] at hs2;injection hs2 with hs2
  subst hs2;have d1:w2.cell? ⟨bb,off+k*15+4,none⟩=some (.slice s.log.A s.log.l.length s.log.c):=by simpa[aj.sz] using hcc 4 _ rfl
  have HSL:Hid (Sl.aA w2 w2 N s.log):=L_ hsl.2.2.1;have HLS:=L_ (HZ s (Zk hs));clear hcc hsl hs hy0 hy;refine GD E [5,83,40,84] ?_;refine bQ d1 ?_;clear d1 hA;refine ah (QZ g s.log _ N HSL hN hN2 HLS) ?_;rintro _ w3 ⟨o,v,rfl,ho,F⟩;replace E:=E.call F;clear F HSL;refine G0 [26,83,4,6,5,84,4,19] ?_;have hon:=E.on (s:=o) (N:=200) 0
  go_loopw [35] (fun y wr=>∃(k:Nat),y=(k:Int)∧k≤o.l.length∧Env b w0 (dJ p X::bx) (own o 200::is) wr) (fun y _=>o.l.length - (intOf y).toNat)
  case atStart=>exact⟨0,rfl,Zq _,E⟩
  case round=>
   clear E;obtain⟨i,rfl,hi,E⟩:=hrel
   by_cases hlt:i<o.l.length
   case pos=>
    have hw:IntKind.i64.wrap ((i:Int)+1)=((i+1:Nat):Int):=by rw[aaP _ (by omega)];rfl
    obtain⟨bb,off,t,hA,-,ht,hcc,-⟩:=(E.ol (s:=o) (N:=200) 0).get (k:=i) hlt;replace hcc:=L_ hcc;have HI:=L_ (ho t (Zk ht));clear ht;refine G0 [5,0,4,16,15,18,5,0] ?_;refine fA t hcc ?_;clear hcc hA
    by_cases h1:(t.i==id)=true
    case pos=>
     refine GD E [70,3,60,4,5,0,40,0,0,4,7,5,0,40,0,4,22,24,9] ?_;clear E;intro g11 w5 E;exact ak ⟨t.t,rfl,HI,(E.drop 1).tl⟩
    case neg=>
     replace h1:(t.i==id)=false:=by simpa using h1
     refine GD E [70,3,60,4,5,0,40,0,0,4,8,21,23,0,0,9] ?_;clear E;intro g11 w7 E;refine jI ?_
     go_roundw
     case rel=>exact⟨i+1,rfl,hlt,E.drop 1⟩
     case measure=>simp[intOf];omega
   case neg=>
    refine G0 [5,0,4,17,27,28,5,0,4,22,24] ?_;exact ak ⟨0,rfl,dO,E.tl⟩
 case neg=>
  refine GD E [0,4,5,0,0,4,8,15,6,5,84,0,40,84] ?_;clear hy hy0;refine ah (qU X.x.ti ⟨id,g,0⟩ _ N (HL _ E).2 (by omega)) ?_;rintro _ w8 ⟨k,bf,rfl,hbin,hb⟩;replace E:=E.up hb;clear hb;refine G0 [26] ?_;cases bf
  case true=>
   obtain⟨t,ht,-⟩:=hbin.2.2.2.1 rfl;have hks:k<X.x.ti.l.length:=(Zo.1 ht).1;obtain⟨bb,off,t2,hA,-,ht2,hcc,-⟩:=(HL _ E).2.get (k:=k) hks;rw[ht] at ht2;injection ht2 with ht2
   subst ht2;have HI:=L_ (HT t (Zk ht));have d1:=hcc 2 _ rfl;simp only[aj.sz] at d1;clear hcc ht hbin;refine GD E [83,4,5,0,4,7,5,84,0,40,84] ?_;refine bQ d1 ?_;refine G0 [0,4,22,24] ?_;exact ak ⟨t.t,rfl,HI,E⟩
  case false=>
   clear hbin;refine G0 [83,4,5,0,4,8,15,5,0,4,22] ?_;exact ak ⟨0,rfl,dO,E⟩
theorem Gq {is:List It}(Pg:Int→ByteArray→Prop)(p N M K:Nat)(X:gY)(k:Nat)(gx:gT)(c:lJ)(w:World)(E:Env b w0 (dJ p X::bx) (cO X N M K++is) w)(hI:eF Pg X)(hz:oH Pg)(hk:X.x.all.l[k]?=some gx)(hc:∀w',Env b w0 (dJ p X::bx) (cO X N M K++is) w'→au.aA w' w' N c)(hcw:ny c)(hP:Cp.dU c.hc.cmd=true→∀t:ByteArray,t.data.toList=Cp.aV c.hc.cmd→Pg (k:Int) t)(hN:N≤10000)(hN2:1000≤N)(hM:M≤900000) :
  Calls prog 123 #[p,(k:Int),c] w fun e w'=>∃(v:Int) (X':gY),e=.returned v∧Hid (eF Pg X'∧eX X X')∧Env b w0 (dJ p X'::bx) (cO X' N (M+6) K++is) w':=by
 have HI:=L_ hI;have HZ:=L_ hz;have HK:=L_ hk;have HC:=L_ hc;have HCW:=L_ hcw;have HP:=L_ hP;have hkl:k<X.x.all.l.length:=(Zo.1 hk).1;have hkn:k<4:=aal hkl hI.gr.2.1;clear hI hz hk hc hcw hP
 go_enter func123,ntmps123
 refine GD E [5,71,3,0,4,5,9] ?_;clear E;intro g5 w2 E;refine aB 0 12 E ?_;refine ah (CS c _ N (HC _ (E.drop 1)) HCW) ?_;rintro _ w3 ⟨t,v,rfl,ht,hb⟩;replace E:=E.up hb;clear hb;refine G0 [26] ?_
 by_cases h0:v=0
 case neg=>
  refine G0 [83,4,6,5,0,0,4,7,5,0,0,4,22,24] ?_;exact ak ⟨v,X,rfl,L_ ⟨HI,eX.refl X⟩,(E.drop 1).yI (by omega)⟩
 subst h0;refine G0 [83,4,6,5,0,0,4,8,15,5,0,0] ?_;have HV:=L_ (HP (ht.1.1 rfl) t (ht.2 rfl));clear ht;replace E:=E.bD 1;refine ah (RG p N X (k:Int) _ E (by omega) (fun w' E'=>E'.ol 2)) ?_;clear E;rintro _ w4 ⟨y,rfl,hy,E⟩;refine G0 [26] ?_
 by_cases hy0:y<0
 case pos=>
  refine G0 [0,4,6,5,0,0,4,7] ?_;have hgx:=HI.gr.2.2 gx (Zk HK);have hg6:gx.r.l.length≤6:=(dz (jk hgx).1).2;have HGR:=L_ (o9 (jk hgx).1);clear hgx;refine G0 [5,84] ?_;refine ah (Xj p N M X k gx t _ E (by omega) (by omega) HK (fun _ _ w' E'=>E'.ol 3)) ?_;clear E;rintro _ w5 ⟨s2,rfl,hs2,E⟩;refine G0 [26,4,5,0,4,22,24] ?_
  exact ak ⟨0,⟨X.x,X.rc,s2⟩,rfl,L_ ⟨HI.TY fun m hm=>by
   rw[hs2.out] at hm
   rcases Zm.1 hm with hm|hm
   ·exact HI.ma m hm
   ·obtain⟨n,hn,rfl⟩:=ZA.1 hm;have h1:=HGR n hn;have h2:=HI.me;exact⟨rfl,Or.inr HV,⟨k,gx,rfl,HK,hn⟩,jG X.x.me (by omega) (by omega),jG n (by omega) (by omega),⟨by show(0:Int)≤9;decide,by show(9:Int)≤255;decide⟩,jG (k:Int) (by omega) (by omega),dO,dO,dO,dO,dO,(HZ _ _ HV).1⟩,⟨rfl,rfl,rfl,rfl⟩⟩,((E.only 1).l9 (by omega))⟩
 case neg=>
  refine G0 [0,4,6,5,0,0,4,8,15] ?_;obtain⟨j,s,rfl,hs,hsk,-⟩:=hy.resolve_left (fun h=>by omega);have hjs:j<X.x.se.l.length:=(Zo.1 hs).1;have hnum:s.num=(k:Int):=by simpa using hsk.symm
  obtain⟨g,cur,hA,-,-,hcc⟩:=(show Sl.Own _ b N X.x.se from E.get 2).1.at_ hs;have HSL:=L_ ((E.ol (s:=X.x.se) (N:=N) 2).2.2.2.2 s (Zk hs));replace hcc:=L_ hcc;have HS:=L_ hs;have HNUM:=L_ hnum;have HSI:=L_ (HI.se s (Zk hs));clear hs hsk hnum hy hy0;refine GD E [5,84,0,40,0,0] ?_;refine fA s (fun q u hu=>hcc q u hu) ?_;clear hcc;replace E:=E.dQ (is':=own X.x.se N::own X.ma M::own X.rc K::own X.x.all N::own X.x.ti N::is) 5 [2,0,1,3,4];refine fV ?_;refine ah (Oz (Pg s.num) s t _ N HSL hN hN2 HSI.1 (HZ _) (HNUM.out▸HV.out)) ?_;rintro _ w6 ⟨y2,q,rfl,hq,F⟩;replace E:=E.call F;clear F HSL;refine G0 [26] ?_
  by_cases hq0:(q==0)=true
  case pos=>
   have hq1:q=0:=by simpa using hq0
   subst hq1;refine GD E [84,70,3,60,0,4,6,5,0,0,4,7,9] ?_;clear E;intro g10 w8 E;replace E:=Env.Yl (y:=y2) (s:=X.x.se) E;refine ng 0 7 [] (aaL [0,1,2,3,4,5,6]) E ?_;clear E;intro w9 E;refine GD E [32,32,32,32,51,32] ?_;refine gZ 0 15 E ?_;refine GD E [29,0] ?_;refine Oj 0 E hA HS y2 ?_;clear E;intro w10 E;refine G0 [4,5,0,0,4,22] ?_;exact ak ⟨0,⟨⟨X.x.me,X.x.all,⟨X.x.se.A,X.x.se.c,X.x.se.l.set j y2⟩,X.x.ti⟩,X.rc,X.ma⟩,rfl,L_ (HI.seat HS.out (hq rfl) HI.rc HI.ma),by have h:=(((E.drop 1).only 1).dQ (is':=cO ⟨⟨X.x.me,X.x.all,⟨X.x.se.A,X.x.se.c,X.x.se.l.set j y2⟩,X.x.ti⟩,X.rc,X.ma⟩ N M K++is) 5 [1,2,0,3,4]).yI (M':=M+6) (by omega);simpa[dJ,Z7] using h⟩
  case neg=>
   replace hq0:(q==0)=false:=by simpa using hq0
   refine GD E [84,70,3,60,0,4,6,5,0,0,4,8,15,5,0,0,4,22,9] ?_;clear E;intro g10 w12 E;exact ak ⟨q,X,rfl,L_ ⟨HI,eX.refl X⟩,((((E.drop 1).only 1).MJ 8).dQ (is':=cO X N M K++is) 5 [1,2,0,3,4]).yI (by omega)⟩
theorem N8 {is:List It}(Pg:Int→ByteArray→Prop)(g0:Nat)(C:Array Value)(eg:∀args w,(callFunc g0 args).run prog w=.ok (.enter g0 args) w)(p N M K:Nat)(X:gY)(j:Nat)(s:dZ)(w:World)(E:Env b w0 (dJ p X::bx) (cO X N M K++is) w)(hI:eF Pg X)(hs:X.x.se.l[j]?=some s)
  (hdo:∀w',Env b w0 (dJ p X::bx) (cO X N M K++is) w'→Calls prog g0 (#[.agg #[.int .i64 s.me,.int .i64 s.num,.slice s.g.r.A s.g.r.l.length s.g.r.c,.slice s.g.m.A s.g.m.l.length s.g.m.c,.slice s.log.A s.log.l.length s.log.c,.slice s.vs.A s.vs.l.length s.vs.c,.int .u8 s.t.ph,.int .i64 s.t.b,.slice s.t.mem.A s.t.mem.l.length s.t.mem.c,.string s.t.wi,.string s.t.va,.slice s.t.pr.A s.t.pr.l.length s.t.pr.c,.slice s.t.ac.A s.t.ac.l.length s.t.ac.c,.slice s.wi.A s.wi.l.length s.wi.c,.int .i64 s.hd]]++C) w' fun e w''=>∃(y:dZ) (rc:Sl Re) (ma:Sl bS) (q:Int),e=.returned (.tuple #[.agg #[.int .i64 y.me,.int .i64 y.num,.slice y.g.r.A y.g.r.l.length y.g.r.c,.slice y.g.m.A y.g.m.l.length y.g.m.c,.slice y.log.A y.log.l.length y.log.c,.slice y.vs.A y.vs.l.length y.vs.c,.int .u8 y.t.ph,.int .i64 y.t.b,.slice y.t.mem.A y.t.mem.l.length y.t.mem.c,.string y.t.wi,.string y.t.va,.slice y.t.pr.A y.t.pr.l.length y.t.pr.c,.slice y.t.ac.A y.t.ac.l.length y.t.ac.c,.slice y.wi.A y.wi.l.length y.wi.c,.int .i64 y.hd],.slice rc.A rc.l.length rc.c,.slice ma.A ma.l.length ma.c,.int .i64 q])∧Hid (q=0→sW (Pg s.num) s y∧xD (Pg s.num) y rc.l ma.l)∧Env w'.heap.size w' [] (bM ⟨y,rc,ma⟩ N (6*N) 10) w'')
  (hN:N≤10000) (hN2:1000≤N) (hM:M≤700000) (hK:K≤900000) :
  Calls prog 106 #[p,(j:Int),.func (.func g0) #[] C] w fun e w'=>∃(v:Int) (X':gY),e=.returned v∧Hid (eF Pg X'∧eX X X')∧Env b w0 (dJ p X'::bx) (cO X' N (M+6*N) (K+10)++is) w':=by
 have HI:=L_ hI;have HS:=L_ hs;have HDO:=L_ hdo;have hjs:j<X.x.se.l.length:=(Zo.1 hs).1;clear hI hs hdo
 go_enter func106,ntmps106
 refine G0 [5,0,4,5] ?_;obtain⟨g,cur,hA,-,-,hcc⟩:=(show Sl.Own _ b N X.x.se from E.get 2).1.at_ HS;replace hcc:=L_ hcc;refine GD E [83,40,0,0] ?_;refine fA s (fun q u hu=>hcc q u hu) ?_;clear hcc;refine ah (HDO.out _ E) ?_;rintro _ w2 ⟨y,rc,ma,v,rfl,hy,F⟩;replace E:=E.dQ (is':=own X.x.se N::own X.ma M::own X.rc K::own X.x.all N::own X.x.ti N::is) 5 [2,0,1,3,4];replace E:=E.call F;clear F;refine G0 [26] ?_
 by_cases h0:v=0
 case neg=>
  refine GD E [83,70,3,60,84,4,6,5,0,0,4,7,5,0,0,4,22,24,9] ?_;clear E;intro g7 w4 E;exact ak ⟨v,X,rfl,L_ ⟨HI,eX.refl X⟩,(((((E.drop 1).MJ 10).dQ (is':=cO X N M K++is) 5 [1,2,0,3,4]).yI (M':=M+6*N) (by omega)).dQ (is':=own X.rc K::own X.ma (M+6*N)::own X.x.se N::own X.x.all N::own X.x.ti N::is) 5 [1,0,2,3,4]).l9 (N':=K+10) (by omega) |>.dQ (is':=cO X N (M+6*N) (K+10)++is) 5 [1,0,2,3,4]⟩
 subst h0;refine GD E [83,70,3,60,84,4,6,5,0,0,4,8,15,9] ?_;clear E;intro g7 w6 E;replace hy:=L_ (hy rfl);replace E:=Env.Yl (y:=y) (s:=X.x.se) (E.dQ (is':=sJ y N++own X.x.se N::own X.ma M::own X.rc K::own X.x.all N::own X.x.ti N::own ma (6*N)::own rc 10::is) 15 [2,3,4,5,6,7,8,9,10,11,12,13,14,0,1]);refine VD 26 ((fun w=>w.cell? ⟨p,2,none⟩=some (.slice X.x.se.A X.x.se.l.length X.x.se.c)∧w.cell? ⟨p,5,none⟩=some (.slice X.ma.A X.ma.l.length X.ma.c)∧aF w g7 60 y)) (aaL [0,1,2,3,4,5,6,7,8,9,10,11,13,15,16,17,18,19]++aaN [12,14,20]++aaL [21]++aaN [22]++aaL [23,24]++aaN [25]) E ?_;clear E;intro w7 E;refine oF ⟨E.c 1 2,E.c 1 5,E.blk 0 rfl⟩ ?_;refine oF ⟨E.c 1 2,E.c 1 5,E.blk 0 rfl⟩ ?_;refine oF ⟨E.c 1 2,E.c 1 5,E.blk 0 rfl⟩ ?_;refine oF ⟨E.c 1 2,E.c 1 5,E.blk 0 rfl⟩ ?_;refine TJ ⟨E.c 1 2,E.c 1 5,E.blk 0 rfl⟩ (fun w' h=>h.1) ?_;refine oF ⟨E.c 1 2,E.c 1 5,E.blk 0 rfl⟩ ?_;refine oF ⟨E.c 1 2,E.c 1 5,E.blk 0 rfl⟩ ?_;refine oF ⟨E.c 1 2,E.c 1 5,E.blk 0 rfl⟩ ?_;refine Xv ⟨E.c 1 2,E.c 1 5,E.blk 0 rfl⟩ y (fun w' h q u hu=>(h.2.2.cell (0+q)).trans (by rw[aah];exact List.getElem?_toArray.trans hu)) ?_;refine oF ⟨E.c 1 2,E.c 1 5,E.blk 0 rfl⟩ ?_;refine oF ⟨E.c 1 2,E.c 1 5,E.blk 0 rfl⟩ ?_;refine oF ⟨E.c 1 2,E.c 1 5,E.blk 0 rfl⟩ ?_;refine oF ⟨E.c 1 2,E.c 1 5,E.blk 0 rfl⟩ ?_;refine oF ⟨E.c 1 2,E.c 1 5,E.blk 0 rfl⟩ ?_;refine oF ⟨E.c 1 2,E.c 1 5,E.blk 0 rfl⟩ ?_;refine oF ⟨E.c 1 2,E.c 1 5,E.blk 0 rfl⟩ ?_;refine TJ ⟨E.c 1 2,E.c 1 5,E.blk 0 rfl⟩ (fun w' h=>h.2.1) ?_;refine oF ⟨E.c 1 2,E.c 1 5,E.blk 0 rfl⟩ ?_
 refine V8 1 E ⟨E.c 1 2,E.c 1 5,E.blk 0 rfl⟩ ?_;have hn1:=E.on (s:=X.rc) (N:=K) 2;have hn2:=E.on (s:=rc) (N:=10) 6;have hn3:=E.on (s:=X.ma) (N:=M) 1;have hn4:=E.on (s:=ma) (N:=6*N) 5;refine OV 2 (s:=X.rc) (K+10) rc E (E.ol (s:=rc) (N:=10) 6).1 (by omega) (by omega) (fun _ _ E=>⟨E.c 1 2,E.c 1 5,E.blk 0 rfl⟩) ?_;clear E;intro s2 w8 h2 E;refine D_n ?_;refine OV 1 (s:=X.ma) (M+6*N) ma E (E.ol (s:=ma) (N:=6*N) 5).1 (by omega) (by omega) (fun _ _ E=>⟨E.c 1 2,E.c 1 5,E.blk 0 rfl⟩) ?_;clear E;intro s3 w9 h3 E;refine D_n ?_;refine oF ⟨E.c 1 2,E.c 1 5,E.blk 0 rfl⟩ ?_;refine UJ 0 E hA HS y (fun _ E=>by exact⟨E.c 1 2,E.c 1 5,E.blk 0 rfl⟩) ?_;clear E;intro w10 E;refine oF ⟨E.c 1 2,E.c 1 5,E.blk 0 rfl⟩ ?_;refine oF ⟨E.c 1 2,E.c 1 5,E.blk 0 rfl⟩ ?_;refine WB 1 E ?hS ?_
 case hS=>exact fun _ E=>⟨E.c 1 2,E.c 1 5,E.blk 0 rfl⟩
 clear E;intro w11 E;refine GD E [29,0,0,61,4,5,0,4,22,9] ?_;clear E;intro w12 E
 exact ak ⟨0,⟨⟨X.x.me,X.x.all,⟨X.x.se.A,X.x.se.c,X.x.se.l.set j y⟩,X.x.ti⟩,s2,s3⟩,rfl,L_ (by
  obtain⟨h4,h5⟩:=HI.out.out (Zk HS.out) hy.out.1 hy.out.2;refine HI.seat HS.out hy.1 (fun r hr=>?_) fun m hm=>?_
  ·rw[h2.out] at hr;exact(Zm.1 hr).elim (HI.rc r) (h4 r)
  ·rw[h3.out] at hm;exact(Zm.1 hm).elim (HI.ma m) (h5 m)),by have h:=((E.drop 1)).dQ (is':=cO ⟨⟨X.x.me,X.x.all,⟨X.x.se.A,X.x.se.c,X.x.se.l.set j y⟩,X.x.ti⟩,s2,s3⟩ N (M+6*N) (K+10)++is) 7 [1,2,0,3,4];simp only[dJ,Z7];exact h⟩
end
variable{a:Act}{ops:Array Oper}{Q:Exit→Act→World→Prop}{g:Nat}{o:Oper}{x:Operand}{α:Type}{t:TypeId}
section
attribute [local irreducible] wpList av aH
theorem V6 {rest:List Oper}{m:Operand}{i j:Int}(hM:IY w g)(h:∀c:Bool,wpList prog ops Q rest (a.put o.dst c) w)
  (hg:Region.wanted o (yielded ops a.tmps)=true:=by rfl) (ho:o.op=Op.lookup t m x false:=by rfl) (ht:t=309:=by rfl) (hm:a.eval m=.map (some g):=by rfl) (hx:a.eval x=j4 i j:=by rfl):wpList prog ops Q (o::rest) a w:=by
 subst ht;obtain⟨c,hrun⟩:=Tg hM i j;refine wpList_step fun K hK=>?_;rw[aaS hg];unfold Oper.wp;simp[execOp,ho,hm,hx,hrun,Result.andThen];exact hK _ _ (h c)
theorem TM [aj α]{s:Sl α}(h:g ∉ (own s N).bl):some g≠(Value.slice s.A s.l.length s.c).ownBlock:=by
 intro e;cases hA:s.A with
 |none=>rw[hA] at e;cases e
 |some a=>
  rw[hA] at e;exact h ((Z4 e:g=a.block)▸gL hA)
theorem Dl:∀args w,(callFunc 174 args).run prog w=.ok (.enter 174 args) w:=enters_of func174 (by kernel_rfl) rfl
theorem Xf (g2 g3:Nat)(x:mM)(w:World)(hb:aF w g2 t #[.map (some g3)])(hm:IY w g3):Calls prog 174 #[x,g2] w fun e w'=>∃q,e=.returned (.bool q)∧True∧Below w w w':=by
 have E:=Env.start w;have hl2:=hb.lt;have c0:=hb.cell 0;have hl3:g3<w.heap.size:=(sj g3).lt (b:=0) hm g3 (Zp.2 rfl)
 go_enter func174,ntmps174
 refine GD E [5,71,3,0,4,5,9] ?_;clear E;intro g2 w2 E;refine bQ ((E.aD.cell hl2).trans c0) ?_;refine GD E [0,40,0,40,0] ?_;refine V6 (i:=x.i) (j:=x.g) ((sj g3).keep (b:=0) hm fun g hg=>E.aD.block g (by rw[Zp.1 hg];exact hl3)) ?_;intro c;refine G0 [0,0,4,22] ?_;exact ak ⟨_,rfl,trivial,E.aD⟩
theorem Tp {is:List It}(p N M K:Nat)(X:gY)(w:World)(E:Env b w0 (dJ p X::bx) (cO X N M K++is) w)(hN:N≤100000)(hN2:1000≤N)(hz:ED X.x.se.l) :
  Calls prog 108 #[p] w fun e w'=>∃ti:Sl mM,e=()∧Hid (ti.l.length≤X.x.ti.l.length∧∀t∈ti.l,t∈X.x.ti.l)∧Env b w0 (dJ p ⟨⟨X.x.me,X.x.all,X.x.se,ti⟩,X.rc,X.ma⟩::bx) (cO ⟨⟨X.x.me,X.x.all,X.x.se,ti⟩,X.rc,X.ma⟩ N M K++is) w':=by
 have HZ:=L_ hz;clear hz
 go_enter func108,ntmps108
 refine G0 [5,0] ?_;refine ah (Gj p N X _ E hN hN2 (fun w' E'=>⟨E'.ol 3,E'.ol 2⟩) HZ) ?_;clear E;rintro _ w2 ⟨g,rfl,E⟩;refine GD E [26,70,3,60,4,23,83,41,0,9] ?_;clear E;intro g2 w4 E;have hn:=E.on (s:=X.x.ti) (N:=N) 5;have a1:=E.Vj 0 5;have a2:=E.Yt 0 5 (by decide);have l1:=(E.blk 0 rfl).lt;have l2:=(sj g).lt (E.get 0) g (Zp.2 rfl);refine ah (yj X.x.ti (fun _ _=>True) b 174 Dl #[g2] _ N (E.ol 5) (show Sl.Own _ b N X.x.ti from E.get 5).1 (by omega) (fun x _ w' hg=>Xf g2 g x w' ((hg.block g2 l1 (TM a1)).trans (E.blk 0 rfl)) ((sj g).keep (b:=b) (E.get 0) fun q hq=>(by rw[Zp.1 hq];exact hg.block g l2 (TM (a2 g (Zp.2 rfl))))))) ?_;rintro _ w5 ⟨r,rfl,hr,hrl,hrow,hgr⟩;replace E:=E.Qp (N:=N) 5 hgr hrow (by omega) (fun x hx=>(hr x hx).1);replace hr:=L_ hr;clear hgr hrow;refine GD E [26,84,61,9] ?_;clear E;intro w6 E;refine wpList_nil ?_
 go_end0
 exact⟨r,rfl,L_ ⟨hrl,fun t ht=>(hr t ht).1⟩,((E.drop 1).tl)⟩
theorem Sd {is:List It}(p N M K:Nat)(X:gY)(t:mM)(w:World)(E:Env b w0 (dJ p X::bx) (cO X N M K++is) w)(hN:N≤100000)(hN2:1000≤N)(hz:ED X.x.se.l)(htl:X.x.ti.l.length+1≤N) :
  Calls prog 235 #[p,t] w fun e w'=>∃ti:Sl mM,e=()∧Hid (ti.l.length≤X.x.ti.l.length+1∧∀x∈ti.l,x∈X.x.ti.l∨x=t)∧Env b w0 (dJ p ⟨⟨X.x.me,X.x.all,X.x.se,ti⟩,X.rc,X.ma⟩::bx) (cO ⟨⟨X.x.me,X.x.all,X.x.se,ti⟩,X.rc,X.ma⟩ N M K++is) w':=by
 have HZ:=L_ hz;clear hz
 go_enter func235,ntmps235
 refine GD E [5,71,3,9] ?_;clear E;intro g3 w2 E;refine aC (bP 0 11 [] (aaL [0,1,2,3,4,5]++aaN [6]++aaL [7,8,9,10]) E ?_);clear E;intro w3 E;refine GD E [32,32,32,32,51] ?_;refine gZ 0 3 E ?_;refine bT (qU X.x.ti t _ N (E.ol 4) (by omega)) ?_;rintro _ w4 ⟨k,bf,rfl,hbin,hb⟩;replace E:=E.up hb;clear hb;have hk:k≤X.x.ti.l.length:=hbin.1;clear hbin;refine⟨_,rfl,E.weak,D_n ?_⟩;cases bf
 case true=>
  refine GD E [32,32,32,32,29,0] ?_;refine aC (bP 0 10 [] (aaL [0,1,2,3,5,6,7,8,9]++aaN [4]) E ?_);clear E;intro w5 E;refine GD E [32,32,32,36,33,34,29,1,0,4,8,31] ?_
  go_end0
  exact⟨X.x.ti,rfl,L_ ⟨by omega,fun x h=>Or.inl h⟩,E.drop 1⟩
 case false=>
  refine GD E [32,32,32,32,29,0] ?_;refine aC (bP 0 10 [] (aaL [0,1,2,3,5,6,7,8,9]++aaN [4]) E ?_);clear E;intro w6 E;refine GD E [35,50,32,50,32] ?_;refine bT (Gj p N X _ (E.fZ) hN hN2 (fun w' E'=>⟨E'.ol 3,E'.ol 2⟩) HZ) ?_;clear E;rintro _ w7 ⟨g,rfl,E⟩;replace E:=E.fZ;refine⟨_,rfl,E.weak,D_n ?_⟩;refine ow ?_;refine SG (i:=t.i) (j:=t.g) 0 E ?_;intro c;cases c
  case false=>
   refine G0 [0,4,8,31] ?_
   go_end0
   exact⟨X.x.ti,rfl,L_ ⟨by omega,fun x h=>Or.inl h⟩,(E.drop 1).tl⟩
  case true=>
   refine fV ?_;refine aC (Qs (ng 0 10 [] (aaL [0,1,2,3,4,5,6,7]++aaN [8,9]) E ?_));clear E;intro w9 E;refine GD E [35,51,32] ?_;refine gZ 0 3 E ?_;refine xL E ?_;clear E;intro g36 w10 E;refine D_n ?_;refine bT (zB X.x.ti b _ (show Sl.Own _ b N X.x.ti from E.get 5).1 (by omega) k hk t g36 (E.blk 0 rfl) (fun a ha e=>E.Vj 0 5 rfl rfl (e▸gL (N:=N) ha)) E.sz) ?_;rintro _ w11 ⟨s2,rfl,hl2,hrow,hgr⟩;have hln:Hid (s2.l.length=X.x.ti.l.length+1):=L_ (by rw[hl2,CU hk]);replace E:=E.mG (s':=s2) (N':=N) 5 rfl hgr hrow (by rw[hln.out];omega);replace hl2:=L_ hl2;clear hgr hrow;refine⟨_,rfl,(E.drop 1).weak,D_n ?_⟩;refine GD E [29,84,62,9] ?_;clear E;intro w12 E;refine wpList_nil ?_
   go_end0
   exact⟨s2,rfl,L_ ⟨by rw[hln.out];exact Zh _,fun x h=>Cz (hl2.out▸h)⟩,(E.drop 2).tl⟩
end
variable{R:Ending→World→Prop}{fn:Func}
section
attribute [local irreducible] wpList av aH
theorem Y8 {P:Program}(h:R (.returned (.tuple #[])) w)(hr:fn.results=#[]:=by rfl)(hd:a.defers=[]:=by rfl):bodyPost P fn R .ret a w:=
 aaT (v:=.tuple #[]) (by simp[results,hr]) hd h
def XR:sU:=⟨0,⟨none,0,[]⟩,0,⟨#[]⟩,⟨#[]⟩⟩
def Ug (i t:Int):lJ:=⟨2,XR,i,t,⟨none,0,[]⟩,0,0,0⟩
def VP (m:sU):lJ:=⟨1,m,0,0,⟨none,0,[]⟩,0,0,0⟩
theorem Rs:XR.is F5:=⟨dO,dO,(fun g h=>by cases h),by decide,by decide⟩
theorem QM {i t:Int}(hi:i64 i)(ht:i64 t):ny (Ug i t):=⟨(by show(0:Int)≤2∧(2:Int)≤255;decide),Rs,hi,ht,(fun x h=>by cases h),dO,dO,dO⟩
theorem R8 {m:sU}(h:m.is F5):ny (VP m):=⟨(by show(0:Int)≤1∧(1:Int)≤255;decide),h,dO,dO,(fun x h=>by cases h),dO,dO,dO⟩
theorem OI {is:List It}(Pg:Int→ByteArray→Prop)(p N M K:Nat)(X:gY)(k:Nat)(gx:gT)(m:sU)(w:World)(E:Env b w0 (dJ p X::bx) (cO X N M K++is) w)(hI:eF Pg X)(hz:oH Pg)(hk:X.x.all.l[k]?=some gx)
  (hm:∀X' M' w',Env b w0 (dJ p X'::bx) (cO X' N M' K++is) w'→au.aA w' w' N m) (hmw:m.is F5) (hg:m.g.l.length≤4∧∀g∈m.g.l,0≤g)
  (hF:∀t,Cp.dU (Ug m.i t).hc.cmd=true→∀v:ByteArray,v.data.toList=Cp.aV (Ug m.i t).hc.cmd→Pg (k:Int) v)
  (hA:∀g:Nat,(g:Int)∈m.g.l→g<X.x.all.l.length→Cp.dU (VP m).hc.cmd=true→∀v:ByteArray,v.data.toList=Cp.aV (VP m).hc.cmd→Pg (g:Int) v)
  (hN:N≤10000) (hN2:1000≤N) (hM:M+24≤900000) :
  Calls prog 105 #[p,(k:Int),m] w fun e w'=>∃X':gY,e=()∧Hid (eF Pg X'∧eX X X')∧Env b w0 (dJ p X'::bx) (cO X' N (M+24) K++is) w':=by
 have HI:=L_ hI;have HZ:=L_ hz;have HK:=L_ hk;have HM:=L_ hm;have HMW:=L_ hmw;have HG:=L_ hg.2;have hgl:=hg.1;have HF:=L_ hF;have HA:=L_ hA;have HLZ:=L_ (hI.sz hz);have HTI:=L_ hI.ti;clear hI hz hk hm hmw hg hF hA
 go_enter func105,ntmps105
 refine G E [5,71,3,4,5,0,0,4,6,5,0,40,0,0,4,19,9] ?_;clear E;intro g5 w2 E
 go_loopw [6,7,16] (fun z x y wr=>∃(t:Int) (c i:Nat),z=.int .i64 t∧x=(c:Int)∧y=(i:Int)∧c≤i∧i≤m.g.l.length∧i64 t∧Env b w0 ((g5,35,m)::dJ p X::bx) (cO X N M K++is) wr) (fun _ _ y _=>m.g.l.length - (intOf y).toNat)
 case atStart=>exact⟨0,0,0,rfl,rfl,rfl,Zh _,Zq _,dO,E⟩
 case round=>
  clear E;obtain⟨t,c,i,rfl,rfl,rfl,hc,hi,ht,E⟩:=hrel
  by_cases hlt:i<m.g.l.length
  case pos=>
   have hw:IntKind.i64.wrap ((i:Int)+1)=((i+1:Nat):Int):=by rw[aaP _ (by omega)];rfl
   have hwc:IntKind.i64.wrap ((c:Int)+1)=((c+1:Nat):Int):=by rw[aaP _ (by omega)];rfl
   obtain⟨bb,off,g,hA,-,hg,hcc,-⟩:=(HM X M _ (E.drop 1)).get (k:=i) hlt;have hcc:Hid (wr.cell? ⟨bb,off+i,none⟩=some (.int .i64 g)):=L_ (by simpa[aj.sz] using hcc 0 _ rfl);clear hg;refine G0 [5,0,4,16,15,18,5,0] ?_;refine bQ hcc ?_;clear hcc hA;refine G E [0,4,5,0,0,40,0] ?_;refine ah (Cb p N X m.i g _ E.fZ (by omega) (by omega) (fun w' E'=>⟨E'.ol 2,E'.ol 4⟩) HLZ HTI) ?_;clear E;rintro _ w3 ⟨q,rfl,hq,E⟩;replace E:=E.fZ;refine G0 [26,0,4,5,84,0,4,5,0] ?_
   by_cases h0:(q==0)=false
   case pos=>
    refine G0 [0,4,8,21,23,0,0,25] ?_
    go_roundw
    case rel=>exact⟨_,c,i+1,rfl,rfl,rfl,by omega,by omega,(by show i64 (if t<q then q else t);split<;>assumption),E⟩
    case measure=>simp[intOf];omega
   replace h0:(q==0)=true:=by simpa using h0
   refine G0 [0,4,7,23,84,20,23,0,0,25] ?_
   go_roundw
   case rel=>exact⟨_,c+1,i+1,rfl,rfl,rfl,by omega,by omega,(by show i64 (if t<q then q else t);split<;>assumption),E⟩
   case measure=>simp[intOf];omega
  case neg=>
   refine G0 [5,0,4,17,27,28,6,5,0] ?_
   by_cases h1:((c:Int)==0)=true
   case pos=>
    refine G E [0,4,7,5,84,40,0,0] ?_;replace E:=E.fZ;refine ah (Gq Pg p N M K X k gx ⟨2,⟨0,⟨none,0,[]⟩,0,⟨#[]⟩,⟨#[]⟩⟩,m.i,t,⟨none,0,[]⟩,0,0,0⟩ _ E HI HZ HK (fun w' _=>⟨Sl.dh,Sl.dh⟩) (QM HMW.1 ht) (HF t) hN hN2 (by omega)) ?_;clear E;rintro _ w4 ⟨v,X2,rfl,hX,E⟩;refine G0 [26,4,22,24] ?_;exact Y8 ⟨X2,rfl,hX,(E.fZ.drop 1).yI (by omega)⟩
   replace h1:((c:Int)==0)=false:=by simpa using h1
   refine G E [0,4,8,15,5,0,40,0,0,4,19] ?_;clear h1
   go_loopw [45] (fun y wr=>∃(i:Nat) (X2:gY),y=(i:Int)∧i≤m.g.l.length∧Hid (eF Pg X2∧eX X X2)∧Env b w0 ((g5,35,m)::dJ p X2::bx) (cO X2 N (M+6*i) K++is) wr) (fun y _=>m.g.l.length - (intOf y).toNat)
   case atStart=>exact⟨0,X,rfl,Zq _,L_ ⟨HI,eX.refl X⟩,E⟩
   case round=>
    clear E;obtain⟨i,X2,rfl,hi,HX,E⟩:=hrel
    by_cases hlt:i<m.g.l.length
    case pos=>
     have hw:IntKind.i64.wrap ((i:Int)+1)=((i+1:Nat):Int):=by rw[aaP _ (by omega)];rfl
     obtain⟨bb,off,g,hA,-,hg,hcc,-⟩:=(HM X2 _ _ (E.drop 1)).get (k:=i) hlt;have hcc:Hid (wr.cell? ⟨bb,off+i,none⟩=some (.int .i64 g)):=L_ (by simpa[aj.sz] using hcc 0 _ rfl);have HGM:=L_ (Zk hg);clear hg;obtain⟨n,rfl⟩:∃n:Nat,g=(n:Int):=⟨g.toNat,by have:=HG g HGM;omega⟩;refine G0 [5,0,4,16,15,18,5,0] ?_;refine bQ hcc ?_;clear hcc hA
     by_cases hl:(n:Int)<(X2.x.all.l.length:Int)
     case neg=>
      refine G E [0,4,5,83,41,84,1,80,2,4,8,21,23,0,0,25] ?_
      go_roundw
      case rel=>exact⟨i+1,X2,rfl,by omega,HX,E.yI (by omega)⟩
      case measure=>simp[intOf];omega
     case pos=>
      refine G E [0,4,5,83,41,84,0] ?_;have HLZ2:=L_ (HX.1.sz HZ);have HTI2:=L_ HX.1.ti;refine G E [0,40,0] ?_;refine ah (Cb p N X2 m.i (n:Int) _ E.fZ (by omega) (by omega) (fun w' E'=>⟨E'.ol 2,E'.ol 4⟩) HLZ2 HTI2) ?_;clear E;rintro _ w5 ⟨q,rfl,hq,E⟩;replace E:=E.fZ;refine G0 [26] ?_
      by_cases h0:(q==0)=false
      case pos=>
       refine G0 [0,0,4,8,21,23,0,0,25] ?_
       go_roundw
       case rel=>exact⟨i+1,X2,rfl,by omega,HX,E.yI (by omega)⟩
       case measure=>simp[intOf];omega
      replace h0:(q==0)=true:=by simpa using h0
      refine G0 [0,0,4,7,23,0,0] ?_;refine aB 0 5 E ?_;refine fV ?_;replace E:=E.fZ;have hn1:n<X.x.all.l.length:=by rw[HX.out.2.all] at hl;omega
      obtain⟨gy,hgy⟩:∃gy,X2.x.all.l[n]?=some gy:=⟨_,Zl (by rw[HX.out.2.all];exact hn1)⟩;replace hgy:=L_ hgy;refine ah (Gq Pg p N (M+6*i) K X2 n gy ⟨1,m,0,0,⟨none,0,[]⟩,0,0,0⟩ _ E HX.1 HZ hgy (fun w' E'=>⟨HM _ _ _ (E'.fZ.drop 1),Sl.dh⟩) (R8 HMW) (HA n HGM hn1) hN hN2 (by omega)) ?_;clear E;rintro _ w6 ⟨v,X3,rfl,hX,E⟩;refine G0 [26,20,23,0,0,25] ?_
      go_roundw
      case rel=>exact⟨i+1,X3,rfl,by omega,L_ ⟨hX.1,HX.2.trans hX.2⟩,E.fZ.yI (by omega)⟩
      case measure=>simp[intOf];omega
    case neg=>
     refine G0 [5,0,4,17,27,28] ?_
     go_end0
     exact⟨X2,rfl,HX,(E.drop 1).yI (by omega)⟩
end
end Go.Proofs.YtaebfkcgdmodlaaGreatDoor
