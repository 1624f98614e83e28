/-
  A part of the proof that the erased node of towncrier reads nothing (TopErased).
-/
import Derived.Test.YtaebfkcgdmodlaaGreatDoorJ09a
namespace Go.Proofs.YtaebfkcgdmodlaaGreatDoor
open Go.RowKit Go.Proofs.Tryz
set_option maxHeartbeats 16000000
set_option maxRecDepth 100000
set_option linter.unusedVariables false
set_option linter.unusedSimpArgs false
section
open Go.RowKit Bal
attribute [local irreducible] wpList av aH
theorem xq (x:dZ)(w:World)(N:Nat)(hl:au.aA w w N x)(hN:N≤100000)(hN2:1000≤N)(hw:yF x) :
  Calls prog 165 #[x] w fun e w'=>pG x e∧Below w w w':=by
 have HL:=L_ hl;have HW:=L_ hw;clear hl hw;have E:=Env.start w
 go_enter func165,ntmps165
 refine GD E [5,71,3,0,4,5,9] ?_;clear E;intro g1 w2 E;refine aB 0 15 E ?_;refine GD E [0,71,9] ?_;clear E;intro g24 w3 E;refine G0 [3,0,4] ?_;refine wp_seq (Qz x w _ N g1 g24 _ _ _ _ _ _ HL hN hN2 HW E ?_);clear E;intro q u25 u26 u27 u28 u29 u30 u31 u32 u33 u34 u35 u36 u37 u38 u39 u40 u41 u42 u43 u44 u45 u46 u47 u48 u49 u50 u51 u52 u53 u54 u55 u56 u57 u58 u59 u60 u61 u62 u63 u64 u65 u66 u67 u68 u69 u70 u71 u72 u73 u74 u75 u76 u77 u78 u79 u80 u81 u82 u83 u84 u85 u86 u87 u88 u89 u90 u91 u92 u93 u94 u95 u96 u97 u98 u99 u100 u101 u102 u103 u104 u105 u106 u107 u108 u109 u110 u111 u112 u113 u114 u115 u116 u117 u118 u119 u120 u121 u122 u123 u124 u125 u126 u127 u128 u129 w3 hF E;cases q
 case false=>
  refine G0 [6,5,0,0,4,7,5,0,4,22,24] ?_;exact ak ⟨pG.no x,E.aD⟩
 case true=>
  refine G0 [6,5,0,0,4,8] ?_;replace hF:=L_ (hF rfl);refine G0 [15,5] ?_;have hll:(x.log.l.length:Int)≤200:=by have:=hF.2.2.1;omega
  refine GD E [84,0,40,0,0,4,6,5,84,0,40,0,0,4,19] ?_;have hvN:x.vs.l.length≤N:=HL.2.2.2.1.2.2.2.1
  go_loopw [5,144] (fun z y wr=>∃(k:Nat) (bf:Int),y=(k:Int)∧z=bf∧k≤x.vs.l.length∧(k:Int)≤bf∧bf≤200∧Hid (∀(j:Nat) (y:lT),j<k→x.vs.l[j]?=some y→y.g=x.num)∧Env w w [(g24,321,[x.me,x.num,x.g.r,x.g.m,x.log,x.vs,.int .u8 x.t.ph,x.t.b,x.t.mem,x.t.wi,x.t.va,x.t.pr,x.t.ac,x.wi,x.hd,(),()]),(g1,60,x)] [] wr) (fun _ y _=>x.vs.l.length - (intOf y).toNat)
  case atStart=>exact⟨0,(x.log.l.length:Int),rfl,rfl,Zq _,by omega,hll,L_ (fun j y h=>by omega),E⟩
  case round=>
   clear E;obtain⟨k,bf,rfl,rfl,hk,hb1,hb2,HJ,E⟩:=hrel
   by_cases hlt:k<x.vs.l.length
   case pos=>
    have hw:IntKind.i64.wrap ((k:Int)+1)=((k+1:Nat):Int):=by rw[aaP _ (by omega)];rfl
    obtain⟨bb,off,y,hA,-,hy,hcc,-⟩:=(E.h HL).2.2.2.1.get (k:=k) hlt;have HY:=L_ (HW.vs y (Zk hy));replace hcc:=L_ hcc;replace hy:=L_ hy;refine G0 [5,0,4,16,15,18,5,0] ?_;refine fA y hcc ?_;clear hcc hA;refine GD E [70,3,60,9] ?_;clear E;intro g7 w5 E;refine aC (wp_seq (bP 0 12 [] (aaL [0,1,2,3,4,5,6,7,8,9,10,11]) E ?_));clear E;intro w6 E;refine GD E [32,50,32,32,32,32,51] ?_
    by_cases c1:(y.g !=x.num)=true
    case pos=>
     refine GD E [32,32,33,33,33,29,82,81,2,2,4,7,5,0,4,22,24] ?_;exact ak ⟨pG.no x,E.aD⟩
    replace c1:(y.g !=x.num)=false:=by simpa using c1
    refine GD E [32,32,32,50,32,29] ?_
    by_cases c2:y.s≤bf
    case pos=>
     refine G0 [84,1,82,80,2,2,2,4,7,5,0,4,22,24] ?_;exact ak ⟨pG.no x,E.aD⟩
    refine GD E [84,0,40] ?_
    by_cases c3:200<y.s
    case pos=>
     refine G0 [84,1,82,2,2,2,4,7,5,0,4,22,24] ?_;exact ak ⟨pG.no x,E.aD⟩
    refine G0 [84,0] ?_;refine oC 0 3 E ?_;refine ah (Wh y.p y.b y.v _ HY.1 HY.2.1 HY.2.2) ?_;rintro _ w7 ⟨v3,rfl,hb⟩;replace E:=E.up hb;clear hb;refine G0 [26] ?_
    by_cases c4:(v3 !=0)=true
    case pos=>
     refine G0 [84,1,81,80,2,2,4,7,5,0,4,22,24] ?_;exact ak ⟨pG.no x,E.aD⟩
    replace c4:(v3 !=0)=false:=by simpa using c4
    refine GD E [83,40] ?_
    by_cases c5:(y.p==0)=true
    case pos=>
     refine G0 [84,1,81,2,4,7,5,0,4,22,24] ?_;exact ak ⟨pG.no x,E.aD⟩
    replace c5:(y.p==0)=false:=by simpa using c5
    refine GD E [83,40] ?_;have HG:Hid (y.g=x.num):=L_ (by simpa using c1);clear c5 c1 c4
    by_cases c6:0<y.b
    case' pos=>
     refine GD E [84,0,40] ?_;refine ah (jg y.v _ (Zt HY.1 (by decide))) ?_;rintro _ w8 ⟨rfl,hb⟩;replace E:=E.up hb;clear hb;refine G0 [26] ?_
     by_cases ht:(isText y.v)=false
     case pos=>
      refine G0 [84,4,7,5,0,4,22,24] ?_;exact ak ⟨pG.no x,E.aD⟩
     replace ht:(isText y.v)=true:=by simpa using ht
     refine G0 [84,4,8,15,23] ?_;clear ht c6
    case' neg=>
     refine G0 [0,0,1,1,1,1,1,0,0,4,8,15,23] ?_;clear c6
    all_goals
     have c7:(k:Int)+1≤y.s:=by omega
     clear c2
     have HJ2:Hid (∀(j:Nat) (z:lT),j<k+1→x.vs.l[j]?=some z→z.g=x.num):=L_ (fun j z h h2=>by
      by_cases e:j<k
      ·exact HJ j z e h2
      ·have e:j=k:=by omega
       rw[e,hy.out] at h2;injection h2 with h2
       exact h2▸HG.out)
     refine GD E [0,40,0,20,23,0,0,25] ?_
     go_roundw
     case rel=>exact⟨k+1,y.s,rfl,rfl,hlt,by omega,by omega,HJ2,E.drop 1⟩
     case measure=>simp[intOf];omega
   case neg=>
    refine G0 [5,0,4,17,27,28,6,5] ?_;have HVL:Hid (x.vs.l.length≤200):=L_ (by omega)
    have HVG:Hid (∀y∈x.vs.l,y.g=x.num):=L_ (fun y hy=>by
     obtain⟨j,hj⟩:=aaF hy;exact HJ j y (by have:=(Zo.1 hj).1;omega) hj)
    clear hlt hk hb1 hb2;refine G0 [84,0] ?_;refine aB 0 7 E ?_;refine GD E [70,3,60,4,5,0,40,9] ?_;clear E;intro g8 w10 E
    by_cases hph:(x.t.ph !=0)=true
    case' neg=>
     replace hph:(x.t.ph !=0)=false:=by simpa using hph
     refine G0 [0,4,8,15,5] ?_;clear hph;replace E:=E.drop 1
    case' pos=>
     refine G0 [0,4,7,5] ?_;clear hph;refine GD E [0,40] ?_;refine ah (Za x.t.b _ HW.t.b) ?_;rintro _ w11 ⟨y1,z1,v1,rfl,rfl⟩;refine G0 [26,83,0,0,4,5,0,0] ?_;refine ah (jh g24 0 N 0 ⟨x,⟨none,0,[]⟩,⟨none,0,[]⟩⟩ _ ⟨E.blk 1 rfl,E.h HL⟩ (by omega)) ?_;rintro _ w12 ⟨rfl,rfl⟩;refine G0 [26] ?_;refine ah (qh g24 0 N 0 ⟨x,⟨none,0,[]⟩,⟨none,0,[]⟩⟩ _ _ ⟨E.blk 1 rfl,E.h HL⟩ (by omega)) ?_;rintro _ w13 ⟨⟨vp,vb,vv,k2,bf2,rfl,-,-,-⟩,hb⟩;replace E:=E.up hb;clear hb;refine G0 [26] ?_
     by_cases d1:(z1 !=x.me)=true
     case pos=>
      refine GD E [84,0,70,3,60,0,0,9] ?_;clear E;intro g12 w15 E;refine aC (wp_seq (bP 0 20 [] (aaL [0,1,2,3,4,5,6,7,8,9,10]++aaN [11,12]++aaL [13,14,15,16,17,18,19]) E ?_));clear E;intro w16 E;refine GD E [35,52,32,32,33,33,33,34,34,33,32,32,33,33,33,33,29,80,2,2,2,4,7,5,0,4,22,24] ?_;exact ak ⟨pG.no x,E.aD⟩
     replace d1:(z1 !=x.me)=false:=by simpa using d1
     refine GD E [84,0,70,3,60,0,0,9] ?_;clear E;intro g12 w18 E;refine aC (wp_seq (bP 0 20 [] (aaL [0,1,2,3,4,5,6,7,8,9,10]++aaN [11,12]++aaL [13,14,15,16,17,18,19]) E ?_));clear E;intro w19 E;refine GD E [35,52,32,32,32,51,32] ?_;refine bT (uf g24 0 N 0 ⟨x,⟨none,0,[]⟩,⟨none,0,[]⟩⟩ _ ⟨E.blk 2 rfl,E.h HL⟩ (by omega) (by omega) (fun v hv=>Zt (HW.log v hv) (by decide))) ?_;rintro _ w20 ⟨s,rfl,ho,-,-,hb⟩;replace E:=E.sH (x:=s) (N:=N) hb ho;clear ho hb;refine⟨_,rfl,E.weak,D_n ?_⟩;refine bT (eZ x.t.mem s _ N (E.h HL).2.2.2.2.1 (E.ol 0) (by omega)) ?_;rintro _ w21 ⟨q1,rfl,hb⟩;replace E:=E.up hb;clear hb;refine⟨_,rfl,E.weak,D_n ?_⟩;cases q1
     case false=>
      refine GD E [32,32,32,33,33,33,33,29,80,2,2,2,4,7,5,0,4,22,24] ?_;exact ak ⟨pG.no x,E.aD⟩
     case' true=>
      refine GD E [32,32,32,32,50,32,51,29] ?_
      by_cases d2:vp<x.t.b
      case pos=>
       refine G0 [84,1,2,2,2,2,4,7,5,0,4,22,24] ?_;exact ak ⟨pG.no x,E.aD⟩
      refine GD E [84,0,41] ?_;refine ah (jg x.t.wi _ (Zt HW.t.wi (by decide))) ?_;rintro _ w22 ⟨rfl,hb⟩;replace E:=E.up hb;clear hb;refine G0 [26] ?_
      by_cases ht:(isText x.t.wi)=false
      case pos=>
       refine G0 [0,0,4,7,5,0,4,22,24] ?_;exact ak ⟨pG.no x,E.aD⟩
      replace ht:(isText x.t.wi)=true:=by simpa using ht
      refine G0 [0,0,4,8,15,5] ?_;clear ht d1 d2;replace E:=(E.drop 1).sub (Zi _) (Zy _);refine GD E [0,40,0,0,4,19] ?_;have hpN:x.t.pr.l.length≤N:=HL.2.2.2.2.2.1.2.2.2.1
      go_loopw [249] (fun y wr=>∃(k:Nat),y=(k:Int)∧k≤x.t.pr.l.length∧Env w w [(g8,58,x.t),(g24,321,[x.me,x.num,x.g.r,x.g.m,x.log,x.vs,.int .u8 x.t.ph,x.t.b,x.t.mem,x.t.wi,x.t.va,x.t.pr,x.t.ac,x.wi,x.hd,(),()]),(g1,60,x)] [] wr) (fun y _=>x.t.pr.l.length - (intOf y).toNat)
      case atStart=>exact⟨0,rfl,Zq _,E⟩
      case' round=>
       clear E;obtain⟨k,rfl,hk,E⟩:=hrel
       by_cases hlt:k<x.t.pr.l.length
       case pos=>
        have hw:IntKind.i64.wrap ((k:Int)+1)=((k+1:Nat):Int):=by rw[aaP _ (by omega)];rfl
        obtain⟨bb,off,y,hA,-,hy,hcc,-⟩:=(E.h HL).2.2.2.2.2.1.get (k:=k) hlt;have HY:=L_ (HW.t.pr y (Zk hy));replace hcc:=L_ hcc;clear hy;refine G0 [5,0,4,16,15,18,5,0] ?_;refine fA y hcc ?_;clear hcc hA;refine GD E [70,3,60,4,5,0,40,0,9] ?_;clear E;intro g16 w24 E
        by_cases c6:0<y.b
        case' pos=>
         refine GD E [0,0,40] ?_;refine ah (jg y.v _ (Zt HY.2 (by decide))) ?_;rintro _ w25 ⟨rfl,hb⟩;replace E:=E.up hb;clear hb;refine G0 [26] ?_
         by_cases ht:(isText y.v)=false
         case pos=>
          refine G0 [0,0,4,7,5,0,4,22,24] ?_;exact ak ⟨pG.no x,E.aD⟩
         replace ht:(isText y.v)=true:=by simpa using ht
         refine G0 [0,0,4,8,21,23] ?_;clear ht c6
        case' neg=>
         refine G0 [0,1,2,2,2,2,4,8,21,23] ?_;clear c6
        all_goals
         refine G0 [0,0,25] ?_
         go_roundw
         case rel=>exact⟨k+1,rfl,hlt,E.drop 1⟩
         case measure=>simp[intOf];omega
       case' neg=>
        refine G0 [5,0,4,17,27,28,5] ?_;clear hlt hk;replace E:=E.drop 1
    all_goals
     refine TA 9 3 E ?_;clear E;intro g17 w26 E;refine GD E [0,4,6,5,84,0,40,0,0,4,19] ?_;have hlN:x.log.l.length≤N:=HL.2.2.1.2.2.2.1;have hwN:x.wi.l.length≤N:=HL.2.2.2.2.2.2.2.2.2.2.1
     go_loopw [270] (fun y wr=>∃(k:Nat),y=(k:Int)∧k≤x.log.l.length∧Env w w [(g24,321,[x.me,x.num,x.g.r,x.g.m,x.log,x.vs,.int .u8 x.t.ph,x.t.b,x.t.mem,x.t.wi,x.t.va,x.t.pr,x.t.ac,x.wi,x.hd,(),()]),(g1,60,x)] [D8 9 3 g17 k] wr) (fun y _=>x.log.l.length - (intOf y).toNat)
     case atStart=>exact⟨0,rfl,Zq _,E⟩
     case round=>
      clear E;obtain⟨k,rfl,hk,E⟩:=hrel
      by_cases hlt:k<x.log.l.length
      case pos=>
       have hw:IntKind.i64.wrap ((k:Int)+1)=((k+1:Nat):Int):=by rw[aaP _ (by omega)];rfl
       obtain⟨bb,off,y,hA,-,hy,hcc,-⟩:=(E.h HL).2.2.1.get (k:=k) hlt;have HY:=L_ (HW.log y (Zk hy));have d1:=hcc 0 _ rfl;simp only[aj.sz,ZB,Nat.add_zero] at d1;clear hy hcc;refine G0 [5,0,4,16,15,18,5,0] ?_;refine bQ d1 ?_;clear d1 hA;refine G0 [0,4,23,0,0] ?_;refine SN 0 E (Zt HY (by decide)) ?_;clear E;intro w27 E;refine G0 [20,23,0,0,25] ?_
       go_roundw
       case rel=>exact⟨k+1,rfl,hlt,E⟩
       case measure=>simp[intOf];omega
      case neg=>
       refine GD E [5,0,4,17,27,28,6,5,84,0,40,0,0,4,19] ?_
       go_loopw [283] (fun y wr=>∃(k:Nat),y=(k:Int)∧k≤x.wi.l.length∧Env w w [(g24,321,[x.me,x.num,x.g.r,x.g.m,x.log,x.vs,.int .u8 x.t.ph,x.t.b,x.t.mem,x.t.wi,x.t.va,x.t.pr,x.t.ac,x.wi,x.hd,(),()]),(g1,60,x)] [D8 9 3 g17 (x.log.l.length+k)] wr) (fun y _=>x.wi.l.length - (intOf y).toNat)
       case atStart=>exact⟨0,rfl,Zq _,by have:k=x.log.l.length:=(by omega);subst this;exact E⟩
       case round=>
        clear E;obtain⟨k,rfl,hk,E⟩:=hrel
        by_cases hlt:k<x.wi.l.length
        case pos=>
         have hw:IntKind.i64.wrap ((k:Int)+1)=((k+1:Nat):Int):=by rw[aaP _ (by omega)];rfl
         obtain⟨bb,off,y,hA,-,hy,hcc,-⟩:=(E.h HL).2.2.2.2.2.2.2.get (k:=k) hlt;have HY:=L_ (HW.wi y (Zk hy));have d1:=hcc 0 _ rfl;simp only[aj.sz,ZB,Nat.add_zero] at d1;clear hy hcc;refine G0 [5,0,4,16,15,18,5,0] ?_;refine bQ d1 ?_;clear d1 hA;refine G0 [0,4,6,5,0,0] ?_;refine WY 0 E (Zt HY (by decide)) ?_;intro c
         by_cases c1:0<c
         case pos=>
          refine G0 [0,0,1,1,1,0,4,7,5,0,4,22,24] ?_;exact ak ⟨pG.no x,E.aD⟩
         refine G0 [84] ?_;refine ah (jg y _ (Zt HY (by decide))) ?_;rintro _ w29 ⟨rfl,hb⟩;replace E:=E.up hb;clear hb;refine G0 [26] ?_
         by_cases ht:(isText y)=false
         case pos=>
          refine G0 [0,0,4,7,5,0,4,22,24] ?_;exact ak ⟨pG.no x,E.aD⟩
         replace ht:(isText y)=true:=by simpa using ht
         refine G0 [0,0,4,8,15,23,0,0] ?_;clear ht c1;refine SN 0 E (Zt HY (by decide)) ?_;clear E;intro w30 E;refine G0 [20,23,0,0,25] ?_
         go_roundw
         case rel=>exact⟨k+1,rfl,hlt,E⟩
         case measure=>simp[intOf];omega
        case neg=>
         refine G0 [5,0,4,17,27,28,5,0,4,22] ?_;exact ak ⟨⟨0,rfl,fun _=>⟨hF.1.1,hF.1.2.1,(jk hF.1.2.2).1,hF.2.1,hF.2.2.1,HVL,hF.2.2.2.2,hF.2.2.2.1,HVG⟩⟩,E.aD⟩
end
end Go.Proofs.YtaebfkcgdmodlaaGreatDoor
