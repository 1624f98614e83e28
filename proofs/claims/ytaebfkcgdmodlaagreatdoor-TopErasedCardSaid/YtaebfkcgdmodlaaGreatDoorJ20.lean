/-
  A part of the proof that the erased node of towncrier reads nothing (TopErased).
-/
import Derived.Test.YtaebfkcgdmodlaaGreatDoorJ19a
namespace Go.Proofs.YtaebfkcgdmodlaaGreatDoor
open Go.RowKit Go.Proofs.Tryz
set_option maxHeartbeats 16000000
set_option maxRecDepth 100000
set_option linter.unusedVariables false
set_option linter.unusedSimpArgs false
variable{me:Int}{bx:List Bx}{T' b k:Nat}{σ:Type}{w0:World}
section
attribute [local irreducible] wpList av
theorem BM:∀args w,(callFunc 46 args).run prog w=.ok (.enter 46 args) w:=enters_of func46 (by kernel_rfl) rfl
theorem WL (g n:Nat)(m:bS)(w:World)(hb:aF w g 3 #[(n:Int)]):Calls prog 46 #[m,g] w fun e w'=>∃c,e=.returned (.bool c)∧(c=false→m.t<(n:Int))∧Below w w w':=by
 have HB:=L_ hb;have hlt:=hb.lt;clear hb;have E:=Env.start w
 go_enter func46,ntmps46
 refine G E [5,71,3,0,4,5,0,40,9] ?_;clear E;intro g2 w2 E;refine bQ ((E.aD.cell (p:=⟨g,0,none⟩) hlt).trans (HB.cell 0)) ?_
 by_cases c1:(n:Int)≤m.f
 case pos=>
  refine G0 [0,0,1,80,4,22] ?_;exact ak ⟨true,rfl,fun h=>(by cases h),E.aD⟩
 refine G E [84,40] ?_;refine oZ ((E.aD.cell (p:=⟨g,0,none⟩) hlt).trans (HB.cell 0)) ?_
 by_cases c2:(n:Int)≤m.t
 case pos=>
  refine G0 [84,4,22] ?_;exact ak ⟨true,rfl,fun h=>(by cases h),E.aD⟩
 refine G0 [84,4,22] ?_;exact ak ⟨false,rfl,fun _=>by omega,E.aD⟩
theorem XV (me:Int)(aU:List (List Int))(T:Nat)(c:jH)(w:World)(hl:au.aA w w 1000 c)(hc:iM me aU T c) :
  Calls prog 15 #[c] w fun e w'=>∃v:Int,e=.returned v∧Hid (v=0→Ho c)∧Below w w w':=by
 have HL:=L_ hl;have HC:=L_ hc;have hnn:=hl.2.1.2.2.2.1;clear hl hc;have E:=Env.start w
 go_enter func15,ntmps15
 refine G E [5,71,3,0,4,5,0,40,0,70,3,60,4,6,5,40,9] ?_;clear E;intro g1 g3 w4 E
 by_cases c1:(c.no.l.length:Int)<1
 case pos=>
  refine G0 [0,0,1,81,80,4,7,5,0,4,22,24] ?_;exact ak ⟨8,rfl,L_ (fun h=>absurd h (by decide)),E.aD⟩
 refine G E [0,0,40] ?_
 by_cases c2:6<(c.no.l.length:Int)
 case pos=>
  refine G0 [84,1,81,2,4,7,5,0,4,22,24] ?_;exact ak ⟨8,rfl,L_ (fun h=>absurd h (by decide)),E.aD⟩
 refine G E [84,0,41,40] ?_;refine ah (Je c.all c.no.l.length _ (E.h HL).1) ?_;rintro _ w5 ⟨q,rfl,hb⟩;replace E:=E.up hb;clear hb;refine G0 [26] ?_;cases q
 case false=>
  refine G0 [84,1,2,2,2,2,4,7,5,0,4,22,24] ?_;exact ak ⟨8,rfl,L_ (fun h=>absurd h (by decide)),E.aD⟩
 case true=>
  refine G E [84,0,41] ?_;refine ah (Db c.ma _ (E.h HL).2.2 (fun m hm=>(HC.ma m hm).wf)) ?_;rintro _ w6 ⟨v,rfl,hv,hb⟩;replace E:=E.up hb;clear hb;refine G0 [26] ?_
  by_cases h1:(v !=0)=true
  case pos=>
   refine G0 [0,0,4,7,5,0,4,22,24] ?_;exact ak ⟨8,rfl,L_ (fun h=>absurd h (by decide)),E.aD⟩
  replace h1:(v !=0)=false:=by simpa using h1
  refine G0 [0,0,4,8] ?_;replace hv:=L_ (hv (by simpa using h1));clear h1;refine G E [15,6,5,0,41] ?_;refine ah (J3 0 c.all _ 1000 1000 (E.h HL).1 (by decide) (by decide) (by decide)) ?_;rintro _ w7 ⟨y,v,rfl,-,F⟩;replace E:=E.call F;clear F;refine G0 [26] ?_
  by_cases h0:v=0
  case neg=>
   refine G E [84,70,3,60,0,4,5,0,0,4,7,5,0,4,22,24,9] ?_;clear E;intro g4 w9 E;exact ak ⟨8,rfl,L_ (fun h=>absurd h (by decide)),E.aD⟩
  subst h0;refine G E [84,70,3,60,0,4,5,0,0,4,8,15,6,5,0,42,0,0,4,19,9] ?_;clear E;intro g4 w11 E;replace E:Env w w ((g3,3,[(c.no.l.length:Int)])::(g1,28,c)::[]) [] _:=(E.drop 1).sub (Zi _) (Zy _)
  go_loopw [41] (fun u wr=>∃k:Nat,u=(k:Int)∧k≤c.no.l.length∧Env w w ((g3,3,[(c.no.l.length:Int)])::(g1,28,c)::[]) [] wr) (fun u _=>c.no.l.length - (intOf u).toNat)
  case atStart=>exact⟨0,rfl,Zq _,E⟩
  case round=>
   clear E;obtain⟨k,rfl,hk,E⟩:=hrel
   by_cases hlt:k<c.no.l.length
   case pos=>
    have hw:IntKind.i64.wrap ((k:Int)+1)=((k+1:Nat):Int):=by rw[aaP _ (by omega)];rfl
    obtain⟨bb,off,n,hA,-,hn,hcc,hnl⟩:=(E.h HL).2.1.get (k:=k) hlt;have HN:Hid (au.aA w w 1000 n):=L_ (HL.2.1.2.2.2.2 n (Zk hn));have HO:=L_ (HC.no k n hn);replace hcc:=L_ hcc;clear hn hnl;refine G0 [5,0,4,16,15,18,5,0,0] ?_;refine fA n hcc ?_;clear hcc hA;refine G E [70,3,0,60,4,5,9] ?_;clear E;intro g7 w13 E;refine aB 0 8 E ?_;refine ah (JI (yE me aU (k:Int)) _ n _ (E.h HN) HO.inn (oI me aU _ 0).sz) ?_;rintro _ w14 ⟨v,rfl,-,hb⟩;replace E:=E.up hb;clear hb;refine G0 [26] ?_
    by_cases h1:(v !=0)=true
    case pos=>
     refine G0 [0,0,1,81,80,2,2,2,4,7,5,0,4,22,24] ?_;exact ak ⟨8,rfl,L_ (fun h=>absurd h (by decide)),E.aD⟩
    replace h1:(v !=0)=false:=by simpa using h1
    refine G E [84,0,40,0] ?_
    by_cases h2:(n.b.me !=(k:Int))=true
    case pos=>
     refine G0 [84,1,81,2,4,7,5,0,4,22,24] ?_;exact ak ⟨8,rfl,L_ (fun h=>absurd h (by decide)),E.aD⟩
    replace h2:(n.b.me !=(k:Int))=false:=by simpa using h2
    refine G0 [84,0] ?_;cases hu:n.up
    case false=>
     refine G E [40,0,1,1,1,1,1,1,1,0,0,4,8,21,23,0,0,25] ?_
     go_roundw
     case rel=>exact⟨k+1,rfl,hlt,E.drop 1⟩
     case measure=>simp[intOf];omega
    case true=>
     refine G E [40,84,40,0,42] ?_;refine ah (YI n.b.all c.all _ 1000 (E.h HN).1 (E.h HL).1 (by decide)) ?_;rintro _ w15 ⟨q,rfl,hb⟩;replace E:=E.up hb;clear hb;refine G0 [26] ?_;cases q
     case false=>
      refine G0 [84,4,7,5,0,4,22,24] ?_;exact ak ⟨8,rfl,L_ (fun h=>absurd h (by decide)),E.aD⟩
     case true=>
      refine G0 [84,4,8,21,23,0,0,25] ?_
      go_roundw
      case rel=>exact⟨k+1,rfl,hlt,E.drop 1⟩
      case measure=>simp[intOf];omega
   case neg=>
    refine G E [5,0,4,17,27,28,6,5,0,41,0] ?_;refine ah (uP c.ma (fun m q=>q=false→m.t<(c.no.l.length:Int)) 46 BM #[g3] _ 5000 (E.h HL).2.2 (by decide) (fun m hm w' hb=>WL g3 c.no.l.length m w' ((E.blk 0 rfl).below hb (E.blk 0 rfl).lt))) ?_;rintro _ w16 ⟨q,rfl,hq,-,hb⟩;replace E:=E.up hb;clear hb;refine G0 [26] ?_;cases q
    case false=>
     refine G0 [4,8,15,5,0,4,22] ?_;exact ak ⟨0,rfl,L_ (fun _=>⟨⟨by omega,by omega⟩,fun m hm=>⟨(hv.2 m hm).t.1,hq rfl m hm rfl⟩⟩),E.aD⟩
    case true=>
     refine G0 [4,7,5,0,4,22,24] ?_;exact ak ⟨8,rfl,L_ (fun h=>absurd h (by decide)),E.aD⟩
def iJ (c:jH):List It:=[own c.no 1000,own c.ma 5000,own c.all 1000]
def fC:jH:=⟨⟨none,0,[]⟩,⟨none,0,[]⟩,⟨none,0,[]⟩⟩
structure Jo (y c:jH):Prop where
 all:dB y.all.l c.all.l
 ma:y.ma.l=c.ma.l
 n:y.no.l.length=c.no.l.length
 no:∀(k:Nat) (u:eP),y.no.l[k]?=some u→∃z,c.no.l[k]?=some z∧pY u z
theorem iM.same {aU:List (List Int)}{T:Nat}{c y:jH}(h:iM me aU T c)(s:Jo y c):iM me aU T y:=
 ⟨fun k u hu=>by
  obtain⟨z,h1,h2⟩:=s.no k u hu;exact(h.no k z h1).same h2,by rw[s.ma];exact h.ma,(dB.aU s.all).trans h.all⟩
theorem iM.more {aU:List (List Int)}{T:Nat}{c:jH}(h:iM me aU T c)(hT:T≤T'):iM me aU T' c:=⟨fun k u hu=>(h.no k u hu).more hT,h.ma,h.all⟩
theorem Ir (c:jH)(w:World)(hl:au.aA w w 1000 c) :
  Calls prog 48 #[c] w fun e w'=>∃y:jH,e=.returned (y)∧Hid (Jo y c)∧Env w w [] (iJ y) w':=by
 have HL:=L_ hl;have hnn:=hl.2.1.2.2.2.1;clear hl;have E:=Env.start w
 go_enter func48,ntmps48
 refine G E [5,71,3,70,3,9] ?_;clear E;intro g1 g2 w3 E;refine aC (dw 8 E ?_);clear E;intro w4 E;refine ay 0 E ?_;refine aX 1 1 E ?_;refine ay 3 E ?_;refine aX 4 1 E ?_;refine IJ 2 7 (cK (zm c.all _ 1000 (E.h HL).1 (by decide)) ?way1a) (jm E ?way1b)
 case' way1a=>
  rintro _ w5 ⟨gs,rfl,hg,F⟩;replace E:=E.call F;clear F;refine⟨_,rfl,E.weak,dL ?_⟩;refine IJ 5 7 (cK (qg fM E HL.2.2) ?way2a) (jm E ?way2b)
  case' way2a=>
   clear E;rintro _ w6 ⟨m,rfl,hm,E⟩;refine⟨_,rfl,E.weak,dL ?_⟩;refine ay 6 E ?_;refine T_1 7 (jm E ?_);clear E;intro g3 w7 E;refine⟨(E.drop 1).weak,dL ?_⟩
  case' way2b=>
   clear E;intro g3 w6 E;refine⟨(E.drop 1).weak,dL ?_⟩;refine T_1 5 (cK (qg fM E HL.2.2) ?_);clear E;rintro _ w7 ⟨m,rfl,hm,E⟩;refine⟨_,rfl,(E.drop 1).weak,dL ?_⟩;refine ay 6 E ?_
 case' way1b=>
  clear E;intro g3 w5 E;refine⟨(E.drop 1).weak,dL ?_⟩;refine T_1 2 (cK (zm c.all _ 1000 (E.h HL).1 (by decide)) ?_);rintro _ w6 ⟨gs,rfl,hg,F⟩;replace E:=E.call F;clear F;refine⟨_,rfl,(E.drop 1).weak,dL ?_⟩;refine T_1 5 (cK (qg fM E HL.2.2) ?_);clear E;rintro _ w7 ⟨m,rfl,hm,E⟩;refine⟨_,rfl,(E.drop 1).weak,dL ?_⟩;refine ay 6 E ?_
 all_goals
  refine G E [30,60,4,6,5,0,42,0,0,4,19,9] ?_;clear E;intro w8 E;replace E:=E.aO (α:=eP) (N:=1000)
  go_loopw [16] (fun u wr=>∃(k:Nat) (s:Sl eP),u=(k:Int)∧k≤c.no.l.length∧s.l.length=k∧Hid (∀(j:Nat) (u:eP),s.l[j]?=some u→∃z,c.no.l[j]?=some z∧pY u z)∧Env w w ((g3,28,(⟨gs,s,m⟩:jH))::(g2,28,[(),(),()])::(g1,28,c)::[]) (iJ ⟨gs,s,m⟩) wr) (fun u _=>c.no.l.length - (intOf u).toNat)
  case atStart=>exact⟨0,⟨none,0,[]⟩,rfl,Zq _,rfl,L_ (fun j u h=>by cases h),E⟩
  case round=>
   clear E;obtain⟨k,s,rfl,hk,hsk,HS,E⟩:=hrel;replace hsk:=L_ hsk
   by_cases hlt:k<c.no.l.length
   case pos=>
    have hw:IntKind.i64.wrap ((k:Int)+1)=((k+1:Nat):Int):=by rw[aaP _ (by omega)];rfl
    obtain⟨bb,off,n,hA,-,hn,hcc,hnl⟩:=(E.h HL).2.1.get (k:=k) hlt;have HN:Hid (au.aA w w 1000 n):=L_ (HL.2.1.2.2.2.2 n (Zk hn));replace hn:=L_ hn;replace hcc:=L_ hcc;clear hnl;refine G0 [5,0,4,16,15,18,5,0] ?_;refine fA n hcc ?_;clear hcc hA;refine G E [70,3,60,9] ?_;clear E;intro g5 w10 E;refine aC (fO 0 5 E ?_);clear E;intro w11 E;refine ay 0 E ?_;refine aX 1 1 E ?_;refine oG 2 0 8 E ?_;refine cu 3 (Nq n _ (E.h HN)) ?_;rintro _ w12 ⟨y,rfl,hy,F⟩;replace E:=Env.join ((E.call F).perm (ZW ..));clear F;refine⟨_,rfl,E.weak,dL ?_⟩;refine uZ 4 E ?_;clear E;intro g24 w13 E;refine dL ?_;refine kg ?_;refine uR 0 (s:=s) (N:=1000) 1000 y g24 E (E.reads 0 1 8) (by rw[hsk.out];omega) (by omega) (by omega) ?_;clear E;intro s2 w14 h2 E;refine zO ?_
    have HS2:Hid (∀(j:Nat) (u:eP),s2.l[j]?=some u→∃z,c.no.l[j]?=some z∧pY u z):=L_ (fun j u hu=>by
     rw[h2.out] at hu
     by_cases hj:j<s.l.length
     ·rw[Z0 hj] at hu;exact HS j u hu
     ·rw[Z8 (by omega)] at hu;have e:j - s.l.length=0:=by have:=(Zo.1 hu).1;simpa using this
      rw[e] at hu;injection hu with hu
      have e2:j=k:=by have:=hsk.out;omega
      exact⟨n,e2▸hn.out,hu▸hy.out⟩)
    refine G E [0,62,20,23,0,0,9] ?_;clear E;intro w15 E;refine jI ?_
    go_roundw
    case rel=>exact⟨k+1,s2,rfl,hlt,by rw[h2.out,Zn,hsk.out];rfl,HS2,E.drop 2⟩
    case measure=>simp[intOf];omega
   case neg=>
    refine G0 [5,0,4,17,27,28,5] ?_;refine aB 0 3 E ?_;refine G E [61,4,22,9] ?_;clear E;intro w16 E;exact nI 1 E ⟨⟨gs,s,m⟩,rfl,L_ ⟨hg,hm,by have:=hsk.out;show s.l.length=_;omega,HS⟩,E.drop 3⟩
structure Turned (c:jH)(k:Nat)(y:eP)(Y:jH):Prop where
 all:dB Y.all.l c.all.l
 ma:Y.ma.l=c.ma.l
 n:Y.no.l.length=c.no.l.length
 no:∀(j:Nat) (u:eP),Y.no.l[j]?=some u→j=k∧u=y∨∃z,c.no.l[j]?=some z∧pY u z
theorem iM.turn {aU:List (List Int)}{T:Nat}{c Y:jH}{y:eP}(h:iM me aU T c)(hT:T≤T')(s:Turned c k y Y)(hy:eO me aU T' (k:Int) y):iM me aU T' Y:=
 ⟨fun j u hu=>by
  rcases s.no j u hu with ⟨rfl,rfl⟩|⟨z,h1,h2⟩
  ·exact hy
  ·exact((h.no j z h1).more hT).same h2,by rw[s.ma];exact h.ma,(dB.aU s.all).trans h.all⟩
theorem Hr {is:List It}(R:eP→σ→Prop)(g0:Nat)(C:Array Value)(eg:∀args w,(callFunc g0 args).run prog w=.ok (.enter g0 args) w)(J:It)(J':σ→It)(c:jH)(k:Nat)(n:eP)(w:World)(E:Env b w0 bx (J::is) w)(hl:au.aA w0 b 1000 c)(hn:c.no.l[k]?=some n)
  (hdo:∀(bx':List Bx) (w':World),Env b w0 (bx'++bx) (J::is) w'→Calls prog g0 (#[.agg #[.bool n.up,.int .i64 n.b.me,.slice n.b.all.A n.b.all.l.length n.b.all.c,.slice n.b.se.A n.b.se.l.length n.b.se.c,.slice n.b.ti.A n.b.ti.l.length n.b.ti.c,.slice n.k.d.A n.k.d.l.length n.k.d.c,.slice n.k.w.A n.k.w.l.length n.k.w.c,.slice n.h.A n.h.l.length n.h.c]]++C) w' fun e w''=>∃(y:eP) (v:Int) (s:σ),e=.returned (.tuple #[.agg #[.bool y.up,.int .i64 y.b.me,.slice y.b.all.A y.b.all.l.length y.b.all.c,.slice y.b.se.A y.b.se.l.length y.b.se.c,.slice y.b.ti.A y.b.ti.l.length y.b.ti.c,.slice y.k.d.A y.k.d.l.length y.k.d.c,.slice y.k.w.A y.k.w.l.length y.k.w.c,.slice y.h.A y.h.l.length y.h.c],.int .i64 v])∧Hid (v=0→R y s)∧Env b w0 (bx'++bx) (own y 1000::J' s::is) w'') :
  Calls prog 26 #[c,(k:Int),.func (.func g0) #[] C] w fun e w'=>∃(Y:jH) (v:Int) (s:σ),e=.returned (.tuple #[Y,v])∧Hid (v=0→∃y,R y s∧Turned c k y Y)∧Env b w0 bx (iJ Y++(J' s::is)) w':=by
 have HL:=L_ hl;have hkl:k<c.no.l.length:=(Zo.1 hn).1;have hnn:=hl.2.1.2.2.2.1;have HN:=L_ hn;have HDO:=L_ hdo;clear hl hn hdo
 go_enter func26,ntmps26
 refine G E [5,71,3,70,3,0,4,5,0,0,41,0,9] ?_;clear E;intro g3 g6 w3 E;obtain⟨bb,off,n',hA,-,hn',hcc,-⟩:=(E.h HL).2.1.get (k:=k) hkl;obtain rfl:n'=n:=by have h:=HN.out;rw[hn'] at h;exact Z4 h
 replace hcc:=L_ hcc;clear hn';refine fV ?_;refine fA n' hcc ?_;clear hcc hA;refine ah (HDO.out [_,_] _ E) ?_;clear E;rintro _ w4 ⟨y,v,s,rfl,hy,E⟩;refine G0 [26] ?_
 by_cases h0:v=0
 case neg=>
  refine G E [84,70,3,60,0,4,6,5,0,0,4,7,5,0,0,61,0,4,22,24,9] ?_;clear E;intro g8 w7 E;exact aI 1 E ⟨fC,v,s,rfl,L_ (fun h=>absurd h h0),(((E.drop 3).tl.aO (α:=gT) (N:=1000)).aO (α:=bS) (N:=5000)).aO (α:=eP) (N:=1000)⟩
 subst h0;refine G E [84,70,3,60,0,4,6,5,0,0,4,8,15,5,9] ?_;clear E;intro g8 w9 E;refine aB 2 3 E ?_;refine ah (Ir c _ (E.h HL)) ?_;rintro _ w10 ⟨Y,rfl,hY,F⟩;replace E:=E.call F;clear F;refine G E [26,62,4,9] ?_;clear E;intro w11 E;obtain⟨z,hz⟩:∃z,Y.no.l[k]?=some z:=⟨_,Zl (by rw[hY.out.n];exact hkl)⟩;have hkY:k<Y.no.l.length:=(Zo.1 hz).1;replace hz:=L_ hz;obtain⟨gl,cur,hA2,-,-,-⟩:=(show Sl.Own _ b 1000 Y.no from E.get 0).1.at_ hz;replace E:=Env.join (E.dQ (is':=own Y.no 1000::own y 1000::own Y.ma 5000::own Y.all 1000::J' s::is) 4 [0,3,1,2]);refine G E [5,0,42,0] ?_;refine aB 0 8 E ?_;refine fV ?_;refine Oj (N:=1000) 0 E hA2 hz y ?_;clear E;intro w12 E;clear hA2;refine G0 [4,5] ?_;refine aB 2 3 E ?_;refine G E [61,0,4,22,9] ?_;clear E;intro w13 E
 exact aI 1 E ⟨⟨Y.all,⟨Y.no.A,Y.no.c,Y.no.l.set k y⟩,Y.ma⟩,0,s,congrArg (fun n=>Ending.returned (.tuple #[.agg #[Y.all,.slice Y.no.A n Y.no.c,Y.ma],.int .i64 0])) (by simp:(Y.no.l.set k y).length=Y.no.l.length).symm,L_ (fun _=>⟨y,hy rfl,hY.all,hY.ma,by rw[←hY.out.n];exact Z7 ..,fun j u hu=>by
  have hu:(Y.no.l.set k y)[j]?=some u:=hu;rw[aaH] at hu
  split at hu
  ·rename_i e
   try rw[aaS hkY] at hu
   exact Or.inl ⟨e.symm,(Z4 hu).symm⟩
  ·exact Or.inr (hY.no j u hu)⟩),E.drop 3⟩
end
variable{w:World}
section
attribute [local irreducible] wpList av
def RU:It where
 p:=fun _ _=>True
 bl:=[]
 mono:=fun h _=>h
 keep:=fun h _=>h
 lt:=fun _ g hg=>by cases hg
theorem Env.RU {is:List It}(E:Env b w0 bx is w):Env b w0 bx (RU::is) w:=E.gG (aaO _ _) _ trivial (fun g hg=>by cases hg)
def JQ (me:Int)(aU:List (List Int))(T:Nat)(c:jH)(w:World)(e:Ending)(w':World):Prop:=
 ∃(Y:jH) (v:Int),e=.returned (.tuple #[Y,v])∧Hid (v=0→iM me aU T Y∧Y.no.l.length=c.no.l.length)∧Env w w [] (iJ Y) w'
theorem Env.fC {is:List It}(E:Env b w0 bx is w):Env b w0 [] (iJ fC) w:=
 (((E.sub (Zy _) (Zy _)).aO (α:=gT) (N:=1000)).aO (α:=bS) (N:=5000)).aO (α:=eP) (N:=1000)
theorem Cx:∀args w,(callFunc 98 args).run prog w=.ok (.enter 98 args) w:=enters_of func98 (by kernel_rfl) rfl
theorem XY (me:Int)(aU:List (List Int))(T T':Nat)(i:Int)(g1:Nat)(n:eP)(m:bS)(w:World)(hb:aF w g1 62 m)(hl:au.aA w w 1000 n)(hi:kr (yE me aU i) T n)(hm:m.k=7∨yE me aU i m.g m.v)(hw:gN m)(hT:T≤T')(hT8:m.k=8→T+1≤T')(hTN:T'≤1000) :
  Calls prog 98 #[n,g1] w (FH (yE me aU i) (rY (yE me aU i) n.b.me m) T' n w):=by
 have HL:=L_ hl;have HI:=L_ hi;have HM:=L_ hm;have HW:=L_ hw;have HB:=L_ hb;have HT:=L_ hT;have HT8:=L_ hT8;have HTN:=L_ hTN;have hlt:=hb.lt;clear hl hi hm hw hb hT hT8 hTN;have E:=Env.start w
 go_enter func98,ntmps98
 refine G E [5,71,3,70,3,0,4,5,9] ?_;clear E;intro g2 g3 w3 E;refine aB 1 8 E ?_;refine fA m (fun q u hu=>(E.aD.cell (p:=⟨g1,0+q,none⟩) hlt).trans ((HB.cell (0+q)).trans (by rw[aah];exact List.getElem?_toArray.trans hu))) ?_;refine ah (Nt (yE me aU i) T T' n m _ (E.h HL) HI (oI me aU i) HM HW HT HT8 HTN) ?_;rintro _ w4 ⟨y,v,rfl,hy,F⟩;replace E:=E.call F;clear F;refine G E [26,0,0,60,0,4,22,9] ?_;clear E;intro w5 E;exact aI 0 E ⟨y,v,rfl,hy,E.drop 2⟩
theorem Nl (me:Int)(aU:List (List Int))(T:Nat)(c:jH)(m:bS)(w:World)(hl:au.aA w w 1000 c)(hc:iM me aU T c)(hk:Ho c)(hm:m∈c.ma.l)(hTN:T+1≤1000) :
  Calls prog 49 #[c,m] w (JQ me aU (T+1) c w):=by
 obtain⟨k,n,hmt,hn⟩:∃(k:Nat) (n:eP),m.t=(k:Int)∧c.no.l[k]?=some n:=by
  have h:=hk.ma m hm;exact⟨m.t.toNat,_,by omega,Zl (by omega)⟩
 have hkl:k<c.no.l.length:=(Zo.1 hn).1;have hMO:=hc.ma m hm;have HL:=L_ hl;have HN:=L_ hn;have HC:=L_ hc;have HMO:=L_ hMO;have HTN:=L_ hTN;have HNL:Hid (au.aA w w 1000 n):=L_ (hl.2.1.2.2.2.2 n (Zk hn));have HMT:=L_ hmt;have HPG:Hid (m.k=7∨yE me aU (k:Int) m.g m.v):=L_ (hMO.ok.imp_right fun h=>⟨hmt▸h.2.1,h.2.2.1,h.2.2.2⟩);clear hl hc hk hm hMO hTN hn;have E:=Env.start w;obtain⟨mf,mt,mk,mg,ms,mb,mp,mv,mi,mtm⟩:=m;dsimp only at hmt;subst hmt;clear HMT
 go_enter func49,ntmps49
 refine G E [5,71,3,71,3,70,3,0,4,6,5,0,42,0,41,9] ?_;clear E;intro g2 g3 g4 w4 E;obtain⟨bb,off,n',hA,-,hn',hcc,-⟩:=(E.h HL).2.1.get (k:=k) hkl;obtain rfl:n'=n:=by have h:=HN.out;rw[hn'] at h;exact Z4 h
 have d1:_=some (Value.bool n'.up):=hcc 0 _ rfl;clear hn' hcc;refine G0 [0,0] ?_;refine bQ d1 ?_;clear d1 hA;cases hu:n'.up
 case false=>
  refine G0 [0,4,7,5] ?_;refine aB 2 3 E ?_;refine ah (Ir c _ (E.h HL)) ?_;rintro _ w5 ⟨Y,rfl,hY,F⟩;replace E:=E.call F;clear F;refine G E [26,60,0,4,22,24,9] ?_;clear E;intro w6 E;exact aI 0 E ⟨Y,0,rfl,L_ (fun _=>⟨(HC.same hY).more (Nat.le_succ T),hY.n⟩),E.drop 3⟩
 case true=>
  refine G0 [0,4,8,15,5] ?_;refine aB 2 3 E ?_;refine G E [0,41,0] ?_;refine ah (Hr (σ:=Unit) (is:=[]) (fun y _=>NI (yE me aU (k:Int)) (rY (yE me aU (k:Int)) n'.b.me ⟨mf,(k:Int),mk,mg,ms,mb,mp,mv,mi,mtm⟩) (Tn me (T+1) (k:Int)) n' y) 98 #[g3] Cx RU (fun _=>RU) c k n' _ E.RU HL HN (fun bx' w' E'=>(XY me aU (Tn me T (k:Int)) (Tn me (T+1) (k:Int)) (k:Int) g3 n' ⟨mf,(k:Int),mk,mg,ms,mb,mp,mv,mi,mtm⟩ w' (E'.at_ _ (ZL _ (Zv _ ZC))) (E'.h HNL) (HC.no k n' HN).inn HPG HMO.wf (TN (Nat.le_succ T)) (fun h8=>by have h:=HPG.resolve_left (by simp only at h8 ⊢;omega);unfold Tn;rw[aaR h.1,aaR h.1];exact Zh _) (Zt Vg HTN)).mono fun e w'' ⟨y,v,h1,h2,F⟩=>⟨y,v,(),h1,h2,E'.call F⟩)) ?_;clear E;rintro _ w7 ⟨Y,v,s,rfl,hY,E⟩;refine G E [26,0,0,60,0,4,22,9] ?_;clear E;intro w8 E;exact aI 0 E ⟨Y,v,rfl,L_ (fun h0=>by obtain⟨y,hy,ht⟩:=hY h0;exact⟨HC.turn (Nat.le_succ T) ht ((HC.no k n' HN).step (fun m' h=>U8 HMO (by rw[(HC.out.no k n' HN.out).Ws] at h;exact h)) hy),ht.n⟩),(E.drop 3).sub (Zi _) (List.sublist_append_left _ _)⟩
theorem H7 (me:Int)(aU:List (List Int))(T:Nat)(c:jH)(a:DN)(w:World)(hl:au.aA w w 1000 c)(hc:iM me aU T c)(hk:Ho c)(hTN:T+1≤1000) :
  Calls prog 16 #[c,a] w (JQ me aU (T+1) c w):=by
 have HL:=L_ hl;have HC:=L_ hc;have HK:=L_ hk;have HTN:=L_ hTN;clear hl hc hk hTN;have E:=Env.start w
 go_enter func16,ntmps16
 refine G E [5,71,3,71,3,70,3,0,4,5,0,42,0,41,9] ?_;clear E;intro g2 g3 g4 w4 E;refine ah (Xd c.ma a.pl _ (E.h HL).2.2 (fun m hm=>(HC.ma m hm).wf)) ?_;rintro _ w5 ⟨o,m,v,rfl,hm,ho,F⟩;replace E:=E.call F;clear F;refine G0 [26] ?_
 by_cases h0:v=0
 case neg=>
  refine G E [84,0,70,3,0,60,0,4,6,5,0,0,4,7,5,0,0,61,0,4,22,24,9] ?_;clear E;intro g7 w8 E;exact aI 1 E ⟨fC,v,rfl,L_ (fun h=>absurd h h0),E.fC⟩
 subst h0;refine G E [84,0,70,3,0,60,0,4,6,5,0,0,4,8,9] ?_;clear E;intro g7 w10 E;replace hm:=L_ (hm rfl)
 by_cases h5:(a.k==5)=true
 case pos=>
  refine G E [15,6,5,0,42,0,4,7,5] ?_;refine aB 3 3 E ?_;refine ah (Ir c _ (E.h HL)) ?_;rintro _ w11 ⟨Y,rfl,hY,F⟩;replace E:=E.call F;clear F;refine G E [26,63,4,5,0,0,63,4,5,9] ?_;clear E;intro w13 E;refine aB 3 3 E ?_;refine G E [61,0,4,22,24,9] ?_;clear E;intro w14 E;exact aI 1 E ⟨⟨Y.all,Y.no,o⟩,0,rfl,L_ (fun _=>⟨⟨((HC.same hY).more (Nat.le_succ T)).no,fun x hx=>HC.ma x (ho x hx),((HC.same hY).more (Nat.le_succ T)).all⟩,hY.n⟩),(E.drop 4).dQ (is':=iJ ⟨Y.all,Y.no,o⟩) 4 [0,3,2]⟩
 case neg=>
  replace h5:(a.k==5)=false:=by simpa using h5
  refine G E [15,6,5,0,42,0,4,8,15,5] ?_;refine aB 3 3 E ?_;refine aB 0 10 E ?_;refine ah (Nl me aU T c m _ (E.h HL) HC HK hm HTN) ?_;rintro _ w15 ⟨Y,v,rfl,hY,F⟩;replace E:=E.call F;clear F;refine G0 [26] ?_
  by_cases h6:(v==0)=true
  case neg=>
   replace h6:(v==0)=false:=by simpa using h6
   refine G E [84,63,0,4,6,5,84,1,1,1,0,4,8,15,5,9] ?_;clear E;intro w16 E;refine aB 3 3 E ?_;refine G E [0,61,0,4,22,9] ?_;clear E;intro w17 E;exact aI 1 E ⟨Y,v,rfl,hY,(E.drop 4).sub (Zi _) (List.sublist_append_left (iJ Y) _)⟩
  case pos=>
   refine G E [84,63,0,4,6,5,84,0,9] ?_;clear E;intro w18 E
   by_cases h7:(a.k==3)=true
   case neg=>
    replace h7:(a.k==3)=false:=by simpa using h7
    refine G E [42,0,0,4,8,15,5] ?_;refine aB 3 3 E ?_;refine G E [0,61,0,4,22,9] ?_;clear E;intro w19 E;exact aI 1 E ⟨Y,v,rfl,hY,(E.drop 4).sub (Zi _) (List.sublist_append_left (iJ Y) _)⟩
   case pos=>
    refine G E [42,0,0,4,7,23,0,0,63,4,5,9] ?_;clear E;intro w20 E;refine aB 3 3 E ?_;refine G E [0,61,0,4,22,9] ?_;clear E;intro w21 E;exact aI 1 E ⟨⟨Y.all,Y.no,o⟩,v,rfl,L_ (fun h0=>⟨⟨(hY h0).1.no,fun x hx=>HC.ma x (ho x hx),(hY h0).1.all⟩,(hY h0).2⟩),(E.drop 4).dQ (is':=iJ ⟨Y.all,Y.no,o⟩) 4 [0,3,2]⟩
def QJ (g:Nat)(l:Sl bS):It:=both (xO (g,26,[l])) (own l 5000)
theorem CX:∀args w,(callFunc 63 args).run prog w=.ok (.enter 63 args) w:=enters_of func63 (by kernel_rfl) rfl
theorem WQ {is:List It}(Pg:Int→ByteArray→Prop)(T g1:Nat)(n:eP)(w:World)(E:Env b w0 bx (QJ g1 ⟨none,0,[]⟩::is) w)(hl:au.aA w0 b 1000 n)(hi:kr Pg T n)(hz:oH Pg) :
  Calls prog 63 #[n,g1] w fun e w'=>∃(y:eP) (v:Int) (l:Sl bS),e=.returned (.tuple #[y,v])∧Hid (v=0→(ze Pg T n y∧n.up=true∧y.up=true∧y.b.aU=n.b.aU)∧∀m∈l.l,m∈n.h.l)∧Env b w0 bx (own y 1000::QJ g1 l::is) w':=by
 have HL:=L_ hl;have HI:=L_ hi;have HZ:=L_ hz;clear hl hi hz;replace E:=Env.qE (x:=(g1,26,[()])) (s:=(⟨none,0,[]⟩:Sl bS)) (N:=5000) E
 go_enter func63,ntmps63
 refine G E [5,71,3,70,3,0,4,5,9] ?_;clear E;intro g2 g3 w3 E;refine aB 1 8 E ?_;refine ah (UQ Pg T n _ (E.h HL) HI HZ) ?_;rintro _ w4 ⟨y,l,v,rfl,hy,hl,F⟩;replace E:=E.call F;clear F;refine G E [26,84,0,60,62,0,4,5,9] ?_;clear E;intro w6 E;refine aB 0 8 E ?_;refine G E [0,60,0,9] ?_;clear E;intro w7 E;replace E:=(E.dQ (is':=own l 5000::own y 1000::is) 3 [0,1]);replace E:=(E.bD 2).sP;refine G0 [4,22] ?_;exact aI 0 E ⟨y,v,l,rfl,L_ (fun h0=>⟨hy h0,hl⟩),(E.drop 2).perm (ZW ..)⟩
theorem U5 (me:Int)(aU:List (List Int))(T:Nat)(c:jH)(k:Nat)(w:World)(hl:au.aA w w 1000 c)(hc:iM me aU T c)(hkl:k<c.no.l.length) :
  Calls prog 25 #[c,(k:Int)] w (JQ me aU T c w):=by
 obtain⟨n,hn⟩:∃n,c.no.l[k]?=some n:=⟨_,Zl hkl⟩;have HL:=L_ hl;have HN:=L_ hn;have HC:=L_ hc;have HNL:Hid (au.aA w w 1000 n):=L_ (hl.2.1.2.2.2.2 n (Zk hn));clear hl hc hn hkl;have E:=Env.start w
 go_enter func25,ntmps25
 refine G E [5,71,3,70,3,0,4,5,70,3,4,5,9] ?_;clear E;intro g2 g4 g6 w4 E;refine aB 2 3 E ?_;refine G0 [0,0] ?_;replace E:=(E.aO (α:=bS) (N:=5000)).sP;refine ah (Hr (is:=[]) (fun y (l:Sl bS)=>(ze (yE me aU (k:Int)) (Tn me T (k:Int)) n y∧n.up=true∧y.up=true∧y.b.aU=n.b.aU)∧∀m∈l.l,m∈n.h.l) 63 #[g6] CX (QJ g6 ⟨none,0,[]⟩) (QJ g6) c k n _ E HL HN (fun bx' w' E'=>WQ (yE me aU (k:Int)) (Tn me T (k:Int)) g6 n w' E' HNL (HC.no k n HN).inn (oI me aU _ 0).sz)) ?_;clear E;rintro _ w5 ⟨Y,v,l,rfl,hY,E⟩;replace E:=Env.qE (x:=(g6,26,[l])) (s:=l) (N:=5000) (E.Cu 3);refine G0 [26] ?_
 by_cases h0:v=0
 case neg=>
  refine G E [84,70,3,60,0,4,6,5,0,0,4,7,5,0,0,62,0,4,22,24,9] ?_;clear E;intro g7 w8 E;exact aI 2 E ⟨fC,v,rfl,L_ (fun h=>absurd h h0),E.fC⟩
 subst h0;refine G E [84,70,3,60,0,4,6,5,0,0,4,8,15,5,0,40,41,9] ?_;clear E;intro g7 w10 E
 have HY:Hid ((iM me aU T Y∧Y.no.l.length=c.no.l.length)∧∀m∈l.l,vI me aU m):=L_ (by
  obtain⟨y,hy,ht⟩:=hY rfl;exact⟨⟨HC.turn (Zh T) ht ((HC.no k n HN).Yi hy.1.1 fun _=>hy.1.2.2.2.trans ((HC.no k n HN).Pm hy.1.2.1)),ht.n⟩,fun m hm=>((HC.no k n HN).ho m (hy.2 m hm)).1⟩)
 refine ah (Wv Y.ma l _ (E.ol (s:=Y.ma) (N:=5000) 2) (E.ol (s:=l) (N:=5000) 0) (fun m hm=>(HY.1.1.ma m hm).wf) (fun m hm=>(HY.2 m hm).wf)) ?_;rintro _ w11 ⟨o,v,rfl,ho,F⟩;replace E:=E.call F;clear F;refine G0 [26] ?_
 by_cases h0:v=0
 case neg=>
  refine G E [83,4,6,5,0,0,4,7,5,0,0,62,0,4,22,24,9] ?_;clear E;intro w12 E;exact aI 2 E ⟨fC,v,rfl,L_ (fun h=>absurd h h0),E.fC⟩
 subst h0;refine G E [83,4,6,5,0,0,4,8,15,5,0,0,60,4,5,9] ?_;clear E;intro w13 E;refine aB 0 3 E ?_;refine G E [62,0,4,22,9] ?_;clear E;intro w14 E;exact aI 2 E ⟨⟨Y.all,Y.no,o⟩,0,rfl,L_ (fun _=>⟨⟨HY.1.1.no,fun m hm=>(ho m hm).elim (HY.1.1.ma m) (HY.2 m),HY.1.1.all⟩,HY.1.2⟩),(E.drop 4).dQ (is':=iJ ⟨Y.all,Y.no,o⟩) 5 [2,0,4]⟩
structure F4 (a:DN):Prop where
 DL:i64 a.DL
 g:i64 a.g
 c:ny a.c
def Np (me:Int)(aU:List (List Int))(a:DN):Prop:=a.k=8→a.node≠me∧¬Mine me aU a.g∧∀h∈a.c.m.g.l,¬Mine me aU h
def Md (R:eP→Prop)(w:World)(e:Ending)(w':World):Prop:=∃(y:eP) (v:Int),e=.returned (.tuple #[y,v])∧Hid (v=0→R y)∧Env w w [] [own y 1000] w'
theorem yV (me:Int)(aU:List (List Int))(T g0:Nat)(C:Array Value)(eg:∀args w,(callFunc g0 args).run prog w=.ok (.enter g0 args) w)(c:jH)(k:Nat)(n:eP)(w0 w:World)(E:Env w0 w0 bx [] w)(hl:au.aA w0 w0 1000 c)(hn:c.no.l[k]?=some n)(hc:iM me aU T c)
  (hdo:∀(bx':List Bx) (w':World),Env w0.heap.size w0 (bx'++bx) [RU] w'→au.aA w' w'.heap.size 1000 n→Calls prog g0 (#[.agg #[.bool n.up,.int .i64 n.b.me,.slice n.b.all.A n.b.all.l.length n.b.all.c,.slice n.b.se.A n.b.se.l.length n.b.se.c,.slice n.b.ti.A n.b.ti.l.length n.b.ti.c,.slice n.k.d.A n.k.d.l.length n.k.d.c,.slice n.k.w.A n.k.w.l.length n.k.w.c,.slice n.h.A n.h.l.length n.h.c]]++C) w' (Md (eO me aU T (k:Int)) w')) :
  Calls prog 26 #[c,(k:Int),.func (.func g0) #[] C] w fun e w'=>∃(Y:jH) (v:Int),e=.returned (.tuple #[Y,v])∧Hid (v=0→iM me aU T Y∧Y.no.l.length=c.no.l.length)∧Env w0 w0 bx (iJ Y) w':=
 (Hr (σ:=Unit) (is:=[]) (fun y _=>eO me aU T (k:Int) y) g0 C eg RU (fun _=>RU) c k n w E.RU hl hn fun bx' w' E'=>(hdo bx' w' E' (E'.h (hl.2.1.2.2.2.2 n (Zk hn)))).mono fun e w'' ⟨y,v,h1,h2,F⟩=>⟨y,v,(),h1,h2,E'.call F⟩).mono fun e w' ⟨Y,v,_,h1,h2,E'⟩=>⟨Y,v,h1,L_ fun h0=>by
  obtain⟨y,hy,ht⟩:=h2 h0;exact⟨hc.turn (Zh T) ht hy,ht.n⟩,E'.sub (Zi _) (List.sublist_append_left _ _)⟩
theorem Co:∀args w,(callFunc 17 args).run prog w=.ok (.enter 17 args) w:=enters_of func17 (by kernel_rfl) rfl
theorem BK:∀args w,(callFunc 18 args).run prog w=.ok (.enter 18 args) w:=enters_of func18 (by kernel_rfl) rfl
theorem G6:∀args w,(callFunc 19 args).run prog w=.ok (.enter 19 args) w:=enters_of func19 (by kernel_rfl) rfl
theorem Gb:∀args w,(callFunc 21 args).run prog w=.ok (.enter 21 args) w:=enters_of func21 (by kernel_rfl) rfl
theorem I6:∀args w,(callFunc 23 args).run prog w=.ok (.enter 23 args) w:=enters_of func23 (by kernel_rfl) rfl
theorem Qx (me:Int)(aU:List (List Int))(T k:Nat)(n:eP)(w:World)(hl:au.aA w w.heap.size 1000 n)(hn:eO me aU T (k:Int) n):Calls prog 17 (#[.agg #[.bool n.up,.int .i64 n.b.me,.slice n.b.all.A n.b.all.l.length n.b.all.c,.slice n.b.se.A n.b.se.l.length n.b.se.c,.slice n.b.ti.A n.b.ti.l.length n.b.ti.c,.slice n.k.d.A n.k.d.l.length n.k.d.c,.slice n.k.w.A n.k.w.l.length n.k.w.c,.slice n.h.A n.h.l.length n.h.c]]++#[]) w (Md (eO me aU T (k:Int)) w):=
 (UG (yE me aU (k:Int)) _ n w hl hn.inn (oI me aU _)).mono fun e w' ⟨y,v,h1,h2,F⟩=>⟨y,v,h1,L_ fun h0=>hn.step (fun _ h=>h.elim) (h2 h0),F⟩
theorem Q5 (me:Int)(aU:List (List Int))(T k:Nat)(n:eP)(w:World)(hl:au.aA w w.heap.size 1000 n)(hn:eO me aU T (k:Int) n):Calls prog 18 (#[.agg #[.bool n.up,.int .i64 n.b.me,.slice n.b.all.A n.b.all.l.length n.b.all.c,.slice n.b.se.A n.b.se.l.length n.b.se.c,.slice n.b.ti.A n.b.ti.l.length n.b.ti.c,.slice n.k.d.A n.k.d.l.length n.k.d.c,.slice n.k.w.A n.k.w.l.length n.k.w.c,.slice n.h.A n.h.l.length n.h.c]]++#[]) w (Md (eO me aU T (k:Int)) w):=
 (Ve (yE me aU (k:Int)) _ n w hl hn.inn (oI me aU _ 0).sz).mono fun e w' ⟨y,v,h1,h2,F⟩=>⟨y,v,h1,L_ fun h0=>by
  have h:=h2 h0;exact hn.Yi h.1 fun _=>h.2.2.2.trans (hn.Pm h.2.1),F⟩
theorem Y7 (me:Int)(aU:List (List Int))(T k g1:Nat)(a:DN)(n:eP)(w:World)(hb:aF w g1 39 a)(hl:au.aA w w 1000 n)(hn:eO me aU T (k:Int) n)(ha:i64 a.DL) :
  Calls prog 19 #[n,g1] w (Md (eO me aU T (k:Int)) w):=by
 have HL:=L_ hl;have HN:=L_ hn;have HB:=L_ hb;have HA:=L_ ha;have hlt:=hb.lt;clear hl hn hb ha;have E:=Env.start w
 go_enter func19,ntmps19
 refine G E [5,71,3,70,3,0,4,5,9] ?_;clear E;intro g2 g3 w3 E;refine aB 1 8 E ?_;refine fV ?_;refine bQ ((E.aD.cell (p:=⟨g1,3,none⟩) hlt).trans (HB.cell 3)) ?_;refine fV ?_;refine bQ ((E.aD.cell (p:=⟨g1,4,none⟩) hlt).trans (HB.cell 4)) ?_;refine ah (Sv (yE me aU (k:Int)) _ n a.keep a.DL _ (E.h HL) HN.inn (oI me aU _ 0).sz HA) ?_;rintro _ w4 ⟨y,v,rfl,hy,F⟩;replace E:=E.call F;clear F;refine G E [26,0,0,60,0,4,22,9] ?_;clear E;intro w5 E;exact aI 0 E ⟨y,v,rfl,L_ (fun h0=>HN.Yi (hy h0).1 (fun e=>by rw[(hy.out h0).2] at e;cases e)),E.drop 2⟩
theorem Y9 (me:Int)(aU:List (List Int))(T k g1:Nat)(c:jH)(n:eP)(w:World)(hb:aF w g1 28 c)(hl:au.aA w w 1000 n)(ha:c.all.aA w w 1000)(hn:eO me aU T (k:Int) n)(hr:c.all.l.map (fun g=>g.r.l)=aU) :
  Calls prog 21 #[n,g1] w (Md (eO me aU T (k:Int)) w):=by
 have HL:=L_ hl;have HA:=L_ ha;have HN:=L_ hn;have HB:=L_ hb;have HR:=L_ hr;have hlt:=hb.lt;clear hl hn hb hr ha;have E:=Env.start w
 go_enter func21,ntmps21
 refine G E [5,71,3,70,3,0,4,5,9] ?_;clear E;intro g2 g3 w3 E;refine aB 1 8 E ?_;refine fV ?_;refine bQ ((E.aD.cell (p:=⟨g1,0,none⟩) hlt).trans (HB.cell 0)) ?_;refine ah (Rv (yE me aU (k:Int)) _ n c.all _ (E.h HL) (E.l HA) HN.inn (oI me aU _ 0).sz) ?_;rintro _ w4 ⟨y,v,rfl,hy,F⟩;replace E:=E.call F;clear F;refine G E [26,0,0,60,0,4,22,9] ?_;clear E;intro w5 E;exact aI 0 E ⟨y,v,rfl,L_ (fun h0=>HN.Yi (hy h0).1 (fun _=>(hy h0).2.2.trans HR)),E.drop 2⟩
theorem Zd (me:Int)(aU:List (List Int))(T k g1:Nat)(a:DN)(n:eP)(w:World)(hb:aF w g1 39 a)(hl:au.aA w w 1000 n)(hc:au.aA w w 1000 a.c)(hn:eO me aU T (k:Int) n)(ha:F4 a)(hk:(k:Int)≠me)(hg:¬Mine me aU a.g)(hgs:∀h∈a.c.m.g.l,¬Mine me aU h) :
  Calls prog 23 #[n,g1] w (Md (eO me aU T (k:Int)) w):=by
 have HL:=L_ hl;have HN:=L_ hn;have HB:=L_ hb;have HA:=L_ ha;have HC:=L_ hc;have HP:Hid (∀q:Nat,a.g=(q:Int)→q<n.b.all.l.length→Cp.dU a.c.hc.cmd=true→∀v:ByteArray,v.data.toList=Cp.aV a.c.hc.cmd→yE me aU (k:Int) (q:Int) v):=L_ (fun q hq _ hm v hv=>⟨hk,hq▸hg,oM hm hv fun _=>hgs⟩);have hlt:=hb.lt;clear hl hn hb ha hc hk hg hgs;have E:=Env.start w
 go_enter func23,ntmps23
 refine G E [5,71,3,70,3,0,4,5,9] ?_;clear E;intro g2 g3 w3 E;refine aB 1 8 E ?_;refine fV ?_;refine bQ ((E.aD.cell (p:=⟨g1,5,none⟩) hlt).trans (HB.cell 5)) ?_;refine fV ?_;refine fA a.c (fun q u hu=>(E.aD.cell (p:=⟨g1,6+q,none⟩) hlt).trans ((HB.cell (6+q)).trans (List.getElem?_toArray.trans (List.getElem?_drop.symm.trans hu)))) ?_;refine ah (Vb (yE me aU (k:Int)) _ n a.g a.c _ (E.h HL) (E.h HC) HA.c HN.inn (oI me aU _) HA.g HP) ?_;rintro _ w4 ⟨y,v,rfl,hy,F⟩;replace E:=E.call F;clear F;refine G E [26,0,0,60,0,4,22,9] ?_;clear E;intro w5 E;exact aI 0 E ⟨y,v,rfl,L_ (fun h0=>HN.step (fun _ h=>h.elim) (hy h0)),E.drop 2⟩
theorem Wy (me:Int)(aU:List (List Int))(T:Nat)(c:jH)(a:DN)(w:World)(hl:au.aA w w 1000 c)(hla:au.aA w w 1000 a.c)(hc:iM me aU T c)(ha:F4 a)(hok:Np me aU a)(hTN:T+1≤1000) :
  Calls prog 8 #[c,a] w (JQ me aU (T+1) c w):=by
 have HL:=L_ hl;have HLA:=L_ hla;have HC:=L_ hc;have HA:=L_ ha;have HOK:=L_ hok;have HTN:=L_ hTN;clear hl hla hc ha hok hTN;have E:=Env.start w
 go_enter func8,ntmps8
 refine G E [5,71,3,71,3,70,3,0,4,6,5,9] ?_;clear E;intro g2 g3 g4 w4 E;refine aB 2 3 E ?_;refine ah (XV me aU T c _ (E.h HL) HC) ?_;rintro _ w5 ⟨v,rfl,hk,hb⟩;replace E:=E.up hb;clear hb;refine G0 [26] ?_
 by_cases h0:v=0
 case neg=>
  refine G E [0,4,5,0,0,4,7,5,0,0,60,0,4,22,24,9] ?_;clear E;intro w6 E;exact aI 0 E ⟨fC,v,rfl,L_ (fun h=>absurd h h0),E.fC⟩
 subst h0;refine G0 [0,4,5,0,0,4,8] ?_;replace hk:=L_ (hk rfl)
 by_cases a3:(a.k==3)=true
 case pos=>
  refine G E [15,5,0,4,6,5,0,41,4,19,6,5,0,0,4,7,15,7,5] ?_;refine aB 2 3 E ?_;refine aB 1 18 E ?_;refine ah (H7 me aU T c a _ (E.h HL) HC hk HTN) ?_;rintro _ w7 ⟨Y,v,rfl,hY,F⟩;replace E:=E.call F;clear F;refine G E [26,0,0,60,0,4,22,24,9] ?_;clear E;intro w8 E;exact aI 0 E ⟨Y,v,rfl,hY,E.drop 3⟩
 case neg=>
  replace a3:(a.k==3)=false:=by simpa using a3
  refine G E [15,5,0,4,6,5,0,41,4,19,6,5,0,0,4,8] ?_
  by_cases a4:(a.k==4)=true
  case pos=>
   refine G0 [5,0,0,4,7,15,7,5] ?_;refine aB 2 3 E ?_;refine aB 1 18 E ?_;refine ah (H7 me aU T c a _ (E.h HL) HC hk HTN) ?_;rintro _ w9 ⟨Y,v,rfl,hY,F⟩;replace E:=E.call F;clear F;refine G E [26,0,0,60,0,4,22,24,9] ?_;clear E;intro w10 E;exact aI 0 E ⟨Y,v,rfl,hY,E.drop 3⟩
  case neg=>
   replace a4:(a.k==4)=false:=by simpa using a4
   refine G0 [5,0,0,4,8] ?_
   by_cases a5:(a.k==5)=true
   case pos=>
    refine G0 [23,0,0,4,7,5] ?_;refine aB 2 3 E ?_;refine aB 1 18 E ?_;refine ah (H7 me aU T c a _ (E.h HL) HC hk HTN) ?_;rintro _ w11 ⟨Y,v,rfl,hY,F⟩;replace E:=E.call F;clear F;refine G E [26,0,0,60,0,4,22,24,9] ?_;clear E;intro w12 E;exact aI 0 E ⟨Y,v,rfl,hY,E.drop 3⟩
   case neg=>
    replace a5:(a.k==5)=false:=by simpa using a5
    refine G0 [23,0,0,4,8] ?_
    by_cases a2:(a.k==2)=true
    case pos=>
     refine G E [5,0,0,4,7,21,6,5,0,41] ?_
     by_cases e1:a.node<0
     case pos=>
      refine G E [0,0,1,80,2,4,7,5,0,60,0,4,22,24,9] ?_;clear E;intro w13 E;exact aI 0 E ⟨fC,2,rfl,L_ (fun h=>absurd h (by decide)),E.fC⟩
     refine G E [84,41,0,42,0] ?_
     by_cases e2:(c.no.l.length:Int)≤a.node
     case pos=>
      refine G E [0,0,4,7,5,0,60,0,4,22,24,9] ?_;clear E;intro w14 E;exact aI 0 E ⟨fC,2,rfl,L_ (fun h=>absurd h (by decide)),E.fC⟩
     refine G0 [0,0,4,8] ?_;obtain⟨k,hk⟩:∃k:Nat,a.node=(k:Int):=⟨a.node.toNat,by omega⟩;have hkl:k<c.no.l.length:=by omega
     clear e1 e2;refine G E [15,6,5,0,41,0,4,7,5] ?_;refine aB 2 3 E ?_;refine G E [0,41] ?_;refine ah (U5 me aU (T+1) c k _ (E.h HL.out) (HC.out.more (Nat.le_succ T)) hkl) (hr:=by rw[hk];go_simp<;>with_reducible rfl) ?_;rintro _ w15 ⟨Y,v,rfl,hY,F⟩;replace E:=E.call F;clear F;refine G E [26,0,0,60,0,4,22,24,9] ?_;clear E;intro w16 E;exact aI 0 E ⟨Y,v,rfl,hY,E.drop 3⟩
    case neg=>
     replace a2:(a.k==2)=false:=by simpa using a2
     refine G0 [5,0,0,4,8] ?_
     by_cases a1:(a.k==1)=true
     case pos=>
      refine G E [5,0,0,4,7,23,0,20,6,5,0,41] ?_
      by_cases e1:a.node<0
      case pos=>
       refine G E [0,0,1,80,2,4,7,5,0,60,0,4,22,24,9] ?_;clear E;intro w17 E;exact aI 0 E ⟨fC,2,rfl,L_ (fun h=>absurd h (by decide)),E.fC⟩
      refine G E [84,41,0,42,0] ?_
      by_cases e2:(c.no.l.length:Int)≤a.node
      case pos=>
       refine G E [0,0,4,7,5,0,60,0,4,22,24,9] ?_;clear E;intro w18 E;exact aI 0 E ⟨fC,2,rfl,L_ (fun h=>absurd h (by decide)),E.fC⟩
      refine G0 [0,0,4,8] ?_;obtain⟨k,hk⟩:∃k:Nat,a.node=(k:Int):=⟨a.node.toNat,by omega⟩;obtain⟨n,hn⟩:∃n,c.no.l[k]?=some n:=⟨_,Zl (by omega)⟩;replace hn:=L_ hn;have HO:=L_ (HC.out.no k n hn.out);clear e1 e2;refine G E [15,6,5,0,41,0,4,8,15,5] ?_;refine aB 2 3 E ?_;refine G E [0,41,0] ?_;refine ah (yV me aU (T+1) 17 #[] Co (c:=c) k n w _ E HL.out hn.out (HC.out.more (Nat.le_succ T)) (fun bx' w' E' hln=>Qx me aU (T+1) k n w' hln (HO.out.more (Nat.le_succ T)))) (hr:=by rw[hk];go_simp<;>with_reducible rfl) ?_;clear E;rintro _ w19 ⟨Y,v,rfl,hY,E⟩;refine G E [26,0,0,60,0,4,22,9] ?_;clear E;intro w20 E;exact aI 0 E ⟨Y,v,rfl,hY,E.drop 3⟩
     case neg=>
      replace a1:(a.k==1)=false:=by simpa using a1
      refine G0 [5,0,0,4,8] ?_
      by_cases a9:(a.k==9)=true
      case pos=>
       refine G E [5,0,0,4,7,23,0,20,6,5,0,41] ?_
       by_cases e1:a.node<0
       case pos=>
        refine G E [0,0,1,80,2,4,7,5,0,60,0,4,22,24,9] ?_;clear E;intro w21 E;exact aI 0 E ⟨fC,2,rfl,L_ (fun h=>absurd h (by decide)),E.fC⟩
       refine G E [84,41,0,42,0] ?_
       by_cases e2:(c.no.l.length:Int)≤a.node
       case pos=>
        refine G E [0,0,4,7,5,0,60,0,4,22,24,9] ?_;clear E;intro w22 E;exact aI 0 E ⟨fC,2,rfl,L_ (fun h=>absurd h (by decide)),E.fC⟩
       refine G0 [0,0,4,8] ?_;obtain⟨k,hk⟩:∃k:Nat,a.node=(k:Int):=⟨a.node.toNat,by omega⟩;obtain⟨n,hn⟩:∃n,c.no.l[k]?=some n:=⟨_,Zl (by omega)⟩;replace hn:=L_ hn;have HO:=L_ (HC.no k n hn);clear e1 e2;refine G E [15,6,5,0,41,0,4,8,15,5] ?_;refine aB 2 3 E ?_;refine G E [0,41,0] ?_;refine ah (yV me aU (T+1) 18 #[] BK (c:=c) k n w _ E HL.out hn.out (HC.out.more (Nat.le_succ T)) (fun bx' w' E' hln=>Q5 me aU (T+1) k n w' hln (HO.out.more (Nat.le_succ T)))) (hr:=by rw[hk];go_simp<;>with_reducible rfl) ?_;clear E;rintro _ w23 ⟨Y,v,rfl,hY,E⟩;refine G E [26,0,0,60,0,4,22,9] ?_;clear E;intro w24 E;exact aI 0 E ⟨Y,v,rfl,hY,E.drop 3⟩
      case neg=>
       replace a9:(a.k==9)=false:=by simpa using a9
       refine G0 [5,0,0,4,8] ?_
       by_cases a6:(a.k==6)=true
       case pos=>
        refine G E [5,0,0,4,7,23,0,0,20,6,5,0,41] ?_
        by_cases e1:a.node<0
        case pos=>
         refine G E [0,0,1,80,2,4,7,5,0,60,0,4,22,24,9] ?_;clear E;intro w25 E;exact aI 0 E ⟨fC,2,rfl,L_ (fun h=>absurd h (by decide)),E.fC⟩
        refine G E [84,41,0,42,0] ?_
        by_cases e2:(c.no.l.length:Int)≤a.node
        case pos=>
         refine G E [0,0,4,7,5,0,60,0,4,22,24,9] ?_;clear E;intro w26 E;exact aI 0 E ⟨fC,2,rfl,L_ (fun h=>absurd h (by decide)),E.fC⟩
        refine G0 [0,0,4,8] ?_;obtain⟨k,hk⟩:∃k:Nat,a.node=(k:Int):=⟨a.node.toNat,by omega⟩;obtain⟨n,hn⟩:∃n,c.no.l[k]?=some n:=⟨_,Zl (by omega)⟩;replace hn:=L_ hn;have HO:=L_ (HC.no k n hn);clear e1 e2;refine G E [15,6,5,0,41,0,4,8,15,5] ?_;refine aB 2 3 E ?_;refine G E [0,41,0] ?_;refine ah (yV me aU (T+1) 19 #[g3] G6 (c:=c) k n w _ E HL.out hn.out (HC.out.more (Nat.le_succ T)) (fun bx' w' E' hln=>Y7 me aU (T+1) k g3 a n w' (E'.at_ _ (ZL _ (Zv _ ZC))) hln (HO.out.more (Nat.le_succ T)) HA.out.DL)) (hr:=by rw[hk];go_simp<;>with_reducible rfl) ?_;clear E;rintro _ w27 ⟨Y,v,rfl,hY,E⟩;refine G E [26,0,0,60,0,4,22,9] ?_;clear E;intro w28 E;exact aI 0 E ⟨Y,v,rfl,hY,E.drop 3⟩
       case neg=>
        replace a6:(a.k==6)=false:=by simpa using a6
        refine G0 [5,0,0,4,8] ?_
        by_cases a7:(a.k==7)=true
        case pos=>
         refine G E [5,0,0,4,7,23,0,0,20,6,5,0,41] ?_
         by_cases e1:a.node<0
         case pos=>
          refine G E [0,0,1,80,2,4,7,5,0,60,0,4,22,24,9] ?_;clear E;intro w29 E;exact aI 0 E ⟨fC,2,rfl,L_ (fun h=>absurd h (by decide)),E.fC⟩
         refine G E [84,41,0,42,0] ?_
         by_cases e2:(c.no.l.length:Int)≤a.node
         case pos=>
          refine G E [0,0,4,7,5,0,60,0,4,22,24,9] ?_;clear E;intro w30 E;exact aI 0 E ⟨fC,2,rfl,L_ (fun h=>absurd h (by decide)),E.fC⟩
         refine G0 [0,0,4,8] ?_;obtain⟨k,hk⟩:∃k:Nat,a.node=(k:Int):=⟨a.node.toNat,by omega⟩;obtain⟨n,hn⟩:∃n,c.no.l[k]?=some n:=⟨_,Zl (by omega)⟩;replace hn:=L_ hn;have HO:=L_ (HC.no k n hn);clear e1 e2;refine G E [15,6,5,0,41,0,4,8,15,5] ?_;refine aB 2 3 E ?_;refine G E [0,41,0] ?_;refine ah (yV me aU (T+1) 21 #[g2] Gb (c:=c) k n w _ E HL.out hn.out (HC.out.more (Nat.le_succ T)) (fun bx' w' E' hln=>Y9 me aU (T+1) k g2 c n w' (E'.at_ _ (ZL _ (Zv _ (Zv _ ZC)))) hln (E'.h HL.out).1 (HO.out.more (Nat.le_succ T)) HC.out.all)) (hr:=by rw[hk];go_simp<;>with_reducible rfl) ?_;clear E;rintro _ w31 ⟨Y,v,rfl,hY,E⟩;refine G E [26,0,0,60,0,4,22,9] ?_;clear E;intro w32 E;exact aI 0 E ⟨Y,v,rfl,hY,E.drop 3⟩
        case neg=>
         replace a7:(a.k==7)=false:=by simpa using a7
         refine G0 [5,0,0,4,8] ?_
         by_cases a8:(a.k==8)=true
         case pos=>
          refine G E [5,0,0,4,7,23,0,0,20,6,5,0,41] ?_
          by_cases e1:a.node<0
          case pos=>
           refine G E [0,0,1,80,2,4,7,5,0,60,0,4,22,24,9] ?_;clear E;intro w33 E;exact aI 0 E ⟨fC,2,rfl,L_ (fun h=>absurd h (by decide)),E.fC⟩
          refine G E [84,41,0,42,0] ?_
          by_cases e2:(c.no.l.length:Int)≤a.node
          case pos=>
           refine G E [0,0,4,7,5,0,60,0,4,22,24,9] ?_;clear E;intro w34 E;exact aI 0 E ⟨fC,2,rfl,L_ (fun h=>absurd h (by decide)),E.fC⟩
          refine G0 [0,0,4,8] ?_;obtain⟨k,hk⟩:∃k:Nat,a.node=(k:Int):=⟨a.node.toNat,by omega⟩;obtain⟨n,hn⟩:∃n,c.no.l[k]?=some n:=⟨_,Zl (by omega)⟩;replace hn:=L_ hn;have HO:=L_ (HC.no k n hn);clear e1 e2;refine G E [15,6,5,0,41,0,4,8,15,5] ?_;refine aB 2 3 E ?_;refine G E [0,41,0] ?_;refine ah (yV me aU (T+1) 23 #[g3] I6 (c:=c) k n w _ E HL.out hn.out (HC.out.more (Nat.le_succ T)) (fun bx' w' E' hln=>Zd me aU (T+1) k g3 a n w' (E'.at_ _ (ZL _ (Zv _ ZC))) hln (E'.h HLA.out) (HO.out.more (Nat.le_succ T)) HA.out (by have h:=HOK.out (by simpa using a8);exact hk▸h.1) (HOK.out (by simpa using a8)).2.1 (HOK.out (by simpa using a8)).2.2)) (hr:=by rw[hk];go_simp<;>with_reducible rfl) ?_;clear E;rintro _ w35 ⟨Y,v,rfl,hY,E⟩;refine G E [26,0,0,60,0,4,22,9] ?_;clear E;intro w36 E;exact aI 0 E ⟨Y,v,rfl,hY,E.drop 3⟩
         case neg=>
          replace a8:(a.k==8)=false:=by simpa using a8
          refine G E [5,0,0,4,8,5,0,60,0,4,22,24,9] ?_;clear E;intro w37 E;exact aI 0 E ⟨fC,2,rfl,L_ (fun h=>absurd h (by decide)),E.fC⟩
end
variable{M:Nat}
section
attribute [local irreducible] wpList av
structure Short (l:List DN):Prop where
 n:l.length≤60
 c:∀a∈l,a.c.m.g.l.length+a.c.me.l.length≤200∧a.c.m.key.size+a.c.m.body.size≤2000
theorem XK (l:Sl DN)(w:World)(hl:l.aA w w M)(hM:M≤140737488355328)(hs:∀a∈l.l,a.c.m.key.size≤140737488355328∧a.c.m.body.size≤140737488355328) :
  Calls prog 6 #[l] w fun e w'=>∃q:Bool,e=.returned (.bool q)∧Hid (q=false→Short l.l)∧Below w w w':=by
 have HL:=L_ hl;have HS:=L_ hs;have hln:=hl.2.2.2.1;clear hl hs;have E:=Env.start w
 go_enter func6,ntmps6
 refine G0 [5,0,4,6,5,0,4,19] ?_
 go_loopw [3] (fun u wr=>∃k:Nat,u=(k:Int)∧k≤l.l.length∧k≤100∧Hid (∀a∈l.l.take k,a.c.m.g.l.length+a.c.me.l.length≤200∧a.c.m.key.size+a.c.m.body.size≤2000)∧Env w w [] [] wr) (fun u _=>l.l.length - (intOf u).toNat)
 case atStart=>exact⟨0,rfl,Zq _,Zq _,L_ (fun a ha=>by cases ha),E⟩
 case round=>
  clear E;obtain⟨k,rfl,hk,hk1,HK,E⟩:=hrel
  by_cases hlt:k<l.l.length
  case pos=>
   have hlt0:decide ((k:Int)<(l.l.length:Int))=true:=ZG (by omega);refine G0 [6,5,83,0] ?_
   by_cases hlh:k<100
   case pos=>
    have hlh0:(k:Int)<100:=by omega
    have hw:IntKind.i64.wrap ((k:Int)+1)=((k+1:Nat):Int):=by rw[aaP _ (by omega)];rfl
    obtain⟨bb,off,a,hA,-,ha,hcc,hal⟩:=(E.l HL).get (k:=k) hlt;have HAL:Hid (au.aA w w M a):=L_ (HL.2.2.2.2 a (Zk ha));have hg1:=HAL.1.2.2.2.1;have hg2:=HAL.2.2.2.2.1;obtain⟨hs1,hs2⟩:=HS a (Zk ha);replace ha:=L_ ha;replace hcc:=L_ hcc;clear hal;refine G0 [0,0,4,7,15,18,5,84,0] ?_;refine fA a.c (fun q u hu=>(by rw[Nat.add_assoc];exact hcc (6+q) u (List.getElem?_drop.symm.trans hu))) ?_;clear hcc hA;have hw1:IntKind.i64.wrap ((a.c.m.g.l.length:Int)+(a.c.me.l.length:Int))=(a.c.m.g.l.length:Int)+(a.c.me.l.length:Int):=aaP _ (by omega);have hw2:IntKind.i64.wrap ((a.c.m.key.size:Int)+(a.c.m.body.size:Int))=(a.c.m.key.size:Int)+(a.c.m.body.size:Int):=aaP _ (by omega);refine G E [70,3,60,4,5,0,0,40,0,0,40,0,0,9] ?_;clear E;intro g4 w3 E
    by_cases c1:200<(a.c.m.g.l.length:Int)+(a.c.me.l.length:Int)
    case pos=>
     refine G0 [0,0,1,81,4,7,5,0,4,22,24] ?_;exact ak ⟨true,rfl,L_ (fun h=>(by cases h)),E.aD⟩
    refine G E [84,0,40,84,40,0,0] ?_
    by_cases c2:2000<(a.c.m.key.size:Int)+(a.c.m.body.size:Int)
    case pos=>
     refine G0 [0,0,4,7,5,0,4,22,24] ?_;exact ak ⟨true,rfl,L_ (fun h=>(by cases h)),E.aD⟩
    refine G0 [0,0,4,8,21,23,84,25] ?_
    go_roundw
    case rel=>exact⟨k+1,rfl,hlt,hlh,L_ (fun b hb=>by rw[ZP,ha.out] at hb;rcases Zm.1 hb with h|h;exact HK b h;rw[Zp.1 h];exact⟨by omega,by omega⟩),E.drop 1⟩
    case measure=>simp[intOf];omega
   case neg=>
    have hlh0:(100:Int)≤(k:Int):=by omega
    refine G0 [0,0,4,8,27,28,5,84,0,4,22] ?_;exact ak ⟨decide ((60:Int)<(l.l.length:Int)),rfl,L_ (fun h=>absurd (of_decide_eq_false h) (by omega)),E.aD⟩
  case neg=>
   have hlt0:decide ((k:Int)<(l.l.length:Int))=false:=ZE (by omega);refine G0 [6,5,83,1,1,0,4,8,27,28,5,84,0,4,22] ?_;exact ak ⟨decide ((60:Int)<(l.l.length:Int)),rfl,L_ (fun h=>⟨by have:=of_decide_eq_false h;omega,fun a ha=>HK a (by rw[Zz (by omega)];exact ha)⟩),E.aD⟩
theorem PO (me:Int)(a:DN)(all:Sl gT)(w:World)(hl:all.aA w w 1000)(hg:a.c.m.g.aA w w 1000) :
  Calls prog 7 #[a,all,me] w fun e w'=>∃q:Bool,e=.returned q∧Hid (q=false→a.node≠me∧¬Mine me (all.l.map fun g=>g.r.l) a.g∧∀h∈a.c.m.g.l,¬Mine me (all.l.map fun g=>g.r.l) h)∧Below w w w':=by
 have HL:=L_ hl;have HG:=L_ hg;have hln:=hl.2.2.2.1;have hgn:=hg.2.2.2.1;clear hl hg;have E:=Env.start w
 go_enter func7,ntmps7
 refine G E [5,71,3,0,4,6,5,0,40,0,9] ?_;clear E;intro g3 w2 E
 by_cases c0:(a.node==me)=true
 case pos=>
  refine G0 [0,4,7,5,0,4,22,24] ?_;exact ak ⟨true,rfl,L_ (fun h=>(by cases h)),E.aD⟩
 replace c0:(a.node==me)=false:=by simpa using c0
 refine G0 [0,4,8,15,6,5,0,4,19] ?_;have HC0:Hid (a.node≠me):=L_ (by simpa using c0);clear c0
 go_loopw [7] (fun u wr=>∃k:Nat,u=(k:Int)∧k≤all.l.length∧Hid (∀(j:Nat) (g:gT),j<k→all.l[j]?=some g→me∈g.r.l→a.g≠(j:Int)∧∀h∈a.c.m.g.l,h≠(j:Int))∧Env w w ((g3,39,a)::[]) [] wr) (fun u _=>all.l.length - (intOf u).toNat)
 case atStart=>exact⟨0,rfl,Zq _,L_ (fun j g h=>by omega),E⟩
 case round=>
  clear E;obtain⟨k,rfl,hk,HK,E⟩:=hrel
  by_cases hlt:k<all.l.length
  case pos=>
   have hw:IntKind.i64.wrap ((k:Int)+1)=((k+1:Nat):Int):=by rw[aaP _ (by omega)];rfl
   obtain⟨bb,off,g,hA,-,hg,hcc,hgl⟩:=(E.l HL).get (k:=k) hlt;have HGL:Hid (au.aA w w 1000 g):=L_ (HL.2.2.2.2 g (Zk hg));have d1:_=some (Value.slice g.r.A g.r.l.length g.r.c):=hcc 0 _ rfl;replace hg:=L_ hg;clear hcc hgl;refine G0 [6,5,84,0,4,7,15,18,6,5,84,0] ?_;refine bQ d1 ?_;clear d1 hA;refine fV ?_;refine ah (tY g.r me _ 1000 (E.h HGL).1 (by decide)) ?_;rintro _ w3 ⟨rfl,rfl⟩;refine G0 [26] ?_;obtain⟨r,hr⟩:∃r,decide (me∈g.r.l)=r:=⟨_,rfl⟩;rw[hr];replace hr:=L_ hr;cases r
   case false=>
    refine G0 [0,4,7] ?_
    have HK2:Hid (∀(j:Nat) (g:gT),j<k+1→all.l[j]?=some g→me∈g.r.l→a.g≠(j:Int)∧∀h∈a.c.m.g.l,h≠(j:Int)):=L_ (fun j g' hj hg' hm=>by
     by_cases e:j=k
     ·rw[e,hg.out] at hg';injection hg' with hg'
      subst hg';exact absurd hm (by simpa using hr.out)
     ·exact HK j g' (by omega) hg' hm)
    refine G0 [27,28,23,84,25] ?_
    go_roundw
    case rel=>exact⟨k+1,rfl,hlt,HK2,E⟩
    case measure=>simp[intOf];omega
   case true=>
    refine G E [0,4,8,15,6,5,0,40,0] ?_
    by_cases c1:(a.g==(k:Int))=true
    case pos=>
     refine G0 [0,4,7,5,0,4,22,24] ?_;exact ak ⟨true,rfl,L_ (fun h=>(by cases h)),E.aD⟩
    replace c1:(a.g==(k:Int))=false:=by simpa using c1
    refine G0 [0,4,8,15,5,0,4,19] ?_;have HC1:Hid (a.g≠(k:Int)):=L_ (by simpa using c1);clear c1
    go_loopw [8] (fun u wr=>∃j:Nat,u=(j:Int)∧j≤a.c.m.g.l.length∧Hid (∀h∈a.c.m.g.l.take j,h≠(k:Int))∧Env w w ((g3,39,a)::[]) [] wr) (fun u _=>a.c.m.g.l.length - (intOf u).toNat)
    case atStart=>exact⟨0,rfl,Zq _,L_ (fun h hh=>by cases hh),E⟩
    case round=>
     clear E;obtain⟨j,rfl,hj,HJ,E⟩:=hrel
     by_cases hlt2:j<a.c.m.g.l.length
     case pos=>
      have hw2:IntKind.i64.wrap ((j:Int)+1)=((j+1:Nat):Int):=by rw[aaP _ (by omega)];rfl
      obtain⟨bb,off,x,hA,-,hx,hcc,-⟩:=(E.l HG).get (k:=j) hlt2;have d1:wr.cell? ⟨bb,off+j,none⟩=some (.int .i64 x):=by simpa[aj.sz] using hcc 0 _ rfl
      replace hx:=L_ hx;clear hcc;refine G E [6,5,84,0,40,0,0,4,7,15,18,5,84,40,0,0] ?_;refine bQ d1 ?_;clear d1 hA;refine fV ?_
      by_cases c2:(x==(k:Int))=true
      case pos=>
       refine G0 [0,4,7,5,0,4,22,24] ?_;exact ak ⟨true,rfl,L_ (fun h=>(by cases h)),E.aD⟩
      replace c2:(x==(k:Int))=false:=by simpa using c2
      refine G0 [0,4,8,21,23,84,25] ?_
      go_roundw
      case rel=>exact⟨j+1,rfl,hlt2,L_ (fun b hb=>by rw[ZP,hx.out] at hb;rcases Zm.1 hb with h|h;exact HJ b h;rw[Zp.1 h];simpa using c2),E⟩
      case measure=>simp[intOf];omega
     case neg=>
      refine G E [6,5,84,0,40,0,0,4,8,27,28,23,84,25] ?_
      go_roundw
      case rel=>exact⟨k+1,rfl,hlt,L_ (fun i g' hi hg' hm=>by by_cases e:i=k;exact e▸⟨HC1,fun h hh=>HJ h (by rw[Zz (by omega)];exact hh)⟩;exact HK i g' (by omega) hg' hm),E⟩
      case measure=>simp[intOf];omega
  case neg=>
   refine G0 [6,5,84,0,4,8] ?_
   have HQ:Hid (∀x:Int,(∀(j:Nat) (g:gT),all.l[j]?=some g→me∈g.r.l→x≠(j:Int))→¬Mine me (all.l.map fun g=>g.r.l) x):=L_ (fun x h=>by
    rintro⟨j,r,hx,hr,hm⟩;rw[ZU] at hr;obtain⟨g,hg,rfl⟩:=Option.map_eq_some_iff.1 hr;exact h j g hg hm hx)
   refine G0 [27,28,5,0,4,22] ?_;exact ak ⟨false,rfl,L_ (fun _=>⟨HC0,HQ _ (fun j g hg hm=>(HK j g (by have:=(Zo.1 hg).1;omega) hg hm).1),fun h hh=>HQ _ (fun j g hg hm=>(HK j g (by have:=(Zo.1 hg).1;omega) hg hm).2 h hh)⟩),E.aD⟩
theorem eO.new {aU:List (List Int)}{i:Int}{all:List gT}{y:eP}(hr:all.map (fun g=>g.r.l)=aU)(hb:pQ i all y.b 0)(hk:y.k.pl=Dp.fQ)(hh:y.h.l=[]):eO me aU 0 i y:=by
 obtain⟨h1,h2,h3,-⟩:=hb.ok rfl;refine⟨⟨⟨fun s hs=>?_,by rw[hb.ti];exact fun t ht=>(by cases ht),by rw[hb.ti];exact Zq _⟩,by rw[hk];exact iq.zero,by rw[hh];exact fun m hm=>(by cases hm)⟩,h1,fun _=>(dB.aU h2).trans hr,by rw[hh];exact fun m hm=>(by cases hm)⟩;have h:=hb.se s hs;exact⟨fun v hv=>(by rw[h.log] at hv;cases hv),fun v hv=>(by rw[h.vs] at hv;cases hv),fun v hv=>(by rw[h.wi] at hv;cases hv),ko.nil.same h.t⟩
structure Va (nodes:Int)(all:List gT)(c:jH):Prop where
 gr:nG all
 n:(c.no.l.length:Int)=nodes
 ok:∀me:Int,iM me (all.map fun g=>g.r.l) 0 c
theorem XG (nodes:Int)(all:Sl gT)(w:World)(hl:all.aA w w M)(hM:M≤9223372036854775807) :
  Calls prog 5 #[nodes,all] w fun e w'=>∃(c:jH) (v:Int),e=.returned (.tuple #[c,v])∧Hid (v=0→Va nodes all.l c)∧Env w w [] (iJ c) w':=by
 have HL:=L_ hl;clear hl;have E:=Env.start w
 go_enter func5,ntmps5
 refine G E [5,70,3,0,4,6,5,0,9] ?_;clear E;intro g4 w2 E
 by_cases c1:nodes<1
 case pos=>
  refine G E [0,0,1,1,0,4,7,5,0,60,0,4,22,24,9] ?_;clear E;intro w3 E;exact aI 0 E ⟨fC,2,rfl,L_ (fun h=>absurd h (by decide)),E.fC⟩
 refine G0 [84] ?_
 by_cases c2:6<nodes
 case pos=>
  refine G E [0,0,4,7,5,0,60,0,4,22,24,9] ?_;clear E;intro w4 E;exact aI 0 E ⟨fC,2,rfl,L_ (fun h=>absurd h (by decide)),E.fC⟩
 refine G0 [0,0,4,8,15,6,5,0] ?_;refine ah (SE 0 all _ (E.l HL) hM) ?_;rintro _ w5 ⟨y,v,rfl,hy,F⟩;replace E:=E.call F;clear F;refine G0 [26] ?_
 by_cases h0:v=0
 case neg=>
  refine G E [84,70,3,60,0,4,5,0,0,4,7,5,0,0,61,0,4,22,24,9] ?_;clear E;intro g6 w8 E;exact aI 1 E ⟨fC,v,rfl,L_ (fun h=>absurd h h0),E.fC⟩
 subst h0;refine G E [84,70,3,60,0,4,5,0,0,4,8,9] ?_;clear E;intro g6 w10 E;have HG:Hid (nG all.l):=L_ ((hy rfl).2.1.ok rfl).2.2.1;replace HL:=L_ (yX (N:=1000) HL HG (by decide));clear hy;obtain⟨nn,rfl⟩:∃nn:Nat,nodes=(nn:Int):=⟨nodes.toNat,by omega⟩;refine G0 [15,6,5,0,0] ?_;refine ah (Je all nn _ (E.l HL)) ?_;rintro _ w11 ⟨q,rfl,hb⟩;replace E:=E.up hb;clear hb;refine G0 [26] ?_;cases q
 case false=>
  refine G E [0,4,7,5,0,61,0,4,22,24,9] ?_;clear E;intro w12 E;exact aI 1 E ⟨fC,60,rfl,L_ (fun h=>absurd h (by decide)),E.fC⟩
 case true=>
  refine G0 [0,4,8,15,5,0] ?_;refine ah (zm all _ 1000 (E.l HL) (by decide)) ?_;rintro _ w13 ⟨gs,rfl,hg,F⟩;replace E:=E.call F;clear F;refine G E [26,0,70,3,60,4,6,5,0,0,4,19,9] ?_;clear E;intro g8 w15 E;replace E:Env w w ((g8,28,(⟨gs,⟨none,0,[]⟩,⟨none,0,[]⟩⟩:jH))::(g6,51,y)::(g4,28,[(),(),()])::[]) (own (⟨none,0,[]⟩:Sl eP) 1000::own gs 1000::[]) _:=(E.sub (Zi _) (List.Sublist.cons_cons _ (Zy _))).aO
  go_loopw [37] (fun u wr=>∃(k:Nat) (s:Sl eP),u=(k:Int)∧k≤nn∧s.l.length=k∧Hid (∀me:Int,∀(j:Nat) (u:eP),s.l[j]?=some u→eO me (all.l.map fun g=>g.r.l) 0 (j:Int) u)∧Env w w ((g8,28,(⟨gs,s,⟨none,0,[]⟩⟩:jH))::(g6,51,y)::(g4,28,[(),(),()])::[]) (own s 1000::own gs 1000::[]) wr) (fun u _=>nn - (intOf u).toNat)
  case atStart=>exact⟨0,⟨none,0,[]⟩,rfl,Zq _,rfl,L_ (fun _ j u h=>by cases h),E⟩
  case round=>
   clear E;obtain⟨k,s,rfl,hk,hsk,HS,E⟩:=hrel;replace hsk:=L_ hsk
   by_cases hlt:k<nn
   case pos=>
    have hw:IntKind.i64.wrap ((k:Int)+1)=((k+1:Nat):Int):=by rw[aaP _ (by omega)];rfl
    refine G0 [5,0,4,16,15,18,5,0,0,4,5,0,0] ?_;refine ah (SE (k:Int) all _ (E.l HL) (by decide)) ?_;rintro _ w16 ⟨z,v,rfl,hz,F⟩;replace E:=Env.join ((E.call F).perm (ZW ..));clear F;refine G0 [26] ?_
    by_cases h0:v=0
    case neg=>
     refine G E [84,70,3,60,0,4,6,5,0,0,4,7,5,0,0,63,0,4,22,24,9] ?_;clear E;intro g10 w19 E;exact aI 3 E ⟨fC,v,rfl,L_ (fun h=>absurd h h0),E.fC⟩
    subst h0;refine G E [84,70,3,60,0,4,6,5,0,0,4,8,9] ?_;clear E;intro g10 w21 E;replace hz:=L_ (hz rfl);refine G E [15,23,0,41] ?_;refine aB 0 8 E ?_;refine G E [72,3,9] ?_;clear E;intro g53 w22 E;refine uR 0 (s:=s) (N:=1000) 1000 z g53 E (E.reads 0 1 8) (by rw[hsk.out];omega) (by omega) (by omega) ?_;clear E;intro s2 w23 h2 E;refine zO ?_
    have HS2:Hid (∀me:Int,∀(j:Nat) (u:eP),s2.l[j]?=some u→eO me (all.l.map fun g=>g.r.l) 0 (j:Int) u):=L_ (fun me j u hu=>by
     rw[h2.out] at hu
     by_cases hj:j<s.l.length
     ·rw[Z0 hj] at hu;exact HS me j u hu
     ·rw[Z8 (by omega)] at hu;have e:j - s.l.length=0:=by have:=(Zo.1 hu).1;simpa using this
      rw[e] at hu;injection hu with hu
      have e2:j=k:=by have:=hsk.out;omega
      subst hu e2;exact eO.new rfl hz.2.1 hz.2.2.1 hz.2.2.2)
    refine G E [0,62,20,23,0,0,9] ?_;clear E;intro w24 E;refine jI ?_
    go_roundw
    case rel=>exact⟨k+1,s2,rfl,hlt,by rw[h2.out,Zn,hsk.out];rfl,HS2,(E.drop 2)⟩
    case measure=>simp[intOf];omega
   case neg=>
    refine G0 [5,0,4,17,27,28,5] ?_;refine aB 0 3 E ?_;refine G E [62,0,4,22,9] ?_;clear E;intro w25 E;exact aI 2 E ⟨⟨gs,s,⟨none,0,[]⟩⟩,0,rfl,L_ (fun _=>⟨HG,by have:=hsk.out;show((s.l.length:Nat):Int)=_;omega,fun me=>⟨HS me,fun m hm=>(by cases hm),dB.aU hg⟩⟩),((E.drop 3).aO (α:=bS) (N:=5000)).dQ (is':=iJ ⟨gs,s,⟨none,0,[]⟩⟩) 3 [1,0,2]⟩
end
end Go.Proofs.YtaebfkcgdmodlaaGreatDoor
