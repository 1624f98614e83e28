/-
  A part of the proof that the erased node of towncrier reads nothing (TopErased).
-/
import Derived.Test.YtaebfkcgdmodlaaGreatDoorJ15
import Derived.Test.YtaebfkcgdmodlaaGreatDoorJ19
import Derived.Test.YtaebfkcgdmodlaaGreatDoorJ16
namespace Go.Proofs.YtaebfkcgdmodlaaGreatDoor
open Go.RowKit Go.Proofs.Tryz
set_option maxHeartbeats 16000000
set_option maxRecDepth 100000
set_option linter.unusedVariables false
set_option linter.unusedSimpArgs false
variable{B N:Nat}
section
attribute [local irreducible] wpList av aH
section
variable{b:Nat}{w0 w:World}{bx:List Bx}{is:List It}
theorem Env.swapAt {i j:It}(E:Env b w0 bx (j::is) w)(k:Nat)(hk:is[k]?=some i):Env b w0 bx (is.set k j) w:=by
 have h1:=Env.oQ is k i hk;have hl:k<is.length:=(Zo.1 hk).1
 have E1:Env b w0 bx (j::(is.take k++is.drop (k+1))) w:=E.sub (Zi _) (List.Sublist.cons_cons _ (by
  conv=>rhs;rw[h1]
  exact List.Sublist.append (Zi _) (Zj _ (Zi _))))
 exact E1.J2 hl
end
structure kr (Pg:Int→ByteArray→Prop)(T:Nat)(n:eP):Prop where
 b:jJ Pg T n.b
 k:iq Pg n.k.pl
 h:∀m∈n.h.l,gN m
theorem PK (Pg:Int→ByteArray→Prop)(T:Nat)(x:jl)(w:World)(hl:au.aA w w 1000 x)(hi:jJ Pg T x)(hc:jN x)(hz:oH Pg) :
  Calls prog 54 #[x] w fun e w'=>∃X:Al,e=.returned (X)∧Hid (kI Pg X∧X.lo.l.length≤4)∧Env w w [] [own X.lo 1000,own X.vs 1000] w':=by
 have HL:=L_ hl;have HI:=L_ hi;have HC:=L_ hc;have HZ:=L_ hz;have hn4:=hc.n;have hall:=hc.all.2.1;clear hl hi hc hz;have E:=Env.start w
 go_enter func54,ntmps54
 refine GD E [5,71,3,70,3,4,5,0,41,0,9] ?_;clear E;intro g1 g2 w3 E;refine TT (n:=x.all.l.length) E (by omega) ?_;clear E;intro gr w4 E;refine GD E [3,0,70,3,60,4,6,5,0,42,0,0,4,19,9] ?_;clear E;intro g3 w6 E;have h:=Env.Wz (X:=⟨⟨some ⟨gr,0,none⟩,x.all.l.length,List.replicate x.all.l.length ⟨none,0,[]⟩⟩,⟨none,0,[]⟩⟩) E (fun x hx=>(List.mem_replicate.1 hx).2) rfl;replace E:=h.as (bx':=wD g3 ⟨⟨some ⟨gr,0,none⟩,x.all.l.length,List.replicate x.all.l.length ⟨none,0,[]⟩⟩,⟨none,0,[]⟩⟩::(g2,135,[(),()])::(g1,45,x)::[]) (by simp[wD]) rfl;clear h
 go_loopw [14] (fun u wr=>∃(k:Nat) (X:Al),u=(k:Int)∧k≤x.se.l.length∧Hid (kI Pg X∧X.lo.l.length=x.all.l.length)∧X.vs.l.length≤200*k∧Env w w (wD g3 X::(g2,135,[(),()])::(g1,45,x)::[]) (oz X (200*k)++[]) wr) (fun u _=>x.se.l.length - (intOf u).toNat)
 case atStart=>exact⟨0,_,rfl,Zq _,L_ ⟨⟨fun k y h=>(by rw[(List.mem_replicate.1 (Zk h)).2];exact⟨Zq _,fun v hv=>by cases hv⟩),fun y hy=>by cases hy⟩,List.length_replicate ..⟩,Zq _,E⟩
 case round=>
  clear E;obtain⟨k,X,rfl,hk,HX,hXv,E⟩:=hrel
  by_cases hlt:k<x.se.l.length
  case pos=>
   have hw:IntKind.i64.wrap ((k:Int)+1)=((k+1:Nat):Int):=by rw[aaP _ (by omega)];rfl
   obtain⟨bb,off,s,hA,-,hs,hcc,-⟩:=(E.h HL).2.1.get (k:=k) hlt;replace hcc:=L_ hcc;have HS:=L_ (Zk hs);have HSL:Hid (au.aA w w 1000 s):=L_ (HL.2.1.2.2.2.2 s HS);clear hs;refine G0 [5,0,4,16,15,18,5,0] ?_;refine fA s hcc ?_;clear hcc hA;refine GD E [70,3,60,4,9] ?_;clear E;intro g5 w8 E;obtain⟨q,gx,hq,hgx,-⟩:=((HC.se s HS).2.2:∃(k:Nat) (g:gT),s.num=(k:Int)∧x.all.l[k]?=some g∧s.g.r.l=g.r.l);have hql:q<x.all.l.length:=(Zo.1 hgx).1;obtain⟨y,hy⟩:∃y,X.lo.l[q]?=some y:=⟨_,Zl (by rw[HX.out.2];exact hql)⟩;have hqX:q<X.lo.l.length:=(Zo.1 hy).1;obtain⟨gl,cur,hA,-,-,-⟩:=(show Sl.Row _ _ X.lo∧_ from E.get 0).1.at_ hy;replace hy:=L_ hy;clear hgx;have hcl:=(HC.se s HS).1.ll;refine bP 0 7 [] (aaL [0,1,2,3,4,5]++aaN [6]) E ?_;clear E;intro w9 E;refine GD E [32,51,32,50,32,50] ?_;refine bT (qg gH E (N:=1000) (by have h:=HSL.2.2.1;exact⟨h.1,h.2.1,h.2.2.1,by omega,h.2.2.2.2⟩)) ?_;clear E;rintro _ w10 ⟨r,rfl,hr,E⟩;refine⟨_,rfl,E.weak,D_n ?_⟩;refine GD E [29,0] ?_;refine AA (N:=1000) (i:=0) (hx:=by rw[show q*aj.sz (Sl ByteArray)+0=q from ZB q];rfl) 1 E hA hy r ?_;clear E;intro w11 E;refine G0 [4,23] ?_;have hrl:r.l.length≤200:=by rw[hr.out];exact hcl
   have hvl:=(HC.se s HS).1.vl;replace E:Env w w _ (fG (⟨X.lo.A,X.lo.c,X.lo.l.set q r⟩:Sl (Sl ByteArray)) 1000::own X.vs (200*k)::(((X.lo.l.set q r).map fun x=>own x 1000)++[])) _:=(Env.swapAt E (q+2) (CQ hy)).as rfl (Ck hqX);refine GD E [0,41,0,40] ?_;refine pV 1 (s:=X.vs) (N:=200*k) (200*(k+1)) s.vs E ((E.h HSL).2.2.2.1).1 (by omega) (by omega) ?_;clear E;intro v2 w12 h2 E;refine zO ?_
   have HX2:Hid (kI Pg ⟨⟨X.lo.A,X.lo.c,X.lo.l.set q r⟩,v2⟩∧(X.lo.l.set q r).length=x.all.l.length):=L_ ⟨⟨fun i z hz=>by
    replace hz:(X.lo.l.set q r)[i]?=some z:=hz;rw[aaH] at hz
    split at hz
    ·rename_i e
     subst e;try rw[aaS hqX] at hz
     injection hz with hz
     subst hz;exact⟨hrl,fun v hv=>by rw[hr.out] at hv;exact hq▸(HI.se s HS).log v hv⟩
    ·exact HX.1.lo i z hz,fun y hy=>by
    rw[show(⟨⟨X.lo.A,X.lo.c,X.lo.l.set q r⟩,v2⟩:Al).vs.l=X.vs.l++s.vs.l from h2.out] at hy
    rcases Zm.1 hy with hy|hy
    ·exact HX.1.vs y hy
    ·have hv:=(HI.se s HS).vs y hy;exact⟨((HC.se s HS).1.vg y hy).symm▸hv.1,(HZ _ _ hv.1).1,hv.2⟩⟩,by rw[Z7];exact HX.2⟩
   refine GD E [0,61,20,23,0,0,9] ?_;clear E;intro w13 E;refine jI ?_
   go_roundw
   case rel=>exact⟨k+1,⟨⟨X.lo.A,X.lo.c,X.lo.l.set q r⟩,v2⟩,rfl,hlt,HX2,by show v2.l.length≤_;rw[h2.out,Zn];omega,by simpa[wD,oz,Z7] using E.drop 1⟩
   case measure=>simp[intOf];omega
  case neg=>
   refine G0 [5,0,4,17,27,28,5] ?_;refine aB 0 2 E ?_;refine lQ 1 E ?_;clear E;intro w14 E;replace E:=Env.YT (X:=X) (M:=200*k) E (by omega);replace E:=E.less 1 (i:=own X.vs 99000) (i':=own X.vs 1000) (fun h=>⟨h.1,by omega,h.2.2⟩);refine G0 [4,22] ?_;exact nI 1 E ⟨X,rfl,L_ ⟨HX.1,by rw[HX.out.2];exact hall⟩,E.drop 3⟩
theorem jT {w:World}{n:eP}(h:au.aA w B N n):au.aA w B N n.b:=⟨h.1,h.2.1,h.2.2.1⟩
theorem nZ {w:World}{n:eP}(h:au.aA w B N n):au.aA w B 0 n.k:=⟨h.2.2.2.1,h.2.2.2.2.1⟩
theorem Yz (Pg:Int→ByteArray→Prop)(T:Nat)(n:eP)(w:World)(hl:au.aA w w 1000 n)(hi:kr Pg T n)(hz:oH Pg) :
  Calls prog 89 #[n] w fun e w'=>∃q:Bool,e=.returned q∧Hid (q=true→jN n.b)∧Below w w w':=by
 have HL:=L_ hl;have HI:=L_ hi;have HZ:=L_ hz;have hhn:=hl.2.2.2.2.2.2.2.2.1;clear hl hi hz;have E:=Env.start w
 go_enter func89,ntmps89
 refine GD E [5,71,3,0,4,6,5,0,9] ?_;clear E;intro g1 w2 E;refine aB 0 4 E ?_;refine ah (sO n.b _ 1000 (jT (E.h HL)) (by decide) (by decide) (fun s hs=>(HI.b.se s hs).wf (HZ _))) ?_;rintro _ w3 ⟨v,rfl,hc,hb⟩;replace E:=E.up hb;clear hb;refine G0 [26] ?_
 by_cases h1:(v !=0)=true
 case pos=>
  refine G0 [0,0,1,2,2,2,2,4,7,5,0,4,22,24] ?_;exact ak ⟨false,rfl,L_ (fun h=>by cases h),E.aD⟩
 replace h1:(v !=0)=false:=by simpa using h1
 refine GD E [84,40,0] ?_
 by_cases h2:4096<(n.h.l.length:Int)
 case pos=>
  refine G0 [0,0,4,7,5,0,4,22,24] ?_;exact ak ⟨false,rfl,L_ (fun h=>by cases h),E.aD⟩
 refine G0 [0,0,4,8,15,6,5] ?_;replace hc:=L_ (hc (by simpa using h1));clear h1 h2;refine GD E [0,40,0,0,4,19] ?_
 go_loopw [22] (fun u wr=>∃k:Nat,u=(k:Int)∧k≤n.h.l.length∧Env w w ((g1,51,n)::[]) [] wr) (fun u _=>n.h.l.length - (intOf u).toNat)
 case atStart=>exact⟨0,rfl,Zq _,E⟩
 case round=>
  clear E;obtain⟨k,rfl,hk,E⟩:=hrel
  by_cases hlt:k<n.h.l.length
  case pos=>
   have hw:IntKind.i64.wrap ((k:Int)+1)=((k+1:Nat):Int):=by rw[aaP _ (by omega)];rfl
   obtain⟨bb,off,m,hA,-,hm,hcc,-⟩:=(E.h HL).2.2.2.2.2.get (k:=k) hlt;replace hcc:=L_ hcc;have HM:=L_ (HI.h m (Zk hm));clear hm;refine G0 [5,0,4,16,15,18,5,0] ?_;refine fA m hcc ?_;clear hcc hA;refine GD E [70,3,60,4,5,9] ?_;clear E;intro g4 w5 E;refine aB 0 10 E ?_;refine ah (P6 m _ HM) ?_;rintro _ w6 ⟨v,rfl,-,hb⟩;replace E:=E.up hb;clear hb;refine G0 [26] ?_
   by_cases h1:(v !=0)=true
   case pos=>
    refine G0 [0,0,1,80,2,4,7,5,0,4,22,24] ?_;exact ak ⟨false,rfl,L_ (fun h=>by cases h),E.aD⟩
   replace h1:(v !=0)=false:=by simpa using h1
   refine GD E [84,40,0,0,41] ?_
   by_cases h2:(m.f !=n.b.me)=true
   case pos=>
    refine G0 [0,0,4,7,5,0,4,22,24] ?_;exact ak ⟨false,rfl,L_ (fun h=>by cases h),E.aD⟩
   replace h2:(m.f !=n.b.me)=false:=by simpa using h2
   refine G0 [0,0,4,8,21,23,0,0,25] ?_
   go_roundw
   case rel=>exact⟨k+1,rfl,hlt,E.drop 1⟩
   case measure=>simp[intOf];omega
  case neg=>
   refine G0 [5,0,4,17,27,28,5,0] ?_;refine aB 0 2 E ?_;refine ah (Nb n.k _ (nZ (E.h HL))) ?_;rintro _ w7 ⟨k2,l,v,rfl,ho,F⟩;replace E:=E.call F;clear F;refine G0 [26] ?_
   by_cases h1:(v !=0)=true
   case pos=>
    refine GD E [84,0,70,3,60,0,0,4,6,5,84,1,80,2,2,2,4,7,5,0,4,22,24,9] ?_;clear E;intro g5 w9 E;exact ak ⟨false,rfl,L_ (fun h=>by cases h),E.aD⟩
   replace h1:(v !=0)=false:=by simpa using h1
   refine GD E [84,0,70,3,60,0,0,4,6,5,84,0,40,84,41,0,9] ?_;clear E;intro g5 w11 E
   by_cases h2:((k2.w.l.length:Int) !=(n.k.w.l.length:Int))=true
   case pos=>
    refine G0 [0,0,4,7,5,0,4,22,24] ?_;exact ak ⟨false,rfl,L_ (fun h=>by cases h),E.aD⟩
   replace h2:((k2.w.l.length:Int) !=(n.k.w.l.length:Int))=false:=by simpa using h2
   refine GD E [0,0,4,8,15,5,0,0,41,0,0] ?_;clear h1 h2;refine ah (Ke Pg (n.b.all.l.length:Int) l _ 1048576 (E.ol 1) (by decide) (fun t ht=>((ho.iD HI.k).2 t ht).1) (fun t ht=>((ho.iD HI.k).2 t ht).2) HZ) ?_;rintro _ w12 ⟨X,v,rfl,hX,F⟩;replace E:=E.call F;clear F;refine GD E [26,84,70,3,60,0,4,9] ?_;clear E;intro g8 w14 E
   by_cases h3:(v==0)=true
   case neg=>
    replace h3:(v==0)=false:=by simpa using h3
    refine bP 0 7 [] (aaL [0,1,2,3,4,5]++aaN [6]) E ?_;clear E;intro w15 E;refine GD E [32,32,32,33,33,33,34,29,1,0,0,4,22] ?_;exact ak ⟨false,rfl,L_ (fun h=>by cases h),E.aD⟩
   case pos=>
    refine bP 0 7 [] (aaL [0,1,2,3,4,5]++aaN [6]) E ?_;clear E;intro w16 E
    iterate 3 refine ni E ?_
    refine gZ 0 2 E ?_;refine ni E ?_;refine gZ 2 4 E ?_;refine bT (PK Pg T n.b _ (jT (E.h HL)) HI.b hc HZ) ?_;rintro _ w17 ⟨Y,rfl,hY,F⟩;replace E:=E.call F;clear F;refine⟨_,rfl,E.weak,D_n ?_⟩;refine ow ?_;refine ah (Qr X Y _ 99000 ⟨(E.ol (s:=X.lo) (N:=1000) 2).more (Zh _) (by decide),E.ol (s:=X.vs) (N:=99000) 3⟩ ⟨(E.ol (s:=Y.lo) (N:=1000) 0).more (Zh _) (by decide),(E.ol (s:=Y.vs) (N:=1000) 1).more (Zh _) (by decide)⟩ (by decide)) ?_;rintro _ w18 ⟨b,rfl,hb⟩;replace E:=E.up hb;clear hb;refine G0 [26,0,0,4,22] ?_;exact ak ⟨b,rfl,L_ (fun _=>hc),E.aD⟩
theorem Uu (n:eP)(w:World)(hl:au.aA w w 1000 n) :
  Calls prog 90 #[n] w fun e w'=>∃q:Bool,e=.returned q∧Below w w w':=by
 have HL:=L_ hl;clear hl;have E:=Env.start w
 go_enter func90,ntmps90
 refine GD E [5,71,3,0,4,5,0,0,40,9] ?_;clear E;intro g1 w2 E
 by_cases c1:0≤n.b.me
 case neg=>
  refine G0 [0,0,1,82,80,2,2,4,22] ?_;exact ak ⟨false,rfl,E.aD⟩
 refine GD E [84,0,40] ?_
 by_cases c2:n.b.me<6
 case neg=>
  refine G0 [84,1,82,2,4,22] ?_;exact ak ⟨false,rfl,E.aD⟩
 refine G0 [84,0] ?_;refine oC 0 4 E ?_;refine GD E [0,0,40,0] ?_;refine ah (Vv n.b ⟨n.b.me,⟨none,0,[]⟩,⟨none,0,[]⟩,⟨none,0,[]⟩⟩ _ 1000 (jT (E.h HL)) ⟨Sl.dh,Sl.dh,Sl.dh⟩ (by decide)) (hr:=by go_simp<;>simp) ?_;rintro _ w3 ⟨q,rfl,hb⟩;replace E:=E.up hb;clear hb;refine G0 [26] ?_;cases q
 case false=>
  refine G0 [0,0,1,81,2,2,4,22] ?_;exact ak ⟨false,rfl,E.aD⟩
 refine GD E [84,40,0] ?_
 by_cases c3:((n.h.l.length:Int)==0)=false
 case pos=>
  refine G0 [84,1,80,2,4,22] ?_;exact ak ⟨false,rfl,E.aD⟩
 replace c3:((n.h.l.length:Int)==0)=true:=by simpa using c3
 refine GD E [83,40,84,0,4,22] ?_;exact ak ⟨_,rfl,E.aD⟩
theorem JI (Pg:Int→ByteArray→Prop)(T:Nat)(n:eP)(w:World)(hl:au.aA w w 1000 n)(hi:kr Pg T n)(hz:oH Pg) :
  Calls prog 43 #[n] w fun e w'=>∃v:Int,e=.returned v∧Hid (v=0→n.up=true→jN n.b)∧Below w w w':=by
 have HL:=L_ hl;have HI:=L_ hi;have HZ:=L_ hz;clear hl hi hz;have E:=Env.start w;obtain⟨nu,nb,nk,nh⟩:=n
 go_enter func43,ntmps43
 refine GD E [5,71,3,0,4,6,5,0,9] ?_;clear E;intro g1 w2 E;refine aB 0 2 E ?_;refine ah (QO nk _ (nZ (E.h HL))) ?_;rintro _ w3 ⟨v,rfl,hb⟩;replace E:=E.up hb;clear hb;refine G0 [26] ?_
 by_cases h1:(v !=0)=true
 case pos=>
  refine G0 [0,0,1,81,80,2,2,4,7,5,0,4,22,24] ?_;exact ak ⟨8,rfl,L_ (fun h=>absurd h (by decide)),E.aD⟩
 replace h1:(v !=0)=false:=by simpa using h1
 refine GD E [84,40] ?_;cases nu
 case false=>
  refine GD E [0,1,1,1,84,0,40,0,0] ?_;refine oC 0 8 E ?_;refine ah (Uu ⟨false,nb,nk,nh⟩ _ (E.h HL)) ?_;rintro _ w4 ⟨q,rfl,hb⟩;replace E:=E.up hb;clear hb;refine G0 [26] ?_;cases q
  case false=>
   refine G0 [84,4,7,5,0,4,22,24] ?_;exact ak ⟨8,rfl,L_ (fun h=>absurd h (by decide)),E.aD⟩
  case true=>
   refine G0 [84,4,8,15,5,0,4,22] ?_;exact ak ⟨0,rfl,L_ (fun _ h=>by cases h),E.aD⟩
 case true=>
  refine fV ?_;refine oC 0 8 E ?_;refine ah (Yz Pg T ⟨true,nb,nk,nh⟩ _ (E.h HL) HI HZ) ?_;rintro _ w5 ⟨q,rfl,hq,hb⟩;replace E:=E.up hb;clear hb;refine G0 [26] ?_;cases q
  case false=>
   refine G0 [84,0,1,80,2,2,2,4,7,5,0,4,22,24] ?_;exact ak ⟨8,rfl,L_ (fun h=>absurd h (by decide)),E.aD⟩
  case true=>
   refine GD E [83,40,0,0,1,1,1,0,0,4,8,15,5,0,4,22] ?_;exact ak ⟨0,rfl,L_ (fun _ _=>hq rfl),E.aD⟩
theorem uh (Pg:Int→ByteArray→Prop)(T:Nat)(n:eP)(up:Bool)(w:World)(hl:au.aA w w 1000 n)(hi:kr Pg T n)(hz:oH Pg) :
  Calls prog 52 #[n,up] w fun e w'=>∃v:Int,e=.returned v∧Hid (v=0→n.up=up∧(n.up=true→jN n.b))∧Below w w w':=by
 have HL:=L_ hl;have HI:=L_ hi;have HZ:=L_ hz;clear hl hi hz;have E:=Env.start w
 go_enter func52,ntmps52
 refine GD E [5,71,3,0,4,6,5,9] ?_;clear E;intro g2 w2 E;refine aB 0 8 E ?_;refine ah (JI Pg T n _ (E.h HL) HI HZ) ?_;rintro _ w3 ⟨v,rfl,hv,hb⟩;replace E:=E.up hb;clear hb;refine G0 [26] ?_
 by_cases h0:v=0
 case neg=>
  refine G0 [0,4,5,0,0,4,7,5,0,0,4,22,24] ?_;exact ak ⟨v,rfl,L_ (fun h=>absurd h h0),E.aD⟩
 subst h0;refine GD E [0,4,5,0,0,4,8,15,6,5,0,40,0] ?_
 by_cases h1:n.up=up
 case neg=>
  refine G0 [0,4,7,5,0,4,22,24] ?_;exact ak ⟨6,rfl,L_ (fun h=>absurd h (by decide)),E.aD⟩
 refine G0 [0,4,8,15,5,0,4,22] ?_;exact ak ⟨0,rfl,L_ (fun _=>⟨h1,hv rfl⟩),E.aD⟩
end
variable{bx:List Bx}{M b:Nat}{w w0:World}
section
attribute [local irreducible] wpList av
theorem Env.VT {is:List It}{h:Sl bS}{k:qp}{x:jl}{up:Bool}(E:Env b w0 bx (own h 5000::own k 0::(lV x N++is)) w):Env b w0 bx (own (⟨up,x,k,h⟩:eP) N::is) w:=by
 have E0:Env b w0 bx (own h 5000::own k 0::own x.se N::own x.all N::own x.ti N::is) w:=E
 exact(E0.join.join.join.join).conv 0 (i:=both (both (both (both (own h 5000) (own k 0)) (own x.se N)) (own x.all N)) (own x.ti N)) (own (⟨up,x,k,h⟩:eP) N) (fun h=>⟨h.1.2,h.1.1.2,h.2,h.1.1.1.2.1,h.1.1.1.2.2,h.1.1.1.1⟩) (fun g hg=>by
  simp only[own,both,au.bl,aag,Zm] at hg ⊢
  grind)
def gU:eP:=⟨false,iY,⟨⟨none,0,[]⟩,⟨none,0,[]⟩⟩,⟨none,0,[]⟩⟩
theorem Env.gU {is:List It}(E:Env b w0 bx is w):Env b w0 [] [own gU 1000] w:=
 (E.sub (Zy _) (Zy _)).sH (aaO _ _) ⟨Sl.eY,Sl.eY,Sl.eY,Sl.eY,Sl.eY,Sl.eY⟩
structure pY (y n:eP):Prop where
 up:y.up=n.up
 b:jv y.b n.b
 k:y.k.pl=n.k.pl
 h:y.h.l=n.h.l
theorem Env.pt {is:List It}{s:Sl Pt}{d:Sl UInt8}{q:Bool}(E:Env b w0 bx (own d N::own s N::is) w):Env b w0 bx (both (own s N) (own (⟨q,d⟩:Pt) N)::is) w:=
 Env.join (E.perm (ZW ..))
theorem Env.YU {is:List It}{d:Sl UInt8}{s:Sl Pt}(E:Env b w0 bx (own d 4000000::own s 4000000::is) w):Env b w0 bx (own (⟨d,s⟩:qp) 0::is) w:=
 E.join.conv 0 (i:=both (own d 4000000) (own s 4000000)) (own (⟨d,s⟩:qp) 0) (fun h=>h) (fun g hg=>by
  simp only[own,both,au.bl,aag,Zm] at hg ⊢;exact hg)
theorem Nq (n:eP)(w:World)(hl:au.aA w w 1000 n) :
  Calls prog 55 #[n] w fun e w'=>∃y:eP,e=.returned (y)∧Hid (pY y n)∧Env w w [] [own y 1000] w':=by
 have HL:=L_ hl;have hwn:=hl.2.2.2.2.1.2.2.2.1;clear hl;have E:=Env.start w
 go_enter func55,ntmps55
 refine G E [5,71,3,70,3,9] ?_;clear E;intro g1 g2 w3 E;refine aC (dw 15 E ?_);clear E;intro w4 E;refine ay 0 E ?_;refine aX 1 1 E ?_;refine ay 2 E ?_;refine oG 3 1 4 E ?_;refine ay 5 E ?_;refine ay 6 E ?_;refine aX 7 1 E ?_;refine ay 10 E ?_;refine aX 11 1 E ?_;refine IJ 4 14 (cK (rX n.b _ 1000 (jT (E.h HL)) (by decide)) ?way1a) (jm E ?way1b)
 case' way1a=>
  rintro _ w5 ⟨y,rfl,hy,F⟩;replace E:=E.call F;clear F;refine⟨_,rfl,E.weak,dL ?_⟩;refine IJ 8 14 (cK (qg jC E HL.2.2.2.1) ?way2a) (jm E ?way2b)
  case' way2a=>
   clear E;rintro _ w6 ⟨d,rfl,hd,E⟩;refine⟨_,rfl,E.weak,dL ?_⟩;refine ay 9 E ?_;refine IJ 12 14 (cK (qg fM E HL.2.2.2.2.2) ?way3a) (jm E ?way3b)
   case' way3a=>
    clear E;rintro _ w7 ⟨m,rfl,hm,E⟩;refine⟨_,rfl,E.weak,dL ?_⟩;refine ay 13 E ?_;refine T_1 14 (jm E ?_);clear E;intro g3 w8 E;refine⟨(E.drop 1).weak,dL ?_⟩
   case' way3b=>
    clear E;intro g3 w7 E;refine⟨(E.drop 1).weak,dL ?_⟩;refine T_1 12 (cK (qg fM E HL.2.2.2.2.2) ?_);clear E;rintro _ w8 ⟨m,rfl,hm,E⟩;refine⟨_,rfl,(E.drop 1).weak,dL ?_⟩;refine ay 13 E ?_
  case' way2b=>
   clear E;intro g3 w6 E;refine⟨(E.drop 1).weak,dL ?_⟩;refine T_1 8 (cK (qg jC E HL.2.2.2.1) ?_);clear E;rintro _ w7 ⟨d,rfl,hd,E⟩;refine⟨_,rfl,(E.drop 1).weak,dL ?_⟩;refine ay 9 E ?_;refine T_1 12 (cK (qg fM E HL.2.2.2.2.2) ?_);clear E;rintro _ w8 ⟨m,rfl,hm,E⟩;refine⟨_,rfl,(E.drop 1).weak,dL ?_⟩;refine ay 13 E ?_
 case' way1b=>
  clear E;intro g3 w5 E;refine⟨(E.drop 1).weak,dL ?_⟩;refine T_1 4 (cK (rX n.b _ 1000 (jT (E.h HL)) (by decide)) ?_);rintro _ w6 ⟨y,rfl,hy,F⟩;replace E:=E.call F;clear F;refine⟨_,rfl,(E.drop 1).weak,dL ?_⟩;refine T_1 8 (cK (qg jC E HL.2.2.2.1) ?_);clear E;rintro _ w7 ⟨d,rfl,hd,E⟩;refine⟨_,rfl,(E.drop 1).weak,dL ?_⟩;refine ay 9 E ?_;refine T_1 12 (cK (qg fM E HL.2.2.2.2.2) ?_);clear E;rintro _ w8 ⟨m,rfl,hm,E⟩;refine⟨_,rfl,(E.drop 1).weak,dL ?_⟩;refine ay 13 E ?_
 all_goals
  refine G E [30,60,4,6,5,0,0,42,0,0,4,19,9] ?_;clear E;intro w9 E;replace E:=E.aO (α:=Pt) (N:=4000000)
  go_loopw [24] (fun u wr=>∃(k:Nat) (s:Sl Pt),u=(k:Int)∧k≤n.k.w.l.length∧s.l.length=k∧Hid (s.l.map (fun p=>(⟨p.sw,p.d.l⟩:Dp.Put))=(n.k.w.l.take k).map fun p=>⟨p.sw,p.d.l⟩)∧Env w w ((g3,51,(⟨n.up,y,⟨d,s⟩,m⟩:eP))::(g2,51,[false,.int .i64 0,(),(),(),(),(),()])::(g1,51,n)::[]) (own s 4000000::own m 5000::own d 4000000::lV y 1000) wr) (fun u _=>n.k.w.l.length - (intOf u).toNat)
  case atStart=>exact⟨0,⟨none,0,[]⟩,rfl,Zq _,rfl,L_ (by simp),E⟩
  case round=>
   clear E;obtain⟨k,s,rfl,hk,hsk,HS,E⟩:=hrel;replace hsk:=L_ hsk
   by_cases hlt:k<n.k.w.l.length
   case pos=>
    have hw:IntKind.i64.wrap ((k:Int)+1)=((k+1:Nat):Int):=by rw[aaP _ (by omega)];rfl
    obtain⟨bb,off,p,hA,-,hp,hcc,hpl⟩:=(E.l HL.2.2.2.2.1).get (k:=k) hlt;replace hcc:=L_ hcc;replace hp:=L_ hp;have HPL:Hid (p.d.aA w w 4000000):=L_ (HL.2.2.2.2.1.2.2.2.2 p (Zk hp));clear hpl;refine G0 [5,0,4,16,15,18,5,0] ?_;refine fA p hcc ?_;clear hcc hA;refine G E [70,3,60,9] ?_;clear E;intro g5 w11 E;refine aC (fO 0 10 E ?_);clear E;intro w12 E;refine ay 0 E ?_;refine ay 1 E ?_;refine aX 2 1 E ?_;refine ay 3 E ?_;refine aX 4 0 E ?_;refine ay 5 E ?_;refine aX 6 0 E ?_;refine cu 7 (qg jC E HPL) ?_;clear E;rintro _ w13 ⟨d2,rfl,hd2,E⟩;replace E:=Env.pt (q:=p.sw) E;refine⟨_,rfl,E.weak,dL ?_⟩;refine ay 8 E ?_;refine uZ 9 E ?_;clear E;intro g37 w14 E;refine dL ?_;refine kg ?_;refine Sj 0 (s:=s) (N:=4000000) 4000000 (⟨p.sw,d2⟩:Pt) g37 E (E.reads 0 1 2) (by rw[hsk.out];omega) (by omega) (by omega) ?_;clear E;intro s2 w15 h2 E;refine G E [3,0,0,62,20,23,0,0,9] ?_;clear E;intro w16 E;refine jI ?_
    go_roundw
    case rel=>exact⟨k+1,s2,rfl,hlt,by rw[h2.out,Zn,hsk.out];rfl,L_ (by rw[h2.out,aag,HS.out,ZP,hp.out,aag];simp[hd2.out]),E.drop 2⟩
    case measure=>simp[intOf];omega
   case neg=>
    refine G0 [5,0,4,17,27,28,5] ?_;refine aB 0 8 E ?_;refine G E [61,4,22,9] ?_;clear E;intro w17 E;exact nI 1 E ⟨⟨n.up,y,⟨d,s⟩,m⟩,rfl,L_ ⟨rfl,hy,by unfold qp.pl;rw[show(⟨d,s⟩:qp).d.l=n.k.d.l from hd.out,show(⟨d,s⟩:qp).w.l.map (fun p=>(⟨p.sw,p.d.l⟩:Dp.Put))=_ from HS.out,Zz (by omega)],hm⟩,Env.VT (Env.perm (Env.YU ((E.drop 3).dQ (is':=own d 4000000::own s 4000000::own m 5000::lV y 1000) 3 [2,0,1])) (ZW ..))⟩
theorem SE (me:Int)(all:Sl gT)(w:World)(hl:all.aA w w M)(hM:M≤9223372036854775807) :
  Calls prog 11 #[me,all] w fun e w'=>∃(y:eP) (v:Int),e=.returned (.tuple #[y,v])∧Hid (v=0→y.up=true∧pQ me all.l y.b 0∧y.k.pl=Dp.fQ∧y.h.l=[])∧Env w w [] [own y 1000] w':=by
 have HL:=L_ hl;clear hl;have E:=Env.start w
 go_enter func11,ntmps11
 refine G E [5,70,3,0,4,5,0,0,9] ?_;clear E;intro g4 w2 E;refine ah (J3 me all _ 1000 1000 (E.l HL) hM (by decide) (by decide)) ?_;rintro _ w3 ⟨y,v,rfl,hy,F⟩;replace E:=E.call F;clear F;refine G0 [26] ?_
 by_cases h0:v=0
 case neg=>
  refine G E [84,70,3,60,0,4,6,5,0,0,4,7,5,0,0,61,0,4,22,24,9] ?_;clear E;intro g6 w6 E;exact aI 1 E ⟨gU,v,rfl,L_ (fun h=>absurd h h0),E.gU⟩
 subst h0;refine G E [84,70,3,60,0,4,6,5,0,0,4,8,15,5,9] ?_;clear E;intro g6 w8 E;refine aB 0 4 E ?_;refine G E [0,61,0,9] ?_;clear E;intro w9 E;replace E:=Env.Tj (x:=y) (N:=1000) (V:=1000) (is:=[]) (fun s hs=>by rw[(hy.out.se s hs).vs];exact Zq _) (E.as rfl (by simp only[aak]));refine G0 [4,22] ?_;exact aI 1 E ⟨⟨true,y,⟨⟨none,0,[]⟩,⟨none,0,[]⟩⟩,⟨none,0,[]⟩⟩,0,rfl,L_ (fun _=>⟨rfl,hy,rfl,rfl⟩),Env.VT (is:=[]) (((Env.YU ((E.drop 2).aO.aO)).aO))⟩
end
variable{Pg:Int→ByteArray→Prop}
section
attribute [local irreducible] wpList av aH
theorem yC (l:List bS):l.flatMap aj.cs=cm (l.map bS.wp):=by
 unfold cm
 induction l with
 |nil=>rfl
 |cons a r ih=>
  rw[ZQ,List.map_cons,ZQ,ih];have e:=congrArg Array.toList (TB a);exact congrArg (·++_) e.symm
theorem JZ (g:Nat)(s r:Sl bS)(w:World)(N M:Nat)(h0:w.cell? ⟨g,0,none⟩=some (.slice s.A s.l.length s.c))(h1:w.cell? ⟨g,1,none⟩=some (.slice r.A r.l.length r.c))(hs:s.aA w w N)(hr:r.aA w w M)(hN:N+M≤1000000) :
  Calls prog 102 #[.slice (some ⟨g,0,none⟩) 2 2] w fun e w'=>∃o:Sl bS,e=.returned o∧Hid (o.l=s.l++r.l)∧Env w w [] [own o (N+M)] w':=by
 have a1:=hs.2.2.2.1;have a2:=hr.2.2.2.1;refine(wz g s.A r.A s.l.length s.c r.l.length r.c (s.l.map bS.wp) (r.l.map bS.wp) w h0 h1 (by have:=hs.1;unfold Sl.row at this;rwa[yC] at this) (by have:=hr.1;unfold Sl.row at this;rwa[yC] at this) (by omega)).mono fun e w' ⟨A,c,e1,e2,e3⟩=>?_;refine⟨⟨A,c,s.l++r.l⟩,by rw[e1,Zn],L_ rfl,(Env.start w).sH e3 (x:=(⟨A,c,s.l++r.l⟩:Sl bS)) ⟨?_,by rw[Zn];omega,fun x hx=>trivial⟩⟩;show w'.ownsRow _ _ 10 (.slice A (s.l++r.l).length c) (s.l++r.l).length ((s.l++r.l).flatMap aj.cs);rw[yC,Zn,aag];exact e2
structure NI (Pg:Int→ByteArray→Prop)(A:bS→Prop)(T:Nat)(n y:eP):Prop where
 inn:kr Pg T y
 me:y.b.me=n.b.me
 aU:y.b.aU=n.b.aU
 up:n.up=true∧y.up=true
 ho:∀m∈y.h.l,m∈n.h.l∨Gz Pg y.b.me y.b.aU m∨A m
def FH (Pg:Int→ByteArray→Prop)(A:bS→Prop)(T:Nat)(n:eP)(w:World)(e:Ending)(w':World):Prop:=
 ∃(y:eP) (v:Int),e=.returned (.tuple #[y,v])∧Hid (v=0→NI Pg A T n y)∧Env w w [] [own y 1000] w'
theorem iq.add {d:Dp.dG}(h:iq Pg d){l:List ByteArray}(hl:∀t∈l,vT Pg t.data.toList)(he:(∀g v,¬Pg g v)→l=[]):iq Pg (Wa.add d (tx l)).1:=
 ⟨h.1.add fun t ht=>by
  obtain⟨u,hu,rfl⟩:=ZA.1 ht;exact hl u hu,fun e=>by rw[he e];exact(h.2 e).add⟩
theorem iq.reset {d:Dp.dG}(h:iq Pg d){l:List ByteArray}(hl:∀t∈l,vT Pg t.data.toList)(he:(∀g v,¬Pg g v)→l=[]):iq Pg (Wa.reset d (tx l)).1:=
 ⟨h.1.reset fun t ht=>by
  obtain⟨u,hu,rfl⟩:=ZA.1 ht;exact hl u hu,fun e=>by rw[he e];exact(h.2 e).reset⟩
theorem Gi (Pg:Int→ByteArray→Prop)(A:bS→Prop)(T T' g0:Nat)(C:Array Value)(eg:∀args w,(callFunc g0 args).run prog w=.ok (.enter g0 args) w)(n:eP)(w:World)(hl:au.aA w w 1000 n)(hi:kr Pg T n)(hz:oH Pg)(hA:∀m,A m→gN m)
  (hdo:jN n.b→∀w',Below w.heap.size w w'→Calls prog g0 (#[.agg #[.int .i64 n.b.me,.slice n.b.all.A n.b.all.l.length n.b.all.c,.slice n.b.se.A n.b.se.l.length n.b.se.c,.slice n.b.ti.A n.b.ti.l.length n.b.ti.c]]++C) w' (Stepped Pg A T' n.b 1000 w')) :
  Calls prog 50 #[n,.func (.func g0) #[] C] w (FH Pg A T' n w):=by
 have HL:=L_ hl;have HI:=L_ hi;have HZ:=L_ hz;have HA:=L_ hA;have HDO:=L_ hdo;clear hl hi hz hA hdo;have E:=Env.start w
 go_enter func50,ntmps50
 refine G E [5,71,3,70,3,0,4,6,5,9] ?_;clear E;intro g2 g4 w3 E;refine aB 1 8 E ?_;refine ah (uh Pg T n true _ (E.h HL) HI HZ) ?_;rintro _ w4 ⟨v,rfl,hv,hb⟩;replace E:=E.up hb;clear hb;refine G0 [26] ?_
 by_cases h0:v=0
 case neg=>
  refine G E [0,4,5,0,0,4,7,5,0,0,60,0,4,22,24,9] ?_;clear E;intro w5 E;exact aI 0 E ⟨gU,v,rfl,L_ (fun h=>absurd h h0),E.gU⟩
 subst h0;refine G0 [0,4,5,0,0,4,8] ?_;replace hv:=L_ (hv rfl);refine G0 [15,5,0,0] ?_;refine aB 1 4 E ?_;refine ah (HDO (hv.2 hv.1) _ E.aD) ?_;rintro _ w6 ⟨y,rc,ma,q,rfl,hy,F⟩;replace E:=E.call F;clear F;refine G0 [26] ?_
 by_cases h0:q=0
 case neg=>
  refine G E [83,70,3,60,84,4,6,5,0,0,4,7,5,0,0,61,0,4,22,24,9] ?_;clear E;intro g7 w9 E;exact aI 1 E ⟨gU,q,rfl,L_ (fun h=>absurd h h0),E.gU⟩
 subst h0;refine G E [83,70,3,60,84,4,6,5,0,0,4,8,9] ?_;clear E;intro g7 w11 E;replace hy:=L_ (hy rfl);refine G0 [15,5,0,4,6,5,84,4,19] ?_;have hrn:=E.on (s:=rc) (N:=40) 1;replace E:=E.aO (α:=ByteArray) (N:=0)
 go_loopw [11,39] (fun z u wr=>∃(k:Nat) (s:Sl ByteArray),z=s∧u=(k:Int)∧k≤rc.l.length∧s.l.length=k∧Hid (∀t∈s.l,vT Pg t.data.toList)∧Env w w ((g7,45,y)::(g4,51,[false,.int .i64 0,(),(),(),(),(),()])::(g2,51,n)::[]) (own s k::cO ⟨y,rc,ma⟩ 1000 120000 40) wr) (fun _ u _=>rc.l.length - (intOf u).toNat)
 case atStart=>exact⟨0,⟨none,0,[]⟩,rfl,rfl,Zq _,rfl,L_ (fun t ht=>by cases ht),E⟩
 case round=>
  clear E;obtain⟨k,s,rfl,rfl,hk,hsk,HS,E⟩:=hrel;replace hsk:=L_ hsk
  by_cases hlt:k<rc.l.length
  case pos=>
   have hw:IntKind.i64.wrap ((k:Int)+1)=((k+1:Nat):Int):=by rw[aaP _ (by omega)];rfl
   obtain⟨bb,off,r,hA,-,hr,hcc,-⟩:=(E.ol (s:=rc) (N:=40) 2).get (k:=k) hlt;replace hcc:=L_ hcc;have HR:=L_ (hy.2.rc r (Zk hr));clear hr;refine G0 [5,0,4,16,15,18,5,0] ?_;refine fA r hcc ?_;clear hcc hA;refine G E [70,3,60,4,5,9] ?_;clear E;intro g13 w13 E;refine aB 0 5 E ?_;refine ah (Bh r _ HR.2.v HR.2.b) ?_;rintro _ w14 ⟨t,v,rfl,ht,hb⟩;replace E:=E.up hb;clear hb;refine G0 [26] ?_
   by_cases h0:v=0
   case neg=>
    refine G E [83,4,6,5,0,0,4,7,5,0,0,62,0,4,22,24,9] ?_;clear E;intro w15 E;exact aI 2 E ⟨gU,v,rfl,L_ (fun h=>absurd h h0),E.gU⟩
   subst h0;refine G E [83,4,6,5,0,0,4,8,15,23,0,0,72,3,9] ?_;clear E;intro g54 w16 E;refine pV 0 (s:=s) (N:=k) (k+1) (⟨some ⟨g54,0,none⟩,1,[t]⟩:Sl ByteArray) E (E.reads 0 1 1) (by rw[hsk.out];simp) (by omega) ?_;clear E;intro s2 w17 h2 E;refine G0 [3,0,20,23,0,0,25] ?_
   go_roundw
   case rel=>exact⟨k+1,s2,rfl,rfl,hlt,by rw[h2.out,Zn,hsk.out];rfl,L_ (fun u hu=>by rw[h2.out] at hu;rcases Zm.1 hu with h|h;exact HS u h;rw[Zp.1 h];exact ht.iD HR.1),E.drop 2⟩
   case measure=>simp[intOf];omega
  case neg=>
   refine G0 [5,0,4,17,27,28,5,0] ?_;refine aB 2 2 E ?_;refine fV ?_;have hk40:k≤1024:=by omega
   have HD2:Hid (iq Pg (Wa.add n.k.pl (tx s.l)).1):=L_ (HI.k.add HS fun e=>by
    have h0:rc.l.length=0:=by
     rcases aao rc.l.length with h|h
     ·exact h
     ·exact absurd (hy.2.rc _ (List.getElem_mem h)).1 (e _ _)
    exact ZY (by rw[hsk.out];omega))
   refine ah (XH n.k s _ k (nZ (E.h HL)) (E.ol (s:=s) (N:=k) 0) hk40) ?_;rintro _ w18 ⟨k2,v,rfl,hk2,F⟩;replace E:=E.call F;clear F;refine G0 [26] ?_
   by_cases h0:v=0
   case neg=>
    refine G E [84,70,3,60,0,4,6,5,0,0,4,7,5,0,0,62,0,4,22,24,9] ?_;clear E;intro g16 w21 E;exact aI 2 E ⟨gU,v,rfl,L_ (fun h=>absurd h h0),E.gU⟩
   subst h0;refine G E [84,70,3,60,0,4,6,5,0,0,4,8,15,5,0,43,0,72,3,9] ?_;clear E;intro g16 g71 w24 E;refine ah (JZ g71 n.h ma _ 5000 120000 (E.c 0 0) (E.c 0 1) (E.l HL.2.2.2.2.2) (E.ol (s:=ma) (N:=120000) 2) (by decide)) ?_;rintro _ w25 ⟨o,rfl,ho,F⟩;replace E:=E.call F;clear F;refine G0 [26] ?_
   by_cases h5:4096<(o.l.length:Int)
   case pos=>
    refine G E [0,4,6,5,84,4,7,5,0,63,0,4,22,24,9] ?_;clear E;intro w26 E;exact aI 3 E ⟨gU,9,rfl,L_ (fun h=>absurd h (by decide)),E.gU⟩
   refine G0 [0,4,6,5,84,4,8,15,5] ?_;refine aB 2 4 E ?_;refine aB 1 2 E ?_;refine G E [0,0,63,0,9] ?_;clear E;intro w27 E;have hon:o.l.length≤5000:=by omega
   replace E:=E.less 0 (i:=own o (5000+120000)) (i':=own o 5000) (fun h=>⟨h.1,hon,h.2.2⟩);refine G0 [4,22] ?_
   exact aI 3 E ⟨⟨true,y,k2,o⟩,0,rfl,L_ (fun _=>by
    have hmo:∀m∈o.l,m∈n.h.l∨Gz Pg y.me y.aU m∨A m:=fun m hm=>by
     rw[ho.out] at hm;exact(Zm.1 hm).imp_right (hy.2.ma m)
    exact⟨⟨hy.1.inn,by show iq Pg k2.pl;rw[hk2.out];exact HD2,fun m hm=>(hmo m hm).elim (HI.h m) fun h=>h.elim (fun h=>h.2.2.2) (HA m)⟩,hy.1.me,hy.1.aU,⟨hv.1,rfl⟩,hmo⟩),Env.VT (x:=y) ((E.drop 5).dQ (is':=own o 5000::own k2 0::(lV y 1000++[])) 8 [0,1,5,6,7])⟩
theorem Dz:∀args w,(callFunc 51 args).run prog w=.ok (.enter 51 args) w:=enters_of func51 (by kernel_rfl) rfl
theorem UG (Pg:Int→ByteArray→Prop)(T:Nat)(n:eP)(w:World)(hl:au.aA w w 1000 n)(hi:kr Pg T n)(hP:∀k,zK Pg k) :
  Calls prog 17 #[n] w (FH Pg (fun _=>False) T n w):=by
 have HL:=L_ hl;have HI:=L_ hi;have HP:=L_ hP;clear hl hi hP;have E:=Env.start w
 go_enter func17,ntmps17
 refine G E [5,71,3,70,3,0,4,5,9] ?_;clear E;intro g1 g2 w3 E;refine aB 1 8 E ?_;refine ah (Gi Pg (fun _=>False) T T 51 #[] Dz n _ (E.h HL) HI (HP 0).sz (fun m h=>h.elim) (fun hc w' hb=>Vo Pg T n.b w' 1000 (jT (au.aS (au.bA (E.h HL) fun p hp=>hb.cell hp) hb.size (Zh _))) (by decide) (by decide) HI.b (HP _))) ?_;rintro _ w4 ⟨y,v,rfl,hy,F⟩;replace E:=E.call F;clear F;refine G E [26,0,0,60,0,4,22,9] ?_;clear E;intro w5 E;exact aI 0 E ⟨y,v,rfl,hy,E.drop 2⟩
theorem Dk:∀args w,(callFunc 157 args).run prog w=.ok (.enter 157 args) w:=enters_of func157 (by kernel_rfl) rfl
theorem WX (Pg:Int→ByteArray→Prop)(T T' g1:Nat)(x:jl)(m:bS)(w:World)(hb:aF w g1 62 m)(hl:au.aA w w 1000 x)(hi:jJ Pg T x)(hP:zK Pg x.all.l.length)(hm:m.k=7∨Pg m.g m.v)(hw:gN m)(hT:T≤T')(hT8:m.k=8→T+1≤T')(hTN:T'≤1000) :
  Calls prog 157 #[x,g1] w (Stepped Pg (rY Pg x.me m) T' x 1000 w):=by
 have HL:=L_ hl;have HI:=L_ hi;have HP:=L_ hP;have HM:=L_ hm;have HW:=L_ hw;have HB:=L_ hb;have HT:=L_ hT;have HT8:=L_ hT8;have HTN:=L_ hTN;have hlt:=hb.lt;clear hl hi hP hm hw hb hT hT8 hTN;have E:=Env.start w
 go_enter func157,ntmps157
 refine G E [5,71,3,70,3,84,4,5,9] ?_;clear E;intro g2 g3 w3 E;refine aB 1 4 E ?_;refine fA m (fun q u hu=>(E.aD.cell (p:=⟨g1,0+q,none⟩) hlt).trans ((HB.cell (0+q)).trans (by rw[aah];exact List.getElem?_toArray.trans hu))) ?_;refine ah (Oh Pg T T' x m _ 1000 (E.h HL) (by decide) (by decide) HI HP HM HW HT HT8 HTN) ?_;rintro _ w4 ⟨y,rc,ma,q,rfl,hq,F⟩;replace E:=E.call F;clear F;refine G E [26,84,0,60,84,4,22,9] ?_;clear E;intro w5 E;exact jL 0 E ⟨y,rc,ma,q,rfl,hq,E.drop 2⟩
theorem Nt (Pg:Int→ByteArray→Prop)(T T':Nat)(n:eP)(m:bS)(w:World)(hl:au.aA w w 1000 n)(hi:kr Pg T n)(hP:∀k,zK Pg k)(hm:m.k=7∨Pg m.g m.v)(hw:gN m)(hT:T≤T')(hT8:m.k=8→T+1≤T')(hTN:T'≤1000) :
  Calls prog 99 #[n,m] w (FH Pg (rY Pg n.b.me m) T' n w):=by
 have HL:=L_ hl;have HI:=L_ hi;have HP:=L_ hP;have HM:=L_ hm;have HW:=L_ hw;have HT:=L_ hT;have HT8:=L_ hT8;have HTN:=L_ hTN;clear hl hi hP hm hw hT hT8 hTN;have E:=Env.start w
 go_enter func99,ntmps99
 refine G E [5,71,3,71,3,70,3,0,4,5,9] ?_;clear E;intro g2 g3 g4 w4 E;refine aB 2 8 E ?_;refine fV ?_;refine ah (Gi Pg (rY Pg n.b.me m) T T' 157 #[g3] Dk n _ (E.h HL) HI (HP 0).sz (fun m h=>h.2.2.2.2) (fun hc w' hb=>WX Pg T T' g3 n.b m w' ((E.blk 1 rfl).below hb (E.blk 1 rfl).lt) (jT (au.aS (au.bA (E.h HL) fun p hp=>hb.cell hp) hb.size (Zh _))) HI.b (HP _) HM HW HT HT8 HTN)) ?_;rintro _ w5 ⟨y,v,rfl,hy,F⟩;replace E:=E.call F;clear F;refine G E [26,0,0,60,0,4,22,9] ?_;clear E;intro w6 E;exact aI 0 E ⟨y,v,rfl,hy,E.drop 3⟩
theorem Ad:∀args w,(callFunc 61 args).run prog w=.ok (.enter 61 args) w:=enters_of func61 (by kernel_rfl) rfl
theorem VK (Pg:Int→ByteArray→Prop)(T g1 g2:Nat)(x:jl)(g:Int)(c:lJ)(w:World)(hb1:aF w g1 3 #[g])(hb:aF w g2 37 c)(hl:au.aA w w 1000 x)(hc:au.aA w w 1000 c)(hcw:ny c)(hi:jJ Pg T x)(hP:zK Pg x.all.l.length)(hg:i64 g)
  (hW:∀n:Nat,g=(n:Int)→n<x.all.l.length→Cp.dU c.hc.cmd=true→∀v:ByteArray,v.data.toList=Cp.aV c.hc.cmd→Pg (n:Int) v) :
  Calls prog 61 #[x,g1,g2] w (Stepped Pg (fun _=>False) T x 1000 w):=by
 have HL:=L_ hl;have HC:=L_ hc;have HCW:=L_ hcw;have HI:=L_ hi;have HP:=L_ hP;have HG:=L_ hg;have HPW:=L_ hW;have HB:=L_ hb;have HB1:=L_ hb1;have hlt:=hb.lt;have hlt1:=hb1.lt;clear hl hc hcw hi hP hg hW hb hb1;have E:=Env.start w
 go_enter func61,ntmps61
 refine G E [5,71,3,70,3,84,4,5,9] ?_;clear E;intro g3 g4 w3 E;refine aB 1 4 E ?_;refine bQ ((E.aD.cell (p:=⟨g1,0,none⟩) hlt1).trans (HB1.cell 0)) ?_;refine fA c (fun q u hu=>(E.aD.cell (p:=⟨g2,0+q,none⟩) hlt).trans ((HB.cell (0+q)).trans (by rw[aah];exact List.getElem?_toArray.trans hu))) ?_;refine ah (UL Pg T x g c _ 1000 (E.h HL) (E.h HC) HCW (by decide) (by decide) HI HP HG HPW) ?_;rintro _ w4 ⟨y,ma,q,rfl,hq,F⟩;replace E:=E.call F;clear F;refine G E [26,84,0,70,3,60,0,0,4,5,9] ?_;clear E;intro g8 w6 E;refine aB 0 4 E ?_;refine G E [0,0,61,84,9] ?_;clear E;intro w7 E;replace E:=(((E.l9 (N':=96000+24*1000) (by decide)).aO (α:=Re) (N:=40)).perm (ZW ..));refine G0 [4,22] ?_;exact jL 1 E ⟨y,⟨none,0,[]⟩,ma,q,rfl,L_ (fun h=>hq h),E.drop 3⟩
theorem Vb (Pg:Int→ByteArray→Prop)(T:Nat)(n:eP)(g:Int)(c:lJ)(w:World)(hl:au.aA w w 1000 n)(hc:au.aA w w 1000 c)(hcw:ny c)(hi:kr Pg T n)(hP:∀k,zK Pg k)(hg:i64 g)
  (hW:∀k:Nat,g=(k:Int)→k<n.b.all.l.length→Cp.dU c.hc.cmd=true→∀v:ByteArray,v.data.toList=Cp.aV c.hc.cmd→Pg (k:Int) v) :
  Calls prog 24 #[n,g,c] w (FH Pg (fun _=>False) T n w):=by
 have HL:=L_ hl;have HC:=L_ hc;have HCW:=L_ hcw;have HI:=L_ hi;have HP:=L_ hP;have HG:=L_ hg;have HPW:=L_ hW;clear hl hc hcw hi hP hg hW;have E:=Env.start w
 go_enter func24,ntmps24
 refine G E [5,71,3,71,3,71,3,70,3,0,4,5,9] ?_;clear E;intro g3 g4 g5 g6 w5 E;refine aB 3 8 E ?_;refine fV ?_;refine ah (Gi Pg (fun _=>False) T T 61 #[g4,g5] Ad n _ (E.h HL) HI (HP 0).sz (fun m h=>h.elim) (fun hck w' hb=>VK Pg T g4 g5 n.b g c w' ((E.blk 2 rfl).below hb (E.blk 2 rfl).lt) ((E.blk 1 rfl).below hb (E.blk 1 rfl).lt) (jT (au.aS (au.bA (E.h HL) fun p hp=>hb.cell hp) hb.size (Zh _))) (au.aS (au.bA (E.h HC) fun p hp=>hb.cell hp) hb.size (Zh _)) HCW HI.b (HP _) HG HPW)) ?_;rintro _ w6 ⟨y,v,rfl,hy,F⟩;replace E:=E.call F;clear F;refine G E [26,0,0,60,0,4,22,9] ?_;clear E;intro w7 E;exact aI 0 E ⟨y,v,rfl,hy,E.drop 4⟩
theorem jJ.same {T:Nat}{x y:jl}(h:jJ Pg T x)(s:jv y x):jJ Pg T y:=by
 refine⟨fun u hu=>?_,by rw[s.ti];exact h.ti,by rw[s.ti];exact h.tl⟩;obtain⟨k,hk⟩:=aaF hu;obtain⟨z,hz,hs⟩:=s.se.2 k u hk;rw[hs.num];exact(h.se z (Zk hz)).same hs
structure ze (Pg:Int→ByteArray→Prop)(T:Nat)(n y:eP):Prop where
 inn:kr Pg T y
 me:y.b.me=n.b.me
 ho:∀m∈y.h.l,m∈n.h.l
theorem Env.YE {is:List It}{k:qp}{y:eP}(E:Env b w0 bx (own k 0::own y N::is) w):Env b w0 bx (own (⟨y.up,y.b,k,y.h⟩:eP) N::is) w:=
 E.join.conv 0 (i:=both (own k 0) (own y N)) (own (⟨y.up,y.b,k,y.h⟩:eP) N) (fun h=>⟨h.2.1,h.2.2.1,h.2.2.2.1,h.1.1,h.1.2,h.2.2.2.2.2.2⟩) (fun g hg=>by
  simp only[own,both,au.bl,aag,Zm] at hg ⊢
  grind)
theorem UQ (Pg:Int→ByteArray→Prop)(T:Nat)(n:eP)(w:World)(hl:au.aA w w 1000 n)(hi:kr Pg T n)(hz:oH Pg) :
  Calls prog 64 #[n] w fun e w'=>∃(y:eP) (l:Sl bS) (v:Int),e=.returned (.tuple #[y,l,v])∧Hid (v=0→ze Pg T n y∧n.up=true∧y.up=true∧y.b.aU=n.b.aU)∧Hid (∀m∈l.l,m∈n.h.l)∧Env w w [] [own l 5000,own y 1000] w':=by
 have HL:=L_ hl;have HI:=L_ hi;have HZ:=L_ hz;clear hl hi hz;have E:=Env.start w
 go_enter func64,ntmps64
 refine GD E [5,71,3,70,3,0,0,4,6,5,9] ?_;clear E;intro g1 g2 w3 E;refine aB 1 8 E ?_;refine ah (uh Pg T n true _ (E.h HL) HI HZ) ?_;rintro _ w4 ⟨v,rfl,hv,hb⟩;replace E:=E.up hb;clear hb;refine G0 [26] ?_
 by_cases h0:v=0
 case neg=>
  refine GD E [0,4,5,0,0,4,7,5,0,0,60,0,0,4,22,24,9] ?_;clear E;intro w5 E;exact mQ 0 E ⟨gU,⟨none,0,[]⟩,v,rfl,L_ (fun h=>absurd h h0),L_ (fun m hm=>by cases hm),E.gU.aO⟩
 subst h0;refine G0 [0,4,5,0,0,4,8] ?_;replace hv:=L_ (hv rfl);refine G0 [15,5,0] ?_;refine aB 1 2 E ?_;refine ah (Uo n.k _ (nZ (E.h HL))) ?_;rintro _ w6 ⟨k2,v,rfl,hk,F⟩;replace E:=E.call F;clear F;refine G0 [26] ?_
 by_cases h0:v=0
 case neg=>
  refine GD E [84,70,3,60,0,4,6,5,0,0,4,7,5,0,0,61,0,0,4,22,24,9] ?_;clear E;intro g6 w9 E;exact mQ 1 E ⟨gU,⟨none,0,[]⟩,v,rfl,L_ (fun h=>absurd h h0),L_ (fun m hm=>by cases hm),E.gU.aO⟩
 subst h0;refine GD E [84,70,3,60,0,4,6,5,0,0,9] ?_;clear E;intro g6 w11 E;refine aC (VX (WU (bP 0 8 [] (aaL [0,1,3,5,6]++aaN [2]++aaL [4]++aaN [7]) E ?_)));clear E;intro w12 E;refine ni E ?_;refine gZ 2 4 E ?_;refine gZ 0 2 E ?_;refine GD E [32,52] ?_;refine bT (rX n.b _ 1000 (jT (E.h HL)) (by decide)) ?_;rintro _ w13 ⟨y,rfl,hy,F⟩;replace E:=E.call F;clear F;refine⟨_,rfl,E.weak,D_n ?_⟩;refine ni E ?_;refine bT (qg fM E HL.2.2.2.2.2) ?_;clear E;rintro _ w14 ⟨m,rfl,hm,E⟩;refine⟨_,rfl,E.weak,D_n ?_⟩;refine GD E [29,61,0,0,9] ?_;clear E;intro w15 E;replace E:=(E.aO (α:=bS) (N:=5000)).dQ (is':=own (⟨none,0,[]⟩:Sl bS) 5000::own k2 0::(lV y 1000++[own m 5000])) 6 [0,5,2,3,4,1];refine G0 [4,22] ?_;exact mQ 1 E ⟨⟨true,y,k2,⟨none,0,[]⟩⟩,m,0,rfl,L_ (fun _=>⟨⟨⟨HI.b.same hy,by show iq Pg k2.pl;rw[hk.out];exact HI.k.sync,fun m hm=>by cases hm⟩,hy.me,fun m hm=>by cases hm⟩,hv.1,rfl,hy.aU⟩),L_ (fun u hu=>by rw[hm.out] at hu;exact hu),Env.perm (Env.VT (up:=true) (E.drop 3)) (ZW ..)⟩
theorem Ve (Pg:Int→ByteArray→Prop)(T:Nat)(n:eP)(w:World)(hl:au.aA w w 1000 n)(hi:kr Pg T n)(hz:oH Pg) :
  Calls prog 18 #[n] w fun e w'=>∃(y:eP) (v:Int),e=.returned (.tuple #[y,v])∧Hid (v=0→ze Pg T n y∧n.up=true∧y.up=true∧y.b.aU=n.b.aU)∧Env w w [] [own y 1000] w':=by
 have HL:=L_ hl;have HI:=L_ hi;have HZ:=L_ hz;clear hl hi hz;have E:=Env.start w
 go_enter func18,ntmps18
 refine GD E [5,71,3,70,3,0,4,6,5,9] ?_;clear E;intro g1 g2 w3 E;refine aB 1 8 E ?_;refine ah (uh Pg T n true _ (E.h HL) HI HZ) ?_;rintro _ w4 ⟨v,rfl,hv,hb⟩;replace E:=E.up hb;clear hb;refine G0 [26] ?_
 by_cases h0:v=0
 case neg=>
  refine GD E [0,4,5,0,0,4,7,5,0,0,60,0,4,22,24,9] ?_;clear E;intro w5 E;exact aI 0 E ⟨gU,v,rfl,L_ (fun h=>absurd h h0),E.gU⟩
 subst h0;refine G0 [0,4,5,0,0,4,8] ?_;replace hv:=L_ (hv rfl);refine G0 [15,5,0] ?_;refine aB 1 4 E ?_;refine ah (PK Pg T n.b _ (jT (E.h HL)) HI.b (hv.2 hv.1) HZ) ?_;rintro _ w6 ⟨X,rfl,hX,F⟩;replace E:=E.call F;clear F;refine G0 [26] ?_;refine ah (Vm Pg X _ 1000 ⟨E.ol 0,E.ol 1⟩ (by decide) hX.1 HZ hX.2) ?_;rintro _ w7 ⟨o,v,rfl,ho,F⟩;replace E:=E.call F;clear F;refine G0 [26] ?_
 by_cases h0:v=0
 case neg=>
  refine GD E [83,4,6,5,0,0,4,7,5,0,0,60,0,4,22,24,9] ?_;clear E;intro w8 E;exact aI 0 E ⟨gU,v,rfl,L_ (fun h=>absurd h h0),E.gU⟩
 subst h0;refine G0 [83,4,6,5,0,0,4,8,15,5] ?_;refine aB 1 8 E ?_;refine ah (Nq n _ (E.h HL)) ?_;rintro _ w9 ⟨y,rfl,hy,F⟩;replace E:=E.call F;clear F;refine GD E [26,70,3,60,4,6,5,0,9] ?_;clear E;intro g7 w11 E;refine aB 2 2 E ?_;refine fV ?_
 have HD2:Hid (iq Pg (Wa.reset n.k.pl (tx o.l)).1):=L_ (HI.k.reset (fun t ht=>(ho t ht).2.1) fun e=>by
  rcases aao o.l.length with h|h
  ·exact ZY h
  ·obtain⟨g,v,hgv⟩:=(ho _ (List.getElem_mem h)).2.2;exact absurd hgv (e g v))
 refine ah (SA n.k o _ 65536 (nZ (E.h HL)) (E.ol 1) (by decide)) ?_;rintro _ w12 ⟨k2,v,rfl,hk2,F⟩;replace E:=E.call F;clear F;refine G0 [26] ?_
 by_cases h0:v=0
 case neg=>
  refine GD E [84,0,60,0,4,5,0,0,4,7,5,0,0,61,0,4,22,24,9] ?_;clear E;intro w14 E;exact aI 1 E ⟨gU,v,rfl,L_ (fun h=>absurd h h0),E.gU⟩
 subst h0;refine GD E [84,0,60,0,4,5,0,0,4,8,15,5,9] ?_;clear E;intro w15 E;refine aB 0 8 E ?_;refine GD E [61,0,4,22,9] ?_;clear E;intro w16 E;exact aI 1 E ⟨⟨y.up,y.b,k2,y.h⟩,0,rfl,L_ (fun _=>⟨⟨⟨HI.b.same hy.b,by show iq Pg k2.pl;rw[hk2.out];exact HD2,fun m hm=>HI.h m (by rw[show(⟨y.up,y.b,k2,y.h⟩:eP).h.l=n.h.l from hy.out.h] at hm;exact hm)⟩,hy.b.me,fun m hm=>by rw[show(⟨y.up,y.b,k2,y.h⟩:eP).h.l=n.h.l from hy.out.h] at hm;exact hm⟩,hv.1,hy.up.trans hv.1,hy.b.aU⟩),(Env.YE (E.drop 3)).sub (Zi _) (List.Sublist.cons_cons _ (Zy _))⟩
theorem Sv (Pg:Int→ByteArray→Prop)(T:Nat)(n:eP)(keep many:Int)(w:World)(hl:au.aA w w 1000 n)(hi:kr Pg T n)(hz:oH Pg)(hm:i64 many) :
  Calls prog 20 #[n,keep,many] w fun e w'=>∃(y:eP) (v:Int),e=.returned (.tuple #[y,v])∧Hid (v=0→ze Pg T n y∧y.up=false)∧Env w w [] [own y 1000] w':=by
 have HL:=L_ hl;have HI:=L_ hi;have HZ:=L_ hz;have HM:=L_ hm;clear hl hi hz hm;have E:=Env.start w
 go_enter func20,ntmps20
 refine GD E [5,71,3,70,3,0,4,6,5,9] ?_;clear E;intro g3 g6 w3 E;refine aB 1 8 E ?_;refine ah (uh Pg T n true _ (E.h HL) HI HZ) ?_;rintro _ w4 ⟨v,rfl,hv,hb⟩;replace E:=E.up hb;clear hb;refine G0 [26] ?_
 by_cases h0:v=0
 case neg=>
  refine GD E [0,4,5,0,0,4,7,5,0,0,60,0,4,22,24,9] ?_;clear E;intro w5 E;exact aI 0 E ⟨gU,v,rfl,L_ (fun h=>absurd h h0),E.gU⟩
 subst h0;refine G0 [0,4,5,0,0,4,8,15,5,0] ?_;refine aB 1 2 E ?_;refine G0 [0,0] ?_;refine ah (R9 n.k keep many _ (nZ (E.h HL)) HM.2) ?_;rintro _ w6 ⟨k2,v,rfl,hk,F⟩;replace E:=E.call F;clear F;refine G0 [26] ?_
 by_cases h0:v=0
 case neg=>
  refine GD E [84,70,3,60,0,4,6,5,0,0,4,7,5,0,0,61,0,4,22,24,9] ?_;clear E;intro g9 w9 E;exact aI 1 E ⟨gU,v,rfl,L_ (fun h=>absurd h h0),E.gU⟩
 subst h0;refine GD E [84,70,3,60,0,4,6,5,0,0,4,8,15,5,0,0,42,0,9] ?_;clear E;intro g9 w11 E;refine aB 0 2 E ?_;refine GD E [0,61,0,9] ?_;clear E;intro w12 E;replace E:=((((E.aO (α:=mM) (N:=1000)).aO (α:=gT) (N:=1000)).aO (α:=dZ) (N:=1000)).aO (α:=bS) (N:=5000)).dQ (is':=own (⟨none,0,[]⟩:Sl bS) 5000::own k2 0::(lV ⟨n.b.me,⟨none,0,[]⟩,⟨none,0,[]⟩,⟨none,0,[]⟩⟩ 1000++[])) 5 [0,4,1,2,3];refine G0 [4,22] ?_;exact aI 1 E ⟨⟨false,⟨n.b.me,⟨none,0,[]⟩,⟨none,0,[]⟩,⟨none,0,[]⟩⟩,k2,⟨none,0,[]⟩⟩,0,rfl,L_ (fun _=>⟨⟨⟨⟨fun s hs=>(by cases hs),fun t ht=>(by cases ht),Zq _⟩,by show iq Pg k2.pl;rw[hk.out];exact HI.k.crash _ _,fun m hm=>by cases hm⟩,rfl,fun m hm=>by cases hm⟩,rfl⟩),Env.VT (E.drop 3)⟩
theorem Rv (Pg:Int→ByteArray→Prop)(T:Nat)(n:eP)(all:Sl gT)(w:World)(hl:au.aA w w 1000 n)(ha:all.aA w w 1000)(hi:kr Pg T n)(hz:oH Pg) :
  Calls prog 22 #[n,all] w fun e w'=>∃(y:eP) (v:Int),e=.returned (.tuple #[y,v])∧Hid (v=0→ze Pg T n y∧y.up=true∧y.b.aU=all.l.map fun g=>g.r.l)∧Env w w [] [own y 1000] w':=by
 have HL:=L_ hl;have HA:=L_ ha;have HI:=L_ hi;have HZ:=L_ hz;clear hl ha hi hz;have E:=Env.start w
 go_enter func22,ntmps22
 refine GD E [5,71,3,70,3,0,4,6,5,9] ?_;clear E;intro g2 g4 w3 E;refine aB 1 8 E ?_;refine ah (uh Pg T n false _ (E.h HL) HI HZ) ?_;rintro _ w4 ⟨v,rfl,hv,hb⟩;replace E:=E.up hb;clear hb;refine G0 [26] ?_
 by_cases h0:v=0
 case neg=>
  refine GD E [0,4,5,0,0,4,7,5,0,0,60,0,4,22,24,9] ?_;clear E;intro w5 E;exact aI 0 E ⟨gU,v,rfl,L_ (fun h=>absurd h h0),E.gU⟩
 subst h0;refine GD E [0,4,5,0,0,4,8,15,6,5,0,0,41,0] ?_;refine ah (J3 n.b.me all _ 1000 1000 (E.l HA) (by decide) (by decide) (by decide)) ?_;rintro _ w6 ⟨z,v,rfl,-,F⟩;replace E:=E.call F;clear F;refine G0 [26] ?_
 by_cases h0:v=0
 case neg=>
  refine GD E [84,70,3,60,0,4,5,0,0,4,7,5,0,0,61,0,4,22,24,9] ?_;clear E;intro g7 w9 E;exact aI 1 E ⟨gU,v,rfl,L_ (fun h=>absurd h h0),E.gU⟩
 subst h0;refine GD E [84,70,3,60,0,4,5,0,0,4,8,9] ?_;clear E;intro g7 w11 E;replace E:=E.sub (Zi _) (Zy _);refine G0 [15,5,0] ?_;refine aB 2 2 E ?_;refine ah (Nb n.k _ (nZ (E.h HL))) ?_;rintro _ w12 ⟨k2,l,v,rfl,ho,F⟩;replace E:=E.call F;clear F;refine G0 [26] ?_
 by_cases h0:v=0
 case neg=>
  refine GD E [84,0,70,3,60,0,0,4,6,5,0,0,4,7,5,0,0,62,0,4,22,24,9] ?_;clear E;intro g9 w15 E;exact aI 2 E ⟨gU,v,rfl,L_ (fun h=>absurd h h0),E.gU⟩
 subst h0;refine GD E [84,0,70,3,60,0,0,4,6,5,0,0,4,8,15,5,84,9] ?_;clear E;intro g9 w17 E;refine ah (Ke Pg (all.l.length:Int) l _ 1048576 (E.ol 1) (by decide) (fun t ht=>((ho.iD HI.k).2 t ht).1) (fun t ht=>((ho.iD HI.k).2 t ht).2) HZ) ?_;rintro _ w18 ⟨X,v,rfl,hX,F⟩;replace E:=E.call F;clear F;refine G0 [26] ?_
 by_cases h0:v=0
 case neg=>
  refine GD E [84,70,3,60,0,4,6,5,0,0,4,7,5,0,63,0,4,22,24,9] ?_;clear E;intro g12 w21 E;exact aI 3 E ⟨gU,8,rfl,L_ (fun h=>absurd h (by decide)),E.gU⟩
 subst h0;refine GD E [84,70,3,60,0,4,6,5,0,0,4,8,15,5,0,0,44,0,9] ?_;clear E;intro g12 w23 E;refine aB 0 2 E ?_;refine ah (RQ Pg n.b.me all X _ (E.l HA) ⟨(E.ol (s:=X.lo) (N:=1000) 0).more (Zh _) (by decide),E.ol (s:=X.vs) (N:=99000) 1⟩ hX.1 HZ) ?_;rintro _ w24 ⟨y,v,rfl,hy,F⟩;replace E:=E.call F;clear F;refine G0 [26] ?_
 by_cases h0:v=0
 case neg=>
  refine GD E [84,70,3,60,0,4,6,5,0,0,4,7,5,0,0,64,0,4,22,24,9] ?_;clear E;intro g13 w27 E;exact aI 4 E ⟨gU,v,rfl,L_ (fun h=>absurd h h0),E.gU⟩
 subst h0;refine GD E [84,70,3,60,0,4,6,5,0,0,4,8,9] ?_;clear E;intro g13 w29 E;replace hy:=L_ (hy rfl);refine G0 [15,5] ?_;refine aB 0 4 E ?_;refine aB 2 2 E ?_;refine GD E [0,64,0,9] ?_;clear E;intro w30 E;replace E:=(E.aO (α:=bS) (N:=5000)).dQ (is':=own (⟨none,0,[]⟩:Sl bS) 5000::own k2 0::(lV y 1000++[])) 8 [0,6,1,2,3];refine G0 [4,22] ?_;exact aI 4 E ⟨⟨true,y,k2,⟨none,0,[]⟩⟩,0,rfl,L_ (fun _=>⟨⟨⟨⟨hy.1.se,hy.1.ti,Zt hy.1.tl (Zq _)⟩,(ho.iD HI.k).1,fun m hm=>by cases hm⟩,hy.2.1,fun m hm=>by cases hm⟩,rfl,hy.2.2⟩),Env.VT (E.drop 6)⟩
end
variable{a:Act}{R:Ending→World→Prop}{fn:Func}{me:Int}{T' g i j1 j2:Nat}{A:Option Addr}{t ty:TypeId}{v1 v2:Value}{w':World}
section
attribute [local irreducible] wpList av aH
def Mine (me:Int)(aU:List (List Int))(g:Int):Prop:=∃(k:Nat) (r:List Int),g=(k:Int)∧aU[k]?=some r∧me∈r
def Clean (me:Int)(aU:List (List Int))(v:ByteArray):Prop:=v.size≤1000000∧∀c,Cp.eB v.data.toList=(c,0)→c.k=1→∀h∈c.gs,¬Mine me aU h
def yE (me:Int)(aU:List (List Int))(i g:Int)(v:ByteArray):Prop:=i≠me∧¬Mine me aU g∧Clean me aU v
theorem Lb:(Cp.eB []).2≠0:=by decide
theorem clean_nil {aU:List (List Int)}:Clean me aU ⟨#[]⟩:=⟨by decide,fun c h=>absurd (congrArg Prod.snd h) Lb⟩
theorem Ct {d:Cp.dD}(h:Cp.dU d=true):(Cp.aV d).length≤1000000:=by
 have:=(Cp.yG h).2;omega
theorem oM {aU:List (List Int)}{d:Cp.dD}{u:ByteArray}(hm:Cp.dU d=true)(hu:u.data.toList=Cp.aV d)(h:d.k=1→∀h∈d.gs,¬Mine me aU h):Clean me aU u:=by
 refine⟨?_,fun c hc hk=>?_⟩
 ·have:=Ct hm;rw[←hu,ZO] at this;exact this
 ·rw[hu,Cp.kV (by have:=(Cp.yG hm).2;omega) (Cp.pU hm)] at hc;injection hc with hc _
  subst hc;exact h hk
theorem oI (me:Int)(aU:List (List Int))(i:Int)(n:Nat):zK (yE me aU i) n:=
 ⟨fun g v h=>⟨h.2.2.1,h.1,h.2.1,clean_nil⟩,fun g v h=>⟨h.1,h.2.1,clean_nil⟩,
  fun g v c h hc hk d u hd hdk hu=>⟨h.1,h.2.1,oM hd hu fun e=>absurd (hdk.symm.trans e) (by decide)⟩,
  fun g v c h hc hk q hq hn d u hd hdk hgs hu=>⟨h.1,h.2.2.2 c hc hk _ hq,oM hd hu fun _=>by rw[hgs];exact h.2.2.2 c hc hk⟩⟩
structure vI (me:Int)(aU:List (List Int))(m:bS):Prop where
 wf:gN m
 ok:m.k=7∨m.f≠me∧m.t≠me∧¬Mine me aU m.g∧Clean me aU m.v
def Tn (me:Int)(T:Nat)(i:Int):Nat:=if i=me then 0 else T
theorem TN {T:Nat}{i:Int}(h:T≤T'):Tn me T i≤Tn me T' i:=by
 unfold Tn
 split
 ·exact Zh _
 ·exact h
theorem Vg {T:Nat}{i:Int}:Tn me T i≤T:=by
 unfold Tn
 split
 ·exact Zq _
 ·exact Zh _
structure eO (me:Int)(aU:List (List Int))(T:Nat)(i:Int)(n:eP):Prop where
 inn:kr (yE me aU i) (Tn me T i) n
 Ws:n.b.me=i
 Pm:n.up=true→n.b.aU=aU
 ho:∀m∈n.h.l,vI me aU m∧m.f=i
theorem jJ.more {T:Nat}{x:jl}(h:jJ Pg T x)(hT:T≤T'):jJ Pg T' x:=⟨h.se,h.ti,Zt h.tl hT⟩
theorem eO.more {aU:List (List Int)}{T:Nat}{i:Int}{n:eP}(h:eO me aU T i n)(hT:T≤T'):eO me aU T' i n:=
 ⟨⟨h.inn.b.more (TN hT),h.inn.k,h.inn.h⟩,h.Ws,h.Pm,h.ho⟩
theorem eO.same {aU:List (List Int)}{T:Nat}{i:Int}{n y:eP}(h:eO me aU T i n)(s:pY y n):eO me aU T i y:=
 ⟨⟨h.inn.b.same s.b,by rw[s.k];exact h.inn.k,by rw[s.h];exact h.inn.h⟩,s.b.me.trans h.Ws,fun e=>s.b.aU.trans (h.Pm (s.up▸e)),by rw[s.h];exact h.ho⟩
theorem eO.Yi {aU:List (List Int)}{T:Nat}{i:Int}{n y:eP}(h:eO me aU T i n)(s:ze (yE me aU i) (Tn me T i) n y)(hr:y.up=true→y.b.aU=aU):eO me aU T i y:=
 ⟨s.inn,s.me.trans h.Ws,hr,fun m hm=>h.ho m (s.ho m hm)⟩
theorem eO.step {aU:List (List Int)}{T:Nat}{i:Int}{n y:eP}{A:bS→Prop}(h:eO me aU T i n)(hA:∀m,A m→vI me aU m∧m.f=i)(s:NI (yE me aU i) A (Tn me T' i) n y):eO me aU T' i y:=by
 have hros:y.b.aU=aU:=s.aU.trans (h.Pm s.up.1);have hme:y.b.me=i:=s.me.trans h.Ws;refine⟨s.inn,hme,fun _=>hros,fun m hm=>?_⟩
 rcases s.ho m hm with h1|h1|h1
 ·exact h.ho m h1
 ·obtain⟨e1,e2,⟨k,r,e3,e4,e5⟩,e6⟩:=h1;rw[hme] at e1;rw[hros] at e4;refine⟨⟨e6,e2.imp_right fun p=>⟨e1▸p.1,fun e=>p.2.1 ⟨k,r,e3,e4,e▸e5⟩,p.2.1,p.2.2⟩⟩,e1⟩
 ·exact hA m h1
theorem U8 {aU:List (List Int)}{i:Int}{m m':bS}(hm:vI me aU m)(h:rY (yE me aU i) i m m'):vI me aU m'∧m'.f=i:=by
 obtain⟨h1,h2,h3,h4,h5⟩:=h;have h6:=hm.ok.resolve_left (by omega);exact⟨⟨h5,Or.inr ⟨h1▸h3.1,by rw[h2];exact h6.1,h3.2.1,h3.2.2⟩⟩,h1⟩
structure iM (me:Int)(aU:List (List Int))(T:Nat)(c:jH):Prop where
 no:∀(k:Nat) (n:eP),c.no.l[k]?=some n→eO me aU T (k:Int) n
 ma:∀m∈c.ma.l,vI me aU m
 all:c.all.l.map (fun g=>g.r.l)=aU
structure Ho (c:jH):Prop where
 n:1≤c.no.l.length∧c.no.l.length≤6
 ma:∀m∈c.ma.l,0≤m.t∧m.t<(c.no.l.length:Int)
theorem Ub {m:bS}(hw:gN m):kH m.wp:=by
 have hv:m.v.size=m.v.data.toList.length:=by rw[ZO];rfl
 have:=hw.v;exact⟨hw.k,(by show m.v.data.toList.length≤_;omega),hw.f,hw.t,hw.g,hw.s,hw.b,hw.p,hw.i,hw.tm⟩
theorem Ja {l:List bS}(h:∀m∈l,gN m):∀m∈l.map bS.wp,kH m:=fun m hm=>by
 obtain⟨x,hx,rfl⟩:=ZA.1 hm;exact Ub (h x hx)
theorem Ia {s:Sl bS}(h:s.aA w B N):Reads w B 10 s.A s.l.length (cm (s.l.map bS.wp)):=by
 have:=h.1;unfold Sl.row at this;rwa[yC] at this
theorem RF {l:List bS}(h:(l.map bS.wp).any oD=false):∀m∈l,xB m:=fun m hm=>by
 refine Jc ?_;have h2:=List.any_eq_false.1 h m.wp (aaq hm);simpa[oD] using h2
theorem Uw {l:List bS}(h:nW (l.map bS.wp)=true):l.length≤4096∧∀m∈l,xB m:=by
 unfold nW at h;rw[Zr] at h;exact⟨by simpa using h.1,RF (by simpa using h.2)⟩
theorem Db (s:Sl bS)(w:World)(hs:s.aA w w 5000)(hw:∀m∈s.l,gN m) :
  Calls prog 42 #[s] w fun e w'=>∃v:Int,e=.returned v∧Hid (v=0→s.l.length≤4096∧∀m∈s.l,xB m)∧Below w w w':=by
 have hn:=hs.2.2.2.1;refine(IL s.A s.l.length s.c (s.l.map bS.wp) w _ rfl (Ia hs) (Ja hw) (by omega)).mono fun e w' ⟨h1,h2⟩=>⟨_,h1,L_ fun h0=>?_,h2⟩;cases hq:nW (s.l.map bS.wp)
 ·rw[hq] at h0;simp at h0
 ·exact Uw hq
theorem QL {c n:Nat}{l:List bS}(h:w'.ownsRow w 62 10 (.slice A n c) n (cm (l.map bS.wp)))(hb:Below w w w')(hn:l.length≤5000):n=l.length∧Env w w [] [own (⟨A,c,l⟩:Sl bS) 5000] w':=by
 have e:n=l.length:=by have:=h.1;rw[qj,Z5] at this;omega
 subst e;refine⟨rfl,(Env.start w).sH hb (x:=(⟨A,c,l⟩:Sl bS)) ⟨?_,hn,fun _ _=>trivial⟩⟩;show w'.ownsRow _ _ 10 (.slice A l.length c) l.length (l.flatMap aj.cs);rw[yC];exact h
theorem TL {P:Program}{is:List It}(k:Nat){cs:List Value}(E:Env b w0 bx is w)(h:R (.returned (.tuple #[v1,.agg cs.toArray,v2])) w)(hr:fn.results=#[.tmp j1,.cell i ty,.tmp j2]:=by rfl)(hd:a.defers=[]:=by rfl)(hx:a.tmps[i]?.getD undef=.pointer (some ⟨g,0,none⟩):=by rfl)(h1:a.tmps[j1]?.getD undef=v1:=by rfl)(h2:a.tmps[j2]?.getD undef=v2:=by rfl)(hk:bx[k]?=some (g,t,cs):=by rfl)(hu:bq P ty=false:=by kernel_rfl)(hs:(P.info? ty).map (·.size)=some cs.length:=by kernel_rfl)(hn:(P.underlying ty).isSome=true:=by kernel_rfl):bodyPost P fn R .ret a w:=
 aaT (v:=.tuple #[v1,.agg cs.toArray,v2]) (by simp[results,hr,hx,h1,h2,asAddr,QE k E hk hu hs hn]) hd h
theorem Env.fits {is:List It}{o:Sl bS}(E:Env b w0 bx (own o N::is) w)(h:o.l.length≤M):Env b w0 bx (own o M::is) w:=E.less 0 (i:=own o N) (i':=own o M) fun h2=>⟨(show Sl.Own w b N o from h2).1,h,fun _ _=>trivial⟩
theorem Wv (s r:Sl bS)(w:World)(hs:s.aA w w 5000)(hr:r.aA w w 5000)(hw:∀m∈s.l,gN m)(hw2:∀m∈r.l,gN m) :
  Calls prog 65 #[s,r] w fun e w'=>∃(o:Sl bS) (v:Int),e=.returned (.tuple #[o,v])∧Hid (∀m∈o.l,m∈s.l∨m∈r.l)∧Env w w [] [own o 5000] w':=by
 have a1:=hs.2.2.2.1;have a2:=hr.2.2.2.1;have HS:=L_ hs;have HR:=L_ hr;have HW:=L_ hw;have HW2:=L_ hw2;clear hs hr hw hw2;have E:=Env.start w
 go_enter func65,ntmps65
 refine G0 [5,0,0,4,18,6,5,0] ?_;refine ah (Db s _ HS HW) ?_;rintro _ w2 ⟨v,rfl,-,hb⟩;replace E:=E.up hb;clear hb;refine G0 [26] ?_
 by_cases h1:(v !=0)=true
 case pos=>
  refine G0 [0,0,4,7,15,7,5,0,0,4,22,24] ?_;exact Fu ⟨⟨none,0,[]⟩,8,rfl,L_ (fun m hm=>by cases hm),E.aO⟩
 replace h1:(v !=0)=false:=by simpa using h1
 refine G0 [0,0,4,8,23,0] ?_;refine ah (l8 r.A _ r.c (r.l.map bS.wp) _ _ rfl (Ia (E.l HR)) (Ja HW2) (by omega)) ?_;rintro _ w3 ⟨rfl,hb⟩;replace E:=E.up hb;clear hb;obtain⟨q,hq⟩:∃q,(r.l.map bS.wp).any oD=q:=⟨_,rfl⟩;rw[hq];clear hq;refine G0 [26] ?_;cases q
 case true=>
  refine G0 [0,4,7,5,0,0,4,22,24] ?_;exact Fu ⟨⟨none,0,[]⟩,8,rfl,L_ (fun m hm=>by cases hm),E.aO⟩
 case false=>
  refine G0 [0,4,8] ?_;have hw1:IntKind.i64.wrap ((s.l.length:Int)+(r.l.length:Int))=(s.l.length:Int)+(r.l.length:Int):=aaP _ (by omega);refine G0 [5,83] ?_
  by_cases h2:(4096:Int)<(s.l.length:Int)+(r.l.length:Int)
  case pos=>
   refine G0 [0,0,4,7,5,0,0,4,22,24] ?_;exact Fu ⟨⟨none,0,[]⟩,9,rfl,L_ (fun m hm=>by cases hm),E.aO⟩
  case neg=>
   refine GD E [0,0,4,8,21,5,0,0,72,3,9] ?_;clear E;intro g21 w4 E;refine ah (JZ g21 s r _ 5000 5000 (E.c 0 0) (E.c 0 1) (E.l HS) (E.l HR) (by decide)) ?_;rintro _ w5 ⟨o,rfl,ho,F⟩;replace E:=E.call F;clear F;refine G0 [26,0,0,4,22] ?_;exact Fu ⟨o,0,rfl,L_ (by rw[ho.out];exact fun m hm=>Zm.1 hm),(E.fits (by rw[ho.out,Zn];omega)).drop 1⟩
def Qw:bS:=⟨0,0,0,0,0,0,0,⟨#[]⟩,0,0⟩
theorem Xa (s:Sl bS)(k:Int)(w:World)(hs:s.aA w w 5000)(hw:∀m∈s.l,gN m) :
  Calls prog 95 #[s,k] w fun e w'=>∃(m:bS) (v:Int),e=.returned (.tuple #[m,v])∧Hid (v=0→m∈s.l∧0≤k∧k<(s.l.length:Int))∧Below w w w':=by
 have a1:=hs.2.2.2.1;have HS:=L_ hs;have HW:=L_ hw;clear hs hw;have E:=Env.start w
 go_enter func95,ntmps95
 refine GD E [5,70,3,0,4,6,5,0,9] ?_;clear E;intro g4 w2 E;refine ah (Db s _ (E.l HS) HW) ?_;rintro _ w3 ⟨v,rfl,-,hb⟩;replace E:=E.up hb;clear hb;refine G0 [26] ?_
 by_cases h1:(v !=0)=true
 case pos=>
  refine GD E [0,4,5,0,0,4,7,5,0,0,60,0,4,22,24,9] ?_;clear E;intro w4 E;exact aI 0 E ⟨Qw,v,rfl,L_ (fun h=>by rw[h] at h1;exact absurd h1 (by decide)),E.aD⟩
 replace h1:(v !=0)=false:=by simpa using h1
 refine G0 [0,4,5,0,0,4,8,15,6,5,0] ?_
 by_cases hk0:k<0
 case pos=>
  refine GD E [0,0,1,2,2,2,2,4,7,5,0,60,0,4,22,24,9] ?_;clear E;intro w5 E;exact aI 0 E ⟨Qw,2,rfl,L_ (fun h=>absurd h (by decide)),E.aD⟩
 case neg=>
  refine G0 [83] ?_
  by_cases hk1:(s.l.length:Int)≤k
  case pos=>
   refine GD E [0,0,4,7,5,0,60,0,4,22,24,9] ?_;clear E;intro w6 E;exact aI 0 E ⟨Qw,2,rfl,L_ (fun h=>absurd h (by decide)),E.aD⟩
  case neg=>
   refine G0 [0,0,4,8,15] ?_;obtain⟨j,rfl⟩:∃j:Nat,k=(j:Int):=⟨k.toNat,by omega⟩;obtain⟨A,c,l⟩:=s;obtain⟨bb,off,m,hA,hbl,hm,hcc,_⟩:=HS.get (k:=j) (by simp only at hk1 ⊢;omega);simp only at hA hm;subst hA;replace hcc:=L_ hcc;have hm2:=L_ (Zk hm);clear hm;have hk2:j<l.length:=by simp only at hk1;omega
   refine G0 [5,84] ?_;refine fA m (fun i u hu=>(E.aD.cell (by exact hbl)).trans (hcc i u hu)) ?_;refine GD E [60,0,4,22,9] ?_;clear E;intro w7 E;exact aI 0 E ⟨m,0,rfl,L_ (fun _=>⟨hm2,by omega,by simp only;omega⟩),E.aD⟩
theorem Xd (s:Sl bS)(k:Int)(w:World)(hs:s.aA w w 5000)(hw:∀m∈s.l,gN m) :
  Calls prog 47 #[s,k] w fun e w'=>∃(o:Sl bS) (m:bS) (v:Int),e=.returned (.tuple #[o,m,v])∧Hid (v=0→m∈s.l)∧Hid (∀x∈o.l,x∈s.l)∧Env w w [] [own o 5000] w':=by
 have a1:=hs.2.2.2.1;have HS:=L_ hs;have HW:=L_ hw;clear hs hw;have E:=Env.start w
 go_enter func47,ntmps47
 refine GD E [5,0,70,3,0,4,5,0,0,9] ?_;clear E;intro g5 w2 E;refine ah (Xa s k _ (E.l HS) HW) ?_;rintro _ w3 ⟨m,v,rfl,hv,hb⟩;replace E:=E.up hb;clear hb;refine G0 [26] ?_
 by_cases h0:v=0
 case neg=>
  refine GD E [84,70,3,60,0,4,6,5,0,0,4,7,5,84,61,0,4,22,24,9] ?_;clear E;intro g7 w6 E;exact TL 1 E ⟨⟨none,0,[]⟩,Qw,v,rfl,L_ (fun h=>absurd h h0),L_ (fun m hm=>by cases hm),(E.drop 2).aO⟩
 subst h0;refine GD E [84,70,3,60,0,4,6,5,0,0,4,8,15,9] ?_;clear E;intro g7 w8 E;replace hv:=L_ (hv rfl);obtain⟨j,hj⟩:∃j:Nat,k=(j:Int):=⟨k.toNat,by have:=hv.out;omega⟩;have hjl:j<s.l.length:=by have:=hv.out;omega
 subst hj;replace E:=E.fZ;refine bP 1 5 [] (aaL [0,1,3]++aaN [2]++aaL [4]) E ?_;clear E;intro w9 E;refine GD E [32,32] ?_;refine gZ 0 10 E ?_;refine bT ((Du s.A s.l.length s.c j (s.l.map bS.wp) _ (Ia (E.l HS)) HS.2.1 hjl (by omega))) ?_;rintro _ w10 ⟨A,c,rfl,ho,hb⟩;rw[←List.map_take,←List.map_drop,←aag] at ho;obtain⟨e4,F⟩:=QL ho hb (by rw[Zn,Zw,ZK];omega);obtain⟨L,hL⟩:∃L,s.l.take j++s.l.drop (j+1)=L:=⟨_,rfl⟩;rw[hL] at e4 F;rw[e4];replace E:=E.call F;replace hL:=L_ hL;clear ho F hb e4;refine⟨_,rfl,(E.drop 1).weak,D_n ?_⟩;refine GD E [32,29,60,0,4,22,9] ?_;clear E;intro w11 E;exact TL 0 E ⟨⟨A,c,L⟩,m,0,rfl,L_ (fun _=>hv.1),L_ (fun x hx=>(Zm.1 (hL.symm▸hx)).elim aaE List.mem_of_mem_drop),E.drop 2⟩
theorem zN:∀args w,(callFunc 39 args).run prog w=.ok (.enter 39 args) w:=enters_of func39 (by kernel_rfl) rfl
theorem UU (g n:Nat)(x:Int)(w:World)(hb:aF w g 3 #[(n:Int)]):Calls prog 39 #[x,g] w fun e w'=>∃c,e=.returned (.bool c)∧True∧Below w w w':=by
 have HB:=L_ hb;have hlt:=hb.lt;clear hb;have E:=Env.start w
 go_enter func39,ntmps39
 refine G0 [5,0,4,5,0] ?_;refine bQ ((E.aD.cell (p:=⟨g,0,none⟩) hlt).trans (HB.cell 0)) ?_;refine G0 [0,0,4,22] ?_;exact ak ⟨_,rfl,trivial,E.aD⟩
theorem BQ:∀args w,(callFunc 37 args).run prog w=.ok (.enter 37 args) w:=enters_of func37 (by kernel_rfl) rfl
theorem Yb (g n:Nat)(x:gT)(w:World)(hb:aF w g 3 #[(n:Int)])(hl:au.aA w w 1000 x):Calls prog 37 #[x,g] w fun e w'=>∃c,e=.returned (.bool c)∧True∧Below w w w':=by
 have HB:=L_ hb;have HL:=L_ hl;clear hb hl;have E:=Env.start w
 go_enter func37,ntmps37
 refine GD E [5,71,3,0,4,5,0,40,0,9] ?_;clear E;intro g2 w2 E;refine ah (mH x.r (fun _ _=>True) 39 zN #[g] _ 1000 (E.h HL).1 (by decide) (fun y hy w' hb=>UU g n y w' ((HB.below E.aD HB.lt).below hb (HB.below E.aD HB.lt).lt))) ?_;rintro _ w3 ⟨b,rfl,-,-,hb⟩;replace E:=E.up hb;clear hb;refine G0 [26,0,4,22] ?_;exact ak ⟨b,rfl,trivial,E.aD⟩
theorem Je (all:Sl gT)(n:Nat)(w:World)(hl:all.aA w w 1000):Calls prog 12 #[all,(n:Int)] w fun e w'=>∃c:Bool,e=.returned c∧Below w w w':=by
 have HL:=L_ hl;clear hl;have E:=Env.start w
 go_enter func12,ntmps12
 refine GD E [5,71,3,0,4,5,0,0,9] ?_;clear E;intro g3 w2 E;refine ah (uV all (fun _ _=>True) 37 BQ #[g3] _ 1000 (E.l HL) (by decide) (fun y hy w' hb=>Yb g3 n y w' ((E.blk 0 rfl).below hb (E.blk 0 rfl).lt) (au.aS (((E.l HL).up hb).2.2.2.2 y hy) (Zh _) (Zh _)))) ?_;rintro _ w3 ⟨b,rfl,-,-,hb⟩;replace E:=E.up hb;clear hb;refine G0 [26,0,0,4,22] ?_;exact ak ⟨_,rfl,E.aD⟩
theorem FD:∀args w,(callFunc 92 args).run prog w=.ok (.enter 92 args) w:=enters_of func92 (by kernel_rfl) rfl
theorem Ym (t u:gT)(w:World)(N:Nat)(ht:au.aA w w N t)(hu:au.aA w w N u)(hN:N≤1000000):Calls prog 92 #[t,u] w fun e w'=>∃b,e=.returned (.bool b)∧Below w w w':=by
 have HT:=L_ ht;have HU:=L_ hu;clear ht hu;have E:=Env.start w
 go_enter func92,ntmps92
 refine GD E [5,71,3,71,3,0,4,5,0,41,0,40,9] ?_;clear E;intro g2 g3 w3 E;refine ah (eZ t.r u.r _ N (E.h HT).1 (E.h HU).1 (by omega)) ?_;rintro _ w4 ⟨b,rfl,hw⟩;replace E:=E.up hw;clear hw;refine G0 [26] ?_;cases b
 case false=>
  refine G0 [0,1,80,2,4,22] ?_;exact ak ⟨false,rfl,E.aD⟩
 refine GD E [0,0,41,0,40] ?_;refine ah (eZ t.m u.m _ N (E.h HT).2 (E.h HU).2 (by omega)) ?_;rintro _ w5 ⟨b,rfl,hw⟩;replace E:=E.up hw;clear hw;refine G0 [26,0,0,4,22] ?_;exact ak ⟨b,rfl,E.aD⟩
theorem YI (t u:Sl gT)(w:World)(N:Nat)(ht:t.aA w w N)(hu:u.aA w w N)(hN:N≤1000000):Calls prog 44 #[t,u] w fun e w'=>∃b:Bool,e=.returned b∧Below w w w':=by
 have HT:=L_ ht;have HU:=L_ hu;clear ht hu;have E:=Env.start w
 go_enter func44,ntmps44
 refine G0 [5,0,4,5,0,0] ?_;refine ah (q9 t u 92 FD #[] _ N (E.l HT) (E.l HU) (by omega) (fun x hx y hy w' hb=>Ym x y w' N (((E.l HT).up hb).2.2.2.2 x hx) (((E.l HU).up hb).2.2.2.2 y hy) hN)) ?_;rintro _ w2 ⟨b,rfl,hw⟩;replace E:=E.up hw;clear hw;refine G0 [26,0,4,22] ?_;exact ak ⟨b,rfl,E.aD⟩
end
end Go.Proofs.YtaebfkcgdmodlaaGreatDoor
