/-
  A part of the proof that the erased node of towncrier reads nothing (TopErased).
-/
import Derived.Test.YtaebfkcgdmodlaaGreatDoorJ05
namespace Go.Proofs.YtaebfkcgdmodlaaGreatDoor
open Go.RowKit Go.Proofs.Tryz
set_option maxHeartbeats 16000000
set_option maxRecDepth 100000
set_option linter.unusedVariables false
set_option linter.unusedSimpArgs false
variable{B N k:Nat}{w:World}
section
attribute [local irreducible] wpList av aH
theorem Yj (x:zx)(w:World):Calls prog 210 #[x] w fun e w'=>∃v:Int,e=.returned v∧(v=0→0≤x.i∧x.i<6291456)∧Below w w w':=by
 have E:=Env.start w
 go_enter func210,ntmps210
 refine GD E [5,71,3,0,4,6,5,0,40,9] ?_;clear E;intro g1 w2 E
 by_cases h1:x.t<0
 case pos=>
  refine G0 [0,0,1,81,2,2,2,4,7,5,0,4,22,24] ?_;exact ak ⟨8,rfl,fun h=>absurd h (by decide),E.aD⟩
 refine GD E [84,40] ?_
 by_cases h2:1073741824<x.t
 case pos=>
  refine G0 [84,1,80,2,2,2,4,7,5,0,4,22,24] ?_;exact ak ⟨8,rfl,fun h=>absurd h (by decide),E.aD⟩
 refine GD E [84,0,40] ?_
 by_cases h3:x.i<0
 case pos=>
  refine G0 [84,1,1,1,0,4,7,5,0,4,22,24] ?_;exact ak ⟨8,rfl,fun h=>absurd h (by decide),E.aD⟩
 refine GD E [84,0,40] ?_
 by_cases h4:6291456≤x.i
 case pos=>
  refine G0 [0,0,4,7,5,0,4,22,24] ?_;exact ak ⟨8,rfl,fun h=>absurd h (by decide),E.aD⟩
 refine G0 [0,0,4,8,15,5,0,4,22] ?_;exact ak ⟨0,rfl,fun _=>⟨by omega,by omega⟩,E.aD⟩
def F5:MP:=fun i gs t k b=>i64 i∧i64 t∧(∀g∈gs,i64 g)∧k.size≤4096∧b.size≤4096
def sU.hc (m:sU):HC:=⟨0,m.i,m.g.A,m.g.l.length,m.g.c,m.g.l,m.t,m.key,m.body,0,0,none,0,0,[],0,0,0⟩
theorem sU.at_ {m:sU}(h:m.g.aA w B N)(hm:m.is F5):bK w B m.hc:=by
 obtain⟨h1,h2,h3,h4,h5⟩:=hm;have hz:i64 0:=by unfold i64;omega
 have hc:=h.2.2.1;unfold maxLen at hc;exact⟨by have:=h.1;rw[fF] at this;exact this,Reads.none_,h.2.1,Zt hc (by decide),Zh _,Zq _,(show(0:Int)≤0∧(0:Int)≤255 by decide),Zt h4 (by decide),Zt h5 (by decide),h3,(fun x hx=>by cases hx),h1,h2,hz,hz,hz,hz,hz⟩
theorem JA {m:sU}(h:Cp.lS m.hc.cmd=true):0≤m.i∧m.i≤1099511627776:=by
 rw[Cp.BJ] at h;simp only[Zr] at h;have h1:=h.2.1;unfold Wp.mY at h1;have h2:=aae h1;have h3:m.hc.cmd.mi=m.i:=rfl;rw[h3] at h2;omega
theorem V9 (m:sU)(w:World)(N:Nat)(h:m.g.aA w w N)(hm:m.is F5):Calls prog 195 #[m] w fun e w'=>∃v:Int,e=.returned v∧Hid (v=0↔Cp.lS m.hc.cmd=true)∧Below w w w':=
 (ru m.hc w (m.at_ h hm) _ rfl).mono fun e w' ⟨h1,h2⟩=>⟨_,h1,L_ (by unfold LV;split<;>simp_all),h2⟩
def Xq (X:iW):Prop:=(0≤X.ck∧X.ck≤1073741824)∧X.wa.l.length≤200∧X.dn.l.length≤200∧vV X.wa.l
structure uY (X:iW):Prop where
 ck:0≤X.ck∧X.ck≤1073741824
 dn:X.dn.l=[]
 wa:X.wa.l=[]∨∃x,X.wa.l=[x]∧Cp.lS x.m.hc.cmd=true∧1≤x.t∧x.t≤X.ck∧x.f=false
theorem uY.at_ {X:iW}(h:uY X){y:dI}(hy:X.wa.l[k]?=some y):k=0∧Cp.lS y.m.hc.cmd=true∧1≤y.t∧y.t≤X.ck∧y.f=false:=by
 rcases h.wa with e|⟨x,e,h1⟩
 ·rw[e] at hy;cases hy
 ·rw[e] at hy;have hk:k<1:=(Zo.1 hy).1;obtain rfl:k=0:=by omega
  have:x=y:=by simpa using hy
  subst this;exact⟨rfl,h1⟩
def iP (X:iW)(v:Int):Prop:=(v=0→Xq X)∧(uY X→v=0)
theorem iP.no {X:iW}(h:¬uY X):iP X 8:=⟨fun h=>absurd h (by decide),fun h2=>absurd h2 h⟩
theorem Qi {l:List dI}{x:dI}(h:vV (l.take k))(hx:l[k]?=some x)(hi:0≤x.m.i∧x.m.i≤1099511627776)(hp:∀y,0<k→l[k - 1]?=some y→y.m.i<x.m.i):vV (l.take (k+1)):=by
 have hk:=(Zo.1 hx).1;rw[ZP,hx,aaz];refine⟨List.pairwise_append.2 ⟨h.1,by simp,fun a ha c hc=>?_⟩,fun y hy=>?_⟩
 ·rw[Zp.1 hc];obtain⟨i,hil,rfl⟩:=aaC ha;rw[Zw] at hil;have e:=hp l[k - 1] (by omega) (Zl (by omega))
  rcases aaA i (k - 1) with h5|h5
  ·have:=h.lt (i:=i) (j:=k - 1) h5 (Zl (by rw[Zw];omega)) (y:=l[k - 1]) (by rw[List.getElem?_take_of_lt (by omega)];exact Zl _);omega
  ·obtain rfl:i=k - 1:=by omega
   rw[List.getElem_take];exact e
 ·rcases Zm.1 hy with hy|hy
  ·exact h.2 y hy
  ·rw[Zp.1 hy];exact hi
theorem KL (mi:Int)(g:Value)(mt:Int)(mk mb:ByteArray)(xt:Int)(xf:Bool)(w:World):(Instr.field 202 (.agg #[mi,g,mt,mk,mb,xt,xf]) 2).run prog w=.ok xf w:=by
 first
 |kernel_rfl
 |rfl
theorem Nk (X:iW)(w:World)(N:Nat)(hl:au.aA w w N X)(hN:N≤100000)(hM:∀x∈X.wa.l,x.m.is F5) :
  Calls prog 142 #[X] w fun e w'=>∃v:Int,e=.returned v∧iP X v∧Below w w w':=by
 have HL:=L_ hl;have HM:=L_ hM;have hwn:X.wa.l.length≤N:=hl.1.2.2.2.1;have hdn:X.dn.l.length≤N:=hl.2.2.2.2.1;clear hl hM;have E:=Env.start w
 go_enter func142,ntmps142
 refine GD E [5,71,3,0,4,6,5,0,40,9] ?_;clear E;intro g1 w2 E
 by_cases h1:X.ck<0
 case pos=>
  refine G0 [0,0,1,81,80,4,7,5,0,4,22,24] ?_;exact ak ⟨8,rfl,iP.no fun h=>(by have:=h.ck;omega),E.aD⟩
 refine GD E [84,40] ?_
 by_cases h2:1073741824<X.ck
 case pos=>
  refine G0 [84,1,81,4,7,5,0,4,22,24] ?_;exact ak ⟨8,rfl,iP.no fun h=>(by have:=h.ck;omega),E.aD⟩
 refine GD E [84,0,40,0] ?_
 by_cases h3:200<(X.wa.l.length:Int)
 case pos=>
  refine G0 [84,1,2,2,2,2,4,7,5,0,4,22,24] ?_;exact ak ⟨8,rfl,iP.no fun h=>(by rcases h.wa with e|⟨x,e,-⟩<;>rw[e] at h3<;>simp at h3),E.aD⟩
 refine GD E [84,0,40,0] ?_
 by_cases h4:200<(X.dn.l.length:Int)
 case pos=>
  refine G0 [0,0,4,7,5,0,4,22,24] ?_;exact ak ⟨8,rfl,iP.no fun h=>(by rw[h.dn] at h4;simp at h4),E.aD⟩
 refine G0 [0,0,4,8,15,5] ?_;refine Uk E ?_;clear E;intro g3 w3 E;refine GD E [0,4,5,70,3,4,6,5,0,41,0,0,4,19,9] ?_;clear E;intro g4 w4 E;have HC:Hid ((0≤X.ck∧X.ck≤1073741824)∧X.wa.l.length≤200∧X.dn.l.length≤200):=L_ (by omega);clear h1 h2 h3 h4
 go_loopw [33] (fun y wr=>∃(k:Nat) (la:zx),y=(k:Int)∧k≤X.dn.l.length∧Env w w [(g4,290,la),(g1,69,X)] [Ai g3 k] wr) (fun y _=>X.dn.l.length - (intOf y).toNat)
 case atStart=>exact⟨0,⟨0,0⟩,rfl,Zq _,E⟩
 case round=>
  clear E;obtain⟨k,la,rfl,hk,E⟩:=hrel
  by_cases hlt:k<X.dn.l.length
  case pos=>
   have hw:IntKind.i64.wrap ((k:Int)+1)=((k+1:Nat):Int):=by rw[aaP _ (by omega)];rfl
   obtain⟨bb,off,y,hA,-,-,hcc,-⟩:=(E.h HL).2.get (k:=k) hlt;replace hcc:=L_ hcc;have HNO:Hid (iP X 8):=L_ (iP.no fun h=>by rw[h.dn] at hlt;cases hlt);refine G0 [5,0,4,16,15,18,5,0,0] ?_;refine fA y hcc ?_;clear hcc hA;refine GD E [70,3,0,60,4,6,5,9] ?_;clear E;intro g6 w6 E;refine aB 0 2 E ?_;refine ah (Yj y _) ?_;rintro _ w7 ⟨v,rfl,hv,hb⟩;replace E:=E.up hb;clear hb;replace hv:=L_ hv;refine G0 [26] ?_
   by_cases h0:(v !=0)=true
   case pos=>
    refine G0 [0,0,1,82,80,2,2,4,7,5,0,4,22,24] ?_;exact ak ⟨8,rfl,HNO,E.aD⟩
   replace h0:(v !=0)=false:=by simpa using h0
   refine G0 [84] ?_;obtain rfl:v=0:=by simpa using h0
   clear h0;refine mU 0 E ?_
   by_cases c1:y.t<1
   case pos=>
    refine G0 [84,1,82,2,2,4,7,5,0,4,22,24] ?_;exact ak ⟨8,rfl,HNO,E.aD⟩
   refine GD E [84,0,40,0,42] ?_
   by_cases c2:X.ck<y.t
   case pos=>
    refine G0 [84,1,81,80,4,7,5,0,4,22,24] ?_;exact ak ⟨8,rfl,HNO,E.aD⟩
   refine G0 [84,0] ?_;have HI:Hid (i64 y.i):=L_ (by have:=hv rfl;exact⟨by omega,by omega⟩);clear c1 c2 hv
   by_cases h0:0<k
   case' pos=>
    have h1:((0:Int)<(k:Int)):=by omega
    refine G0 [0,0] ?_;refine oC 1 2 E ?_;refine oC 0 2 E ?_;refine ah (tV la y _) ?_;rintro _ w8 ⟨rfl,hb⟩;replace E:=E.up hb;clear hb;refine G0 [26] ?_;obtain⟨q,hq⟩:∃q,decide (uF (bZ la.t y.t) (bZ la.i y.i)<0)=q:=⟨_,rfl⟩;rw[hq];clear hq;cases q
    case false=>
     refine G0 [84,0,1,80,4,7,5,0,4,22,24] ?_;exact ak ⟨8,rfl,HNO,E.aD⟩
    case' true=>
     refine GD E [83,0,40] ?_;clear h1 h0
   case' neg=>
    have h1:¬((0:Int)<(k:Int)):=by omega
    refine GD E [0,0,1,1,1,1,83,40] ?_;clear h1 h0
   all_goals
    refine V5 0 E HI ?_;intro c hc;clear hc
    by_cases c3:0<c
    case pos=>
     refine G0 [0,0,4,7,5,0,4,22,24] ?_;exact ak ⟨8,rfl,HNO,E.aD⟩
    refine G0 [0,0,4,8,15] ?_;clear c3;refine ng 0 5 [] (aaL [0,1,2,3]++aaN [4]) E ?_;clear E;intro w10 E;refine GD E [32,32,50] ?_;refine gZ 0 2 E ?_;refine Xw 0 E HI ?_;clear E;intro w11 E;refine GD E [29,61,20,23,0,0,9] ?_;clear E;intro w12 E;refine jI ?_
    go_roundw
    case rel=>exact⟨k+1,y,rfl,hlt,E.drop 1⟩
    case measure=>simp[intOf];omega
  case neg=>
   refine G0 [5,0,4,17,27,28,6,5] ?_;have hk0:Hid (X.dn.l=[]→k=0):=L_ (fun h=>by rw[h] at hk;simpa using hk);have hkn:k≤200:=by have:=HC.out;omega
   clear hlt hk;refine GD E [0,41,0,0,4,19] ?_
   go_loopw [78] (fun y wr=>∃(j:Nat),y=(j:Int)∧j≤X.wa.l.length∧Hid (vV (X.wa.l.take j))∧Env w w [(g4,290,la),(g1,69,X)] [Ai g3 k] wr) (fun y _=>X.wa.l.length - (intOf y).toNat)
   case atStart=>exact⟨0,rfl,Zq _,L_ ⟨by simp,by simp⟩,E⟩
   case round=>
    clear E;obtain⟨j,rfl,hj,HS,E⟩:=hrel
    by_cases hlt:j<X.wa.l.length
    case pos=>
     have hw:IntKind.i64.wrap ((j:Int)+1)=((j+1:Nat):Int):=by rw[aaP _ (by omega)];rfl
     obtain⟨bb,off,y,hA,-,hy,hcc,-⟩:=(E.h HL).1.get (k:=j) hlt;replace hcc:=L_ hcc;have HY:=L_ hy;have HG:=L_ (HM y (Zk hy));clear hy;refine G0 [5,0,4,16,15,18,5,0,0] ?_;refine fA y hcc ?_;refine GD E [70,3,0,60,9] ?_;clear E;intro g8 w14 E;refine aC (bP 0 51 [] (aaL [0,1]++aaN [2]++aaL [3,4,5,6,7,8,9,10,11,12,13,14,15,16,17,18,19,20,21,22,23,24,25,26,27,28,29,30,31,32,33,34,35,36,37,38]++aaN [39]++aaL [40,41,42,43,44,45,46,47,48,49]++aaN [50]) E ?_);clear E;intro w15 E;refine ni E ?_;refine gZ 0 5 E ?_;refine bT (V9 y.m _ N ((E.h HL).1.2.2.2.2 y (Zk HY)) HG) ?_;rintro _ w16 ⟨v,rfl,hv,hb⟩;replace E:=E.up hb;clear hb;refine⟨_,rfl,E.weak,D_n ?_⟩
     by_cases c0:(v !=0)=true
     case pos=>
      refine GD E [32,32,33,33,33,32,32,36,32,32,36,36,36,33,32,32,33,33,33,33,34,33,32,32,36,33,33,34,29,2,2,2,2,4,7,5,0,4,22,24] ?_;exact ak ⟨8,rfl,iP.no fun h=>(by rw[hv.out.2 (h.at_ HY.out).2.1] at c0;cases c0),E.aD⟩
     replace c0:(v !=0)=false:=by simpa using c0
     iterate 3 refine ni E ?_
     obtain rfl:v=0:=by simpa using c0
     clear c0;refine Ee 0 E ?_
     by_cases c1:y.t<1
     case pos=>
      refine GD E [32,32,32,36,32,32,36,36,36,33,32,32,33,33,33,33,34,33,32,32,36,33,33,34,29,2,2,2,2,4,7,5,0,4,22,24] ?_;exact ak ⟨8,rfl,iP.no fun h=>(by have:=h.at_ HY;omega),E.aD⟩
     refine GD E [32,32,32,32,50,32,52] ?_
     by_cases c2:X.ck<y.t
     case pos=>
      refine GD E [32,32,32,36,36,36,33,32,32,33,33,33,33,34,33,32,32,36,33,33,34,29,2,2,2,2,4,7,5,0,4,22,24] ?_;exact ak ⟨8,rfl,iP.no fun h=>(by have:=h.at_ HY;omega),E.aD⟩
     iterate 4 refine ni E ?_
     clear c1 c2
     by_cases h0:0<j
     case' pos=>
      have h1:((0:Int)<(j:Int)):=by omega
      have hw2:IntKind.i64.wrap ((j:Int) - 1)=((j - 1:Nat):Int):=by rw[aaP _ (by omega)];omega
      have hj1:j - 1<X.wa.l.length:=by omega
      obtain⟨z,hz⟩:∃z,X.wa.l[j - 1]?=some z:=⟨_,Zl hj1⟩;replace hz:=L_ hz;refine GD E [32,32,32,32,50,32,52,35] ?_;refine ug E (v:=z.m.i) (fun w' E'=>by have h:=Sl.aA.gI (E'.h HL).1 (i:=0) hA hz rfl;simpa[aj.sz] using h) ?_
      by_cases c3:y.m.i≤z.m.i
      case pos=>
       refine GD E [32,32,32,32,33,33,33,33,34,33,32,32,36,33,33,34,29,2,2,2,2,4,7,5,0,4,22,24] ?_;exact ak ⟨8,rfl,iP.no fun h=>(by have:=h.at_ HY;omega),E.aD⟩
      have HP:Hid (∀z,0<j→X.wa.l[j - 1]?=some z→z.m.i<y.m.i):=L_ (fun z' _ h=>by have h2:=hz.out;rw[h] at h2;injection h2 with h2;subst h2;omega);refine GD E [35,32,32,50] ?_;clear c3 h0 h1 hw2 hj1 hz
     case' neg=>
      have h1:¬((0:Int)<(j:Int)):=by omega
      have HP:Hid (∀z,0<j→X.wa.l[j - 1]?=some z→z.m.i<y.m.i):=L_ (fun z' h=>absurd h h0);refine GD E [32,32,36,36,33,33,35,32,50] ?_;clear h0 h1
     all_goals
      clear hA hcc;refine Wo 0 E HG.1 ?_;intro c hc
      by_cases c4:0<c
      case pos=>
       refine GD E [32,32,32,36,33,33,34,29,2,2,2,2,4,7,5,0,4,22,24] ?_;exact ak ⟨8,rfl,iP.no fun h=>(by have:=hc (hk0 h.dn);omega),E.aD⟩
      refine GD E [32,32,32,32,52,32] ?_;clear c4 hc
      by_cases h0:0<(X.dn.l.length:Int)
      case' pos=>
       have h1:0<X.dn.l.length:=by omega
       refine GD E [32,32] ?_;refine gZ 1 2 E ?_;refine gZ 0 7 E ?_;refine bT (vH y _) ?_;rintro _ w18 ⟨rfl,hb⟩;replace E:=E.up hb;clear hb;refine⟨_,rfl,E.weak,D_n ?_⟩;refine ow ?_;refine ah (tV la ⟨y.t,y.m.i⟩ _) ?_;rintro _ w19 ⟨rfl,hb⟩;replace E:=E.up hb;clear hb;refine G0 [26] ?_;obtain⟨q,hq⟩:∃q,decide (uF (bZ la.t y.t) (bZ la.i y.m.i)<0)=q:=⟨_,rfl⟩;rw[hq];clear hq;cases q
       case false=>
        refine G0 [84,4,7,5,0,4,22,24] ?_;exact ak ⟨8,rfl,iP.no fun h=>(by rw[h.dn] at h0;simp at h0),E.aD⟩
       case' true=>
        refine G0 [84,4,8,21,23] ?_;clear h0 h1
      case' neg=>
       have h1:¬0<X.dn.l.length:=by omega
       refine GD E [32,32,33,33,34,29,1,1,0,0,4,8,21,23] ?_;clear h0 h1
      all_goals
       refine G0 [0,0,25] ?_
       go_roundw
       case rel=>exact⟨j+1,rfl,hlt,L_ (Qi HS HY (JA (hv.1 rfl)) HP),E.drop 1⟩
       case measure=>simp[intOf];omega
    case neg=>
     refine G0 [5,0,4,17,27,28,6,5] ?_;have HSR:Hid (vV X.wa.l):=L_ (by have:=HS.out;rwa[Zz (by omega)] at this);clear hlt hj HS;refine GD E [0,41,0] ?_
     by_cases h0:0<X.wa.l.length
     case pos=>
      have h1:((0:Int)<(X.wa.l.length:Int)):=by omega
      refine GD E [84,41] ?_;refine ah (JX X.wa _ N (E.h HL).1 (by omega) h0) ?_;rintro _ w20 ⟨x,hx,rfl,hb⟩;replace E:=E.up hb;clear hb;replace hx:=L_ hx;have hfw:=fun w=>KL x.m.i x.m.g x.m.t x.m.key x.m.body x.t x.f w;refine G0 [26,0] ?_;clear hfw;cases hxf:x.f
      case true=>
       refine G0 [0,4,7,5,0,4,22,24] ?_;exact ak ⟨8,rfl,iP.no fun h=>(by obtain⟨i,hi⟩:=aaF hx;have:=(h.at_ hi).2.2.2.2;rw[hxf] at this;cases this),E.aD⟩
      case false=>
       refine G0 [0,4,8,15,5,0,4,22] ?_;exact ak ⟨0,rfl,⟨fun _=>⟨HC.1,HC.2.1,HC.2.2,HSR⟩,fun _=>rfl⟩,E.aD⟩
     case neg=>
      have h1:¬((0:Int)<(X.wa.l.length:Int)):=by omega
      refine G0 [0,0,1,2,2,2,2,4,8,15,5,0,4,22] ?_;exact ak ⟨0,rfl,⟨fun _=>⟨HC.1,HC.2.1,HC.2.2,HSR⟩,fun _=>rfl⟩,E.aD⟩
end
namespace Dp
structure Put where
 sw:Bool
 d:List UInt8
structure dG where
 data:List UInt8
 wait:List Put
def step (b:List UInt8)(p:Put):List UInt8:=if p.sw then p.d else b++p.d
def done:List UInt8→List Put→List UInt8
 |b,[]=>b
 |b,p::l=>done (step b p) l
def fits:List UInt8→List Put→Bool
 |b,[]=>decide (b.length≤1048576)
 |b,p::l=>decide (b.length≤1048576)&&fits (step b p) l
def dF (d:dG):Bool:=decide (d.wait.length≤1024)&&fits d.data d.wait
def seen (d:dG):List UInt8:=done d.data d.wait
def fQ:dG:=⟨[],[]⟩
def write (d:dG)(p:Put):dG×Int:=
 if dF d=true then(if dF ⟨d.data,d.wait++[p]⟩=true then(⟨d.data,d.wait++[p]⟩,0) else(fQ,9)) else(fQ,30)
def see (d:dG):List UInt8×Int:=if dF d=true then(seen d,0) else([],30)
def sync (d:dG):dG×Int:=if dF d=true then(⟨seen d,[]⟩,0) else(fQ,30)
def part (l:List Put)(keep many:Nat):List UInt8:=match l[keep]? with
 |some p=>if p.sw then [] else p.d.take many
 |none=>[]
def crash (d:dG)(keep many:Int):dG×Int:=
 if dF d=true then(if keep<0∨keep>d.wait.length∨many<0 then(fQ,2) else(⟨done d.data (d.wait.take keep.toNat)++part d.wait keep.toNat many.toNat,[]⟩,0)) else(fQ,30)
theorem lY (b:List UInt8)(l m:List Put):done b (l++m)=done (done b l) m:=by
 induction l generalizing b with
 |nil=>rfl
 |cons p l ih=>simp only[aap,done];exact ih _
theorem nL {b:List UInt8}{l:List Put}(h:fits b l=true):b.length≤1048576:=by
 cases l with
 |nil=>simpa[fits] using h
 |cons p l=>simp only[fits,Zr,Zx] at h;exact h.1
theorem Fq (b:List UInt8)(l:List Put)(p:Put):fits b (l++[p])=(fits b l&&decide ((step (done b l) p).length≤1048576)):=by
 induction l generalizing b with
 |nil=>rfl
 |cons q l ih=>
  simp only[aap,fits,done,ih,Bool.and_assoc];try rfl
theorem vN {b:List UInt8}{l:List Put}(h:fits b l=true):(done b l).length≤1048576:=by
 induction l generalizing b with
 |nil=>simpa[fits,done] using h
 |cons p l ih=>simp only[fits,Zr] at h;exact ih h.2
theorem uG {b:List UInt8}{l:List Put}(h:fits b l=true)(k:Nat):fits b (l.take k)=true:=by
 induction l generalizing b k with
 |nil=>simpa using h
 |cons p l ih=>
  simp only[fits,Zr] at h;cases k with
  |zero=>simp only[List.take_zero,fits];exact h.1
  |succ k=>simp only[aaw,fits,Zr];exact⟨h.1,ih h.2 k⟩
theorem PV (b:List UInt8):dF ⟨b,[]⟩=decide (b.length≤1048576):=by simp[dF,fits]
theorem fu:dF fQ=true:=by simp[fQ,PV]
theorem Fb {d:dG}(h:dF d=true):d.wait.length≤1024:=by
 simp only[dF,Zr,Zx] at h;exact h.1
theorem kS {d:dG}(h:dF d=true):fits d.data d.wait=true:=by
 simp only[dF,Zr,Zx] at h;exact h.2
theorem oV {d:dG}(h:dF d=true):(seen d).length≤1048576:=vN (kS h)
theorem Kr (d:dG)(p:Put):seen ⟨d.data,d.wait++[p]⟩=step (seen d) p:=by simp[seen,lY,done]
theorem M6 {d:dG}{p:Put}(h:(write d p).2=0):dF d=true∧dF ⟨d.data,d.wait++[p]⟩=true∧(write d p).1=⟨d.data,d.wait++[p]⟩:=by
 unfold write at h ⊢
 by_cases h1:dF d=true
 ·rw[aaS h1] at h ⊢
  by_cases h2:dF ⟨d.data,d.wait++[p]⟩=true
  ·rw[aaS h2];exact⟨h1,h2,rfl⟩
  ·rw[aaR h2] at h;simp at h
 ·rw[aaR h1] at h;simp at h
theorem uK (d:dG)(p:Put):dF (write d p).1=true:=by
 unfold write
 by_cases h1:dF d=true
 ·rw[aaS h1]
  by_cases h2:dF ⟨d.data,d.wait++[p]⟩=true
  ·rw[aaS h2];exact h2
  ·rw[aaR h2];exact fu
 ·rw[aaR h1];exact fu
end Dp
variable{a:Act}{ops:Array Oper}{Q:Exit→Act→World→Prop}{xs xs2:List Value}{B' base base' base2 g n2 size2:Nat}{o:Oper}{E T e2 t:TypeId}{v v2 v3:Value}{w':World}
structure HP where
 sw:Bool
 A:Option Addr
 n:Nat
 c:Nat
 d:List UInt8
def HP.put (p:HP):Dp.Put:=⟨p.sw,p.d⟩
def hcells (p:HP):List Value:=[p.sw,.slice p.A p.n p.c]
def hp (l:List HP):List Value:=l.flatMap hcells
theorem iT (p:HP):(hcells p).length=2:=rfl
theorem xw (p:HP)(l:List HP):hp (p::l)=hcells p++hp l:=by simp[hp]
theorem qL:∀l:List HP,(hp l).length=l.length*2
 |[]=>rfl
 |p::l=>by rw[xw,Zn,qL l,iT,ZI];omega
theorem Ba (l m:List HP):hp (l++m)=hp l++hp m:=by simp[hp]
theorem Ql (l:List HP):∀u∈hp l,u.oneCell'=true:=by
 intro u hu;simp only[hp,aau] at hu;obtain⟨m,_,hu⟩:=hu;simp only[hcells,Zu,ZF,or_false] at hu
 rcases hu with rfl|rfl<;>rfl
theorem N7:∀(l:List HP) (k:Nat) (m:HP) (i:Nat),l[k]?=some m→i<2→(hp l)[k*2+i]?=(hcells m)[i]?
 |[],k,m,i,h,_=>by simp at h
 |a::l,0,m,i,h,hi=>by
  simp only[List.getElem?_cons_zero,ZH] at h;subst h;rw[xw,Z0 (by rw[iT];omega),Nat.zero_mul,aah]
 |a::l,k+1,m,i,h,hi=>by
  rw[List.getElem?_cons_succ] at h;rw[xw,Z8 (by rw[iT];omega),iT,show(k+1)*2+i - 2=k*2+i by omega];exact N7 l k m i h hi
section
variable{w:World}{B n:Nat}{A:Option Addr}{l:List HP}
theorem Reads.MW (h:Reads w B 2 A n (hp l)):l.length=n:=by have:=h.1;rw[qL] at this;omega
theorem Reads.hput (h:Reads w B 2 A n (hp l))(hk:k<n):∃(b off:Nat) (m:HP),A=some ⟨b,off,none⟩∧b<B∧l[k]?=some m∧w.rangeAt b (off+k*2) (hcells m):=by
 have hl:=h.MW;obtain⟨ad,rfl,hb,hc⟩:=h.2 (by omega);have hg:l[k]?=some (l[k]'(by omega)):=Zl (by omega);have h0:∃x,w.cell? (ad.add 0)=some x:=⟨_,hc 0 _ (Zl (by rw[qL];omega))⟩;obtain⟨x,h0⟩:=h0;obtain⟨b,off,rfl,_⟩:=qG h0;refine⟨b,off,l[k]'(by omega),rfl,hb,hg,fun i u hu=>?_⟩;have hi:i<2:=by have:=(Zo.1 hu).1;rwa[iT] at this
 have:=hc (k*2+i) u (by rw[N7 l k _ i hg hi];exact hu);rw[Addr.add_mid] at this;rw[Nat.add_assoc];exact this
end
section
variable{P:Program}
theorem Ak (ht:P.underlying T=some (.slice E))(A:Option Addr)(n c k:Nat)(hk:k≤c)(w:World)(hs:∀w,(Go.sizeOf E).run P w=.ok 2 w) :
  (Instr.slice T (.slice A n c) none (some ((k:Int))) none).run P w=.ok (.slice A k c) w:=by
 have ht':P.underlying T=some (.slice (P.elem T)):=by simp[Program.elem,ht]
 have he:P.elem T=E:=by simp[Program.elem,ht]
 rw[run_slice_h w T _ _ _ ht' .i64 _ (by omega) (by omega),he,hs]
 have h0:A.map (fun x=>x.add (0*2))=A:=by
  cases A with
  |none=>rfl
  |some a=>simp[Addr.add]
 simp only[Result.andThen,sliced,h0,Z9,Nat.sub_zero,ite_self]
theorem wG (ht:P.underlying T=some (.slice E))(A:Option Addr)(n c:Nat)(hn:n≤c)(w:World)(hs:∀w,(Go.sizeOf E).run P w=.ok 2 w) :
  (Instr.slice T (.slice A n c) none (some ((n:Int))) (some ((n:Int)))).run P w=.ok (.slice A n n) w:=by
 have ht':P.underlying T=some (.slice (P.elem T)):=by simp[Program.elem,ht]
 have he:P.elem T=E:=by simp[Program.elem,ht]
 rw[run_slice_hm w T _ _ _ ht' .i64 .i64 _ _ (by omega) (by omega) (by omega),he,hs]
 have h0:A.map (fun x=>x.add (0*2))=A:=by
  cases A with
  |none=>rfl
  |some a=>simp[Addr.add]
 simp only[Result.andThen,sliced,h0,Z9,Nat.sub_zero,ite_self]
end
structure HD where
 A:Option Addr
 n:Nat
 c:Nat
 d:List UInt8
 WA:Option Addr
 Wn:Nat
 Wc:Nat
 l:List HP
def HD.disk (D:HD):Dp.dG:=⟨D.d,D.l.map HP.put⟩
def iO:HD:=⟨none,0,0,[],none,0,0,[]⟩
def fE (w:World)(B:Nat)(p:HP):Prop:=Reads w B 1 p.A p.n (cb p.d)∧p.n≤p.c∧p.c≤maxLen∧p.n≤140737488351232
structure aW (w:World)(B:Nat)(D:HD):Prop where
 rd:Reads w B 1 D.A D.n (cb D.d)
 EU:Reads w B 2 D.WA D.Wn (hp D.l)
 nc:D.n≤D.c
 cm:D.c≤maxLen
 Yc:D.Wn≤D.Wc
 Y2:D.Wc≤maxLen
 lim:D.n≤140737488351232
 Et:D.Wn≤140737488351232
 all:∀p∈D.l,fE w B p
theorem fE.keep {w:World}{B:Nat}{p:HP}(h:fE w B p)(hk:∀q:Addr,q.block<B→w'.cell? q=w.cell? q):fE w' B p:=⟨h.1.keep hk,h.2⟩
theorem fE.more {w:World}{B:Nat}{p:HP}(h:fE w B p)(hB:B≤B'):fE w B' p:=⟨h.1.more hB,h.2⟩
theorem fE.below {w:World}{B:Nat}{p:HP}(h:fE w B p)(hb:Below B w w'):fE w' B p:=h.keep fun _ hq=>hb.cell hq
theorem aW.keep {w:World}{B:Nat}{D:HD}(h:aW w B D)(hk:∀q:Addr,q.block<B→w'.cell? q=w.cell? q):aW w' B D:=
 ⟨h.rd.keep hk,h.EU.keep hk,h.nc,h.cm,h.Yc,h.Y2,h.lim,h.Et,fun p hq=>(h.all p hq).keep hk⟩
theorem aW.more {w:World}{B:Nat}{D:HD}(h:aW w B D)(hB:B≤B'):aW w B' D:=
 ⟨h.rd.more hB,h.EU.more hB,h.nc,h.cm,h.Yc,h.Y2,h.lim,h.Et,fun p hq=>(h.all p hq).more hB⟩
theorem aW.below {w:World}{B:Nat}{D:HD}(h:aW w B D)(hb:Below B w w'):aW w' B D:=h.keep fun _ hq=>hb.cell hq
theorem aW.up {w:World}{D:HD}(h:aW w w D)(hb:Below w w w'):aW w' w' D:=(h.below hb).more hb.size
theorem aW.alloc {w:World}{D:HD}(h:aW w w D)(o:Obj):aW (w.alloc o) (w.alloc o).heap.size D:=h.up ((aaO _ w).alloc (Zh _) o)
theorem fE.up {w:World}{p:HP}(h:fE w w p)(hb:Below w w w'):fE w' w' p:=(h.below hb).more hb.size
theorem fE.alloc {w:World}{p:HP}(h:fE w w p)(o:Obj):fE (w.alloc o) (w.alloc o).heap.size p:=h.up ((aaO _ w).alloc (Zh _) o)
theorem fE.Qo {w:World}{B:Nat}{p:HP}(h:fE w B p)(hB:B≤w.heap.size)(o:Obj):fE (w.alloc o) B p:=h.keep fun q hq=>World.cell?_alloc_lt w o q (by omega)
theorem aW.Oy {w:World}{B:Nat}{D:HD}(h:aW w B D):D.d.length=D.n:=h.rd.mR
theorem aW.oP {w:World}{B:Nat}{D:HD}(h:aW w B D):D.l.length=D.Wn:=h.EU.MW
theorem aW.EX {w:World}{B:Nat}{D:HD}(h:aW w B D){p:HP}(hp':p∈D.l):p.d.length=p.n:=(h.all p hp').1.mR
structure bF (w:World)(base:Nat)(D:HD):Prop where
 rd:w.ownsRow base 5 1 (.slice D.A D.n D.c) D.n (cb D.d)
 EU:w.ownsRow base 215 2 (.slice D.WA D.Wn D.Wc) D.Wn (hp D.l)
 lim:D.n≤140737488351232
 Et:D.Wn≤140737488351232
 all:∀p∈D.l,w.ownsRow base 5 1 (.slice p.A p.n p.c) p.n (cb p.d)∧p.n≤140737488351232
theorem mK {w:World}{n c size:Nat}{e:TypeId}{A:Option Addr}(h:w.ownsRow base e size (.slice A n c) n xs):n≤c∧c≤maxLen:=by
 rcases h.2 with ⟨h1,h2⟩|⟨g,cap,cur,h1,_,_,hc,hm,_⟩
 ·injection h1 with _ h3 h4
  subst h3 h4;exact⟨Zh _,Zq _⟩
 ·injection h1 with _ _ h4
  subst h4;exact⟨hc,hm⟩
theorem bF.at_ {w:World}{D:HD}(h:bF w base D):aW w w D:=
 ⟨Reads.bO h.rd,Reads.bO h.EU,(mK h.rd).1,(mK h.rd).2,(mK h.EU).1,(mK h.EU).2,h.lim,h.Et,
  fun p hp'=>⟨Reads.bO (h.all p hp').1,(mK (h.all p hp').1).1,(mK (h.all p hp').1).2,(h.all p hp').2⟩⟩
theorem bF.mono {w:World}{D:HD}(h:bF w base D)(hb:base'≤base):bF w base' D:=
 ⟨aG h.rd hb,aG h.EU hb,h.lim,h.Et,fun p hp'=>⟨aG (h.all p hp').1 hb,(h.all p hp').2⟩⟩
theorem cZ (w:World)(base:Nat):bF w base iO:=
 ⟨aaU _ _ _ _,aaU _ _ _ _,Zq _,Zq _,by simp[iO]⟩
theorem aN {w:World}{n size:Nat}{e:TypeId}(h:w.ownsRow base e size v n xs)(hk:∀g,v.ownBlock=some g→w'.heap[g]?=w.heap[g]?):w'.ownsRow base e size v n xs:=by
 refine⟨h.1,?_⟩
 rcases h.2 with h2|⟨g,cap,cur,h2,h3,h4,h5⟩
 ·exact Or.inl h2
 ·exact Or.inr ⟨g,cap,cur,h2,h3,(hk g (by rw[h2];rfl)).trans h4,h5⟩
theorem FU {w:World}{n size:Nat}{e:TypeId}(h:w.ownsRow base e size v n xs)(hg:v.ownBlock=some g):∃cs,w.heap[g]?=some (.cells cs e (0,0)):=by
 rcases h.2 with ⟨rfl,_⟩|⟨g',cap,cur,rfl,_,hh,_⟩
 ·simp[Value.ownBlock] at hg
 ·have:g'=g:=by simpa[Value.ownBlock] using hg
  subst this;exact⟨cur,hh⟩
theorem uI {w:World}{n size:Nat}{e:TypeId}(h:w.ownsRow base e size v n xs)(hg:v.ownBlock=some g):base≤g∧g<w.heap.size:=h.lt g hg
theorem kR {w:World}{n size:Nat}{e:TypeId}(h:w.ownsRow base e size v n xs)(h2:w.ownsRow base2 e2 size2 v2 n2 xs2)(hne:e≠e2)(hg:dX w w' v2 v3):w'.ownsRow base e size v n xs:=by
 refine aN h fun g hgb=>hg.1.block g (uI h hgb).2 ?_;intro he;obtain⟨cs,h4⟩:=FU h hgb;obtain⟨cs2,h5⟩:=FU h2 he.symm;rw[h4] at h5;injection h5 with h5
 injection h5 with _ h6
 exact hne h6
theorem aT {w:World}{n size:Nat}{e:TypeId}{cs:Array Value}(h:w.ownsRow base e size v n xs)(hb:aF w g t cs)(hne:e≠t)(i:Nat)(u:Value):(w.setCell ⟨g,i,none⟩ u).ownsRow base e size v n xs:=by
 refine aN h fun g' hgb=>Below.heap_setCell w ⟨g,i,none⟩ u g' ?_;show g'≠g;rintro rfl;exact aQ h hb hne hgb
theorem own_below {w:World}{n size:Nat}{e:TypeId}(h:w.ownsRow base e size v n xs)(hb:Below w w w'):w'.ownsRow base e size v n xs:=
 aN h fun g hg=>hb.block g (uI h hg).2
theorem bF.below {w:World}{D:HD}(h:bF w base D)(hb:Below w w w'):bF w' base D:=
 ⟨own_below h.rd hb,own_below h.EU hb,h.lim,h.Et,fun p hp'=>⟨own_below (h.all p hp').1 hb,(h.all p hp').2⟩⟩
theorem aF.newAt {w:World}(h:w.heap.size=g)(t:TypeId)(cs:Array Value):aF (w.alloc (.cells cs t)) g t cs:=by subst h;exact aF.new w t cs
theorem Ra {B:Nat}{a w:World}(h:Below B a.drew w):Below B a w:=⟨h.os,h.tape,h.output,h.size,h.block⟩
theorem yA:(prog.info? 215).map (fun i=>(i.zero,i.size,i.bytes))=some (some (.agg #[false,()]),2,32):=by kernel_rfl
theorem Fy:∀w,(Go.sizeOf 215).run prog w=.ok 2 w:=by
 obtain⟨i0,hi0,hz0,hz1,hz2⟩:=info_parts yA;intro w;simp[sizeOf,typeInfo,hi0,hz1]
theorem rG {rest:List Oper}{w:World}(hgd:o.guard=none)(sl x:Operand)
  (ho:o.op=.call { callee:=.builtin .append,args:=#[sl,x],argTypes:=#[46,46] })
  (base:Nat) (v:Value) (n:Nat) (l:List UInt8) (hs:a.eval sl=v) (hown:w.ownsRow base 5 1 v n (cb l))
  (B:Nat) (A:Option Addr) (m c:Nat) (news:List UInt8) (hx:a.eval x=.slice A m c) (hr:Reads w B 1 A m (cb news))
  (hn:n+m≤140737488355328) (hbase:base≤w.heap.size)
  (h:∀v' w',w'.ownsRow base 5 1 v' (n+m) (cb (l++news))→dX w w' v v'→wpList prog ops Q rest (a.put o.dst v') w') :
  wpList prog ops Q (o::rest) a w:=by
 obtain⟨i0,hi0,hz0,hz1,hz2⟩:=info_parts sF;refine bB _ hgd sl x 46 ho base 5 i0 _ 1 1 underlying46 hi0 hz0 hz1 hz2 rfl (by decide) v n (cb l) hs hown B A m c (cb news) hx hr (OT _) (by simp only[maxLen];omega) (by omega) hbase ?_;intro v' w' h1 h2 h3;refine h v' w' (by rw[qM];exact h1) ⟨h2,?_⟩
 rcases h3 with h3|h3
 ·exact Or.inl h3
 ·exact Or.inr ⟨_,h3,Zh _⟩
theorem TS {rest:List Oper}{w:World}(hgd:o.guard=none)(sl x:Operand)
  (ho:o.op=.call { callee:=.builtin .append,args:=#[sl,x],argTypes:=#[47,47] })
  (base:Nat) (v:Value) (n:Nat) (l:List HP) (hs:a.eval sl=v) (hown:w.ownsRow base 215 2 v n (hp l))
  (B:Nat) (A:Option Addr) (c:Nat) (p:HP) (hx:a.eval x=.slice A 1 c) (hr:Reads w B 2 A 1 (hp [p]))
  (hn:n≤1000000000000) (hbase:base≤w.heap.size)
  (h:∀v' w',w'.ownsRow base 215 2 v' (n+1) (hp (l++[p]))→dX w w' v v'→wpList prog ops Q rest (a.put o.dst v') w') :
  wpList prog ops Q (o::rest) a w:=by
 obtain⟨i0,hi0,hz0,hz1,hz2⟩:=info_parts yA;refine bB _ hgd sl x 47 ho base 215 i0 _ 2 32 underlying47 hi0 hz0 hz1 hz2 rfl (by decide) v n (hp l) hs hown B A 1 c (hp [p]) hx hr (Ql _) (by simp only[maxLen];omega) (by omega) hbase ?_;intro v' w' h1 h2 h3;refine h v' w' (by rw[Ba];exact h1) ⟨h2,?_⟩
 rcases h3 with h3|h3
 ·exact Or.inl h3
 ·exact Or.inr ⟨_,h3,Zh _⟩
variable{bx:List Bx}{b:Nat}{w0:World}
def dB (a b:List gT):Prop:=a.map (fun g=>(g.r.l,g.m.l))=b.map (fun g=>(g.r.l,g.m.l))
theorem Env.iU {is:List It}{r m:Sl Int}{s:Sl gT}(E:Env b w0 bx (own m N::own r N::own s N::is) w):Env b w0 bx (both (own s N) (own (⟨r,m⟩:gT) N)::is) w:=by
 have E1:=((E.perm (ZW ..)).join).conv 0 (i:=both (own r N) (own m N)) (own (⟨r,m⟩:gT) N) (fun h=>⟨h.1,h.2⟩) (fun g hg=>by
  obtain⟨y,hy,rfl⟩:=ZA.1 hg
  rcases Zm.1 hy with hy|hy
  ·exact ZJ _ (ZA.2 ⟨y,hy,rfl⟩)
  ·exact ZL _ (ZA.2 ⟨y,hy,rfl⟩))
 exact(E1.perm (ZW ..)).join
theorem zm (s:Sl gT)(w:World)(N:Nat)(hl:s.aA w w N)(hN:N≤1000000) :
  Calls prog 13 #[s] w fun e w'=>∃s':Sl gT,e=.returned s'∧Hid (dB s'.l s.l)∧Env w w [] [own s' N] w':=by
 have HL:=L_ hl;have hsn:s.l.length≤N:=hl.2.2.2.1;clear hl;have E:=(Env.start w).gG (aaO _ _) (own (Sl.nil:Sl gT) N) Sl.eY (fun g hg=>by cases hg)
 go_enter func13,ntmps13
 refine G0 [5,0,4,5,0,4,6,5,84,4,19] ?_
 go_loopw [3,8] (fun z y wr=>∃(k:Nat) (s':Sl gT),y=(k:Int)∧z=s'∧k≤s.l.length∧s'.l.length=k∧Hid (dB s'.l (s.l.take k))∧Env w w [] [own s' N] wr) (fun _ y _=>s.l.length - (intOf y).toNat)
 case atStart=>exact⟨0,Sl.nil,rfl,rfl,Zq _,rfl,L_ rfl,E⟩
 case round=>
  clear E;obtain⟨k,s',rfl,rfl,hk,hs,hsm,E⟩:=hrel;replace hs:=L_ hs;refine bN ?_
  by_cases hlt:k<s.l.length
  ·have hw:IntKind.i64.wrap ((k:Int)+1)=((k+1:Nat):Int):=by rw[aaP _ (by omega)];rfl
   obtain⟨bb,off,x,hA,hbl,hx,hcc,hlx⟩:=(HL.below E.aD).get (k:=k) hlt
   replace hlx:Hid (au.aA w w N x):=L_ (by
    exact HL.2.2.2.2 x (Zk hx))
   replace hx:=L_ hx;replace hcc:=L_ hcc;refine G0 [0,4,16,15,18,5,0] ?_;refine fA x hcc ?_;refine G E [70,3,60,9] ?_;clear E;intro g5 w3 E;refine aC (fO 0 10 E ?_);clear E;intro w4 E;refine ay 0 E ?_;refine ay 1 E ?_;refine aX 2 0 E ?_;refine ay 4 E ?_;refine aX 5 0 E ?_;refine cu 3 (qg bY E hlx.1) ?_;clear E;rintro _ w5 ⟨r,rfl,h1,E⟩;refine⟨_,rfl,E.weak,dL ?_⟩;refine cu 6 (qg bY E hlx.2) ?_;clear E;rintro _ w6 ⟨m,rfl,h2,E⟩;refine⟨_,rfl,E.weak,dL ?_⟩;refine ay 7 E ?_;replace E:=E.iU;refine uZ 8 E ?_;clear E;intro g20 w7 E;refine dL ?_;have hsN:s'.l.length+1≤N:=by have:=hs.out;omega
   refine Ij 9 0 (s:=s') N (⟨r,m⟩:gT) g20 E (E.reads 0 1 2) hsN (Zh _) hN ?_;clear E;intro s2 w8 h3 E;refine dL ?_;refine G0 [30,0,20,23,0,0,25] ?_
   go_roundw
   case rel=>exact⟨k+1,s2,rfl,rfl,hlt,by rw[h3.out,Zn,hs.out];rfl,L_ (by
    have q:=hsm.out;unfold dB at q ⊢;rw[h3.out,ZP,hx.out,aag,aag,q,aaz];simp[h1.out,h2.out]),E.sub (Zy _) (Zi _)⟩
   case measure=>simp[intOf];omega
  ·refine fV ?_;refine G0 [4,17,27,28,5,0,0,4,22] ?_;exact ak (v:=s') ⟨s',rfl,by rwa[Zz (by omega)] at hsm,E⟩
theorem Env.Yl {is:List It}{y:dZ}{s:Sl dZ}(E:Env b w0 bx (sJ y N++own s N::is) w):Env b w0 bx (both (own s N) (own y N)::is) w:=by
 have E1:=(((((((show Env b w0 bx (own y.t.ac N::own y.t.pr N::own y.t.mem N::own y.wi N::own y.vs N::own y.log N::own y.g.m N::own y.g.r N::own s N::is) w from E).join).join).join).join).join).join).join
 have E2:=E1.conv 0 (i:=both (both (both (both (both (both (both (own y.t.ac N) (own y.t.pr N)) (own y.t.mem N)) (own y.wi N)) (own y.vs N)) (own y.log N)) (own y.g.m N)) (own y.g.r N)) (own y N) (fun h=>⟨h.2,h.1.2,h.1.1.2,h.1.1.1.2,h.1.1.1.1.1.2,h.1.1.1.1.1.1.2,h.1.1.1.1.1.1.1,h.1.1.1.1.2⟩) (fun g hg=>by
  simp only[own,both,au.bl,aag,Zm] at hg ⊢
  grind)
 exact(E2.perm (ZW ..)).join
structure jv (x y:jl):Prop where
 me:x.me=y.me
 all:dB x.all.l y.all.l
 se:x.se.l.length=y.se.l.length∧∀(k:Nat) (u:dZ),x.se.l[k]?=some u→∃z,y.se.l[k]?=some z∧qB u z
 ti:x.ti.l=y.ti.l
def lV (x:jl)(N:Nat):List It:=[own x.se N,own x.all N,own x.ti N]
theorem rX (x:jl)(w:World)(N:Nat)(hl:au.aA w w N x)(hN:N≤1000000) :
  Calls prog 81 #[x] w fun e w'=>∃x':jl,e=.returned (x')∧Hid (jv x' x)∧Env w w [] (lV x' N) w':=by
 have HL:=L_ hl;have hn1:x.all.l.length≤N:=hl.1.2.2.2.1;have hn2:x.se.l.length≤N:=hl.2.1.2.2.2.1;clear hl;have E:=((Env.start w).gG (aaO _ _) (own (Sl.nil:Sl gT) N) Sl.eY (fun g hg=>by cases hg)).gG (aaO _ _) (own (Sl.nil:Sl dZ) N) Sl.eY (fun g hg=>by cases hg)
 go_enter func81,ntmps81
 refine G E [5,71,3,70,3,9] ?_;clear E;intro g1 g2 w3 E;refine aC (dw 7 E ?_);clear E;intro w4 E;refine ay 0 E ?_;refine aX 1 1 E ?_;refine ay 2 E ?_;refine aX 3 1 E ?_;refine IJ 4 6 (cK (qg tL E HL.2.2) ?_) (jm E ?_)
 case' refine_1=>
  clear E;rintro _ w5 ⟨ti,rfl,hti,E⟩;refine⟨_,rfl,E.weak,dL ?_⟩;refine ay 5 E ?_;refine T_1 6 (jm E ?_);clear E;intro g3 w6 E;refine⟨(E.drop 1).weak,dL ?_⟩
 case' refine_2=>
  clear E;intro g3 w5 E;refine⟨(E.drop 1).weak,dL ?_⟩;refine T_1 4 (cK (qg tL E HL.2.2) ?_);clear E;rintro _ w6 ⟨ti,rfl,hti,E⟩;refine⟨_,rfl,(E.drop 1).weak,dL ?_⟩;refine ay 5 E ?_
 all_goals
  refine G E [30,60,9] ?_;clear E;intro w7 E;replace E:Env w w [(g3,45,[x.me,(),(),ti]),(g2,45,[.int .i64 0,(),(),()]),(g1,45,x)] [own (Sl.nil:Sl gT) N,own ti N,own (Sl.nil:Sl dZ) N] w7:=E.front 2;refine G E [4,6,5,0,42,0,0,4,19] ?_
  go_loopw [17] (fun y wr=>∃(k:Nat) (s':Sl gT),y=(k:Int)∧k≤x.all.l.length∧s'.l.length=k∧Hid (dB s'.l (x.all.l.take k))∧Env w w [(g3,45,[x.me,s',(),ti]),(g2,45,[.int .i64 0,(),(),()]),(g1,45,x)] [own s' N,own ti N,own (Sl.nil:Sl dZ) N] wr) (fun y _=>x.all.l.length - (intOf y).toNat)
  case atStart=>exact⟨0,Sl.nil,rfl,Zq _,rfl,L_ rfl,E⟩
  case round=>
   clear E;obtain⟨k,s',rfl,hk,hs,hsm,E⟩:=hrel;replace hs:=L_ hs;refine bN ?_
   by_cases hlt:k<x.all.l.length
   ·have hw:IntKind.i64.wrap ((k:Int)+1)=((k+1:Nat):Int):=by rw[aaP _ (by omega)];rfl
    obtain⟨bb,off,y,hA,hbl,hx,hcc,-⟩:=(HL.1.below E.aD).get (k:=k) hlt;have hly:Hid (au.aA w w N y):=L_ (HL.1.2.2.2.2 y (Zk hx));replace hx:=L_ hx;replace hcc:=L_ hcc;refine G0 [0,4,16,15,18,5,0] ?_;refine fA y hcc ?_;refine G E [70,3,60,9] ?_;clear E;intro g5 w9 E;refine aC (fO 0 11 E ?_);clear E;intro w10 E;refine ay 0 E ?_;refine aX 1 1 E ?_;refine ay 2 E ?_;refine aX 3 0 E ?_;refine ay 5 E ?_;refine aX 6 0 E ?_;refine cu 4 (qg bY E hly.1) ?_;clear E;rintro _ w11 ⟨r,rfl,h1,E⟩;refine⟨_,rfl,E.weak,dL ?_⟩;refine cu 7 (qg bY E hly.2) ?_;clear E;rintro _ w12 ⟨m,rfl,h2,E⟩;refine⟨_,rfl,E.weak,dL ?_⟩;refine ay 8 E ?_;replace E:=E.iU;refine uZ 9 E ?_;clear E;intro g30 w13 E;refine dL ?_;have hsN:s'.l.length+1≤N:=by have:=hs.out;omega
    refine Ij 10 0 (s:=s') N (⟨r,m⟩:gT) g30 E (E.reads 0 1 2) hsN (Zh _) hN ?_;clear E;intro s2 w14 h3 E;refine dL ?_;refine G E [30,0,62,20,23,0,0,9] ?_;clear E;intro w15 E;refine jI ?_
    go_roundw
    case rel=>exact⟨k+1,s2,rfl,hlt,by rw[h3.out,Zn,hs.out];rfl,L_ (by
     have q:=hsm.out;unfold dB at q ⊢;rw[h3.out,ZP,hx.out,aag,aag,q,aaz];simp[h1.out,h2.out]),E.drop 2⟩
    case measure=>simp[intOf];omega
   ·refine fV ?_;refine G0 [4,17,27,28] ?_;have HG:Hid (dB s'.l x.all.l):=L_ (by have:=hsm.out;rwa[Zz (by omega)] at this);obtain⟨al,hal⟩:∃al,al=s':=⟨_,rfl⟩;rw[←hal] at E HG;clear hal hsm hs hlt hk;replace E:Env w w [(g3,45,[x.me,.slice al.A al.l.length al.c,(),ti]),(g2,45,[.int .i64 0,(),(),()]),(g1,45,x)] [own (Sl.nil:Sl dZ) N,own al N,own ti N] wr:=E.front 2;refine G E [6,5,0,42,0,0,4,19] ?_
    go_loopw [37] (fun y wr=>∃(k:Nat) (s':Sl dZ),y=(k:Int)∧k≤x.se.l.length∧s'.l.length=k∧Hid (∀(j:Nat) (u:dZ),s'.l[j]?=some u→∃z,x.se.l[j]?=some z∧qB u z)∧Env w w [(g3,45,[x.me,.slice al.A al.l.length al.c,s',ti]),(g2,45,[.int .i64 0,(),(),()]),(g1,45,x)] [own s' N,own al N,own ti N] wr) (fun y _=>x.se.l.length - (intOf y).toNat)
    case atStart=>exact⟨0,Sl.nil,rfl,Zq _,rfl,L_ (fun j u h=>by cases h),E⟩
    case round=>
     clear E;obtain⟨k,s',rfl,hk,hs,hsm,E⟩:=hrel;replace hs:=L_ hs;refine bN ?_
     by_cases hlt:k<x.se.l.length
     ·have hw:IntKind.i64.wrap ((k:Int)+1)=((k+1:Nat):Int):=by rw[aaP _ (by omega)];rfl
      obtain⟨bb,off,y,hA,hbl,hx,hcc,-⟩:=(HL.2.1.below E.aD).get (k:=k) hlt;have hly:Hid (au.aA w w N y):=L_ (HL.2.1.2.2.2.2 y (Zk hx));replace hx:=L_ hx;replace hcc:=L_ hcc;refine G0 [0,4,16,15,18,5,0] ?_;refine fA y hcc ?_;refine G E [70,3,60,9] ?_;clear E;intro g7 w9 E;refine aC (fO 0 6 E ?_);clear E;intro w10 E;refine ay 0 E ?_;refine aX 1 1 E ?_;refine oG 2 0 15 E ?_;refine cu 3 (yB y w10 N (au.aS (au.bA hly fun p hp=>E.aD.cell hp) E.sz (Zh _)) hN) ?_;rintro _ w11 ⟨u,rfl,h1,F⟩;replace E:=(E.call F).Yl;refine⟨_,rfl,E.weak,dL ?_⟩;refine uZ 4 E ?_;clear E;intro g45 w13 E;refine dL ?_;have hsN:s'.l.length+1≤N:=by have:=hs.out;omega
      refine Ij 5 0 (s:=s') N u g45 E (E.reads 0 1 15) hsN (Zh _) hN ?_;clear E;intro s2 w14 h3 E;refine dL ?_;refine G E [30,0,62,20,23,0,0,9] ?_;clear E;intro w15 E;refine jI ?_
      go_roundw
      case rel=>exact⟨k+1,s2,rfl,hlt,by rw[h3.out,Zn,hs.out];rfl,L_ (fun j z hj=>by
       rw[h3.out] at hj
       by_cases hjk:j<k
       ·rw[Z0 (by rw[hs.out];exact hjk)] at hj;exact hsm j z hj
       ·have hjl:=(Zo.1 hj).1;rw[Zn,hs.out] at hjl;simp only[ZI,aai] at hjl;obtain rfl:j=k:=by omega
        rw[Z8 (by rw[hs.out];exact Zh _),hs.out,Nat.sub_self] at hj;obtain rfl:u=z:=by simpa using hj
        exact⟨y,hx,h1⟩),E.drop 2⟩
      case measure=>simp[intOf];omega
     ·refine fV ?_;refine G0 [4,17,27,28,5] ?_;refine aB 0 4 E ?_;refine lQ 1 E ?_;clear E;intro w16 E;refine aC (Iy 1 E ?_);exact⟨⟨x.me,al,s',ti⟩,rfl,L_ ⟨rfl,HG,⟨by rw[hs.out];omega,hsm⟩,hti⟩,E.drop 3⟩
def dJ (p:Nat)(X:gY):Bx:=(p,177,X)
def mD (X:jl)(g:Int):Bool:=decide (0≤g)&&(match X.all.l[g.toNat]? with|some x=>decide (X.me∈x.r.l)|none=>false)
theorem EC {is:List It}(p N:Nat)(X:gY)(g:Int)(w:World)(E:Env b w0 (dJ p X::bx) is w)(hN:N≤1000000)(hl:∀w',Env b w0 (dJ p X::bx) is w'→X.x.all.aA w' w' N)(hg:i64 g) :
  Calls prog 82 #[p,g] w fun e w'=>e=.returned (.bool (mD X.x g))∧Env b w0 (dJ p X::bx) is w':=by
 have HL:=L_ hl
 go_enter func82,ntmps82
 refine G0 [5,0] ?_;refine aC (I5 0 28 is E ?_);clear E;intro w2 E;refine ay 0 E ?_
 by_cases h0:0≤g
 case neg=>
  have hO:mD X.x g=false:=by simp[mD,h0]
  refine ay 1 E ?_;refine ay 2 E ?_;refine kL 3 E ?_;refine kL 4 E ?_;refine kL 5 E ?_;refine kL 6 E ?_;refine kL 7 E ?_;refine kL 8 E ?_;refine kL 9 E ?_;refine kL 10 E ?_;refine ay 11 E ?_;refine ay 12 E ?_;refine kL 13 E ?_;refine kL 14 E ?_;refine kL 15 E ?_;refine kL 16 E ?_;refine kL 17 E ?_;refine kL 18 E ?_;refine kL 19 E ?_;refine kL 20 E ?_;refine kL 21 E ?_;refine kL 22 E ?_;refine kL 23 E ?_;refine kL 24 E ?_;refine kL 25 E ?_;refine kL 26 E ?_;refine kL 27 E ?_;refine G0 [30,0,0,4,22] ?_;exact ak (v:=false) ⟨by rw[hO],E⟩
 obtain⟨k,rfl⟩:∃k:Nat,g=(k:Int):=⟨g.toNat,by omega⟩;refine ay 1 E ?_;refine ay 2 E ?_;refine ay 3 E ?_;refine ay 4 E ?_;refine ay 5 E ?_;refine ay 6 E ?_;refine ay 7 E ?_;refine aX 8 0 E ?_;refine ay 9 E ?_;refine ay 10 E ?_
 by_cases hlt:k<X.x.all.l.length
 case neg=>
  have hO:mD X.x (k:Int)=false:=by
   unfold mD;rw[Z9,List.getElem?_eq_none (by omega)];simp
  refine ay 11 E ?_;refine ay 12 E ?_;refine kL 13 E ?_;refine kL 14 E ?_;refine kL 15 E ?_;refine kL 16 E ?_;refine kL 17 E ?_;refine kL 18 E ?_;refine kL 19 E ?_;refine kL 20 E ?_;refine kL 21 E ?_;refine kL 22 E ?_;refine kL 23 E ?_;refine kL 24 E ?_;refine kL 25 E ?_;refine kL 26 E ?_;refine kL 27 E ?_;refine G0 [30,0,0,4,22] ?_;exact ak (v:=false) ⟨by rw[hO],E⟩
 obtain⟨bb,off,x,hA,-,hx,-,-⟩:=(HL _ E).get (k:=k) hlt
 have hO:mD X.x (k:Int)=decide (X.x.me∈x.r.l):=by
  unfold mD;rw[Z9,hx];simp
 have HX:=L_ hx;have HO:=L_ hO;clear hx hO;refine ay 11 E ?_;refine ay 12 E ?_;refine ay 13 E ?_;refine ay 14 E ?_;refine ay 15 E ?_;refine ay 16 E ?_;refine aX 17 0 E ?_;refine ay 18 E ?_;refine ay 19 E ?_;refine ay 20 E ?_;refine Ie 21 E (v:=x.r) (fun w' E'=>(HL _ E').gI (i:=0) hA HX rfl) ?_;refine ay 22 E ?_;refine ay 23 E ?_;refine ay 24 E ?_;refine ay 25 E ?_;refine aX 26 0 E ?_;have hr:x.r.aA w2 w2 N:=((HL _ E).2.2.2.2 x (Zk HX)).1;refine cu 27 (oU x.r.A x.r.l.length x.r.c w2 x.r.l X.x.me w2 (by have:=hr.1;rwa[fF] at this) (by have:=hr.2.2.2.1;omega)) ?_;rintro _ w3 ⟨rfl,rfl⟩;refine⟨_,rfl,E,dL ?_⟩;refine G0 [30,0,0,4,22] ?_;exact ak (v:=.bool (decide (X.x.me∈x.r.l))) ⟨by rw[HO.out],E⟩
section
open Go.RowKit Bal
def mA (m:Wp.aY):Array Value:=#[m.f,m.t,.int .u8 m.k,m.g,m.s,m.b,m.p,.string (S m.v),m.i,m.tm]
def off (c:UInt8):Nat:=if c=115 then 4 else if c=98 then 5 else if c=112 then 6 else if c=105 then 8 else 9
theorem U4 (m:Wp.aY)(c:UInt8)(n:Int):(mA m).setIfInBounds (off c) n=mA (m.put c n):=by
 unfold off Wp.aY.put
 split
 ·rfl
 ·split
  ·rfl
  ·split
   ·rfl
   ·split<;>rfl
theorem OZ (m:Wp.aY)(c:UInt8):(mA m)[off c]?=some ((m.get c)):=by
 unfold off Wp.aY.get
 split
 ·rfl
 ·split
  ·rfl
  ·split
   ·rfl
   ·split<;>rfl
theorem Yq (m:Wp.aY)(v:List UInt8):(mA m).setIfInBounds 7 (.string (S v))=mA { m with v:=v }:=rfl
theorem Jp (n low high:Int)(w:World):Calls prog 225 #[n,low,high] w fun e w'=>e=.returned (.bool (decide (low≤n)&&decide (n≤high)))∧w=w':=by
 cases h1:decide (low≤n) with
 |true=>
  go_enter func225,ntmps225
  go_wp2;go_ret;exact⟨rfl,rfl⟩
 |false=>
  go_enter func225,ntmps225
  go_wp2;go_ret;exact⟨rfl,rfl⟩
theorem EP (k:Int)(w:World)(h0:0≤k)(h1:k≤255):Calls prog 224 #[.int .u8 k] w fun e w'=>e=.returned (.string (S (Wp.dM k)))∧Below w w w':=by
 by_cases hk:10≤k
 ·have e:Wp.dM k=[]:=by
   unfold Wp.dM
   repeat (rw[aaR (by omega)])
  rw[e];clear e
  go_enter func224,ntmps224
  go_wp2;go_ret;exact⟨rfl,(aaO _ _).alloc (Zh _) _⟩
 ·obtain⟨j,rfl⟩:=Int.eq_ofNat_of_zero_le h0
  match j,hk with
  |0,_|1,_|2,_|3,_|4,_|5,_|6,_|7,_|8,_|9,_=>
   go_enter func224,ntmps224
   go_wp2;go_ret;exact⟨rfl,(aaO _ _).alloc (Zh _) _⟩
  |j+10,hk=>exact absurd hk (by omega)
theorem yO (g:Nat)(c:UInt8)(w:World)(hc:Wp.letter c):Calls prog 226 #[g,.int .u8 (c.toNat:Int)] w fun e w'=>e=.returned (.pointer (some ⟨g,off c,none⟩))∧w=w':=by
 rcases hc with rfl|rfl|rfl|rfl|rfl
 all_goals
  go_enter func226,ntmps226
  go_wp2;go_ret;exact⟨rfl,rfl⟩
end
end Go.Proofs.YtaebfkcgdmodlaaGreatDoor
