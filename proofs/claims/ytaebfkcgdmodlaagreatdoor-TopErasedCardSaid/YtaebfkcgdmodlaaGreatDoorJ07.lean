/-
  A part of the proof that the erased node of towncrier reads nothing (TopErased).
-/
import Derived.Deep.Slices
import Derived.Deep.Fields
import Derived.Test.YtaebfkcgdmodlaaGreatDoorJ05
namespace Go.Proofs.YtaebfkcgdmodlaaGreatDoor
open Go.RowKit Go.Proofs.Tryz
set_option maxHeartbeats 16000000
set_option maxRecDepth 100000
set_option linter.unusedVariables false
set_option linter.unusedSimpArgs false
section
attribute [local irreducible] wpList av aH
theorem Uh (p b:Int)(s:ByteArray)(w:World)(hs:s.size≤1000000)(hp:i64 p)(hb:i64 b):Calls prog 177 #[.agg #[p,b,s]] w fun e w'=>∃v,e=.returned (.int .i64 v)∧Below w w w':=
 (rT p b s w (by omega) hp.1 hp.2 hb.1 hb.2).mono fun e w' ⟨h1,h2⟩=>⟨_,h1,h2⟩
theorem BS:∀args w,(callFunc 176 args).run prog w=.ok (.enter 176 args) w:=enters_of func176 (by kernel_rfl) rfl
theorem Xh (v:ByteArray)(w:World):Calls prog 176 #[v] w fun e w'=>∃q:Bool,e=.returned q∧True∧Below w w w':=by
 have E:=Env.start w
 go_enter func176,ntmps176
 refine G0 [5,0,4,5,84,0,4,22] ?_;exact ak ⟨_,rfl,trivial,E.aD⟩
def DU (y:lT):Prop:=y.v.size≤1000000∧i64 y.p∧i64 y.b
theorem Bc (X:Al)(w:World)(N:Nat)(hl:au.aA w w N X)(hN:N≤1000000)(hv:∀y∈X.vs.l,DU y) :
  Calls prog 109 #[X] w fun e w'=>∃v:Int,e=.returned v∧Below w w w':=by
 have HL:=L_ hl;have HV:=L_ hv;have hwn:X.lo.l.length≤N:=hl.1.2.2.2.1;have hdn:X.vs.l.length≤N:=hl.2.2.2.2.1;clear hl hv;have E:=Env.start w
 go_enter func109,ntmps109
 refine GD E [5,71,3,0,4,6,5,0,40,0,9] ?_;clear E;intro g1 w2 E
 by_cases h1:(X.lo.l.length:Int)<1
 case pos=>
  refine G0 [0,0,1,2,2,2,2,4,7,5,0,4,22,24] ?_;exact ak ⟨8,rfl,E.aD⟩
 refine GD E [84,40,0] ?_
 by_cases h2:4<(X.lo.l.length:Int)
 case pos=>
  refine G0 [0,0,4,7,5,0,4,22,24] ?_;exact ak ⟨8,rfl,E.aD⟩
 refine GD E [0,0,4,8,15,6,5,0,40,0,0,4,19] ?_;clear h1 h2
 go_loopw [20] (fun y wr=>∃(k:Nat),y=(k:Int)∧k≤X.lo.l.length∧Env w w [(g1,135,X)] [] wr) (fun y _=>X.lo.l.length - (intOf y).toNat)
 case atStart=>exact⟨0,rfl,Zq _,E⟩
 case round=>
  clear E;obtain⟨k,rfl,hk,E⟩:=hrel
  by_cases hlt:k<X.lo.l.length
  case pos=>
   have hw:IntKind.i64.wrap ((k:Int)+1)=((k+1:Nat):Int):=by rw[aaP _ (by omega)];rfl
   obtain⟨bb,off,x,hA,-,-,hcc,hx⟩:=(E.h HL).1.get (k:=k) hlt;have d1:wr.cell? ⟨bb,off+k,none⟩=some (.slice x.A x.l.length x.c):=by simpa[aj.sz,Sl.val] using hcc 0 _ rfl
   replace hx:=L_ hx;clear hcc;refine G0 [5,0,4,16,15,18,5,0] ?_;refine bQ d1 ?_;clear d1 hA;refine G0 [0,4,5,0,0] ?_
   by_cases c1:200<(x.l.length:Int)
   case pos=>
    refine G0 [0,0,1,1,0,4,7,5,0,4,22,24] ?_;exact ak ⟨8,rfl,E.aD⟩
   refine G0 [84] ?_;refine ah (nR x (fun _ _=>True) 176 BS #[] _ N hx (by omega) (fun x _ w' _=>Xh x w')) ?_;rintro _ w3 ⟨q,rfl,-,-,hb⟩;replace E:=E.up hb;clear hb;refine G0 [26] ?_;cases q
   case false=>
    refine G0 [0,4,8,21,23,0,0,25] ?_
    go_roundw
    case rel=>exact⟨k+1,rfl,hlt,E⟩
    case measure=>simp[intOf];omega
   refine G0 [0,4,7,5,0,4,22,24] ?_;exact ak ⟨8,rfl,E.aD⟩
  case neg=>
   refine G0 [5,0,4,17,27,28,6,5] ?_;clear hlt hk;refine GD E [0,40,0,0,4,19] ?_
   go_loopw [35] (fun y wr=>∃(k:Nat),y=(k:Int)∧k≤X.vs.l.length∧Env w w [(g1,135,X)] [] wr) (fun y _=>X.vs.l.length - (intOf y).toNat)
   case atStart=>exact⟨0,rfl,Zq _,E⟩
   case round=>
    clear E;obtain⟨k,rfl,hk,E⟩:=hrel
    by_cases hlt:k<X.vs.l.length
    case pos=>
     have hw:IntKind.i64.wrap ((k:Int)+1)=((k+1:Nat):Int):=by rw[aaP _ (by omega)];rfl
     obtain⟨bb,off,y,hA,-,hy,hcc,-⟩:=(E.h HL).2.get (k:=k) hlt;replace hcc:=L_ hcc;have HY:=L_ (HV y (Zk hy));clear hy;refine G0 [5,0,4,16,15,18,5,0,0] ?_;refine fA y hcc ?_;refine GD E [70,3,0,60,9] ?_;clear E;intro g6 w5 E;refine aC (bP 0 51 [] (aaL [0,1,2,3,4,5,6,7,8,9,10,11,12,13,14,15,16,17,18,19,20,21,22,23,24,25,26,27,28,29,30,31,32,33,34,35,36]++aaN [37]++aaL [38,39,40,41,42,43,44,45,46,47,48,49,50]) E ?_);clear E;intro w6 E;refine GD E [32,50] ?_
     by_cases c1:y.g<0
     case pos=>
      refine GD E [32,32,36,33,32,32,36,36,32,32,33,33,33,32,32,33,33,33,33,32,32,33,33,34,33,32,32,36,36,29,2,2,2,2,4,7,5,0,4,22,24] ?_;exact ak ⟨8,rfl,E.aD⟩
     refine GD E [32,32,32,50,32,51,32] ?_
     by_cases c2:(X.lo.l.length:Int)≤y.g
     case pos=>
      refine GD E [32,32,32,36,36,32,32,33,33,33,32,32,33,33,33,33,32,32,33,33,34,33,32,32,36,36,29,2,2,2,2,4,7,5,0,4,22,24] ?_;exact ak ⟨8,rfl,E.aD⟩
     refine GD E [32,32,32,32,50,32,51,32,50] ?_;obtain⟨j,hj⟩:∃j:Nat,y.g=(j:Int):=⟨y.g.toNat,by omega⟩;have hj2:j<X.lo.l.length:=by omega
     obtain⟨bb2,off2,x,hA2,-,hx,-,-⟩:=(E.h HL).1.get (k:=j) hj2;replace hx:=L_ hx;clear c1 c2;refine ni E ?_;refine ug E (v:=.slice x.A x.l.length x.c) (fun w' E'=>by have h:=Sl.aA.gI (E'.h HL).1 (i:=0) hA2 hx rfl;simpa[aj.sz,Sl.val] using h) ?_;refine ni E ?_
     by_cases c3:y.s≤(x.l.length:Int)
     case pos=>
      refine GD E [32,32,32,33,33,33,32,32,33,33,33,33,32,32,33,33,34,33,32,32,36,36,29,2,2,2,2,4,7,5,0,4,22,24] ?_;exact ak ⟨8,rfl,E.aD⟩
     refine GD E [32,32,32,32,50] ?_
     by_cases c4:200<y.s
     case pos=>
      refine GD E [32,32,32,33,33,33,33,32,32,33,33,34,33,32,32,36,36,29,2,2,2,2,4,7,5,0,4,22,24] ?_;exact ak ⟨8,rfl,E.aD⟩
     refine GD E [35,50] ?_
     by_cases c5:(y.p==0)=true
     case pos=>
      refine GD E [32,32,32,33,33,34,33,32,32,36,36,29,2,2,2,2,4,7,5,0,4,22,24] ?_;exact ak ⟨8,rfl,E.aD⟩
     replace c5:(y.p==0)=false:=by simpa using c5
     iterate 4 refine ni E ?_
     refine gZ 0 3 E ?_;refine bT (Uh y.p y.b y.v _ HY.1 HY.2.1 HY.2.2) ?_;rintro _ w7 ⟨v3,rfl,hb⟩;replace E:=E.up hb;clear hb;refine⟨_,rfl,E.weak,D_n ?_⟩
     by_cases c6:(v3 !=0)=true
     case pos=>
      refine GD E [32,32,32,36,36,29,2,2,2,2,4,7,5,0,4,22,24] ?_;exact ak ⟨8,rfl,E.aD⟩
     replace c6:(v3 !=0)=false:=by simpa using c6
     iterate 4 refine ni E ?_
     clear c3 c4 c5 c6 hA2 hj hj2 hx
     by_cases h0:0<k
     case' pos=>
      have h1:((0:Int)<(k:Int)):=by omega
      have hw2:IntKind.i64.wrap ((k:Int) - 1)=((k - 1:Nat):Int):=by rw[aaP _ (by omega)];omega
      have hj1:k - 1<X.vs.l.length:=by omega
      obtain⟨z,hz⟩:∃z,X.vs.l[k - 1]?=some z:=⟨_,Zl hj1⟩;replace hz:=L_ hz;refine GD E [32,32,32,51,32,32,32] ?_;refine R4 E z (fun w' E' q u hu=>by have h:=Sl.aA.gI (E'.h HL).2 (i:=q) hA hz hu;simpa[aj.sz] using h) ?_;refine gZ 0 5 E ?_;refine ow ?_;refine ah (rC z y _) ?_;rintro _ w8 ⟨rfl,hb⟩;replace E:=E.up hb;clear hb;refine G0 [26] ?_;obtain⟨q,hq⟩:∃q,uF (bZ z.g y.g) (bZ z.s y.s)=q:=⟨_,rfl⟩;rw[hq];clear hq
      by_cases c7:0≤q
      case pos=>
       refine G0 [84,4,7,5,0,4,22,24] ?_;exact ak ⟨8,rfl,E.aD⟩
      refine G0 [84,4,8,21,23] ?_;clear c7 h1 h0 hw2 hj1 hz
     case' neg=>
      have h1:¬((0:Int)<(k:Int)):=by omega
      refine GD E [32,32,36,33,33,29,1,1,0,0,4,8,21,23] ?_;clear h1 h0
     all_goals
      refine G0 [0,0,25] ?_
      go_roundw
      case rel=>exact⟨k+1,rfl,hlt,E.drop 1⟩
      case measure=>simp[intOf];omega
    case neg=>
     refine G0 [5,0,4,17,27,28,5,0,4,22] ?_;exact ak ⟨0,rfl,E.aD⟩
theorem CF (s r:Sl (Sl ByteArray))(w:World)(N:Nat)(h:s.aA w w N)(h2:r.aA w w N)(hN:N≤1000000) :
  Calls prog 228 #[s,r,.func (.func 229) #[] #[]] w fun e w'=>∃b,e=.returned (.bool b)∧Below w w w':=by
 have HL:=L_ h;have HL2:=L_ h2;have hsn:s.l.length≤N:=h.2.2.2.1;clear h h2;have E:=Env.start w
 go_enter func228,ntmps228
 refine G0 [5,0,4,6,5,84,0] ?_
 by_cases h0:((s.l.length:Int) !=(r.l.length:Int))=true
 case pos=>
  refine G0 [0,4,7,5,0,4,22,24] ?_;exact ak ⟨false,rfl,E.aD⟩
 replace h0:((s.l.length:Int) !=(r.l.length:Int))=false:=by simpa using h0
 refine G0 [0,4,8,15,6,5,84,4,19] ?_;have hlr:Hid (s.l.length=r.l.length):=L_ (by have h:(s.l.length:Int)=r.l.length:=(by simpa using h0);omega);clear h0
 go_loopw [17] (fun y wr=>∃(k:Nat),y=(k:Int)∧k≤s.l.length∧Env w w [] [] wr) (fun y _=>s.l.length - (intOf y).toNat)
 case atStart=>exact⟨0,rfl,Zq _,E⟩
 case round=>
  clear E;obtain⟨k,rfl,hk,E⟩:=hrel
  by_cases hlt:k<s.l.length
  case pos=>
   have hw:IntKind.i64.wrap ((k:Int)+1)=((k+1:Nat):Int):=by rw[aaP _ (by omega)];rfl
   have hlt2:k<r.l.length:=hlr.out▸hlt;obtain⟨bb,off,x,hA,-,-,hcc,hx⟩:=(E.l HL).get (k:=k) hlt;have d1:wr.cell? ⟨bb,off+k,none⟩=some (.slice x.A x.l.length x.c):=by simpa[aj.sz,Sl.val] using hcc 0 _ rfl
   replace hx:=L_ hx;clear hcc;refine G0 [5,0,4,16,15,18,5,0,0] ?_;refine bQ d1 ?_;obtain⟨bb2,off2,x2,hA2,-,-,hcc,hx2⟩:=(E.l HL2).get (k:=k) hlt2;have d2:wr.cell? ⟨bb2,off2+k,none⟩=some (.slice x2.A x2.l.length x2.c):=by simpa[aj.sz,Sl.val] using hcc 0 _ rfl
   replace hx2:=L_ hx2;clear hcc;refine G0 [0,0,4,5,84] ?_;refine bQ d2 ?_;clear d1 d2 hA hA2;refine G0 [0,4,5,84] ?_;refine ah (je x x2 _ N hx hx2 (by omega)) ?_;rintro _ w2 ⟨q,rfl,hb⟩;replace E:=E.up hb;clear hb;refine G0 [26] ?_;cases q
   case false=>
    refine G0 [0,4,7,5,0,4,22,24] ?_;exact ak ⟨false,rfl,E.aD⟩
   refine G0 [0,4,8,21,23,0,0,25] ?_
   go_roundw
   case rel=>exact⟨k+1,rfl,hlt,E⟩
   case measure=>simp[intOf];omega
  case neg=>
   refine G0 [5,0,4,17,27,28,5,0,4,22] ?_;exact ak ⟨true,rfl,E.aD⟩
theorem Qr (X Y:Al)(w:World)(N:Nat)(hl:au.aA w w N X)(hl2:au.aA w w N Y)(hN:N≤1000000) :
  Calls prog 155 #[X,Y] w fun e w'=>∃b,e=.returned (.bool b)∧Below w w w':=by
 have HL:=L_ hl;have HL2:=L_ hl2;clear hl hl2;have E:=Env.start w
 go_enter func155,ntmps155
 refine GD E [5,71,3,71,3,0,4,5,0,41,0,40,9] ?_;clear E;intro g2 g3 w3 E;refine ah (CF X.lo Y.lo _ N (E.h HL).1 (E.h HL2).1 hN) ?_;rintro _ w4 ⟨q,rfl,hb⟩;replace E:=E.up hb;clear hb;refine G0 [26] ?_;cases q
 case false=>
  refine G0 [0,1,80,2,4,22] ?_;exact ak ⟨false,rfl,E.aD⟩
 refine GD E [0,0,41,0,40] ?_;refine ah (sQ X.vs Y.vs _ N (E.h HL).2 (E.h HL2).2 (by omega)) ?_;rintro _ w5 ⟨q2,rfl,hb⟩;replace E:=E.up hb;clear hb;refine G0 [26,0,0,4,22] ?_;exact ak ⟨q2,rfl,E.aD⟩
end
variable{ls:List (List UInt8)}{mem r rost:List Int}{D k:Nat}{u0 v v0:Value}{W W' w:World}
section
open Go.RowKit Go.Shelf
namespace Lg
open Cp
def good (rost:List Int)(c:dD):Bool:=c.k==3&&!(c.mem.any fun x=>!decide (x∈rost))
def LZ (rost mem:List Int)(l:List dD):List Int:=match l.reverse.find? (good rost) with
 |some c=>c.mem
 |none=>mem
def members (rost mem:List Int)(ls:List (List UInt8)):List Int×Int:=
 if cB rost mem=0 then(if (iA ls).2=0 then(LZ rost mem (iA ls).1,0) else([],(iA ls).2)) else([],cB rost mem)
theorem ES {x:Int}(h:cB rost mem=x)(hx:x≠0):members rost mem ls=([],x):=by
 unfold members;rw[h,aaR hx]
theorem C9 {x:Int}(h:cB rost mem=0)(h2:(iA ls).2=x)(hx:x≠0):members rost mem ls=([],x):=by
 unfold members;rw[aaS h,h2,aaR hx]
theorem G7 {l:List dD}(h:cB rost mem=0)(h2:iA ls=(l,0)):members rost mem ls=(LZ rost mem l,0):=by
 unfold members;rw[aaS h,h2,aaS rfl]
end Lg
theorem Lg.Mk {l:List Cp.dD}(h:Lg.iA ls=(l,0)):l.length=ls.length:=by
 by_cases hb:200<ls.length
 ·rw[Lg.nE hb] at h;cases h
 ·cases ha:Lg.all ls with
  |none=>rw[Lg.rH hb ha] at h;cases h
  |some q=>
   rw[Lg.nH hb ha] at h;injection h with h
   subst h;exact Lg.Kj ha
theorem LH {cs:List HC}{ys:List (IX cs)}(h:Down cs.length ys)(hl:ys.length=cs.length)(hb:∀x∈ys,Lg.good rost x.1.2.cmd=false):(cs.map HC.cmd).reverse.find? (Lg.good rost)=none:=by
 rw[List.find?_eq_none];intro c hc;rw[List.mem_reverse,ZA] at hc;obtain⟨D,hD,rfl⟩:=hc;obtain⟨k,hk,hkD⟩:=List.mem_iff_getElem.1 hD;have hi:cs.length - 1 - k<ys.length:=by omega
 have hx:=Zl hi;obtain⟨x,hxe⟩:∃x,ys[cs.length - 1 - k]'hi=x:=⟨_,rfl⟩;rw[hxe] at hx;have h1:=h _ _ hx;have h2:=x.2;rw[show x.1.1=k by omega,Zl hk,hkD] at h2;injection h2 with h2
 rw[h2,hb x (Zk hx)];simp
theorem Lp {cs:List HC}{ini:List (IX cs)}{last:IX cs}(h:Down cs.length (ini++[last]))(hb:∀x∈ini,Lg.good rost x.1.2.cmd=false)(hg:Lg.good rost last.1.2.cmd=true):(cs.map HC.cmd).reverse.find? (Lg.good rost)=some last.1.2.cmd:=by
 have h0:=h ini.length last (by simp);obtain⟨k,hk⟩:∃k,last.1.1=k:=⟨_,rfl⟩;rw[hk] at h0;have hl:=last.2;rw[hk] at hl;have hkl:k<cs.length:=by omega
 rw[List.find?_eq_some_iff_append];refine⟨hg,((cs.drop (k+1)).map HC.cmd).reverse,((cs.take k).map HC.cmd).reverse,?_,?_⟩
 ·have e:cs=cs.take k++last.1.2::cs.drop (k+1):=by
   have h1:=Zl hkl;rw[hl] at h1;injection h1 with h1
   rw[h1,←List.drop_eq_getElem_cons hkl,aaB]
  rw[show(cs.map HC.cmd).reverse=((cs.take k++last.1.2::cs.drop (k+1)).map HC.cmd).reverse by rw[←e]];simp
 ·intro c hc;rw[List.mem_reverse,ZA] at hc;obtain⟨D,hD,rfl⟩:=hc;obtain⟨i,hi,hiD⟩:=List.mem_iff_getElem.1 hD;rw[ZK] at hi;rw[List.getElem_drop] at hiD;have hj:cs.length - 1 - (k+1+i)<ini.length:=by omega
  have hx:=Zl hj;obtain⟨x,hxe⟩:∃x,ini[cs.length - 1 - (k+1+i)]'hj=x:=⟨_,rfl⟩;rw[hxe] at hx;have h1:=h (cs.length - 1 - (k+1+i)) x (by rw[Z0 hj];exact hx);have h2:=x.2;rw[show x.1.1=k+1+i by omega,Zl (by omega),hiD] at h2;injection h2 with h2
  rw[h2,hb x (Zk hx)];rfl
def Vh (l m:List Int)(ls:List (List UInt8))(base:Nat)(e:Ending)(w':World):Prop:=∃(R:Option Addr) (k c:Nat) (r:List Int) (x:Int),e=.returned (.tuple #[.slice R k c,x])∧w'.ownsRow base 3 1 (.slice R k c) k (ci r)∧Lg.members l m ls=(r,x)
def Got (w:World)(v:Value)(x:Int)(k:Nat)(r:List Int)(W:World):Prop:=
 W.cell? ⟨w.heap.size+1,0,none⟩=some v∧W.cell? ⟨w.heap.size+1+1,0,none⟩=some (.int .i64 x)∧W.ownsRow w 3 1 v k (ci r)∧Below w w W
theorem Got.kept {x:Int}{row:Option Nat}(h:Got w v x k r W)(hg:W.grownBy W' row)(hr:∀q,row=some q→w.heap.size≤q∧∃o:Obj,W.heap[q]?=some o∧o.isCells=false):Got w v x k r W':=by
 obtain⟨h1,h2,h3,h4⟩:=h;refine⟨cell_kept h1 hg (fun q e=>(hr q e).2),cell_kept h2 hg (fun q e=>(hr q e).2),iF h3 fun g hgb=>?_,h4.grown hg h4.size fun q e=>(hr q e).1⟩;obtain⟨cs,hc⟩:=vG h3 hgb;refine hg.block g (Z6.1 hc).1 fun e=>?_;obtain⟨o,ho,hn⟩:=(hr g e.symm).2;rw[hc] at ho;injection ho with ho
 subst ho;cases hn
theorem Got.stored {x:Int}(k4:aF W (w.heap.size+1) 33 #[v0])(k5:aF W (w.heap.size+1+1) 29 #[u0])(ho:W.ownsRow w 3 1 v k (ci r))(hb:Below w w W) :
  Got w v x k r ((W.setCell ⟨w.heap.size+1,0,none⟩ v).setCell ⟨w.heap.size+1+1,0,none⟩ x):=by
 have q4:aF (W.setCell ⟨w.heap.size+1,0,none⟩ v) (w.heap.size+1) 33 #[v]:=by simpa using k4.aM 0 v
 have q5:aF (W.setCell ⟨w.heap.size+1,0,none⟩ v) (w.heap.size+1+1) 29 #[u0]:=k5.far (by simp) v;have r4:aF ((W.setCell ⟨w.heap.size+1,0,none⟩ v).setCell ⟨w.heap.size+1+1,0,none⟩ x) (w.heap.size+1) 33 #[v]:=q4.far (by simp) _;have r5:aF ((W.setCell ⟨w.heap.size+1,0,none⟩ v).setCell ⟨w.heap.size+1+1,0,none⟩ x) (w.heap.size+1+1) 29 #[x]:=by simpa using q5.aM 0 x
 refine⟨r4.cell 0,r5.cell 0,?_,(hb.setCell (p:=⟨w.heap.size+1,0,none⟩) (by simp) _).setCell (p:=⟨w.heap.size+1+1,0,none⟩) (by simp;omega) _⟩;have o1:=ownsRow_setCell_other ho (a:=⟨w.heap.size+1,0,none⟩) (aQ ho k4 (by decide)) v;exact ownsRow_setCell_other o1 (a:=⟨w.heap.size+1+1,0,none⟩) (aQ o1 q5 (by decide)) _
theorem Got.leave {R:Option Addr}{c:Nat}{x:Int}(h:Got w (.slice R k c) x k r W){l m:List Int}(hm:Lg.members l m ls=(r,x))(hK:W.heap[D]?=some (.deferred (some [])))(hD:w.heap.size≤D)(tmps:Array Value)
  (h4:tmps[4]?=some (.pointer (some ⟨w.heap.size+1,0,none⟩))) (h5:tmps[5]?=some (.pointer (some ⟨w.heap.size+1+1,0,none⟩))) :
  bodyPostM Fence.wide 10 prog f294 (fun e w'=>Vh l m ls w e w'∧Below w w w') .ret { tmps:=tmps,defers:=[{ target:=.collected D,args:=#[] }] } W:=by
 refine⟨by simp,.inl ⟨_,_,rfl,run_takeDeferred hK,?_⟩⟩;have h2:=h.kept (grownBy_putObj' W D (.deferred none)) (fun q e=>by cases e;exact⟨hD,_,hK,rfl⟩);obtain⟨c4,c5,ho,hb⟩:=h2;refine⟨.tuple #[.slice R k c,x],?_,⟨R,k,c,r,x,rfl,ho,hm⟩,hb⟩;simp[results,f294,go_sem,h4,h5,c4,c5]
theorem Got.leave0 {R:Option Addr}{c:Nat}{x:Int}(h:Got w (.slice R k c) x k r W){l m:List Int}(hm:Lg.members l m ls=(r,x))(tmps:Array Value)
  (h4:tmps[4]?=some (.pointer (some ⟨w.heap.size+1,0,none⟩))) (h5:tmps[5]?=some (.pointer (some ⟨w.heap.size+1+1,0,none⟩))) :
  bodyPostM Fence.wide 10 prog f294 (fun e w'=>Vh l m ls w e w'∧Below w w w') .ret { tmps:=tmps,defers:=[] } W:=by
 obtain⟨c4,c5,ho,hb⟩:=h;refine⟨.tuple #[.slice R k c,x],?_,⟨R,k,c,r,x,rfl,ho,hm⟩,hb⟩;simp[results,f294,go_sem,h4,h5,c4,c5]
attribute [local go_sem] Oper.semAt_some
theorem Cc (A:Option Addr)(n c:Nat)(l:List Int)(A':Option Addr)(n' c':Nat)(m:List Int)(LA:Option Addr)(Ln Lc:Nat)(ls:List ByteArray)(w:World)(hr:Reads w w 1 A n (ci l))(hr':Reads w w 1 A' n' (ci m))(hl:Reads w w 1 LA Ln (ct ls))
  (hn:n≤9223372036854775807) (hn':n'≤9223372036854775807) (hLn:Ln≤1000000000) (hz:∀s∈ls,s.size≤maxLen) :
  Calls prog 294 #[.agg #[.slice A n c,.slice A' n' c'],.slice LA Ln Lc] w fun e w'=>Vh l m (tx ls) w e w'∧Below w w w':=by
 obtain⟨cg,hcg⟩:∃x,cB l m=x:=⟨_,rfl⟩;have HCG:=L_ hcg
 have B3:Hid (Below w w (((w.alloc (.cells #[.slice A n c,.slice A' n' c'] 53)).alloc (.cells #[()] 33)).alloc (.cells #[.int .i64 0] 29))):=by
  exact(((aaO _ _).alloc (Zh _) _).alloc (by simp) _).alloc (by simp;omega) _
 have KG:Hid (aF (((w.alloc (.cells #[.slice A n c,.slice A' n' c'] 53)).alloc (.cells #[()] 33)).alloc (.cells #[.int .i64 0] 29)) w 53 #[.slice A n c,.slice A' n' c']):=((aF.new w _ _).alloc _).alloc _
 have KR:Hid (aF (((w.alloc (.cells #[.slice A n c,.slice A' n' c'] 53)).alloc (.cells #[()] 33)).alloc (.cells #[.int .i64 0] 29)) (w.heap.size+1) 33 #[()]):=by
  have:=(aF.new (w.alloc (.cells #[.slice A n c,.slice A' n' c'] 53)) 33 #[()]).alloc (.cells #[.int .i64 0] 29);rwa[World.size_alloc] at this
 have KE:Hid (aF (((w.alloc (.cells #[.slice A n c,.slice A' n' c'] 53)).alloc (.cells #[()] 33)).alloc (.cells #[.int .i64 0] 29)) (w.heap.size+1+1) 29 #[.int .i64 0]):=by
  have:=(aF.new ((w.alloc (.cells #[.slice A n c,.slice A' n' c'] 53)).alloc (.cells #[()] 33)) 29 #[.int .i64 0]);rwa[World.size_alloc,World.size_alloc] at this
 generalize hw3:((w.alloc (.cells #[.slice A n c,.slice A' n' c'] 53)).alloc (.cells #[()] 33)).alloc (.cells #[.int .i64 0] 29)=w3 at *;have HW3:=L_ hw3;have s3:Hid (w3.heap.size=w.heap.size+1+1+1):=by rw[Hid,←hw3];simp
 have HR:=L_ hr;have HR':=L_ hr';have HL:=L_ hl;have HZ:=L_ hz;have HG:=L_ (rz A n c l A' n' c' m w3 ((hr.below B3).more B3.size) ((hr'.below B3).more B3.size) (by omega) (by omega));have HC:=L_ fun w1 (hb:Below w3 w3 w1)=>mq LA Ln Lc w ls w1 ((hl.below B3).below (hb.mono B3.size)) (by have:=hb.size;have:=B3.size;omega) (by omega) hz;rw[hcg] at HG;clear hr hr' hl hz hcg;refine(callsIn_wide (n:=10)).1 ?_;refine callsIn_of_wp_marks func294 rfl trivial ?_ rfl;simp only[ntmps294,List.size_toArray,ZI,aai,Nat.reduceAdd,Nat.reduceSub,Array.replicate_succ,Array.replicate_zero,List.push_toArray,List.append_toArray,aay,aap];refine wpIn_wide.2 ?_
 go_upto_region 1 with fail
 clear hw3;have c0:=KG.cell 0;have c1:=KG.cell 1;go_wp2_with fail;refine HG.mono ?_;rintro e w1 ⟨rfl,hb⟩;have HB1:=L_ hb;have HC1:=L_ (HC w1 hb);have KG1:=L_ (KG.below hb KG.lt);have KR1:=L_ (KR.below hb KR.lt);have KE1:=L_ (KE.below hb KE.lt);have s1:=hb.size;clear hb HC HG KG KR KE c0 c1
 by_cases hcg0:cg=0
 ·subst hcg0;obtain⟨hck1,hck2,_⟩:=jk HCG;have hq1:=(dz hck1).2;have hq2:=(dz hck2).2;have hq3:=HR.jw;have hq4:=HR'.jw;have hn6:n≤6:=by omega
  have hn7:n'≤6:=by omega
  clear hck1 hck2 hq1 hq2 hq3 hq4;go_wp2_with fail;refine HC1.mono ?_;rintro e w2 ⟨⟨ds,x,DA,dc,rfl,ho,hd,he⟩,hb⟩;have HB2:=L_ hb;have KG2:=L_ (KG1.below hb KG1.lt);have KR2:=L_ (KR1.below hb KR1.lt);have KE2:=L_ (KE1.below hb KE1.lt);have HO:=L_ ho;have HD:=L_ hd;have HE:=L_ he;have s2:=hb.size;clear ho hd he hb HC1 KG1 KR1 KE1
  by_cases hx0:x=0
  ·subst hx0;have HX:Hid (Lg.iA (tx ls)=(ds.map HC.cmd,0)):=HE.symm;have HM:=L_ (Lg.G7 HCG HX);go_wp2_with fail;refine(NH DA ds.length dc w2).mono ?_;rintro e W0 ⟨rfl,hW0⟩;have hbk:Below w2 w2 W0:=by rw[hW0];exact(aaO _ _).alloc (Zh _) _
   have HBK:=L_ (hbk);have KS:Hid (aF W0 w2 99 #[.slice DA ds.length dc]):=by rw[hW0];exact aF.new _ _ _
   have s0:W0.heap.size=w2.heap.size+1:=by rw[hW0];simp
   have KG0:=L_ (KG2.below hbk KG2.lt);have KR0:=L_ (KR2.below hbk KR2.lt);have KE0:=L_ (KE2.below hbk KE2.lt);have HO0:=L_ (jB HO hbk);have HD0:Hid (∀D∈ds,fK W0 w1 D):=fun D hD=>(HD D hD).below hbk;have HW0:Hid (Below w w W0):=B3.trans ((HB1.mono B3.size).trans ((HB2.mono (by have:=s3.out;omega)).trans (hbk.mono (by have:=s3.out;omega))))
   have hdl:ds.length≤1000000000:=by
    have h1:=Lg.Mk HX;rw[Z5,F9,HL.out.Bq] at h1;omega
   clear hW0 hbk HO HD KG2 KR2 KE2 HE;have hsz:w.heap.size+3≤w1.heap.size:=by have:=s3.out;omega
   go_wp2_with fail;refine(wpIn_wide (n:=10)).1 ?_
   refine wpIn_rangeFunc_ownH (F:=Fence.wide) (n:=10) rfl (by omega) (gf:=335) (lb:=#[w2]) rfl trivial (enters_of func335 (by kernel_rfl) rfl)
    (Gf Fence.wide 9 trivial rfl (by omega) w2 W0 DA ds.length dc ds hdl W0 (by omega) (Zh _) (KS.cell 0) (IE HO0)) belowK_t (belowK_b (Zh _)) (aaO _ _) (fun _=>rfl)
    (fun pre W=>(∀x∈pre,Lg.good l x.1.2.cmd=false)∧Below W0 W0 W)
    (fun cd pre W=>(cd=.ret∧∃ini last,pre=ini++[last]∧(∀x∈ini,Lg.good l x.1.2.cmd=false)∧Lg.good l last.1.2.cmd=true∧Got w (.slice last.1.2.MA last.1.2.Mn last.1.2.Mc) 0 last.1.2.Mn last.1.2.mem W))
    (OwnFrom.and (ownFrom_pure _ _) (ownFrom_below (Zh _) (Zh _)))
    ?ix
    ⟨by simp,aaO _ _⟩
    (fun x a' W=>∃Bx,W0.heap.size≤Bx∧aF W Bx 37 #[.int .u8 x.1.2.k,.int .i64 x.1.2.mi,.slice x.1.2.GA x.1.2.Gn x.1.2.Gc,.int .i64 x.1.2.mt,.string x.1.2.key,.string x.1.2.body,.int .i64 x.1.2.i,.int .i64 x.1.2.tm,.slice x.1.2.MA x.1.2.Mn x.1.2.Mc,.int .i64 x.1.2.tp,.int .i64 x.1.2.who,.int .i64 x.1.2.n]∧a'={ tmps:=#[.agg #[.slice A n c,.slice A' n' c'],.slice LA Ln Lc,.pointer (some ⟨w.heap.size,0,none⟩),aaM,.pointer (some ⟨w.heap.size+1,0,none⟩),.pointer (some ⟨w.heap.size+1+1,0,none⟩),.int .i64 0,.slice DA ds.length dc,.int .i64 0,aaM,.pointer (some ⟨Bx,0,none⟩),.agg #[.slice A n c,.slice A' n' c'],.int .i64 0,.int .i64 0,.bool false,aaM,.tuple #[.slice DA ds.length dc,.int .i64 0],.slice LA Ln Lc,.tuple #[.slice DA ds.length dc,.int .i64 0],.slice DA ds.length dc,.int .i64 0,.int .i64 0,.bool false,aaM,.slice DA ds.length dc,.func (.func 335) #[] #[.pointer (some ⟨w2.heap.size,0,none⟩)],.int .i64 (x.1.1:Int),.agg #[.int .u8 x.1.2.k,.int .i64 x.1.2.mi,.slice x.1.2.GA x.1.2.Gn x.1.2.Gc,.int .i64 x.1.2.mt,.string x.1.2.key,.string x.1.2.body,.int .i64 x.1.2.i,.int .i64 x.1.2.tm,.slice x.1.2.MA x.1.2.Mn x.1.2.Mc,.int .i64 x.1.2.tp,.int .i64 x.1.2.who,.int .i64 x.1.2.n],aaM,aaM,aaM,aaM,aaM,aaM,aaM,aaM,aaM,aaM,aaM,aaM,aaM],defers:=[] })
    ?ax ?assign ?body ?done ?hstop
   case ix=>
    intro cd s A1 B1 row hs hg hr;obtain⟨h1,ini,last,h2,h3,h4,h5⟩:=hs;exact⟨h1,ini,last,h2,h3,h4,h5.kept hg fun q e=>⟨by have:=(hr q e).1;omega,(hr q e).2⟩⟩
   case ax=>
    intro x a' _ A1 B1 row hs hg hr;obtain⟨Bx,h1,h2,h3⟩:=hs;exact⟨Bx,h1,(grownBy_keeps_cells hg (fun q e=>(hr q e).2) h2 rfl).trans h2,h3⟩
   case assign=>
    rintro l0 pre ⟨⟨j,D⟩,hD⟩ W K ⟨hi,hib⟩ hK;dsimp only[Jv]
    gi_wp2
    exact hK _ _ ((KeepsOthers.alloc _ _).from _) ((aaO _ W).alloc hib.size _) ⟨hi,hib.alloc hib.size _⟩ ⟨W,hib.size,aF.new W _ _,rfl⟩
   case body=>
    rintro l0 pre ⟨⟨j,D⟩,hD⟩ a' W hl ⟨r,hrr⟩ ⟨hng,hbw⟩ ⟨Bx,hBx,bX,rfl⟩ hlt;have hDm:D∈ds:=Zk hD;have hoc:=((HD0 D hDm).mono (show w.heap.size≤w1.heap.size by omega)).below hbw;have HOC:=L_ hoc;have hat:=hoc.at_;have hmn:D.Mn≤9223372036854775807:=by have:=hat.mc;have:=hat.mm;omega
    have hwW:Below w w W:=HW0.trans (hbw.mono HW0.size);have RA:Un W w l:=⟨A,n,c,A',n',c',KG0.below hbw KG0.lt,(HR.below hwW).more hwW.size,by omega⟩;obtain⟨bb,hbb⟩:∃b,(D.mem.any fun x=>!decide (x∈l))=b:=⟨_,rfl⟩;have HCF:=L_ (Gu w l D.MA D.Mn D.Mc D.mem W bb hbb hat.rm hmn RA);have HG:Hid (Lg.good l D.cmd=(D.k==3&&!bb)):=by rw[Hid,←hbb];rfl
    have c0:W.cell? ⟨Bx,0,none⟩=some (.int .u8 D.k):=bX.cell 0;have c8:W.cell? ⟨Bx,8,none⟩=some (.slice D.MA D.Mn D.Mc):=bX.cell 8;have KRW:=L_ (KR0.below hbw KR0.lt);have KEW:=L_ (KE0.below hbw KE0.lt);have HNG:=L_ hng;have HBW:=L_ hbw;have HWW:=L_ hwW;clear hoc hat RA hbb hng hbw hwW hrr
    have goes:Lg.good l D.cmd=false→∀x∈pre++[(⟨(j,D),hD⟩:IX ds)],Lg.good l x.1.2.cmd=false:=by
     intro hf x hx
     rcases Zm.1 hx with hx|hx
     ·exact HNG x hx
     ·obtain rfl:=Zp.1 hx;exact hf
    have GO:=L_ goes;clear goes
    by_cases hk:D.k=3
    ·rw[hk] at c0;have h1':1≤(10:Nat) - 1 - 1:=by omega
     cases bb with
     |true=>
      have HG2:Hid (Lg.good l D.cmd=false):=by rw[Hid,HG.out];simp
      gi_wp2_with (refine⟨trivial,?_⟩;gi_at_call 38;refine(CallsIn.inRound l0 (callsIn_wide.2 HCF)).mono ?_;rintro e w' ⟨rfl,rfl⟩)
      exact⟨KeepsFrom.refl _ _,aaO _ _,by first|exact GO HG2|exact fun a b h hm=>GO HG2 ⟨(a,b),h⟩ hm,by first|exact HBW|(have h:=HBW.out;rw[s0] at h;exact h)⟩
     |false=>
      have HG2:Hid (Lg.good l D.cmd=true):=by rw[Hid,HG.out,hk];rfl
      have GT:=L_ (Got.stored (w:=w) (v:=.slice D.MA D.Mn D.Mc) (x:=0) (k:=D.Mn) (r:=D.mem) KRW KEW HOC.om HWW);have cr:=KRW.cell 0;have ce:=KEW.cell 0;have fr:=KRW.frozen 0;have fe:=KEW.frozen 0
      gi_wp2_with (refine⟨trivial,?_⟩;gi_at_call 38;refine(CallsIn.inRound l0 (callsIn_wide.2 HCF)).mono ?_;rintro e w' ⟨rfl,rfl⟩)
      exact⟨((KeepsOthers.setCell _ _ _).from _).trans ((KeepsOthers.setCell _ _ _).from _),rfl,pre,_,rfl,HNG,HG2,GT⟩
    ·have q0:(D.k==3)=false:=ZX.2 hk;have HG2:Hid (Lg.good l D.cmd=false):=by rw[Hid,HG.out,q0];rfl
     gi_wp2
     exact⟨KeepsFrom.refl _ _,aaO _ _,by first|exact GO HG2|exact fun a b h hm=>GO HG2 ⟨(a,b),h⟩ hm,by first|exact HBW|(have h:=HBW.out;rw[s0] at h;exact h)⟩
   case done=>
    rintro D ys W hD ⟨hdn,hyl⟩ ⟨hng,hbw⟩ hK;have hwW:Below w w W:=HW0.trans (hbw.mono HW0.size)
    have HM2:Hid (Lg.members l m (tx ls)=(m,0)):=by
     rw[Hid,HM.out];unfold Lg.LZ;rw[LH hdn hyl hng]
    have HCL:=L_ (IG A' n' c' m W w (HR'.below hwW) hwW.size (by omega));have KGW:=L_ (KG0.below hbw KG0.lt);have KRW:=L_ (KR0.below hbw KR0.lt);have KEW:=L_ (KE0.below hbw KE0.lt);have HWW:=L_ hwW;have HK:=L_ hK;have hDW:D<W.heap.size:=(Z6.1 hK).1;have hDw:w.heap.size≤D:=by have:=HW0.size;omega
    have hDn:w.heap.size+1+1<D:=by omega
    have c1:W.cell? ⟨w,1,none⟩=some (.slice A' n' c'):=KGW.cell 1;clear hwW hK hdn hyl hng hbw;go_wp2_with fail;refine HCL.mono ?_;rintro e W5 ⟨R,c2,rfl,ho5,hb5⟩;have hw5:Below w w W5:=HWW.trans (hb5.mono HWW.size);have K4:=L_ (KRW.below hb5 KRW.lt);have K5:=L_ (KEW.below hb5 KEW.lt);have GT:=L_ (Got.stored (w:=w) (v:=.slice R n' c2) (x:=0) (k:=n') (r:=m) K4 K5 (aG ho5 HWW.size) hw5)
    have HK5:Hid (((W5.setCell ⟨w.heap.size+1,0,none⟩ (.slice R n' c2)).setCell ⟨w.heap.size+1+1,0,none⟩ (.int .i64 0)).heap[D]?=some (.deferred (some []))):=
     (KeepsOthers.setCell _ _ _).same D _ ((KeepsOthers.setCell _ _ _).same D _ ((hb5.block D hDW).trans HK) rfl) rfl
    have cr:=K4.cell 0;have ce:=K5.cell 0;have fr:=K4.frozen 0;have fe:=K5.frozen 0;clear ho5 hb5 hw5 HCL c1;go_wp2;exact Got.leave GT HM2 HK5 hDw _ rfl rfl
   case hstop=>
    rintro D cd pre W hD hdn ⟨rfl,ini,last,rfl,hng,hg,hgot⟩ hK
    have HM2:Hid (Lg.members l m (tx ls)=(last.1.2.mem,0)):=by
     rw[Hid,HM.out];unfold Lg.LZ;rw[Lp hdn hng hg];rfl
    have hDw:w.heap.size≤D:=by have:=HW0.size;omega
    have HGOT:=L_ hgot;have HK:=L_ hK;clear hgot hK hdn hng hg;refine wpIn_wide.2 ?_;go_wp2;exact Got.leave HGOT HM2 HK hDw _ rfl rfl
  ·have HM:Hid (Lg.members l m (tx ls)=([],x)):=Lg.C9 HCG (by rw[←HE.out]) hx0;have q0:(x==0)=false:=ZX.2 hx0;have GT:=L_ (Got.stored (w:=w) (v:=()) (x:=x) (k:=0) (r:=[]) KR2 KE2 (aaU _ _ _ _) (B3.trans ((HB1.mono B3.size).trans (HB2.mono (by have:=s3.out;omega)))));have cr:=KR2.cell 0;have ce:=KE2.cell 0;have fr:=KR2.frozen 0;have fe:=KE2.frozen 0;go_wp2;exact Got.leave0 GT HM _ rfl rfl
 ·have HM:=L_ (Lg.ES (ls:=tx ls) HCG hcg0);have q0:(cg==0)=false:=ZX.2 hcg0;have GT:=L_ (Got.stored (w:=w) (v:=()) (x:=cg) (k:=0) (r:=[]) KR1 KE1 (aaU _ _ _ _) (B3.trans (HB1.mono B3.size)));have cr:=KR1.cell 0;have ce:=KE1.cell 0;have fr:=KR1.frozen 0;have fe:=KE1.frozen 0;go_wp2;exact Got.leave0 GT HM _ rfl rfl
end
namespace Lg
open Cp
theorem qo {s:List UInt8}(h:(eB s).2=0):dU (eB s).1=true∧aV (eB s).1=s:=by
 by_cases hl:1024<s.length
 ·rw[yU hl] at h;cases h
 ·cases hr:qY s with
  |none=>rw[nO hl hr] at h;cases h
  |some c=>rw[kV hl hr];exact xP hr
theorem JW:∀{ls:List (List UInt8)} {l:List dD},all ls=some l→∀c∈l,dU c=true
 |[],l,h=>by simp only[all,ZH] at h;subst h;simp
 |s::r,l,h=>by
  by_cases hs:(eB s).2=0
  ·rw[jZ hs] at h;cases hr:all r with
   |none=>rw[hr] at h;cases h
   |some q=>
    rw[hr] at h;simp only[aad,ZH] at h;subst h;intro c hc
    rcases Zu.1 hc with rfl|hc
    ·exact(qo hs).1
    ·exact JW hr c hc
  ·rw[nA hs] at h;cases h
theorem MX {l:List dD}(h:iA ls=(l,0)):¬200<ls.length∧all ls=some l:=by
 by_cases hb:200<ls.length
 ·rw[nE hb] at h;cases h
 ·cases ha:all ls with
  |none=>rw[rH hb ha] at h;cases h
  |some q=>
   rw[nH hb ha] at h;injection h with h
   subst h;exact⟨hb,rfl⟩
theorem zJ (h:members rost mem ls=(r,0)):cB rost mem=0∧∃l,iA ls=(l,0)∧LZ rost mem l=r:=by
 unfold members at h
 split at h
 ·rename_i h1
  split at h
  ·rename_i h2
   injection h with h _
   exact⟨h1,(iA ls).1,by rw[←h2],h⟩
  ·rename_i h2
   injection h with _ h
   exact absurd h h2
 ·rename_i h1
  injection h with _ h
  exact absurd h h1
theorem Pe {c:dD}(h:dU c=true)(hk:c.k=3):Qm.check c.mem=0:=by
 unfold dU at h;rw[aaR (by omega),aaR (by omega),aaR (by omega),aaS hk] at h;simp only[Zr,aar] at h;exact h.1.1.1.2
theorem GI {c:dD}(h:good rost c=true):c.k=3∧∀x∈c.mem,x∈rost:=by
 unfold good at h;rw[Zr,aar,Bool.not_eq_true',List.any_eq_false] at h;exact⟨h.1,fun x hx=>by have:=h.2 x hx;simpa using this⟩
theorem FT (h:members rost mem ls=(r,0)):Qm.check r=0∧∀x∈r,x∈rost:=by
 obtain⟨h1,l,h2,h3⟩:=zJ h;obtain⟨hc1,hc2,hw⟩:=jk h1;unfold LZ at h3
 split at h3
 ·rename_i c hc
  subst h3;have hg:=List.find?_some hc;obtain⟨hk,hm⟩:=GI hg;have hin:c∈l:=by have:=List.mem_of_find?_eq_some hc;simpa using this
  exact⟨Pe (JW (MX h2).2 c hin) hk,hm⟩
 ·subst h3;refine⟨hc2,fun x hx=>?_⟩;unfold within at hw;have:=aam.1 hw x hx;simpa using this
end Lg
variable{M N b:Nat}{w':World}
structure mh (w:World)(p b N M:Nat)(X:eU):Prop where
 k:aF w p 321 X
 lie:au.aA w w N X.x
theorem mh.below {p:Nat}{X:eU}(h:mh w p b N M X)(hb:Below w w w'):mh w' p b N M X:=
 ⟨h.k.below hb h.k.lt,au.aS (au.bA h.lie fun p hp=>hb.cell hp) hb.size (Zh _)⟩
theorem mh.alloc {p:Nat}{X:eU}(h:mh w p b N M X)(o:Obj):mh (w.alloc o) p b N M X:=h.below ((aaO _ w).alloc (Zh _) o)
def isText (v:ByteArray):Bool:=(Cp.eB v.data.toList).2==0
theorem jg (v:ByteArray)(w:World)(hs:v.size≤maxLen):Calls prog 241 #[v] w fun e w'=>e=.returned (.bool (isText v))∧Below w w w':=by
 have HC:=L_ (uL v v.data.toList w hs rfl)
 go_enter func241,ntmps241
 go_wp2_with fail;refine HC.mono ?_;rintro e w2 ⟨D,x,rfl,hx,ho,hb⟩;have hx2:isText v=(x==0):=by unfold isText;rw[←hx]
 have HX:=L_ hx2;have BW:=L_ (hb.alloc hb.size (.cells #[.int .u8 D.k,D.mi,.slice D.GA D.Gn D.Gc,D.mt,D.key,D.body,D.i,D.tm,.slice D.MA D.Mn D.Mc,D.tp,D.who,D.n] 37));clear hx ho hb HC hx2;go_wp2;go_ret;exact⟨by rw[HX.out];rfl,BW⟩
theorem jh (p b N M:Nat)(X:eU)(w:World)(h:mh w p b N M X)(hN:N≤1000000):Calls prog 244 #[p] w fun e w'=>e=.returned (.int .i64 ((X.x.log.l.length:Int)+1))∧w=w':=by
 have c4:=h.k.cell 4;have hl:=h.lie.2.2.1.2.2.2.1;have hw1:IntKind.i64.wrap ((X.x.log.l.length:Int)+1)=(X.x.log.l.length:Int)+1:=by rw[IntKind.wrap_i64];omega
 clear h
 go_enter func244,ntmps244
 go_wp2;go_ret;exact⟨rfl,by trivial⟩
def AtR (l:List lT)(slot:Int)(e:Ending):Prop:=∃(vp vb:Int) (vv:ByteArray) (k:Nat) (b:Bool),e=.returned (.tuple #[.agg #[vp,vb,vv],(k:Int),b])∧oO (fun x:lT=>wrap64 (x.s - slot)) l k b∧(b=true→∃x,l[k]?=some x∧vp=x.p∧vb=x.b∧vv=x.v)∧(b=false→vp=0∧vb=0∧vv=⟨#[]⟩)
theorem qh (p b N M:Nat)(X:eU)(slot:Int)(w:World)(h:mh w p b N M X)(hN:N≤1000000):Calls prog 243 #[p,slot] w fun e w'=>AtR X.x.vs.l slot e∧Below w w w':=by
 have KV:Hid (aF (w.alloc (.cells #[.int .i64 0,.int .i64 0,.string ⟨#[]⟩] 209)) w 209 #[.int .i64 0,.int .i64 0,.string ⟨#[]⟩]):=L_ (aF.new _ _ _);have H:=L_ (h.alloc (.cells #[.int .i64 0,.int .i64 0,.string ⟨#[]⟩] 209));have BW:Hid (Below w w (w.alloc (.cells #[.int .i64 0,.int .i64 0,.string ⟨#[]⟩] 209))):=L_ ((aaO _ _).alloc (Zh _) _);have hp:=h.k.lt;have hp2:p≠w.heap.size:=by omega
 have c5:=H.k.cell 5;clear h
 go_enter func243,ntmps243
 go_wp2_with fail;generalize w.alloc (.cells #[.int .i64 0,.int .i64 0,.string ⟨#[]⟩] 209)=w1 at *;refine(zY X.x.vs slot w1 N H.lie.2.2.2.1 (by omega)).mono ?_;rintro e w2 ⟨k,bf,rfl,hbin,hw⟩;have HBIN:=L_ hbin;replace H:=L_ (H.below hw);replace KV:=L_ (KV.below hw KV.lt);replace BW:=L_ (BW.trans (hw.mono BW.size));clear hw c5 hbin;have v0:=KV.cell 0;have v1:=KV.cell 1;have v2:=KV.cell 2;have f0:=KV.frozen 0;have f1:=KV.frozen 1;have f2:=KV.frozen 2;cases bf with
 |false=>
  have FIN:Hid (AtR X.x.vs.l slot (.returned (.tuple #[.agg #[.int .i64 0,.int .i64 0,.string ⟨#[]⟩],(k:Int),false]))):=L_ ⟨0,0,⟨#[]⟩,k,false,rfl,HBIN,(fun h=>by cases h),fun _=>⟨rfl,rfl,rfl⟩⟩;go_wp2;have KZ:=(((KV.aM 0 (.int .i64 0)).aM 1 (.int .i64 0)).aM 2 (.string ⟨#[]⟩));have BZ:Below w w (((w2.setCell ⟨w,0,none⟩ (.int .i64 0)).setCell ⟨w,1,none⟩ (.int .i64 0)).setCell ⟨w,2,none⟩ (.string ⟨#[]⟩)):=((BW.setCell (p:=⟨w,0,none⟩) (Zh _) _).setCell (p:=⟨w,1,none⟩) (Zh _) _).setCell (p:=⟨w,2,none⟩) (Zh _) _;generalize ((w2.setCell ⟨w,0,none⟩ (.int .i64 0)).setCell ⟨w,1,none⟩ (.int .i64 0)).setCell ⟨w,2,none⟩ (.string ⟨#[]⟩)=W9 at *;have r0:=KZ.cell 0;have r1:=KZ.cell 1;have r2:=KZ.cell 2;exact aaT (v:=.tuple #[.agg #[.int .i64 0,.int .i64 0,.string ⟨#[]⟩],(k:Int),false]) (by simp[results,results243,go_sem,r0,r1,r2]) rfl ⟨FIN,BZ⟩
 |true=>
  obtain⟨x,hx,-⟩:=HBIN.2.2.2.1 rfl;have FIN:Hid (AtR X.x.vs.l slot (.returned (.tuple #[.agg #[x.p,x.b,x.v],(k:Int),true]))):=L_ ⟨x.p,x.b,x.v,k,true,rfl,HBIN,fun _=>⟨x,hx,rfl,rfl,rfl⟩,(fun h=>by cases h)⟩;have hk:k<X.x.vs.l.length:=(Zo.1 hx).1;obtain⟨bb,off,x',hA,-,hx',hcc,-⟩:=H.lie.2.2.2.1.get hk;obtain rfl:x'=x:=by rw[hx] at hx';injection hx' with e;exact e.symm
  have d2:w2.cell? ⟨bb,off+k*5+2,none⟩=some (.int .i64 x'.p):=hcc 2 _ rfl;have d3:w2.cell? ⟨bb,off+k*5+3,none⟩=some (.int .i64 x'.b):=hcc 3 _ rfl;have d4:w2.cell? ⟨bb,off+k*5+4,none⟩=some (.string x'.v):=hcc 4 _ rfl;have c5:w2.cell? ⟨p,5,none⟩=some (.slice (some ⟨bb,off,none⟩) X.x.vs.l.length X.x.vs.c):=by rw[←hA];exact H.k.cell 5
  clear hx hx' hA hcc;go_wp2;have KZ:=(((KV.aM 0 x'.p).aM 1 x'.b).aM 2 x'.v);have BZ:Below w w (((w2.setCell ⟨w,0,none⟩ x'.p).setCell ⟨w,1,none⟩ x'.b).setCell ⟨w,2,none⟩ x'.v):=((BW.setCell (p:=⟨w,0,none⟩) (Zh _) _).setCell (p:=⟨w,1,none⟩) (Zh _) _).setCell (p:=⟨w,2,none⟩) (Zh _) _;generalize ((w2.setCell ⟨w,0,none⟩ x'.p).setCell ⟨w,1,none⟩ x'.b).setCell ⟨w,2,none⟩ x'.v=W9 at *;have r0:=KZ.cell 0;have r1:=KZ.cell 1;have r2:=KZ.cell 2;exact aaT (v:=.tuple #[.agg #[x'.p,x'.b,x'.v],(k:Int),true]) (by simp[results,results243,go_sem,r0,r1,r2]) rfl ⟨FIN,BZ⟩
theorem uf (p b N M:Nat)(X:eU)(w:World)(h:mh w p b N M X)(hN:N≤1000000)(hN2:10≤N)(hz:∀v∈X.x.log.l,v.size≤maxLen):Calls prog 245 #[p] w fun e w'=>∃s:Sl Int,e=.returned s∧s.Own w' w N∧(∀n∈s.l,n∈X.x.g.r.l)∧s.l.length≤6∧Below w w w':=by
 have H:=L_ h;have hp:=h.k.lt;have hl:=h.lie;have HL:=L_ hl;have hz':=L_ hz;clear h hl hz
 go_enter func245,ntmps245
 go_wp2_with fail;have HS:Hid (w.drew.cell? ⟨p,2,none⟩=some (.slice X.x.g.r.A X.x.g.r.l.length X.x.g.r.c)∧w.drew.cell? ⟨p,3,none⟩=some (.slice X.x.g.m.A X.x.g.m.l.length X.x.g.m.c)∧w.drew.cell? ⟨p,4,none⟩=some (.slice X.x.log.A X.x.log.l.length X.x.log.c)):=⟨H.k.cell 2,H.k.cell 3,H.k.cell 4⟩;refine eH 15 (fun w'=>w'.cell? ⟨p,2,none⟩=some (.slice X.x.g.r.A X.x.g.r.l.length X.x.g.r.c)∧w'.cell? ⟨p,3,none⟩=some (.slice X.x.g.m.A X.x.g.m.l.length X.x.g.m.c)∧w'.cell? ⟨p,4,none⟩=some (.slice X.x.log.A X.x.log.l.length X.x.log.c)) (by kernel_rfl) (by kernel_rfl) ?_;refine d9 0 HS (h:=d9 1 HS (h:=d9 2 HS (h:=d9 3 HS (h:=?_))));try simp only[Act.put,aaI,aaJ,aaK]
 refine d9 4 HS (h:=d9 5 HS (h:=d9 6 HS (h:=d9 7 HS (h:=?_))));try simp only[Act.put,aaI,aaJ,aaK]
 refine d9 8 HS (h:=d9 9 HS (h:=?_));try simp only[Act.put,aaI,aaJ,aaK]
 clear HS;have hdr:=below_drewN (aaO w w) 1;have H2:=L_ (H.below hdr);have BW:=L_ hdr;have hsz:w.heap.size≤(w.drewN 1).heap.size:=hdr.size;clear hdr;rw[show w.drew=w.drewN 1 from rfl] at *;generalize w.drewN 1=w1 at *;have R1:Hid (Reads w1 w1 1 X.x.g.r.A X.x.g.r.l.length (ci X.x.g.r.l)):=L_ (by have h1:=H2.lie.1.1;rw[fF] at h1;exact h1);have R2:Hid (Reads w1 w1 1 X.x.g.m.A X.x.g.m.l.length (ci X.x.g.m.l)):=L_ (by have h1:=H2.lie.2.1.1;rw[fF] at h1;exact h1);have R3:Hid (Reads w1 w1 1 X.x.log.A X.x.log.l.length (ct X.x.log.l)):=L_ (by have h1:=H2.lie.2.2.1.1;rw[rA] at h1;exact h1);have n1:=H2.lie.1.2.2.2.1;have n2:=H2.lie.2.1.2.2.2.1;have n3:=H2.lie.2.2.1.2.2.2.1;refine rM (i:=10) rfl (by kernel_rfl) ?_;go_wp2_with fail;refine(Cc X.x.g.r.A X.x.g.r.l.length X.x.g.r.c X.x.g.r.l X.x.g.m.A X.x.g.m.l.length X.x.g.m.c X.x.g.m.l X.x.log.A X.x.log.l.length X.x.log.c X.x.log.l w1 R1 R2 R3 (by omega) (by omega) (by omega) hz').mono ?_;rintro e w2 ⟨⟨R,k,c,r,x,rfl,ho,hm⟩,hw⟩;have HO:=L_ (aG ho hsz);have hrk:r.length=k:=by have:=(Reads.bO ho).1;simpa[ci] using this
 have HR:Hid ((∀n∈r,n∈X.x.g.r.l)∧r.length≤6):=L_ (by
  by_cases hx:x=0
  ·subst hx;have h9:=Lg.FT hm;exact⟨h9.2,(Cp.Fg h9.1).1⟩
  ·have:r=[]:=by
    unfold Lg.members at hm
    split at hm
    ·split at hm
     ·injection hm with _ h;exact absurd h.symm hx
     ·injection hm with h _;exact h.symm
    ·injection hm with h _;exact h.symm
   subst this;exact⟨(fun n hn=>by cases hn),Zq _⟩)
 subst hrk;have B2:=L_ (BW.trans (hw.mono hsz));have H3:=L_ (H2.below hw);clear ho hm hw;go_wp2_with fail;simp only[Qn];refine⟨⟨H3.k.cell 2,H3.k.cell 3,H3.k.cell 4⟩,?_⟩;have HS:Hid (w2.cell? ⟨p,2,none⟩=some (.slice X.x.g.r.A X.x.g.r.l.length X.x.g.r.c)∧w2.cell? ⟨p,3,none⟩=some (.slice X.x.g.m.A X.x.g.m.l.length X.x.g.m.c)∧w2.cell? ⟨p,4,none⟩=some (.slice X.x.log.A X.x.log.l.length X.x.log.c)):=⟨H3.k.cell 2,H3.k.cell 3,H3.k.cell 4⟩;refine d9 11 HS (h:=d9 12 HS (h:=d9 13 HS (h:=d9 14 HS (h:=?_))));try simp only[Act.put,aaI,aaJ,aaK]
 refine lH (by kernel_rfl) ?_;clear HS;go_wp2;go_ret;exact⟨⟨R,c,r⟩,rfl,⟨by unfold Sl.Row;rw[fF];exact HO,by have:=HR.2;dsimp only;omega,fun _ _=>trivial⟩,HR.1,HR.2,B2⟩
variable{bx:List Bx}{i:Nat}{α:Type}{w0:World}
theorem Env.jK {is:List It}{X:eU}{p K:Nat}(E:Env b w0 bx (bM X N M K++is) w)(k:Nat)(hM:K≤M)(hk:bx[k]?=some (iG p X):=by rfl):mh w p b N M X:=
 ⟨E.blk k hk,⟨Sl.Own.lie (E.get 9),Sl.Own.lie (E.get 8),Sl.Own.lie (E.get 7),Sl.Own.lie (E.get 6),Sl.Own.lie (E.get 4),Sl.Own.lie (E.get 3),Sl.Own.lie (E.get 2),Sl.Own.lie (E.get 5)⟩⟩
theorem Rk {l:List α}{c y:α}(h:y∈l.set k c):(∃i,l[i]?=some y∧i≠k)∨y=c:=by
 obtain⟨i,hi⟩:=List.mem_iff_getElem?.1 h
 by_cases hk:i=k
 ·subst hk;rw[aaH] at hi;simp only[if_true] at hi
  split at hi
  ·exact Or.inr (Z4 hi).symm
  ·cases hi
 ·rw[List.getElem?_set_ne (Ne.symm hk)] at hi;exact Or.inl ⟨i,hi,hk⟩
theorem QY {l:List α}{c y:α}(hk:k≤l.length)(h:(l.take k++[c]++l.drop k)[i]?=some y)(hi:i≠k):y∈l:=by
 rw[ZN] at h
 by_cases h1:i<k
 ·rw[Z0 (by rw[Zw];omega)] at h;exact aaE (Zk h)
 ·rw[Z8 (by rw[Zw];omega),Zw,aaf hk] at h;obtain⟨j,hj⟩:∃j,i - k=j+1:=⟨i - k - 1,by omega⟩;rw[hj] at h;exact List.mem_of_mem_drop (Zk h)
theorem Vu (a b:Int)(c:ByteArray)(a' b':Int)(c':ByteArray):∃q,∀w,(binOp .eql 209 (.agg #[a,b,c]) (.agg #[a',b',c'])).run prog w=.ok (.bool q) w:=by
 refine⟨(a==a'&&(b==b'&&c.toList==c'.toList)),fun w=>?_⟩;have h0:prog.stoodInHeld 209=false:=by kernel_rfl
 have h1:prog.underlying 209=some (.struct (prog.fieldsOf 209)):=by kernel_rfl
 rw[run_eql_struct,show(10000:Nat)=9999+1 from rfl,run_equalIn_struct (P:=prog) w 9999 209 _ _ h1 h0];clear h0 h1;have p1:∀(x y:Int) (z:ByteArray) (w:World),(part 3 #[.int .i64 x,.int .i64 y,z] 0).run prog w=.ok (.int .i64 x) w:=fun _ _ _ _=>by kernel_rfl
 have p2:∀(x y:Int) (z:ByteArray) (w:World),(part 3 #[.int .i64 x,.int .i64 y,z] 1).run prog w=.ok (.int .i64 y) w:=fun _ _ _ _=>by kernel_rfl
 have p3:∀(x y:Int) (z:ByteArray) (w:World),(part 9 #[.int .i64 x,.int .i64 y,z] 2).run prog w=.ok z w:=fun _ _ _ _=>by kernel_rfl
 have q1:∀(x y:Int) (w:World),(Op.equalIn 9999 3 (.int .i64 x) (.int .i64 y)).run prog w=.ok (x==y) w:=fun x y w=>run_equalIn_int w 9998 3 .i64 .i64 x y underlying3;have q2:∀(x y:ByteArray) (w:World),(Op.equalIn 9999 9 (.string x) (.string y)).run prog w=.ok (x.toList==y.toList) w:=fun x y w=>run_equalIn_string w 9998 9 x y underlying9;simp only[Program.fieldsOf,underlying209,Op.eqFields];simp only[aaV,p1,p2,p3,q1,q2,aaQ,ne_eq,Sem.run_ite,aaW];cases(a==a')<;>cases(b==b')<;>cases(c.toList==c'.toList)<;>simp
structure YB where
 p:Int
 b:Int
 v:ByteArray
def wH (X:eU)(v:Sl lT)(r:Sl Re):eU:=⟨⟨X.x.me,X.x.num,X.x.g,X.x.log,v,X.x.t,X.x.wi,X.x.hd⟩,r,X.ma⟩
def Ya (X:eU)(r:Re)(v:YB)(v2:Sl lT)(r2:Sl Re):Prop:=v2.l.length≤X.x.vs.l.length+1∧(∀y∈v2.l,y∈X.x.vs.l∨(y.p=v.p∧y.b=v.b∧y.v=v.v))∧(r2.l=X.rc.l∨r2.l=X.rc.l++[⟨r.k,X.x.num,r.s,r.b,r.v⟩])
theorem JV {is:List It}(p N M K:Nat)(X:eU)(r:Re)(v:YB)(w:World)(E:Env b w0 (iG p X::bx) (bM X N M K++is) w)(hKM:K≤M)(hM:M≤999999)(hN:N≤1000000)(hvl:X.x.vs.l.length<N) :
  Calls prog 255 #[p,r,.agg #[v.p,v.b,v.v]] w fun e w'=>∃v2 r2,e=()∧Hid (Ya X r v v2 r2)∧Env b w0 (iG p (wH X v2 r2)::bx) (bM (wH X v2 r2) N M (K+1)++is) w':=by
 go_enter func255,ntmps255
 refine G E [5,71,3,71,9] ?_;clear E;intro g4 g5 w3 E;refine G E [3,4,5,0,0,41] ?_;refine ah (qh p b N M X r.s w3 (E.jK 2 hKM) hN) ?_;rintro _ w4 ⟨⟨wp,wb,wv,k,bf,rfl,hbin,-,-⟩,hw⟩;replace hbin:=L_ hbin;replace E:=E.up hw;clear hw;refine G E [26,84,0,70,3,60,9] ?_;clear E;intro g6 w6 E;refine G0 [0,0,4,6,5] ?_;refine aB 1 3 E ?_;refine aB 0 3 E ?_;obtain⟨q,hq⟩:=Vu v.p v.b v.v wp wb wv;refine fV ?_;clear hq;cases q with
 |true=>
  refine G0 [4,7,22] ?_;simp only[Exit.then];refine aaT (results_none rfl _ _ _) rfl ?_;exact⟨X.x.vs,X.rc,rfl,L_ ⟨by omega,fun y hy=>Or.inl hy,Or.inl rfl⟩,(E.drop 3).less 1 (i:=own X.rc K) (i':=own X.rc (K+1)) fun h=>Sl.Own.mono h (Zh _) (by omega)⟩
 |false=>
 refine G0 [4,8,15,6,5,0] ?_;cases bf
 case' false=>
  refine fV ?_;refine aC (Qs (fO 0 17 E ?_));clear E;intro w7 E;refine ay 0 E ?_;refine ay 1 E ?_;refine ay 2 E ?_;refine ay 3 E ?_;refine ay 4 E ?_;refine aX 5 3 E ?_;refine ay 6 E ?_;refine ay 7 E ?_;refine ay 8 E ?_;refine ay 9 E ?_;refine ay 10 E ?_;refine aX 11 3 E ?_;refine ay 12 E ?_;refine aX 13 2 E ?_;refine ay 14 E ?_;refine uZ 15 E ?_;clear E;intro g37 w8 E;refine dL ?_;refine cu 16 (qZ X.x.vs b w8 (show Sl.Own w8 b N X.x.vs from E.get 6).1 (by omega) k hbin.1 ⟨X.x.num,r.s,0,0,⟨#[]⟩⟩ g37 (E.blk 0 rfl) (fun a ha e=>E.Vj 0 6 rfl rfl (e▸gL (N:=N) ha)) E.sz) ?_;rintro _ w9 ⟨v2,rfl,hv2,hr,hg⟩;replace E:=(E.mG 6 (N':=N) rfl hg hr (by rw[hv2];simp;omega)).drop 1
  have hz:Hid (k<v2.l.length∧v2.l.length≤X.x.vs.l.length+1∧∀i y,v2.l[i]?=some y→i≠k→y∈X.x.vs.l):=L_ (by
   have h1:=hbin.1;refine⟨by rw[hv2];simp;omega,by rw[hv2];simp;omega,fun i y h hi=>QY h1 (hv2▸h) hi⟩)
  clear hr hg hv2;refine⟨_,rfl,E.weak,dL ?_⟩;refine G E [30,84,63,9] ?_;clear E;intro w10 E;refine wpList_nil ?_
 case' true=>
  refine G0 [0,4,8,15] ?_;obtain⟨v2,hv2⟩:∃v2,v2=X.x.vs:=⟨_,rfl⟩
  replace E:Env b w0 ((g6,209,[wp,wb,wv])::(g5,209,[v.p,v.b,v.v])::(g4,196,r)::iG p ⟨⟨X.x.me,X.x.num,X.x.g,X.x.log,v2,X.x.t,X.x.wi,X.x.hd⟩,X.rc,X.ma⟩::bx) (bM ⟨⟨X.x.me,X.x.num,X.x.g,X.x.log,v2,X.x.t,X.x.wi,X.x.hd⟩,X.rc,X.ma⟩ N M K++is) w6:=by
   subst hv2;exact E
  have hz:Hid (k<v2.l.length∧v2.l.length≤X.x.vs.l.length+1∧∀i y,v2.l[i]?=some y→i≠k→y∈X.x.vs.l):=L_ (by
   subst hv2;obtain⟨x,hx,-⟩:=hbin.2.2.2.1 rfl;exact⟨(Zo.1 hx).1,by omega,fun i y h _=>Zk h⟩)
  clear hv2
 all_goals
  have hk:=hz.1;obtain⟨gv,cur,hA,-⟩:=(show Sl.Own _ b N v2 from E.get 6).1.at_ (Zl hk);refine dw 7 E ?_;clear E;intro w11 E;refine ay 0 E ?_;refine ay 1 E ?_;refine ay 2 E ?_;refine ay 3 E ?_;refine aX 4 3 E ?_;refine ay 5 E ?_;refine oG 6 1 3 E ?_;refine G0 [30,0,0] ?_;refine VO 6 E hA (Zl hk) ⟨(v2.l[k]).g,(v2.l[k]).s,v.p,v.b,v.v⟩ ?_;clear E;intro w12 E;refine G E [4,5,84,0,43,0,62,9] ?_;clear E;intro w13 E;refine aC (fO 0 8 E ?_);clear E;intro w14 E;refine ay 0 E ?_;refine ay 1 E ?_;refine ay 2 E ?_;refine ay 3 E ?_;refine aX 4 3 E ?_;refine oG 5 2 5 E ?_;refine uZ 6 E ?_;clear E;intro g63 w15 E;refine dL ?_;refine DX 7 1 (s:=X.rc) (K+1) (⟨some ⟨g63,0,none⟩,1,[(⟨r.k,X.x.num,r.s,r.b,r.v⟩:Re)]⟩:Sl Re) E (E.reads 0 1 5) (by have:=(show Sl.Own _ _ _ X.rc from E.get 1).2.1;simp;omega) (by omega) ?_;clear E;intro r2 w16 h E;refine dL ?_;refine G E [30,0,0,64,9] ?_;clear E;intro w17 E;refine wpList_nil ?_
  go_end0
  refine⟨⟨v2.A,v2.c,v2.l.set k ⟨(v2.l[k]).g,(v2.l[k]).s,v.p,v.b,v.v⟩⟩,r2,rfl,L_ ⟨by rw[Z7];exact hz.2.1,fun y hy=>?_,Or.inr h⟩,?_⟩
  ·rcases Rk hy with ⟨i,h1,h2⟩|h1
   ·exact Or.inl (hz.2.2 i y h1 h2)
   ·rw[h1];exact Or.inr ⟨rfl,rfl,rfl⟩
  ·have E2:=E.drop 4;simpa[wH,iG,bM,sJ,Z7] using E2
namespace Lg
theorem yQ (v:ByteArray):∀(ls:List ByteArray) (k:Nat),place v k ls=-1→∀s∈ls,s≠v
 |[],k,_,s,hs=>by simp at hs
 |a::r,k,h,s,hs=>by
  rw[place] at h
  split at h
  ·omega
  ·rename_i hne
   rcases Zu.1 hs with rfl|hs
   ·exact hne
   ·exact yQ v r (k+1) h s hs
theorem xJ (v:ByteArray):∀(ls:List ByteArray) (k:Nat),0≤place v k ls→∃i:Nat,place v k ls=(k:Int)+(i:Int)∧i<ls.length∧ls[i]?=some v∧∀j,j<i→∀s,ls[j]?=some s→s≠v
 |[],k,h=>by rw[place] at h;omega
 |a::r,k,h=>by
  rw[place] at h ⊢
  by_cases he:a=v
  ·rw[aaS he];refine⟨0,by omega,by simp,by simp[he],fun j hj=>by omega⟩
  ·rw[aaR he] at h ⊢;obtain⟨i,h1,h2,h3,h4⟩:=xJ v r (k+1) h;refine⟨i+1,by rw[h1];omega,by simp;omega,by simpa using h3,fun j hj s hs=>?_⟩;cases j with
   |zero=>simp at hs;subst hs;exact he
   |succ j=>exact h4 j (by omega) s (by simpa using hs)
end Lg
theorem qQ (s:Sl ByteArray)(v:ByteArray)(w:World)(N:Nat)(h:s.aA w w N)(hN:N≤1000000000) :
  Calls prog 300 #[s,v] w fun e w'=>∃b,e=.returned (.bool b)∧(b=true↔v∈s.l)∧w=w':=by
 have hr:Reads w w 1 s.A s.l.length (ct s.l):=by have h1:=h.1;rw[rA] at h1;exact h1
 have hl:s.l.length≤1000000000:=Zt h.2.2.2.1 hN;obtain⟨x,hx⟩:∃x,Lg.place v 0 s.l=x:=⟨_,rfl⟩;have HI:=L_ (Hg s.A s.l.length s.c w s.l v w hr (by omega) x hx);have hin:=Lg.EM v s.l 0;rw[hx] at hin
 have HV:Hid (0≤x↔v∈s.l):=L_ (by
  constructor
  ·intro h0;obtain⟨i,_,_,hi,_⟩:=Lg.xJ v s.l 0 (by rw[hx];exact h0);exact Zk hi
  ·intro hm
   rcases hin with h1|h1
   ·exact absurd rfl (Lg.yQ v s.l 0 (by rw[hx];exact h1) v hm)
   ·omega)
 clear h hr hx
 go_enter func300,ntmps300
 go_wp2_with fail;refine HI.mono ?_;rintro e w1 ⟨rfl,rfl⟩;clear HI
 by_cases h0:0≤x
 ·go_wp2;go_ret;exact⟨true,by simp[h0],by simpa using HV.out.1 h0,by trivial⟩
 ·go_wp2;go_ret;exact⟨false,by simp[h0],by simpa using fun hm=>absurd (HV.2 hm) (by omega),by trivial⟩
def xY (X:eU)(s:Sl ByteArray):eU:=⟨⟨X.x.me,X.x.num,X.x.g,X.x.log,X.x.vs,X.x.t,s,X.x.hd⟩,X.rc,X.ma⟩
def OM (X:eU)(v:ByteArray)(s:Sl ByteArray):Prop:=(s.l=X.x.wi.l∨s.l=X.x.wi.l++[v]∧isText v=true)∧s.l.length≤200
theorem Qk {is:List It}(p N M K:Nat)(X:eU)(v:ByteArray)(w:World)(E:Env b w0 (iG p X::bx) (bM X N M K++is) w)(hN:N≤100000)(hN2:1000≤N)(hv:v.size≤maxLen)(hwl:X.x.wi.l.length≤200) :
  Calls prog 263 #[p,v] w fun e w'=>∃(q:Int) (s2:Sl ByteArray),e=.returned (.int .i64 q)∧Hid (OM X v s2)∧Env b w0 (iG p (xY X s2)::bx) (bM (xY X s2) N M K++is) w':=by
 have SAME:Hid (∀(q:Int) (w':World),Env b w0 (iG p X::bx) (bM X N M K++is) w'→∃(q2:Int) (s2:Sl ByteArray),Ending.returned (.int .i64 q)=.returned q2∧Hid (OM X v s2)∧Env b w0 (iG p (xY X s2)::bx) (bM (xY X s2) N M K++is) w'):=L_ fun q w' E=>⟨q,X.x.wi,rfl,L_ ⟨Or.inl rfl,hwl⟩,E⟩;have HV:=L_ hv;clear hv
 go_enter func263,ntmps263
 refine G0 [5,0,4,6,5,0] ?_;refine ah (jg v w HV) ?_;rintro _ w2 ⟨rfl,hw⟩;replace E:=E.up hw;clear hw;refine G0 [26] ?_;cases ht:isText v with
 |false=>
  refine G0 [0,4,7,5,0,4,22] ?_;simp only[Exit.then];exact ak (v:=.int .i64 8) (SAME 8 _ E)
 |true=>
 replace ht:=L_ ht;refine G E [0,4,8,15,6,5,84,0,40,0] ?_;refine ah (qQ X.x.log v w2 N (show Sl.Own _ _ _ X.x.log from E.get 7).lie (by omega)) ?_;rintro _ w3 ⟨bl,rfl,-,rfl⟩;refine G0 [26] ?_;cases bl with
 |true=>
  refine G0 [0,1,1,1,1,1,1,1,0,4,7,5,0,4,22] ?_;simp only[Exit.then];exact ak (v:=.int .i64 0) (SAME 0 _ E)
 |false=>
 refine G E [83,40,0] ?_;refine ah (qQ X.x.wi v w2 N (show Sl.Own _ _ _ X.x.wi from E.get 5).lie (by omega)) ?_;rintro _ w3 ⟨bl,rfl,-,rfl⟩;refine G0 [26] ?_;cases bl with
 |true=>
  refine G0 [0,4,7,5,0,4,22] ?_;simp only[Exit.then];exact ak (v:=.int .i64 0) (SAME 0 _ E)
 |false=>
 refine G E [0,4,8,15,6,5,84,0,40,0] ?_
 by_cases hl:X.x.wi.l.length=200
 ·have h2:((X.x.wi.l.length:Int)==200)=true:=by rw[aar];omega
  refine G0 [0,4,7,5,0,4,22] ?_;simp only[Exit.then];exact ak (v:=.int .i64 9) (SAME 9 _ E)
 have h2:((X.x.wi.l.length:Int)==200)=false:=by rw[ZX];omega
 refine G E [0,4,8,15,5,83,40,0,72,3,9] ?_;clear E;intro g38 w6 E;refine pV 5 (s:=X.x.wi) N (⟨some ⟨g38,0,none⟩,1,[v]⟩:Sl ByteArray) E (E.reads 0 1 1) (by simp;omega) (by omega) ?_;clear E;intro s2 w7 h E;refine G E [3,84,61,4,5,0,4,22,9] ?_;clear E;intro w7 E;exact ak (v:=.int .i64 0) ⟨0,s2,rfl,L_ ⟨Or.inr ⟨h,ht⟩,by rw[h.out];simp;omega⟩,E.drop 1⟩
variable{N' g:Nat}
theorem Aj:∀args w,(callFunc 332 args).run prog w=.ok (.enter 332 args) w:=enters_of func332 (by kernel_rfl) rfl
theorem Vf {is:List It}{v:ByteArray}(k:Nat)(E:Env b w0 bx is w)(x:ByteArray)(hk:bx[k]?=some (g,9,[.string v])):Calls prog 332 #[.string x,g] w fun e w'=>∃q,e=.returned (.bool q)∧True∧Below w.heap.size w w':=by
 go_enter func332,ntmps332
 refine G0 [5,0,4,5,0] ?_;refine mU k (hk:=hk) E ?_;refine G0 [0,0,4,22] ?_;exact ak ⟨_,rfl,trivial,aaO _ _⟩
theorem Env.YG [aj α]{is:List It}(E:Env b w0 bx is w)(q N:Nat){s:Sl α}(hk:is[q]?=some (own s N'):=by rfl):Env b w0 bx (is.set q (own (⟨none,0,[]⟩:Sl α) N)) w:=
 E.row q hk (World.grownBy.refl w none) (fun g e=>by cases e) Sl.eY (fun g hg=>by cases hg)
def rD (X:eU)(lo:Sl ByteArray)(vs:Sl lT)(wi:Sl ByteArray)(rc:Sl Re):eU:=⟨⟨X.x.me,X.x.num,X.x.g,lo,vs,⟨0,0,⟨none,0,[]⟩,⟨#[]⟩,⟨#[]⟩,⟨none,0,[]⟩,⟨none,0,[]⟩⟩,wi,0⟩,rc,X.ma⟩
structure PX (X:eU)(v:ByteArray)(lo:Sl ByteArray)(vs:Sl lT)(wi:Sl ByteArray)(rc:Sl Re):Prop where
 h1:lo.l=X.x.log.l++[v]
 h2:vs.l.length≤X.x.vs.l.length∧∀y∈vs.l,y∈X.x.vs.l
 h3:wi.l.length≤X.x.wi.l.length∧∀y∈wi.l,y∈X.x.wi.l
 h4:rc.l=X.rc.l++[⟨3,X.x.num,(X.x.log.l.length:Int)+1,0,v⟩]
theorem Jy {is:List It}(p N M K:Nat)(X:eU)(v:ByteArray)(w:World)(E:Env b w0 (iG p X::bx) (bM X N M K++is) w)(hKM:K+1≤M)(hM:M≤999999)(hN:N≤1000000)(hlog:X.x.log.l.length<N) :
  Calls prog 313 #[p,v] w fun e w'=>∃lo vs wi rc,e=()∧Hid (PX X v lo vs wi rc)∧Env b w0 (iG p (rD X lo vs wi rc)::bx) (bM (rD X lo vs wi rc) N M (K+1)++is) w':=by
 go_enter func313,ntmps313
 refine G E [5,71,9] ?_;clear E;intro g3 w2 E;refine G0 [3,4,5,0] ?_;refine ah (jh p b N M X w2 (E.jK 1 (by omega)) hN) ?_;rintro _ w3 ⟨rfl,rfl⟩;refine G0 [26,0] ?_;refine aC (dw 15 E ?_);clear E;intro w4 E;refine ay 0 E ?_;refine ay 1 E ?_;refine ay 2 E ?_;refine ay 3 E ?_;refine aX 4 1 E ?_;refine ay 5 E ?_;refine ay 6 E ?_;refine ay 7 E ?_;refine ay 8 E ?_;refine aX 9 1 E ?_;refine ay 10 E ?_;refine aX 11 0 E ?_;refine ay 12 E ?_;refine uZ 13 E ?_;clear E;intro g23 w5 E;refine dL ?_;refine DX 14 1 (s:=X.rc) (K+1) (⟨some ⟨g23,0,none⟩,1,[(⟨3,X.x.num,(X.x.log.l.length:Int)+1,0,v⟩:Re)]⟩:Sl Re) E (E.reads 0 1 5) (by have:=(show Sl.Own _ _ _ X.rc from E.get 1).2.1;simp;omega) (by omega) ?_;clear E;intro r2 w6 hrc E;refine dL ?_;refine G E [30,0,0,62,9] ?_;clear E;intro w7 E;replace E:Env b w0 ((g3,9,[v])::iG p ⟨X.x,r2,X.ma⟩::bx) (bM ⟨X.x,r2,X.ma⟩ N M (K+1)++is) w7:=E.drop 1;refine G0 [4,6,5,0,0] ?_;refine ah (qh p b N M ⟨X.x,r2,X.ma⟩ ((X.x.log.l.length:Int)+1) w7 (E.jK 1 hKM) hN) ?_;rintro _ w8 ⟨⟨vp,vb,vv,k,bf,rfl,hbin,-,-⟩,hw⟩;replace hbin:=L_ hbin;replace E:=E.up hw;clear hw;refine G E [26,84,0,70,3,60,9] ?_;clear E;intro g5 w10 E;replace E:=E.drop 1;refine G0 [0,0,4,5,0] ?_;have hvN:X.x.vs.l.length≤N:=(show Sl.Own _ _ _ X.x.vs from E.get 6).2.1;cases bf
 case' true=>
  have hk:k<X.x.vs.l.length:=by
   obtain⟨x,hx,-⟩:=hbin.2.2.2.1 rfl;exact(Zo.1 hx).1
  have hkw:IntKind.i64.wrap ((k:Int)+1)=(k:Int)+1:=aaP _ (by omega);refine G E [4,7,23,83,41,84] ?_;refine ah (qX X.x.vs b w10 (show Sl.Own _ _ _ X.x.vs from E.get 6).1 (by omega) k hk) ?_;rintro _ w11 ⟨v2,rfl,hv2,hr,hg⟩;replace E:=E.mG 6 (N':=N) rfl hg hr (by rw[hv2];simp;omega)
  have hz:Hid (v2.l.length≤X.x.vs.l.length∧∀y∈v2.l,y∈X.x.vs.l):=L_ (by
   refine⟨by rw[hv2];simp;omega,fun y hy=>?_⟩;rw[hv2] at hy
   rcases Zm.1 hy with h|h
   ·exact aaE h
   ·exact List.mem_of_mem_drop h)
  clear hr hg hv2 hk hkw;refine G E [26,84,61,9] ?_;clear E;intro w12 E;refine aC ?_;replace E:Env b w0 ((g3,9,[v])::iG p ⟨⟨X.x.me,X.x.num,X.x.g,X.x.log,v2,X.x.t,X.x.wi,X.x.hd⟩,r2,X.ma⟩::bx) (bM ⟨⟨X.x.me,X.x.num,X.x.g,X.x.log,v2,X.x.t,X.x.wi,X.x.hd⟩,r2,X.ma⟩ N M (K+1)++is) w12:=E
 case' false=>
  refine G0 [4,8,15] ?_;obtain⟨v2,hv2⟩:∃v2,v2=X.x.vs:=⟨_,rfl⟩
  replace E:Env b w0 ((g3,9,[.string v])::iG p ⟨⟨X.x.me,X.x.num,X.x.g,X.x.log,v2,X.x.t,X.x.wi,X.x.hd⟩,r2,X.ma⟩::bx) (bM ⟨⟨X.x.me,X.x.num,X.x.g,X.x.log,v2,X.x.t,X.x.wi,X.x.hd⟩,r2,X.ma⟩ N M (K+1)++is) w10:=by
   subst hv2;exact E
  have hz:Hid (v2.l.length≤X.x.vs.l.length∧∀y∈v2.l,y∈X.x.vs.l):=L_ (by
   subst hv2;exact⟨Zh _,fun y hy=>hy⟩)
  clear hv2
 all_goals
  refine dw 9 E ?_;clear E;intro w13 E;refine ay 0 E ?_;refine ay 1 E ?_;refine ay 2 E ?_;refine ay 3 E ?_;refine ay 4 E ?_;refine aX 5 1 E ?_;refine aX 6 0 E ?_;refine uZ 7 E ?_;clear E;intro g55 w14 E;refine dL ?_;refine DX 8 7 (s:=X.x.log) N (⟨some ⟨g55,0,none⟩,1,[v]⟩:Sl ByteArray) E (E.reads 0 1 1) (by simp;omega) (by omega) ?_;clear E;intro lo w15 hlo E;refine dL ?_;refine G E [30,84,62,9] ?_;clear E;intro w16 E;replace E:=E.drop 1;refine G E [4,5,83,0,61,84,61,9] ?_;clear E;intro w18 E;refine G E [4,23,83,41,0] ?_;refine ah (Qq X.x.wi (fun _ _=>True) _ Aj #[g3] N w18 (E.front 5) hN (fun x _ w' E'=>Vf 0 E' x rfl)) ?_;clear E;rintro _ w19 ⟨wi,rfl,hwi,E⟩;replace E:=(((Env.back 5 E).YG (α:=Int) 2 N).YG (α:=rF) 3 N).YG (α:=Int) 4 N;refine G E [26,84,61,9] ?_;clear E;intro w20 E;refine wpList_nil ?_
  go_end0
  exact⟨lo,v2,wi,r2,rfl,L_ ⟨hlo,hz,⟨hwi.2,fun y hy=>(hwi.1 y hy).1⟩,hrc⟩,E.drop 1⟩
section
attribute [local irreducible] wpList av
structure Px (P:ByteArray→Prop)(t t':Try):Prop where
 ok:yZ P t'
 mem:t'.mem.l=t.mem.l
 ph:1≤t'.ph∧t'.ph≤3
 b:t'.b=t.b
 was:t.ph≠0
theorem Mf (P:ByteArray→Prop)(t:Try)(b node:Int)(w:World)(N:Nat)(ht:au.aA w w N t)(hN:N≤1000000)(hN2:10≤N)(hwf:Ef t)(hok:t.ph≠0→yZ P t) :
  Calls prog 322 #[t,b,node] w fun e w'=>∃(t':Try) (x:Int),e=.returned (.tuple #[t',x])∧Hid (x=0→Px P t t')∧Env w w [] (uD t' N) w':=by
 have HT:=L_ ht;have HO:=L_ hok;clear ht hok;have E:=Env.start w
 go_enter func322,ntmps322
 refine G E [5,71,3,70,3,0,4,6,5,9] ?_;clear E;intro g3 g6 w3 E;refine aB 1 7 E ?_;refine ah (rQ t _ N (E.h HT) hN hwf) ?_;rintro _ w4 ⟨⟨v,rfl,hv⟩,hw⟩;replace E:=E.up hw;replace hv:=L_ hv;refine G0 [26] ?_
 by_cases h0:v=0
 case neg=>
  refine G E [0,4,5,0,0,4,7,5,0,0,60,0,4,22,24,9] ?_;clear E;intro w5 E;exact aI 0 E ⟨iZ,v,rfl,L_ (fun h=>absurd h h0),(E.drop 2).iZ N⟩
 subst h0;refine G E [0,4,5,0,0,4,8,15,6,5,0,41] ?_
 by_cases h1:t.ph<2
 case pos=>
  refine G E [0,0,1,81,2,4,7,5,0,60,0,4,22,24,9] ?_;clear E;intro w6 E;exact aI 0 E ⟨iZ,6,rfl,L_ (fun h=>absurd h (by decide)),(E.drop 2).iZ N⟩
 refine G E [84,0,41] ?_
 by_cases h2:(b !=t.b)=true
 case pos=>
  refine G E [84,1,80,4,7,5,0,60,0,4,22,24,9] ?_;clear E;intro w7 E;exact aI 0 E ⟨iZ,6,rfl,L_ (fun h=>absurd h (by decide)),(E.drop 2).iZ N⟩
 replace h2:(b !=t.b)=false:=by simpa using h2
 refine G E [84,0,41,0] ?_;refine ah (tY t.mem node _ N (E.h HT).1 hN) ?_;rintro _ w8 ⟨rfl,rfl⟩;refine G0 [26] ?_
 by_cases hm:node∈t.mem.l
 case neg=>
  refine G E [0,0,4,7,5,0,60,0,4,22,24,9] ?_;clear E;intro w9 E;exact aI 0 E ⟨iZ,6,rfl,L_ (fun h=>absurd h (by decide)),(E.drop 2).iZ N⟩
 case pos=>
  have hs:=L_ (hv rfl (by omega));have H1:Hid (¬t.ph<2):=L_ h1;clear hv h1;refine G0 [0,0,4,8,15,5] ?_;clear hm;refine aB 1 7 E ?_;refine ah (IQ t _ N (E.h HT) hN) ?_;rintro _ w10 ⟨t2,rfl,h2,F⟩;replace E:=E.call F;clear F;refine G E [26,61,4,5,0,41,0,9] ?_;clear E;intro w11 E;refine ah (yD t2.ac node _ N (E.ol 0) (by omega)) ?_;rintro _ w12 ⟨k,rfl,hk,hw⟩;replace E:=E.up hw;clear hw;refine G0 [26] ?_;have hkN:k≤N:=Zt hk (E.on 0);have hac:Hid (t2.ac.l.length≤6):=L_ (by rw[h2.out.2.2.2.2.2.2];exact Jr hs.1.2.2 hs.1.1)
  by_cases hC:k<t2.ac.l.length∧t2.ac.l[k]?=some node
  case' pos=>
   have hne:((k:Int)==(t2.ac.l.length:Int))=false:=by have:=hC.1;simp;omega
   obtain⟨bb,off,n,hA,-,hn,hcc,-⟩:=(E.ol (N:=N) 0).get (k:=k) hC.1;have hlt:=hC.1;rw[hC.2] at hn;obtain rfl:=Z4 hn;have d1:=hcc 0 _ rfl;simp only[aj.sz,ZB,Nat.add_zero] at d1;clear hcc hn hC;refine G E [0,4,6,5,0,0,41,0,0] ?_;clear hne;refine G E [0,0,41,0,0] ?_;refine oZ d1 ?_;clear d1 hA;refine G0 [84,4,8] ?_;obtain⟨ac,hac2⟩:∃s:Sl Int,s=t2.ac∧s.l.length≤7:=⟨_,rfl,by have:=hac.out;omega⟩;replace E:=E.as (bx':=(g6,58,[.int .u8 0,.int .i64 0,(),.string ⟨#[]⟩,.string ⟨#[]⟩,(),()])::(g3,58,[.int .u8 t2.ph,t2.b,t2.mem,t2.wi,t2.va,t2.pr,ac])::[]) (is':=own ac N::own t2.pr N::own t2.mem N::[]) (by rw[hac2.1];rfl) (by rw[hac2.1];rfl);clear hac2;refine G0 [15,6,5] ?_
  case' neg=>
   by_cases h5:k=t2.ac.l.length
   case' pos=>
    have hb5:((k:Int)==(t2.ac.l.length:Int))=true:=by simp[h5]
    clear h5;refine G E [0,4,6,5,0,0,41,84,1,80,2,2,4,7,23] ?_;clear hb5
   case' neg=>
    have hb5:((k:Int)==(t2.ac.l.length:Int))=false:=by simp;omega
    have hlt:k<t2.ac.l.length:=by omega
    obtain⟨bb,off,n,hA,-,hn,hcc,-⟩:=(E.ol (N:=N) 0).get (k:=k) hlt;have hne:¬n=node:=fun h=>hC ⟨hlt,h▸hn⟩;have d1:=hcc 0 _ rfl;simp only[aj.sz,ZB,Nat.add_zero] at d1;clear hcc hn h5;refine G E [0,4,6,5,0,0,41,84,0,41,0,0] ?_;refine oZ d1 ?_;clear d1 hA;refine G0 [84,4,7,23] ?_;clear hne hlt hb5
   all_goals
    clear hC;refine G E [0,41,0,0,72,3,9] ?_;clear E;intro g57 w13 E;refine ah (zH t2.ac _ _ (show Sl.Own _ _ _ t2.ac from E.get 0).1 (by have:=E.on (N:=N) (s:=t2.ac) 0;omega) k hk node _ (E.blk 0 rfl) (fun a ha e=>E.Vj 0 0 rfl rfl (e▸gL (N:=N) ha)) E.sz) ?_;rintro _ w14 ⟨ac,rfl,hac2,hr,hg⟩;replace E:=(E.mG 0 (N':=N) rfl hg hr (by rw[hac2];have:=hac.out;simp;omega)).drop 1;replace hac2:Hid (ac.l.length≤7):=L_ (by rw[hac2];have:=hac.out;simp;omega);clear hr hg;refine G0 [26] ?_;clear hac2;refine G E [0,61,4,6,5,9] ?_;clear E;intro w15 E
  all_goals
   have hmo:Hid (t2.mem.l=t.mem.l):=L_ h2.2.2.1;refine G E [0,41,0,41] ?_;refine ah (qD t2.mem ac _ N (E.ol 2) (E.ol 0) hN) ?_;rintro _ w16 ⟨⟨q,rfl⟩,rfl⟩;refine G0 [26] ?_;cases q
   case true=>
    refine G E [4,7,23,0,61,4,5,9] ?_;clear E;intro w17 E;refine aB 1 7 E ?_;refine G E [60,0,4,22,9] ?_;clear E;intro w18 E;exact aI 0 E ⟨⟨3,t2.b,t2.mem,t2.wi,t2.va,t2.pr,ac⟩,0,rfl,L_ (fun _=>⟨⟨(h2.2.2.2.1▸(HO (by have:=H1.out;omega)).wi),(h2.2.2.2.2.1▸(HO (by have:=H1.out;omega)).va),fun p hp=>(HO (by have:=H1.out;omega)).pr p (h2.2.2.2.2.2.1▸hp),h2.2.1▸(HO (by have:=H1.out;omega)).b⟩,hmo,⟨(by decide:(1:Int)≤3),(by decide:(3:Int)≤3)⟩,h2.2.1,by have:=H1.out;omega⟩),E.drop 2⟩
   case false=>
    refine G0 [4,8,15,5] ?_;refine aB 1 7 E ?_;refine G E [60,0,4,22,9] ?_;clear E;intro w19 E;exact aI 0 E ⟨⟨t2.ph,t2.b,t2.mem,t2.wi,t2.va,t2.pr,ac⟩,0,rfl,L_ (fun _=>⟨⟨(h2.2.2.2.1▸(HO (by have:=H1.out;omega)).wi),(h2.2.2.2.2.1▸(HO (by have:=H1.out;omega)).va),fun p hp=>(HO (by have:=H1.out;omega)).pr p (h2.2.2.2.2.2.1▸hp),h2.2.1▸(HO (by have:=H1.out;omega)).b⟩,hmo,by rw[h2.out.1];have:=H1.out;have:=hs.2;omega,h2.2.1,by have:=H1.out;omega⟩),E.drop 2⟩
end
variable{P:ByteArray→Prop}{K' M' c':Nat}
section
open Go.RowKit Bal
theorem jG (a:Int)(h1:-1000000≤a)(h2:a≤1000000):i64 a:=⟨by omega,by omega⟩
structure gN (m:bS):Prop where
 f:i64 m.f
 t:i64 m.t
 k:0≤m.k∧m.k≤255
 g:i64 m.g
 s:i64 m.s
 b:i64 m.b
 p:i64 m.p
 i:i64 m.i
 tm:i64 m.tm
 v:m.v.size≤1000000
structure Gs (r:Re):Prop where
 k:0≤r.k∧r.k≤255
 g:i64 r.g
 s:i64 r.s
 b:i64 r.b
 v:r.v.size≤1000000
structure ko (P:ByteArray→Prop)(r:List Int)(t:Try):Prop where
 wf:i64 t.b∧0≤t.ph∧t.ph≤255
 ok:t.ph≠0→yZ P t
 pr:∀p∈t.pr.l,i64 p.b∧p.v.size≤1000000
 sz:t.wi.size≤1000000∧t.va.size≤1000000
 mem:∀n∈t.mem.l,n∈r
structure Fz (P:ByteArray→Prop)(c:Nat)(x:dZ):Prop where
 log:∀v∈x.log.l,P v
 ll:x.log.l.length≤200+c
 vs:∀y∈x.vs.l,P y.v∧i64 y.p∧i64 y.b
 vl:x.vs.l.length≤200+c
 wi:∀v∈x.wi.l,P v
 wl:x.wi.l.length≤200
 t:ko P x.g.r.l x.t
 hd:i64 x.hd
 me:0≤x.me∧x.me<6
 num:0≤x.num∧x.num<4
 rl:x.g.r.l.length≤6∧∀n∈x.g.r.l,0≤n∧n<6
def TF (P:ByteArray→Prop)(me num:Int)(r:List Int)(m:bS):Prop:=m.f=me∧m.g=num∧m.t∈r∧(m.k=7∨P m.v)∧gN m
structure bC (P:ByteArray→Prop)(c:Nat)(X:eU):Prop extends Fz P c X.x where
 rc:∀r∈X.rc.l,r.g=X.x.num∧P r.v∧Gs r
 ma:∀m∈X.ma.l,TF P X.x.me X.x.num X.x.g.r.l m
def uT (X X':eU):Prop:=X'.x.me=X.x.me∧X'.x.num=X.x.num∧X'.x.g=X.x.g
def MK (P:ByteArray→Prop):Prop:=∀v,P v→v.size≤1000000∧P ⟨#[]⟩
theorem Fz.more {c:Nat}{x:dZ}(h:Fz P c x)(hc:c≤c'):Fz P c' x:=⟨h.log,by have:=h.ll;omega,h.vs,by have:=h.vl;omega,h.wi,h.wl,h.t,h.hd,h.me,h.num,h.rl⟩
theorem bC.more {c:Nat}{X:eU}(h:bC P c X)(hc:c≤c'):bC P c' X:=⟨h.toFz.more hc,h.rc,h.ma⟩
theorem bC.send {c:Nat}{X:eU}{l:List Int}{m:bS}{s2:Sl bS}(h:bC P c X)(hs:wI X.x.me X.x.num l m X.ma.l s2.l)(hl:∀n∈l,n∈X.x.g.r.l)(hm:m.k=7∨P m.v)(hw:gN m):bC P c ⟨X.x,X.rc,s2⟩:=
 ⟨h.toFz,h.rc,fun y hy=>by
  rcases hs.2 y hy with h1|⟨n,h1,-,rfl⟩
  ·exact h.ma y h1
  ·have h2:=h.me;have h3:=h.num;have h4:=h.rl.2 n (hl n h1);exact⟨rfl,rfl,hl n h1,hm,⟨jG X.x.me (by omega) (by omega),jG n (by omega) (by omega),hw.k,jG X.x.num (by omega) (by omega),hw.s,hw.b,hw.p,hw.i,hw.tm,hw.v⟩⟩⟩
theorem bC.put {c:Nat}{X:eU}{r:Re}{v:YB}{v2:Sl lT}{r2:Sl Re}(h:bC P c X)(hp:Ya X r v v2 r2)(hv:P v.v∧i64 v.p∧i64 v.b)(hr:P r.v)(hw:Gs r):bC P (c+1) (wH X v2 r2):=by
 obtain⟨p1,p2,p3⟩:=hp;have h3:=h.num;refine⟨⟨h.log,by have:=h.ll;show X.x.log.l.length≤_;omega,fun y hy=>?_,by have:=h.vl;show v2.l.length≤_;omega,h.wi,h.wl,h.t,h.hd,h.me,h.num,h.rl⟩,fun y hy=>?_,h.ma⟩
 ·rcases p2 y hy with h1|⟨e1,e2,e3⟩
  ·exact h.vs y h1
  ·rw[e1,e2,e3];exact hv
 ·have hy2:y∈r2.l:=hy
  rcases p3 with e|e
  ·rw[e] at hy2;exact h.rc y hy2
  ·rw[e] at hy2
   rcases Zm.1 hy2 with h1|h1
   ·exact h.rc y h1
   ·rw[Zp.1 h1];exact⟨rfl,hr,⟨hw.k,jG X.x.num (by omega) (by omega),hw.s,hw.b,hw.v⟩⟩
theorem ko.nil:ko P r iZ:=⟨by refine⟨⟨?_,?_⟩,?_,?_⟩<;>decide,fun h=>absurd rfl h,fun p h=>(by cases h),by decide,fun n h=>(by cases h)⟩
theorem bC.learn {c:Nat}{X:eU}{v:ByteArray}{lo:Sl ByteArray}{vs:Sl lT}{wi:Sl ByteArray}{rc:Sl Re}(h:bC P c X)(hl:PX X v lo vs wi rc)(hv:P v)(hc:c≤1000)(hz:MK P):bC P (c+1) (rD X lo vs wi rc):=by
 have h3:=h.num;refine⟨⟨fun y hy=>?_,?_,fun y hy=>h.vs y (hl.h2.2 y hy),?_,fun y hy=>h.wi y (hl.h3.2 y hy),Zt hl.h3.1 h.wl,ko.nil,jG 0 (by decide) (by decide),h.me,h.num,h.rl⟩,fun y hy=>?_,h.ma⟩
 ·have hy2:y∈lo.l:=hy;rw[hl.h1] at hy2
  rcases Zm.1 hy2 with h1|h1
  ·exact h.log y h1
  ·rw[Zp.1 h1];exact hv
 ·show lo.l.length≤_;rw[hl.h1,Zn];have:=h.ll;simp only[ZI,aai];omega
 ·show vs.l.length≤_;have:=h.vl;have:=hl.h2.1;omega
 ·have hy2:y∈rc.l:=hy;rw[hl.h4] at hy2
  rcases Zm.1 hy2 with h1|h1
  ·exact h.rc y h1
  ·rw[Zp.1 h1];have:=h.ll;exact⟨rfl,hv,⟨by show(0:Int)≤3∧(3:Int)≤255;decide,jG X.x.num (by omega) (by omega),jG ((X.x.log.l.length:Int)+1) (by omega) (by omega),jG 0 (by decide) (by decide),(hz v hv).1⟩⟩
def bU (X:eU)(t:Try):eU:=⟨⟨X.x.me,X.x.num,X.x.g,X.x.log,X.x.vs,t,X.x.wi,X.x.hd⟩,X.rc,X.ma⟩
theorem bC.Vs {c:Nat}{X:eU}{t:Try}(h:bC P c X)(ht:ko P X.x.g.r.l t):bC P c (bU X t):=⟨⟨h.log,h.ll,h.vs,h.vl,h.wi,h.wl,ht,h.hd,h.me,h.num,h.rl⟩,h.rc,h.ma⟩
theorem Env.Nu {K:Nat}{is:List It}{X:eU}{t:Try}(E:Env b w0 bx (uD t N++(bM X N M K++is)) w):Env b w0 bx (bM (bU X t) N M K++is) w:=by
 have E2:Env b w0 bx (uD t N++(own X.ma M::own X.rc K::own X.x.wi N::own X.x.vs N::own X.x.log N::own X.x.g.m N::own X.x.g.r N::is)) w:=
  E.sub (Zi _) (.cons_cons _ (.cons_cons _ (.cons_cons _ (.cons_cons _ (.cons_cons _ (.cons _ (.cons _ (.cons _ (Zi _)))))))))
 exact E2.perm (List.perm_append_comm_assoc (uD t N) [own X.ma M,own X.rc K] (own X.x.wi N::own X.x.vs N::own X.x.log N::own X.x.g.m N::own X.x.g.r N::is))
theorem Env.bn {K:Nat}{is:List It}{X:eU}(E:Env b w0 bx (bM X N M K++is) w)(hM:M≤M')(hK:K≤K'):Env b w0 bx (bM X N M' K'++is) w:=
 (E.less 0 (i:=own X.ma M) (i':=own X.ma M') fun h=>Sl.Own.mono h (Zh _) hM).less 1 (i:=own X.rc K) (i':=own X.rc K') fun h=>Sl.Own.mono h (Zh _) hK
theorem ko.wf_ {t:Try}(h:ko P r t):Ef t:=⟨h.wf.2,h.wf.1,h.pr,h.sz.1⟩
theorem Px.so {t t':Try}(h:Px P t t')(ho:ko P r t)(hz:MK P):ko P r t':=
 ⟨⟨h.b▸ho.wf.1,by have:=h.ph;omega,by have:=h.ph;omega⟩,fun _=>h.ok,fun p hp=>⟨(h.ok.pr p hp).2.1,(hz _ (h.ok.pr p hp).1).1⟩,⟨(hz _ h.ok.wi).1,(hz _ h.ok.va).1⟩,fun n hn=>ho.mem n (h.mem▸hn)⟩
theorem pW {k s b p:Int}{v:ByteArray}(hk:0≤k∧k≤255)(hs:i64 s)(hb:i64 b)(hp:i64 p)(hv:v.size≤1000000):gN ⟨0,0,k,0,s,b,p,v,0,0⟩:=⟨jG 0 (by decide) (by decide),jG 0 (by decide) (by decide),hk,jG 0 (by decide) (by decide),hs,hb,hp,jG 0 (by decide) (by decide),jG 0 (by decide) (by decide),hv⟩
theorem dO:i64 0:=jG 0 (by decide) (by decide)
theorem Dj {K:Nat}{is:List It}{X:eU}(E:Env b w0 bx (bM X N M K++is) w):au.aA w w N X.x.t:=⟨E.ol 4,E.ol 3,E.ol 2⟩
theorem Cg (p q:Int)(s:ByteArray)(b:Int)(w:World)(hs:s.size≤1000000)(hp:i64 p)(hq:i64 q)(hb:i64 b) :
  Calls prog 185 #[.agg #[p,q,s],b] w fun e w'=>∃(p' q':Int) (s':ByteArray) (x:Int),e=.returned (.tuple #[.agg #[p',q',s'],x])∧(p'=b∧q'=q∧s'=s∨p'=0∧q'=0∧s'=⟨#[]⟩)∧Below w w w':=by
 by_cases h:pq p q s b ⟨#[]⟩=0
 ·exact(Nj p q s b w (by omega) hp.1 hp.2 hq.1 hq.2 hb.1 hb.2 h).mono fun e w' ⟨h1,h2⟩=>⟨_,_,_,_,h1,Or.inl ⟨rfl,rfl,rfl⟩,h2⟩
 ·exact(Lf p q s b w (by omega) hp.1 hp.2 hq.1 hq.2 hb.1 hb.2 _ rfl h).mono fun e w' ⟨h1,h2⟩=>⟨_,_,_,_,h1,Or.inr ⟨rfl,rfl,rfl⟩,h2⟩
theorem JO (p q:Int)(s:ByteArray)(b:Int)(t:ByteArray)(w:World)(hs:s.size≤1000000)(ht:t.size≤1000000)(hp:i64 p)(hq:i64 q)(hb:i64 b) :
  Calls prog 186 #[.agg #[p,q,s],b,t] w fun e w'=>∃(p' q':Int) (s':ByteArray) (x:Int),e=.returned (.tuple #[.agg #[p',q',s'],x])∧(p'=b∧q'=b∧s'=t∨p'=0∧q'=0∧s'=⟨#[]⟩)∧Below w w w':=by
 by_cases h:pq p q s b t=0
 ·exact(RJ p q s b t w (by omega) (by omega) hp.1 hp.2 hq.1 hq.2 hb.1 hb.2 h).mono fun e w' ⟨h1,h2⟩=>⟨_,_,_,_,h1,Or.inl ⟨rfl,rfl,rfl⟩,h2⟩
 ·exact(Pj p q s b t w (by omega) (by omega) hp.1 hp.2 hq.1 hq.2 hb.1 hb.2 _ rfl h).mono fun e w' ⟨h1,h2⟩=>⟨_,_,_,_,h1,Or.inr ⟨rfl,rfl,rfl⟩,h2⟩
theorem XD (a n:Int)(w:World):Calls prog 254 #[a,n] w fun e w'=>∃x y:Int,e=.returned (.tuple #[x,y])∧i64 x∧w=w':=by
 by_cases h:0≤n∧n<6∧0≤a∧a≤8388613
 ·by_cases h5:nx a n≤8388613
  ·have:=(P9 (a:=a) (n:=n) h.2.2.1 h.1 h.2.1).1;exact(Ry _ a n h.1 h.2.1 h.2.2.1 h.2.2.2 h5).mono fun e w' ⟨h1,h2⟩=>⟨_,_,h1,⟨by omega,by omega⟩,h2⟩
  ·exact(K8 _ a n h.1 h.2.1 h.2.2.1 h.2.2.2 (by omega)).mono fun e w' ⟨h1,h2⟩=>⟨_,_,h1,⟨by decide,by decide⟩,h2⟩
 ·exact(P5 _ a n h).mono fun e w' ⟨h1,h2⟩=>⟨_,_,h1,⟨by decide,by decide⟩,h2⟩
end
variable{a:Act}{ops:Array Oper}{s s2:ByteArray}{Q:Exit→Act→World→Prop}{p2 q2:Int}{Pg:Int→ByteArray→Prop}{o:Oper}{x y:Operand}
section
attribute [local irreducible] wpList av aH
theorem yY:∀n:Nat,((List.replicate n (⟨none,0,[]⟩:Sl ByteArray)).flatMap aj.cs)=List.replicate n (.slice none 0 0)
 |0=>rfl
 |n+1=>by rw[List.replicate_succ,ZQ,yY n,List.replicate_succ];rfl
theorem Mx (n:Nat):(madeCells (Value.slice none 0 0).cells (n*1)).toList=List.replicate n (.slice none 0 0):=by
 rw[ZB];refine List.ext_getElem (by simp[madeCells]) fun i h1 h2=>?_;simp[madeCells,Value.cells,Nat.mod_one]
theorem TT {is:List It}{rest:List Oper}{n:Nat}(E:Env b w0 bx is w)(hn:n≤1000)(h:∀g w',Env b w0 bx (own (⟨some ⟨g,0,none⟩,n,List.replicate n ⟨none,0,[]⟩⟩:Sl (Sl ByteArray)) 1000::is) w'→wpList prog ops Q rest (a.put o.dst (.slice (some ⟨g,0,none⟩) n n)) w')
  (hg:o.guard=none:=by rfl) (ho:o.op=.makeSlice 133 x y:=by rfl) (hx:a.eval x=.int .i64 (n:Int):=by rfl) (hy:a.eval y=.int .i64 (n:Int):=by rfl):wpList prog ops Q (o::rest) a w:=by
 obtain⟨i0,hi0,hz0,hz1,hz2⟩:=info_parts (aj.info (α:=Sl ByteArray));obtain⟨w',hr,hrow,hgr⟩:=run_makeSlice_full (P:=prog) (w:=w) w 133 (aj.ty (Sl ByteArray)) i0 (aj.zero (Sl ByteArray)) 1 underlying133 hi0 hz0 hz1 .i64 .i64 n (by omega) (by rw[hz2];show 24*n≤_;omega) (by simp only[maxLen];omega) (Zh _);refine wpList_plain hg fun K hK=>?_;unfold Oper.wp execOp;simp only[ho,hx,hy,aaV,hr,aaQ,aaW];refine hK _ _ (h w w' (E.sH ⟨hgr.os,hgr.tape,hgr.output,hgr.size,fun g hg=>hgr.block g hg (by simp)⟩ (x:=(⟨some ⟨w,0,none⟩,n,List.replicate n ⟨none,0,[]⟩⟩:Sl (Sl ByteArray))) (N:=1000) ⟨?_,by simpa using hn,fun x hx=>by rw[(List.mem_replicate.1 hx).2];exact Sl.eY⟩));unfold Sl.Row Sl.row;rw[yY];have e:=Mx n;simp only[List.length_replicate];rw[←e];exact hrow
structure Xo (r:Re):Prop where
 k:r.k=1∨r.k=2∨r.k=3
 g:0≤r.g∧r.g<4
 s:1≤r.s∧r.s≤200
 b:i64 r.b
 v:r.v.size≤1000000
structure kI (Pg:Int→ByteArray→Prop)(X:Al):Prop where
 lo:∀(k:Nat) (x:Sl ByteArray),X.lo.l[k]?=some x→x.l.length≤200∧∀v∈x.l,Pg (k:Int) v
 vs:∀y∈X.vs.l,Pg y.g y.v∧DU y
def oH (Pg:Int→ByteArray→Prop):Prop:=∀g v,Pg g v→v.size≤1000000∧Pg g ⟨#[]⟩
def wD (p:Nat)(X:Al):Bx:=(p,135,X)
def oz (X:Al)(M:Nat):List It:=fG X.lo 1000::own X.vs M::X.lo.l.map fun x=>own x 1000
theorem Ou {a b c:Int}(h:uF (bZ a b) c=0):a=b:=by
 unfold uF bZ at h
 by_cases h1:a<b
 ·simp[h1] at h
 ·by_cases h2:b<a
  ·simp[h1,h2] at h
  ·omega
theorem JD {a c:Int}(h:p2=a∧q2=c∧s2=s∨p2=0∧q2=0∧s2=⟨#[]⟩)(hs:P s∧s.size≤1000000∧i64 a∧i64 c)(h0:P ⟨#[]⟩):P s2∧s2.size≤1000000∧i64 p2∧i64 q2:=by
 rcases h with ⟨rfl,rfl,rfl⟩|⟨rfl,rfl,rfl⟩
 ·exact hs
 ·exact⟨h0,by decide,dO,dO⟩
theorem kI.log {X:Al}(h:kI Pg X){x y:Sl ByteArray}{v:ByteArray}{vs:Sl lT}(hx:X.lo.l[k]?=some x)(hy:y.l=x.l++[v])(hl:x.l.length≤199)(hv:Pg (k:Int) v)(hs:∀z∈vs.l,z∈X.vs.l):kI Pg ⟨⟨X.lo.A,X.lo.c,X.lo.l.set k y⟩,vs⟩:=by
 refine⟨fun i z hz=>?_,fun z hz=>h.vs z (hs z hz)⟩;rw[aaH] at hz
 split at hz
 ·rename_i e
  subst e
  split at hz
  ·injection hz with hz
   subst hz;have:=h.lo k x hx;rw[hy];refine⟨by simp;omega,fun u hu=>?_⟩
   rcases Zm.1 hu with hu|hu
   ·exact this.2 u hu
   ·rw[Zp.1 hu];exact hv
  ·cases hz
 ·exact h.lo i z hz
theorem kI.Xc {X:Al}(h:kI Pg X){vs:Sl lT}{y:lT}(hv:Pg y.g y.v∧DU y)(hs:∀z∈vs.l,z∈X.vs.l∨z=y):kI Pg ⟨X.lo,vs⟩:=
 ⟨h.lo,fun z hz=>(hs z hz).elim (h.vs z) fun e=>e▸hv⟩
theorem Rx {is:List It}(Pg:Int→ByteArray→Prop)(p M:Nat)(X:Al)(r:Re)(w:World)(E:Env b w0 (wD p X::bx) (oz X M++is) w)(hI:kI Pg X)(hr:Xo r)(hv:Pg r.g r.v)(hz:oH Pg)(hM:M≤99000)(hn:X.lo.l.length≤4) :
  Calls prog 121 #[p,r] w fun e w'=>∃(v:Int) (Y:Al),e=.returned v∧Hid (kI Pg Y∧Y.lo.l.length=X.lo.l.length)∧Env b w0 (wD p Y::bx) (oz Y (M+1)++is) w':=by
 have HI:=L_ hI;have HR:=L_ hr;have HV:=L_ hv;have HZ:=L_ hz;have hrg:=hr.g;have hrs:=hr.s;have hvn:=E.on (s:=X.vs) (N:=M) 1;replace E:=E.less 1 (i:=own X.vs M) (i':=own X.vs (M+1)) fun h=>Sl.Own.mono h (Zh _) (Nat.le_succ M);replace E:Env b w0 (wD p X::bx) (fG X.lo 1000::own X.vs (M+1)::((X.lo.l.map fun x=>own x 1000)++is)) w:=E;obtain⟨k,hk⟩:∃k:Nat,r.g=(k:Int):=⟨r.g.toNat,by omega⟩;clear hI hr hv hz;obtain⟨rk,rg,rs,rb,rv⟩:=r;dsimp only at hk hrg hrs HV;subst hk
 go_enter func121,ntmps121
 refine GD E [5,71,3,0,9] ?_;clear E;intro g3 w2 E;refine aC (wp_seq (bP 0 7 [] (aaL [0,1,2,3,4,5,6]) E ?_));clear E;intro w3 E;refine GD E [32,50,32,32,32,51,32,29] ?_
 by_cases c1:(X.lo.l.length:Int)≤(k:Int)
 case pos=>
  refine G0 [0,4,7,5,0,4,22,24] ?_;exact ak ⟨6,X,rfl,L_ ⟨HI,rfl⟩,E.drop 1⟩
 refine G0 [0,4,8,15] ?_;have hkl:k<X.lo.l.length:=by omega
 obtain⟨x,hx⟩:∃x,X.lo.l[k]?=some x:=⟨_,Zl hkl⟩;obtain⟨gl,cur,hA,-,-,-⟩:=(show Sl.Row _ b X.lo∧_ from E.get 0).1.at_ hx;replace hx:=L_ hx;clear c1;refine bP 0 6 [] (aaL [0,1,2,3,4,5]) E ?_;clear E;intro w4 E;refine GD E [32,32,32,51,32,50,29,0,0] ?_;refine aC (wp_seq (bP 0 19 (fG X.lo 1000::own X.vs (M+1)::((X.lo.l.map fun x=>own x 1000)++is)) (aaL [0,1,2,3,4,5,6,7,8,9,10,11,12,13,14,15,16,17,18]) E ?_));clear E;intro w5 E;refine GD E [32,50,32,32] ?_;refine ug E (v:=.slice x.A x.l.length x.c) (fun w' E'=>by have h:=E'.Ms 0 (i:=0) hA hx rfl;simpa[aj.sz,Sl.val] using h) ?_;refine ni E ?_
 by_cases c2:rs≤(x.l.length:Int)
 case pos=>
  refine GD E [32,32,36,36,33,29,1,1,0,4,7,5,0,4,22,24] ?_;exact ak ⟨8,X,rfl,L_ ⟨HI,rfl⟩,E.drop 1⟩
 refine GD E [32,32,32,50] ?_
 by_cases k3:(rk==3)=true
 case' pos=>
  refine GD E [32,32,32,50,32,32] ?_;refine ug E (v:=.slice x.A x.l.length x.c) (fun w' E'=>by have h:=E'.Ms 0 (i:=0) hA hx rfl;simpa[aj.sz,Sl.val] using h) ?_;refine ni E ?_;have hw:IntKind.i64.wrap ((x.l.length:Int)+1)=(x.l.length:Int)+1:=aaP _ (by omega);refine GD E [32,29] ?_
  by_cases c3:(rs !=(x.l.length:Int)+1)=true
  case pos=>
   refine G0 [84,4,7,5,0,4,22,24] ?_;exact ak ⟨8,X,rfl,L_ ⟨HI,rfl⟩,E.drop 1⟩
  replace c3:(rs !=(x.l.length:Int)+1)=false:=by simpa using c3
  refine G0 [84,4,8,15,5] ?_;have HK:Hid (rk=3→x.l.length≤199):=L_ (fun _=>by have h:rs=(x.l.length:Int)+1:=(by simpa using c3);omega);clear hw c2 c3 k3
 case' neg=>
  replace k3:(rk==3)=false:=by simpa using k3
  refine GD E [32,32,36,33,33,29,1,0,0,4,8,15,5] ?_;have HK:Hid (rk=3→x.l.length≤199):=L_ (fun h=>by simp[h] at k3);clear c2 k3
 all_goals
  refine GD E [0,40,0,40,0,70,3,60,9] ?_;clear E;intro g6 w7 E;refine aC (bP 0 10 [] (aaL [0,1,2,3,4]++aaN [5]++aaL [6,7,8,9]) E ?_);clear E;intro w8 E;refine GD E [32,32,32,52] ?_;refine gZ 0 5 E ?_;refine bT (Ah X.vs ⟨(k:Int),rs,0,0,⟨#[]⟩⟩ _ (M+1) (E.ol 1) (by omega)) ?_;rintro _ w9 ⟨kk,bf,rfl,hbin,hb⟩;replace E:=E.up hb;clear hb;have hkk:=hbin.1;replace hbin:=L_ hbin;refine⟨_,rfl,E.weak,D_n ?_⟩;refine GD E [32,32,32,32,29,0,4,6,5] ?_;cases bf
  case true=>
   refine G0 [0,4,7] ?_;obtain⟨y,hy,hcm⟩:=hbin.2.2.2.1 rfl;have hkv:kk<X.vs.l.length:=(Zo.1 hy).1;obtain⟨gv,curv,hAv,-,-,hcv⟩:=(show Sl.Own _ b (M+1) X.vs from E.get 1).1.at_ hy;have hyg:y.g=(k:Int):=Ou hcm;have HY:Hid (Pg (k:Int) y.v∧DU y):=L_ (hyg▸HI.out.vs y (Zk hy));have HYG:=L_ hyg;replace hy:=L_ hy;replace hcv:=L_ hcv;clear hcm hyg;refine GD E [23,84,42,0,0] ?_;refine fA y (fun q u hu=>hcv q u hu) ?_;clear hcv;refine GD E [60,4,5,0,4,6,5,0,41,4,19,5,9] ?_;clear E;intro w10 E
   by_cases k1:(rk==1)=true
   case' pos=>
    refine G0 [0,0,4,7,23,0] ?_;refine aB 0 3 E ?_;refine GD E [0,41] ?_;refine ah (Cg y.p y.b y.v rb _ HY.2.1 HY.2.2.1 HY.2.2.2 HR.b) ?_;rintro _ w11 ⟨p2,q2,s2,x2,rfl,hvv,hb⟩;replace E:=E.up hb;clear hb;refine GD E [26,84,0,60,0,20,6,5,9] ?_;clear E;intro w12 E;have HN:=L_ (JD (P:=Pg (k:Int)) hvv ⟨HY.1,HY.2.1,HR.b,HY.2.2.2⟩ (HZ _ _ HV).2);clear hvv k1
   case' neg=>
    replace k1:(rk==1)=false:=by simpa using k1
    refine G0 [0,0,4,8,5] ?_
    by_cases k2:(rk==2)=true
    case' pos=>
     refine G0 [0,0,4,7,23,0] ?_;refine aB 0 3 E ?_;refine GD E [0,41,0,41] ?_;refine ah (JO y.p y.b y.v rb rv _ HY.2.1 HR.v HY.2.2.1 HY.2.2.2 HR.b) ?_;rintro _ w13 ⟨p2,q2,s2,x2,rfl,hvv,hb⟩;replace E:=E.up hb;clear hb;refine GD E [26,84,0,60,0,20,6,5,9] ?_;clear E;intro w14 E;have HN:=L_ (JD (P:=Pg (k:Int)) hvv ⟨HV,HR.v,HR.b,HR.b⟩ (HZ _ _ HV).2);clear hvv k1 k2
    case neg=>
     replace k2:(rk==2)=false:=by simpa using k2
     refine G0 [0,0,4,8] ?_;have hk3:rk=3:=by have h:rk=1∨rk=2∨rk=3:=HR.k;simp at k1 k2;omega
     have hxl:=HK hk3;clear hk3;replace E:=E.Cu (k+2) (CQ hx);refine bP 0 8 ((fG X.lo 1000::own X.vs (M+1)::((X.lo.l.map fun x=>own x 1000)++is)).take (k+2)++(fG X.lo 1000::own X.vs (M+1)::((X.lo.l.map fun x=>own x 1000)++is)).drop (k+2+1)) (aaL [0,1,2,3,4,5]++aaN [6,7]) E ?_;clear E;intro w15 E
     iterate 3 refine ni E ?_
     refine ug E (v:=.slice x.A x.l.length x.c) (fun w' E'=>by have h:=E'.Ms 0 (i:=0) hA hx rfl;simpa[aj.sz,Sl.val] using h) ?_;refine GD E [32,51] ?_;refine xL E ?_;clear E;intro g77 w16 E;refine D_n ?_;refine Ii (s:=x) (N:=1000) 1000 ⟨some ⟨g77,0,none⟩,1,[rv]⟩ E (E.reads 0 1 1) (by simp;omega) (by omega) ?_;clear E;intro x3 w17 h3 E;refine D_n ?_;refine ow ?_;replace E:=(E.J2 (by simp;omega)).as rfl (Ck hkl);refine fV ?_;refine AA (N:=1000) (i:=0) (hx:=by rw[show k*aj.sz (Sl ByteArray)+0=k from ZB k];rfl) 0 E hA hx x3 ?_;clear E;intro w18 E;refine GD E [4,6,5,0,4,7,23,84,0,43,84] ?_;have hwk:IntKind.i64.wrap ((kk:Int)+1)=(kk:Int)+1:=aaP _ (by omega);refine ah (qX X.vs b _ (show Sl.Own _ b (M+1) X.vs from E.get 1).1 (by omega) kk hkv) ?_;rintro _ w19 ⟨vs2,rfl,hl2,hrow,hgr⟩;replace E:=E.mG (s':=vs2) (N':=M+1) 1 rfl hgr hrow (by rw[hl2];have:=CK hkv;omega);replace hl2:=L_ hl2;clear hgr hrow;refine GD E [26,0,0,63,4,5,0,4,22,24,9] ?_;clear E;intro w20 E;exact ak ⟨0,⟨⟨X.lo.A,X.lo.c,X.lo.l.set k x3⟩,vs2⟩,rfl,L_ ⟨HI.log hx h3 hxl HV (fun z hz=>(xg _ _).subset (hl2.out▸hz)),Z7 ..⟩,by simpa[wD,oz,Z7] using E.drop 3⟩
   all_goals
    refine fV ?_
    by_cases e0:(x2 !=0)=true
    case pos=>
     refine G0 [0,4,7,5,0,0,4,22,24] ?_;exact ak ⟨x2,X,rfl,L_ ⟨HI,rfl⟩,E.drop 2⟩
    replace e0:(x2 !=0)=false:=by simpa using e0
    refine G0 [0,4,8,15,6,5,0,0,4,8,15] ?_;clear e0;refine bP 0 6 [] (aaL [0,1,2,3,4,5]) E ?_;clear E;intro w21 E;refine GD E [32,32,32,52,32] ?_;refine gZ 0 5 E ?_;refine GD E [29,0] ?_;refine VO (N:=M+1) (i:=0) 1 E hAv hy ⟨y.g,y.s,p2,q2,s2⟩ ?_;clear E;intro w22 E;refine G0 [4,5,0,4,22] ?_;exact ak ⟨0,⟨X.lo,⟨X.vs.A,X.vs.c,X.vs.l.set kk ⟨y.g,y.s,p2,q2,s2⟩⟩⟩,rfl,L_ ⟨HI.Xc (y:=⟨y.g,y.s,p2,q2,s2⟩) ⟨HYG.out▸HN.out.1,HN.2⟩ (fun z hz=>aat hz),rfl⟩,by simpa[wD,oz,Z7] using E.drop 2⟩
  case false=>
   refine G0 [0,4,8] ?_;have HY:Hid (Pg (k:Int) (⟨#[]⟩:ByteArray)∧DU (⟨(k:Int),rs,0,0,⟨#[]⟩⟩:lT)):=L_ ⟨(HZ _ _ HV).2,(by decide:(⟨#[]⟩:ByteArray).size≤1000000),dO,dO⟩;refine GD E [15,5,0,4,6,5,0,41,4,19,5] ?_
   by_cases k1:(rk==1)=true
   case' pos=>
    refine G0 [0,0,4,7,23,0] ?_;refine aB 0 3 E ?_;refine GD E [0,41] ?_;refine ah (Cg 0 0 ⟨#[]⟩ rb _ HY.2.1 HY.2.2.1 HY.2.2.2 HR.b) ?_;rintro _ w23 ⟨p2,q2,s2,x2,rfl,hvv,hb⟩;replace E:=E.up hb;clear hb;refine GD E [26,84,0,60,0,20,6,5,9] ?_;clear E;intro w24 E;have HN:=L_ (JD (P:=Pg (k:Int)) hvv ⟨HY.1,HY.2.1,HR.b,HY.2.2.2⟩ (HZ _ _ HV).2);clear hvv k1
   case' neg=>
    replace k1:(rk==1)=false:=by simpa using k1
    refine G0 [0,0,4,8,5] ?_
    by_cases k2:(rk==2)=true
    case' pos=>
     refine G0 [0,0,4,7,23,0] ?_;refine aB 0 3 E ?_;refine GD E [0,41,0,41] ?_;refine ah (JO 0 0 ⟨#[]⟩ rb rv _ HY.2.1 HR.v HY.2.2.1 HY.2.2.2 HR.b) ?_;rintro _ w25 ⟨p2,q2,s2,x2,rfl,hvv,hb⟩;replace E:=E.up hb;clear hb;refine GD E [26,84,0,60,0,20,6,5,9] ?_;clear E;intro w26 E;have HN:=L_ (JD (P:=Pg (k:Int)) hvv ⟨HV,HR.v,HR.b,HR.b⟩ (HZ _ _ HV).2);clear hvv k1 k2
    case neg=>
     replace k2:(rk==2)=false:=by simpa using k2
     refine G0 [0,0,4,8] ?_;have hk3:rk=3:=by have h:rk=1∨rk=2∨rk=3:=HR.k;simp at k1 k2;omega
     have hxl:=HK hk3;clear hk3;replace E:=E.Cu (k+2) (CQ hx);refine bP 0 8 ((fG X.lo 1000::own X.vs (M+1)::((X.lo.l.map fun x=>own x 1000)++is)).take (k+2)++(fG X.lo 1000::own X.vs (M+1)::((X.lo.l.map fun x=>own x 1000)++is)).drop (k+2+1)) (aaL [0,1,2,3,4,5]++aaN [6,7]) E ?_;clear E;intro w27 E
     iterate 3 refine ni E ?_
     refine ug E (v:=.slice x.A x.l.length x.c) (fun w' E'=>by have h:=E'.Ms 0 (i:=0) hA hx rfl;simpa[aj.sz,Sl.val] using h) ?_;refine GD E [32,51] ?_;refine xL E ?_;clear E;intro g77 w28 E;refine D_n ?_;refine Ii (s:=x) (N:=1000) 1000 ⟨some ⟨g77,0,none⟩,1,[rv]⟩ E (E.reads 0 1 1) (by simp;omega) (by omega) ?_;clear E;intro x3 w29 h3 E;refine D_n ?_;refine ow ?_;replace E:=(E.J2 (by simp;omega)).as rfl (Ck hkl);refine fV ?_;refine AA (N:=1000) (i:=0) (hx:=by rw[show k*aj.sz (Sl ByteArray)+0=k from ZB k];rfl) 0 E hA hx x3 ?_;clear E;intro w30 E;refine G0 [4,6,5,0,4,8,15,5,0,4,22,24] ?_;exact ak ⟨0,⟨⟨X.lo.A,X.lo.c,X.lo.l.set k x3⟩,X.vs⟩,rfl,L_ ⟨HI.log hx h3 hxl HV (fun z hz=>hz),Z7 ..⟩,by simpa[wD,oz,Z7] using E.drop 3⟩
   all_goals
    refine fV ?_
    by_cases e0:(x2 !=0)=true
    case pos=>
     refine G0 [0,4,7,5,0,0,4,22,24] ?_;exact ak ⟨x2,X,rfl,L_ ⟨HI,rfl⟩,E.drop 2⟩
    replace e0:(x2 !=0)=false:=by simpa using e0
    refine G0 [0,4,8,15,6,5,0,0] ?_;refine aC (Qs (ng 0 9 [] (aaL [0,1,2,3,4,5,6]++aaN [7,8]) E ?_));clear E;intro w31 E;refine GD E [32,32,32,32,52,32] ?_;refine gZ 0 5 E ?_;refine xL E ?_;clear E;intro g128 w32 E;refine D_n ?_;clear e0;have hne:Hid (∀a,X.vs.A=some a→g128≠a.block):=L_ (fun a ha e=>E.Vj 0 1 rfl rfl (e▸gL ha));refine bT (qZ X.vs b _ (show Sl.Own _ b (M+1) X.vs from E.get 1).1 (by omega) kk hkk ⟨(k:Int),rs,p2,q2,s2⟩ g128 (E.blk 0 rfl) hne E.sz) ?_;rintro _ w33 ⟨vs2,rfl,hl2,hrow,hgr⟩;have hln:Hid (vs2.l.length=X.vs.l.length+1):=L_ (by rw[hl2,CU hkk]);replace E:=E.mG (s':=vs2) (N':=M+1) 1 rfl hgr hrow (by rw[hln.out];omega);have hy2:vs2.l[kk]?=some ⟨(k:Int),rs,p2,q2,s2⟩:=by rw[hl2,ZN,Z8 (by rw[Zw];omega),Zw,aaf hkk,Nat.sub_self];rfl
    obtain⟨gv,curv,hAv,-,-,-⟩:=hrow.at_ hy2;replace hl2:=L_ hl2;replace hy2:=L_ hy2;clear hgr hrow hne;refine⟨_,rfl,(E.drop 1).weak,D_n ?_⟩;refine GD E [29,0,0,63,4,9] ?_;clear E;intro w34 E;have hkv:kk<vs2.l.length:=by rw[hln.out];omega
    clear hln;refine bP 0 6 [] (aaL [0,1,2,3,4,5]) E ?_;clear E;intro w35 E;refine GD E [32,32,32,53,32] ?_;refine gZ 1 5 E ?_;refine GD E [29,0] ?_;refine VO (N:=M+1) (i:=0) 1 E hAv hy2 ⟨(k:Int),rs,p2,q2,s2⟩ ?_;clear E;intro w36 E;refine G0 [4,5,0,4,22] ?_;exact ak ⟨0,⟨X.lo,⟨vs2.A,vs2.c,vs2.l.set kk ⟨(k:Int),rs,p2,q2,s2⟩⟩⟩,rfl,L_ ⟨HI.Xc (y:=⟨(k:Int),rs,p2,q2,s2⟩) ⟨HN.1,HN.2⟩ (fun z hz=>(aat hz).elim (fun h=>Cz (hl2.out▸h)) Or.inr),rfl⟩,by simpa[wD,oz,Z7,hAv] using E.drop 3⟩
end
section
open Go.RowKit Bal
def nk (l:List UInt8):Nat:=match Nm.get l with|some p=>p.2|none=>0
theorem NM (l:List UInt8):nk l≤l.length:=by
 unfold nk;cases h:Nm.get l with
 |none=>exact Zq _
 |some p=>obtain⟨m,k⟩:=p;exact(Nm.gD h).2.2.1
theorem Km (l:List UInt8)(b:Bool):(Rp.next (l,b)).2.1=l.drop (nk l):=by
 unfold Rp.next nk;cases h:Nm.get l with
 |none=>simp
 |some p=>simp
theorem U1 (k:Nat)(hk:k<9223372036854775808):bits .and .i64 (k:Int) 255=((k % 256:Nat):Int):=by
 have h:=vY k 255 hk (by omega);have e:k &&& 255=k % 256:=Nat.and_two_pow_sub_one_eq_mod k 8;rw[e] at h;exact h
theorem AR (A:Option Addr)(c:Nat):mX A c 0=A:=by
 unfold mX
 split
 ·rfl
 ·cases A with
  |none=>rfl
  |some a=>simp[Addr.add]
theorem Ld (gb gd:Nat)(A:Option Addr)(n c D:Nat)(l l':List UInt8)(m:Nat)(b b':Bool)(w:World)(h1:aF w gb 46 #[.slice A n c])(h2:aF w gd 4 #[b])(hr:Reads w D 1 A n (cb l))(hc:n≤c)(hm:c≤9223372036854775807)(hn:n≤1000000)
  (h:Rp.next (l,b)=(m,(l',b'))) :
  Calls prog 182 #[gb,gd] w fun e w'=>e=.returned ((m:Int))∧w'=(w.setCell ⟨gd,0,none⟩ b').setCell ⟨gb,0,none⟩ (.slice (mX A c (nk l)) (n - nk l) (c - nk l)):=by
 have c1:=h1.cell 0;have f1:=h1.frozen 0;have c2:=h2.cell 0;have f2:=h2.frozen 0;have n12:=h1.TQ h2 (by decide);have n21:=Ne.symm n12;have hl:=hr.mR;have hs:=fun w=>gu (P:=prog) underlying46 A n c (nk l) (by have:=NM l;omega) w jS;have hkl:nk l≤n:=by have:=NM l;omega
 cases hg:Nm.get l with
 |none=>
  have e1:nk l=0:=by unfold nk;rw[hg]
  have e2:m=0∧b'=true:=by
   unfold Rp.next at h;simp only[hg] at h;injection h with h h'
   injection h' with h' h''
   exact⟨h.symm,h''.symm⟩
  obtain⟨rfl,rfl⟩:=e2;have HG:=L_ (Gx A n c D l w hr (by omega) hg);have HE:=L_ e1;rw[e1] at hs;clear h hg e1 hr h1 h2 hl hkl;cases b with
  |true=>
   go_enter func182,ntmps182
   go_wp2_with (first|(with_reducible refine HG.out.mono ?_;rintro e w' ⟨rfl,rfl⟩));go_ret;rw[HE.out,AR,Nat.sub_zero,Nat.sub_zero];exact⟨rfl,rfl⟩
  |false=>
   go_enter func182,ntmps182
   go_wp2_with (first|(with_reducible refine HG.out.mono ?_;rintro e w' ⟨rfl,rfl⟩));go_ret;rw[HE.out,AR,Nat.sub_zero,Nat.sub_zero];exact⟨rfl,rfl⟩
 |some p=>
  obtain⟨m2,k⟩:=p;have e1:nk l=k:=by unfold nk;rw[hg]
  have e2:m=m2∧b'=b:=by
   unfold Rp.next at h;simp only[hg] at h;injection h with h h'
   injection h' with h' h''
   exact⟨h.symm,h''.symm⟩
  obtain⟨rfl,rfl⟩:=e2;have HG:=L_ (Il A n c D l m k w hr (by omega) hg);have HE:=L_ e1;rw[e1] at hs hkl;clear h hg e1 hr h1 h2 hl;cases b' with
  |true=>
   go_enter func182,ntmps182
   go_wp2_with (first|(with_reducible refine HG.out.mono ?_;rintro e w' ⟨rfl,rfl⟩));go_ret;rw[HE.out];exact⟨rfl,rfl⟩
  |false=>
   go_enter func182,ntmps182
   go_wp2_with (first|(with_reducible refine HG.out.mono ?_;rintro e w' ⟨rfl,rfl⟩));go_ret;rw[HE.out];exact⟨rfl,rfl⟩
end
variable{g0 gb gf m:Nat}{v':Value}{w1:World}
section
open Go.RowKit Bal
def zu (w0:World)(g0 gb gf:Nat)(R:Array Value)(l:List UInt8)(w:World):Prop:=
 ∃v,aF w gb 46 #[v]∧w.ownsRow w0 5 1 v l.length (cb l)∧aF w gf 29 #[.int .i64 0]∧aF w g0 196 R∧Below w0 w0 w∧w0.heap.size≤gb∧w0.heap.size≤gf
theorem zu.below {R:Array Value}{l:List UInt8}(h:zu w0 g0 gb gf R l w)(hb:Below w w w'):zu w0 g0 gb gf R l w':=by
 obtain⟨v,h1,h2,h3,h4,h5,h6,h7⟩:=h;exact⟨v,h1.below hb h1.lt,jB h2 hb,h3.below hb h3.lt,h4.below hb h4.lt,h5.trans (hb.mono h5.size),h6,h7⟩
theorem zu.add {R:Array Value}{l x:List UInt8}(h1:aF w gb 46 #[v])(h2:w.ownsRow w0 5 1 v l.length (cb l))(h3:aF w gf 29 #[.int .i64 0])
  (h4:aF w g0 196 R) (h5:Below w0 w0 w) (h6:w0.heap.size≤gb) (h7:w0.heap.size≤gf) (hx:x.length=m)
  (o:w1.ownsRow w0 5 1 v' (l.length+m) (cb (l++x))) (hg:dX w w1 v v'):zu w0 g0 gb gf R (l++x) ((w1.setCell ⟨gb,0,none⟩ v').setCell ⟨gf,0,none⟩ (.int .i64 0)):=by
 have k1:=h1.grown hg.1 (Ne.symm (aQ h2 h1 (by decide)));have k3:=h3.grown hg.1 (Ne.symm (aQ h2 h3 (by decide)));have k4:=h4.grown hg.1 (Ne.symm (aQ h2 h4 (by decide)));have n13:gf≠gb:=k3.TQ k1 (by decide);have n14:g0≠gb:=k4.TQ k1 (by decide);have n34:g0≠gf:=k4.TQ k3 (by decide);have q1:aF (w1.setCell ⟨gb,0,none⟩ v') gb 46 #[v']:=by simpa using k1.aM 0 v'
 have q3:aF (w1.setCell ⟨gb,0,none⟩ v') gf 29 #[.int .i64 0]:=k3.far n13 v';refine⟨v',q1.far (Ne.symm n13) _,?_,by simpa using q3.aM 0 (.int .i64 0),(k4.far n14 v').far n34 _,?_,h6,h7⟩
 ·rw[Zn,hx];have o1:=ownsRow_setCell_other o (a:=⟨gb,0,none⟩) (aQ o k1 (by decide)) v';exact ownsRow_setCell_other o1 (a:=⟨gf,0,none⟩) (aQ o1 q3 (by decide)) _
 ·have b1:Below w0 w w1:=hg.below (Zt h5.size (Zh _)) fun k hk=>(h2.lt k hk).1;exact((h5.trans b1).setCell h6 _).setCell h7 _
theorem mV (w0:World)(g0 gb gf:Nat)(R:Array Value)(l x:List UInt8)(A:Option Addr)(m c:Nat)(w:World)(h:zu w0 g0 gb gf R l w)(hx:Reads w w 1 A m (cb x))(hl:l.length+m≤1000000) :
  Calls prog 160 #[.slice A m c,.int .i64 0,gb,gf] w fun e w'=>e=()∧zu w0 g0 gb gf R (l++x) w':=by
 obtain⟨v,h1,h2,h3,h4,h5,h6,h7⟩:=h;have cb1:=h1.cell 0;have ff:=h3.cell 0;have H1:=L_ h1;have H2:=L_ h2;have H3:=L_ h3;have H4:=L_ h4;have H5:=L_ h5;have HX:=L_ hx;clear h1 h2 h3 h4 h5 hx
 go_enter func160,ntmps160
 go_wp2_with (at_builtin;refine yu rfl (.tmp 6) (.tmp 7) rfl w0.heap.size v l.length l rfl H2 w A m c x rfl HX ?d1 ?d2 ?_)
 case d1=>omega
 case d2=>exact H5.size
 intro v' w1 o hg;obtain⟨A',c',rfl,-,-,-⟩:=bH o;have k1:=H1.grown hg.1 (Ne.symm (aQ H2 H1 (by decide)));have k3:=H3.grown hg.1 (Ne.symm (aQ H2 H3 (by decide)));have n13:=k3.TQ k1 (by decide);have c1:=k1.cell 0;have f1:=k1.frozen 0;have c3:=k3.cell 0;have f3:=k3.frozen 0;have O:=L_ o;have HG:=L_ hg;clear k1 k3 o hg cb1 ff;have n31:=Ne.symm n13;go_wp2
 go_end0
 exact⟨rfl,zu.add H1 H2 H3 H4 H5 h6 h7 HX.mR O HG⟩
theorem zu.cells {k g s b:Int}{v:ByteArray}{l:List UInt8}(h:zu w0 g0 gb gf #[.int .u8 k,g,s,b,v] l w) :
  w.cell? ⟨g0,0,none⟩=some (.int .u8 k)∧w.cell? ⟨g0,1,none⟩=some (.int .i64 g)∧w.cell? ⟨g0,2,none⟩=some (.int .i64 s)∧w.cell? ⟨g0,3,none⟩=some (.int .i64 b)∧w.cell? ⟨g0,4,none⟩=some (.string v):=by
 obtain⟨_,_,_,_,h4,_⟩:=h;exact⟨h4.cell 0,h4.cell 1,h4.cell 2,h4.cell 3,h4.cell 4⟩
theorem zu.fin {R:Array Value}{l:List UInt8}(h:zu w0 g0 gb gf R l w):∃A n c t,w.cell? ⟨gb,0,none⟩=some (.slice A n c)∧w.cell? ⟨gf,0,none⟩=some (.int .i64 0) ∧
  (∀q,(convert 46 9 (.slice A n c)).run prog (w.drewN q)=.ok (.string t) (w.drewN q))∧Below w0 w0 w∧t=S l:=by
 obtain⟨v,h1,h2,h3,h4,h5,_⟩:=h;obtain⟨A,c,rfl,hr,_,_⟩:=bH h2;exact⟨A,_,c,_,h1.cell 0,h3.cell 0,fun q=>jA underlying46 underlying5 underlying9 (hr.drewN q),h5,rfl⟩
def Me (k g s b:Int)(v:ByteArray):List UInt8:=Rp.jc ⟨k,g,s,b,v.data.toList⟩
theorem Nz {k g s b:Int}{n:Nat}(h:Rp.gK k g s b n=true):rE k g s b n=0:=by simp[rE,h]
theorem IK {k g s b:Int}{n:Nat}(h:Rp.gK k g s b n=false):rE k g s b n=8:=by simp[rE,h]
theorem Gw {k g s b:Int}{v:ByteArray}(h:Rp.gK k g s b v.size=true):(0≤k∧k≤3)∧(0≤g∧g≤4)∧(0≤s∧s≤200)∧(Rp.fT k=true→0≤b∧b≤8388613)∧v.size≤1024∧(Rp.fT k=true∨Rp.value k=true):=by
 have hm:Rp.vw ⟨k,g,s,b,v.data.toList⟩=true:=by simp only[Rp.vw,size_data];exact h
 obtain⟨g0,g1,s0,s1,hv,hk⟩:=Rp.kY hm;simp only at g0 g1 s0 s1 hv hk;rw[size_data] at hv;refine⟨?_,by omega,by omega,fun _=>?_,hv,?_⟩
 ·rcases hk with ⟨hk,_⟩|⟨hk,_⟩|⟨hk,_⟩<;>omega
 ·rcases hk with ⟨hk,_,_,_,_⟩|⟨hk,_,_,_⟩|⟨hk,_⟩<;>omega
 ·rcases hk with ⟨rfl,_⟩|⟨rfl,_⟩|⟨rfl,_⟩<;>simp[Rp.fT,Rp.value]
theorem Ik (k g s b:Int)(v:ByteArray)(w:World)(hs:v.size≤9223372036854775807)(b1:-9223372036854775808≤b)(b2:b≤9223372036854775807)(h:Rp.gK k g s b v.size=false) :
  Calls prog 100 #[.agg #[.int .u8 k,g,s,b,v]] w fun e w'=>e=.returned (.tuple #[.string ⟨#[]⟩,.int .i64 8])∧Below w w w':=by
 have HE:=L_ (IK h);clear h
 go_enter func100,ntmps100
 go_wp2_with fail;refine(kK k g s b v _ hs b1 b2).mono ?_;rw[HE.out];rintro e w1 ⟨rfl,hb⟩;have HB:=L_ (aR (hb.mono (B':=w.heap.size) (by simp)) (Zh _));clear hb;go_wp2
 go_ret2
 exact⟨rfl,HB⟩
theorem MB (k g s b:Int)(v:ByteArray)(w:World)(h:Rp.gK k g s b v.size=true) :
  Calls prog 100 #[.agg #[.int .u8 k,g,s,b,v]] w fun e w'=>e=.returned (.tuple #[.string (S (Me k g s b v)),.int .i64 0])∧Below w w w':=by
 obtain⟨⟨k0,k1⟩,⟨g0,g1⟩,⟨s0,s1⟩,hb0,hz,hor⟩:=Gw h;have HE:=L_ (Nz h);have HB0:=L_ hb0;have HOR:=L_ hor;have HT:Hid (Me k g s b v=[]++Nm.enc k.toNat++Nm.enc g.toNat++Nm.enc s.toNat++(if Rp.fT k then Nm.enc b.toNat else [])++(if Rp.value k then Nm.txt v.data.toList else [])):=by simp[Hid,Me,Rp.jc]
 have hb12:Rp.gK k g s b v.size=true→-9223372036854775808≤b∧b≤9223372036854775807:=by
  intro h;have hm:Rp.vw ⟨k,g,s,b,v.data.toList⟩=true:=by simp only[Rp.vw,size_data];exact h
  have hk:=(Rp.kY hm).2.2.2.2.2;simp only at hk
  rcases hk with ⟨hk,_,_,_,_⟩|⟨hk,_,_,_⟩|⟨hk,_⟩<;>omega
 have b1:=(hb12 h).1;have b2:=(hb12 h).2;clear h hb0 hor hb12;obtain⟨x1,hx1⟩:∃x,Nm.enc k.toNat=x:=⟨_,rfl⟩;obtain⟨x2,hx2⟩:∃x,Nm.enc g.toNat=x:=⟨_,rfl⟩;obtain⟨x3,hx3⟩:∃x,Nm.enc s.toNat=x:=⟨_,rfl⟩;have l1:=Nm.dV (n:=k.toNat) (by omega);have l2:=Nm.dV (n:=g.toNat) (by omega);have l3:=Nm.dV (n:=s.toNat) (by omega);rw[hx1] at l1;rw[hx2] at l2;rw[hx3] at l3;have HX1:=L_ hx1;have HX2:=L_ hx2;have HX3:=L_ hx3;clear hx1 hx2 hx3
 go_enter func100,ntmps100
 go_wp2_with fail;refine(kK k g s b v _ (by omega) b1 b2).mono ?_;rw[HE.out];rintro e w1 ⟨rfl,hb⟩;have KR:=aF.below (aF.new w 196 #[.int .u8 k,g,s,b,v]) hb (by simp);have hc0:=KR.cell 0;have lt0:=KR.lt;have HB:=L_ (aR (hb.mono (B':=w.heap.size) (by simp)) (Zh _))
 have HS:Hid (zu w w w1 (w1.heap.size+1) #[.int .u8 k,g,s,b,v] [] ((w1.alloc (.cells #[()] 46)).alloc (.cells #[.int .i64 0] 29))):=
  ⟨(),(aF.new w1 _ _).alloc _,aaU _ _ _ _,by have:=aF.new (w1.alloc (.cells #[()] 46)) 29 #[.int .i64 0];simpa using this,(KR.alloc _).alloc _,(HB.alloc HB.size _).alloc (by simp;have:=HB.size;omega) _,HB.size,Zt HB.size (Nat.le_succ _)⟩
 clear hb KR HB;go_wp2_with fail;refine(uq k x1 x1.length _ k0 (by omega) HX1 rfl).mono ?_;rintro e w2 ⟨A2,cc2,rfl,ho,hb⟩;have HS:=L_ (HS.below hb);have HR:=L_ (Reads.bO ho);clear ho hb;go_wp2_with fail;refine(mV w w w1 (w1.heap.size+1) _ ([]) x1 _ _ _ _ HS HR ?_).mono ?_
 ·simp only[Zn,aai];omega
 rintro e w3 ⟨rfl,hw⟩;obtain⟨d0,d1,d2,d3,d4⟩:=zu.cells hw;have HS:=L_ hw;clear hw HR;go_wp2_with fail;refine(uq g x2 x2.length _ g0 (by omega) HX2 rfl).mono ?_;rintro e w4 ⟨A4,cc4,rfl,ho,hb⟩;have HS:=L_ (HS.below hb);have HR:=L_ (Reads.bO ho);clear ho hb;go_wp2_with fail;refine(mV w w w1 (w1.heap.size+1) _ ([]++x1) x2 _ _ _ _ HS HR ?_).mono ?_
 ·simp only[Zn,aai];omega
 rintro e w5 ⟨rfl,hw⟩;obtain⟨d0,d1,d2,d3,d4⟩:=zu.cells hw;have HS:=L_ hw;clear hw HR;go_wp2_with fail;refine(uq s x3 x3.length _ s0 (by omega) HX3 rfl).mono ?_;rintro e w6 ⟨A6,cc6,rfl,ho,hb⟩;have HS:=L_ (HS.below hb);have HR:=L_ (Reads.bO ho);clear ho hb;go_wp2_with fail;refine(mV w w w1 (w1.heap.size+1) _ ([]++x1++x2) x3 _ _ _ _ HS HR ?_).mono ?_
 ·simp only[Zn,aai];omega
 rintro e w7 ⟨rfl,hw⟩;obtain⟨d0,d1,d2,d3,d4⟩:=zu.cells hw;have HS:=L_ hw;clear hw HR;go_wp2_with fail;refine(Cn k _).mono ?_;rintro e w' ⟨rfl,rfl⟩;cases hv:Rp.fT k with
 |true=>
  have hbb:=HB0 hv;have b0:=hbb.1;have b3:=hbb.2;clear hbb;obtain⟨x4,hx4⟩:∃x,Nm.enc b.toNat=x:=⟨_,rfl⟩;have l4:=Nm.dV (n:=b.toNat) (by omega);rw[hx4] at l4;have HX4:=L_ hx4;clear hx4;go_wp2_with fail;refine(uq b x4 x4.length _ b0 (by omega) HX4 rfl).mono ?_;rintro e w8 ⟨A8,cc8,rfl,ho,hb⟩;have HS:=L_ (HS.below hb);have HR:=L_ (Reads.bO ho);clear ho hb;go_wp2_with fail;refine(mV w w w1 (w1.heap.size+1) _ ([]++x1++x2++x3) x4 _ _ _ _ HS HR ?_).mono ?_
  ·simp only[Zn,aai];omega
  rintro e w9 ⟨rfl,hw⟩;obtain⟨d0,d1,d2,d3,d4⟩:=zu.cells hw;have HS:=L_ hw;clear hw HR;cases hj:Rp.value k with
  |true=>
   obtain⟨x5,hx5⟩:∃x,Nm.txt v.data.toList=x:=⟨_,rfl⟩;have l5:x5.length≤1030:=by rw[←hx5];have h1:=Nm.dV (n:=v.data.toList.length) (by rw[size_data];omega);have h2:=size_data v;simp only[Nm.txt,Zn];omega
   have HX5:=L_ hx5;clear hx5;go_wp2_with fail;refine(uy v x5 x5.length _ (by omega) HX5 rfl).mono ?_;rintro e w10 ⟨A10,cc10,rfl,ho,hb⟩;have HS:=L_ (HS.below hb);have HR:=L_ (Reads.bO ho);clear ho hb;go_wp2_with fail;refine(mV w w w1 (w1.heap.size+1) _ ([]++x1++x2++x3++x4) x5 _ _ _ _ HS HR ?_).mono ?_
   ·simp only[Zn,aai];omega
   rintro e w11 ⟨rfl,hw⟩;obtain⟨d0,d1,d2,d3,d4⟩:=zu.cells hw;have HS:=L_ hw;clear hw HR;have HL:Hid (Me k g s b v=[]++x1++x2++x3++x4++x5):=by rw[Hid,HT.out,HX1.out,HX2.out,HX3.out];simp[hv,hj,HX4.out,HX5.out]
   obtain⟨Af,nf,cf,tf,e1,e2,e3,e4,e5⟩:=zu.fin HS;have HF:=L_ e4;have HQ:=L_ e5;clear e4 e5 d0 d1 d2 d3 d4;go_wp2
   go_quiet (fail)
   go_wp2
   go_ret2
   rw[HL.out,←HQ.out];exact⟨rfl,below_drewN HF _⟩
  |false=>
   have HL:Hid (Me k g s b v=[]++x1++x2++x3++x4):=by rw[Hid,HT.out,HX1.out,HX2.out,HX3.out];simp[hv,hj,HX4.out]
   obtain⟨Af,nf,cf,tf,e1,e2,e3,e4,e5⟩:=zu.fin HS;have HF:=L_ e4;have HQ:=L_ e5;clear e4 e5 d0 d1 d2 d3 d4;go_wp2
   go_quiet (fail)
   go_wp2
   go_ret2
   rw[HL.out,←HQ.out];exact⟨rfl,below_drewN HF _⟩
 |false=>
  have hj:Rp.value k=true:=HOR.resolve_left (by rw[hv];decide);obtain⟨x5,hx5⟩:∃x,Nm.txt v.data.toList=x:=⟨_,rfl⟩;have l5:x5.length≤1030:=by rw[←hx5];have h1:=Nm.dV (n:=v.data.toList.length) (by rw[size_data];omega);have h2:=size_data v;simp only[Nm.txt,Zn];omega
  have HX5:=L_ hx5;clear hx5;go_wp2_with fail;refine(uy v x5 x5.length _ (by omega) HX5 rfl).mono ?_;rintro e w8 ⟨A8,cc8,rfl,ho,hb⟩;have HS:=L_ (HS.below hb);have HR:=L_ (Reads.bO ho);clear ho hb;go_wp2_with fail;refine(mV w w w1 (w1.heap.size+1) _ ([]++x1++x2++x3) x5 _ _ _ _ HS HR ?_).mono ?_
  ·simp only[Zn,aai];omega
  rintro e w9 ⟨rfl,hw⟩;obtain⟨d0,d1,d2,d3,d4⟩:=zu.cells hw;have HS:=L_ hw;clear hw HR;have HL:Hid (Me k g s b v=[]++x1++x2++x3++x5):=by rw[Hid,HT.out,HX1.out,HX2.out,HX3.out];simp[hv,hj,HX5.out]
  obtain⟨Af,nf,cf,tf,e1,e2,e3,e4,e5⟩:=zu.fin HS;have HF:=L_ e4;have HQ:=L_ e5;clear e4 e5 d0 d1 d2 d3 d4;go_wp2
  go_quiet (fail)
  go_wp2
  go_ret2
  rw[HL.out,←HQ.out];exact⟨rfl,below_drewN HF _⟩
end
end Go.Proofs.YtaebfkcgdmodlaaGreatDoor
