/-
  A part of the proof that the erased node of towncrier reads nothing (TopErased).
-/
import Derived.Deep.DeepCutAuto
import Derived.RangeFuncNested
import Derived.RangeFuncBound
import Derived.RangeFuncCalls
import Derived.RangeFuncLeaves
import Derived.Shelf.RegionOpen
import Derived.OwnWalkIn
import Derived.TacticsInMore
import Derived.LoopNIn
import Derived.LoopIn
import Derived.Test.YtaebfkcgdmodlaaGreatDoorJ03
namespace Go.Proofs.YtaebfkcgdmodlaaGreatDoor
open Go.RowKit Go.Proofs.Tryz
set_option maxHeartbeats 16000000
set_option maxRecDepth 100000
set_option linter.unusedVariables false
set_option linter.unusedSimpArgs false
theorem nP (n lo hi:Int)(w:World)(b:Bool)(hb:Cp.mE lo hi n=b):Calls prog 194 #[n,lo,hi] w fun e w'=>e=.returned b∧w=w':=by
 subst hb;unfold Cp.mE
 by_cases h0:lo≤n
 ·by_cases h1:n≤hi
  ·rw[ZG ⟨h0,h1⟩]
   go_enter func194,ntmps194
   go_wp2;go_ret;exact⟨rfl,rfl⟩
  ·rw[ZE (fun x=>h1 x.2)]
   go_enter func194,ntmps194
   go_wp2;go_ret;exact⟨rfl,rfl⟩
 ·rw[ZE (fun x=>h0 x.1)]
  go_enter func194,ntmps194
  go_wp2;go_ret;exact⟨rfl,rfl⟩
theorem CY (n:Int)(w:World)(b:Bool)(hb:Wp.mY n=b):Calls prog 193 #[n] w fun e w'=>e=.returned b∧w=w':=by
 have H:=L_ (nP n 0 6291455 w b hb);clear hb
 go_enter func193,ntmps193
 go_wp2_with (first|(with_reducible refine H.out.mono ?_;rintro e w' ⟨rfl,rfl⟩));go_ret;exact⟨rfl,rfl⟩
theorem Cm (D E:HC)(w:World)(hD:bK w w D)(hE:bK w w E)(b:Bool)(hb:Cp.lq D.cmd E.cmd=b) :
  Calls prog 197 #[.agg #[D.mi,.slice D.GA D.Gn D.Gc,D.mt,D.key,D.body],.agg #[E.mi,.slice E.GA E.Gn E.Gc,E.mt,E.key,E.body]] w fun e w'=>e=.returned b∧Below w w w':=by
 have HD1:=L_ hD;have HE1:=L_ hE;have HB:=L_ hb;clear hb hD hE;obtain⟨k,mi,GA,Gn,Gc,gs,mt,key,body,i,tm,MA,Mn,Mc,mem,tp,who,n⟩:=D;obtain⟨k',mi',GA',Gn',Gc',gs',mt',key',body',i',tm',MA',Mn',Mc',mem',tp',who',n'⟩:=E;simp only;have B0:=L_ (((aaO _ w).alloc (Zh w) (.cells #[mi,.slice GA Gn Gc,mt,key,body] 35)).alloc (by simp) (.cells #[mi',.slice GA' Gn' Gc',mt',key',body'] 35));have HD0:=L_ ((HD1.below B0).more B0.size);have HE0:=L_ ((HE1.below B0).more B0.size);clear HD1 HE1;have K1:=L_ ((aF.new w _ _).alloc (.cells #[mi',.slice GA' Gn' Gc',mt',key',body'] 35):aF ((w.alloc (.cells #[mi,.slice GA Gn Gc,mt,key,body] 35)).alloc (.cells #[mi',.slice GA' Gn' Gc',mt',key',body'] 35)) w 35 #[mi,.slice GA Gn Gc,mt,key,body]);have K2:=L_ (aF.WS (w:=w.alloc (.cells #[mi,.slice GA Gn Gc,mt,key,body] 35)) (g:=w.heap.size+1) (by simp) 35 #[mi',.slice GA' Gn' Gc',mt',key',body'])
 by_cases h0:mi=mi'
 rotate_left
 ·have F:Hid (b=false):=by
   rw[Hid,←HB.out];refine Bool.eq_false_iff.2 fun x=>h0 ?_;exact(Cp.mZ x).1
  have hq:(mi==mi')=false:=ZX.2 h0
  go_enter func197,ntmps197
  go_wp2;go_ret;rw[F.out];exact⟨rfl,B0⟩
 subst h0
 go_enter func197,ntmps197
 go_wp2_with fail;refine(rZ GA Gn Gc GA' Gn' Gc' _ _ gs gs' _ HD0.rg HE0.rg HD0.lg HE0.lg _ rfl).mono ?_;rintro e1 w1 ⟨rfl,q1,rfl⟩;replace B0:=L_ (below_drewN B0 q1);replace HD0:=L_ (HD0.drewN q1);replace HE0:=L_ (HE0.drewN q1);replace K1:=L_ (K1.drewN q1);replace K2:=L_ (K2.drewN q1);cases h1:decide (gs=gs') with
 |false=>
  have F:Hid (b=false):=by
   rw[Hid,←HB.out];refine Bool.eq_false_iff.2 fun x=>of_decide_eq_false h1 ?_;exact(Cp.mZ x).2.1
  clear h1;have k1_0:=K1.cell 0;have k1_1:=K1.cell 1;have k1_2:=K1.cell 2;have k1_3:=K1.cell 3;have k1_4:=K1.cell 4;have k2_0:=K2.cell 0;have k2_1:=K2.cell 1;have k2_2:=K2.cell 2;have k2_3:=K2.cell 3;have k2_4:=K2.cell 4;go_wp2;go_ret;rw[F.out];exact⟨rfl,B0⟩
 |true=>
  have H1:=L_ h1;clear h1;have k1_0:=K1.cell 0;have k1_1:=K1.cell 1;have k1_2:=K1.cell 2;have k1_3:=K1.cell 3;have k1_4:=K1.cell 4;have k2_0:=K2.cell 0;have k2_1:=K2.cell 1;have k2_2:=K2.cell 2;have k2_3:=K2.cell 3;have k2_4:=K2.cell 4
  by_cases h2:mt=mt'
  rotate_left
  ·have F:Hid (b=false):=by
    rw[Hid,←HB.out];refine Bool.eq_false_iff.2 fun x=>h2 ?_;exact(Cp.mZ x).2.2.1
   have hq:(mt==mt')=false:=ZX.2 h2;go_wp2;go_ret;rw[F.out];exact⟨rfl,B0⟩
  subst h2
  by_cases h3:key=key'
  rotate_left
  ·have F:Hid (b=false):=by
    rw[Hid,←HB.out];refine Bool.eq_false_iff.2 fun x=>h3 ?_;exact data_inj (Cp.mZ x).2.2.2.1
   have hq:(key.toList==key'.toList)=false:=ZX.2 fun x=>h3 (data_inj (by rw[←iI,←iI];exact x));go_wp2;go_ret;rw[F.out];exact⟨rfl,B0⟩
  subst h3
  by_cases h4:body=body'
  rotate_left
  ·have F:Hid (b=false):=by
    rw[Hid,←HB.out];refine Bool.eq_false_iff.2 fun x=>h4 ?_;exact data_inj (Cp.mZ x).2.2.2.2
   have hq:(body.toList==body'.toList)=false:=ZX.2 fun x=>h4 (data_inj (by rw[←iI,←iI];exact x));go_wp2;go_ret;rw[F.out];exact⟨rfl,B0⟩
  subst h4
  have F:Hid (b=true):=by
   rw[Hid,←HB.out];have g1:gs=gs':=aae H1;simp only[Cp.lq,Zr];exact⟨ZG rfl,ZG g1,ZG rfl,ZG rfl,ZG rfl⟩
  go_wp2;go_ret;rw[F.out];exact⟨rfl,B0⟩
theorem LC (D E:HC)(w:World)(hD:bK w w D)(hE:bK w w E)(b:Bool)(hb:Cp.mO D.cmd E.cmd=b) :
  Calls prog 126 #[.agg #[.int .u8 D.k,D.mi,.slice D.GA D.Gn D.Gc,D.mt,D.key,D.body,D.i,D.tm,.slice D.MA D.Mn D.Mc,D.tp,D.who,D.n],.agg #[.int .u8 E.k,E.mi,.slice E.GA E.Gn E.Gc,E.mt,E.key,E.body,E.i,E.tm,.slice E.MA E.Mn E.Mc,E.tp,E.who,E.n]] w fun e w'=>e=.returned b∧Below w w w':=by
 have HD1:=L_ hD;have HE1:=L_ hE;have HB:=L_ hb;clear hb hD hE;obtain⟨k,mi,GA,Gn,Gc,gs,mt,key,body,i,tm,MA,Mn,Mc,mem,tp,who,n⟩:=D;obtain⟨k',mi',GA',Gn',Gc',gs',mt',key',body',i',tm',MA',Mn',Mc',mem',tp',who',n'⟩:=E;simp only;have B0:=L_ (((aaO _ w).alloc (Zh w) (.cells #[.int .u8 k,mi,.slice GA Gn Gc,mt,key,body,i,tm,.slice MA Mn Mc,tp,who,n] 37)).alloc (by simp) (.cells #[.int .u8 k',mi',.slice GA' Gn' Gc',mt',key',body',i',tm',.slice MA' Mn' Mc',tp',who',n'] 37));have HD0:=L_ ((HD1.below B0).more B0.size);have HE0:=L_ ((HE1.below B0).more B0.size);clear HD1 HE1;have K1:=L_ ((aF.new w _ _).alloc (.cells #[.int .u8 k',mi',.slice GA' Gn' Gc',mt',key',body',i',tm',.slice MA' Mn' Mc',tp',who',n'] 37):aF ((w.alloc (.cells #[.int .u8 k,mi,.slice GA Gn Gc,mt,key,body,i,tm,.slice MA Mn Mc,tp,who,n] 37)).alloc (.cells #[.int .u8 k',mi',.slice GA' Gn' Gc',mt',key',body',i',tm',.slice MA' Mn' Mc',tp',who',n'] 37)) w 37 #[.int .u8 k,mi,.slice GA Gn Gc,mt,key,body,i,tm,.slice MA Mn Mc,tp,who,n]);have K2:=L_ (aF.WS (w:=w.alloc (.cells #[.int .u8 k,mi,.slice GA Gn Gc,mt,key,body,i,tm,.slice MA Mn Mc,tp,who,n] 37)) (g:=w.heap.size+1) (by simp) 37 #[.int .u8 k',mi',.slice GA' Gn' Gc',mt',key',body',i',tm',.slice MA' Mn' Mc',tp',who',n'])
 by_cases h0:k=k'
 rotate_left
 ·have F:Hid (b=false):=by
   rw[Hid,←HB.out];refine Bool.eq_false_iff.2 fun x=>h0 ?_;exact congrArg Cp.dD.k (Cp.jX x)
  have hq:(k==k')=false:=ZX.2 h0
  go_enter func126,ntmps126
  go_wp2;go_ret;rw[F.out];exact⟨rfl,B0⟩
 subst h0
 go_enter func126,ntmps126
 go_wp2_with fail;refine(Cm ⟨k,mi,GA,Gn,Gc,gs,mt,key,body,i,tm,MA,Mn,Mc,mem,tp,who,n⟩ ⟨k,mi',GA',Gn',Gc',gs',mt',key',body',i',tm',MA',Mn',Mc',mem',tp',who',n'⟩ _ HD0 HE0 _ rfl).mono ?_;rintro e1 w1 ⟨rfl,hb1⟩;replace K1:=L_ (K1.below hb1 K1.lt);replace K2:=L_ (K2.below hb1 K2.lt);replace HD0:=L_ (HD0.up hb1);replace HE0:=L_ (HE0.up hb1);replace B0:=L_ (B0.trans (hb1.mono B0.size));clear hb1;cases h1:Cp.lq (HC.cmd ⟨k,mi,GA,Gn,Gc,gs,mt,key,body,i,tm,MA,Mn,Mc,mem,tp,who,n⟩) (HC.cmd ⟨k,mi',GA',Gn',Gc',gs',mt',key',body',i',tm',MA',Mn',Mc',mem',tp',who',n'⟩) with
 |false=>
  have F:Hid (b=false):=by
   rw[Hid,←HB.out];refine Bool.eq_false_iff.2 fun x=>?_;have:=Cp.jX x;rw[this,Cp.Ic] at h1;cases h1
  clear h1;have k1_0:=K1.cell 0;have k1_1:=K1.cell 1;have k1_2:=K1.cell 2;have k1_3:=K1.cell 3;have k1_4:=K1.cell 4;have k1_5:=K1.cell 5;have k1_6:=K1.cell 6;have k1_7:=K1.cell 7;have k1_8:=K1.cell 8;have k1_9:=K1.cell 9;have k1_10:=K1.cell 10;have k1_11:=K1.cell 11;have k2_0:=K2.cell 0;have k2_1:=K2.cell 1;have k2_2:=K2.cell 2;have k2_3:=K2.cell 3;have k2_4:=K2.cell 4;have k2_5:=K2.cell 5;have k2_6:=K2.cell 6;have k2_7:=K2.cell 7;have k2_8:=K2.cell 8;have k2_9:=K2.cell 9;have k2_10:=K2.cell 10;have k2_11:=K2.cell 11;go_wp2;go_ret;rw[F.out];exact⟨rfl,B0⟩
 |true=>
  have H1:=L_ h1;clear h1;have k1_0:=K1.cell 0;have k1_1:=K1.cell 1;have k1_2:=K1.cell 2;have k1_3:=K1.cell 3;have k1_4:=K1.cell 4;have k1_5:=K1.cell 5;have k1_6:=K1.cell 6;have k1_7:=K1.cell 7;have k1_8:=K1.cell 8;have k1_9:=K1.cell 9;have k1_10:=K1.cell 10;have k1_11:=K1.cell 11;have k2_0:=K2.cell 0;have k2_1:=K2.cell 1;have k2_2:=K2.cell 2;have k2_3:=K2.cell 3;have k2_4:=K2.cell 4;have k2_5:=K2.cell 5;have k2_6:=K2.cell 6;have k2_7:=K2.cell 7;have k2_8:=K2.cell 8;have k2_9:=K2.cell 9;have k2_10:=K2.cell 10;have k2_11:=K2.cell 11
  by_cases h2:i=i'
  rotate_left
  ·have F:Hid (b=false):=by
    rw[Hid,←HB.out];refine Bool.eq_false_iff.2 fun x=>h2 ?_;exact congrArg Cp.dD.i (Cp.jX x)
   have hq:(i==i')=false:=ZX.2 h2;go_wp2;go_ret;rw[F.out];exact⟨rfl,B0⟩
  subst h2
  by_cases h3:tm=tm'
  rotate_left
  ·have F:Hid (b=false):=by
    rw[Hid,←HB.out];refine Bool.eq_false_iff.2 fun x=>h3 ?_;exact congrArg Cp.dD.tm (Cp.jX x)
   have hq:(tm==tm')=false:=ZX.2 h3;go_wp2;go_ret;rw[F.out];exact⟨rfl,B0⟩
  subst h3;go_wp2_with fail;refine(rZ MA Mn Mc MA' Mn' Mc' _ _ mem mem' _ HD0.rm HE0.rm HD0.lm HE0.lm _ rfl).mono ?_;rintro e4 w4 ⟨rfl,q4,rfl⟩;replace B0:=L_ (below_drewN B0 q4);replace HD0:=L_ (HD0.drewN q4);replace HE0:=L_ (HE0.drewN q4);replace K1:=L_ (K1.drewN q4);replace K2:=L_ (K2.drewN q4);cases h4:decide (mem=mem') with
  |false=>
   have F:Hid (b=false):=by
    rw[Hid,←HB.out];refine Bool.eq_false_iff.2 fun x=>of_decide_eq_false h4 ?_;exact congrArg Cp.dD.mem (Cp.jX x)
   clear h4;have k1_0:=K1.cell 0;have k1_1:=K1.cell 1;have k1_2:=K1.cell 2;have k1_3:=K1.cell 3;have k1_4:=K1.cell 4;have k1_5:=K1.cell 5;have k1_6:=K1.cell 6;have k1_7:=K1.cell 7;have k1_8:=K1.cell 8;have k1_9:=K1.cell 9;have k1_10:=K1.cell 10;have k1_11:=K1.cell 11;have k2_0:=K2.cell 0;have k2_1:=K2.cell 1;have k2_2:=K2.cell 2;have k2_3:=K2.cell 3;have k2_4:=K2.cell 4;have k2_5:=K2.cell 5;have k2_6:=K2.cell 6;have k2_7:=K2.cell 7;have k2_8:=K2.cell 8;have k2_9:=K2.cell 9;have k2_10:=K2.cell 10;have k2_11:=K2.cell 11;go_wp2;go_ret;rw[F.out];exact⟨rfl,B0⟩
  |true=>
   have H4:=L_ h4;clear h4;have k1_0:=K1.cell 0;have k1_1:=K1.cell 1;have k1_2:=K1.cell 2;have k1_3:=K1.cell 3;have k1_4:=K1.cell 4;have k1_5:=K1.cell 5;have k1_6:=K1.cell 6;have k1_7:=K1.cell 7;have k1_8:=K1.cell 8;have k1_9:=K1.cell 9;have k1_10:=K1.cell 10;have k1_11:=K1.cell 11;have k2_0:=K2.cell 0;have k2_1:=K2.cell 1;have k2_2:=K2.cell 2;have k2_3:=K2.cell 3;have k2_4:=K2.cell 4;have k2_5:=K2.cell 5;have k2_6:=K2.cell 6;have k2_7:=K2.cell 7;have k2_8:=K2.cell 8;have k2_9:=K2.cell 9;have k2_10:=K2.cell 10;have k2_11:=K2.cell 11
   by_cases h5:tp=tp'
   rotate_left
   ·have F:Hid (b=false):=by
     rw[Hid,←HB.out];refine Bool.eq_false_iff.2 fun x=>h5 ?_;exact congrArg Cp.dD.tp (Cp.jX x)
    have hq:(tp==tp')=false:=ZX.2 h5;go_wp2;go_ret;rw[F.out];exact⟨rfl,B0⟩
   subst h5
   by_cases h6:who=who'
   rotate_left
   ·have F:Hid (b=false):=by
     rw[Hid,←HB.out];refine Bool.eq_false_iff.2 fun x=>h6 ?_;exact congrArg Cp.dD.who (Cp.jX x)
    have hq:(who==who')=false:=ZX.2 h6;go_wp2;go_ret;rw[F.out];exact⟨rfl,B0⟩
   subst h6
   by_cases h7:n=n'
   rotate_left
   ·have F:Hid (b=false):=by
     rw[Hid,←HB.out];refine Bool.eq_false_iff.2 fun x=>h7 ?_;exact congrArg Cp.dD.n (Cp.jX x)
    have hq:(n==n')=false:=ZX.2 h7;go_wp2;go_ret;rw[F.out];exact⟨rfl,B0⟩
   subst h7
   have F:Hid (b=true):=by
    rw[Hid,←HB.out];have g1:=H1.out;have g4:mem=mem':=aae H4;simp only[Cp.mO,Zr];exact⟨ZG rfl,g1,ZG rfl,ZG rfl,ZG g4,ZG rfl,ZG rfl,ZG rfl⟩
   go_wp2;go_ret;rw[F.out];exact⟨rfl,B0⟩
variable{gs:List Int}{j k:Nat}
section
open Go.RowKit Go.Sort Go.BigFrame
namespace Cp
theorem nT:∀(l:List Int) (lo x:Int),fU lo (l++[x])=(fU lo l&&(decide (l.getLastD lo<x)&&decide (x<4)))
 |[],lo,x=>by simp[fU]
 |n::l,lo,x=>by
  rw[aap,fU,nT l n x,fU,List.getLastD_cons];simp only[Bool.and_assoc]
theorem Gm (h:fU (-1) (gs.take k)=false):fU (-1) (gs.take (k+1))=false:=by
 rw[ZP];cases hx:gs[k]? with
 |none=>simpa using h
 |some x=>rw[aaz,nT,h,Bool.false_and]
theorem xE {x:Int}(h:gs[0]?=some x):fU (-1) (gs.take 1)=mE 0 3 x:=by
 rw[show(1:Nat)=0+1 from rfl,ZP,h,aaz,nT];apply Bool.eq_iff_iff.2;simp[fU,mE];omega
theorem xU {p x:Int}(h:gs[j+1]?=some x)(hp:gs[j]?=some p)(hi:fU (-1) (gs.take (j+1))=true):fU (-1) (gs.take (j+1+1))=(mE 0 3 x&&decide (p<x)):=by
 have hg:(gs.take (j+1)).getLastD (-1)=p:=by
  rw[ZP,hp,aaz,List.getLastD_concat]
 have hin:=(sM _ _ (by omega) hi).1 p (by rw[ZP,hp,aaz];simp);have hp0:=(Nm.ku hin).1;rw[ZP (i:=j+1),h,aaz,nT,hi,hg,Bool.true_and];unfold mE;apply Bool.eq_iff_iff.2;simp only[Zr,Zx];omega
theorem BJ (c:dD):lS c=((decide (1≤c.gs.length∧c.gs.length≤4)&&fU (-1) c.gs)&&(Wp.mY c.mi&&(mE 0 3 c.mt&&(decide (c.key.length≤16)&&decide (c.body.length≤64))))):=by
 have hg:VU c.gs=(decide (1≤c.gs.length∧c.gs.length≤4)&&fU (-1) c.gs):=by
  unfold VU;cases hi:fU (-1) c.gs with
  |false=>simp
  |true=>
   have:=(sM _ _ (by omega) hi).2 (by omega);cases hgs:c.gs with
   |nil=>simp
   |cons a l=>
    rw[hgs] at this;simp only[List.isEmpty_cons,Bool.not_false,Bool.true_and,Bool.and_true];refine(ZG ⟨?_,?_⟩).symm<;>simp only[ZI] at this ⊢<;>omega
 rw[lS,hg];cases decide (1≤c.gs.length∧c.gs.length≤4)&&fU (-1) c.gs<;>cases Wp.mY c.mi<;>cases mE 0 3 c.mt<;>simp
end Cp
def LV (b:Bool):Int:=if b=true then 0 else 120
theorem ru (D:HC)(w:World)(hD:bK w w D)(b:Bool)(hb:Cp.lS D.cmd=b) :
  Calls prog 195 #[.agg #[D.mi,.slice D.GA D.Gn D.Gc,D.mt,D.key,D.body]] w fun e w'=>e=.returned ((LV b))∧Below w w w':=by
 have B0:=L_ ((aaO _ w).alloc (Zh w) (.cells #[D.mi,.slice D.GA D.Gn D.Gc,D.mt,D.key,D.body] 35));have HD0:=L_ ((hD.below B0).more B0.size);have K0:=L_ (aF.new w 35 #[D.mi,.slice D.GA D.Gn D.Gc,D.mt,D.key,D.body]);have hlg:=hD.lg;have hgl:=hD.V7;have HGL:=L_ hgl;have HB:=L_ (by rw[Cp.BJ] at hb;exact hb:((decide (1≤D.gs.length∧D.gs.length≤4)&&Cp.fU (-1) D.gs)&&(Wp.mY D.mi&&(Cp.mE 0 3 D.mt&&(decide (D.key.data.toList.length≤16)&&decide (D.body.data.toList.length≤64)))))=b);have c0:=K0.cell 0;have c1:=K0.cell 1;have c2:=K0.cell 2;have c3:=K0.cell 3;have c4:=K0.cell 4;clear hD hb hgl;obtain⟨lo,hlo⟩:∃lo,decide (1≤D.gs.length∧D.gs.length≤4)=lo:=⟨_,rfl⟩;have HLO:=L_ hlo;clear hlo
 go_enter func195,ntmps195
 go_upto_region 1 with fail
 go_cut [3] (fun s3 wx=>s3=.bool lo∧wx=w.alloc (.cells #[D.mi,.slice D.GA D.Gn D.Gc,D.mt,D.key,D.body] 35))
 case first=>
  by_cases h1:1≤D.Gn
  ·by_cases h2:D.Gn≤4
   ·have HE:Hid (lo=true):=by rw[Hid,←HLO.out];exact ZG (by rw[HGL.out];exact⟨h1,h2⟩)
    have d4:decide ((D.Gn:Int)≤4)=true:=ZG (by omega);go_wp2_with fail
    go_meet
    exact⟨by rw[HE.out],rfl⟩
   ·have HE:Hid (lo=false):=by rw[Hid,←HLO.out];exact ZE (by rw[HGL.out];exact fun x=>h2 x.2)
    have d4:decide ((D.Gn:Int)≤4)=false:=ZE (by omega);go_wp2_with fail
    go_meet
    exact⟨by rw[HE.out],rfl⟩
  ·have HE:Hid (lo=false):=by rw[Hid,←HLO.out];exact ZE (by rw[HGL.out];exact fun x=>h1 x.1)
   go_wp2_with fail
   go_meet
   exact⟨by rw[HE.out],rfl⟩
 case rest=>
  obtain⟨rfl,rfl⟩:=hcut;generalize w.alloc (.cells #[D.mi,.slice D.GA D.Gn D.Gc,D.mt,D.key,D.body] 35)=W at *;go_wp2_with fail
  go_loopw [3,19] (fun x y wr=>(∃(k:Nat) (X:Bool),y=(k:Int)∧k≤D.Gn∧x=X∧(lo&&Cp.fU (-1) (D.gs.take k))=X)∧wr=W) (fun _ y _=>D.Gn - (intOf y).toNat)
  case atStart=>exact⟨⟨0,lo,rfl,Zq _,rfl,by simp[Cp.fU]⟩,rfl⟩
  case round=>
   obtain⟨⟨k,X,rfl,hk,rfl,hX⟩,rfl⟩:=hrel;have HX:=L_ hX;clear hX
   by_cases hlt:k<D.Gn
   ·obtain⟨ad,u,hA,hbl,hu,hc⟩:=HD0.rg.at_ hlt;have hkl:k<D.gs.length:=by rw[HGL.out];exact hlt
    have hg:D.gs[k]?=some (D.gs[k]'hkl):=Zl hkl;obtain⟨z,hz⟩:∃z,D.gs[k]'hkl=z:=⟨_,rfl⟩;rw[hz] at hg;rw[lZ,hg] at hu;simp only[aad,ZH] at hu;subst hu;have HG:=L_ hg;have HC:=L_ hc;clear hg hz hkl hc;rw[hA] at c1;have HA:=L_ hA;have hc:=HC.out;clear hA;cases X with
    |false=>
     have HN:Hid ((lo&&Cp.fU (-1) (D.gs.take (k+1)))=false):=by
      have:=HX.out;rw[Hid];cases lo with
      |false=>rfl
      |true=>rw[Bool.true_and] at this ⊢;exact Cp.Gm this
     rw[HA.out];go_wp2
     go_roundw
     case rel=>exact⟨⟨k+1,false,by go_num,by omega,rfl,HN⟩,by trivial⟩
     case measure=>simp[intOf];omega
    |true=>
     have hlo2:lo=true:=by have:=HX.out;cases lo with|false=>cases this|true=>rfl
     subst hlo2;have hin:=HX.out;rw[Bool.true_and] at hin;have HI:=L_ hin;clear hin;rw[HA.out];go_wp2_with fail;refine(nP z 0 3 _ _ rfl).mono ?_;rintro e w' ⟨rfl,rfl⟩;cases hb:Cp.mE 0 3 z with
     |false=>
      have HN:Hid ((true&&Cp.fU (-1) (D.gs.take (k+1)))=false):=by
       rw[Hid,Bool.true_and];cases k with
       |zero=>rw[Cp.xE HG.out,hb]
       |succ j=>
        have hp:D.gs[j]?=some (D.gs[j]'(by have:=HGL.out;omega)):=Zl _;rw[Cp.xU HG.out hp HI.out,hb,Bool.false_and]
      clear hb;go_wp2
      go_roundw
      case rel=>exact⟨⟨k+1,false,by go_num,by omega,rfl,HN⟩,by trivial⟩
      case measure=>simp[intOf];omega
     |true=>
      cases k with
      |zero=>
       have HN:Hid ((true&&Cp.fU (-1) (D.gs.take (0+1)))=true):=by rw[Hid,Bool.true_and];exact(Cp.xE HG).trans hb
       clear hb;go_wp2
       go_roundw
       case rel=>exact⟨⟨1,true,by go_num,by omega,rfl,HN⟩,by trivial⟩
       case measure=>simp[intOf];omega
      |succ j=>
       have hjl:j<D.gs.length:=by have:=HGL.out;omega
       have hp:D.gs[j]?=some (D.gs[j]'hjl):=Zl _;obtain⟨p,hpz⟩:∃p,D.gs[j]'hjl=p:=⟨_,rfl⟩;rw[hpz] at hp;obtain⟨ad',u',hA',hbl',hu',hc'⟩:=HD0.rg.at_ (k:=j) (by omega);rw[HA.out] at hA';injection hA' with hA'
       subst hA';rw[lZ,hp] at hu';simp only[aad,ZH] at hu';subst hu';have HN:=L_ (Cp.xU HG hp HI);rw[hb,Bool.true_and] at HN;clear hb hpz hp hbl' hjl
       by_cases hpx:p<z
       ·have HN2:Hid ((true&&Cp.fU (-1) (D.gs.take (j+1+1)))=true):=by rw[Hid,Bool.true_and,HN.out];exact ZG hpx
        have hj0:((j:Int)+1==0)=false:=by simpa using (show ¬(j:Int)+1=0 by omega)
        have hj1:decide (p<z)=true:=ZG hpx;go_wp2
        go_roundw
        case rel=>exact⟨⟨j+1+1,true,by go_num,by omega,rfl,HN2⟩,by trivial⟩
        case measure=>simp[intOf];omega
       ·have HN2:Hid ((true&&Cp.fU (-1) (D.gs.take (j+1+1)))=false):=by rw[Hid,Bool.true_and,HN.out];exact ZE hpx
        have hj0:((j:Int)+1==0)=false:=by simpa using (show ¬(j:Int)+1=0 by omega)
        have hj1:decide (p<z)=false:=ZE hpx;go_wp2
        go_roundw
        case rel=>exact⟨⟨j+1+1,false,by go_num,by omega,rfl,HN2⟩,by trivial⟩
        case measure=>simp[intOf];omega
   ·have HT:Hid ((lo&&Cp.fU (-1) D.gs)=X):=by
     have h1:=HX.out;have h2:=HGL.out;rwa[Zz (by omega)] at h1
    have HB2:=L_ HB;rw[HLO.out,HT.out] at HB2;have hks:=size_data D.key;have hbs:=size_data D.body;rw[hks,hbs] at HB2;clear hks hbs HB HT HX;cases X with
    |false=>
     have F:Hid (b=false):=by rw[Hid,←HB2.out];rfl
     go_wp2;go_ret;rw[F.out];exact⟨rfl,B0⟩
    |true=>
     go_wp2_with fail;refine(CY D.mi _ _ rfl).mono ?_;rintro e w' ⟨rfl,rfl⟩;cases h1:Wp.mY D.mi with
     |false=>
      have F:Hid (b=false):=by rw[Hid,←HB2.out,h1];rfl
      clear h1;go_wp2;go_ret;rw[F.out];exact⟨rfl,B0⟩
     |true=>
      rw[h1] at HB2;clear h1;go_wp2_with fail;refine(nP D.mt 0 3 _ _ rfl).mono ?_;rintro e w' ⟨rfl,rfl⟩;cases h2:Cp.mE 0 3 D.mt with
      |false=>
       have F:Hid (b=false):=by rw[Hid,←HB2.out,h2];rfl
       clear h2;go_wp2;go_ret;rw[F.out];exact⟨rfl,B0⟩
      |true=>
       rw[h2] at HB2;clear h2
       by_cases h3:(16:Int)<(D.key.size:Int)
       ·have F:Hid (b=false):=by rw[Hid,←HB2.out,ZE (p:=D.key.size≤16) (by omega)];rfl
        go_wp2;go_ret;rw[F.out];exact⟨rfl,B0⟩
       ·by_cases h4:(64:Int)<(D.body.size:Int)
        ·have F:Hid (b=false):=by rw[Hid,←HB2.out,ZE (p:=D.body.size≤64) (by omega)];simp
         go_wp2;go_ret;rw[F.out];exact⟨rfl,B0⟩
        ·have F:Hid (b=true):=by rw[Hid,←HB2.out,ZG (p:=D.body.size≤64) (by omega),ZG (p:=D.key.size≤16) (by omega)];rfl
         go_wp2;go_ret;rw[F.out];exact⟨rfl,B0⟩
end
variable{κ:Int}{B B':Nat}{w w':World}
section
open Go.RowKit Go.Sort Go.BigFrame
attribute [local irreducible] wpList av aH
namespace Cp
theorem Io {c:dD}(h:c.k<1∨6<c.k):gJ c=fP c.k:=by
 unfold gJ aK;rw[aaR (by omega),aaR (by omega),aaR (by omega),aaR (by omega),aaR (by omega),aaR (by omega)];rfl
theorem WV {c:dD}(h:c.k=0):sI c=true:=by unfold sI;rw[aaS h]
theorem Tt {c:dD}(h:c.k=1):sI c=lS c:=by unfold sI;rw[aaR (by omega),aaS h]
theorem SS {c:dD}(h:c.k=2):sI c=(Wp.mY c.i&&mE 1 1073741824 c.tm):=by unfold sI;rw[aaR (by omega),aaR (by omega),aaS h]
theorem XQ {c:dD}(h:c.k=3):sI c=(Qm.check c.mem==0):=by unfold sI;rw[aaR (by omega),aaR (by omega),aaR (by omega),aaS h]
theorem Tx {c:dD}(h:c.k=4):sI c=((Wp.mY c.i&&(mE 0 3 c.tp&&mE 0 1073741824 c.n))&&mE 0 7 c.who):=by unfold sI;rw[aaR (by omega),aaR (by omega),aaR (by omega),aaR (by omega),aaS h]
theorem Ta {c:dD}(h:c.k=5∨c.k=6):sI c=(Wp.mY c.i&&(mE 0 3 c.tp&&mE 0 1073741824 c.n)):=by unfold sI;rw[aaR (by omega),aaR (by omega),aaR (by omega),aaR (by omega),aaR (by omega),aaS h]
theorem MQ {c:dD}(h:6<c.k):sI c=false:=by unfold sI;rw[aaR (by omega),aaR (by omega),aaR (by omega),aaR (by omega),aaR (by omega),aaR (by omega)]
end Cp
def HC.pl (D:HC):HC:=
 if D.k=1 then⟨D.k,D.mi,D.GA,D.Gn,D.Gc,D.gs,D.mt,D.key,D.body,0,0,none,0,0,[],0,0,0⟩
 else if D.k=2 then⟨D.k,0,none,0,0,[],0,⟨#[]⟩,⟨#[]⟩,D.i,D.tm,none,0,0,[],0,0,0⟩
 else if D.k=3 then⟨D.k,0,none,0,0,[],0,⟨#[]⟩,⟨#[]⟩,0,0,D.MA,D.Mn,D.Mc,D.mem,0,0,0⟩
 else if D.k=4 then⟨D.k,0,none,0,0,[],0,⟨#[]⟩,⟨#[]⟩,D.i,0,none,0,0,[],D.tp,D.who,D.n⟩
 else if D.k=5∨D.k=6 then⟨D.k,0,none,0,0,[],0,⟨#[]⟩,⟨#[]⟩,D.i,0,none,0,0,[],D.tp,0,D.n⟩
 else aJ D.k
theorem HC.Ui (D:HC):D.pl.cmd=Cp.gJ D.cmd:=by
 have hk:D.cmd.k=D.k:=rfl;unfold HC.pl
 split
 ·next h=>unfold Cp.gJ;rw[hk,h,Cp.fields1];rfl
 split
 ·next h=>unfold Cp.gJ;rw[hk,h,Cp.fields2];rfl
 split
 ·next h=>unfold Cp.gJ;rw[hk,h,Cp.wT];rfl
 split
 ·next h=>unfold Cp.gJ;rw[hk,h,Cp.wN];rfl
 split
 ·next h=>
  unfold Cp.gJ;rw[hk]
  rcases h with h|h
  ·rw[h,Cp.wY];rfl
  ·rw[h,Cp.wQ];rfl
 ·rw[Cp.Io (by rw[hk];omega)];rfl
theorem HC.Wi {D:HC}(h:bK w' B' D)(hg:Reads w B 1 D.GA D.Gn (ci D.gs))(hm:Reads w B 1 D.MA D.Mn (ci D.mem)):bK w B D.pl:=by
 obtain⟨z1,z2,z3,z4,z5,z6,z7,z8,z9,z10,z11,z12,z13,z14,z15,z16,z17,z18⟩:=LB w B h.kk;obtain⟨-,-,a3,a4,a5,a6,a7,a8,a9,a10,a11,a12,a13,a14,a15,a16,a17,a18⟩:=h;unfold HC.pl
 repeat' split
 all_goals constructor<;>assumption
theorem HC.Wu {D:HC}(h:D.k=1):D.pl=⟨1,D.mi,D.GA,D.Gn,D.Gc,D.gs,D.mt,D.key,D.body,0,0,none,0,0,[],0,0,0⟩:=by unfold HC.pl;rw[h];rfl
theorem HC.Xt {D:HC}(h:D.k=2):D.pl=⟨2,0,none,0,0,[],0,⟨#[]⟩,⟨#[]⟩,D.i,D.tm,none,0,0,[],0,0,0⟩:=by unfold HC.pl;rw[h];rfl
theorem HC.Yw {D:HC}(h:D.k=3):D.pl=⟨3,0,none,0,0,[],0,⟨#[]⟩,⟨#[]⟩,0,0,D.MA,D.Mn,D.Mc,D.mem,0,0,0⟩:=by unfold HC.pl;rw[h];rfl
theorem HC.Wd {D:HC}(h:D.k=4):D.pl=⟨4,0,none,0,0,[],0,⟨#[]⟩,⟨#[]⟩,D.i,0,none,0,0,[],D.tp,D.who,D.n⟩:=by unfold HC.pl;rw[h];rfl
theorem HC.X7 {D:HC}(h:D.k=κ)(hk:κ=5∨κ=6):D.pl=⟨κ,0,none,0,0,[],0,⟨#[]⟩,⟨#[]⟩,D.i,0,none,0,0,[],D.tp,0,D.n⟩:=by
 unfold HC.pl;rw[aaR (by omega),aaR (by omega),aaR (by omega),aaR (by omega),aaS (by omega),h]
theorem HC.X4 {D:HC}(h:D.k=κ)(hk:κ=0∨7≤κ):D.pl=aJ κ:=by
 unfold HC.pl;rw[aaR (by omega),aaR (by omega),aaR (by omega),aaR (by omega),aaR (by omega),h]
theorem Ni {D X:HC}{b:Bool}(h:D.pl=X)(ho:Cp.sI D.cmd=b)(hp:bK w w D.pl)(hb:Below w w w'):∃E:HC,Ending.returned (.tuple #[.agg #[.int .u8 X.k,X.mi,.slice X.GA X.Gn X.Gc,X.mt,X.key,X.body,X.i,X.tm,.slice X.MA X.Mn X.Mc,X.tp,X.who,X.n],b])=.returned (.tuple #[.agg #[.int .u8 E.k,E.mi,.slice E.GA E.Gn E.Gc,E.mt,E.key,E.body,E.i,E.tm,.slice E.MA E.Mn E.Mc,E.tp,E.who,E.n],.bool (Cp.sI D.cmd)])∧E.cmd=Cp.gJ D.cmd∧bK w w E∧Below w w w':=by
 subst h ho;exact⟨_,rfl,D.Ui,hp,hb⟩
theorem Ga (D:HC)(w:World)(hD:bK w w D) :
  Calls prog 125 #[.agg #[.int .u8 D.k,D.mi,.slice D.GA D.Gn D.Gc,D.mt,D.key,D.body,D.i,D.tm,.slice D.MA D.Mn D.Mc,D.tp,D.who,D.n]] w fun e w'=>∃E:HC,e=.returned (.tuple #[.agg #[.int .u8 E.k,E.mi,.slice E.GA E.Gn E.Gc,E.mt,E.key,E.body,E.i,E.tm,.slice E.MA E.Mn E.Mc,E.tp,E.who,E.n],.bool (Cp.sI D.cmd)])∧E.cmd=Cp.gJ D.cmd∧bK w w E∧Below w w w':=by
 have HD:=L_ hD;have HP:=L_ (HC.Wi hD hD.rg hD.rm);have hk:=hD.kk;obtain⟨κ,hκ⟩:∃κ,D.k=κ:=⟨_,rfl⟩;have HK:=L_ hκ;rw[hκ] at hk ⊢;clear hD hκ;have E:=Env.start w
 go_enter func125,ntmps125
 refine GD E [5,71,3,70,3,0,4,5,0,41,0,70,3,60,4,5,0,42,9] ?_;clear E;intro g1 g2 g4 w5 E;refine ah (CY D.i _ _ rfl) ?_;rintro _ w6 ⟨rfl,rfl⟩;refine G0 [26] ?_;cases h1:Wp.mY D.i
 case' false=>
  refine G0 [0,1,80,2,2,2,2,4,6] ?_;refine Ca 5 fun T ht=>?_;replace ht:Hid ((Wp.mY D.i&&(Cp.mE 0 3 D.tp&&Cp.mE 0 1073741824 D.n))=T):=by rw[h1];exact ht
  clear h1
 case' true=>
  refine GD E [0,0,42] ?_;refine ah (nP D.tp 0 3 _ _ rfl) ?_;rintro _ w7 ⟨rfl,rfl⟩;refine G0 [26] ?_;cases h2:Cp.mE 0 3 D.tp
  case' false=>
   refine G0 [0,0,1,1,1,0,0,4,6] ?_;refine Ca 5 fun T ht=>?_;replace ht:Hid ((Wp.mY D.i&&(Cp.mE 0 3 D.tp&&Cp.mE 0 1073741824 D.n))=T):=by rw[h1,h2];exact ht
   clear h1 h2
  case' true=>
   refine GD E [84,42] ?_;refine ah (nP D.n 0 1073741824 _ _ rfl) ?_;rintro _ w8 ⟨rfl,rfl⟩;refine G0 [26,0,0,4,6] ?_;refine Ca 5 fun T ht=>?_;replace ht:Hid ((Wp.mY D.i&&(Cp.mE 0 3 D.tp&&Cp.mE 0 1073741824 D.n))=T):=by rw[h1,h2];exact ht
   clear h1 h2
 all_goals
  refine GD E [5,0,42] ?_
  rcases(by omega:κ=0∨κ=1∨κ=2∨κ=3∨κ=4∨κ=5∨κ=6∨7≤κ) with rfl|rfl|rfl|rfl|rfl|rfl|rfl|hk7
  ·refine aC (wp_block (lK (lK (lK (lK (lK (lK (wp_seq (wp_seq (bN ?_))))))))));refine G0 [0,0,4,7,27,28,6,5] ?_;refine aB 0 12 E ?_;refine GD E [61,0,4,22,24,9] ?_;clear E;intro w9 E;exact aI 1 E (Ni (HC.X4 HK (Or.inl rfl)) (Cp.WV HK) HP E.aD)
  ·refine aC (wp_block (lK (lK (lK (lK (lK (lK (wp_seq (wp_seq (bN ?_))))))))));refine G0 [0,0,4,8,15,6,5,0,0,4,7,27] ?_;simp only[Exit.then,Exit.inBlock,Nat.reduceEqDiff,reduceCtorEq,if_true,if_false];refine G0 [6,5,0] ?_;refine aB 2 5 E ?_;refine GD E [0,60,4,9] ?_;clear E;intro w10 E;replace E:=E.fZ;refine bP 1 6 [] (aaL [0,1,2]++aaN [3]++aaL [4]++aaN [5]) E ?_;clear E;intro w11 E;refine gZ 0 12 E ?_;refine ni E ?_;refine gZ 1 5 E ?_;refine bT (ru D _ ((HD.below E.aD).more E.aD.size) _ rfl) ?_;rintro _ w12 ⟨rfl,hb⟩;replace E:=E.up hb;clear hb;refine⟨_,rfl,(E.drop 1).weak,D_n ?_⟩;cases hm:Cp.lS D.cmd
   case false=>
    refine ni E ?_;refine lN 0 E ?_;clear E;intro w13 E;refine GD E [29,0,4,22,24] ?_;exact aI 0 E (Ni (HC.Wu HK.out) ((Cp.Tt HK.out).trans hm) HP.out E.aD)
   case true=>
    refine ni E ?_;refine lN 0 E ?_;clear E;intro w14 E;refine GD E [29,0,4,22,24] ?_;exact aI 0 E (Ni (HC.Wu HK.out) ((Cp.Tt HK.out).trans hm) HP.out E.aD)
  ·refine aC (wp_block (lK (lK (lK (lK (lK (lK (wp_seq (wp_seq (bN ?_))))))))));refine G0 [0,0,4,8,15,6,5,0,0,4,8,15,6,5,0,0,4,7,27] ?_;simp only[Exit.then,Exit.inBlock,Nat.reduceEqDiff,reduceCtorEq,if_true,if_false];refine wp_seq (bP 1 6 [] (aaL [0,1,2,3,4]++aaN [5]) E ?_);clear E;intro w15 E;refine GD E [32,51,32,51,32] ?_;refine lN 0 E ?_;clear E;intro w16 E;refine GD E [29,0,60,4,9] ?_;clear E;intro w17 E;replace E:=E.fZ;refine bP 1 10 [] (aaL [0,1,2]++aaN [3]++aaL [4,5,6]++aaN [7]++aaL [8]++aaN [9]) E ?_;clear E;intro w18 E;refine gZ 0 12 E ?_;refine GD E [32,51] ?_;refine bT (CY D.i _ _ rfl) ?_;rintro _ w19 ⟨rfl,rfl⟩;refine⟨_,rfl,(E.drop 1).weak,D_n ?_⟩;cases h1:Wp.mY D.i
   case false=>
    refine GD E [32,33,33,34,32] ?_;refine lN 0 E ?_;clear E;intro w20 E;refine GD E [29,0,4,22,24] ?_;exact aI 0 E (Ni (HC.Xt HK.out) ((Cp.SS HK.out).trans (by rw[show D.cmd.i=D.i from rfl,h1])) HP.out E.aD)
   case true=>
    refine GD E [32,32,51] ?_;refine bT (nP D.tm 1 1073741824 _ _ rfl) ?_;rintro _ w21 ⟨rfl,rfl⟩;refine⟨_,rfl,(E.drop 1).weak,D_n ?_⟩;refine ni E ?_;refine lN 0 E ?_;clear E;intro w22 E;refine GD E [29,0,4,22,24] ?_;exact aI 0 E (Ni (HC.Xt HK.out) ((Cp.SS HK.out).trans (by rw[show D.cmd.i=D.i from rfl,h1])) HP.out E.aD)
  ·refine aC (wp_block (lK (lK (lK (lK (lK (lK (wp_seq (wp_seq (bN ?_))))))))));refine G0 [0,0,4,8,15,6,5,0,0,4,8,15,6,5,0,0,4,8,15,6,5,0,0,4,7,27] ?_;simp only[Exit.then,Exit.inBlock,Nat.reduceEqDiff,reduceCtorEq,if_true,if_false];refine GD E [6,5,0,42,0,60,4,9] ?_;clear E;intro w23 E;replace E:=E.fZ;refine bP 1 6 [] (aaL [0,1,2]++aaN [3]++aaL [4]++aaN [5]) E ?_;clear E;intro w24 E;refine gZ 0 12 E ?_;refine GD E [32,51] ?_;refine bT (jf D.MA D.Mn D.Mc w D.mem _ (HD.below E.aD).rm (HD.lm)) ?_;rintro _ w25 ⟨rfl,rfl⟩;refine⟨_,rfl,(E.drop 1).weak,D_n ?_⟩;refine ni E ?_;refine lN 0 E ?_;clear E;intro w26 E;refine GD E [29,0,4,22,24] ?_;exact aI 0 E (Ni (HC.Yw HK) (Cp.XQ HK) HP E.aD)
  ·refine aC (wp_block (lK (lK (lK (lK (lK (lK (wp_seq (wp_seq (bN ?_))))))))));refine G0 [0,0,4,8,15,6,5,0,0,4,8,15,6,5,0,0,4,8,15,6,5,0,0,4,8,15,6,5,0,0,4,7] ?_;cases T
   case false=>
    refine wp_exit ?_;simp only[Exit.then,Exit.inBlock,Nat.reduceEqDiff,reduceCtorEq,if_true,if_false];refine GD E [5,0,42,0,60,4,23,80,2,2,9] ?_;clear E;intro w27 E;refine ET (wp_seq (bP 1 10 [] (aaL [0,1,2,3,4,5,6]++aaN [7]++aaL [8]++aaN [9]) E ?_));clear E;intro w28 E;refine GD E [32,51,32,51,32,51,32] ?_;refine lN 0 E ?_;clear E;intro w29 E;refine ni E ?_;refine lN 0 E ?_;clear E;intro w30 E;refine GD E [29,0,60,4,5,9] ?_;clear E;intro w31 E;refine aB 0 12 E ?_;refine GD E [0,61,0,4,22,24,9] ?_;clear E;intro w32 E;exact aI 1 E (Ni (HC.Wd HK.out) ((Cp.Tx HK.out).trans (by rw[show(Wp.mY D.cmd.i&&(Cp.mE 0 3 D.cmd.tp&&Cp.mE 0 1073741824 D.cmd.n))=false from ht.out,Bool.false_and])) HP.out E.aD)
   case true=>
    refine wp_exit ?_;simp only[Exit.then,Exit.inBlock,Nat.reduceEqDiff,reduceCtorEq,if_true,if_false];refine GD E [5,0,42,0,60,4,23,84,42,9] ?_;clear E;intro w33 E;refine ah (nP D.who 0 7 _ _ rfl) ?_;rintro _ w34 ⟨rfl,rfl⟩;refine G0 [26,0,0] ?_;refine ET (wp_seq (bP 1 10 [] (aaL [0,1,2,3,4,5,6]++aaN [7]++aaL [8]++aaN [9]) E ?_));clear E;intro w35 E;refine GD E [32,51,32,51,32,51,32] ?_;refine lN 0 E ?_;clear E;intro w36 E;refine ni E ?_;refine lN 0 E ?_;clear E;intro w37 E;refine GD E [29,0,60,4,5,9] ?_;clear E;intro w38 E;refine aB 0 12 E ?_;refine GD E [0,61,0,4,22,24,9] ?_;clear E;intro w39 E;exact aI 1 E (Ni (HC.Wd HK.out) ((Cp.Tx HK.out).trans (by rw[show(Wp.mY D.cmd.i&&(Cp.mE 0 3 D.cmd.tp&&Cp.mE 0 1073741824 D.cmd.n))=true from ht.out,Bool.true_and])) HP.out E.aD)
  ·refine aC (wp_block (lK (lK (lK (lK (lK (lK (wp_seq (wp_seq (bN ?_))))))))));refine G0 [0,0,4,8,15,6,5,0,0,4,8,15,6,5,0,0,4,8,15,6,5,0,0,4,8,15,6,5,0,0,4,8,15,6,5,0,0,4,7,15,7,27] ?_;simp only[Exit.then,Exit.inBlock,Nat.reduceEqDiff,reduceCtorEq,if_true,if_false];refine wp_seq (bP 1 10 [] (aaL [0,1,2,3,4,5,6]++aaN [7]++aaL [8]++aaN [9]) E ?_);clear E;intro w40 E;refine GD E [32,51,32,51,32,51,32] ?_;refine lN 0 E ?_;clear E;intro w41 E;refine ni E ?_;refine lN 0 E ?_;clear E;intro w42 E;refine GD E [29,0,60,4,5,9] ?_;clear E;intro w43 E;refine aB 0 12 E ?_;refine GD E [0,61,0,4,22,24,9] ?_;clear E;intro w44 E;exact aI 1 E (Ni (HC.X7 HK.out (Or.inl rfl)) ((Cp.Ta (Or.inl HK.out)).trans ht.out) HP.out E.aD)
  ·refine aC (wp_block (lK (lK (lK (lK (lK (lK (wp_seq (wp_seq (bN ?_))))))))));refine G0 [0,0,4,8,15,6,5,0,0,4,8,15,6,5,0,0,4,8,15,6,5,0,0,4,8,15,6,5,0,0,4,8,15,6,5,0,0,4,8,23,0,0,4,7,27] ?_;simp only[Exit.then,Exit.inBlock,Nat.reduceEqDiff,reduceCtorEq,if_true,if_false];refine wp_seq (bP 1 10 [] (aaL [0,1,2,3,4,5,6]++aaN [7]++aaL [8]++aaN [9]) E ?_);clear E;intro w45 E;refine GD E [32,51,32,51,32,51,32] ?_;refine lN 0 E ?_;clear E;intro w46 E;refine ni E ?_;refine lN 0 E ?_;clear E;intro w47 E;refine GD E [29,0,60,4,5,9] ?_;clear E;intro w48 E;refine aB 0 12 E ?_;refine GD E [0,61,0,4,22,24,9] ?_;clear E;intro w49 E;exact aI 1 E (Ni (HC.X7 HK.out (Or.inr rfl)) ((Cp.Ta (Or.inr HK.out)).trans ht.out) HP.out E.aD)
  ·obtain⟨q0,q1,q2,q3,q4,q5,q6⟩:(κ==0)=false∧(κ==1)=false∧(κ==2)=false∧(κ==3)=false∧(κ==4)=false∧(κ==5)=false∧(κ==6)=false:=by simp only[ZX];omega
   refine G0 [4,19,18,18,18,18,18,18,6,6,5,0,0,4,8,15,6,5,0,0,4,8,15,6,5,0,0,4,8,15,6,5,0,0,4,8,15,6,5,0,0,4,8,15,6,5,0,0,4,8,23,0,0,4,8,15,27] ?_;simp only[Exit.then,Exit.inBlock,Nat.reduceEqDiff,reduceCtorEq,if_true,if_false];refine bN ?_;refine aB 0 12 E ?_;refine GD E [61,0,4,22,9] ?_;clear E;intro w50 E;exact aI 1 E (Ni (HC.X4 HK (Or.inr hk7)) (Cp.MQ (by have:=HK.out;show 6<D.k;omega)) HP E.aD)
end
namespace Cp
theorem He (c:dD):dU c=(sI c&&mO (gJ c) c):=by
 obtain⟨k,mi,gs,mt,key,body,i,tm,mem,tp,who,n⟩:=c
 rcases(by omega:k=0∨k=1∨k=2∨k=3∨k=4∨k=5∨k=6∨(k<0∨6<k)) with rfl|rfl|rfl|rfl|rfl|rfl|rfl|h
 ·simp[dU,sI,gJ,aK,Bb,cp,fP,mO,lq,sV];apply Bool.eq_iff_iff.2;simp only[Zr,Zx,aar,aaG]
  grind
 ·simp[dU,sI,gJ,aK,Bb,cp,fP,mO,lq,sV,lS];apply Bool.eq_iff_iff.2;simp only[Zr,Zx,aar,aaG]
  grind
 ·simp[dU,sI,gJ,aK,Bb,cp,fP,mO,lq,sV,lS];apply Bool.eq_iff_iff.2;simp only[Zr,Zx,aar,aaG]
  grind
 ·simp[dU,sI,gJ,aK,Bb,cp,fP,mO,lq,sV,lS];apply Bool.eq_iff_iff.2;simp only[Zr,Zx,aar,aaG]
  grind
 ·simp[dU,sI,gJ,aK,Bb,cp,fP,mO,lq,sV,lS];apply Bool.eq_iff_iff.2;simp only[Zr,Zx,aar,aaG]
  grind
 ·simp[dU,sI,gJ,aK,Bb,cp,fP,mO,lq,sV,lS];apply Bool.eq_iff_iff.2;simp only[Zr,Zx,aar,aaG]
  grind
 ·simp[dU,sI,gJ,aK,Bb,cp,fP,mO,lq,sV,lS];apply Bool.eq_iff_iff.2;simp only[Zr,Zx,aar,aaG]
  grind
 ·have e1:dU ⟨k,mi,gs,mt,key,body,i,tm,mem,tp,who,n⟩=false:=by
   unfold dU;simp only;rw[aaR (by omega),aaR (by omega),aaR (by omega),aaR (by omega),aaR (by omega),aaR (by omega)]
  have e2:sI ⟨k,mi,gs,mt,key,body,i,tm,mem,tp,who,n⟩=false:=by
   unfold sI;simp only;rw[aaR (by omega),aaR (by omega),aaR (by omega),aaR (by omega),aaR (by omega),aaR (by omega)]
  rw[e1,e2];rfl
end Cp
section
open Go.RowKit Go.Sort Go.BigFrame
theorem r9 (D:HC)(w:World)(hD:bK w w D)(b:Bool)(hb:Cp.dU D.cmd=b) :
  Calls prog 66 #[.agg #[.int .u8 D.k,D.mi,.slice D.GA D.Gn D.Gc,D.mt,D.key,D.body,D.i,D.tm,.slice D.MA D.Mn D.Mc,D.tp,D.who,D.n]] w fun e w'=>e=.returned ((LV b))∧Below w w w':=by
 have HB:Hid ((Cp.sI D.cmd&&Cp.mO (Cp.gJ D.cmd) D.cmd)=b):=by rw[Hid,←Cp.He];exact hb
 have B0:=L_ ((aaO _ w).alloc (Zh w) (.cells #[.int .u8 D.k,D.mi,.slice D.GA D.Gn D.Gc,D.mt,D.key,D.body,D.i,D.tm,.slice D.MA D.Mn D.Mc,D.tp,D.who,D.n] 37));have HD0:=L_ (hD.alloc (.cells #[.int .u8 D.k,D.mi,.slice D.GA D.Gn D.Gc,D.mt,D.key,D.body,D.i,D.tm,.slice D.MA D.Mn D.Mc,D.tp,D.who,D.n] 37));have K0:=L_ (aF.new w 37 #[.int .u8 D.k,D.mi,.slice D.GA D.Gn D.Gc,D.mt,D.key,D.body,D.i,D.tm,.slice D.MA D.Mn D.Mc,D.tp,D.who,D.n]);clear hD hb
 go_enter func66,ntmps66
 go_wp2_with fail;refine(Ga D _ HD0).mono ?_;rintro e w1 ⟨E,rfl,he,hE,hb⟩;obtain⟨x,hx⟩:∃x,Cp.sI D.cmd=x:=⟨_,rfl⟩;have HX:=L_ hx;rw[hx];have HE:=L_ he;have HE0:=L_ ((hE.below hb).more hb.size);have HD1:=L_ (HD0.up hb);have B1:=L_ (then_ B0 hb);have K1:=L_ (K0.below hb K0.lt);clear hx he hE hb HD0 K0 B0;have B2:=L_ (B1.alloc B1.size (.cells #[.int .u8 E.k,E.mi,.slice E.GA E.Gn E.Gc,E.mt,E.key,E.body,E.i,E.tm,.slice E.MA E.Mn E.Mc,E.tp,E.who,E.n] 37));have HE2:=L_ (HE0.alloc (.cells #[.int .u8 E.k,E.mi,.slice E.GA E.Gn E.Gc,E.mt,E.key,E.body,E.i,E.tm,.slice E.MA E.Mn E.Mc,E.tp,E.who,E.n] 37));have HD2:=L_ (HD1.alloc (.cells #[.int .u8 E.k,E.mi,.slice E.GA E.Gn E.Gc,E.mt,E.key,E.body,E.i,E.tm,.slice E.MA E.Mn E.Mc,E.tp,E.who,E.n] 37));have K2:=L_ (K1.alloc (.cells #[.int .u8 E.k,E.mi,.slice E.GA E.Gn E.Gc,E.mt,E.key,E.body,E.i,E.tm,.slice E.MA E.Mn E.Mc,E.tp,E.who,E.n] 37));have KE2:=L_ (aF.new w1 37 #[.int .u8 E.k,E.mi,.slice E.GA E.Gn E.Gc,E.mt,E.key,E.body,E.i,E.tm,.slice E.MA E.Mn E.Mc,E.tp,E.who,E.n]);clear HE0 HD1;cases x with
 |false=>
  have F:Hid (b=false):=by rw[Hid,←HB.out,HX.out];rfl
  go_wp2;go_ret;rw[F.out];exact⟨rfl,B2⟩
 |true=>
  have HB2:=L_ HB;rw[HX.out,Bool.true_and,←HE.out] at HB2;have c0:=K2.cell 0;have c1:=K2.cell 1;have c2:=K2.cell 2;have c3:=K2.cell 3;have c4:=K2.cell 4;have c5:=K2.cell 5;have c6:=K2.cell 6;have c7:=K2.cell 7;have c8:=K2.cell 8;have c9:=K2.cell 9;have c10:=K2.cell 10;have c11:=K2.cell 11;go_wp2_with fail;refine(LC E D _ HE2 HD2 b HB2).mono ?_;rintro e w2 ⟨rfl,hb⟩;have B3:=L_ (B2.trans (hb.mono B2.size));clear hb c0 c1 c2 c3 c4 c5 c6 c7 c8 c9 c10 c11;cases b with
  |false=>go_wp2;go_ret;exact⟨rfl,B3⟩
  |true=>go_wp2;go_ret;exact⟨rfl,B3⟩
end
variable{bad':Bool}{L l':List UInt8}{b m most:Nat}
section
attribute [local irreducible] wpList av
theorem fJ {p q:Rp.St}(h:Rp.next p=(m,q)):Nm.jO (m:Int)=true:=by
 have:m≤1099511627776:=by
  unfold Rp.next at h;cases hg:Nm.get p.1 with
  |none=>rw[hg] at h;simp only[ZV] at h;omega
  |some v=>obtain⟨x,k⟩:=v;have:=(Nm.gD hg).1;rw[hg] at h;simp only[ZV] at h;omega
 exact ZG ⟨by omega,by omega⟩
theorem Jk {p:Rp.St}{t:List UInt8}{q:Rp.St}(h:Wp.gP p=(t,q)):(S t).size≤4096:=by
 rw[kZ];unfold Wp.gP at h;cases hg:Nm.bE p.1 with
 |none=>rw[hg] at h;simp only[ZV] at h;rw[←h.1];simp
 |some v=>obtain⟨x,k⟩:=v;have:=(Nm.bG hg).1;rw[hg] at h;simp only[ZV] at h;rw[←h.1];exact this
theorem Ep {p:Rp.St}{r:List Int}{q:Rp.St}(h:Cp.iL most p=(r,q)):r.length≤most∧∀x∈r,Nm.jO x=true:=by
 unfold Cp.iL at h;cases hg:Nm.fD p.1 most with
 |none=>rw[hg] at h;simp only[ZV] at h;rw[←h.1];simp
 |some v=>obtain⟨x,k⟩:=v;have hb:=Nm.nV hg;rw[hg] at h;simp only[ZV] at h;rw[←h.1];exact⟨hb.1,hb.2.1⟩
def Tf (l:List UInt8)(base B gr:Nat)(w:World)(e:Ending)(w':World):Prop:=
 ∃(D:HC) (l':List UInt8) (bad:Bool),e=.returned (.agg #[.int .u8 D.k,D.mi,.slice D.GA D.Gn D.Gc,D.mt,D.key,D.body,D.i,D.tm,.slice D.MA D.Mn D.Mc,D.tp,D.who,D.n])∧Cp.lM (Cp.aK ((min (Rp.next (l,false)).1 255:Nat):Int)) (Cp.fP ((min (Rp.next (l,false)).1 255:Nat):Int)) (Rp.next (l,false)).2=(D.cmd,(l',bad)) ∧
  uE B gr l' bad w'∧fK w' base D∧w.grownBy w' (some gr)
theorem uE.keep {B gr:Nat}{l:List UInt8}{bad:Bool}{w:World}(h:uE B gr l bad w)(hk:∀g,g≤gr→w'.heap[g]?=w.heap[g]?):uE B gr l bad w':=by
 obtain⟨A,n,c,h1,h2,h3,h4,h5,h6⟩:=h;exact⟨A,n,c,(hk gr (Zh _)).trans h1,h2.keep fun q hq=>World.cell?_of_block (hk _ (by omega)),h3,h4,h5,h6⟩
structure Yr (w1:World)(B gr:Nat)(l:List UInt8)(bad:Bool)(A:Option Addr)(c:Nat)(r:List Int)(w:World):Prop where
 st:uE B gr l bad w
 lt:gr<w1.heap.size
 old:∀g,g<w1.heap.size→some g≠some gr→w.heap[g]?=w1.heap[g]?
 own:w.ownsRow w1 3 1 (.slice A r.length c) r.length (ci r)
def Qt (w1:World)(B gr:Nat)(l:List UInt8)(bad:Bool)(A:Option Addr)(c:Nat)(r:List Int):It where
 p:=fun _ w=>Yr w1 B gr l bad A c r w
 bl:=List.range w1.heap.size++(Value.ownBlock (.slice A r.length c)).toList
 mono:=fun h _=>h
 keep:=fun{b w w'} h hk=>by
  have hr:∀g,g<w1.heap.size→w'.heap[g]?=w.heap[g]?:=fun g hg=>hk g (ZJ _ (List.mem_range.2 hg));exact⟨h.st.keep fun g hg=>hr g (by have:=h.lt;omega),h.lt,fun g hg hn=>(hr g hg).trans (h.old g hg hn),iF h.own fun g hg=>hk g (ZL _ (by rw[hg];simp))⟩
 lt:=fun{b w} h g hg=>by
  rcases Zm.1 hg with hg|hg
  ·have hg:=List.mem_range.1 hg
   by_cases e:g=gr
   ·subst e;exact h.st.lt
   ·have e2:=h.old g hg (by simpa using e);rw[ZM hg] at e2;exact(Z6.1 e2).1
  ·exact(h.own.lt g (by simpa using hg)).2
theorem Od {B gr:Nat}{l:List UInt8}{w:World}(h:uE B gr l false w):Env 0 w [] [Qt w B gr l false none 0 []] w:=
 ⟨aaO _ _,Zq _,fun x hx=>absurd hx (by simp),fun i hi=>by
  obtain rfl:=Zp.1 hi;exact⟨h,h.lt,fun _ _ _=>rfl,aaU _ _ _ _⟩,fun _ _ _ _=>Zq _,by simp[comps]⟩
section
variable{w0 w:World}{B gr:Nat}{l:List UInt8}{bad:Bool}{A:Option Addr}{c:Nat}{r:List Int}{bx:List Bx}
theorem J7 (E:Env 0 w0 bx [Qt w0 B gr l bad A c r] w)(hs:uE B gr l' bad' w')(hg:w.grownBy w' (some gr)):Env 0 w0 bx [Qt w0 B gr l' bad' A c r] w':=by
 have P:=E.get 0;obtain⟨cs,hb⟩:=P.st.blk;refine E.row 0 rfl hg (fun g e=>?_) ⟨hs,P.lt,fun g hg2 hn=>(hg.block g (aal hg2 ?_) hn).trans (P.old g hg2 hn),nD P.own hg hb (by decide)⟩ fun g hg=>Or.inl hg
 ·injection e with e;subst e;exact ZJ _ (List.mem_range.2 P.lt)
 ·exact E.aD.size
theorem kU (E:Env 0 w0 bx [Qt w0 B gr l bad A c r] w):Calls prog 202 #[gr] w fun e w'=>∃(m:Nat) (l':List UInt8) (bad':Bool),Hid (Rp.next (l,bad)=(m,(l',bad')))∧e=.returned ((m:Int))∧Env 0 w0 bx [Qt w0 B gr l' bad' A c r] w':=by
 obtain⟨⟨m,l',b'⟩,hx⟩:∃p,Rp.next (l,bad)=p:=⟨_,rfl⟩;refine(FE B gr l bad w (show Yr w0 B gr l bad A c r w from E.get 0).st m l' b' hx).mono ?_;rintro e w' ⟨rfl,hs,hg⟩;exact⟨m,l',b',L_ hx,rfl,J7 E hs hg⟩
theorem Pk (E:Env 0 w0 bx [Qt w0 B gr l bad A c r] w):Calls prog 204 #[gr] w fun e w'=>∃(t:List UInt8) (l':List UInt8) (bad':Bool),Hid (Wp.gP (l,bad)=(t,(l',bad')))∧e=.returned (.string (S t))∧Env 0 w0 bx [Qt w0 B gr l' bad' A c r] w':=by
 obtain⟨⟨m,l',b'⟩,hx⟩:∃p,Wp.gP (l,bad)=p:=⟨_,rfl⟩;refine(xX B gr l bad w (show Yr w0 B gr l bad A c r w from E.get 0).st m l' b' hx).mono ?_;rintro e w' ⟨rfl,hs,hg⟩;exact⟨m,l',b',L_ hx,rfl,J7 E hs hg⟩
theorem OX (E:Env 0 w0 bx [Qt w0 B gr l bad none 0 []] w)(most:Nat)(hm:most≤4096):Calls prog 203 #[gr,(most:Int)] w fun e w'=>∃(A:Option Addr) (c:Nat) (r:List Int) (l':List UInt8) (bad':Bool),Hid (Cp.iL most (l,bad)=(r,(l',bad')))∧e=.returned (.slice A r.length c)∧Env 0 w0 bx [Qt w0 B gr l' bad' A c r] w':=by
 obtain⟨⟨r,l',b'⟩,hx⟩:∃p,Cp.iL most (l,bad)=p:=⟨_,rfl⟩;have P:=E.get 0;refine(zl B gr most l bad w P.st hm r l' b' hx).mono ?_;rintro e w' ⟨⟨A,c,rfl,ho⟩,hs,hg⟩;have hsz:=E.aD.size;refine⟨A,c,r,l',b',L_ hx,rfl,E.row 0 rfl hg (fun g e=>?_) ⟨hs,P.lt,fun g hg2 hn=>(hg.block g (aal hg2 hsz) hn).trans (P.old g hg2 hn),aG ho hsz⟩ fun g hg=>?_⟩
 ·injection e with e;subst e;exact ZJ _ (List.mem_range.2 P.lt)
 ·rcases Zm.1 hg with hg|hg
  ·exact Or.inl (ZJ _ hg)
  ·exact Or.inr (ho.lt g (by simpa using hg)).1
theorem rP (E:Env 0 w0 bx [Qt w0 B gr l bad A c r] w){p:Rp.St}{D:HC}(hκ:0≤κ∧κ≤255)(h0:Hid (((min (Rp.next (L,false)).1 255:Nat):Int)=κ∧(Rp.next (L,false)).2=p))(hr:Cp.lM (Cp.aK κ) (Cp.fP κ) p=(D.cmd,(l,bad)))(ho:w.ownsRow w0 3 1 (.slice A r.length c) r.length (ci r)→fK w w0 D):Tf L w0 B gr w0 (.returned (.agg #[.int .u8 D.k,D.mi,.slice D.GA D.Gn D.Gc,D.mt,D.key,D.body,D.i,D.tm,.slice D.MA D.Mn D.Mc,D.tp,D.who,D.n])) w:=by
 have P:=E.get 0;refine⟨D,l,bad,rfl,?_,P.st,ho P.own,⟨E.aD.os,E.aD.tape,E.aD.output,E.aD.size,fun g hg hn=>P.old g hg hn⟩⟩;rw[h0.out.1,h0.out.2];exact hr
end
theorem tO {w:World}{D:HC}{A:Option Addr}{c:Nat}{r:List Int}(h:D.GA=none∧D.Gn=0∧D.Gc=0∧D.gs=[]∧D.MA=none∧D.Mn=0∧D.Mc=0∧D.mem=[])(hk:0≤D.k∧D.k≤255)(hb:D.key=⟨#[]⟩∧D.body=⟨#[]⟩)(hi:Nm.jO D.mi=true∧Nm.jO D.mt=true∧Nm.jO D.i=true∧Nm.jO D.tm=true∧Nm.jO D.tp=true∧Nm.jO D.who=true∧Nm.jO D.n=true):w.ownsRow b 3 1 (.slice A r.length c) r.length (ci r)→fK w b D:=by
 intro _;obtain⟨i1,i2,i3,i4,i5,i6,i7⟩:=hi;obtain⟨h1,h2,h3,h4,h5,h6,h7,h8⟩:=h;exact⟨by rw[h1,h2,h3,h4];exact aaU _ _ _ _,by rw[h5,h6,h7,h8];exact aaU _ _ _ _,hk,by rw[hb.1];exact Zq _,by rw[hb.2];exact Zq _,by rw[h4];simp,by rw[h8];simp,i1,i2,i3,i4,i5,i6,i7⟩
theorem Bw (B gr:Nat)(l:List UInt8)(w:World)(h:uE B gr l false w) :
  Calls prog 137 #[gr] w (Tf l w B gr w):=by
 have E:=Od h;clear h
 go_enter func137,ntmps137
 refine G E [5,70,3,4,5,0,9] ?_;clear E;intro g2 w2 E;refine ah (kU E) ?_;rintro _ w3 ⟨m0,l0,b0,h0,rfl,F⟩;replace E:=F;clear F;refine G0 [26,0,4] ?_;obtain⟨κ,hκ⟩:∃κ:Int,((min m0 255:Nat):Int)=κ:=⟨_,rfl⟩;have hk:0≤κ∧κ≤255:=by omega
 have hu:IntKind.u8.wrap κ=κ:=by rw[IntKind.wrap_u8];omega
 have hmin:(if (255:Int)<(m0:Int) then(255:Int) else(m0:Int))=κ:=by split<;>omega
 replace h0:Hid (((min (Rp.next (l,false)).1 255:Nat):Int)=κ∧(Rp.next (l,false)).2=(l0,b0)):=by rw[h0.out];exact L_ ⟨hκ,rfl⟩
 clear hκ;refine G E [5,84,0,70,3,60,4,6,5,0,40,9] ?_;clear E;intro g4 w5 E;clear hmin hu
 rcases(by omega:κ=1∨κ=2∨κ=3∨κ=4∨κ=5∨κ=6∨(κ=0∨7≤κ)) with rfl|rfl|rfl|rfl|rfl|rfl|hk7
 ·refine aC (wp_block (bN ?_));refine G0 [0,0,4,7,5,0] ?_;refine ah (kU E) ?_;rintro _ w6 ⟨m1,l1,b1,h1,rfl,F⟩;replace E:=F;clear F;refine G E [26,0,0,60,4,5,0,9] ?_;clear E;intro w7 E;refine ah (OX E 4 (by decide)) ?_;rintro _ w8 ⟨A,c,r,l2,b2,h2,rfl,F⟩;replace E:=F;clear F;refine G E [26,0,0,60,4,5,0,9] ?_;clear E;intro w9 E;refine ah (kU E) ?_;rintro _ w10 ⟨m3,l3,b3,h3,rfl,F⟩;replace E:=F;clear F;refine G E [26,0,0,60,4,5,0,9] ?_;clear E;intro w11 E;refine ah (Pk E) ?_;rintro _ w12 ⟨t4,l4,b4,h4,rfl,F⟩;replace E:=F;clear F;refine G E [26,0,0,60,4,23,0,9] ?_;clear E;intro w13 E;refine ah (Pk E) ?_;rintro _ w14 ⟨t5,l5,b5,h5,rfl,F⟩;replace E:=F;clear F;refine G E [26,0,0,60,20,9] ?_;clear E;intro w15 E;have hD:Cp.lM (Cp.aK 1) (Cp.fP 1) (l0,b0)=(HC.cmd ⟨1,m1,A,r.length,c,r,m3,S t4,S t5,0,0,none,0,0,[],0,0,0⟩,(l5,b5)):=by rw[Cp.fields1];simp only[Cp.lM,Cp.vC,h1.out,h2.out,h3.out,h4.out,h5.out,HC.cmd,IC];rfl
  replace hD:=L_ hD;refine bN ?_;refine aB 0 12 E ?_;refine G E [61,4,22,9] ?_;clear E;intro w16 E;exact nI 1 E (rP E hk h0 hD fun o=>⟨o,aaU _ _ _ _,hk,Jk h4,Jk h5,(Ep h2).2,by simp,fJ h1,fJ h3,aP,aP,aP,aP,aP⟩)
 ·refine aC (wp_block (bN ?_));refine G0 [0,0,4,8,5,0,0,4,7,5,0] ?_;refine ah (kU E) ?_;rintro _ w17 ⟨m1,l1,b1,h1,rfl,F⟩;replace E:=F;clear F;refine G E [26,0,60,4,23,0,9] ?_;clear E;intro w18 E;refine ah (kU E) ?_;rintro _ w19 ⟨m2,l2,b2,h2,rfl,F⟩;replace E:=F;clear F;refine G E [26,0,60,20,9] ?_;clear E;intro w20 E;have hD:Cp.lM (Cp.aK 2) (Cp.fP 2) (l0,b0)=(HC.cmd ⟨2,0,none,0,0,[],0,⟨#[]⟩,⟨#[]⟩,m1,m2,none,0,0,[],0,0,0⟩,(l2,b2)):=by rw[Cp.fields2];simp only[Cp.lM,Cp.vC,h1.out,h2.out,HC.cmd];rfl
  replace hD:=L_ hD;refine bN ?_;refine aB 0 12 E ?_;refine G E [61,4,22,9] ?_;clear E;intro w21 E;exact nI 1 E (rP E hk h0 hD (tO ⟨rfl,rfl,rfl,rfl,rfl,rfl,rfl,rfl⟩ hk ⟨rfl,rfl⟩ ⟨aP,aP,fJ h1,fJ h2,aP,aP,aP⟩))
 ·refine aC (wp_block (bN ?_));refine G0 [0,0,4,8,5,0,0,4,8,5,0,0,4,7,23,0] ?_;refine ah (OX E 6 (by decide)) ?_;rintro _ w22 ⟨A,c,r,l2,b2,h2,rfl,F⟩;replace E:=F;clear F;refine G E [26,0,60,20,9] ?_;clear E;intro w23 E;have hD:Cp.lM (Cp.aK 3) (Cp.fP 3) (l0,b0)=(HC.cmd ⟨3,0,none,0,0,[],0,⟨#[]⟩,⟨#[]⟩,0,0,A,r.length,c,r,0,0,0⟩,(l2,b2)):=by rw[Cp.wT];simp only[Cp.lM,Cp.vC,h2.out,HC.cmd];rfl
  replace hD:=L_ hD;refine bN ?_;refine aB 0 12 E ?_;refine G E [61,4,22,9] ?_;clear E;intro w24 E;exact nI 1 E (rP E hk h0 hD fun o=>⟨aaU _ _ _ _,o,hk,Zq _,Zq _,by simp,(Ep h2).2,aP,aP,aP,aP,aP,aP,aP⟩)
 ·refine aC (wp_block (bN ?_));refine G0 [0,0,4,8,5,0,0,4,8,5,0,0,4,8,6,5,0,0,4,7,15,7,5,0] ?_;refine ah (kU E) ?_;rintro _ w25 ⟨m1,l1,b1,h1,rfl,F⟩;replace E:=F;clear F;refine G E [26,0,60,4,5,0,9] ?_;clear E;intro w26 E;refine ah (kU E) ?_;rintro _ w27 ⟨m2,l2,b2,h2,rfl,F⟩;replace E:=F;clear F;refine G E [26,0,60,4,6,5,0,40,0,4,7,23,0,9] ?_;clear E;intro w28 E;refine ah (kU E) ?_;rintro _ w29 ⟨m3,l3,b3,h3,rfl,F⟩;replace E:=F;clear F;refine G E [26,0,60,4,23,0,9] ?_;clear E;intro w30 E;refine ah (kU E) ?_;rintro _ w31 ⟨m4,l4,b4,h4,rfl,F⟩;replace E:=F;clear F;refine G E [26,0,60,20,9] ?_;clear E;intro w32 E;have hD:Cp.lM (Cp.aK 4) (Cp.fP 4) (l0,b0)=(HC.cmd ⟨4,0,none,0,0,[],0,⟨#[]⟩,⟨#[]⟩,m1,0,none,0,0,[],m2,m3,m4⟩,(l4,b4)):=by rw[Cp.wN];simp only[Cp.lM,Cp.vC,h1.out,h2.out,h3.out,h4.out,HC.cmd];rfl
  replace hD:=L_ hD;refine bN ?_;refine aB 0 12 E ?_;refine G E [61,4,22,9] ?_;clear E;intro w33 E;exact nI 1 E (rP E hk h0 hD (tO ⟨rfl,rfl,rfl,rfl,rfl,rfl,rfl,rfl⟩ hk ⟨rfl,rfl⟩ ⟨aP,aP,fJ h1,aP,fJ h2,fJ h3,fJ h4⟩))
 ·refine aC (wp_block (bN ?_));refine G0 [0,0,4,8,5,0,0,4,8,5,0,0,4,8,6,5,0,0,4,8,5,0,0,4,7,15,7,5,0] ?_;refine ah (kU E) ?_;rintro _ w34 ⟨m1,l1,b1,h1,rfl,F⟩;replace E:=F;clear F;refine G E [26,0,60,4,5,0,9] ?_;clear E;intro w35 E;refine ah (kU E) ?_;rintro _ w36 ⟨m2,l2,b2,h2,rfl,F⟩;replace E:=F;clear F;refine G E [26,0,60,4,6,5,0,40,0,4,8,15,23,0,9] ?_;clear E;intro w37 E;refine ah (kU E) ?_;rintro _ w38 ⟨m3,l3,b3,h3,rfl,F⟩;replace E:=F;clear F;refine G E [26,0,60,20,9] ?_;clear E;intro w39 E;have hD:Cp.lM (Cp.aK 5) (Cp.fP 5) (l0,b0)=(HC.cmd ⟨5,0,none,0,0,[],0,⟨#[]⟩,⟨#[]⟩,m1,0,none,0,0,[],m2,0,m3⟩,(l3,b3)):=by rw[Cp.wY];simp only[Cp.lM,Cp.vC,h1.out,h2.out,h3.out,HC.cmd];rfl
  replace hD:=L_ hD;refine bN ?_;refine aB 0 12 E ?_;refine G E [61,4,22,9] ?_;clear E;intro w40 E;exact nI 1 E (rP E hk h0 hD (tO ⟨rfl,rfl,rfl,rfl,rfl,rfl,rfl,rfl⟩ hk ⟨rfl,rfl⟩ ⟨aP,aP,fJ h1,aP,fJ h2,aP,fJ h3⟩))
 ·refine aC (wp_block (bN ?_));refine G0 [0,0,4,8,5,0,0,4,8,5,0,0,4,8,6,5,0,0,4,8,5,0,0,4,8,23,0,0,4,7,5,0] ?_;refine ah (kU E) ?_;rintro _ w41 ⟨m1,l1,b1,h1,rfl,F⟩;replace E:=F;clear F;refine G E [26,0,60,4,5,0,9] ?_;clear E;intro w42 E;refine ah (kU E) ?_;rintro _ w43 ⟨m2,l2,b2,h2,rfl,F⟩;replace E:=F;clear F;refine G E [26,0,60,4,6,5,0,40,0,4,8,15,23,0,9] ?_;clear E;intro w44 E;refine ah (kU E) ?_;rintro _ w45 ⟨m3,l3,b3,h3,rfl,F⟩;replace E:=F;clear F;refine G E [26,0,60,20,9] ?_;clear E;intro w46 E;have hD:Cp.lM (Cp.aK 6) (Cp.fP 6) (l0,b0)=(HC.cmd ⟨6,0,none,0,0,[],0,⟨#[]⟩,⟨#[]⟩,m1,0,none,0,0,[],m2,0,m3⟩,(l3,b3)):=by rw[Cp.wQ];simp only[Cp.lM,Cp.vC,h1.out,h2.out,h3.out,HC.cmd];rfl
  replace hD:=L_ hD;refine bN ?_;refine aB 0 12 E ?_;refine G E [61,4,22,9] ?_;clear E;intro w47 E;exact nI 1 E (rP E hk h0 hD (tO ⟨rfl,rfl,rfl,rfl,rfl,rfl,rfl,rfl⟩ hk ⟨rfl,rfl⟩ ⟨aP,aP,fJ h1,aP,fJ h2,aP,fJ h3⟩))
 ·obtain⟨q1,q2,q3,q4,q5,q6⟩:(κ==1)=false∧(κ==2)=false∧(κ==3)=false∧(κ==4)=false∧(κ==5)=false∧(κ==6)=false:=by simp only[ZX];omega
  refine G0 [4,19,5,0,0,4,8,5,0,0,4,8,5,0,0,4,8,6,5,0,0,4,8,5,0,0,4,8,23,0,0,4,8,21] ?_;have hD:Cp.lM (Cp.aK κ) (Cp.fP κ) (l0,b0)=(HC.cmd (aJ κ),(l0,b0)):=by unfold Cp.aK;rw[aaR (by omega),aaR (by omega),aaR (by omega),aaR (by omega),aaR (by omega),aaR (by omega)];rfl
  replace hD:=L_ hD;refine bN ?_;refine aB 0 12 E ?_;refine G E [61,4,22,9] ?_;clear E;intro w48 E;exact nI 1 E (rP E hk h0 hD fun _=>yS _ _ hk)
end
variable{a:Act}{ops:Array Oper}{bad:Bool}{s:ByteArray}{Q:Exit→Act→World→Prop}{bx:List Bx}{cs' vs:List Value}{gr:Nat}{o:Oper}{x:Operand}{elem:TypeId}{v:Value}{w0:World}
section
attribute [local irreducible] wpList av
namespace Cp
def eB (l:List UInt8):dD×Int:=if 1024<l.length then(fP 0,3) else match qY l with
 |some c=>(c,0)
 |none=>(fP 0,8)
theorem yU {l:List UInt8}(h:1024<l.length):eB l=(fP 0,3):=by unfold eB;rw[aaS h]
theorem kV {l:List UInt8}{c:dD}(h:¬1024<l.length)(hr:qY l=some c):eB l=(c,0):=by unfold eB;rw[aaR h,hr]
theorem nO {l:List UInt8}(h:¬1024<l.length)(hr:qY l=none):eB l=(fP 0,8):=by unfold eB;rw[aaR h,hr]
theorem OC {l:List UInt8}{c:dD}(h:lM (aK ((min (Rp.next (l,false)).1 255:Nat):Int)) (fP ((min (Rp.next (l,false)).1 255:Nat):Int)) (Rp.next (l,false)).2=(c,(l',bad))) :
  qY l=if bad=false∧l'=[]∧dU c=true then some c else none:=by
 unfold qY;simp only[h]
end Cp
def YW (gr:Nat)(cs:List Value)(B:Nat)(D:HC):It where
 p:=fun _ w=>aF w gr 256 cs.toArray∧fK w B D
 bl:=gr::((Value.ownBlock (.slice D.GA D.Gn D.Gc)).toList++(Value.ownBlock (.slice D.MA D.Mn D.Mc)).toList)
 mono:=fun h _=>h
 keep:=fun h hk=>⟨(hk gr (by simp)).trans h.1,{ h.2 with og:=iF h.2.og fun g hg=>hk g (by simp[hg]),om:=iF h.2.om fun g hg=>hk g (by simp[hg]) }⟩
 lt:=fun{b w} h g hg=>by
  rcases Zu.1 hg with rfl|hg
  ·exact h.1.lt
  ·rcases Zm.1 hg with hg|hg
   ·exact(h.2.og.lt g (by simpa using hg)).2
   ·exact(h.2.om.lt g (by simpa using hg)).2
theorem tX {cs:List Value}{is:List It}{D:HC}(E:Env b w0 bx (YW gr cs B D::is) w):aF w gr 256 cs.toArray∧fK w B D:=E.get 0
theorem Ls {cs:List Value}{D:HC}(E:Env b w0 ((gr,256,cs)::bx) [] w)(hg:w.grownBy w' (some gr))(hb:aF w' gr 256 cs'.toArray)(ho:fK w' w D):Env b w0 bx [YW gr cs' w D] w':=by
 have F:=(E.aO (α:=ByteArray) (N:=0)).sP;refine F.row 0 rfl hg (fun g e=>?_) ⟨hb,ho⟩ fun g hg2=>?_
 ·injection e with e
  subst e;exact ZJ _ (Zp.2 rfl)
 ·rcases Zu.1 hg2 with rfl|hg2
  ·exact Or.inl (ZJ _ (Zp.2 rfl))
  ·rcases Zm.1 hg2 with hg2|hg2
   ·exact Or.inr (ho.og.lt g (by simpa using hg2)).1
   ·exact Or.inr (ho.om.lt g (by simpa using hg2)).1
theorem Yp {is:List It}{rest:List Oper}(E:Env b w0 bx is w)(h:∀(r:Addr) (c:Nat) w',s.size≤c→(s.size≤maxLen→c≤maxLen)→Reads w' w' 1 (some r) s.size (cb s.data.toList)→Env b w0 bx is w'→wpList prog ops Q rest (a.put o.dst (.slice (some r) s.size c)) w')
  (hg:o.guard=none:=by rfl) (ho:o.op=.convert 9 46 x:=by rfl) (hx:a.eval x=s:=by rfl):wpList prog ops Q (o::rest) a w:=by
 refine wpList_plain hg fun K hK=>?_;unfold Oper.wp execOp;simp only[ho,hx,aaV,vX,aaQ,aaW];exact hK _ _ (h _ _ _ (Ec w s) (Fp w s) (by rw[yN];exact vS w s) (E.up (vW w s)))
theorem U9 {is:List It}{rest:List Oper}(E:Env b w0 bx is w)(h:∀g w',g=w.heap.size→Below w w w'→Env b w0 ((g,elem,vs)::bx) is w'→wpList prog ops Q rest (a.put o.dst (.pointer (some ⟨g,0,none⟩))) w')
  (hg:o.guard=none:=by rfl) (ho:o.op=.box elem x:=by rfl) (hy:a.eval x=v:=by go_simp<;>with_reducible rfl) (hv:v.cells.toList=vs:=by simp only[Value.cells,aas]<;>rfl):wpList prog ops Q (o::rest) a w:=by
 refine wpList_plain hg fun K hK=>?_;unfold Oper.wp execOp;have hc:(a.eval x).cells=vs.toArray:=by rw[←hv,hy]
 simp only[ho,Instr.box,newVar,newRow,hc,aaV,aaW,run_newObj,aaQ];exact hK _ _ (h _ _ rfl ((aaO _ w).alloc (Zh _) _) (E.alloc elem vs))
theorem xk {x:Int}{l:List UInt8}(h:Cp.eB l=(Cp.fP 0,x))(hb:Below w w w'):∃(D:HC) (y:Int),Ending.returned (.tuple #[.agg #[.int .u8 (aJ 0).k,(aJ 0).mi,.slice (aJ 0).GA (aJ 0).Gn (aJ 0).Gc,(aJ 0).mt,.string (aJ 0).key,.string (aJ 0).body,(aJ 0).i,(aJ 0).tm,.slice (aJ 0).MA (aJ 0).Mn (aJ 0).Mc,(aJ 0).tp,(aJ 0).who,(aJ 0).n],x])=.returned (.tuple #[.agg #[.int .u8 D.k,D.mi,.slice D.GA D.Gn D.Gc,D.mt,D.key,D.body,D.i,D.tm,.slice D.MA D.Mn D.Mc,D.tp,D.who,D.n],y])∧(D.cmd,y)=Cp.eB l∧fK w' w D∧Below w w w':=
 ⟨aJ 0,x,rfl,h.symm,yS _ _ (by decide),hb⟩
theorem uL (s:ByteArray)(l:List UInt8)(w:World)(hs:s.size≤maxLen)(hl:s.data.toList=l) :
  Calls prog 70 #[s] w fun e w'=>∃(D:HC) (x:Int),e=.returned (.tuple #[.agg #[.int .u8 D.k,D.mi,.slice D.GA D.Gn D.Gc,D.mt,D.key,D.body,D.i,D.tm,.slice D.MA D.Mn D.Mc,D.tp,D.who,D.n],x])∧(D.cmd,x)=Cp.eB l∧fK w' w D∧Below w w w':=by
 have hsz:=size_data s;rw[hl] at hsz;have HL:=L_ hl;have HSZ:=L_ hsz;have HM:=L_ hs;unfold maxLen at hs;clear hl hsz;have E:=Env.start w
 go_enter func70,ntmps70
 refine G E [5,70,3,0,4,6,9] ?_;clear E;intro g2 w2 E
 by_cases hbig:(1024:Int)<(s.size:Int)
 case pos=>
  refine G E [5,84,4,7,5,0,60,0,4,22,24,9] ?_;clear E;intro w3 E;exact aI 0 E (xk (Cp.yU (by have:=HSZ.out;omega)) E.aD)
 case neg=>
  refine G0 [5,84,4,8,15,5,0] ?_;refine Yp E ?_;clear E;intro r c w4 hc1 hc2 hR E;replace hc2:=hc2 HM;have hcs:¬1024<l.length:=by have:=HSZ.out;omega
  clear hbig hs;refine fV ?_;refine U9 E ?_;clear E;intro g13 w9 hgr hb E;have hws:=E.aD.size;rw[HL.out] at hR;replace hR:=L_ (show uE g13 g13 l false w9 from⟨_,_,_,E.blk 0 rfl,(hR.more (by omega)).below (hb.mono (by omega)),hc1,hc2,by have:=HSZ.out;omega,Zh _⟩);clear hb hgr hc1 hc2;refine G0 [3,0,4,5,0] ?_;refine ah (Bw g13 g13 l _ hR) ?_;rintro _ w5 ⟨D,l',bad,rfl,hrd,hs2,ho,hg⟩;replace hrd:=L_ (Cp.OC hrd);obtain⟨A,n,c2,q1,q2,q3,q4,q5,q6⟩:=hs2;have hnl:=L_ q2.mR;replace E:=Ls (cs':=[.slice A n c2,.bool !bad]) E hg q1 ho;clear hR ho hg q1 q2 q6;refine G E [26,70,3,60,4,6,9] ?_;clear E;intro g5 w7 E;cases bad
  case true=>
   refine G0 [5,84] ?_;refine bQ (show _=some (Value.bool false) from(tX E).1.cell 1) ?_;refine G E [0,0,1,81,2,4,7,5,0,61,0,4,22,24,9] ?_;clear E;intro w8 E;exact aI 1 E (xk (Cp.nO hcs (by rw[hrd.out];simp)) E.aD)
  case false=>
   refine G0 [5,84] ?_;refine bQ (show _=some (Value.bool true) from(tX E).1.cell 1) ?_;refine G0 [83] ?_;refine oZ (show _=some (Value.slice A n c2) from(tX E).1.cell 0) ?_;refine fV ?_
   by_cases hn0:0<n
   case pos=>
    refine G E [84,1,1,1,0,4,7,5,0,61,0,4,22,24,9] ?_;clear E;intro w9 E;exact aI 1 E (xk (Cp.nO hcs (by rw[hrd.out,aaR (fun h=>by have:=hnl.out;rw[h.2.1] at this;simp at this;omega)])) E.aD)
   case neg=>
    refine G0 [84] ?_;refine oC 0 12 E ?_;refine ah (r9 D _ (tX E).2.at_ _ rfl) ?_;rintro _ w10 ⟨rfl,hb⟩;replace E:=E.up hb;clear hb;refine G0 [26] ?_;cases hm:Cp.dU D.cmd
    case false=>
     refine G E [0,0,4,7,5,0,61,0,4,22,24,9] ?_;clear E;intro w11 E;exact aI 1 E (xk (Cp.nO hcs (by rw[hrd.out,aaR (fun h=>by have:=h.2.2;rw[hm] at this;cases this)])) E.aD)
    case true=>
     refine G0 [0,0,4,8,15,5] ?_;refine aB 0 12 E ?_;refine G E [61,0,4,22,9] ?_;clear E;intro w12 E;exact aI 1 E ⟨D,0,rfl,(Cp.kV hcs (by rw[hrd.out,aaS ⟨rfl,ZY (by have:=hnl.out;omega),hm⟩])).symm,fK.mono (tX E).2 hws,E.aD⟩
end
variable{ls:List (List UInt8)}{xs xs2:List Value}{base base2 g n2 size2:Nat}{e2:TypeId}{v2 v3:Value}
def kW (D:HC):List Value:=(#[.int .u8 D.k,.int .i64 D.mi,.slice D.GA D.Gn D.Gc,.int .i64 D.mt,.string D.key,.string D.body,.int .i64 D.i,.int .i64 D.tm,.slice D.MA D.Mn D.Mc,.int .i64 D.tp,.int .i64 D.who,.int .i64 D.n]).toList
theorem iR (D:HC):(kW D).length=12:=rfl
def cc (l:List HC):List Value:=l.flatMap kW
theorem wU (m:HC)(l:List HC):cc (m::l)=kW m++cc l:=by simp[cc]
theorem uU:∀l:List HC,(cc l).length=l.length*12
 |[]=>rfl
 |m::l=>by rw[wU,Zn,uU l,iR,ZI];omega
theorem LM (l m:List HC):cc (l++m)=cc l++cc m:=by simp[cc]
theorem Vr (l:List HC):∀u∈cc l,u.oneCell'=true:=by
 intro u hu;simp only[cc,aau] at hu;obtain⟨m,_,hu⟩:=hu;simp only[kW,Zu,ZF,or_false] at hu
 rcases hu with rfl|rfl|rfl|rfl|rfl|rfl|rfl|rfl|rfl|rfl|rfl|rfl<;>rfl
theorem Qa:∀(l:List HC) (k:Nat) (m:HC) (i:Nat),l[k]?=some m→i<12→(cc l)[k*12+i]?=(kW m)[i]?
 |[],k,m,i,h,_=>by simp at h
 |a::l,0,m,i,h,hi=>by
  simp only[List.getElem?_cons_zero,ZH] at h;subst h;rw[wU,Z0 (by rw[iR];omega),Nat.zero_mul,aah]
 |a::l,k+1,m,i,h,hi=>by
  rw[List.getElem?_cons_succ] at h;rw[wU,Z8 (by rw[iR];omega),iR,show(k+1)*12+i - 12=k*12+i by omega];exact Qa l k m i h hi
section
variable{w:World}{B n:Nat}{A:Option Addr}{l:List HC}
theorem Reads.SK (h:Reads w B 12 A n (cc l)):l.length=n:=by have:=h.1;rw[uU] at this;omega
theorem Reads.cmd (h:Reads w B 12 A n (cc l))(hk:k<n):∃(b off:Nat) (m:HC),A=some ⟨b,off,none⟩∧b<B∧l[k]?=some m∧∀i u,(kW m)[i]?=some u→w.cell? ⟨b,off+k*12+i,none⟩=some u:=by
 have hl:=h.SK;obtain⟨ad,rfl,hb,hc⟩:=h.2 (by omega);have hg:l[k]?=some (l[k]'(by omega)):=Zl (by omega);have h0:∃x,w.cell? (ad.add 0)=some x:=⟨_,hc 0 _ (Zl (by rw[uU];omega))⟩;obtain⟨x,h0⟩:=h0;obtain⟨b,off,rfl,_⟩:=qG h0;refine⟨b,off,l[k]'(by omega),rfl,hb,hg,fun i u hu=>?_⟩;have hi:i<12:=by have:=(Zo.1 hu).1;rwa[iR] at this
 have:=hc (k*12+i) u (by rw[Qa l k _ i hg hi];exact hu);rw[Addr.add_mid] at this;rw[Nat.add_assoc];exact this
end
theorem N9:(prog.info? 37).map (fun i=>(i.zero,i.size,i.bytes))=some (some (.agg #[.int .u8 (aJ 0).k,(aJ 0).mi,.slice (aJ 0).GA (aJ 0).Gn (aJ 0).Gc,(aJ 0).mt,.string (aJ 0).key,.string (aJ 0).body,(aJ 0).i,(aJ 0).tm,.slice (aJ 0).MA (aJ 0).Mn (aJ 0).Mc,(aJ 0).tp,(aJ 0).who,(aJ 0).n]),12,144):=by kernel_rfl
theorem XW {rest:List Oper}{w:World}(hgd:o.guard=none)(sl x:Operand)
  (ho:o.op=.call { callee:=.builtin .append,args:=#[sl,x],argTypes:=#[99,99] })
  (base:Nat) (v:Value) (n:Nat) (l:List HC) (hs:a.eval sl=v) (hown:w.ownsRow base 37 12 v n (cc l))
  (B:Nat) (A:Option Addr) (c:Nat) (p:HC) (hx:a.eval x=.slice A 1 c) (hr:Reads w B 12 A 1 (cc [p]))
  (hn:n≤900000000000) (hbase:base≤w.heap.size)
  (h:∀v' w',w'.ownsRow base 37 12 v' (n+1) (cc (l++[p]))→dX w w' v v'→wpList prog ops Q rest (a.put o.dst v') w') :
  wpList prog ops Q (o::rest) a w:=by
 obtain⟨i0,hi0,hz0,hz1,hz2⟩:=info_parts N9;refine bB _ hgd sl x 99 ho base 37 i0 _ 12 144 underlying99 hi0 hz0 hz1 hz2 rfl (by decide) v n (cc l) hs hown B A 1 c (cc [p]) hx hr (Vr _) (by simp only[maxLen];omega) (by omega) hbase ?_;intro v' w' h1 h2 h3;refine h v' w' (by rw[LM];exact h1) ⟨h2,?_⟩
 rcases h3 with h3|h3
 ·exact Or.inl h3
 ·exact Or.inr ⟨_,h3,Zh _⟩
theorem vG {w:World}{n size:Nat}{e:TypeId}(h:w.ownsRow base e size v n xs)(hg:v.ownBlock=some g):∃cs,w.heap[g]?=some (.cells cs e (0,0)):=by
 rcases h.2 with ⟨rfl,_⟩|⟨g',cap,cur,rfl,_,hh,_⟩
 ·simp[Value.ownBlock] at hg
 ·have:g'=g:=by simpa[Value.ownBlock] using hg
  subst this;exact⟨cur,hh⟩
theorem yg {w:World}{n size:Nat}{e:TypeId}(h:w.ownsRow base e size v n xs)(h2:w.ownsRow base2 e2 size2 v2 n2 xs2)(hne:e≠e2)(hg:dX w w' v2 v3):w'.ownsRow base e size v n xs:=by
 refine iF h fun g hgb=>hg.1.block g (h.lt g hgb).2 ?_;intro he;obtain⟨cs,h4⟩:=vG h hgb;obtain⟨cs2,h5⟩:=vG h2 he.symm;rw[h4] at h5;injection h5 with h5
 injection h5 with _ h6
 exact hne h6
theorem fK.grew {w:World}{D:HC}(h:fK w base D)(h2:w.ownsRow base2 37 12 v2 n2 xs2)(hg:dX w w' v2 v3):fK w' base D:=
 { h with og:=yg h.og h2 (by decide) hg,om:=yg h.om h2 (by decide) hg }
theorem xH {w:World}{n size:Nat}{e:TypeId}(h:w.ownsRow base e size v n xs):∃A c,v=.slice A n c:=by
 rcases h.2 with ⟨rfl,rfl⟩|⟨g,cap,cur,rfl,_⟩
 ·exact⟨none,0,rfl⟩
 ·exact⟨_,_,rfl⟩
theorem IE {e:TypeId}{size c n:Nat}{A:Option Addr}{w:World}(h:w.ownsRow base e size (.slice A n c) n xs):Reads w w size A n xs:=Reads.bO h
theorem WO (w:World)(D:HC):Reads (w.alloc (.cells #[.int .u8 D.k,D.mi,.slice D.GA D.Gn D.Gc,D.mt,D.key,D.body,D.i,D.tm,.slice D.MA D.Mn D.Mc,D.tp,D.who,D.n] 37)) (w.alloc (.cells #[.int .u8 D.k,D.mi,.slice D.GA D.Gn D.Gc,D.mt,D.key,D.body,D.i,D.tm,.slice D.MA D.Mn D.Mc,D.tp,D.who,D.n] 37)).heap.size 12 (some ⟨w,0,none⟩) 1 (cc [D]):=by
 refine⟨rfl,fun _=>⟨⟨w.heap.size,0,none⟩,rfl,by simp,fun j u hu=>?_⟩⟩;have hadd:(⟨w,0,none⟩:Addr).add j=⟨w,j,none⟩:=by unfold Addr.add;split<;>simp_all
 rw[hadd,(aF.new w 37 #[.int .u8 D.k,D.mi,.slice D.GA D.Gn D.Gc,D.mt,D.key,D.body,D.i,D.tm,.slice D.MA D.Mn D.Mc,D.tp,D.who,D.n]).cell j,←Array.getElem?_toList];have e:cc [D]=kW D:=by simp[cc]
 rw[e] at hu;exact hu
namespace Lg
open Cp
def all:List (List UInt8)→Option (List dD)
 |[]=>some []
 |s::r=>if (eB s).2=0 then(all r).map ((eB s).1::·) else none
def iA (ls:List (List UInt8)):List dD×Int:=if 200<ls.length then([],4) else match all ls with
 |some l=>(l,0)
 |none=>([],8)
theorem jZ {s:List UInt8}{r:List (List UInt8)}(h:(eB s).2=0):all (s::r)=(all r).map ((eB s).1::·):=by rw[all,aaS h]
theorem nA {s:List UInt8}{r:List (List UInt8)}(h:(eB s).2≠0):all (s::r)=none:=by rw[all,aaR h]
theorem nE (h:200<ls.length):iA ls=([],4):=by unfold iA;rw[aaS h]
theorem nH {l:List dD}(h:¬200<ls.length)(ha:all ls=some l):iA ls=(l,0):=by unfold iA;rw[aaR h,ha]
theorem rH (h:¬200<ls.length)(ha:all ls=none):iA ls=([],8):=by unfold iA;rw[aaR h,ha]
theorem Kj:∀{ls:List (List UInt8)} {l:List dD},all ls=some l→l.length=ls.length
 |[],l,h=>by simp only[all,ZH] at h;subst h;rfl
 |s::r,l,h=>by
  by_cases hs:(eB s).2=0
  ·rw[jZ hs] at h;cases hr:all r with
   |none=>rw[hr] at h;cases h
   |some q=>
    rw[hr] at h;simp only[aad,ZH] at h;subst h;rw[ZI,ZI,Kj hr]
  ·rw[nA hs] at h;cases h
end Lg
def tx (l:List ByteArray):List (List UInt8):=l.map fun s=>s.data.toList
theorem F9 (l:List ByteArray):(tx l).length=l.length:=by simp[tx]
def SF (l:List (List UInt8))(base:Nat)(e:Ending)(w':World):Prop:=∃(ds:List HC) (x:Int) (A:Option Addr) (c:Nat),e=.returned (.tuple #[.slice A ds.length c,x])∧w'.ownsRow base 37 12 (.slice A ds.length c) ds.length (cc ds) ∧
 (∀D∈ds,fK w' base D)∧(ds.map HC.cmd,x)=Lg.iA l
def XZ (l:List (List UInt8))(w0:World)(n:Nat)(x2 x13:Value)(wr:World):Prop:=∃(k:Nat) (ds:List HC),x13=(k:Int)∧k≤n∧ds.length=k∧wr.ownsRow w0 37 12 x2 k (cc ds)∧(∀D∈ds,fK wr w0 D)∧Below w0 w0 wr ∧
 Lg.all l=(Lg.all (l.drop k)).map (ds.map HC.cmd++·)
theorem AJ {l:List (List UInt8)}{x:Int}(h:Lg.iA l=([],x)):SF l base (.returned (.tuple #[(),x])) w':=
 ⟨[],x,none,0,rfl,aaU _ _ _ _,by simp,h.symm⟩
theorem mq (A:Option Addr)(n c B:Nat)(ls:List ByteArray)(w:World)(hr:Reads w B 1 A n (ct ls))(hB:B≤w.heap.size)(hn:n≤9223372036854775807)(hz:∀s∈ls,s.size≤maxLen) :
  Calls prog 30 #[.slice A n c] w fun e w'=>SF (tx ls) w e w'∧Below w w w':=by
 have hl:=hr.Bq;obtain⟨L,hL⟩:∃L,tx ls=L:=⟨_,rfl⟩;have hLl:L.length=n:=by rw[←hL,F9,hl]
 have HLL:=L_ hLl;have HL:=L_ hL;have HR:=L_ hr;have HZ:=L_ hz;have Hl:=L_ hl;rw[hL];clear hr hl hz hL hLl
 by_cases hbig:(200:Int)<(n:Int)
 ·have HX:=L_ (Lg.nE (ls:=L) (by have:=HLL.out;omega))
  go_enter func30,ntmps30
  go_wp2
  go_ret2
  exact⟨AJ HX,aaO _ _⟩
 go_enter func30,ntmps30
 go_wp2_with fail
 go_loopw [2,13] (fun x2 x13 wr=>XZ L w n x2 x13 wr) (fun _ y _=>n - (intOf y).toNat)
 case atStart=>exact⟨0,[],rfl,Zq _,rfl,aaU _ _ _ _,by simp,aaO _ _,by simp⟩
 case round=>
  obtain⟨k,ds,rfl,hk,hdl,ho,hd,hb,he⟩:=hrel;have HO:=L_ ho;have HD:=L_ hd;have HB:=L_ hb;have HE:=L_ he;have HDL:=L_ hdl;obtain⟨A2,c2,rfl⟩:=xH ho;clear ho hd hb he hdl
  by_cases hlt:k<n
  ·obtain⟨ad,u,rfl,hbl,hu,hc⟩:=HR.at_ hlt;have hkl:k<ls.length:=by rw[Hl.out];exact hlt
   have hg:ls[k]?=some (ls[k]'hkl):=Zl hkl;obtain⟨s,hs⟩:∃s,ls[k]'hkl=s:=⟨_,rfl⟩;rw[hs] at hg;rw[Df,hg] at hu;simp only[aad,ZH] at hu;subst hu;have hcw:=(HB.cell (p:=ad.add k) (by rw[kD];omega)).trans hc;have HSZ:=L_ (HZ s (Zk hg))
   have HGL:Hid (L.drop k=s.data.toList::L.drop (k+1)):=by
    have hkL:k<L.length:=by rw[HLL.out];exact hlt
    rw[Hid,List.drop_eq_getElem_cons hkL]
    have:L[k]=s.data.toList:=by
     have h1:L[k]?=some (s.data.toList):=by rw[←HL.out,tx,ZU,hg];rfl
     rw[Zl hkL] at h1;injection h1
    rw[this]
   clear hg hs hc hkl;go_wp2_with fail;refine(uL s s.data.toList wr HSZ rfl).mono ?_;rintro e w1 ⟨D,x,rfl,hx,hoD,hb⟩;have HX:=L_ hx;have HOD:=L_ ((hoD.mono HB.size).below ((aaO w1 w1).alloc (Zh _) (.cells #[.int .u8 D.k,D.mi,.slice D.GA D.Gn D.Gc,D.mt,D.key,D.body,D.i,D.tm,.slice D.MA D.Mn D.Mc,D.tp,D.who,D.n] 37)));have HO1:=L_ (jB (jB HO hb) ((aaO w1 w1).alloc (Zh _) (.cells #[.int .u8 D.k,D.mi,.slice D.GA D.Gn D.Gc,D.mt,D.key,D.body,D.i,D.tm,.slice D.MA D.Mn D.Mc,D.tp,D.who,D.n] 37)));have HD1:Hid (∀E∈ds,fK (w1.alloc (.cells #[.int .u8 D.k,D.mi,.slice D.GA D.Gn D.Gc,D.mt,D.key,D.body,D.i,D.tm,.slice D.MA D.Mn D.Mc,D.tp,D.who,D.n] 37)) w E):=fun E hE=>((HD E hE).below hb).below ((aaO w1 w1).alloc (Zh _) (.cells #[.int .u8 D.k,D.mi,.slice D.GA D.Gn D.Gc,D.mt,D.key,D.body,D.i,D.tm,.slice D.MA D.Mn D.Mc,D.tp,D.who,D.n] 37));have HB1:=L_ ((HB.trans (hb.mono HB.size)).alloc (by have:=HB.size;have:=hb.size;omega) (.cells #[.int .u8 D.k,D.mi,.slice D.GA D.Gn D.Gc,D.mt,D.key,D.body,D.i,D.tm,.slice D.MA D.Mn D.Mc,D.tp,D.who,D.n] 37));have KD:=L_ (aF.new w1 37 #[.int .u8 D.k,D.mi,.slice D.GA D.Gn D.Gc,D.mt,D.key,D.body,D.i,D.tm,.slice D.MA D.Mn D.Mc,D.tp,D.who,D.n]);clear hx hoD hb hcw HO HD HB
   by_cases hx0:x=0
   ·subst hx0;have c0:=KD.cell 0;have c1:=KD.cell 1;have c2':=KD.cell 2;have c3:=KD.cell 3;have c4:=KD.cell 4;have c5:=KD.cell 5;have c6:=KD.cell 6;have c7:=KD.cell 7;have c8:=KD.cell 8;have c9:=KD.cell 9;have c10:=KD.cell 10;have c11:=KD.cell 11
    go_upto_region 9 with fail
    generalize w1.alloc (.cells #[.int .u8 D.k,D.mi,.slice D.GA D.Gn D.Gc,D.mt,D.key,D.body,D.i,D.tm,.slice D.MA D.Mn D.Mc,D.tp,D.who,D.n] 37)=w2 at *;have HO2:=L_ (jB HO1 ((aaO w2 w2).alloc (Zh _) (.cells #[.int .u8 D.k,D.mi,.slice D.GA D.Gn D.Gc,D.mt,D.key,D.body,D.i,D.tm,.slice D.MA D.Mn D.Mc,D.tp,D.who,D.n] 37)));have HD2:Hid (∀E∈ds,fK (w2.alloc (.cells #[.int .u8 D.k,D.mi,.slice D.GA D.Gn D.Gc,D.mt,D.key,D.body,D.i,D.tm,.slice D.MA D.Mn D.Mc,D.tp,D.who,D.n] 37)) w E):=fun E hE=>(HD1 E hE).below ((aaO w2 w2).alloc (Zh _) (.cells #[.int .u8 D.k,D.mi,.slice D.GA D.Gn D.Gc,D.mt,D.key,D.body,D.i,D.tm,.slice D.MA D.Mn D.Mc,D.tp,D.who,D.n] 37));have HOD2:=L_ (HOD.below ((aaO w2 w2).alloc (Zh _) (.cells #[.int .u8 D.k,D.mi,.slice D.GA D.Gn D.Gc,D.mt,D.key,D.body,D.i,D.tm,.slice D.MA D.Mn D.Mc,D.tp,D.who,D.n] 37)));have HB2:=L_ (HB1.alloc HB1.size (.cells #[.int .u8 D.k,D.mi,.slice D.GA D.Gn D.Gc,D.mt,D.key,D.body,D.i,D.tm,.slice D.MA D.Mn D.Mc,D.tp,D.who,D.n] 37));have NC:=L_ (WO w2 D);go_wp2_with (at_builtin;refine XW rfl (.tmp 24) (.tmp 26) rfl w.heap.size (.slice A2 k c2) k ds rfl HO2 _ (some ⟨w2,0,none⟩) 1 D rfl NC ?d1 ?d2 ?_)
    case d1=>omega
    case d2=>exact HB2.size
    intro v' w4 ho4 hg4;have HO4:=L_ ho4;have HB4:=L_ (HB2.trans (hg4.below HB2.size (fun k hk=>(HO2.lt k hk).1)))
    have HD4:Hid (∀E∈ds++[D],fK w4 w E):=by
     intro E hE
     rcases Zm.1 hE with hE|hE
     ·exact(HD2 E hE).grew HO2 hg4
     ·obtain rfl:=Zp.1 hE;exact HOD2.grew HO2 hg4
    have HE4:Hid (Lg.all L=(Lg.all (L.drop (k+1))).map ((ds++[D]).map HC.cmd++·)):=by
     have hx:=HX.out;rw[Hid,HE.out,HGL.out,Lg.jZ (by rw[←hx]),←hx];cases Lg.all (L.drop (k+1)) with
     |none=>rfl
     |some q=>simp
    clear ho4 hg4 NC;go_wp2
    go_roundw
    case rel=>exact⟨k+1,ds++[D],by go_num,by omega,by have:=HDL.out;simp;omega,HO4,HD4,HB4,HE4⟩
    case measure=>simp[intOf];omega
   ·have HX2:Hid (Lg.iA L=([],8)):=by
     have hx:=HX.out;refine Lg.rH (by have:=HLL.out;omega) ?_;rw[HE.out,HGL.out,Lg.nA (by rw[←hx];exact hx0)];rfl
    have q0:(x==0)=false:=ZX.2 hx0;go_wp2
    go_ret2
    exact⟨AJ HX2,HB1⟩
  ·have HK:Hid (Lg.all L=some (ds.map HC.cmd)):=by
    have h1:=HE.out;rw[List.drop_eq_nil_of_le (by have:=HLL.out;omega)] at h1;rw[Hid];simpa[Lg.all] using h1
   obtain rfl:n=k:=by omega
   go_wp2
   go_ret2
   refine⟨⟨ds,0,A2,c2,?_,?_,HD,?_⟩,HB⟩
   ·rw[HDL.out];rfl
   ·rw[HDL.out];exact HO
   ·exact(Lg.nH (by have:=HLL.out;omega) HK).symm
theorem GL (A:Option Addr)(n c B:Nat)(ls:List ByteArray)(w:World)(hr:Reads w B 1 A n (ct ls))(hB:B≤w.heap.size)(hn:n≤9223372036854775807)(hz:∀s∈ls,s.size≤maxLen)(x:Int)(hx:(Lg.iA (tx ls)).2=x) :
  Calls prog 239 #[.slice A n c] w fun e w'=>e=.returned x∧Below w w w':=by
 have H:=L_ (mq A n c B ls w hr hB hn hz);have HX:=L_ hx;clear hr hz hx
 go_enter func239,ntmps239
 go_wp2_with fail;refine H.mono ?_;rintro e w1 ⟨⟨ds,y,A1,c1,rfl,ho,hd,he⟩,hb⟩;have hy:y=x:=by rw[←HX.out,←he]
 subst hy;have HB:=L_ hb;clear ho hd he hb H HX;go_wp2;go_ret;exact⟨rfl,HB⟩
def Lg.place (v:ByteArray):Nat→List ByteArray→Int
 |_,[]=>-1
 |k,s::r=>if s=v then(k:Int) else Lg.place v (k+1) r
theorem Hg (A:Option Addr)(n c B:Nat)(ls:List ByteArray)(v:ByteArray)(w:World)(hr:Reads w B 1 A n (ct ls))(hn:n≤9223372036854775807)(x:Int)(hx:Lg.place v 0 ls=x) :
  Calls prog 324 #[.slice A n c,v] w fun e w'=>e=.returned x∧w=w':=by
 have Hl:=L_ hr.Bq;have HR:=L_ hr;have HX:=L_ hx;clear hr hx
 go_enter func324,ntmps324
 go_wp2_with fail
 go_loopw [8] (fun y wr=>(∃k:Nat,y=(k:Int)∧k≤n∧Lg.place v k (ls.drop k)=x)∧wr=w) (fun y _=>n - (intOf y).toNat)
 case atStart=>exact⟨⟨0,rfl,Zq _,HX⟩,rfl⟩
 case round=>
  obtain⟨⟨k,rfl,hk,he⟩,rfl⟩:=hrel;have HE:=L_ he;clear he
  by_cases hlt:k<n
  ·obtain⟨ad,u,rfl,hbl,hu,hc⟩:=HR.at_ hlt;have hkl:k<ls.length:=by rw[Hl.out];exact hlt
   have hg:ls[k]?=some (ls[k]'hkl):=Zl hkl;obtain⟨s,hs⟩:∃s,ls[k]'hkl=s:=⟨_,rfl⟩;rw[hs] at hg;rw[Df,hg] at hu;simp only[aad,ZH] at hu;subst hu;have HE2:=L_ HE;rw[List.drop_eq_getElem_cons hkl,hs,Lg.place] at HE2;clear hg hs hkl HE
   by_cases hv:s=v
   ·subst hv;have hxk:Hid (x=(k:Int)):=by rw[Hid,←HE2.out,aaS rfl]
    go_wp2;go_ret;rw[hxk.out];exact⟨rfl,by trivial⟩
   ·have HE3:Hid (Lg.place v (k+1) (ls.drop (k+1))=x):=by rw[Hid,←HE2.out,aaR hv]
    have hq:(v.toList==s.toList)=false:=ZX.2 fun e=>hv (data_inj (by rw[←iI,←iI];exact e.symm));have hq2:(s.toList==v.toList)=false:=ZX.2 fun e=>hv (data_inj (by rw[←iI,←iI];exact e));clear HE2 hv;go_wp2
    go_roundw
    case rel=>exact⟨⟨k+1,by go_num,by omega,HE3⟩,by trivial⟩
    case measure=>simp[intOf];omega
  ·have HE2:=L_ HE;rw[List.drop_eq_nil_of_le (by have:=Hl.out;omega),Lg.place] at HE2;have hx1:Hid (x=-1):=HE2.symm;go_wp2;go_ret;rw[hx1.out];exact⟨rfl,by trivial⟩
theorem Lg.EM (v:ByteArray):∀(ls:List ByteArray) (k:Nat),Lg.place v k ls=-1∨((k:Int)≤Lg.place v k ls∧Lg.place v k ls<(k:Int)+ls.length)
 |[],k=>Or.inl rfl
 |s::r,k=>by
  rw[Lg.place]
  split
  ·right;simp only[ZI];omega
  ·rcases Lg.EM v r (k+1) with h|h
   ·exact Or.inl h
   ·right;simp only[ZI];omega
theorem IG (A:Option Addr)(n c:Nat)(l:List Int)(w:World)(B:Nat)(hr:Reads w B 1 A n (ci l))(hB:B≤w.heap.size)(hn:n≤1000000000) :
  Calls prog 40 #[.slice A n c] w fun e w'=>∃A2 c2,e=.returned (.slice A2 n c2)∧w'.ownsRow w 3 1 (.slice A2 n c2) n (ci l)∧Below w w w':=by
 have hl:=hr.jw;have q22:∀(w:World) (a:Option Addr) (n c n' c':Nat),(binOp .eql 33 (.slice a n c) (.slice none n' c')).run prog w=.ok a.isNone w:=fun w a n c n' c'=>Lib.run_eql_slice_nil w _ _ a n c n' c' underlying33;cases A with
 |none=>
  have h0:n=0:=by
   rcases aao n with h0|h0
   ·exact h0
   ·obtain⟨ad,h',_⟩:=hr.2 h0;cases h'
  subst h0;obtain rfl:l=[]:=ZY hl;clear hr
  go_enter func40,ntmps40
  go_wp2;go_ret;exact⟨none,0,rfl,aaU _ _ _ _,aaO _ _⟩
 |some ad=>
  have HR:=L_ hr;clear hr;have HO:=L_ (World.ownsRow_made (base:=w.heap.size) (e:=3) (size:=1) w #[] 0 (Zh _) (Zq _) rfl);have HR2:=L_ (HR.keep (w':=w.alloc (.cells #[] 3)) fun p hp=>World.cell?_alloc_lt w _ p (by omega))
  go_enter func40,ntmps40
  go_wp2_with (at_builtin;refine Ur rfl (.tmp 5) (.tmp 6) rfl w.heap.size (.slice (some ⟨w,0,none⟩) 0 0) 0 [] rfl HO B (some ad) n c l rfl HR2 (by omega) (by simp) ?_);intro v' w' h1 h2;obtain⟨A2,c2,rfl⟩:=xH h1;try simp only[aay,aah] at h1
  have H1:=L_ h1;have hb:=L_ (aR (h2.bW HO (by simp)) (Zh _));clear h1 h2;go_wp2;go_ret;exact⟨_,_,by first|rfl|simp,by first|exact H1|simpa using H1.out,hb⟩
def Un (w:World)(g:Nat)(l:List Int):Prop:=∃(A:Option Addr) (n c:Nat) (A':Option Addr) (n' c':Nat),aF w g 53 #[.slice A n c,.slice A' n' c']∧Reads w w 1 A n (ci l)∧n≤1000000000
theorem Em (g:Nat)(l:List Int)(x:Int)(w:World)(b:Bool)(hb:decide (x∈l)=b)(h:Un w g l) :
  Calls prog 317 #[x,g] w fun e w'=>e=.returned (.bool (!b))∧w=w':=by
 obtain⟨A,n,c,A',n',c',hk,hr,hn⟩:=h;have H:=L_ (oU A n c w l x w hr (by omega));rw[hb] at H;have c0:=hk.cell 0;have f0:=hk.frozen;clear hb hr hk
 go_enter func317,ntmps317
 go_wp2_with fail;refine H.mono ?_;rintro e w' ⟨rfl,rfl⟩;clear H;cases b with
 |true=>
  go_wp2;go_ret;exact⟨rfl,by trivial⟩
 |false=>
  go_wp2;go_ret;exact⟨rfl,by trivial⟩
def Ab (l:List Int):Nat→List Int→Int
 |_,[]=>-1
 |k,x::r=>if x∈l then Ab l (k+1) r else(k:Int)
theorem J6 (l:List Int):∀(r:List Int) (k:Nat),decide (0≤Ab l k r)=r.any fun x=>!decide (x∈l)
 |[],k=>by simp[Ab]
 |x::r,k=>by
  rw[Ab]
  by_cases h:x∈l
  ·rw[aaS h,J6 l r (k+1)];simp[h]
  ·rw[aaR h];simp[h]
theorem DV (g:Nat)(l:List Int)(A:Option Addr)(n c:Nat)(m:List Int)(w:World)(x:Int)(hx:Ab l 0 m=x)(hr:Reads w w 1 A n (ci m))(hn:n≤9223372036854775807)(h:Un w g l) :
  Calls prog 85 #[.slice A n c,.func (.func 317) #[] #[g]] w fun e w'=>e=.returned x∧w=w':=by
 have Hl:=L_ hr.jw;have HX:=L_ hx;have HR:=L_ hr;have H:=L_ h;clear hx hr h
 go_enter func85,ntmps85
 go_wp2
 go_loopw [8] (fun y wr=>(∃k:Nat,y=(k:Int)∧k≤n∧Ab l k (m.drop k)=x)∧wr=w) (fun y _=>n - (intOf y).toNat)
 case atStart=>exact⟨⟨0,rfl,Zq _,HX⟩,rfl⟩
 case round=>
  obtain⟨⟨k,rfl,hk,he⟩,rfl⟩:=hrel;have HE:=L_ he;clear he
  by_cases hlt:k<n
  ·obtain⟨ad,u,rfl,hbl,hu,hc⟩:=HR.at_ hlt;have hkl:k<m.length:=by rw[Hl.out];exact hlt
   have hg:m[k]?=some (m[k]'hkl):=Zl hkl;obtain⟨s,hs⟩:∃s,m[k]'hkl=s:=⟨_,rfl⟩;rw[hs] at hg;rw[lZ,hg] at hu;simp only[aad,ZH] at hu;subst hu;have HE2:=L_ HE;rw[List.drop_eq_getElem_cons hkl,hs,Ab] at HE2;clear hg hs hkl HE
   by_cases hv:s∈l
   ·have HE3:Hid (Ab l (k+1) (m.drop (k+1))=x):=by rw[Hid,←HE2.out,aaS hv]
    have HO:=L_ (Em g l s wr true (ZG hv) H);clear HE2 hv;go_wp2_with fail;refine HO.mono ?_;rintro e w' ⟨rfl,rfl⟩;clear HO;go_wp2
    go_roundw
    case rel=>exact⟨⟨k+1,by go_num,by omega,HE3⟩,by trivial⟩
    case measure=>simp[intOf];omega
   ·have hxk:Hid (x=(k:Int)):=by rw[Hid,←HE2.out,aaR hv]
    have HO:=L_ (Em g l s wr false (ZE hv) H);clear HE2 hv;go_wp2_with fail;refine HO.mono ?_;rintro e w' ⟨rfl,rfl⟩;clear HO;go_wp2;go_ret;rw[hxk.out];exact⟨rfl,by trivial⟩
  ·have HE2:=L_ HE;rw[List.drop_eq_nil_of_le (by have:=Hl.out;omega),Ab] at HE2;have hx1:Hid (x=-1):=HE2.symm;go_wp2;go_ret;rw[hx1.out];exact⟨rfl,by trivial⟩
theorem Gu (g:Nat)(l:List Int)(A:Option Addr)(n c:Nat)(m:List Int)(w:World)(b:Bool)(hb:(m.any fun x=>!decide (x∈l))=b)(hr:Reads w w 1 A n (ci m))(hn:n≤9223372036854775807)(h:Un w g l) :
  Calls prog 38 #[.slice A n c,.func (.func 317) #[] #[g]] w fun e w'=>e=.returned b∧w=w':=by
 obtain⟨x,hx⟩:∃x,Ab l 0 m=x:=⟨_,rfl⟩;have hq:=J6 l m 0;rw[hb,hx] at hq;have H:=L_ (DV g l A n c m w x hx hr hn h);clear hx hb hr h
 go_enter func38,ntmps38
 go_wp2_with fail;refine H.mono ?_;rintro e w1 ⟨rfl,rfl⟩;cases b with
 |true=>
  go_wp2;go_ret;exact⟨rfl,by trivial⟩
 |false=>
  go_wp2;go_ret;exact⟨rfl,by trivial⟩
section
open Go.RowKit Go.Shelf
attribute [local go_sem] Oper.semAt_some
abbrev IX (cs:List HC):={ p:Nat×HC // cs[p.1]?=some p.2 }
def Jv {cs:List HC}(x:IX cs):Array Value:=#[(x.1.1:Int),.agg #[.int .u8 x.1.2.k,x.1.2.mi,.slice x.1.2.GA x.1.2.Gn x.1.2.Gc,x.1.2.mt,x.1.2.key,x.1.2.body,x.1.2.i,x.1.2.tm,.slice x.1.2.MA x.1.2.Mn x.1.2.Mc,x.1.2.tp,x.1.2.who,x.1.2.n]]
def Down {cs:List HC}(n:Nat)(pre:List (IX cs)):Prop:=∀i x,pre[i]?=some x→x.1.1+i+1=n
theorem Down.nil {cs:List HC}(n:Nat):Down (cs:=cs) n []:=by intro i x h;simp at h
theorem Down.snoc {cs:List HC}{n:Nat}{pre:List (IX cs)}(h:Down n pre){x:IX cs}(hx:x.1.1+pre.length+1=n):Down n (pre++[x]):=by
 intro i y hy
 by_cases hi:i<pre.length
 ·rw[Z0 hi] at hy;exact h i y hy
 ·rw[Z8 (by omega)] at hy
  have h0:i - pre.length=0:=by
   rcases aao (i - pre.length) with h0|h0
   ·exact h0
   ·rw[List.getElem?_eq_none (by simp;omega)] at hy;cases hy
  rw[h0] at hy;simp only[List.getElem?_cons_zero,ZH] at hy;subst hy;omega
theorem Oc (F:Fence)(n:Nat)(hF:F.fn 335)(hro:F.round=none)(hn:1≤n)(l Bs n₀ b off len cap:Nat)(cs:List HC)(hlen:cs.length=len)(hreach:len≤1000000000)(hb:b<n₀)(hBn:Bs<n₀)(J Jx:List (IX cs)→World→Prop)
  (hY:∀pre x W,J pre W→pre.length<len→YieldAt F (n - 1) prog l (Jv x) W fun e W'=>
   (e=.returned true∧J (pre++[x]) W'∧Below n₀ W W')∨(e=.returned false∧Jx (pre++[x]) W'))
  (W:World) (hBs:W.cell? ⟨Bs,0,none⟩=some (.slice (some ⟨b,off,none⟩) len cap)) (hc:∀k D,cs[k]?=some D→∀i u,(kW D)[i]?=some u→W.cell? ⟨b,off+k*12+i,none⟩=some u) (h0:J [] W) :
  CallsIn F n prog 335 #[.func (.yield l) #[] #[],.pointer (some ⟨Bs,0,none⟩)] W fun e W'=>(∃v,e=.returned v) ∧
   ((∃ys,(Down len ys∧ys.length=len)∧J ys W')∨(∃pre,Down len pre∧Jx pre W')):=by
 refine callsIn_of_wp func335 rfl hF ?_ hro;simp only[ntmps335,List.size_toArray,ZI,aai,Nat.reduceAdd,Nat.reduceSub,Array.replicate_succ,Array.replicate_zero,List.push_toArray,List.append_toArray,aay,aap]
 gi_wp2
 gi_loopw [3] (fun i wr=>∃(r:Nat) (pre:List (IX cs)),pre.length+r=len∧i=.int .i64 ((r:Int) - 1)∧Down len pre∧J pre wr∧Below n₀ W wr)
  (fun i _=>(intOf i+1).toNat)
 case atStart=>exact⟨len,[],by simp,by first|rfl|(go_num),Down.nil _,h0,aaO _ _⟩
 case round=>
  obtain⟨r,pre,hr,rfl,hd,hJs,hnx⟩:=hrel;have hbs:=(hnx.cell (p:=⟨Bs,0,none⟩) hBn).trans hBs;cases r with
  |zero=>
   gi_wp2
   go_end0
   exact⟨⟨_,rfl⟩,.inl ⟨_,⟨hd,by omega⟩,hJs⟩⟩
  |succ j=>
   obtain⟨D,hD⟩:∃D,cs[j]?=some D:=⟨_,Zl (by omega)⟩;have ej:(((j+1:Nat):Int) - 1)=(j:Int):=by omega
   rw[ej];obtain⟨fn,tmps,assign,body,hy,hR⟩:=hY pre ⟨(j,D),hD⟩ wr hJs (by omega);dsimp only[Jv] at hy;have hcc:∀i u,(kW D)[i]?=some u→wr.cell? ⟨b,off+j*12+i,none⟩=some u:=fun i u h=>(hnx.cell (p:=⟨b,_,none⟩) hb).trans (hc j D hD i u h);have c0:wr.cell? ⟨b,off+j*12,none⟩=some (.int .u8 D.k):=hcc 0 _ rfl;have c1:wr.cell? ⟨b,off+j*12+1,none⟩=some (.int .i64 D.mi):=hcc 1 _ rfl;have c2:wr.cell? ⟨b,off+j*12+2,none⟩=some (.slice D.GA D.Gn D.Gc):=hcc 2 _ rfl;have c3:wr.cell? ⟨b,off+j*12+3,none⟩=some (.int .i64 D.mt):=hcc 3 _ rfl;have c4:wr.cell? ⟨b,off+j*12+4,none⟩=some (.string D.key):=hcc 4 _ rfl;have c5:wr.cell? ⟨b,off+j*12+5,none⟩=some (.string D.body):=hcc 5 _ rfl;have c6:wr.cell? ⟨b,off+j*12+6,none⟩=some (.int .i64 D.i):=hcc 6 _ rfl;have c7:wr.cell? ⟨b,off+j*12+7,none⟩=some (.int .i64 D.tm):=hcc 7 _ rfl;have c8:wr.cell? ⟨b,off+j*12+8,none⟩=some (.slice D.MA D.Mn D.Mc):=hcc 8 _ rfl;have c9:wr.cell? ⟨b,off+j*12+9,none⟩=some (.int .i64 D.tp):=hcc 9 _ rfl;have c10:wr.cell? ⟨b,off+j*12+10,none⟩=some (.int .i64 D.who):=hcc 10 _ rfl;have c11:wr.cell? ⟨b,off+j*12+11,none⟩=some (.int .i64 D.n):=hcc 11 _ rfl
   gi_wp2
   refine hR.mono ?_;rintro e W3 (⟨rfl,hJ3,hk3⟩|⟨rfl,hJx3⟩)
   ·gi_wp2
    go_roundw
    case rel=>exact⟨j,pre++[⟨(j,D),hD⟩],by simp;omega,by first|rfl|(go_num),hd.snoc (by simp;omega),hJ3,hnx.trans hk3⟩
    case measure=>simp[intOf]<;>omega
   ·gi_wp2
    refine aaT (results_none rfl _ _ _) rfl ?_;exact⟨⟨_,rfl⟩,.inr ⟨_,hd.snoc (by simp;omega),hJx3⟩⟩
theorem Di (F:Fence)(n:Nat)(hF:F.fn 335)(hro:F.round=none)(l Bs:Nat)(A:Option Addr)(cap:Nat)(cs:List HC)(J:List (IX cs)→World→Prop)(W:World)(hBs:W.cell? ⟨Bs,0,none⟩=some (.slice A 0 cap))(h0:J [] W) :
  CallsIn F n prog 335 #[.func (.yield l) #[] #[],.pointer (some ⟨Bs,0,none⟩)] W fun e W'=>(∃v,e=.returned v)∧J [] W':=by
 refine callsIn_of_wp func335 rfl hF ?_ hro;simp only[ntmps335,List.size_toArray,ZI,aai,Nat.reduceAdd,Nat.reduceSub,Array.replicate_succ,Array.replicate_zero,List.push_toArray,List.append_toArray,aay,aap]
 gi_wp2
 gi_loopw [3] (fun i wr=>i=.int .i64 (-1)∧J [] wr) (fun _ _=>0)
 case atStart=>exact⟨rfl,h0⟩
 case round=>
  obtain⟨rfl,hJs⟩:=hrel
  gi_wp2
  go_end0
  exact⟨⟨_,rfl⟩,hJs⟩
theorem NH (A:Option Addr)(len cap:Nat)(w:World) :
  Calls prog 316 #[.slice A len cap] w fun e w'=>e=.returned (.func (.func 335) #[] #[w])∧w'=w.alloc (.cells #[.slice A len cap] 99):=by
 go_enter func316,ntmps316
 go_wp2;go_ret;exact⟨rfl,rfl⟩
theorem Gf (F:Fence)(n:Nat)(hF:F.fn 335)(hro:F.round=none)(hn:1≤n)(Bs n₀:Nat)(A:Option Addr)(len cap:Nat)(cs:List HC)(hreach:len≤1000000000)(w:World)(hBs:Bs<n₀)(hn₀:n₀≤w.heap.size)
  (hc:w.cell? ⟨Bs,0,none⟩=some (.slice A len cap)) (hI:Reads w n₀ 12 A len (cc cs)) :
  SeqStopsK F n prog 335 #[.pointer (some ⟨Bs,0,none⟩)] (Jv (cs:=cs)) (Below n₀) (fun ys=>Down len ys∧ys.length=len) (fun pre=>Down len pre) len w:=fun l J Jx W hW _ _ hY h0=>by
 have hc':=(hW.cell (p:=⟨Bs,0,none⟩) (show Bs<w.heap.size by omega)).trans hc;have hl:=hI.SK
 rcases aao len with h|h
 ·subst h;obtain rfl:cs=[]:=ZY hl;exact(Di F n hF hro l Bs A cap [] J W hc' h0).mono fun e W' ⟨he,hj⟩=>⟨he,.inl ⟨_,⟨Down.nil _,rfl⟩,hj⟩⟩
 ·obtain⟨b,off,m,rfl,hb,_,_⟩:=hI.cmd h;refine Oc F n hF hro hn l Bs n₀ b off len cap cs hl hreach hb hBs J Jx hY W hc' ?_ h0;intro k D hD i u hu;have hk:k<len:=by rw[←hl];exact(Zo.1 hD).1
  obtain⟨b',off',D',e,_,hD',hcc⟩:=hI.cmd hk;cases e;rw[hD] at hD';cases hD';exact(hW.cell (p:=⟨b,_,none⟩) (show b<w.heap.size by omega)).trans (hcc i u hu)
end
def within (l all:List Int):Bool:=l.all fun n=>decide (n∈all)
def cB (l m:List Int):Int:=if Qm.check l=0 then(if Qm.check m=0 then(if within m l=true then 0 else 60) else Qm.check m) else Qm.check l
theorem jk {l m:List Int}(h:cB l m=0):Qm.check l=0∧Qm.check m=0∧within m l=true:=by
 unfold cB at h
 split at h
 ·rename_i h1
  split at h
  ·rename_i h2
   split at h
   ·rename_i h3
    exact⟨h1,h2,h3⟩
   ·cases h
  ·rename_i h2
   exact absurd h h2
 ·rename_i h1
  exact absurd h h1
theorem IW (a b:Fin 64):bits .andNot .u64 (a.val:Int) (b.val:Int)=((a.val &&& (63 ^^^ b.val):Nat):Int):=by revert a b;decide +kernel
theorem D5:∀l∈Qm.wM 6 0,∀x:Fin 64,decide (Qm.eu 0 l &&& (63 ^^^ x.val)=0)=l.all (Qm.FV x.val):=by decide +kernel
theorem EO {l m:List Int}(h:Qm.may m=true):decide (Qm.eu 0 m &&& (63 ^^^ Qm.eu 0 l)=0)=within m l:=by
 obtain⟨hg,_⟩:=Qm.Fh h;rw[D5 m hg ⟨Qm.eu 0 l,Qm.mP _ _ (by omega)⟩];unfold within;rw[Bool.eq_iff_iff,aam,aam]
 have key:∀n∈m,Qm.FV (Qm.eu 0 l) n=decide (n∈l):=by
  intro n hn;obtain⟨h0,h6⟩:=Qm.JC m hg n hn;have hb:=Qm.Bj l 0 n.toNat (by omega);have e:((n.toNat:Nat):Int)=n:=by omega
  rw[e] at hb;simp only[Nat.zero_testBit,Bool.false_or] at hb;exact hb
 constructor
 ·intro h n hn;rw[←key n hn];exact h n hn
 ·intro h n hn;show Qm.FV (Qm.eu 0 l) n=true;rw[key n hn];exact h n hn
theorem rz (A:Option Addr)(n c:Nat)(l:List Int)(A':Option Addr)(n' c':Nat)(m:List Int)(w:World)(hr:Reads w w 1 A n (ci l))(hr':Reads w w 1 A' n' (ci m))(hn:n≤9223372036854775807)(hn':n'≤9223372036854775807) :
  Calls prog 151 #[.agg #[.slice A n c,.slice A' n' c']] w fun e w'=>e=.returned ((cB l m))∧Below w w w':=by
 obtain⟨v,hv⟩:∃v,Qm.check l=v:=⟨_,rfl⟩;obtain⟨u,hu⟩:∃u,Qm.check m=u:=⟨_,rfl⟩;have HV:=L_ hv;have HU:=L_ hu
 have H1:∀w',Below w w w'→Calls prog 196 #[.slice A n c] w' fun e w''=>e=.returned (.int .i64 v)∧w'=w'':=by
  intro w' hb;rw[←hv];exact jf A n c _ l w' (hr.below hb) (by omega)
 have H2:∀w',Below w w w'→Calls prog 196 #[.slice A' n' c'] w' fun e w''=>e=.returned (.int .i64 u)∧w'=w'':=by
  intro w' hb;rw[←hu];exact jf A' n' c' _ m w' (hr'.below hb) (by omega)
 have H3:Qm.check l=0→∀w',Below w w w'→Calls prog 221 #[.slice A n c] w' fun e w''=>e=.returned (.int .u64 (Qm.eu 0 l:Nat))∧w'=w'':=fun h0 w' hb=>tT A n c _ l w' (hr.below hb) (by have h6:=dz h0;have:=hr.jw;omega);have H4:Qm.check m=0→∀w',Below w w w'→Calls prog 221 #[.slice A' n' c'] w' fun e w''=>e=.returned (.int .u64 (Qm.eu 0 m:Nat))∧w'=w'':=fun h0 w' hb=>tT A' n' c' _ m w' (hr'.below hb) (by have h6:=dz h0;have:=hr'.jw;omega);have H1:=L_ H1;have H2:=L_ H2;have H3:=L_ H3;have H4:=L_ H4;have B0:Hid (∀t,Below w w (w.alloc (.cells #[.slice A n c,.slice A' n' c'] t))):=L_ fun t=>(aaO _ _).alloc (Zh _) _;clear hr hr' hv hu
 go_enter func151,ntmps151
 go_wp2_with fail;refine(H1 _ (B0 _)).mono ?_;rintro e w' ⟨rfl,rfl⟩
 by_cases hv:v=0
 ·go_wp2_with fail;refine(H2 _ (B0 _)).mono ?_;rintro e w' ⟨rfl,rfl⟩
  by_cases hu:u=0
  ·subst hv hu;have hw:=EO (l:=l) (dz HU).1;have hand:=IW ⟨_,Qm.mP m 0 (by omega)⟩ ⟨_,Qm.mP l 0 (by omega)⟩;simp only at hand;have H5:Hid (∀w',Below w w w'→Calls prog 221 #[.slice A n c] w' fun e w''=>e=.returned (.int .u64 (Qm.eu 0 l:Nat))∧w''=w'):=L_ fun w' hb=>(H3 HV w' hb).mono fun _ _ h=>⟨h.1,h.2.symm⟩;have H6:Hid (∀w',Below w w w'→Calls prog 221 #[.slice A' n' c'] w' fun e w''=>e=.returned (.int .u64 (Qm.eu 0 m:Nat))∧w''=w'):=L_ fun w' hb=>(H4 HU w' hb).mono fun _ _ h=>⟨h.1,h.2.symm⟩;obtain⟨x,hx⟩:∃x,Qm.eu 0 l=x:=⟨_,rfl⟩;obtain⟨y,hy⟩:∃y,Qm.eu 0 m=y:=⟨_,rfl⟩;rw[hx] at H5 hw hand;rw[hy] at H6 hw hand;clear hx hy H3 H4 H1 H2;have HW:=L_ hw;have HAND:=L_ hand;clear hw hand;go_wp2_with fail;have c0:(w.alloc (.cells #[.slice A n c,.slice A' n' c'] 53)).cell? ⟨w,0,none⟩=some (.slice A n c):=(aF.new _ _ _).cell 0;have c1:(w.alloc (.cells #[.slice A n c,.slice A' n' c'] 53)).cell? ⟨w,1,none⟩=some (.slice A' n' c'):=(aF.new _ _ _).cell 1
   go_quiet (first
    |(with_reducible refine Calls.quiet_of_same (H6.out _ (below_drewN (B0.out _) _)))
    |(with_reducible refine Calls.quiet_of_same (H5.out _ (below_drewN (B0.out _) _))))
   have hw:=HW.out;have hand:=HAND.out;cases hwi:within m l with
   |true=>
    rw[hwi] at hw;have hz:((y &&& (63 ^^^ x):Nat):Int)=0:=by rw[aae hw];rfl
    rw[hz] at hand;have hcg:cB l m=0:=by unfold cB;rw[aaS HV.out,aaS HU.out,aaS hwi]
    clear hw hwi hz;go_wp2;go_ret;rw[hcg];exact⟨rfl,below_drewN (B0 _) _⟩
   |false=>
    rw[hwi] at hw
    have hz:((y &&& (63 ^^^ x):Nat):Int)≠0:=by
     have:=of_decide_eq_false hw;omega
    rw[←hand] at hz;have hcg:cB l m=60:=by unfold cB;rw[aaS HV.out,aaS HU.out,aaR (by rw[hwi];decide)]
    clear hw hwi hand;go_wp2;go_ret;rw[hcg];exact⟨rfl,below_drewN (B0 _) _⟩
  ·have hcg:cB l m=u:=by unfold cB;rw[aaS (by rw[HV.out];exact hv),aaR (by rw[HU.out];exact hu),HU.out]
   go_wp2;go_ret;rw[hcg];exact⟨rfl,B0 _⟩
 ·have hcg:cB l m=v:=by unfold cB;rw[aaR (by rw[HV.out];exact hv),HV.out]
  go_wp2;go_ret;rw[hcg];exact⟨rfl,B0 _⟩
theorem Q0 (n:Int)(w:World)(h0:0≤n)(h1:n≤1099511627776) :
  Calls prog 128 #[n] w fun e w'=>∃A c,e=.returned (.tuple #[.slice A (Nm.enc n.toNat).length c,.int .i64 0])∧w'.ownsRow w 5 1 (.slice A (Nm.enc n.toNat).length c) (Nm.enc n.toNat).length (cb (Nm.enc n.toNat))∧Below w w w':=by
 go_enter func128,ntmps128
 go_wp2_with (first|(go_at_call 198;refine(BD _ _ h0 h1).mono ?_;rintro e w' ⟨rfl,rfl⟩)|(go_at_call 199;refine(wZ w _ 0 [] n w (aaU _ _ _ _) (by omega) h0 (by omega) (Zh _)).mono ?_;rintro e w' ⟨v',rfl,h2,h3⟩));have HO:=L_ h2;have HG:=L_ h3;clear h2 h3
 go_ret2
 have h2:=HO.out;rw[aah,aay] at h2;obtain⟨A,c,rfl,hr,_,_⟩:=bH h2;exact⟨A,c,rfl,h2,HG.below (Zh _) (by simp[Value.ownBlock])⟩
theorem uq (n:Int)(l:List UInt8)(k:Nat)(w:World)(h0:0≤n)(h1:n≤1099511627776)(hl:Nm.enc n.toNat=l)(hk:l.length=k) :
  Calls prog 128 #[n] w fun e w'=>∃A c,e=.returned (.tuple #[.slice A k c,.int .i64 0])∧w'.ownsRow w 5 1 (.slice A k c) k (cb l)∧Below w w w':=by
 subst hk hl;exact Q0 n w h0 h1
variable{v':Value}{w2:World}
def Keeps (w w':World):Prop:=∀(g:Nat) (t:TypeId) (cs:Array Value),t≠5→t≠46→aF w g t cs→aF w' g t cs
theorem Keeps.refl (w:World):Keeps w w:=fun _ _ _ _ _ h=>h
theorem Keeps.trans {a b c:World}(h:Keeps a b)(k:Keeps b c):Keeps a c:=fun g t cs h1 h2 hb=>k g t cs h1 h2 (h g t cs h1 h2 hb)
theorem Keeps.after {w w1:World}(h:Below w w w1)(k:Keeps w1 w2):Keeps w w2:=fun g t cs t1 t2 hb=>k g t cs t1 t2 (hb.below h hb.lt)
def wW (w0:World)(gm gb:Nat)(D:HC)(l:List UInt8)(w:World):Prop:=
 ∃v,aF w gb 46 #[v]∧w.ownsRow w0 5 1 v l.length (cb l)∧aF w gm 37 #[.int .u8 D.k,D.mi,.slice D.GA D.Gn D.Gc,D.mt,D.key,D.body,D.i,D.tm,.slice D.MA D.Mn D.Mc,D.tp,D.who,D.n]∧bK w w0 D∧Below w0 w0 w∧w0.heap.size≤gb
section
variable{w0 w w' w1:World}{gm gb:Nat}{D:HC}{l x:List UInt8}
theorem wW.below (h:wW w0 gm gb D l w)(hb:Below w w w'):wW w0 gm gb D l w':=by
 obtain⟨v,h1,h2,h4,hd,h5,h6⟩:=h;exact⟨v,h1.below hb h1.lt,jB h2 hb,h4.below hb h4.lt,hd.below (hb.mono h5.size),h5.trans (hb.mono h5.size),h6⟩
theorem wW.box (h:wW w0 gm gb D l w):aF w gm 37 #[.int .u8 D.k,D.mi,.slice D.GA D.Gn D.Gc,D.mt,D.key,D.body,D.i,D.tm,.slice D.MA D.Mn D.Mc,D.tp,D.who,D.n]:=by obtain⟨v,h1,h2,h4,hd,h5,h6⟩:=h;exact h4
theorem wW.aD (h:wW w0 gm gb D l w):Below w0 w0 w:=by obtain⟨v,h1,h2,h4,hd,h5,h6⟩:=h;exact h5
theorem wW.cmd (h:wW w0 gm gb D l w):bK w w0 D:=by obtain⟨v,h1,h2,h4,hd,h5,h6⟩:=h;exact hd
theorem wW.add (h1:aF w gb 46 #[v])(h2:w.ownsRow w0 5 1 v l.length (cb l))
  (h4:aF w gm 37 #[.int .u8 D.k,D.mi,.slice D.GA D.Gn D.Gc,D.mt,D.key,D.body,D.i,D.tm,.slice D.MA D.Mn D.Mc,D.tp,D.who,D.n]) (hd:bK w w0 D) (h5:Below w0 w0 w) (h6:w0.heap.size≤gb) (hx:x.length=m)
  (o:w1.ownsRow w0 5 1 v' (l.length+m) (cb (l++x))) (hg:dX w w1 v v'):wW w0 gm gb D (l++x) (w1.setCell ⟨gb,0,none⟩ v')∧Keeps w (w1.setCell ⟨gb,0,none⟩ v'):=by
 have k1:=h1.grown hg.1 (Ne.symm (aQ h2 h1 (by decide)));have k4:=h4.grown hg.1 (Ne.symm (aQ h2 h4 (by decide)));have n14:gm≠gb:=k4.TQ k1 (by decide);have q1:aF (w1.setCell ⟨gb,0,none⟩ v') gb 46 #[v']:=by simpa using k1.aM 0 v'
 have b1:Below w0 w w1:=hg.below h5.size fun k hk=>(h2.lt k hk).1;have b2:Below w0 w (w1.setCell ⟨gb,0,none⟩ v'):=b1.setCell h6 _;refine⟨⟨v',q1,?_,k4.far n14 v',hd.below b2,h5.trans b2,h6⟩,?_⟩
 ·rw[Zn,hx];exact ownsRow_setCell_other o (a:=⟨gb,0,none⟩) (aQ o k1 (by decide)) v'
 ·intro g t cs t1 t2 hb;have hb1:=hb.grown hg.1 (Ne.symm (aQ h2 hb (Ne.symm t1)));exact hb1.far (hb1.TQ k1 t2) v'
end
theorem Oo (w0:World)(gm gb:Nat)(D:HC)(l:List UInt8)(gx:Nat)(cs:Array Value)(xs:List Int)(n:Nat)(w:World)(h:wW w0 gm gb D l w)(hx:aF w gx 3 cs)(hc:cs.toList=ci xs)(hn:xs.length=n)
  (hi:∀x∈xs,Nm.jO x=true) (hl:l.length≤100000) (hn2:n≤100) :
  Calls prog 127 #[.slice (some ⟨gx,0,none⟩) n n,gb] w fun e w'=>e=()∧wW w0 gm gb D (l++Nm.many xs) w'∧Keeps w w':=by
 have H:=L_ h;have HX:=L_ hx;have HC:=L_ hc;have HN:=L_ hn;have HI:=L_ hi;clear h hx hc hn hi
 go_enter func127,ntmps127
 go_wp2_with fail
 go_loopw [9] (fun y wr=>∃k:Nat,y=(k:Int)∧k≤n∧wW w0 gm gb D (l++Nm.many (xs.take k)) wr∧Keeps w wr) (fun y _=>n - (intOf y).toNat)
 case atStart=>exact⟨0,rfl,Zq _,by simpa[Nm.many] using H.out,Keeps.refl w⟩
 case round=>
  obtain⟨k,rfl,hk,hs,hkp⟩:=hrel;have HS:=L_ hs;have HKP:=L_ hkp;clear hs hkp H
  by_cases hlt:k<n
  ·have hkl:k<xs.length:=by rw[HN.out];exact hlt
   obtain⟨z,hz⟩:∃z,xs[k]'hkl=z:=⟨_,rfl⟩;have hg:xs[k]?=some z:=by rw[←hz];exact Zl hkl
   have hzi:=Nm.ku (HI z (Zk hg));have HG:=L_ hg;have hb1:=HKP gx 3 cs (by decide) (by decide) HX
   have hcc:wr.cell? ⟨gx,k,none⟩=some (.int .i64 z):=by
    have e:=hb1.cell k;rw[←Array.getElem?_toList,HC.out,lZ,hg] at e;exact e
   have hlen:(l++Nm.many (xs.take k)).length≤200000:=by
    have:=Nm.oK (xs.take k) (fun x hx=>HI x (aaE hx));rw[Zn];rw[Zw] at this;omega
   obtain⟨z0,z1⟩:=hzi;clear hz hg hb1 hkl;go_wp2_with fail;refine(uq z _ _ wr z0 z1 rfl rfl).mono ?_;rintro e w1 ⟨A,c,rfl,ho,hb⟩;have HB:=L_ hb;have HR:=L_ (Reads.bO ho);have H2:=L_ (HS.below hb);have hex:=Nm.dV (n:=z.toNat) (by omega);clear ho hb hcc;obtain⟨x,hx⟩:∃x,Nm.enc z.toNat=x:=⟨_,rfl⟩;have HXE:=L_ hx;rw[hx] at HR hex ⊢;clear hx;obtain⟨lk,hlk⟩:∃lk,l++Nm.many (xs.take k)=lk:=⟨_,rfl⟩;have HLK:=L_ hlk;rw[hlk] at H2 hlen HS;clear hlk;obtain⟨v,q1,q2,q4,qd,q5,q6⟩:=H2;have cb1:=q1.cell 0;have K1:=L_ q1;have K2:=L_ q2;have K4:=L_ q4;have KD:=L_ qd;have K5:=L_ q5;clear q1 q2 q4 qd q5;go_wp2_with (at_builtin;refine yu rfl (.tmp 18) (.tmp 19) rfl w0.heap.size v lk.length lk rfl K2 w1 A x.length c x rfl HR ?d1 ?d2 ?_)
   case d1=>omega
   case d2=>exact K5.size
   intro v' w2 o hg;obtain⟨A',c',rfl,-,-,-⟩:=bH o;have k1:=K1.grown hg.1 (Ne.symm (aQ K2 K1 (by decide)));have c1:=k1.cell 0;have f1:=k1.frozen 0;have O:=L_ o;have HG2:=L_ hg;clear k1 o hg cb1
   have EN:Hid (l++Nm.many (xs.take (k+1))=lk++x):=by
    rw[Hid,ZP,HG.out,aaz,Nm.wo,Nm.EK,HXE.out,←ZN,HLK.out]
   go_wp2
   go_roundw
   case rel=>
    have:=wW.add K1 K2 K4 KD K5 q6 rfl O HG2;refine⟨k+1,by go_num,by omega,?_,HKP.trans (Keeps.after HB this.2)⟩;rw[EN.out];exact this.1
   case measure=>simp[intOf];omega
  ·have HS2:Hid (wW w0 gm gb D (l++Nm.many xs) wr):=by
    have:=HS.out;rwa[Zz (by have:=HN.out;omega)] at this
   go_wp2
   go_end0
   exact⟨rfl,HS2,HKP⟩
theorem Ll (w0:World)(gm gb:Nat)(D:HC)(l:List UInt8)(A:Option Addr)(n c B:Nat)(xs:List Int)(w:World)(h:wW w0 gm gb D l w)(hr:Reads w B 1 A n (ci xs))(hB:B≤w.heap.size)
  (hi:∀x∈xs,Nm.jO x=true) (hl:l.length≤100000) (hn2:n≤100) :
  Calls prog 129 #[.slice A n c,gb] w fun e w'=>e=()∧wW w0 gm gb D (l++Nm.fq xs) w'∧Keeps w w':=by
 have H:=L_ h;have HL:=L_ hr.jw
 have hxl:(Nm.fq xs).length≤10000:=by
  have:=Nm.oK xs hi;have h2:=Nm.dV (n:=xs.length) (by rw[HL.out];omega);unfold Nm.fq;rw[Zn];have:=HL.out;omega
 have HN:=L_ (L8 A n c xs w (hr.more hB) (by omega) (fun x hx=>by have:=Nm.ku (hi x hx);omega));have hall:xs.all Nm.jO=true:=aam.2 hi;have HALL:=L_ hall;clear h hr hi hall
 go_enter func129,ntmps129
 go_wp2_with fail;refine HN.mono ?_;rintro e w1 hp
 rcases hp with ⟨_,A1,c1,rfl,ho,hb⟩|⟨hx,_⟩
 rotate_left
 ·rw[HALL.out] at hx;cases hx
 have HB:=L_ hb;have HR:=L_ (Reads.bO ho);have H2:=L_ (H.below hb);clear ho hb HN;obtain⟨x,hx⟩:∃x,Nm.fq xs=x:=⟨_,rfl⟩;have HXE:=L_ hx;rw[hx] at HR hxl ⊢;clear hx;obtain⟨v,q1,q2,q4,qd,q5,q6⟩:=H2;have cb1:=q1.cell 0;have K1:=L_ q1;have K2:=L_ q2;have K4:=L_ q4;have KD:=L_ qd;have K5:=L_ q5;clear q1 q2 q4 qd q5;go_wp2_with (at_builtin;refine yu rfl (.tmp 10) (.tmp 11) rfl w0.heap.size v l.length l rfl K2 w1 A1 x.length c1 x rfl HR ?d1 ?d2 ?_)
 case d1=>omega
 case d2=>exact K5.size
 intro v' w2 o hg;obtain⟨A',c',rfl,-,-,-⟩:=bH o;have k1:=K1.grown hg.1 (Ne.symm (aQ K2 K1 (by decide)));have c1':=k1.cell 0;have f1:=k1.frozen 0;have O:=L_ o;have HG:=L_ hg;clear k1 o hg cb1;go_wp2
 go_end0
 have:=wW.add K1 K2 K4 KD K5 q6 rfl O HG;rw[HXE.out];exact⟨rfl,this.1,Keeps.after HB this.2⟩
theorem Qg (w0:World)(gm gb:Nat)(D:HC)(l:List UInt8)(s:ByteArray)(w:World)(h:wW w0 gm gb D l w)(hs:s.size≤100)(hl:l.length≤100000) :
  Calls prog 131 #[s,gb] w fun e w'=>e=()∧wW w0 gm gb D (l++Nm.txt s.data.toList) w'∧Keeps w w':=by
 have H:=L_ h;obtain⟨x,hx⟩:∃x,Nm.txt s.data.toList=x:=⟨_,rfl⟩
 have hxl:x.length≤10000:=by
  have h2:=Nm.dV (n:=s.data.toList.length) (by rw[size_data];omega);rw[←hx];unfold Nm.txt;rw[Zn];have:=size_data s;omega
 have HX:=L_ hx;rw[hx];clear h hx
 go_enter func131,ntmps131
 go_wp2_with fail;refine(uy s x x.length w (by omega) HX rfl).mono ?_;rintro e w1 ⟨A1,c1,rfl,ho,hb⟩;have HB:=L_ hb;have HR:=L_ (Reads.bO ho);have H2:=L_ (H.below hb);clear ho hb;obtain⟨v,q1,q2,q4,qd,q5,q6⟩:=H2;have cb1:=q1.cell 0;have K1:=L_ q1;have K2:=L_ q2;have K4:=L_ q4;have KD:=L_ qd;have K5:=L_ q5;clear q1 q2 q4 qd q5;go_wp2_with (at_builtin;refine yu rfl (.tmp 10) (.tmp 11) rfl w0.heap.size v l.length l rfl K2 w1 A1 x.length c1 x rfl HR ?d1 ?d2 ?_)
 case d1=>omega
 case d2=>exact K5.size
 intro v' w2 o hg;obtain⟨A',c',rfl,-,-,-⟩:=bH o;have k1:=K1.grown hg.1 (Ne.symm (aQ K2 K1 (by decide)));have c1':=k1.cell 0;have f1:=k1.frozen 0;have O:=L_ o;have HG:=L_ hg;clear k1 o hg cb1;go_wp2
 go_end0
 have:=wW.add K1 K2 K4 KD K5 q6 rfl O HG;exact⟨rfl,this.1,Keeps.after HB this.2⟩
end Go.Proofs.YtaebfkcgdmodlaaGreatDoor
