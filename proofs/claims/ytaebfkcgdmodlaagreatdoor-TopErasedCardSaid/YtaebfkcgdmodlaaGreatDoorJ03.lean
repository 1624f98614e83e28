/-
  A part of the proof that the erased node of towncrier reads nothing (TopErased).
-/
import Derived.Test.YtaebfkcgdmodlaaGreatDoorJ02
namespace Go.Proofs.YtaebfkcgdmodlaaGreatDoor
open Go.RowKit Go.Proofs.Tryz
set_option maxHeartbeats 16000000
set_option maxRecDepth 100000
set_option linter.unusedVariables false
set_option linter.unusedSimpArgs false
variable{a:Act}{listed:Array Bool}{ri:List Oper}{i:Nat}{oi:Oper}{w:World}
section
variable{P:Program}{md:Region.Mode}{ops:Array Oper}{Q:Exit→Act→World→Prop}{S:World→Prop}{n:Nat}{L:Array Bool→Act→World→Prop}
theorem rM {f:Nat}(hi:ops.toList.drop i=oi::ri)(hB:qN md ops n i listed=true)
  (h:wpList P ops (Qn Q (fun a' w'=>S w'∧av P md ops Q S n L f (listed.setIfInBounds i true) a' w')) [oi] a w):av P md ops Q S n L (f+1) listed a w:=qW (aL hi) hB h
end
def bZ (a b:Int):Int:=if a<b then -1 else if b<a then 1 else 0
theorem ji (a b:Int)(w:World):Calls prog 247 #[a,b] w fun e w'=>e=.returned ((bZ a b))∧w=w':=by
 have hN:=L_ fun(a:Int) (w:World)=>show Calls prog 295 #[a] w fun e w'=>e=.returned false∧w=w' by
  go_enter func295,ntmps295
  go_wp2;go_ret;exact⟨by simp,by trivial⟩
 rcases Int.lt_trichotomy a b with h|h|h
 ·have e:bZ a b=-1:=by rw[bZ,aaS h]
  have HE:=L_ e;clear e
  go_enter func247,ntmps247
  go_wp2_with (first|(go_at_call 295;refine(hN _ _).mono ?_;rintro e w' ⟨rfl,rfl⟩));go_ret;rw[HE.out];exact⟨rfl,by trivial⟩
 ·subst h;have e:bZ a a=0:=by rw[bZ,aaR (by omega),aaR (by omega)]
  have HE:=L_ e;clear e
  go_enter func247,ntmps247
  go_wp2_with (first|(go_at_call 295;refine(hN _ _).mono ?_;rintro e w' ⟨rfl,rfl⟩));go_ret;rw[HE.out];exact⟨rfl,by trivial⟩
 ·have e:bZ a b=1:=by rw[bZ,aaR (by omega),aaS h]
  have h2:¬a<b:=by omega
  have HE:=L_ e;clear e
  go_enter func247,ntmps247
  go_wp2_with (first|(go_at_call 295;refine(hN _ _).mono ?_;rintro e w' ⟨rfl,rfl⟩));go_ret;rw[HE.out];exact⟨rfl,by trivial⟩
def uF (a b:Int):Int:=if a≠0 then a else b
theorem Dy (a b:Int)(g:Nat)(w:World)(h0:w.cell? ⟨g,0,none⟩=some (.int .i64 a))(h1:w.cell? ⟨g,1,none⟩=some (.int .i64 b)) :
  Calls prog 246 #[.slice (some ⟨g,0,none⟩) 2 2] w fun e w'=>e=.returned ((uF a b))∧w=w':=by
 have H0:=L_ h0;have H1:=L_ h1;clear h0 h1;have HO:Hid (∀a b,a≠0→uF a b=a):=L_ fun a b h=>by rw[uF,aaS h]
 have HP:Hid (∀b,uF 0 b=b):=L_ fun b=>by rw[uF,aaR (by omega)]
 go_enter func246,ntmps246
 go_wp2
 go_loopw [8] (fun y wr=>(∃k:Nat,y=(k:Int)∧k≤2∧(1≤k→a=0)∧(2≤k→b=0))∧wr=w) (fun y _=>2 - (intOf y).toNat)
 case atStart=>exact⟨⟨0,rfl,by omega,by omega,by omega⟩,rfl⟩
 case round=>
  obtain⟨⟨k,rfl,hk,ha,hb⟩,rfl⟩:=hrel
  by_cases k0:k=0
  ·subst k0;clear ha hb;have c0:=H0.out
   by_cases hz:a=0
   ·subst hz;go_wp2
    go_roundw
    case rel=>exact⟨⟨1,rfl,by omega,by simp,by omega⟩,by trivial⟩
    case measure=>simp[intOf]
   ·have hq:(a==0)=false:=ZX.2 hz;have HE:=L_ (HO a b hz);go_wp2;go_ret;rw[HE.out];exact⟨rfl,by trivial⟩
  by_cases k1:k=1
  ·subst k1;obtain rfl:=ha (by omega);clear hb;have c1:=H1.out
   by_cases hz:b=0
   ·subst hz;go_wp2
    go_roundw
    case rel=>exact⟨⟨2,rfl,by omega,by simp,by simp⟩,by trivial⟩
    case measure=>simp[intOf]
   ·have hq:(b==0)=false:=ZX.2 hz;have HE:=L_ (HP b);go_wp2;go_ret;rw[HE.out];exact⟨rfl,by trivial⟩
  ·obtain rfl:k=2:=by omega
   obtain rfl:=ha (by omega);obtain rfl:=hb (by omega);have HE:=L_ (HP 0);clear ha hb;go_wp2;go_ret;rw[HE.out];exact⟨rfl,by trivial⟩
theorem rC (x y:lT)(w:World):Calls prog 178 #[x,y] w fun e w'=>e=.returned (.int .i64 (uF (bZ x.g y.g) (bZ x.s y.s)))∧Below w w w':=by
 have KX:Hid (aF ((w.alloc (.cells x 211)).alloc (.cells y 211)) w 211 x):=L_ ((aF.new _ _ _).alloc _);have KY:Hid (aF ((w.alloc (.cells x 211)).alloc (.cells y 211)) (w.heap.size+1) 211 y):=L_ (by have h:=aF.new (w.alloc (.cells x 211)) 211 y;simpa using h);have B2:Hid (Below w w ((w.alloc (.cells x 211)).alloc (.cells y 211))):=L_ (((aaO _ _).alloc (Zh _) _).alloc (by simp) _)
 go_enter func178,ntmps178
 go_upto_region 1 with fail
 generalize (w.alloc (.cells x 211)).alloc (.cells y 211)=w0 at *;have HS:Hid (w0.drew.cell? ⟨w,0,none⟩=some (.int .i64 x.g)∧w0.drew.cell? ⟨w,1,none⟩=some (.int .i64 x.s)∧w0.drew.cell? ⟨w.heap.size+1,0,none⟩=some (.int .i64 y.g)∧w0.drew.cell? ⟨w.heap.size+1,1,none⟩=some (.int .i64 y.s)):=⟨KX.cell 0,KX.cell 1,KY.cell 0,KY.cell 1⟩;refine eH 10 (fun w'=>w'.cell? ⟨w,0,none⟩=some (.int .i64 x.g)∧w'.cell? ⟨w,1,none⟩=some (.int .i64 x.s)∧w'.cell? ⟨w.heap.size+1,0,none⟩=some (.int .i64 y.g)∧w'.cell? ⟨w.heap.size+1,1,none⟩=some (.int .i64 y.s)) (by kernel_rfl) (by kernel_rfl) ?_;refine d9 0 HS (h:=d9 1 HS (h:=d9 2 HS (h:=d9 3 HS (h:=?_))));try simp only[Act.put,aaI,aaJ,aaK]
 refine d9 5 HS (h:=d9 6 HS (h:=d9 7 HS (h:=d9 8 HS (h:=?_))));try simp only[Act.put,aaI,aaJ,aaK]
 have BW:=L_ B2.drew;generalize w0.drew=W at *;refine rM (i:=4) rfl (by kernel_rfl) ?_;go_wp2_with (first|(go_at_call 247;refine(ji _ _ _).mono ?_;rintro e w' ⟨rfl,rfl⟩));simp only[Qn];refine⟨HS,?_⟩;refine rM (i:=9) rfl (by kernel_rfl) ?_;go_wp2_with (first|(go_at_call 247;refine(ji _ _ _).mono ?_;rintro e w' ⟨rfl,rfl⟩));simp only[Qn];refine⟨HS,?_⟩;refine lH (by kernel_rfl) ?_;have BN:=L_ (BW.alloc BW.size (.cells #[(bZ x.g y.g),(bZ x.s y.s)] 3));have KN:=L_ (aF.new W 3 #[(bZ x.g y.g),(bZ x.s y.s)]);clear HS;go_wp2_with (first|(go_at_call 246;refine(Dy _ _ _ _ (KN.cell 0) (KN.cell 1)).mono ?_;rintro e w' ⟨rfl,rfl⟩));go_ret;exact⟨by first|rfl|simp,BN⟩
theorem rJ (x y:mM)(w:World):Calls prog 167 #[x,y] w fun e w'=>e=.returned (.int .i64 (uF (bZ x.i y.i) (bZ x.g y.g)))∧Below w w w':=by
 have KX:Hid (aF ((w.alloc (.cells x 296)).alloc (.cells y 296)) w 296 x):=L_ ((aF.new _ _ _).alloc _);have KY:Hid (aF ((w.alloc (.cells x 296)).alloc (.cells y 296)) (w.heap.size+1) 296 y):=L_ (by have h:=aF.new (w.alloc (.cells x 296)) 296 y;simpa using h);have B2:Hid (Below w w ((w.alloc (.cells x 296)).alloc (.cells y 296))):=L_ (((aaO _ _).alloc (Zh _) _).alloc (by simp) _)
 go_enter func167,ntmps167
 go_upto_region 1 with fail
 generalize (w.alloc (.cells x 296)).alloc (.cells y 296)=w0 at *;have HS:Hid (w0.drew.cell? ⟨w,0,none⟩=some (.int .i64 x.i)∧w0.drew.cell? ⟨w,1,none⟩=some (.int .i64 x.g)∧w0.drew.cell? ⟨w.heap.size+1,0,none⟩=some (.int .i64 y.i)∧w0.drew.cell? ⟨w.heap.size+1,1,none⟩=some (.int .i64 y.g)):=⟨KX.cell 0,KX.cell 1,KY.cell 0,KY.cell 1⟩;refine eH 10 (fun w'=>w'.cell? ⟨w,0,none⟩=some (.int .i64 x.i)∧w'.cell? ⟨w,1,none⟩=some (.int .i64 x.g)∧w'.cell? ⟨w.heap.size+1,0,none⟩=some (.int .i64 y.i)∧w'.cell? ⟨w.heap.size+1,1,none⟩=some (.int .i64 y.g)) (by kernel_rfl) (by kernel_rfl) ?_;refine d9 0 HS (h:=d9 1 HS (h:=d9 2 HS (h:=d9 3 HS (h:=?_))));try simp only[Act.put,aaI,aaJ,aaK]
 refine d9 5 HS (h:=d9 6 HS (h:=d9 7 HS (h:=d9 8 HS (h:=?_))));try simp only[Act.put,aaI,aaJ,aaK]
 have BW:=L_ B2.drew;generalize w0.drew=W at *;refine rM (i:=4) rfl (by kernel_rfl) ?_;go_wp2_with (first|(go_at_call 247;refine(ji _ _ _).mono ?_;rintro e w' ⟨rfl,rfl⟩));simp only[Qn];refine⟨HS,?_⟩;refine rM (i:=9) rfl (by kernel_rfl) ?_;go_wp2_with (first|(go_at_call 247;refine(ji _ _ _).mono ?_;rintro e w' ⟨rfl,rfl⟩));simp only[Qn];refine⟨HS,?_⟩;refine lH (by kernel_rfl) ?_;have BN:=L_ (BW.alloc BW.size (.cells #[(bZ x.i y.i),(bZ x.g y.g)] 3));have KN:=L_ (aF.new W 3 #[(bZ x.i y.i),(bZ x.g y.g)]);clear HS;go_wp2_with (first|(go_at_call 246;refine(Dy _ _ _ _ (KN.cell 0) (KN.cell 1)).mono ?_;rintro e w' ⟨rfl,rfl⟩));go_ret;exact⟨by first|rfl|simp,BN⟩
theorem tV (x y:zx)(w:World):Calls prog 211 #[x,y] w fun e w'=>e=.returned (.bool (decide (uF (bZ x.t y.t) (bZ x.i y.i)<0)))∧Below w w w':=by
 have KX:Hid (aF ((w.alloc (.cells x 290)).alloc (.cells y 290)) w 290 x):=L_ ((aF.new _ _ _).alloc _);have KY:Hid (aF ((w.alloc (.cells x 290)).alloc (.cells y 290)) (w.heap.size+1) 290 y):=L_ (by have h:=aF.new (w.alloc (.cells x 290)) 290 y;simpa using h);have B2:Hid (Below w w ((w.alloc (.cells x 290)).alloc (.cells y 290))):=L_ (((aaO _ _).alloc (Zh _) _).alloc (by simp) _)
 go_enter func211,ntmps211
 go_upto_region 1 with fail
 generalize (w.alloc (.cells x 290)).alloc (.cells y 290)=w0 at *;have HS:Hid (w0.drew.cell? ⟨w,0,none⟩=some (.int .i64 x.t)∧w0.drew.cell? ⟨w,1,none⟩=some (.int .i64 x.i)∧w0.drew.cell? ⟨w.heap.size+1,0,none⟩=some (.int .i64 y.t)∧w0.drew.cell? ⟨w.heap.size+1,1,none⟩=some (.int .i64 y.i)):=⟨KX.cell 0,KX.cell 1,KY.cell 0,KY.cell 1⟩;refine eH 10 (fun w'=>w'.cell? ⟨w,0,none⟩=some (.int .i64 x.t)∧w'.cell? ⟨w,1,none⟩=some (.int .i64 x.i)∧w'.cell? ⟨w.heap.size+1,0,none⟩=some (.int .i64 y.t)∧w'.cell? ⟨w.heap.size+1,1,none⟩=some (.int .i64 y.i)) (by kernel_rfl) (by kernel_rfl) ?_;refine d9 0 HS (h:=d9 1 HS (h:=d9 2 HS (h:=d9 3 HS (h:=?_))));try simp only[Act.put,aaI,aaJ,aaK]
 refine d9 5 HS (h:=d9 6 HS (h:=d9 7 HS (h:=d9 8 HS (h:=?_))));try simp only[Act.put,aaI,aaJ,aaK]
 have BW:=L_ B2.drew;generalize w0.drew=W at *;refine rM (i:=4) rfl (by kernel_rfl) ?_;go_wp2_with (first|(go_at_call 247;refine(ji _ _ _).mono ?_;rintro e w' ⟨rfl,rfl⟩));simp only[Qn];refine⟨HS,?_⟩;refine rM (i:=9) rfl (by kernel_rfl) ?_;go_wp2_with (first|(go_at_call 247;refine(ji _ _ _).mono ?_;rintro e w' ⟨rfl,rfl⟩));simp only[Qn];refine⟨HS,?_⟩;refine lH (by kernel_rfl) ?_;have BN:=L_ (BW.alloc BW.size (.cells #[(bZ x.t y.t),(bZ x.i y.i)] 3));have KN:=L_ (aF.new W 3 #[(bZ x.t y.t),(bZ x.i y.i)]);clear HS;go_wp2_with (first|(go_at_call 246;refine(Dy _ _ _ _ (KN.cell 0) (KN.cell 1)).mono ?_;rintro e w' ⟨rfl,rfl⟩));go_ret;exact⟨by first|rfl|simp,BN⟩
theorem Ca (i:Nat){c:Code}{K:Exit→Act→World→Prop}{f:Bool→Act}{v:Bool}(h:∀T,Hid (v=T)→c.wp prog K (f T) w)(hv:a.tmps[i]?=some (.bool v):=by rfl)(hf:∀u,a.put (some i) (.bool u)=f u:=by intro u;first|(simp only[Act.put,aaI,aaJ,aaK]<;>rfl)|rfl):c.wp prog K a w:=by
 have e:a.put (some i) v=a:=by
  obtain⟨ts,ds⟩:=a
  have e:ts.setIfInBounds i v=ts:=by
   refine Array.ext_getElem? fun j=>?_;rw[Array.getElem?_setIfInBounds]
   split
   ·rename_i e
    subst e
    split
    ·exact hv.symm
    ·rename_i h2
     exact(Array.getElem?_eq_none (by omega)).symm
   ·rfl
  exact congrArg (fun t=>(⟨t,ds⟩:Act)) e
 have h2:=h v (L_ rfl);rw[←hf v,e] at h2;exact h2
variable{bx:List Bx}{b:Nat}{w0:World}
theorem GD {is:List It}(E:Env b w0 bx is w)(l:List Nat){P Q:Prop}(q:Q)(h:Env b w0 bx is w→Stp l P Q:=by
 intro E
 repeat first
  |exact Stp.z
  |exact Stp.e9 E
  |(apply Stp.c (n:=32);(intro h;refine ni E ?_;exact h))
  |(apply Stp.c (n:=0);(intro h;refine fV ?_;exact h))
  |(apply Stp.c (n:=4);(intro h;refine aC ?_;exact h))
  |(apply Stp.c (n:=5);(intro h;refine bN ?_;exact h))
  |(apply Stp.c (n:=40);(intro h;refine mU 0 E ?_;exact h))
  |(apply Stp.c (n:=41);(intro h;refine mU 1 E ?_;exact h))
  |(apply Stp.c (n:=42);(intro h;refine mU 2 E ?_;exact h))
  |(apply Stp.c (n:=35);(intro h;(iterate 5 refine ni E ?_);exact h))
  |(apply Stp.c (n:=36);(intro h;(iterate 5 refine Y0 E ?_);exact h))
  |(apply Stp.c (n:=33);(intro h;refine Y0 E ?_;exact h))
  |(apply Stp.c (n:=34);(intro h;refine YQ E ?_;exact h))
  |(apply Stp.c (n:=50);(intro h;refine Ee 0 E ?_;exact h))
  |(apply Stp.c (n:=51);(intro h;refine Ee 1 E ?_;exact h))
  |(apply Stp.c (n:=52);(intro h;refine Ee 2 E ?_;exact h))
  |(apply Stp.c (n:=53);(intro h;refine Ee 3 E ?_;exact h))
  |(apply Stp.c (n:=54);(intro h;refine Ee 4 E ?_;exact h))
  |(apply Stp.c (n:=55);(intro h;refine Ee 5 E ?_;exact h))
  |(apply Stp.c (n:=2);(intro h;(first|refine GK ?_|refine fV ?_);exact h))
  |(apply Stp.c (n:=3);(intro h;refine zO ?_;exact h))
  |(apply Stp.c (n:=1);(intro h;refine GK ?_;exact h))
  |(apply Stp.c (n:=6);(intro h;refine wp_seq ?_;exact h))
  |(apply Stp.c (n:=7);(intro h;refine Qs ?_;exact h))
  |(apply Stp.c (n:=8);(intro h;refine VX ?_;exact h))
  |(apply Stp.c (n:=15);(intro h;refine WU ?_;exact h))
  |(apply Stp.c (n:=16);(intro h;refine YK ?_;exact h))
  |(apply Stp.c (n:=17);(intro h;refine YN ?_;exact h))
  |(apply Stp.c (n:=18);(intro h;refine lK ?_;exact h))
  |(apply Stp.c (n:=19);(intro h;refine wp_block ?_;exact h))
  |(apply Stp.c (n:=20);(intro h;refine ET ?_;exact h))
  |(apply Stp.c (n:=21);(intro h;refine GY ?_;exact h))
  |(apply Stp.c (n:=22);(intro h;refine wp_ret ?_;exact h))
  |(apply Stp.c (n:=23);(intro h;refine JN ?_;exact h))
  |(apply Stp.c (n:=24);(intro h;simp only[Exit.then,Exit.inBlock];exact h))
  |(apply Stp.c (n:=25);(intro h;refine jI ?_;exact h))
  |(apply Stp.c (n:=26);(intro h;refine⟨_,rfl,zO ?_⟩;exact h))
  |(apply Stp.c (n:=27);(intro h;refine wp_exit ?_;exact h))
  |(apply Stp.c (n:=28);(intro h;simp only[Exit.then,Exit.inBlock,if_true];exact h))
  |(apply Stp.c (n:=29);(intro h;refine ow ?_;exact h))
  |(apply Stp.c (n:=30);(intro h;refine kg ?_;exact h))
  |(apply Stp.c (n:=31);(intro h;refine wp_skip ?_;exact h))
  |(apply Stp.c (n:=80);(intro h;(iterate 5 (first|refine GK ?_|refine fV ?_));exact h))
  |(apply Stp.c (n:=81);(intro h;(iterate 10 (first|refine GK ?_|refine fV ?_));exact h))
  |(apply Stp.c (n:=82);(intro h;(iterate 20 (first|refine GK ?_|refine fV ?_));exact h))
  |(apply Stp.c (n:=83);(intro h;(iterate 5 refine fV ?_);exact h))
  |(apply Stp.c (n:=84);(intro h;(iterate 3 refine fV ?_);exact h))
  |(apply Stp.c (n:=43);(intro h;refine mU 3 E ?_;exact h))
  |(apply Stp.c (n:=44);(intro h;refine mU 4 E ?_;exact h))
  |(apply Stp.c (n:=45);(intro h;refine mU 5 E ?_;exact h))
  |(apply Stp.c (n:=46);(intro h;refine mU 6 E ?_;exact h))
  |(apply Stp.c (n:=47);(intro h;refine mU 7 E ?_;exact h))
  |(apply Stp.e (n:=60);(intro h;refine lQ 0 E ?_;exact h);clear E;intro w E)
  |(apply Stp.e (n:=61);(intro h;refine lQ 1 E ?_;exact h);clear E;intro w E)
  |(apply Stp.e (n:=62);(intro h;refine lQ 2 E ?_;exact h);clear E;intro w E)
  |(apply Stp.e (n:=63);(intro h;refine lQ 3 E ?_;exact h);clear E;intro w E)
  |(apply Stp.e (n:=64);(intro h;refine lQ 4 E ?_;exact h);clear E;intro w E)
  |(apply Stp.e (n:=65);(intro h;refine lQ 5 E ?_;exact h);clear E;intro w E)
  |(apply Stp.e (n:=66);(intro h;refine lQ 6 E ?_;exact h);clear E;intro w E)
  |(apply Stp.e (n:=67);(intro h;refine lQ 7 E ?_;exact h);clear E;intro w E)
  |(apply Stp.n (n:=70);(intro h;refine Er E ?_;exact h);clear E;intro g w E)
  |(apply Stp.n (n:=71);(intro h;refine DT E ?_;exact h);clear E;intro g w E)
  |(apply Stp.n (n:=72);(intro h;refine Uy E ?_;exact h);clear E;intro g w E)):P:=(h E).h q
variable{fn:Func}{F:Nat}{α:Type}
section
open Go.RowKit Go.Sort Go.BigFrame
attribute [local irreducible] wpList av aH
theorem UW (x y:rF):∃b,∀w,(binOp .neq 399 (x) (y)).run prog w=.ok (.bool b) w:=by
 refine⟨!(x.n==y.n&&(x.b==y.b&&x.v.toList==y.v.toList)),fun w=>?_⟩;have h0:prog.stoodInHeld 399=false:=by kernel_rfl
 have h1:prog.underlying 399=some (.struct (prog.fieldsOf 399)):=by kernel_rfl
 rw[run_neq_struct,show(10000:Nat)=9999+1 from rfl,run_equalIn_struct (P:=prog) w 9999 399 _ _ h1 h0];clear h0 h1;have p1:∀(x y:Int) (z:ByteArray) (w:World),(part 3 #[.int .i64 x,.int .i64 y,z] 0).run prog w=.ok (.int .i64 x) w:=fun _ _ _ _=>by kernel_rfl
 have p2:∀(x y:Int) (z:ByteArray) (w:World),(part 3 #[.int .i64 x,.int .i64 y,z] 1).run prog w=.ok (.int .i64 y) w:=fun _ _ _ _=>by kernel_rfl
 have p3:∀(x y:Int) (z:ByteArray) (w:World),(part 9 #[.int .i64 x,.int .i64 y,z] 2).run prog w=.ok z w:=fun _ _ _ _=>by kernel_rfl
 have q1:∀(x y:Int) (w:World),(Op.equalIn 9999 3 (.int .i64 x) (.int .i64 y)).run prog w=.ok (x==y) w:=fun x y w=>run_equalIn_int w 9998 3 .i64 .i64 x y underlying3;have q2:∀(x y:ByteArray) (w:World),(Op.equalIn 9999 9 (.string x) (.string y)).run prog w=.ok (x.toList==y.toList) w:=fun x y w=>run_equalIn_string w 9998 9 x y underlying9;simp only[Program.fieldsOf,underlying399,Op.eqFields];simp only[aaV,p1,p2,p3,q1,q2,aaQ,ne_eq,Sem.run_ite,aaW];cases(x.n==y.n)<;>cases(x.b==y.b)<;>cases(x.v.toList==y.v.toList)<;>simp
theorem VJ (x y:mM):∃b,∀w,(binOp .neq 296 (x) (y)).run prog w=.ok (.bool b) w:=by
 refine⟨!(x.i==y.i&&(x.g==y.g&&x.t==y.t)),fun w=>?_⟩;have h0:prog.stoodInHeld 296=false:=by kernel_rfl
 have h1:prog.underlying 296=some (.struct (prog.fieldsOf 296)):=by kernel_rfl
 rw[run_neq_struct,show(10000:Nat)=9999+1 from rfl,run_equalIn_struct (P:=prog) w 9999 296 _ _ h1 h0];clear h0 h1;have p1:∀(x y z:Int) (w:World),(part 3 #[.int .i64 x,.int .i64 y,z] 0).run prog w=.ok (.int .i64 x) w:=fun _ _ _ _=>by kernel_rfl
 have p2:∀(x y z:Int) (w:World),(part 3 #[.int .i64 x,.int .i64 y,z] 1).run prog w=.ok (.int .i64 y) w:=fun _ _ _ _=>by kernel_rfl
 have p3:∀(x y z:Int) (w:World),(part 3 #[.int .i64 x,.int .i64 y,z] 2).run prog w=.ok z w:=fun _ _ _ _=>by kernel_rfl
 have q1:∀(x y:Int) (w:World),(Op.equalIn 9999 3 (.int .i64 x) (.int .i64 y)).run prog w=.ok (x==y) w:=fun x y w=>run_equalIn_int w 9998 3 .i64 .i64 x y underlying3;simp only[Program.fieldsOf,underlying296,Op.eqFields];simp only[aaV,p1,p2,p3,q1,aaQ,ne_eq,Sem.run_ite,aaW];cases(x.i==y.i)<;>cases(x.g==y.g)<;>cases(x.t==y.t)<;>simp
theorem VA (x y:lT):∃b,∀w,(binOp .neq 211 (x) (y)).run prog w=.ok (.bool b) w:=by
 refine⟨!(x.g==y.g&&(x.s==y.s&&(x.p==y.p&&(x.b==y.b&&x.v.toList==y.v.toList)))),fun w=>?_⟩;have h0:prog.stoodInHeld 211=false:=by kernel_rfl
 have h1:prog.underlying 211=some (.struct (prog.fieldsOf 211)):=by kernel_rfl
 rw[run_neq_struct,show(10000:Nat)=9999+1 from rfl,run_equalIn_struct (P:=prog) w 9999 211 _ _ h1 h0];clear h0 h1;have h0:prog.stoodInHeld 209=false:=by kernel_rfl
 have h1:prog.underlying 209=some (.struct (prog.fieldsOf 209)):=by kernel_rfl
 have r1:∀(a b c d:Int) (z:ByteArray) (w:World),(part 3 #[a,.int .i64 b,c,d,z] 0).run prog w=.ok a w:=fun _ _ _ _ _ _=>by kernel_rfl
 have r2:∀(a b c d:Int) (z:ByteArray) (w:World),(part 3 #[a,.int .i64 b,c,d,z] 1).run prog w=.ok (.int .i64 b) w:=fun _ _ _ _ _ _=>by kernel_rfl
 have r3:∀(a b c d:Int) (z:ByteArray) (w:World),(part 209 #[a,.int .i64 b,c,d,z] 2).run prog w=.ok (.agg #[c,d,z]) w:=fun _ _ _ _ _ _=>by kernel_rfl
 have p1:∀(x y:Int) (z:ByteArray) (w:World),(part 3 #[.int .i64 x,.int .i64 y,z] 0).run prog w=.ok (.int .i64 x) w:=fun _ _ _ _=>by kernel_rfl
 have p2:∀(x y:Int) (z:ByteArray) (w:World),(part 3 #[.int .i64 x,.int .i64 y,z] 1).run prog w=.ok (.int .i64 y) w:=fun _ _ _ _=>by kernel_rfl
 have p3:∀(x y:Int) (z:ByteArray) (w:World),(part 9 #[.int .i64 x,.int .i64 y,z] 2).run prog w=.ok z w:=fun _ _ _ _=>by kernel_rfl
 have q1:∀(x y:Int) (w:World),(Op.equalIn 9999 3 (.int .i64 x) (.int .i64 y)).run prog w=.ok (x==y) w:=fun x y w=>run_equalIn_int w 9998 3 .i64 .i64 x y underlying3;have q3:∀(x y:Int) (w:World),(Op.equalIn 9998 3 (.int .i64 x) (.int .i64 y)).run prog w=.ok (x==y) w:=fun x y w=>run_equalIn_int w 9997 3 .i64 .i64 x y underlying3;have q2:∀(x y:ByteArray) (w:World),(Op.equalIn 9998 9 (.string x) (.string y)).run prog w=.ok (x.toList==y.toList) w:=fun x y w=>run_equalIn_string w 9997 9 x y underlying9
 have s1:∀(a b a' b':Int) (z z':ByteArray) (w:World),(Op.equalIn 9999 209 (.agg #[a,.int .i64 b,z]) (.agg #[a',b',z'])).run prog w=.ok (a==a'&&(b==b'&&z.toList==z'.toList)) w:=by
  intro a b a' b' z z' w;rw[run_equalIn_struct (P:=prog) w 9998 209 _ _ h1 h0];simp only[Program.fieldsOf,underlying209,Op.eqFields];simp only[aaV,p1,p2,p3,q3,q2,aaQ,ne_eq,Sem.run_ite,aaW];cases(a==a')<;>cases(b==b')<;>cases(z.toList==z'.toList)<;>simp
 clear h0 h1;simp only[Program.fieldsOf,underlying211,Op.eqFields];simp only[aaV,r1,r2,r3,q1,s1,aaQ,ne_eq,Sem.run_ite,aaW];cases(x.g==y.g)<;>cases(x.s==y.s)<;>cases(x.p==y.p)<;>cases(x.b==y.b)<;>cases(x.v.toList==y.v.toList)<;>simp
def Ul (α:Type)[aj α](F:Nat):Prop:=∀(s r:Sl α) (w:World) (N:Nat) (h:s.aA w w N) (h2:r.aA w w N) (hN:N≤1000000000),
  Calls prog F #[s,r] w fun e w'=>∃b,e=.returned (.bool b)∧Below w w w'
def Vz {α:Type}(V:α→Value)(T:Nat):Prop:=(∀x y,∃b,∀w,(binOp .neq T (V x) (V y)).run prog w=.ok (.bool b) w)∧prog.eqGuardType prog.depth T=false
theorem NN [aj α](V:α→Value)(T:Nat){n:Nat}(hq:Vz V T)(hF:prog.funcs[F]?=some fn)(hn:fn.ntmps=n)(h:Vz V T→prog.funcs[F]?=some fn→fn.ntmps=n→Ul α F:=by
 intro hneq hF hN s r w N h h2 hn;obtain⟨A,c,l⟩:=s;obtain⟨A',c',l'⟩:=r;have hnl:l.length≤1000000000:=Zt h.2.2.2.1 hn;have hnl2:l'.length≤1000000000:=Zt h2.2.2.2.1 hn;have H:=L_ h;have H2:=L_ h2;have hm:=hneq.2;replace hneq:=L_ hneq.1;clear h h2;have E:=Env.start w
 go_enter hF,hN
 by_cases hne:(l.length:Int)=(l'.length:Int)
 case neg=>
  refine G0 [5,0,4,6,5,83,4,7,5,0,4,22,24] ?_;exact ak ⟨false,rfl,E.aD⟩
 case pos=>
  refine G0 [5,0,4,6,5,83,4,8,15,6] ?_;replace hne:=L_ hne;refine G0 [5,84,4,19] ?_
  go_loopw [13] (fun y wr=>∃k:Nat,y=(k:Int)∧k≤l.length∧Env w w [] [] wr) (fun y _=>l.length - (intOf y).toNat)
  case atStart=>exact⟨0,rfl,Zq _,E⟩
  case round=>
   clear E;obtain⟨k,rfl,hk,E⟩:=hrel;have hw:IntKind.i64.wrap ((k:Int)+1)=((k+1:Nat):Int):=by rw[aaP _ (by omega)];rfl
   by_cases hlt:k<l.length
   case pos=>
    refine G0 [5,0,4,16] ?_;obtain⟨bb,off,x,hA,hbl,hx,hcc,_⟩:=H.get (k:=k) hlt;obtain⟨bc,of2,y,hA2,hbl2,hy,hdd,_⟩:=H2.get (k:=k) (by have:=hne.out;simp only;omega);have hlt2:(k:Int)<(l'.length:Int):=by have:=hne.out;omega
    simp only at hA hA2;subst hA hA2;replace hcc:=L_ hcc;replace hdd:=L_ hdd;clear hx hy;obtain⟨q,hq⟩:=hneq x y;simp only at hq;refine G0 [15,18,5,0,0] ?_;refine aC (bP 0 8 [] (aaL [0,1,2,3,4,5,6,7]) E ?_);clear E;intro w2 E
    iterate 3 refine ni E ?_
    first|(refine R4 E (aj.cs x) (fun w' E' i u hu=>(E'.aD.cell (by exact hbl)).trans (hcc i u hu)) ?_;dsimp only[aj.cs])|(have hc0:=hcc 0 _ rfl;simp only[aj.sz,Nat.mul_one,Nat.add_zero] at hc0;refine ug E (fun w' E'=>(E'.aD.cell (by exact hbl)).trans hc0) ?_)
    iterate 3 refine ni E ?_
    first|(refine R4 E (aj.cs y) (fun w' E' i u hu=>(E'.aD.cell (by exact hbl2)).trans (hdd i u hu)) ?_;dsimp only[aj.cs])|(have hc0:=hdd 0 _ rfl;simp only[aj.sz,Nat.mul_one,Nat.add_zero] at hc0;refine ug E (fun w' E'=>(E'.aD.cell (by exact hbl2)).trans hc0) ?_)
    refine GD E [29,0,4] ?_;refine Ca 24 fun T hT=>?_;clear hT;cases T
    case true=>
     refine G0 [7,5,0,4,22,24] ?_;exact ak ⟨false,rfl,E.aD⟩
    case false=>
     refine G0 [8,21,23,0,0,25] ?_
     go_roundw
     case rel=>exact⟨k+1,by go_num,by omega,E⟩
     case measure=>simp[intOf];omega
   case neg=>
    refine G0 [5,0,4,17,27,28,5,0,4,22] ?_;exact ak ⟨true,rfl,E.aD⟩
 ):Ul α F:=h hq hF hn
theorem R5:Vz (fun x:Int=>.int .i64 x) 3:=⟨fun x y=>⟨x !=y,fun w=>by go_simp⟩,by kernel_rfl⟩
theorem eZ:Ul Int 93:=NN _ _ R5 func93 ntmps93
theorem zG:Vz (fun x:ByteArray=>.string x) 9:=⟨fun x y=>⟨!(x.toList==y.toList),fun w=>by go_simp⟩,by kernel_rfl⟩
theorem je:Ul ByteArray 229:=NN _ _ zG func229 ntmps229
theorem QV:Vz (fun x:lT=>x) 211:=⟨VA,by kernel_rfl⟩
theorem sQ:Ul lT 230:=NN _ _ QV func230 ntmps230
theorem Qv:Vz (fun x:rF=>x) 399:=⟨UW,by kernel_rfl⟩
theorem Dt:Ul rF 309:=NN _ _ Qv func309 ntmps309
theorem QN:Vz (fun x:mM=>x) 296:=⟨VJ,by kernel_rfl⟩
theorem Bz:Ul mM 234:=NN _ _ QN func234 ntmps234
end
variable{s:ByteArray}
section
open Go.RowKit Bal
def oo (p b:Int)(s:ByteArray):Bool:=(p==0||may p)&&(if b==0 then s.toList.isEmpty else may b&&decide (b≤p)&&decide (s.size≤1024))
def vE (p b:Int)(s:ByteArray):Int:=if oo p b s then 0 else 8
theorem rT (p b:Int)(s:ByteArray)(w:World)(hs:s.size≤9223372036854775807)(p1:-9223372036854775808≤p)(p2:p≤9223372036854775807)(b1:-9223372036854775808≤b)(b2:b≤9223372036854775807) :
  Calls prog 177 #[.agg #[p,b,s]] w fun e w'=>e=.returned ((vE p b s))∧Below w w w':=by
 cases hp:(p==0) with
 |true=>
  cases hb:(b==0) with
  |true=>
   cases he:s.toList.isEmpty with
   |true=>
    have hE:vE p b s=0:=by simp[vE,oo,hp,hb,he]
    have HE:=L_ hE;clear hE
    go_enter func177,ntmps177
    go_wp2;go_ret;rw[HE.out];exact⟨rfl,(aaO _ _).alloc (Zh _) _⟩
   |false=>
    have hE:vE p b s=8:=by simp[vE,oo,hp,hb,he]
    have HE:=L_ hE;clear hE
    go_enter func177,ntmps177
    go_wp2;go_ret;rw[HE.out];exact⟨rfl,(aaO _ _).alloc (Zh _) _⟩
  |false=>
   cases hmb:may b with
   |false=>
    have HB:=L_ (fI (w.alloc (.cells #[p,b,s] 209)) b b1 b2 hmb);have hE:vE p b s=8:=by simp[vE,oo,hp,hb,hmb]
    have HE:=L_ hE;clear hE
    go_enter func177,ntmps177
    go_wp2_with (first|(with_reducible refine HB.out.mono ?_;rintro e w' ⟨rfl,rfl⟩));go_ret;rw[HE.out];exact⟨rfl,(aaO _ _).alloc (Zh _) _⟩
   |true=>
    have HB:=L_ (gQ (w.alloc (.cells #[p,b,s] 209)) b hmb)
    by_cases hle:b≤p
    ·cases hz:decide ((s.size:Int)≤1024) with
     |true=>
      have hz2:s.size≤1024:=by have:=aae hz;omega
      have hE:vE p b s=0:=by simp[vE,oo,hp,hb,hmb,hle,hz2]
      have HE:=L_ hE;clear hE
      go_enter func177,ntmps177
      go_wp2_with (first|(with_reducible refine HB.out.mono ?_;rintro e w' ⟨rfl,rfl⟩));go_ret;rw[HE.out];exact⟨rfl,(aaO _ _).alloc (Zh _) _⟩
     |false=>
      have hz2:¬s.size≤1024:=by have:=of_decide_eq_false hz;omega
      have hE:vE p b s=8:=by simp[vE,oo,hp,hb,hmb,hle,hz2]
      have HE:=L_ hE;clear hE
      go_enter func177,ntmps177
      go_wp2_with (first|(with_reducible refine HB.out.mono ?_;rintro e w' ⟨rfl,rfl⟩));go_ret;rw[HE.out];exact⟨rfl,(aaO _ _).alloc (Zh _) _⟩
    ·have hle2:decide (b≤p)=false:=ZE hle;have hE:vE p b s=8:=by simp[vE,oo,hp,hb,hmb,hle]
     have HE:=L_ hE;clear hE
     go_enter func177,ntmps177
     go_wp2_with (first|(with_reducible refine HB.out.mono ?_;rintro e w' ⟨rfl,rfl⟩));go_ret;rw[HE.out];exact⟨rfl,(aaO _ _).alloc (Zh _) _⟩
 |false=>
  cases hmp:may p with
  |true=>
   have HP:=L_ (gQ (w.alloc (.cells #[p,b,s] 209)) p hmp);cases hb:(b==0) with
   |true=>
    cases he:s.toList.isEmpty with
    |true=>
     have hE:vE p b s=0:=by simp[vE,oo,hp,hmp,hb,he]
     have HE:=L_ hE;clear hE
     go_enter func177,ntmps177
     go_wp2_with (first|(with_reducible refine HP.out.mono ?_;rintro e w' ⟨rfl,rfl⟩));go_ret;rw[HE.out];exact⟨rfl,(aaO _ _).alloc (Zh _) _⟩
    |false=>
     have hE:vE p b s=8:=by simp[vE,oo,hp,hmp,hb,he]
     have HE:=L_ hE;clear hE
     go_enter func177,ntmps177
     go_wp2_with (first|(with_reducible refine HP.out.mono ?_;rintro e w' ⟨rfl,rfl⟩));go_ret;rw[HE.out];exact⟨rfl,(aaO _ _).alloc (Zh _) _⟩
   |false=>
    cases hmb:may b with
    |false=>
     have HB:=L_ (fI (w.alloc (.cells #[p,b,s] 209)) b b1 b2 hmb);have hE:vE p b s=8:=by simp[vE,oo,hp,hmp,hb,hmb]
     have HE:=L_ hE;clear hE
     go_enter func177,ntmps177
     go_wp2_with (first|(with_reducible refine HP.out.mono ?_;rintro e w' ⟨rfl,rfl⟩)|(with_reducible refine HB.out.mono ?_;rintro e w' ⟨rfl,rfl⟩));go_ret;rw[HE.out];exact⟨rfl,(aaO _ _).alloc (Zh _) _⟩
    |true=>
     have HB:=L_ (gQ (w.alloc (.cells #[p,b,s] 209)) b hmb)
     by_cases hle:b≤p
     ·cases hz:decide ((s.size:Int)≤1024) with
      |true=>
       have hz2:s.size≤1024:=by have:=aae hz;omega
       have hE:vE p b s=0:=by simp[vE,oo,hp,hmp,hb,hmb,hle,hz2]
       have HE:=L_ hE;clear hE
       go_enter func177,ntmps177
       go_wp2_with (first|(with_reducible refine HP.out.mono ?_;rintro e w' ⟨rfl,rfl⟩)|(with_reducible refine HB.out.mono ?_;rintro e w' ⟨rfl,rfl⟩));go_ret;rw[HE.out];exact⟨rfl,(aaO _ _).alloc (Zh _) _⟩
      |false=>
       have hz2:¬s.size≤1024:=by have:=of_decide_eq_false hz;omega
       have hE:vE p b s=8:=by simp[vE,oo,hp,hmp,hb,hmb,hle,hz2]
       have HE:=L_ hE;clear hE
       go_enter func177,ntmps177
       go_wp2_with (first|(with_reducible refine HP.out.mono ?_;rintro e w' ⟨rfl,rfl⟩)|(with_reducible refine HB.out.mono ?_;rintro e w' ⟨rfl,rfl⟩));go_ret;rw[HE.out];exact⟨rfl,(aaO _ _).alloc (Zh _) _⟩
     ·have hle2:decide (b≤p)=false:=ZE hle;have hE:vE p b s=8:=by simp[vE,oo,hp,hmp,hb,hmb,hle]
      have HE:=L_ hE;clear hE
      go_enter func177,ntmps177
      go_wp2_with (first|(with_reducible refine HP.out.mono ?_;rintro e w' ⟨rfl,rfl⟩)|(with_reducible refine HB.out.mono ?_;rintro e w' ⟨rfl,rfl⟩));go_ret;rw[HE.out];exact⟨rfl,(aaO _ _).alloc (Zh _) _⟩
  |false=>
   have HP:=L_ (fI (w.alloc (.cells #[p,b,s] 209)) p p1 p2 hmp);cases hb:(b==0) with
   |true=>
    have hE:vE p b s=8:=by simp[vE,oo,hp,hmp]
    have HE:=L_ hE;clear hE
    go_enter func177,ntmps177
    go_wp2_with (first|(with_reducible refine HP.out.mono ?_;rintro e w' ⟨rfl,rfl⟩));go_ret;rw[HE.out];exact⟨rfl,(aaO _ _).alloc (Zh _) _⟩
   |false=>
    have hE:vE p b s=8:=by simp[vE,oo,hp,hmp]
    have HE:=L_ hE;clear hE
    go_enter func177,ntmps177
    go_wp2_with (first|(with_reducible refine HP.out.mono ?_;rintro e w' ⟨rfl,rfl⟩));go_ret;rw[HE.out];exact⟨rfl,(aaO _ _).alloc (Zh _) _⟩
def pq (p q:Int)(s:ByteArray)(b:Int)(t:ByteArray):Int:=if oo p q s=false then 8 else if may b=false then 50 else if 1024<t.size then 3 else if b<p then 70 else 0
theorem VI {p b:Int}(h:oo p b s=true):vE p b s=0:=by simp[vE,h]
theorem XI {p b:Int}(h:oo p b s=false):vE p b s=8:=by simp[vE,h]
theorem qm (p q:Int)(s:ByteArray)(b:Int)(t:ByteArray)(w:World)(hs:s.size≤9223372036854775807)(ht:t.size≤9223372036854775807)(p1:-9223372036854775808≤p)(p2:p≤9223372036854775807)(q1:-9223372036854775808≤q)(q2:q≤9223372036854775807)(b1:-9223372036854775808≤b)(b2:b≤9223372036854775807) :
  Calls prog 260 #[.agg #[p,q,s],b,t] w fun e w'=>e=.returned ((pq p q s b t))∧Below w w w':=by
 go_enter func260,ntmps260
 go_wp2_with fail;refine(rT p q s _ hs p1 p2 q1 q2).mono ?_;rintro e w1 ⟨rfl,hb⟩
 have hc0:w1.cell? ⟨w,0,none⟩=some (.int .i64 p):=by
  rw[hb.cell (p:=⟨w,0,none⟩) (by simp)];simp
 have HB:=L_ (aR (hb.mono (B':=w.heap.size) (by simp)) (Zh _));clear hb;cases hm:oo p q s with
 |false=>
  rw[XI hm];have HE:Hid (pq p q s b t=8):=by simp[Hid,pq,hm]
  clear hm;go_wp2;go_ret;rw[HE.out];exact⟨rfl,HB⟩
 |true=>
  rw[VI hm];cases hmb:may b with
  |false=>
   have HE:Hid (pq p q s b t=50):=by simp[Hid,pq,hm,hmb]
   have HC:=L_ (fI w1 b b1 b2 hmb);clear hm hmb;go_wp2_with (first|(with_reducible refine HC.out.mono ?_;rintro e w' ⟨rfl,rfl⟩));go_ret;rw[HE.out];exact⟨rfl,HB⟩
  |true=>
   have HC:=L_ (gQ w1 b hmb)
   by_cases hz:1024<t.size
   ·have HE:Hid (pq p q s b t=3):=by simp[Hid,pq,hm,hmb,hz]
    clear hm hmb;go_wp2_with (first|(with_reducible refine HC.out.mono ?_;rintro e w' ⟨rfl,rfl⟩));go_ret;rw[HE.out];exact⟨rfl,HB⟩
   ·by_cases hlt:b<p
    ·have HE:Hid (pq p q s b t=70):=by simp[Hid,pq,hm,hmb,hz,hlt]
     clear hm hmb;go_wp2_with (first|(with_reducible refine HC.out.mono ?_;rintro e w' ⟨rfl,rfl⟩));go_ret;rw[HE.out];exact⟨rfl,HB⟩
    ·have HE:Hid (pq p q s b t=0):=by simp[Hid,pq,hm,hmb,hz,hlt]
     clear hm hmb;go_wp2_with (first|(with_reducible refine HC.out.mono ?_;rintro e w' ⟨rfl,rfl⟩));go_ret;rw[HE.out];exact⟨rfl,HB⟩
theorem Nj (p q:Int)(s:ByteArray)(b:Int)(w:World)(hs:s.size≤9223372036854775807)(p1:-9223372036854775808≤p)(p2:p≤9223372036854775807)(q1:-9223372036854775808≤q)(q2:q≤9223372036854775807)(b1:-9223372036854775808≤b)(b2:b≤9223372036854775807)(h:pq p q s b ⟨#[]⟩=0) :
  Calls prog 185 #[.agg #[p,q,s],b] w fun e w'=>e=.returned (.tuple #[.agg #[b,q,s],.int .i64 0])∧Below w w w':=by
 go_enter func185,ntmps185
 go_wp2_with fail;refine(qm p q s b ⟨#[]⟩ _ hs (by decide) p1 p2 q1 q2 b1 b2).mono ?_;rw[h];clear h;rintro e w1 ⟨rfl,hb⟩;have hb2:=hb.mono (B':=w.heap.size+2) (by simp);have hz:w.heap.size+2≤w1.heap.size:=by have:=hb.size;simp at this;omega
 obtain⟨hc,hf⟩:=JF hb2;have HB:=L_ (aR (aR (hb.mono (B':=w.heap.size) (by simp;omega)) (by simp)) (Zh _));clear hb hb2;go_wp2;exact aaT (v:=.tuple #[.agg #[b,q,s],.int .i64 0]) (by simp[results,results185,go_sem,hc]) rfl ⟨rfl,by first|exact HB|exact HB.setCell (by simp) _|exact(HB.setCell (by simp) _).setCell (by simp) _|(repeat (refine Below.setCell ?_ (by simp) _));exact HB⟩
theorem Lf (p q:Int)(s:ByteArray)(b:Int)(w:World)(hs:s.size≤9223372036854775807)(p1:-9223372036854775808≤p)(p2:p≤9223372036854775807)(q1:-9223372036854775808≤q)(q2:q≤9223372036854775807)(b1:-9223372036854775808≤b)(b2:b≤9223372036854775807)(x:Int)(hx0:pq p q s b ⟨#[]⟩=x)(h:x≠0) :
  Calls prog 185 #[.agg #[p,q,s],b] w fun e w'=>e=.returned (.tuple #[.agg #[.int .i64 0,.int .i64 0,.string ⟨#[]⟩],x])∧Below w w w':=by
 go_enter func185,ntmps185
 go_wp2_with fail;refine(qm p q s b ⟨#[]⟩ _ hs (by decide) p1 p2 q1 q2 b1 b2).mono ?_;rw[hx0];clear hx0;have hx:(x !=0)=true:=by simpa using h
 clear h;rintro e w1 ⟨rfl,hb⟩;have hb2:=hb.mono (B':=w.heap.size+2) (by simp);have hz:w.heap.size+2≤w1.heap.size:=by have:=hb.size;simp at this;omega
 obtain⟨hc,hf⟩:=JF hb2;have HB:=L_ (aR (aR (hb.mono (B':=w.heap.size) (by simp;omega)) (by simp)) (Zh _));clear hb hb2;go_wp2;exact aaT (v:=.tuple #[.agg #[.int .i64 0,.int .i64 0,.string ⟨#[]⟩],x]) (by simp[results,results185,go_sem,hc]) rfl ⟨rfl,by first|exact HB|exact HB.setCell (by simp) _|exact(HB.setCell (by simp) _).setCell (by simp) _|(repeat (refine Below.setCell ?_ (by simp) _));exact HB⟩
theorem RJ (p q:Int)(s:ByteArray)(b:Int)(t:ByteArray)(w:World)(hs:s.size≤9223372036854775807)(ht:t.size≤9223372036854775807)(p1:-9223372036854775808≤p)(p2:p≤9223372036854775807)(q1:-9223372036854775808≤q)(q2:q≤9223372036854775807)(b1:-9223372036854775808≤b)(b2:b≤9223372036854775807)(h:pq p q s b t=0) :
  Calls prog 186 #[.agg #[p,q,s],b,t] w fun e w'=>e=.returned (.tuple #[.agg #[b,b,t],.int .i64 0])∧Below w w w':=by
 go_enter func186,ntmps186
 go_wp2_with fail;refine(qm p q s b t _ hs ht p1 p2 q1 q2 b1 b2).mono ?_;rw[h];clear h;rintro e w1 ⟨rfl,hb⟩;have hb2:=hb.mono (B':=w.heap.size+2) (by simp);have hz:w.heap.size+2≤w1.heap.size:=by have:=hb.size;simp at this;omega
 obtain⟨hc,hf⟩:=JF hb2;have HB:=L_ (aR (aR (hb.mono (B':=w.heap.size) (by simp;omega)) (by simp)) (Zh _));clear hb hb2;go_wp2;exact aaT (v:=.tuple #[.agg #[b,b,t],.int .i64 0]) (by simp[results,results186,go_sem,hc]) rfl ⟨rfl,by first|exact HB|exact HB.setCell (by simp) _|exact(HB.setCell (by simp) _).setCell (by simp) _|(repeat (refine Below.setCell ?_ (by simp) _));exact HB⟩
theorem Pj (p q:Int)(s:ByteArray)(b:Int)(t:ByteArray)(w:World)(hs:s.size≤9223372036854775807)(ht:t.size≤9223372036854775807)(p1:-9223372036854775808≤p)(p2:p≤9223372036854775807)(q1:-9223372036854775808≤q)(q2:q≤9223372036854775807)(b1:-9223372036854775808≤b)(b2:b≤9223372036854775807)(x:Int)(hx0:pq p q s b t=x)(h:x≠0) :
  Calls prog 186 #[.agg #[p,q,s],b,t] w fun e w'=>e=.returned (.tuple #[.agg #[.int .i64 0,.int .i64 0,.string ⟨#[]⟩],x])∧Below w w w':=by
 go_enter func186,ntmps186
 go_wp2_with fail;refine(qm p q s b t _ hs ht p1 p2 q1 q2 b1 b2).mono ?_;rw[hx0];clear hx0;have hx:(x !=0)=true:=by simpa using h
 clear h;rintro e w1 ⟨rfl,hb⟩;have hb2:=hb.mono (B':=w.heap.size+2) (by simp);have hz:w.heap.size+2≤w1.heap.size:=by have:=hb.size;simp at this;omega
 obtain⟨hc,hf⟩:=JF hb2;have HB:=L_ (aR (aR (hb.mono (B':=w.heap.size) (by simp;omega)) (by simp)) (Zh _));clear hb hb2;go_wp2;exact aaT (v:=.tuple #[.agg #[.int .i64 0,.int .i64 0,.string ⟨#[]⟩],x]) (by simp[results,results186,go_sem,hc]) rfl ⟨rfl,by first|exact HB|exact HB.setCell (by simp) _|exact(HB.setCell (by simp) _).setCell (by simp) _|(repeat (refine Below.setCell ?_ (by simp) _));exact HB⟩
end
section
open Go.RowKit Go.Sort Go.BigFrame
theorem vP (x:lT)(k:Int)(w:World):Calls prog 293 #[x,k] w fun e w'=>e=.returned (.int .i64 (wrap64 (x.s - k)))∧Below w w w':=by
 have B1:=L_ ((aaO w w).alloc (Zh _) (.cells x 211))
 go_enter func293,ntmps293
 go_wp2;go_ret;exact⟨rfl,B1⟩
theorem Bp (x:dI)(k:Int)(w:World):Calls prog 274 #[x,k] w fun e w'=>e=.returned (.int .i64 (wrap64 (x.m.i - k)))∧Below w w w':=by
 have B1:=L_ ((aaO w w).alloc (Zh _) (.cells x 202))
 go_enter func274,ntmps274
 go_wp2;go_ret;exact⟨rfl,B1⟩
def oO {α:Type}(cf:α→Int)(l:List α)(k:Nat)(b:Bool):Prop:=k≤l.length∧(∀x,0<k→l[k - 1]?=some x→cf x<0)∧(∀x,l[k]?=some x→0≤cf x)∧(b=true↔∃x,l[k]?=some x∧cf x=0)
theorem Ah (s:Sl lT)(y:lT)(w:World)(N:Nat)(h:s.aA w w N)(hN:N≤1000000000) :
  Calls prog 184 #[.slice s.A s.l.length s.c,.agg #[.int .i64 y.g,.int .i64 y.s,.int .i64 y.p,.int .i64 y.b,.string y.v],.func (.func 178) #[] #[]] w fun e w'=>∃k b,e=.returned (.tuple #[.int .i64 ((k:Nat):Int),.bool b])∧oO (fun x:lT=>uF (bZ x.g y.g) (bZ x.s y.s)) s.l k b∧Below w.heap.size w w':=by
 obtain⟨A,c,l⟩:=s;have H:=L_ h;have hnl:l.length≤1000000000:=Zt h.2.2.2.1 hN;clear h;have KY:Hid (aF (w.alloc (.cells y 211)) w 211 y):=L_ (aF.new _ _ _);have B0:Hid (Below w w (w.alloc (.cells y 211))):=L_ ((aaO _ _).alloc (Zh _) _)
 go_enter func184,ntmps184
 go_wp2_with fail;generalize w.alloc (.cells y 211)=w0 at *
 go_loopw [9,10] (fun p q wr=>∃i j:Nat,p=(i:Int)∧q=(j:Int)∧i≤j∧j≤l.length∧Below w0 w0 wr∧(∀x,0<i→l[i - 1]?=some x→(uF (bZ x.g y.g) (bZ x.s y.s))<0)∧∀x,l[j]?=some x→0≤(uF (bZ x.g y.g) (bZ x.s y.s))) (fun p q _=>(intOf q).toNat - (intOf p).toNat)
 case atStart=>exact⟨0,l.length,rfl,rfl,Zq _,Zh _,aaO _ _,fun x h=>by omega,fun x hx=>by simp at hx⟩
 case round=>
  obtain⟨i,j,rfl,rfl,hij,hj,hb,h1,h2⟩:=hrel;have HB:=L_ hb;have H1:=L_ h1;have H2:=L_ h2;clear hb h1 h2
  by_cases hlt:i<j
  ·obtain⟨k,hk⟩:∃k,(i+j) / 2=k:=⟨_,rfl⟩;have hki:i≤k:=by omega
   have hkj:k<j:=by omega
   obtain⟨bb,off,x,hA,hbl,hx,hcc,_⟩:=(H.below (B0.trans (HB.mono B0.size))).get (k:=k) (by simp only;omega);simp only at hA;subst hA;have c0:wr.cell? ⟨bb,off+k*5,none⟩=some (.int .i64 x.g):=hcc 0 _ rfl;have c1:wr.cell? ⟨bb,off+k*5+1,none⟩=some (.int .i64 x.s):=hcc 1 _ rfl;have c2:wr.cell? ⟨bb,off+k*5+2,none⟩=some (.int .i64 x.p):=hcc 2 _ rfl;have c3:wr.cell? ⟨bb,off+k*5+3,none⟩=some (.int .i64 x.b):=hcc 3 _ rfl;have c4:wr.cell? ⟨bb,off+k*5+4,none⟩=some (.string x.v):=hcc 4 _ rfl;have HX:=L_ hx;clear hcc hx;go_wp2_with fail;have KW:=L_ (KY.below HB KY.lt);have e0:=cell_regrown (KW.cell 0);have e1:=cell_regrown (KW.cell 1);have e2:=cell_regrown (KW.cell 2);have e3:=cell_regrown (KW.cell 3);have e4:=cell_regrown (KW.cell 4);have c0:=cell_regrown c0;have c1:=cell_regrown c1;have c2:=cell_regrown c2;have c3:=cell_regrown c3;have c4:=cell_regrown c4;have FC:=L_ (qb (W:=wr) fun cur ht=>rC x y cur);refine wp_region_quiet_below (by kernel_rfl) (by kernel_rfl) ?_
   repeat (go_big_quiet_step ((first|with_reducible exact FC.out _ _)))
   refine wpQuiet_nil ?_;intro _ hw';obtain⟨⟨dq,osq⟩,hw''⟩:=hw';subst hw'';have HB2:=L_ (HB.trans ((below_regrown wr dq osq).mono HB.size));clear c0 c1 c2 c3 c4
   by_cases hc:(uF (bZ x.g y.g) (bZ x.s y.s))<0
   ·go_wp2
    go_roundw
    case rel=>exact⟨k+1,j,by congr 1;omega,rfl,by omega,hj,HB2,fun z _ hz=>by
     rw[Nat.add_sub_cancel] at hz;have e:=HX.symm.trans hz;injection e with e
     subst e;exact hc,H2⟩
    case measure=>simp[intOf];omega
   ·go_wp2
    go_roundw
    case rel=>exact⟨i,k,rfl,by congr 1;omega,hki,by omega,HB2,H1,fun z hz=>by
     have e:=HX.symm.trans hz;injection e with e
     subst e;omega⟩
    case measure=>simp[intOf];omega
  ·obtain rfl:i=j:=by omega
   by_cases hin:i<l.length
   ·obtain⟨bb,off,x,hA,hbl,hx,hcc,_⟩:=(H.below (B0.trans (HB.mono B0.size))).get (k:=i) hin;simp only at hA;subst hA;have HX:=L_ hx;have HC0:=L_ (H2 x hx);have c0:wr.cell? ⟨bb,off+i*5,none⟩=some (.int .i64 x.g):=hcc 0 _ rfl;have c1:wr.cell? ⟨bb,off+i*5+1,none⟩=some (.int .i64 x.s):=hcc 1 _ rfl;have c2:wr.cell? ⟨bb,off+i*5+2,none⟩=some (.int .i64 x.p):=hcc 2 _ rfl;have c3:wr.cell? ⟨bb,off+i*5+3,none⟩=some (.int .i64 x.b):=hcc 3 _ rfl;have c4:wr.cell? ⟨bb,off+i*5+4,none⟩=some (.string x.v):=hcc 4 _ rfl;clear hcc hx;obtain⟨v,hv⟩:∃v,(uF (bZ x.g y.g) (bZ x.s y.s))=v:=⟨_,rfl⟩;have HV:=L_ hv;clear hv;go_wp2_with fail;have KW:=L_ (KY.below HB KY.lt);have e0:=cell_regrown (KW.cell 0);have e1:=cell_regrown (KW.cell 1);have e2:=cell_regrown (KW.cell 2);have e3:=cell_regrown (KW.cell 3);have e4:=cell_regrown (KW.cell 4);have c0:=cell_regrown c0;have c1:=cell_regrown c1;have c2:=cell_regrown c2;have c3:=cell_regrown c3;have c4:=cell_regrown c4;have hcall:∀cur,Calls prog 178 #[x,y] cur fun e w'=>e=.returned (.int .i64 v)∧Below cur cur w':=fun cur=>by rw[←HV.out];exact rC x y cur
    have FC:=L_ (qb (W:=wr) fun cur ht=>hcall cur);refine wp_region_quiet_below (by kernel_rfl) (by kernel_rfl) ?_
    repeat (go_big_quiet_step ((first|with_reducible exact FC.out _ _)))
    refine wpQuiet_nil ?_;intro _ hw';obtain⟨⟨dq,osq⟩,hw''⟩:=hw';subst hw'';have HB2:=L_ (HB.trans ((below_regrown wr dq osq).mono HB.size));clear c0 c1 c2 c3 c4;go_wp2
    go_ret2
    refine⟨i,v==0,by simp,⟨by omega,H1,H2,?_⟩,B0.trans (HB2.mono B0.size)⟩;rw[aar]
    constructor
    ·rintro rfl;exact⟨x,HX,HV⟩
    ·rintro⟨z,hz,h0⟩;have e:=HX.symm.trans hz;injection e with e
     subst e;rw[←HV.out];exact h0
   ·obtain rfl:i=l.length:=by omega
    go_wp2_with fail;refine wp_region_quiet_below (by kernel_rfl) (by kernel_rfl) ?_
    repeat (go_big_quiet_step ((fail)))
    refine wpQuiet_nil ?_;intro _ hw';obtain⟨⟨dq,osq⟩,hw''⟩:=hw';subst hw'';have HB2:=L_ (HB.trans ((below_regrown wr dq osq).mono HB.size));go_wp2
    go_ret2
    refine⟨l.length,false,by simp,⟨Zh _,H1,H2,?_⟩,B0.trans (HB2.mono B0.size)⟩;simp
theorem qU (s:Sl mM)(y:mM)(w:World)(N:Nat)(h:s.aA w w N)(hN:N≤1000000000) :
  Calls prog 252 #[.slice s.A s.l.length s.c,.agg #[.int .i64 y.i,.int .i64 y.g,.int .i64 y.t],.func (.func 167) #[] #[]] w fun e w'=>∃k b,e=.returned (.tuple #[.int .i64 ((k:Nat):Int),.bool b])∧oO (fun x:mM=>uF (bZ x.i y.i) (bZ x.g y.g)) s.l k b∧Below w.heap.size w w':=by
 obtain⟨A,c,l⟩:=s;have H:=L_ h;have hnl:l.length≤1000000000:=Zt h.2.2.2.1 hN;clear h;have KY:Hid (aF (w.alloc (.cells y 296)) w 296 y):=L_ (aF.new _ _ _);have B0:Hid (Below w w (w.alloc (.cells y 296))):=L_ ((aaO _ _).alloc (Zh _) _)
 go_enter func252,ntmps252
 go_wp2_with fail;generalize w.alloc (.cells y 296)=w0 at *
 go_loopw [9,10] (fun p q wr=>∃i j:Nat,p=(i:Int)∧q=(j:Int)∧i≤j∧j≤l.length∧Below w0 w0 wr∧(∀x,0<i→l[i - 1]?=some x→(uF (bZ x.i y.i) (bZ x.g y.g))<0)∧∀x,l[j]?=some x→0≤(uF (bZ x.i y.i) (bZ x.g y.g))) (fun p q _=>(intOf q).toNat - (intOf p).toNat)
 case atStart=>exact⟨0,l.length,rfl,rfl,Zq _,Zh _,aaO _ _,fun x h=>by omega,fun x hx=>by simp at hx⟩
 case round=>
  obtain⟨i,j,rfl,rfl,hij,hj,hb,h1,h2⟩:=hrel;have HB:=L_ hb;have H1:=L_ h1;have H2:=L_ h2;clear hb h1 h2
  by_cases hlt:i<j
  ·obtain⟨k,hk⟩:∃k,(i+j) / 2=k:=⟨_,rfl⟩;have hki:i≤k:=by omega
   have hkj:k<j:=by omega
   obtain⟨bb,off,x,hA,hbl,hx,hcc,_⟩:=(H.below (B0.trans (HB.mono B0.size))).get (k:=k) (by simp only;omega);simp only at hA;subst hA;have c0:wr.cell? ⟨bb,off+k*3,none⟩=some (.int .i64 x.i):=hcc 0 _ rfl;have c1:wr.cell? ⟨bb,off+k*3+1,none⟩=some (.int .i64 x.g):=hcc 1 _ rfl;have c2:wr.cell? ⟨bb,off+k*3+2,none⟩=some (.int .i64 x.t):=hcc 2 _ rfl;have HX:=L_ hx;clear hcc hx;go_wp2_with fail;have KW:=L_ (KY.below HB KY.lt);have e0:=cell_regrown (KW.cell 0);have e1:=cell_regrown (KW.cell 1);have e2:=cell_regrown (KW.cell 2);have c0:=cell_regrown c0;have c1:=cell_regrown c1;have c2:=cell_regrown c2;have FC:=L_ (qb (W:=wr) fun cur ht=>rJ x y cur);refine wp_region_quiet_below (by kernel_rfl) (by kernel_rfl) ?_
   repeat (go_big_quiet_step ((first|with_reducible exact FC.out _ _)))
   refine wpQuiet_nil ?_;intro _ hw';obtain⟨⟨dq,osq⟩,hw''⟩:=hw';subst hw'';have HB2:=L_ (HB.trans ((below_regrown wr dq osq).mono HB.size));clear c0 c1 c2
   by_cases hc:(uF (bZ x.i y.i) (bZ x.g y.g))<0
   ·go_wp2
    go_roundw
    case rel=>exact⟨k+1,j,by congr 1;omega,rfl,by omega,hj,HB2,fun z _ hz=>by
     rw[Nat.add_sub_cancel] at hz;have e:=HX.symm.trans hz;injection e with e
     subst e;exact hc,H2⟩
    case measure=>simp[intOf];omega
   ·go_wp2
    go_roundw
    case rel=>exact⟨i,k,rfl,by congr 1;omega,hki,by omega,HB2,H1,fun z hz=>by
     have e:=HX.symm.trans hz;injection e with e
     subst e;omega⟩
    case measure=>simp[intOf];omega
  ·obtain rfl:i=j:=by omega
   by_cases hin:i<l.length
   ·obtain⟨bb,off,x,hA,hbl,hx,hcc,_⟩:=(H.below (B0.trans (HB.mono B0.size))).get (k:=i) hin;simp only at hA;subst hA;have HX:=L_ hx;have HC0:=L_ (H2 x hx);have c0:wr.cell? ⟨bb,off+i*3,none⟩=some (.int .i64 x.i):=hcc 0 _ rfl;have c1:wr.cell? ⟨bb,off+i*3+1,none⟩=some (.int .i64 x.g):=hcc 1 _ rfl;have c2:wr.cell? ⟨bb,off+i*3+2,none⟩=some (.int .i64 x.t):=hcc 2 _ rfl;clear hcc hx;obtain⟨v,hv⟩:∃v,(uF (bZ x.i y.i) (bZ x.g y.g))=v:=⟨_,rfl⟩;have HV:=L_ hv;clear hv;go_wp2_with fail;have KW:=L_ (KY.below HB KY.lt);have e0:=cell_regrown (KW.cell 0);have e1:=cell_regrown (KW.cell 1);have e2:=cell_regrown (KW.cell 2);have c0:=cell_regrown c0;have c1:=cell_regrown c1;have c2:=cell_regrown c2;have hcall:∀cur,Calls prog 167 #[x,y] cur fun e w'=>e=.returned (.int .i64 v)∧Below cur cur w':=fun cur=>by rw[←HV.out];exact rJ x y cur
    have FC:=L_ (qb (W:=wr) fun cur ht=>hcall cur);refine wp_region_quiet_below (by kernel_rfl) (by kernel_rfl) ?_
    repeat (go_big_quiet_step ((first|with_reducible exact FC.out _ _)))
    refine wpQuiet_nil ?_;intro _ hw';obtain⟨⟨dq,osq⟩,hw''⟩:=hw';subst hw'';have HB2:=L_ (HB.trans ((below_regrown wr dq osq).mono HB.size));clear c0 c1 c2;go_wp2
    go_ret2
    refine⟨i,v==0,by simp,⟨by omega,H1,H2,?_⟩,B0.trans (HB2.mono B0.size)⟩;rw[aar]
    constructor
    ·rintro rfl;exact⟨x,HX,HV⟩
    ·rintro⟨z,hz,h0⟩;have e:=HX.symm.trans hz;injection e with e
     subst e;rw[←HV.out];exact h0
   ·obtain rfl:i=l.length:=by omega
    go_wp2_with fail;refine wp_region_quiet_below (by kernel_rfl) (by kernel_rfl) ?_
    repeat (go_big_quiet_step ((fail)))
    refine wpQuiet_nil ?_;intro _ hw';obtain⟨⟨dq,osq⟩,hw''⟩:=hw';subst hw'';have HB2:=L_ (HB.trans ((below_regrown wr dq osq).mono HB.size));go_wp2
    go_ret2
    refine⟨l.length,false,by simp,⟨Zh _,H1,H2,?_⟩,B0.trans (HB2.mono B0.size)⟩;simp
theorem zY (s:Sl lT)(y:Int)(w:World)(N:Nat)(h:s.aA w w N)(hN:N≤1000000000) :
  Calls prog 292 #[.slice s.A s.l.length s.c,.int .i64 y,.func (.func 293) #[] #[]] w fun e w'=>∃k b,e=.returned (.tuple #[.int .i64 ((k:Nat):Int),.bool b])∧oO (fun x:lT=>wrap64 (x.s - y)) s.l k b∧Below w.heap.size w w':=by
 obtain⟨A,c,l⟩:=s;have H:=L_ h;have hnl:l.length≤1000000000:=Zt h.2.2.2.1 hN;clear h
 go_enter func292,ntmps292
 go_wp2_with fail;have B0:=L_ (aaO w w)
 go_loopw [9,10] (fun p q wr=>∃i j:Nat,p=(i:Int)∧q=(j:Int)∧i≤j∧j≤l.length∧Below w w wr∧(∀x,0<i→l[i - 1]?=some x→(wrap64 (x.s - y))<0)∧∀x,l[j]?=some x→0≤(wrap64 (x.s - y))) (fun p q _=>(intOf q).toNat - (intOf p).toNat)
 case atStart=>exact⟨0,l.length,rfl,rfl,Zq _,Zh _,aaO _ _,fun x h=>by omega,fun x hx=>by simp at hx⟩
 case round=>
  obtain⟨i,j,rfl,rfl,hij,hj,hb,h1,h2⟩:=hrel;have HB:=L_ hb;have H1:=L_ h1;have H2:=L_ h2;clear hb h1 h2
  by_cases hlt:i<j
  ·obtain⟨k,hk⟩:∃k,(i+j) / 2=k:=⟨_,rfl⟩;have hki:i≤k:=by omega
   have hkj:k<j:=by omega
   obtain⟨bb,off,x,hA,hbl,hx,hcc,_⟩:=(H.below (B0.trans (HB.mono B0.size))).get (k:=k) (by simp only;omega);simp only at hA;subst hA;have c0:wr.cell? ⟨bb,off+k*5,none⟩=some (.int .i64 x.g):=hcc 0 _ rfl;have c1:wr.cell? ⟨bb,off+k*5+1,none⟩=some (.int .i64 x.s):=hcc 1 _ rfl;have c2:wr.cell? ⟨bb,off+k*5+2,none⟩=some (.int .i64 x.p):=hcc 2 _ rfl;have c3:wr.cell? ⟨bb,off+k*5+3,none⟩=some (.int .i64 x.b):=hcc 3 _ rfl;have c4:wr.cell? ⟨bb,off+k*5+4,none⟩=some (.string x.v):=hcc 4 _ rfl;have HX:=L_ hx;clear hcc hx;go_wp2_with fail;refine(vP x y wr).mono ?_;rintro e w' ⟨rfl,hb⟩;have HB2:=L_ (HB.trans (hb.mono HB.size));clear hb;clear c0 c1 c2 c3 c4
   by_cases hc:(wrap64 (x.s - y))<0
   ·go_wp2
    go_roundw
    case rel=>exact⟨k+1,j,by congr 1;omega,rfl,by omega,hj,HB2,fun z _ hz=>by
     rw[Nat.add_sub_cancel] at hz;have e:=HX.symm.trans hz;injection e with e
     subst e;exact hc,H2⟩
    case measure=>simp[intOf];omega
   ·go_wp2
    go_roundw
    case rel=>exact⟨i,k,rfl,by congr 1;omega,hki,by omega,HB2,H1,fun z hz=>by
     have e:=HX.symm.trans hz;injection e with e
     subst e;omega⟩
    case measure=>simp[intOf];omega
  ·obtain rfl:i=j:=by omega
   by_cases hin:i<l.length
   ·obtain⟨bb,off,x,hA,hbl,hx,hcc,_⟩:=(H.below (B0.trans (HB.mono B0.size))).get (k:=i) hin;simp only at hA;subst hA;have HX:=L_ hx;have HC0:=L_ (H2 x hx);have c0:wr.cell? ⟨bb,off+i*5,none⟩=some (.int .i64 x.g):=hcc 0 _ rfl;have c1:wr.cell? ⟨bb,off+i*5+1,none⟩=some (.int .i64 x.s):=hcc 1 _ rfl;have c2:wr.cell? ⟨bb,off+i*5+2,none⟩=some (.int .i64 x.p):=hcc 2 _ rfl;have c3:wr.cell? ⟨bb,off+i*5+3,none⟩=some (.int .i64 x.b):=hcc 3 _ rfl;have c4:wr.cell? ⟨bb,off+i*5+4,none⟩=some (.string x.v):=hcc 4 _ rfl;clear hcc hx;obtain⟨v,hv⟩:∃v,(wrap64 (x.s - y))=v:=⟨_,rfl⟩;have HV:=L_ hv;clear hv;go_wp2_with fail;refine(vP x y wr).mono ?_;rintro e w' ⟨rfl,hb⟩;have HB2:=L_ (HB.trans (hb.mono HB.size));rw[HV.out];clear hb;clear c0 c1 c2 c3 c4;go_wp2
    go_ret2
    refine⟨i,v==0,by simp,⟨by omega,H1,H2,?_⟩,B0.trans (HB2.mono B0.size)⟩;rw[aar]
    constructor
    ·rintro rfl;exact⟨x,HX,HV⟩
    ·rintro⟨z,hz,h0⟩;have e:=HX.symm.trans hz;injection e with e
     subst e;rw[←HV.out];exact h0
   ·obtain rfl:i=l.length:=by omega
    have HB2:=HB;go_wp2
    go_ret2
    refine⟨l.length,false,by simp,⟨Zh _,H1,H2,?_⟩,B0.trans (HB2.mono B0.size)⟩;simp
theorem EH (s:Sl dI)(y:Int)(w:World)(N:Nat)(h:s.aA w w N)(hN:N≤1000000000) :
  Calls prog 273 #[.slice s.A s.l.length s.c,.int .i64 y,.func (.func 274) #[] #[]] w fun e w'=>∃k b,e=.returned (.tuple #[.int .i64 ((k:Nat):Int),.bool b])∧oO (fun x:dI=>wrap64 (x.m.i - y)) s.l k b∧Below w.heap.size w w':=by
 obtain⟨A,c,l⟩:=s;have H:=L_ h;have hnl:l.length≤1000000000:=Zt h.2.2.2.1 hN;clear h
 go_enter func273,ntmps273
 go_wp2_with fail;have B0:=L_ (aaO w w)
 go_loopw [9,10] (fun p q wr=>∃i j:Nat,p=(i:Int)∧q=(j:Int)∧i≤j∧j≤l.length∧Below w w wr∧(∀x,0<i→l[i - 1]?=some x→(wrap64 (x.m.i - y))<0)∧∀x,l[j]?=some x→0≤(wrap64 (x.m.i - y))) (fun p q _=>(intOf q).toNat - (intOf p).toNat)
 case atStart=>exact⟨0,l.length,rfl,rfl,Zq _,Zh _,aaO _ _,fun x h=>by omega,fun x hx=>by simp at hx⟩
 case round=>
  obtain⟨i,j,rfl,rfl,hij,hj,hb,h1,h2⟩:=hrel;have HB:=L_ hb;have H1:=L_ h1;have H2:=L_ h2;clear hb h1 h2
  by_cases hlt:i<j
  ·obtain⟨k,hk⟩:∃k,(i+j) / 2=k:=⟨_,rfl⟩;have hki:i≤k:=by omega
   have hkj:k<j:=by omega
   obtain⟨bb,off,x,hA,hbl,hx,hcc,_⟩:=(H.below (B0.trans (HB.mono B0.size))).get (k:=k) (by simp only;omega);simp only at hA;subst hA;have c0:wr.cell? ⟨bb,off+k*7,none⟩=some (.int .i64 x.m.i):=hcc 0 _ rfl;have c1:wr.cell? ⟨bb,off+k*7+1,none⟩=some (.slice x.m.g.A x.m.g.l.length x.m.g.c):=hcc 1 _ rfl;have c2:wr.cell? ⟨bb,off+k*7+2,none⟩=some (.int .i64 x.m.t):=hcc 2 _ rfl;have c3:wr.cell? ⟨bb,off+k*7+3,none⟩=some (.string x.m.key):=hcc 3 _ rfl;have c4:wr.cell? ⟨bb,off+k*7+4,none⟩=some (.string x.m.body):=hcc 4 _ rfl;have c5:wr.cell? ⟨bb,off+k*7+5,none⟩=some (.int .i64 x.t):=hcc 5 _ rfl;have c6:wr.cell? ⟨bb,off+k*7+6,none⟩=some (.bool x.f):=hcc 6 _ rfl;have HX:=L_ hx;clear hcc hx;go_wp2_with fail;refine(Bp x y wr).mono ?_;rintro e w' ⟨rfl,hb⟩;have HB2:=L_ (HB.trans (hb.mono HB.size));clear hb;clear c0 c1 c2 c3 c4 c5 c6
   by_cases hc:(wrap64 (x.m.i - y))<0
   ·go_wp2
    go_roundw
    case rel=>exact⟨k+1,j,by congr 1;omega,rfl,by omega,hj,HB2,fun z _ hz=>by
     rw[Nat.add_sub_cancel] at hz;have e:=HX.symm.trans hz;injection e with e
     subst e;exact hc,H2⟩
    case measure=>simp[intOf];omega
   ·go_wp2
    go_roundw
    case rel=>exact⟨i,k,rfl,by congr 1;omega,hki,by omega,HB2,H1,fun z hz=>by
     have e:=HX.symm.trans hz;injection e with e
     subst e;omega⟩
    case measure=>simp[intOf];omega
  ·obtain rfl:i=j:=by omega
   by_cases hin:i<l.length
   ·obtain⟨bb,off,x,hA,hbl,hx,hcc,_⟩:=(H.below (B0.trans (HB.mono B0.size))).get (k:=i) hin;simp only at hA;subst hA;have HX:=L_ hx;have HC0:=L_ (H2 x hx);have c0:wr.cell? ⟨bb,off+i*7,none⟩=some (.int .i64 x.m.i):=hcc 0 _ rfl;have c1:wr.cell? ⟨bb,off+i*7+1,none⟩=some (.slice x.m.g.A x.m.g.l.length x.m.g.c):=hcc 1 _ rfl;have c2:wr.cell? ⟨bb,off+i*7+2,none⟩=some (.int .i64 x.m.t):=hcc 2 _ rfl;have c3:wr.cell? ⟨bb,off+i*7+3,none⟩=some (.string x.m.key):=hcc 3 _ rfl;have c4:wr.cell? ⟨bb,off+i*7+4,none⟩=some (.string x.m.body):=hcc 4 _ rfl;have c5:wr.cell? ⟨bb,off+i*7+5,none⟩=some (.int .i64 x.t):=hcc 5 _ rfl;have c6:wr.cell? ⟨bb,off+i*7+6,none⟩=some (.bool x.f):=hcc 6 _ rfl;clear hcc hx;obtain⟨v,hv⟩:∃v,(wrap64 (x.m.i - y))=v:=⟨_,rfl⟩;have HV:=L_ hv;clear hv;go_wp2_with fail;refine(Bp x y wr).mono ?_;rintro e w' ⟨rfl,hb⟩;have HB2:=L_ (HB.trans (hb.mono HB.size));rw[HV.out];clear hb;clear c0 c1 c2 c3 c4 c5 c6;go_wp2
    go_ret2
    refine⟨i,v==0,by simp,⟨by omega,H1,H2,?_⟩,B0.trans (HB2.mono B0.size)⟩;rw[aar]
    constructor
    ·rintro rfl;exact⟨x,HX,HV⟩
    ·rintro⟨z,hz,h0⟩;have e:=HX.symm.trans hz;injection e with e
     subst e;rw[←HV.out];exact h0
   ·obtain rfl:i=l.length:=by omega
    have HB2:=HB;go_wp2
    go_ret2
    refine⟨l.length,false,by simp,⟨Zh _,H1,H2,?_⟩,B0.trans (HB2.mono B0.size)⟩;simp
end
variable{cur:Array Value}{fo:Func}{O g:Nat}{t:TypeId}
namespace Sl
variable{α:Type}[aj α]
theorem Ku {l:List α}{c:Nat}(x:α)(hi:i≤l.length)(hc:l.length+1≤c)(h3:cur.size=c*aj.sz α)(h4:cur.toList.take (l.length*aj.sz α)=l.flatMap aj.cs) :
  (kF (kF cur ((i+1)*aj.sz α) ((l.drop i).flatMap aj.cs)) (i*aj.sz α) (aj.cs x)).toList.take ((l.length+1)*aj.sz α)=(l.take i++[x]++l.drop i).flatMap aj.cs:=by
 have hx:=aj.len x;have hD:((l.drop i).flatMap aj.cs).length=(l.length - i)*aj.sz α:=by rw[dH,ZK]
 have e1:(i+1)*aj.sz α+(l.length - i)*aj.sz α=(l.length+1)*aj.sz α:=by rw[←Nat.add_mul];congr 1;omega
 have hcs:(l.length+1)*aj.sz α≤c*aj.sz α:=ZR _ hc;have e2:(i+1)*aj.sz α=i*aj.sz α+aj.sz α:=by rw[Nat.succ_mul]
 have h5:cur.toList.take (i*aj.sz α)=(l.take i).flatMap aj.cs:=by
  rw[←kT,←h4,List.take_take,aaf (ZR _ hi)]
 have hA:=gV ((l.drop i).flatMap aj.cs) ((i+1)*aj.sz α) cur (by rw[hD,h3];omega);have hB:=gV (aj.cs x) (i*aj.sz α) (kF cur ((i+1)*aj.sz α) ((l.drop i).flatMap aj.cs)) (by rw[fH,hx,h3];omega);have hl:cur.toList.length=c*aj.sz α:=by rw[ZO,h3]
 rw[hB,hA,hx,←e2]
 have t1:(cur.toList.take ((i+1)*aj.sz α)++(l.drop i).flatMap aj.cs++cur.toList.drop ((i+1)*aj.sz α+((l.drop i).flatMap aj.cs).length)).take (i*aj.sz α)=(l.take i).flatMap aj.cs:=by
  rw[ZN,aac (by rw[Zw,hl];omega),List.take_take,aaf (by omega),h5]
 have t2:(cur.toList.take ((i+1)*aj.sz α)++(l.drop i).flatMap aj.cs++cur.toList.drop ((i+1)*aj.sz α+((l.drop i).flatMap aj.cs).length)).drop ((i+1)*aj.sz α)=(l.drop i).flatMap aj.cs++cur.toList.drop ((l.length+1)*aj.sz α):=by
  rw[ZN,List.drop_append,Zw,hl,aaf (by omega),Nat.sub_self,List.drop_of_length_le (by rw[Zw];omega),aay,List.drop_zero,hD,e1]
 rw[t1,t2,List.flatMap_append,List.flatMap_append,ZQ,List.flatMap_nil,aak];rw[←ZN,aac (by rw[Zn,Zn,hx,hD,dH,Zw,aaf hi];omega),Zz (by rw[Zn,Zn,hx,hD,dH,Zw,aaf hi];omega)]
theorem QF {l:List α}{c:Nat}(x:α)(hi:i≤l.length)(hc:l.length+1≤c)(h3:cur.size=c*aj.sz α)(h5:cur.toList.take (i*aj.sz α)=(l.take i).flatMap aj.cs) :
  (kF (kF cur (i*aj.sz α) (aj.cs x)) ((i+1)*aj.sz α) ((l.drop i).flatMap aj.cs)).toList.take ((l.length+1)*aj.sz α)=(l.take i++[x]++l.drop i).flatMap aj.cs:=by
 have hx:=aj.len x;have hD:((l.drop i).flatMap aj.cs).length=(l.length - i)*aj.sz α:=by rw[dH,ZK]
 have e1:(i+1)*aj.sz α+(l.length - i)*aj.sz α=(l.length+1)*aj.sz α:=by rw[←Nat.add_mul];congr 1;omega
 have hcs:(l.length+1)*aj.sz α≤c*aj.sz α:=ZR _ hc;have e2:(i+1)*aj.sz α=i*aj.sz α+aj.sz α:=by rw[Nat.succ_mul]
 have hB:=gV (aj.cs x) (i*aj.sz α) cur (by rw[hx,h3];omega);have hA:=gV ((l.drop i).flatMap aj.cs) ((i+1)*aj.sz α) (kF cur (i*aj.sz α) (aj.cs x)) (by rw[fH,hD,h3];omega);have hL:((l.take i).flatMap aj.cs).length=i*aj.sz α:=by rw[dH,Zw,aaf hi]
 rw[hA,hB,h5,hD,e1]
 have t1:((l.take i).flatMap aj.cs++aj.cs x++cur.toList.drop (i*aj.sz α+(aj.cs x).length)).take ((i+1)*aj.sz α)=(l.take i).flatMap aj.cs++aj.cs x:=by
  rw[aac (by rw[Zn,hL,hx];omega),Zz (by rw[Zn,hL,hx];omega)]
 rw[t1,List.flatMap_append,List.flatMap_append,ZQ,List.flatMap_nil,aak];rw[aac (by rw[Zn,Zn,hx,hD,hL];omega),Zz (by rw[Zn,Zn,hx,hD,hL];omega)]
end Sl
theorem Bf {cs:Array Value}(h:aF w g t cs):w.shape? g=some (t,cs.size):=by
 unfold World.shape?;unfold aF at h;rw[h]
abbrev tK {α:Type}[aj α](_:List α):TypeId:=aj.ty α
abbrev aZ {α:Type}[aj α](_:List α):TypeId:=aj.sty α
abbrev bJ {α:Type}[aj α](_:List α):Nat:=aj.sz α
theorem Mj {α:Type}[aj α](l:List α):prog.underlying (aZ l)=some (.slice (tK l)):=aj.und
theorem Dw {α:Type}[aj α](l:List α):(prog.info? (tK l)).map (·.size)=some (bJ l):=KJ α
def I4 (α:Type)[aj α](F:Nat):Prop:=∀(s:Sl α) (b:Nat) (w:World) (hs:s.Row w b) (hN:s.l.length≤1000000) (i:Nat) (hi:i≤s.l.length) (x:α) (gv:Nat) (hv:aF w gv (aj.ty α) (aj.cs x).toArray) (hne:∀a,s.A=some a→gv≠a.block) (hb:b≤w.heap.size),
  Calls prog F #[s,(i:Int),.slice (some ⟨gv,0,none⟩) 1 1] w fun e w'=>∃s':Sl α,e=.returned s'∧s'.l=s.l.take i++[x]++s.l.drop i∧s'.Row w' b∧dX w w' s s'
def SH (α:Type)[aj α](O:Nat):Prop:=∀(gv g i c lb cb:Nat) (W:World) (x:α) (cur:Array Value),gv≠g→i+1≤c→cur.size=c*aj.sz α→aF W gv (aj.ty α) (aj.cs x).toArray→aF W g (aj.ty α) cur→(callFunc O #[.slice (some ⟨gv,0,none⟩) 1 1,.slice (some ⟨g,(i+1)*aj.sz α,none⟩) lb cb]).run prog W=.ok (.value false) W
theorem NK (α : Type) [aj α] (hO : prog.funcs[O]? = some fo) (h1 : (fo.name == "runtime.NumGoroutine") = false) (h2 : fo.body.isNone = true) (h3 : Extern.findNext fo = none) (h4 : Extern.find fo = some (Extern.SlicesOverlaps.overlaps #[aj.sty α, aj.sty α] #[4])) : SH α O := by
 intro gv g i c lb cb W x cur hgv hi hc k1 k2;have hp:0<aj.sz α:=aj.pos;have hm:(i+1)*aj.sz α≤c*aj.sz α:=ZR _ hi;rw[run_callFunc_extern hO h1 h2 h3 h4,Lib.run_overlaps_apart W (aj.sty α) 4 (aj.ty α) (aj.und (α:=α)) (aj.sz α) (lF α) ⟨gv,0,none⟩ ⟨g,(i+1)*aj.sz α,none⟩ 1 1 lb cb hgv _ _ _ _ (Bf k1) (Bf k2) (by rw[hc];exact Nat.ne_of_gt (Nat.mul_pos (by omega) aj.pos)) (k1.frozen _) (k1.frozen _)];rfl
theorem FX {α:Type}[aj α]{n:Nat}(hO:SH α O)(hF:prog.funcs[F]?=some fn)(hn:fn.ntmps=n)(h:SH α O→prog.funcs[F]?=some fn→fn.ntmps=n→I4 α F:=by
 intro hO hF hn s b w hs hN i hi x gv hv hne hb;obtain⟨A,c,l⟩:=s;have HS:=L_ hs;have HV:=L_ hv;have HNE:=L_ hne;have hcap:=hs.caps;simp only at hcap hN hi;unfold maxLen at hcap
 have HRV:Hid (Reads w w (bJ l) (some ⟨gv,0,none⟩) [x].length (Sl.row (⟨some ⟨gv,0,none⟩,1,[x]⟩:Sl _))):=L_ ⟨by rw[Sl.jM],fun _=>⟨_,rfl,hv.lt,fun j u hu=>by
  rw[Addr.add_lit];rw[aah];exact(hv.cell j).trans (by simpa[aj.cs,Sl.row] using hu)⟩⟩
 try simp only[aZ,bJ,aj.sty,aj.sz,ZB] at HRV
 clear hs hv hne
 by_cases hin:i=l.length
 ·subst hin;have hnn:l.length+[x].length≤10000000000:=by simp only[ZI,aai];omega
  obtain⟨A',hcut⟩:=MO _ (aZ l) rfl A l.length c l.length (Zh _);simp only[aZ,bJ,aj.sty,aj.sz,ZB] at hcut
  go_enter hF,hn
  go_wp2_with (at_builtin;refine Sl.app rfl (.tmp 23) (.tmp 24) (aZ l) rfl rfl b (⟨A,c,l⟩:Sl _) rfl HS w ⟨some ⟨gv,0,none⟩,1,[x]⟩ rfl HRV hnn hb ?_);intro s' w' h0 h1 h2;have H0:=L_ h0;have H1:=L_ h1;have H2:=L_ h2;clear h0 h1 h2;go_wp2;go_ret;exact⟨s',rfl,by rw[H0.out];simp,H1,H2⟩
 ·obtain⟨g,cur,rfl,hbg,hK,-,-,h3,h4⟩:=HS.parts (by simp only;omega);dsimp only at h3 h4;have hlt:i<l.length:=by omega
  have HK:=L_ hK;have hgv:gv≠g:=HNE _ rfl;have HC:=L_ h3;have H4:=L_ h4;have HSZ:Hid (bJ l=bJ l):=rfl;try simp only[aZ,bJ,aj.sty,aj.sz,ZB] at HSZ
  clear hK h3 h4;have hcut:∀W,(Instr.slice (aZ l) (.slice (some ⟨g,0,none⟩) l.length c) (some ((i:Int))) none none).run prog W=.ok (.slice (some ⟨g,i*bJ l,none⟩) (l.length - i) (c - i)) W:=fun W=>mF _ (aZ l) rfl g l.length c i (by omega) (by omega) W;try simp only[aZ,bJ,aj.sty,aj.sz,ZB] at hcut
  by_cases hroom:l.length+1≤c
  ·have hr1:¬((c:Int)<(l.length:Int)+1):=by omega
   have hct:∀W,(Instr.slice (aZ l) (.slice (some ⟨g,0,none⟩) l.length c) none (some (.int .i64 ((l.length:Int)+1))) none).run prog W=.ok (.slice (some ⟨g,0,none⟩) (l.length+1) c) W:=fun W=>uO _ (aZ l) rfl (some ⟨g,0,none⟩) l.length c (l.length+1) hroom W;try simp only[aZ,bJ,aj.sty,aj.sz,ZB] at hct
   have hc1:∀W,(Instr.slice (aZ l) (.slice (some ⟨g,0,none⟩) (l.length+1) c) (some (.int .i64 ((i:Int)+1))) none none).run prog W=.ok (.slice (some ⟨g,(i+1)*bJ l,none⟩) (l.length+1 - (i+1)) (c - (i+1))) W:=fun W=>mF _ (aZ l) rfl g (l.length+1) c (i+1) (by omega) (by omega) W;try simp only[aZ,bJ,aj.sty,aj.sz,ZB] at hc1
   have hc0:∀W,(Instr.slice (aZ l) (.slice (some ⟨g,0,none⟩) (l.length+1) c) (some ((i:Int))) none none).run prog W=.ok (.slice (some ⟨g,i*bJ l,none⟩) (l.length+1 - i) (c - i)) W:=fun W=>mF _ (aZ l) rfl g (l.length+1) c i (by omega) (by omega) W;try simp only[aZ,bJ,aj.sty,aj.sz,ZB] at hc0
   have hov:=fun lb cb W k1 k2=>hO gv g i c lb cb W x cur hgv (by omega) HC k1 k2;have hov0:=fun lb cb=>hov lb cb w HV HK;try simp only[aZ,bJ,aj.sty,aj.sz,ZB] at hov0
   clear hov
   go_enter hF,hn
   go_wp2_with (simp only[hov0]);have HS0:Hid True:=trivial;have hw1:IntKind.i64.wrap ((i:Int)+1)=(i:Int)+1:=by rw[IntKind.wrap_i64];omega
   refine eH 8 (fun _=>True) (by kernel_rfl) (by kernel_rfl) ?_;refine bL (i:=0) (v:=?_) rfl (by kernel_rfl) (fun _ _ _ h=>h) (Or.inl ⟨by rfl,?_⟩) HS0 ?_
   rotate_left
   ·((intro w hSw;(try dsimp only at hSw);go_simp;try simp only[hw1])<;>with_reducible rfl)
   try simp only[Act.put,aaI,aaJ,aaK]
   refine bL (i:=1) (v:=?_) rfl (by kernel_rfl) (fun _ _ _ h=>h) (Or.inl ⟨by rfl,?_⟩) HS0 ?_
   rotate_left
   ·((intro w hSw;(try dsimp only at hSw);go_simp;try simp only[hw1])<;>with_reducible rfl)
   try simp only[Act.put,aaI,aaJ,aaK]
   refine bL (i:=2) (v:=?_) rfl (by kernel_rfl) (fun _ _ _ h=>h) (Or.inl ⟨by rfl,?_⟩) HS0 ?_
   rotate_left
   ·((intro w hSw;(try dsimp only at hSw);go_simp;try simp only[hw1])<;>with_reducible rfl)
   try simp only[Act.put,aaI,aaJ,aaK]
   refine bL (i:=3) (v:=?_) rfl (by kernel_rfl) (fun _ _ _ h=>h) (Or.inl ⟨by rfl,?_⟩) HS0 ?_
   rotate_left
   ·((intro w hSw;(try dsimp only at hSw);go_simp;try simp only[hw1])<;>with_reducible rfl)
   try simp only[Act.put,aaI,aaJ,aaK]
   refine bL (i:=4) (v:=?_) rfl (by kernel_rfl) (fun _ _ _ h=>h) (Or.inl ⟨by rfl,?_⟩) HS0 ?_
   rotate_left
   ·((intro w hSw;(try dsimp only at hSw);go_simp;try simp only[hc1])<;>with_reducible rfl)
   try simp only[Act.put,aaI,aaJ,aaK]
   refine bL (i:=5) (v:=?_) rfl (by kernel_rfl) (fun _ _ _ h=>h) (Or.inl ⟨by rfl,?_⟩) HS0 ?_
   rotate_left
   ·((intro w hSw;(try dsimp only at hSw);go_simp;try simp only[hc0])<;>with_reducible rfl)
   try simp only[Act.put,aaI,aaJ,aaK]
   refine bL (i:=6) (v:=?_) rfl (by kernel_rfl) (fun _ _ _ h=>h) (Or.inl ⟨by rfl,?_⟩) HS0 ?_
   rotate_left
   ·((intro w hSw;(try dsimp only at hSw);go_simp;try simp only[hc0])<;>with_reducible rfl)
   try simp only[Act.put,aaI,aaJ,aaK]
   refine bL (i:=7) (v:=?_) rfl (by kernel_rfl) (fun _ _ _ h=>h) (Or.inl ⟨by rfl,?_⟩) HS0 ?_
   rotate_left
   ·((intro w hSw;(try dsimp only at hSw);go_simp;try simp only[hc0])<;>with_reducible rfl)
   try simp only[Act.put,aaI,aaJ,aaK]
   refine lH (by kernel_rfl) ?_;have HK1:=L_ HK.drew;have HV1:=L_ HV.drew;have hD0:((l.drop i).flatMap aj.cs).length=(l.length - i)*bJ l:=by rw[Sl.dH,ZK]<;>rfl
   have hD:=hD0;try simp only[aZ,bJ,aj.sty,aj.sz,ZB] at hD
   have hsz:cur.size=c*bJ l:=HC;try simp only[aZ,bJ,aj.sty,aj.sz,ZB] at hsz
   have hcu:∀W:World,aF W g (tK l) cur→∀j,j<c*bJ l→(W.cell? ⟨g,j,none⟩).isSome=true:=fun W hk j hj=>by rw[hk.cell,ZM (by first|omega|(simp only[bJ,aj.sz,ZB] at *;first|omega|(simp only[bJ,aj.sz,ZB] at *;omega)))]<;>rfl
   try simp only[aZ,bJ,aj.sty,aj.sz,ZB] at hcu
   have hcp1:∀ty,(Builtin.copy_ #[(aZ l),(aZ l)] ty #[.slice (some ⟨g,(i+1)*bJ l,none⟩) (l.length - i) (c - (i+1)),.slice (some ⟨g,i*bJ l,none⟩) (l.length+1 - i) (c - i)]).run prog w.drew=.ok (goInt ((l.length - i:Nat):Int)) (w.drew.setCells g ((i+1)*bJ l) ((l.drop i).flatMap aj.cs)):=fun ty=>
    mJ w.drew (aZ l) (aZ l) ty (tK l) (bJ l) g ((i+1)*bJ l) (l.length - i) (c - (i+1)) ⟨g,i*bJ l,none⟩ (l.length+1 - i) (c - i) _ (Mj l) (Dw l) (l.length - i) (by simp only[Nat.min_def];split<;>omega) hD0
     (fun j v hj=>by
      rw[Addr.add_lit,HK1.out.cell]
      have h5:cur.toList[i*bJ l+j]?=some v:=by
       try simp only[aZ,bJ,aj.sty,aj.sz,ZB]
       have h6:=H4.out;have hjl:j<(l.length - i)*bJ l:=Nat.lt_of_lt_of_eq (Zo.1 hj).1 hD0;try simp only[aZ,bJ,aj.sty,aj.sz,ZB] at hjl
       rw[←Sl.mW,aaj] at hj
       have h7:(cur.toList.take (l.length*bJ l))[i*bJ l+j]?=some v:=by
        try simp only[aZ,bJ,aj.sty,aj.sz,ZB]
        have e:=(congrArg (fun t=>t[i*bJ l+j]?) h6).trans hj;try simp only[aZ,bJ,aj.sty,aj.sz,ZB] at e
        simpa only[bJ,aj.sz,ZB] using e
       try simp only[aZ,bJ,aj.sty,aj.sz,ZB] at h7
       rw[aav] at h7
       split at h7
       ·exact h7
       ·cases h7
      try simp only[aZ,bJ,aj.sty,aj.sz,ZB] at h5
      simpa[bJ,aj.sz] using h5)
     (fun j hj=>hcu _ HK1 _ (by rw[hD] at hj;first|omega|(simp only[bJ,aj.sz,ZB] at *;omega))) (fun j hj=>HK1.frozen _) (fun v hv=>Sl.row_one (⟨none,0,l.drop i⟩:Sl _) v hv)
   obtain⟨cur1,hcur1⟩:∃cur1,kF cur ((i+1)*bJ l) ((l.drop i).flatMap aj.cs)=cur1:=⟨_,rfl⟩;have HK2:Hid (aF (w.drew.setCells g ((i+1)*bJ l) ((l.drop i).flatMap aj.cs)) g (tK l) cur1):=L_ (by rw[←hcur1];exact aF.setCells (w:=w) _ _ _ _ HK1);have HG2:Hid (w.grownBy (w.drew.setCells g ((i+1)*bJ l) ((l.drop i).flatMap aj.cs)) (some g)):=L_ (dW HK.lt _ _ _ (kN (World.grownBy.refl w _)));have HV2:Hid (aF (w.drew.setCells g ((i+1)*bJ l) ((l.drop i).flatMap aj.cs)) gv (tK l) (aj.cs x).toArray):=L_ (HV.grown HG2 (by simpa using hgv));have hs1:cur1.size=c*bJ l:=by rw[←hcur1,fH];exact HC
   have HCU1:=L_ hcur1;obtain⟨W,hW⟩:∃Y,w.drew.setCells g ((i+1)*bJ l) ((l.drop i).flatMap aj.cs)=Y:=⟨_,rfl⟩;rw[hW] at hcp1 HK2 HG2 HV2;clear hW;try simp only[aZ,bJ,aj.sty,aj.sz,ZB] at hcp1
   go_wp2_with (at_builtin;refine sS _ rfl _ _ (aZ l) (aZ l) rfl _ _ rfl rfl (hcp1 _) ?_);clear hcp1
   have hcp2:∀ty,(Builtin.copy_ #[(aZ l),(aZ l)] ty #[.slice (some ⟨g,i*bJ l,none⟩) (l.length+1 - i) (c - i),.slice (some ⟨gv,0,none⟩) 1 1]).run prog W=.ok (goInt ((1:Nat):Int)) (W.setCells g (i*bJ l) (aj.cs x)):=fun ty=>
    mJ W (aZ l) (aZ l) ty (tK l) (bJ l) g (i*bJ l) (l.length+1 - i) (c - i) ⟨gv,0,none⟩ 1 1 _ (Mj l) (Dw l) 1 (by simp only[Nat.min_def];split<;>omega) (by rw[aj.len]<;>rfl)
     (fun j v hj=>by
      rw[Addr.add_lit,aah,HV2.out.cell];simpa[aj.cs] using hj)
     (fun j hj=>by
      have hj2:j<bJ l:=by rw[aj.len] at hj;exact hj
      try simp only[aZ,bJ,aj.sty,aj.sz,ZB] at hj2
      rw[HK2.out.cell,ZM (by rw[hs1];first|omega|(simp only[bJ,aj.sz,ZB] at *;omega))];rfl) (fun j hj=>HK2.frozen _) (aj.one x)
   have HK3:=L_ (aF.setCells (w:=w) (aj.cs x) (i*bJ l) W cur1 HK2);have HG3:Hid (w.grownBy (W.setCells g (i*bJ l) (aj.cs x)) (some g)):=L_ (dW HK.lt _ _ _ HG2);obtain⟨W3,hW3⟩:∃Y,W.setCells g (i*bJ l) (aj.cs x)=Y:=⟨_,rfl⟩;rw[hW3] at hcp2 HK3 HG3;clear hW3;try simp only[aZ,bJ,aj.sty,aj.sz,ZB] at hcp2
   rw[hcp2];go_wp2;go_ret;have hll:(l.take i++[x]++l.drop i).length=l.length+1:=by simp only[Zn,Zw,ZK,ZI,aai];omega
   refine⟨⟨some ⟨g,0,none⟩,c,l.take i++[x]++l.drop i⟩,by simp only[hll];rfl,rfl,Sl.row_of hbg HK3 (by rw[hll];exact hroom) (by unfold maxLen;omega) (by rw[fH];exact hs1) (by rw[hll,←HCU1.out];exact Sl.Ku x (by omega) hroom HC H4),⟨by simpa[Value.ownBlock] using HG3.out,Or.inl (by simp[Value.ownBlock])⟩⟩
  ·have hr1:(c:Int)<(l.length:Int)+1:=by omega
   have hct:=uO _ (aZ l) rfl (some ⟨g,0,none⟩) l.length c i (by omega);try simp only[aZ,bJ,aj.sty,aj.sz,ZB] at hct
   obtain⟨cur',G,hap,hG,hGn,hGm,hG4⟩:=Gv (aZ l) rfl w g i c (l.length+1 - i) l.length l cur HK H4 (by omega) rfl (by omega) (by omega) (by omega);simp only[aZ,bJ,aj.sty,aj.sz,ZB] at hap;rw[show((l.length+1 - i:Nat):Int)=(l.length:Int)+1 - (i:Int) by omega,show i+(l.length+1 - i)=l.length+1 by omega] at hap;rw[show i+(l.length+1 - i)=l.length+1 by omega] at hGn;have hkb:(0:Int)≤(l.length:Int)+1 - (i:Int)∧(l.length:Int)+1 - (i:Int)≤2000000:=by omega
   have HG4:=L_ hG4;clear hG4;have hc0:∀W,(Instr.slice (aZ l) (.slice (some ⟨w,0,none⟩) (l.length+1) G) (some ((i:Int))) none none).run prog W=.ok (.slice (some ⟨w,i*bJ l,none⟩) (l.length+1 - i) (G - i)) W:=fun W=>mF _ (aZ l) rfl w.heap.size (l.length+1) G i (by omega) (by omega) W;try simp only[aZ,bJ,aj.sty,aj.sz,ZB] at hc0
   have hc1:∀W,(Instr.slice (aZ l) (.slice (some ⟨w,0,none⟩) (l.length+1) G) (some (.int .i64 ((i:Int)+1))) none none).run prog W=.ok (.slice (some ⟨w,(i+1)*bJ l,none⟩) (l.length - i) (G - (i+1))) W:=fun W=>by
    have h:=mF _ (aZ l) rfl w.heap.size (l.length+1) G (i+1) (by omega) (by omega) W;rw[show l.length+1 - (i+1)=l.length - i by omega] at h;exact h
   try simp only[aZ,bJ,aj.sty,aj.sz,ZB] at hc1
   have HK0:Hid (aF (w.drew.alloc (.cells cur' (tK l))) g (tK l) cur):=L_ (HK.drew.alloc _);try simp only[aZ,bJ,aj.sty,aj.sz,ZB] at HK0
   have HV0:Hid (aF (w.drew.alloc (.cells cur' (tK l))) gv (tK l) (aj.cs x).toArray):=L_ (HV.drew.alloc _);try simp only[aZ,bJ,aj.sty,aj.sz,ZB] at HV0
   have HN0:Hid (aF (w.drew.alloc (.cells cur' (tK l))) w (tK l) cur'):=L_ (aF.new w.drew _ _);try simp only[aZ,bJ,aj.sty,aj.sz,ZB] at HN0
   have HB0:Hid (Below w w (w.drew.alloc (.cells cur' (tK l)))):=L_ ((aaO _ w).drew.alloc (Zh _) _);try simp only[aZ,bJ,aj.sty,aj.sz,ZB] at HB0
   have hgs:g≠w.heap.size:=by have:=HK.lt;omega
   have hvs:gv≠w.heap.size:=by have:=HV.lt;omega
   have hwb:∀{W:World} {vs:List Value} {o:Nat},Below w w W→Below w w (W.setCells w o vs):=by
    intro W vs
    induction vs generalizing W with
    |nil=>intro o h;exact h
    |cons a r ih=>intro o h;exact ih (h.setCell (Zh _) a)
   have hother:∀{g':Nat} {cs':Array Value},g'≠w.heap.size→∀(vs:List Value) (o:Nat) (W:World),aF W g' (tK l) cs'→aF (W.setCells w o vs) g' (tK l) cs':=by
    try simp only[aZ,bJ,aj.sty,aj.sz,ZB]
    intro g' cs' hne vs
    induction vs with
    |nil=>intro o W h;exact h
    |cons a r ih=>intro o W h;exact ih _ _ (h.far hne a)
   try simp only[aZ,bJ,aj.sty,aj.sz,ZB] at hother
   go_enter hF,hn
   go_wp2_with (at_builtin;refine wu _ rfl _ _ (aZ l) 3 rfl _ _ rfl rfl hap ?_);rw[show(w.alloc (.cells cur' (tK l))).drew=w.drew.alloc (.cells cur' (tK l)) from rfl];generalize w.drew.alloc (.cells cur' (tK l))=W0 at *;clear hap
   have hcp1:∀ty,(Builtin.copy_ #[(aZ l),(aZ l)] ty #[.slice (some ⟨w,i*bJ l,none⟩) (l.length+1 - i) (G - i),.slice (some ⟨gv,0,none⟩) 1 1]).run prog W0=.ok (goInt ((1:Nat):Int)) (W0.setCells w (i*bJ l) (aj.cs x)):=fun ty=>
    mJ W0 (aZ l) (aZ l) ty (tK l) (bJ l) w (i*bJ l) (l.length+1 - i) (G - i) ⟨gv,0,none⟩ 1 1 _ (Mj l) (Dw l) 1 (by simp only[Nat.min_def];split<;>omega) (by rw[aj.len]<;>rfl)
     (fun j v hj=>by
      rw[Addr.add_lit,aah,HV0.out.cell];simpa[aj.cs] using hj)
     (fun j hj=>by
      have hj2:j<bJ l:=by rw[aj.len] at hj;exact hj
      try simp only[aZ,bJ,aj.sty,aj.sz,ZB] at hj2
      rw[HN0.out.cell,ZM (by rw[hG];first|omega|(simp only[bJ,aj.sz,ZB] at *;omega))];rfl) (fun j hj=>HN0.frozen _) (aj.one x)
   obtain⟨W2,hW2⟩:∃Y,W0.setCells w (i*bJ l) (aj.cs x)=Y:=⟨_,rfl⟩;rw[hW2] at hcp1;try simp only[aZ,bJ,aj.sty,aj.sz,ZB] at hcp1
   rw[hcp1];clear hcp1;obtain⟨cur1,hcur1⟩:∃cur1,kF cur' (i*bJ l) (aj.cs x)=cur1:=⟨_,rfl⟩;have hs1:cur1.size=G*bJ l:=by rw[←hcur1,fH];exact hG
   have HCU1:=L_ hcur1;have HN1:Hid (aF (W0.setCells w (i*bJ l) (aj.cs x)).drew w (tK l) cur1):=L_ (by rw[←hcur1];exact(aF.setCells (w:=w) _ _ _ _ HN0).drew);have HK1:Hid (aF (W0.setCells w (i*bJ l) (aj.cs x)).drew g (tK l) cur):=L_ (hother hgs _ _ _ HK0).drew;have HB1:Hid (Below w w (W0.setCells w (i*bJ l) (aj.cs x)).drew):=L_ (hwb HB0).drew;clear hcur1 HK0 HV0 HN0 HB0;go_wp2_with fail;have HS0:Hid True:=trivial;have hw1:IntKind.i64.wrap ((i:Int)+1)=(i:Int)+1:=by rw[IntKind.wrap_i64];omega
   refine eH 8 (fun _=>True) (by kernel_rfl) (by kernel_rfl) ?_;refine bL (i:=0) (v:=?_) rfl (by kernel_rfl) (fun _ _ _ h=>h) (Or.inl ⟨by rfl,?_⟩) HS0 ?_
   rotate_left
   ·((intro w hSw;(try dsimp only at hSw);go_simp;try simp only[hw1])<;>with_reducible rfl)
   try simp only[Act.put,aaI,aaJ,aaK]
   refine bL (i:=1) (v:=?_) rfl (by kernel_rfl) (fun _ _ _ h=>h) (Or.inl ⟨by rfl,?_⟩) HS0 ?_
   rotate_left
   ·((intro w hSw;(try dsimp only at hSw);go_simp;try simp only[hw1])<;>with_reducible rfl)
   try simp only[Act.put,aaI,aaJ,aaK]
   refine bL (i:=2) (v:=?_) rfl (by kernel_rfl) (fun _ _ _ h=>h) (Or.inl ⟨by rfl,?_⟩) HS0 ?_
   rotate_left
   ·((intro w hSw;(try dsimp only at hSw);go_simp;try simp only[hw1])<;>with_reducible rfl)
   try simp only[Act.put,aaI,aaJ,aaK]
   refine bL (i:=3) (v:=?_) rfl (by kernel_rfl) (fun _ _ _ h=>h) (Or.inl ⟨by rfl,?_⟩) HS0 ?_
   rotate_left
   ·((intro w hSw;(try dsimp only at hSw);go_simp;try simp only[hw1])<;>with_reducible rfl)
   try simp only[Act.put,aaI,aaJ,aaK]
   refine bL (i:=4) (v:=?_) rfl (by kernel_rfl) (fun _ _ _ h=>h) (Or.inl ⟨by rfl,?_⟩) HS0 ?_
   rotate_left
   ·((intro w hSw;(try dsimp only at hSw);go_simp;try simp only[hc1])<;>with_reducible rfl)
   try simp only[Act.put,aaI,aaJ,aaK]
   refine bL (i:=5) (v:=?_) rfl (by kernel_rfl) (fun _ _ _ h=>h) (Or.inl ⟨by rfl,?_⟩) HS0 ?_
   rotate_left
   ·((intro w hSw;(try dsimp only at hSw);go_simp;try simp only[hcut])<;>with_reducible rfl)
   try simp only[Act.put,aaI,aaJ,aaK]
   refine bL (i:=6) (v:=?_) rfl (by kernel_rfl) (fun _ _ _ h=>h) (Or.inl ⟨by rfl,?_⟩) HS0 ?_
   rotate_left
   ·((intro w hSw;(try dsimp only at hSw);go_simp;try simp only[hcut])<;>with_reducible rfl)
   try simp only[Act.put,aaI,aaJ,aaK]
   refine bL (i:=7) (v:=?_) rfl (by kernel_rfl) (fun _ _ _ h=>h) (Or.inl ⟨by rfl,?_⟩) HS0 ?_
   rotate_left
   ·((intro w hSw;(try dsimp only at hSw);go_simp;try simp only[hcut])<;>with_reducible rfl)
   try simp only[Act.put,aaI,aaJ,aaK]
   refine lH (by kernel_rfl) ?_;rw[hW2] at HN1 HK1 HB1;clear hW2;generalize W2.drew=W1 at *;have hD0:((l.drop i).flatMap aj.cs).length=(l.length - i)*bJ l:=by rw[Sl.dH,ZK]<;>rfl
   have hD:=hD0;try simp only[aZ,bJ,aj.sty,aj.sz,ZB] at hD
   have hsz:cur.size=c*bJ l:=HC;try simp only[aZ,bJ,aj.sty,aj.sz,ZB] at hsz
   have hcp2:∀ty,(Builtin.copy_ #[(aZ l),(aZ l)] ty #[.slice (some ⟨w,(i+1)*bJ l,none⟩) (l.length - i) (G - (i+1)),.slice (some ⟨g,i*bJ l,none⟩) (l.length - i) (c - i)]).run prog W1=.ok (goInt ((l.length - i:Nat):Int)) (W1.setCells w ((i+1)*bJ l) ((l.drop i).flatMap aj.cs)):=fun ty=>
    mJ W1 (aZ l) (aZ l) ty (tK l) (bJ l) w ((i+1)*bJ l) (l.length - i) (G - (i+1)) ⟨g,i*bJ l,none⟩ (l.length - i) (c - i) _ (Mj l) (Dw l) (l.length - i) (by simp only[Nat.min_def];split<;>omega) hD0
     (fun j v hj=>by
      rw[Addr.add_lit,HK1.out.cell]
      have h5:cur.toList[i*bJ l+j]?=some v:=by
       try simp only[aZ,bJ,aj.sty,aj.sz,ZB]
       have h6:=H4.out;rw[←Sl.mW,aaj] at hj
       have h7:(cur.toList.take (l.length*bJ l))[i*bJ l+j]?=some v:=by
        try simp only[aZ,bJ,aj.sty,aj.sz,ZB]
        have e:=(congrArg (fun t=>t[i*bJ l+j]?) h6).trans hj;try simp only[aZ,bJ,aj.sty,aj.sz,ZB] at e
        simpa only[bJ,aj.sz,ZB] using e
       try simp only[aZ,bJ,aj.sty,aj.sz,ZB] at h7
       rw[aav] at h7
       split at h7
       ·exact h7
       ·cases h7
      try simp only[aZ,bJ,aj.sty,aj.sz,ZB] at h5
      simpa[bJ,aj.sz] using h5)
     (fun j hj=>by
      rw[hD] at hj;rw[HN1.out.cell,ZM (by rw[hs1];first|omega|(simp only[bJ,aj.sz,ZB] at *;omega))];rfl) (fun j hj=>HN1.frozen _) (fun v hv=>Sl.row_one (⟨none,0,l.drop i⟩:Sl _) v hv)
   have HN2:=L_ (aF.setCells (w:=w) ((l.drop i).flatMap aj.cs) ((i+1)*bJ l) W1 cur1 HN1);have HB2:Hid (Below w w (W1.setCells w ((i+1)*bJ l) ((l.drop i).flatMap aj.cs))):=L_ (hwb HB1);obtain⟨W4,hW4⟩:∃Y,W1.setCells w ((i+1)*bJ l) ((l.drop i).flatMap aj.cs)=Y:=⟨_,rfl⟩;rw[hW4] at hcp2 HN2 HB2;clear hW4;try simp only[aZ,bJ,aj.sty,aj.sz,ZB] at hcp2
   go_wp2;go_ret;have hll:(l.take i++[x]++l.drop i).length=l.length+1:=by simp only[Zn,Zw,ZK,ZI,aai];omega
   refine⟨⟨some ⟨w,0,none⟩,G,l.take i++[x]++l.drop i⟩,by simp only[hll];rfl,rfl,Sl.row_of hb HN2 (by rw[hll];exact hGn) hGm (by rw[fH];exact hs1) (by rw[hll,←HCU1.out];exact Sl.QF x (by omega) hGn hG HG4),⟨bV HB2 _,Or.inr ⟨w,rfl,Zh _⟩⟩⟩):I4 α F:=h hO hF hn
theorem VF:SH lT 261:=NK lT func261 (by kernel_rfl) (by kernel_rfl) (by kernel_rfl) (by kernel_rfl)
theorem qZ:I4 lT 188:=FX VF func188 ntmps188
theorem UK:SH mM 310:=NK mM func310 (by kernel_rfl) (by kernel_rfl) (by kernel_rfl) (by kernel_rfl)
theorem zB:I4 mM 282:=FX UK func282 ntmps282
theorem Vd:SH rF 336:=NK rF func336 (by kernel_rfl) (by kernel_rfl) (by kernel_rfl) (by kernel_rfl)
theorem zD:I4 rF 321:=FX Vd func321 ntmps321
theorem U6:SH dI 277:=NK dI func277 (by kernel_rfl) (by kernel_rfl) (by kernel_rfl) (by kernel_rfl)
theorem zM:I4 dI 217:=FX U6 func217 ntmps217
theorem VB:SH Int 346:=NK Int func346 (by kernel_rfl) (by kernel_rfl) (by kernel_rfl) (by kernel_rfl)
theorem zH:I4 Int 339:=FX VB func339 ntmps339
variable{k:Nat}
theorem Wl [aj α](l:List α):(prog.info? (tK l)).map (fun i=>(i.zero,i.size,i.bytes))=some (some (aj.zero α),bJ l,aj.bytes α):=aj.info
abbrev NA {α:Type}[aj α](_:List α):Value:=aj.zero α
theorem Xn [aj α](l:List α):∀w,(zeroValue (tK l)).run prog w=.ok (NA l) w:=tN α
theorem R7 {z:Array Value}(h:z.toList.all (·.oneCell')=true):∀u∈(Builtin.zeroCells z k).toList,u.oneCell'=true:=by
 intro u hu;simp only[Builtin.zeroCells,Array.toList_map,ZA,Array.mem_toList_iff,Array.mem_range] at hu;obtain⟨i,hi,rfl⟩:=hu
 have hz:0<z.size:=by
  rcases aao z.size with h0|h0
  ·rw[h0] at hi;simp at hi
  ·exact h0
 have hm:=Nat.mod_lt i hz;rw[getElem!_pos z (i % z.size) hm];exact aam.1 h _ (Array.getElem_mem_toList hm)
def Sn (α:Type)[aj α](F:Nat):Prop:=∀(s:Sl α) (b:Nat) (w:World) (hs:s.Row w b) (hN:s.l.length≤1000000) (i:Nat) (hi:i<s.l.length),
  Calls prog F #[s,(i:Int),.int .i64 ((i:Int)+1)] w fun e w'=>∃s':Sl α,e=.returned s'∧s'.l=s.l.take i++s.l.drop (i+1)∧s'.Row w' b∧dX w w' s s'
theorem Tw [aj α]{n:Nat}(hF:prog.funcs[F]?=some fn)(hn:fn.ntmps=n)(h:prog.funcs[F]?=some fn→fn.ntmps=n→Sn α F:=by
 intro hF hn s b w hs hN i hi;obtain⟨A,c,l⟩:=s;have hcap:=hs.caps;obtain⟨g,cur,hA,hbg,hK,-,-,h3,h4⟩:=hs.parts (by omega);simp only at hcap hN hi hA h3 h4;subst hA;unfold maxLen at hcap;have HK:=L_ hK;have HC:=L_ h3;have H4:Hid (cur.toList.take (l.length*bJ l)=l.flatMap aj.cs):=L_ h4;have hsz:cur.size=c*bJ l:=h3;clear hK h3 h4 hs;obtain⟨v3,hcut3⟩:=Xe _ (aZ l) rfl (some ⟨g,0,none⟩) l.length c i (by omega) (by omega);simp only[aZ,bJ,aj.sty,aj.sz] at hcut3;have hct:=uO _ (aZ l) rfl (some ⟨g,0,none⟩) l.length c i (by omega);try simp only[aZ,bJ,aj.sty,aj.sz] at hct
 have hw1:IntKind.i64.wrap ((i:Int)+1)=(i:Int)+1:=by rw[IntKind.wrap_i64];omega
 have hD:((l.drop (i+1)).flatMap aj.cs).length=(l.length - (i+1))*bJ l:=by rw[Sl.dH,ZK]<;>rfl
 have hL:((l.take i).flatMap aj.cs).length=i*bJ l:=by rw[Sl.dH,Zw,aaf (by first|omega|(simp only[bJ,aj.sz] at *;omega))]<;>rfl
 have H5:Hid (cur.toList.take (i*bJ l)=(l.take i).flatMap aj.cs):=L_ (by
  have h:=Sl.kT l i;have h6:=H4.out;rw[←h,←h6,List.take_take,aaf (ZR _ (by omega))];try rfl)
 obtain⟨a2,hc2,ha2⟩:=jD _ (aZ l) rfl g l.length c (i+1) (by omega) (by omega);try simp only[aZ,bJ,aj.sty,aj.sz] at hc2
 have hc2':∀W,(Instr.slice (aZ l) (.slice (some ⟨g,0,none⟩) l.length c) (some (.int .i64 ((i:Int)+1))) none none).run prog W=.ok (.slice (some a2) (l.length - (i+1)) (c - (i+1))) W:=hc2;try simp only[aZ,bJ,aj.sty,aj.sz] at hc2'
 obtain⟨m,hm⟩:∃m,l.length - 1=m:=⟨_,rfl⟩;obtain⟨i0,hi0,hz0,hz1,hz2⟩:=info_parts (Wl l);have hz1':i0.size=bJ l:=hz1
 have hap:∀(W:World),aF W g (tK l) cur→∀ty,(Builtin.append_ #[(aZ l),(aZ l)] ty #[.slice (some ⟨g,0,none⟩) i c,.slice (some a2) (l.length - (i+1)) (c - (i+1))]).run prog W=.ok (.slice (some ⟨g,0,none⟩) m c) (W.setRow g (cur.toList.take (i*bJ l)++(l.drop (i+1)).flatMap aj.cs++cur.toList.drop (i*bJ l+((l.drop (i+1)).flatMap aj.cs).length)).toArray):=by
  intro W hk ty
  have h:=run_append_room (P:=prog) W (aZ l) ty (tK l) i0 (Mj l) hi0 g i c cur hk a2 (l.length - (i+1)) (c - (i+1)) ((l.drop (i+1)).flatMap aj.cs) (by rw[hz1'];exact hD) (fun j u hj=>by
   have hjl:j<(l.length - (i+1))*bJ l:=Nat.lt_of_lt_of_eq (Zo.1 hj).1 hD;rw[ha2 (by first|omega|(simp only[bJ,aj.sz] at *;omega)),Addr.add_lit,hk.cell];rw[←Sl.mW,aaj] at hj
   have h7:(cur.toList.take (l.length*bJ l))[(i+1)*bJ l+j]?=some u:=by
    have e:=(congrArg (fun t=>t[(i+1)*bJ l+j]?) H4).trans hj;simpa only[bJ,aj.sz,ZB] using e
   rw[aav] at h7
   split at h7
   ·show cur[(i+1)*bJ l+j]?=some u;simpa[bJ,aj.sz] using h7
   ·cases h7) (fun u hu=>Sl.row_one (⟨none,0,l.drop (i+1)⟩:Sl _) u hu) (by omega) (by rw[hz1',hD,hsz,←Nat.add_mul];exact ZR _ (by omega))
  rw[hz1',show i+(l.length - (i+1))=m by omega] at h;exact h
 obtain⟨cur1,hcur1⟩:∃cur1,(cur.toList.take (i*bJ l)++(l.drop (i+1)).flatMap aj.cs++cur.toList.drop (i*bJ l+((l.drop (i+1)).flatMap aj.cs).length)).toArray=cur1:=⟨_,rfl⟩;rw[hcur1] at hap;try simp only[aZ,bJ,aj.sty,aj.sz] at hap
 have hs1:cur1.size=c*bJ l:=by
  rw[←hcur1,List.size_toArray,Zn,Zn,ZK,Zw,hD,ZO,hsz,aaf (ZR _ (by omega)),←Nat.add_mul];have:(i+(l.length - (i+1)))*bJ l≤c*bJ l:=ZR _ (by first|omega|(simp only[bJ,aj.sz] at *;omega))
  first|omega|(simp only[bJ,aj.sz] at *;omega)
 have hcm:∀W,(Instr.slice (aZ l) (.slice (some ⟨g,0,none⟩) m c) (some ((m:Int))) (some ((l.length:Int))) none).run prog W=.ok (.slice (some ⟨g,m*bJ l,none⟩) 1 (c - m)) W:=fun W=>by
  have h:=QC _ (aZ l) rfl g m c m l.length (by omega) (by omega) (by omega) W;rw[show l.length - m=1 by omega] at h;exact h
 try simp only[aZ,bJ,aj.sty,aj.sz] at hcm
 have HK1:Hid (aF (w.drew.setRow g cur1) g (tK l) cur1):=L_ (HK.drew.setRow _);have HG1:Hid (w.grownBy (w.drew.setRow g cur1) (some g)):=L_ (Dm (kN (World.grownBy.refl w _)) _);obtain⟨zs,hzs,hzo⟩:∃zs,(Builtin.zeroCells (NA l).cells 1).toList=zs∧∀u∈zs,u.oneCell'=true:=⟨_,rfl,R7 (by kernel_rfl)⟩;have hzl:zs.length=bJ l:=by rw[←hzs,ZO,size_zeroCells,aj.zc]<;>rfl
 have hcl:∀ty,(Builtin.clear_ #[(aZ l)] ty #[.slice (some ⟨g,m*bJ l,none⟩) 1 (c - m)]).run prog (w.drew.setRow g cur1)=.ok (.tuple #[]) ((w.drew.setRow g cur1).setCells g (m*bJ l) zs):=fun ty=>
  nS _ (aZ l) (tK l) ty (NA l) (Mj l) (Xn l) g (m*bJ l) 1 (c - m) zs hzs hzo (by first|omega|(simp only[bJ,aj.sz] at *;omega)) (fun j hj=>by
   rw[hzl] at hj;rw[HK1.out.cell,ZM (by rw[hs1];first|omega|(simp only[bJ,aj.sz] at *;omega))];rfl) (fun j hj=>HK1.frozen _)
 try simp only[aZ,bJ,aj.sty,aj.sz] at hcl
 have HK2:=L_ (aF.setCells (w:=w) zs (m*bJ l) (w.drew.setRow g cur1) cur1 HK1);have HG2:Hid (w.grownBy ((w.drew.setRow g cur1).setCells g (m*bJ l) zs) (some g)):=L_ (dW HK.lt _ _ _ HG1)
 have HFIN:Hid ((kF cur1 (m*bJ l) zs).toList.take (m*bJ l)=(l.take i++l.drop (i+1)).flatMap aj.cs):=L_ (by
  rw[gV _ _ _ (by rw[hzl,hs1];first|omega|(simp only[bJ,aj.sz] at *;omega)),ZN,aac (by rw[Zw,ZO,hs1];first|omega|(simp only[bJ,aj.sz] at *;omega)),List.take_take,Nat.min_self,←hcur1,aas]
  have hl2:(cur.toList.take (i*bJ l)++(l.drop (i+1)).flatMap aj.cs).length=m*bJ l:=by
   rw[Zn,Zw,hD,ZO,hsz,aaf (ZR _ (by omega)),←Nat.add_mul]
   congr 1
   omega
  rw[aac (by rw[hl2];exact Zh _),Zz (by rw[hl2];exact Zh _),H5.out,List.flatMap_append])
 clear hc2 ha2 hi0 hz0 hz1 hz2
 go_enter hF,hn
 go_wp2_with fail;have HS0:Hid True:=trivial;refine eH 6 (fun _=>True) (by kernel_rfl) (by kernel_rfl) ?_;refine bL (i:=0) (v:=?_) rfl (by kernel_rfl) (fun _ _ _ h=>h) (Or.inl ⟨by rfl,?_⟩) HS0 ?_
 rotate_left
 ·((intro w hSw;(try dsimp only at hSw);go_simp;try simp only[hct])<;>with_reducible rfl)
 try simp only[Act.put,aaI,aaJ,aaK]
 refine bL (i:=1) (v:=?_) rfl (by kernel_rfl) (fun _ _ _ h=>h) (Or.inl ⟨by rfl,?_⟩) HS0 ?_
 rotate_left
 ·((intro w hSw;(try dsimp only at hSw);go_simp;try simp only[hct])<;>with_reducible rfl)
 try simp only[Act.put,aaI,aaJ,aaK]
 refine bL (i:=2) (v:=?_) rfl (by kernel_rfl) (fun _ _ _ h=>h) (Or.inl ⟨by rfl,?_⟩) HS0 ?_
 rotate_left
 ·((intro w hSw;(try dsimp only at hSw);go_simp;try simp only[hct])<;>with_reducible rfl)
 try simp only[Act.put,aaI,aaJ,aaK]
 refine bL (i:=3) (v:=?_) rfl (by kernel_rfl) (fun _ _ _ h=>h) (Or.inl ⟨by rfl,?_⟩) HS0 ?_
 rotate_left
 ·((intro w hSw;(try dsimp only at hSw);go_simp;try simp only[hct])<;>with_reducible rfl)
 try simp only[Act.put,aaI,aaJ,aaK]
 refine bL (i:=4) (v:=?_) rfl (by kernel_rfl) (fun _ _ _ h=>h) (Or.inl ⟨by rfl,?_⟩) HS0 ?_
 rotate_left
 ·((intro w hSw;(try dsimp only at hSw);go_simp;try simp only[hct])<;>with_reducible rfl)
 try simp only[Act.put,aaI,aaJ,aaK]
 refine bL (i:=5) (v:=?_) rfl (by kernel_rfl) (fun _ _ _ h=>h) (Or.inl ⟨by rfl,?_⟩) HS0 ?_
 rotate_left
 ·((intro w hSw;(try dsimp only at hSw);go_simp;try simp only[hc2'])<;>with_reducible rfl)
 try simp only[Act.put,aaI,aaJ,aaK]
 refine lH (by kernel_rfl) ?_;have hap':=fun ty=>hap w.drew HK.drew ty;try simp only[aZ,bJ,aj.sty,aj.sz] at hap'
 clear hap;refine wu w.drew rfl (.tmp 22) (.tmp 25) (aZ l) (aZ l) rfl _ _ rfl rfl (hap' _) ?_;go_wp2_with (at_builtin;refine jU _ rfl _ (aZ l) rfl _ rfl (hcl _) ?_);go_ret;have hll:(l.take i++l.drop (i+1)).length=m:=by simp only[Zn,Zw,ZK];omega
 exact⟨⟨some ⟨g,0,none⟩,c,l.take i++l.drop (i+1)⟩,by simp only[hll];rfl,rfl,Sl.row_of hbg HK2 (by rw[hll];first|omega|(simp only[bJ,aj.sz] at *;omega)) (by unfold maxLen;first|omega|(simp only[bJ,aj.sz] at *;omega)) (by rw[fH];exact hs1) (by rw[hll];exact HFIN),⟨by simpa[Value.ownBlock,bJ,aj.sz] using HG2.out,Or.inl (by simp[Value.ownBlock])⟩⟩):Sn α F:=h hF hn
theorem qX:Sn lT 187:=Tw func187 ntmps187
theorem zy:Sn dI 218:=Tw func218 ntmps218
variable{B N:Nat}
structure qB (x y:dZ):Prop where
 me:x.me=y.me
 num:x.num=y.num
 r:x.g.r.l=y.g.r.l
 m:x.g.m.l=y.g.m.l
 log:x.log.l=y.log.l
 vs:x.vs.l=y.vs.l
 wi:x.wi.l=y.wi.l
 hd:x.hd=y.hd
 t:qC x.t y.t
def sJ (x:dZ)(N:Nat):List It:=[own x.t.ac N,own x.t.pr N,own x.t.mem N,own x.wi N,own x.vs N,own x.log N,own x.g.m N,own x.g.r N]
theorem Dv {x:dZ}(h:au.aA w B N x):au.aA w B N x.t:=⟨h.2.2.2.2.1,h.2.2.2.2.2.1,h.2.2.2.2.2.2.1⟩
theorem yB (x:dZ)(w:World)(N:Nat)(hl:au.aA w w N x)(hN:N≤1000000) :
  Calls prog 153 #[x] w fun e w'=>∃x':dZ,e=.returned (x')∧Hid (qB x' x)∧Env w w [] (sJ x' N) w':=by
 have HL:=L_ hl;clear hl
 go_enter func153,ntmps153
 refine bN ?_;refine DT (Env.start w) ?_;intro g w0 E;refine zO ?_;refine Er E ?_;clear E;intro g' w1 E;refine zO ?_;refine aC (dw 9 E ?_);clear E;intro w1 E;refine ay 0 E ?_;refine ay 1 E ?_;refine aX 2 1 E ?_;refine ay 4 E ?_;refine ay 5 E ?_;refine aX 6 1 E ?_;refine cu 3 (qg bY E HL.1) ?_;clear E;rintro _ w2 ⟨r2,rfl,h2,E⟩;refine⟨_,rfl,E.weak,dL ?_⟩;refine cu 7 (qg bY E HL.2.1) ?_;clear E;rintro _ w3 ⟨g2,rfl,h3,E⟩;refine⟨_,rfl,E.weak,dL ?_⟩;refine ay 8 E ?_;refine G E [30,0,61,9] ?_;clear E;intro w4 E;refine aC (dw 13 E ?_);clear E;intro w5 E;refine ay 0 E ?_;refine aX 1 1 E ?_;refine ay 3 E ?_;refine aX 4 1 E ?_;refine ay 6 E ?_;refine aX 7 1 E ?_;refine ay 9 E ?_;refine oG 10 1 7 E ?_;refine cu 2 (qg gH E HL.2.2.1) ?_;clear E;rintro _ w6 ⟨l2,rfl,h4,E⟩;refine⟨_,rfl,E.weak,dL ?_⟩;refine ay 12 E ?_;refine cu 5 (qg Cw E HL.2.2.2.1) ?_;clear E;rintro _ w7 ⟨v2,rfl,h5,E⟩;refine⟨_,rfl,E.weak,dL ?_⟩;refine cu 8 (qg gH E HL.2.2.2.2.2.2.2) ?_;clear E;rintro _ w8 ⟨i2,rfl,h6,E⟩;refine⟨_,rfl,E.weak,dL ?_⟩;refine cu 11 (IQ x.t w8 N (au.aS (au.bA (Dv HL) fun p hp=>E.aD.cell hp) E.sz (Zh _)) hN) ?_;rintro _ w9 ⟨t2,rfl,h7,F⟩;replace E:=E.call F;refine⟨_,rfl,E.weak,dL ?_⟩;refine G E [30,61,0,61,0,61,0,61,4,5,9] ?_;clear E;intro w13 E;refine aB 1 15 E ?_;refine lQ 0 E ?_;clear E;intro w14 E;refine aC (Iy 0 E ?_);exact⟨⟨x.me,x.num,⟨r2,g2⟩,l2,v2,t2,i2,x.hd⟩,rfl,L_ ⟨rfl,rfl,h2,h3,h4,h5,h6,rfl,h7⟩,E.drop 2⟩
variable{me:Int}
def wI (me num:Int)(l:List Int)(m:bS)(a a':List bS):Prop:=a'.length≤a.length+l.length∧∀y∈a',y∈a∨∃n∈l,n≠me∧y=⟨me,n,m.k,num,m.s,m.b,m.p,m.v,m.i,m.tm⟩
theorem wI.nil (me num:Int)(l:List Int)(m:bS)(a:List bS):wI me num l m a a:=⟨by omega,fun y h=>Or.inl h⟩
theorem wI.same {num:Int}{l:List Int}{m:bS}{a a':List bS}(h:wI me num (l.take k) m a a'):wI me num (l.take (k+1)) m a a':=by
 refine⟨?_,fun y hy=>?_⟩
 ·have:=h.1;have h3:=ZP (l:=l) (i:=k);rw[h3,Zn];omega
 ·rcases h.2 y hy with h1|⟨n,h1,h2,h3⟩
  ·exact Or.inl h1
  ·exact Or.inr ⟨n,by rw[ZP];exact ZJ _ h1,h2,h3⟩
theorem wI.snoc {num:Int}{l:List Int}{m:bS}{a a':List bS}{n:Int}(h:wI me num (l.take k) m a a')(hx:l[k]?=some n)(ht:n≠me):wI me num (l.take (k+1)) m a (a'++[⟨me,n,m.k,num,m.s,m.b,m.p,m.v,m.i,m.tm⟩]):=by
 have h9:=h.same;refine⟨?_,fun y hy=>?_⟩
 ·have:=h.1;rw[ZP,hx,Zn,Zn];simp only[ZI,aai,aaz];omega
 ·rcases Zm.1 hy with hy|hy
  ·exact h9.2 y hy
  ·rw[Zp.1 hy];exact Or.inr ⟨n,by rw[ZP,hx];simp,ht,rfl⟩
def iG (p:Nat)(X:eU):Bx:=(p,321,X)
def bM (X:eU)(N M K:Nat):List It:=own X.ma M::own X.rc K::sJ X.x N
theorem lD {is:List It}(p N M K:Nat)(X:eU)(l:Sl Int)(m:bS)(w:World)(E:Env b w0 (iG p X::bx) (bM X N M K++is) w)(hM:M+l.l.length≤1000000)
  (hl:∀s2 M2 w',Env b w0 (iG p ⟨X.x,X.rc,s2⟩::bx) (bM ⟨X.x,X.rc,s2⟩ N M2 K++is) w'→l.aA w' w' N) :
  Calls prog 253 #[p,l,m] w fun e w'=>∃s2:Sl bS,e=()∧Hid (wI X.x.me X.x.num l.l m X.ma.l s2.l)∧Env b w0 (iG p ⟨X.x,X.rc,s2⟩::bx) (bM ⟨X.x,X.rc,s2⟩ N (M+l.l.length) K++is) w':=by
 have HL:=L_ hl;clear hl
 go_enter func253,ntmps253
 refine G E [5,71,3,9] ?_;clear E;intro g w2 E;refine aC (yw 1 12 E ?_);clear E;intro w3 E;refine ay 0 E ?_;refine ay 1 E ?_;refine ay 2 E ?_;refine ay 3 E ?_;refine aX 4 0 E ?_;refine ay 5 E ?_;refine ay 6 E ?_;refine ay 7 E ?_;refine ay 8 E ?_;refine aX 9 0 E ?_;refine ay 10 E ?_;refine uS 11 0 E ?_;clear E;intro w4 E;refine G E [30,0,60,4,5,84,4,19,9] ?_;clear E;intro w4 E
 go_loopw [22] (fun y wr=>∃(k:Nat) (s2:Sl bS) (q:Int),y=(k:Int)∧k≤l.l.length∧Hid (wI X.x.me X.x.num (l.l.take k) m X.ma.l s2.l)∧Env b w0 ((g,62,[X.x.me,q,.int .u8 m.k,X.x.num,m.s,m.b,m.p,m.v,m.i,m.tm])::iG p ⟨X.x,X.rc,s2⟩::bx) (bM ⟨X.x,X.rc,s2⟩ N (M+k) K++is) wr) (fun y _=>l.l.length - (intOf y).toNat)
 case atStart=>exact⟨0,X.ma,m.t,rfl,Zq _,L_ (wI.nil _ _ _ _ _),E⟩
 case round=>
  clear E;obtain⟨k,s2,q,rfl,hk,hst,E⟩:=hrel;refine bN ?_
  by_cases hlt:k<l.l.length
  ·have hw:IntKind.i64.wrap ((k:Int)+1)=((k+1:Nat):Int):=by rw[aaP _ (by omega)];rfl
   obtain⟨bb,off,x,hA,hbl,hx,hcc,-⟩:=(HL _ _ _ (E.drop 1)).get (k:=k) hlt;have d0:wr.cell? ⟨bb,off+k,none⟩=some (.int .i64 x):=by simpa[aj.sz] using hcc 0 _ rfl
   replace hx:=L_ hx;replace hcc:=L_ hcc;refine G0 [0,4,16,15,18,5,0] ?_;refine bQ d0 ?_;refine G E [0,4,5,0,0,60,4,5,83,41,9] ?_;clear E;intro w5 E
   by_cases hme:x=X.x.me
   ·subst hme;refine G0 [0,4,8,21,23,0,0,25] ?_
    go_roundw
    case rel=>exact⟨k+1,s2,_,rfl,hlt,L_ hst.same,E.less 0 (i:=own s2 (M+k)) (i':=own s2 (M+(k+1))) fun h=>Sl.Own.mono h (Zh _) (by omega)⟩
    case measure=>simp[intOf];omega
   ·refine fV ?_;refine aC (Qs (fO 0 8 E ?_));clear E;intro w6 E;refine ay 0 E ?_;refine ay 1 E ?_;refine ay 2 E ?_;refine ay 3 E ?_;refine aX 4 1 E ?_;refine oG 5 0 10 E ?_;refine uZ 6 E ?_;clear E;intro g2 w7 E;refine dL ?_;refine DX 7 0 (s:=s2) (M+(k+1)) (⟨some ⟨g2,0,none⟩,1,[(⟨X.x.me,x,m.k,X.x.num,m.s,m.b,m.p,m.v,m.i,m.tm⟩:bS)]⟩:Sl bS) E (E.reads 0 1 10) (by have:=(show Sl.Own _ _ _ s2 from E.get 0).2.1;simp;omega) (by omega) ?_;clear E;intro s3 w8 h3 E;refine dL ?_;refine G E [30,0,0,62,20,23,0,0,9] ?_;clear E;intro w9 E;refine jI ?_
    go_roundw
    case rel=>exact⟨k+1,s3,x,rfl,hlt,L_ (h3.out▸hst.out.snoc hx hme),E.drop 1⟩
    case measure=>simp[intOf];omega
  ·refine fV ?_;refine G0 [4,17,27,28] ?_
   go_end0
   exact⟨s2,rfl,by rwa[Zz (by omega)] at hst,(E.drop 1).less 0 (i:=own s2 (M+k)) (i':=own s2 (M+l.l.length)) fun h=>Sl.Own.mono h (Zh _) (by omega)⟩
section
open Go.RowKit Bal
section
variable (w:World)
set_option maxHeartbeats 400000
set_option linter.unusedVariables false
theorem P5 (a n:Int)(h:¬(0≤n∧n<6∧0≤a∧a≤8388613)):Calls prog 254 #[a,n] w fun e w'=>e=.returned (.tuple #[.int .i64 0,.int .i64 2])∧w=w':=by
 by_cases c1:0≤n∧n<6
 ·have c2:¬(0≤a∧a≤8388613):=by omega
  obtain⟨c1,c3⟩:=c1
  by_cases c4:0≤a
  ·have c5:8388613<a:=by omega
   clear h c2
   go_enter func254,ntmps254
   go_wp2_with (go_at_call 291;refine(kX _ _ (by omega) (by omega)).mono ?_;rintro e w' ⟨rfl,rfl⟩)
   go_ret2
   exact⟨rfl,rfl⟩
  ·clear h c2
   go_enter func254,ntmps254
   go_wp2_with (go_at_call 291;refine(kX _ _ (by omega) (by omega)).mono ?_;rintro e w' ⟨rfl,rfl⟩)
   go_ret2
   exact⟨rfl,rfl⟩
 ·have H:=L_ c1;clear h c1
  go_enter func254,ntmps254
  go_wp2_with (go_at_call 291;refine(Ki _ _ H).mono ?_;rintro e w' ⟨rfl,rfl⟩)
  go_ret2
  exact⟨rfl,rfl⟩
theorem Ry (a n:Int)(h1:0≤n)(h2:n<6)(h3:0≤a)(h4:a≤8388613)(h5:nx a n≤8388613):Calls prog 254 #[a,n] w fun e w'=>e=.returned (.tuple #[(nx a n),.int .i64 0])∧w=w':=by
 unfold nx at h5 ⊢
 by_cases c:a / 8*8+n≤a∨a / 8*8+n<8
 ·rw[aaS c] at h5 ⊢
  by_cases c1:a / 8*8+n≤a
  ·clear c
   go_enter func254,ntmps254
   go_wp2_with (go_at_call 291;refine(kX _ _ (by omega) (by omega)).mono ?_;rintro e w' ⟨rfl,rfl⟩)
   go_ret2
   exact⟨rfl,rfl⟩
  ·have c2:a / 8*8+n<8:=by omega
   clear c
   go_enter func254,ntmps254
   go_wp2_with (go_at_call 291;refine(kX _ _ (by omega) (by omega)).mono ?_;rintro e w' ⟨rfl,rfl⟩)
   go_ret2
   exact⟨rfl,rfl⟩
 ·rw[aaR c] at h5 ⊢;have c1:a<a / 8*8+n:=by omega
  have c2:8≤a / 8*8+n:=by omega
  clear c
  go_enter func254,ntmps254
  go_wp2_with (go_at_call 291;refine(kX _ _ (by omega) (by omega)).mono ?_;rintro e w' ⟨rfl,rfl⟩)
  go_ret2
  exact⟨rfl,rfl⟩
theorem K8 (a n:Int)(h1:0≤n)(h2:n<6)(h3:0≤a)(h4:a≤8388613)(h5:8388613<nx a n):Calls prog 254 #[a,n] w fun e w'=>e=.returned (.tuple #[.int .i64 0,.int .i64 9])∧w=w':=by
 unfold nx at h5
 by_cases c:a / 8*8+n≤a∨a / 8*8+n<8
 ·rw[aaS c] at h5
  by_cases c1:a / 8*8+n≤a
  ·clear c
   go_enter func254,ntmps254
   go_wp2_with (go_at_call 291;refine(kX _ _ (by omega) (by omega)).mono ?_;rintro e w' ⟨rfl,rfl⟩)
   go_ret2
   exact⟨rfl,rfl⟩
  ·exfalso;omega
 ·rw[aaR c] at h5;exfalso;omega
end
end
theorem Mv [aj α]{x:α}(h:aF w g (aj.ty α) (aj.cs x).toArray):Reads w w (aj.sz α) (some ⟨g,0,none⟩) ([x]:List α).length (Sl.row (⟨some ⟨g,0,none⟩,1,[x]⟩:Sl α)):=
 ⟨by rw[Sl.jM],fun _=>⟨_,rfl,h.lt,fun j u hu=>by
  rw[Addr.add_lit,aah];exact(h.cell j).trans (by simpa[Sl.row] using hu)⟩⟩
def jR (e:Ending):Prop:=∃b,e=.returned (.bool b)
theorem jR.mk (b:Bool):jR (.returned b):=⟨b,rfl⟩
theorem FI (x:rF)(b:Int)(w:World)(hb:i64 x.b)(hv:x.v.size≤1000000):Calls prog 288 #[x,b] w fun e w'=>jR e∧Below w w w':=by
 have K:=aF.new w 399 x;have c1:=K.cell 1;have c2:=K.cell 2;have B:=L_ ((aaO w w).alloc (Zh _) (.cells x 399));clear K
 by_cases h0:x.b=0
 ·have h0b:(x.b==0)=true:=by simpa using h0
  clear h0
  go_enter func288,ntmps288
  go_wp2;go_ret;exact⟨jR.mk _,B⟩
 have h0b:(x.b==0)=false:=by simpa using h0
 cases hm:Bal.may x.b with
 |false=>
  have HC:=L_ (fun w=>fI (w:=w) x.b hb.1 hb.2 hm);clear hm
  go_enter func288,ntmps288
  go_wp2_with fail;refine(HC _).mono ?_;rintro e w2 ⟨rfl,rfl⟩;go_wp2;go_ret;exact⟨jR.mk _,B⟩
 |true=>
  have HC:=L_ (fun w=>gQ (w:=w) x.b hm);clear hm
  by_cases h1:x.b<b
  ·go_enter func288,ntmps288
   go_wp2_with fail;refine(HC _).mono ?_;rintro e w2 ⟨rfl,rfl⟩;go_wp2;go_ret;exact⟨jR.mk _,B⟩
  ·go_enter func288,ntmps288
   go_wp2_with fail;refine(HC _).mono ?_;rintro e w2 ⟨rfl,rfl⟩;go_wp2;go_ret;exact⟨jR.mk _,B⟩
theorem qD (s r:Sl Int)(w:World)(N:Nat)(hs:s.aA w w N)(hr:r.aA w w N)(hN:N≤1000000):Calls prog 289 #[s,r] w fun e w'=>jR e∧w=w':=by
 have h1:Reads w w 1 s.A s.l.length (ci s.l):=by have h1:=hs.1;rw[fF] at h1;exact h1
 have h2:Reads w w 1 r.A r.l.length (ci r.l):=by have h1:=hr.1;rw[fF] at h1;exact h1
 have hl1:=hs.2.2.2.1;have hl2:=hr.2.2.2.1
 have HM:Hid (Calls prog 315 #[s,r] w fun e w'=>∃b v,e=.returned (.tuple #[.bool b,.int .i64 v])∧w=w'):=L_ (by
  by_cases hc:Qm.check s.l=0
  ·by_cases hn:r.l.length≤1000
   ·exact(MN s.A s.l.length s.c w s.l r.A r.l.length r.c w r.l w h1 h2 hc hn).mono fun e w' h=>⟨_,_,h.1,h.2⟩
   ·exact(Iq s.A s.l.length s.c w s.l r.A r.l.length r.c w h1 hc (by omega) (by omega)).mono fun e w' h=>⟨_,_,h.1,h.2⟩
  ·exact(Lx s.A s.l.length s.c w s.l r.A r.l.length r.c (Qm.check s.l) w h1 (by omega) rfl hc).mono fun e w' h=>⟨_,_,h.1,h.2⟩)
 clear h1 h2 hs hr
 go_enter func289,ntmps289
 go_wp2_with fail;refine HM.mono ?_;rintro e w2 ⟨b,v,rfl,rfl⟩;go_wp2;go_ret;exact⟨jR.mk b,by trivial⟩
theorem su (s:Sl rF)(w:World)(N:Nat)(hs:s.aA w w N)(hN:N≤1000000):Calls prog 285 #[s] w fun e w'=>∃r:Sl Int,e=.returned r∧r.l=s.l.map rF.n∧r.Row w' w.heap.size∧Below w w w':=by
 obtain⟨A,c,l⟩:=s;have HS:=L_ hs;have hl:l.length≤N:=hs.2.2.2.1;clear hs
 go_enter func285,ntmps285
 go_wp2
 go_loopw [2,7] (fun z y wr=>∃(k:Nat) (r:Sl Int),y=(k:Int)∧z=r∧k≤l.length∧r.l=(l.take k).map rF.n∧r.Row wr w.heap.size∧Below w w wr) (fun _ y _=>l.length - (intOf y).toNat)
 case atStart=>exact⟨0,Sl.nil,rfl,rfl,Zq _,by simp[Sl.nil],Sl.xu,aaO _ _⟩
 case round=>
  obtain⟨k,r,rfl,rfl,hk,hr,hrow,hb⟩:=hrel;have HR:=L_ hr;have ROW:=L_ hrow;have BW:=L_ hb;have hbs:=hb.size;clear hr hrow hb
  by_cases hlt:k<l.length
  ·obtain⟨bb,off,x,hA,hbl,hx,hcc,-⟩:=(HS.below BW).get (k:=k) hlt;dsimp only at hA;subst hA;have d0:wr.cell? ⟨bb,off+k*3,none⟩=some (.int .i64 x.n):=hcc 0 _ rfl;have d1:wr.cell? ⟨bb,off+k*3+1,none⟩=some (.int .i64 x.b):=hcc 1 _ rfl;have d2:wr.cell? ⟨bb,off+k*3+2,none⟩=some (.string x.v):=hcc 2 _ rfl;have HX:=L_ hx;have hrl:Hid (r.l.length=k):=L_ (by rw[HR.out];simp;omega);have KY:Hid (aF ((wr.alloc (.cells x 399)).alloc (.cells #[x.n] 3)) (wr.heap.size+1) 3 #[x.n]):=L_ (by have:=aF.new (wr.alloc (.cells x 399)) 3 #[x.n];simpa using this);have hal:Below wr wr ((wr.alloc (.cells x 399)).alloc (.cells #[x.n] 3)):=((aaO _ _).alloc (Zh _) _).alloc (by simp) _;have R1:=L_ (Sl.Row.below ROW hal);have B1:=L_ (BW.trans (hal.mono hbs));have HRY:=L_ (Mv (α:=Int) (x:=x.n) KY);have hb1:w.heap.size≤((wr.alloc (.cells x 399)).alloc (.cells #[x.n] 3)).heap.size:=B1.size;have hn1:r.l.length+([x.n]:List Int).length≤10000000000:=by rw[hrl.out];simp;omega
   clear hcc hx KY hal;go_wp2_with (at_builtin;refine Sl.app rfl (.tmp 11) (.tmp 14) 33 rfl rfl w.heap.size r rfl R1 _ ⟨some ⟨wr.heap.size+1,0,none⟩,1,[x.n]⟩ rfl HRY hn1 hb1 ?_);intro r2 w5 hr2 hrow2 hgr;have HR2:=L_ hr2;have ROW2:=L_ hrow2;have B2:=L_ (B1.trans (hgr.bW R1 hb1));clear hr2 hrow2 hgr R1 B1 HRY ROW BW;go_wp2
   go_roundw
   case rel=>
    refine⟨k+1,r2,by go_num,rfl,by omega,?_,ROW2,B2⟩;rw[HR2.out,HR.out,ZP,HX.out];simp
   case measure=>simp[intOf];omega
  ·obtain rfl:k=l.length:=by omega
   go_wp2;go_ret;exact⟨r,rfl,by rw[HR.out,List.take_length],ROW,BW⟩
end Go.Proofs.YtaebfkcgdmodlaaGreatDoor
