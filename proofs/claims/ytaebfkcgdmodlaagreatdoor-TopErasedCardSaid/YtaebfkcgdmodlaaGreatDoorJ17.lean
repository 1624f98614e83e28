/-
  A part of the proof that the erased node of towncrier reads nothing (TopErased).
-/
import Derived.Test.YtaebfkcgdmodlaaGreatDoorJ09
import Derived.Test.YtaebfkcgdmodlaaGreatDoorJ09b
import Derived.Test.YtaebfkcgdmodlaaGreatDoorJ10
import Derived.Test.YtaebfkcgdmodlaaGreatDoorJ13
namespace Go.Proofs.YtaebfkcgdmodlaaGreatDoor
open Go.RowKit Go.Proofs.Tryz
set_option maxHeartbeats 16000000
set_option maxRecDepth 100000
set_option linter.unusedVariables false
set_option linter.unusedSimpArgs false
variable{a:Act}{P:ByteArray→Prop}{R:Ending→World→Prop}{fn:Func}{bx:List Bx}{r:List Int}{b g i j1 j2 j3:Nat}{t ty:TypeId}{v1 v2 v3:Value}{w w0:World}
section
attribute [local irreducible] wpList av
theorem jL {P:Program}{is:List It}(k:Nat){cs:List Value}(E:Env b w0 bx is w)(h:R (.returned (.tuple #[.agg cs.toArray,v1,v2,v3])) w)(hr:fn.results=#[.cell i ty,.tmp j1,.tmp j2,.tmp j3]:=by rfl)(hd:a.defers=[]:=by rfl)(hx:a.tmps[i]?.getD undef=.pointer (some ⟨g,0,none⟩):=by rfl)(h1:a.tmps[j1]?.getD undef=v1:=by rfl)(h2:a.tmps[j2]?.getD undef=v2:=by rfl)(h3:a.tmps[j3]?.getD undef=v3:=by rfl)(hk:bx[k]?=some (g,t,cs):=by rfl)(hu:bq P ty=false:=by kernel_rfl)(hs:(P.info? ty).map (·.size)=some cs.length:=by kernel_rfl)(hn:(P.underlying ty).isSome=true:=by kernel_rfl):bodyPost P fn R .ret a w:=by
 obtain⟨d,hn⟩:=aan.1 hn;have hrow:d.isRow=true:=by simpa[bq,hn] using hu
 refine aaT (v:=.tuple #[.agg cs.toArray,v1,v2,v3]) ?_ hd h;simp[results,hr,hx,h1,h2,h3,asAddr,run_loadVar_mid w g 0 ty cs d (fun q u hq=>by rw[E.cell k hk];simpa using hq) hn hrow hs]
structure lu (P:ByteArray→Prop)(x:dZ):Prop where
 log:∀v∈x.log.l,P v
 vs:∀y∈x.vs.l,P y.v∧i64 y.p∧i64 y.b
 wi:∀v∈x.wi.l,P v
 t:ko P x.g.r.l x.t
theorem lu.wf {x:dZ}(h:lu P x)(hz:MK P):yF x:=⟨h.t.wf_,fun v hv=>(hz v (h.log v hv)).1,fun v hv=>(hz v (h.wi v hv)).1,fun y hy=>⟨(hz _ (h.vs y hy).1).1,(h.vs y hy).2⟩⟩
theorem ko.same {x y:Try}(h:ko P r x)(s:qC y x):ko P r y:=by
 obtain⟨s1,s2,s3,s4,s5,s6,s7⟩:=s;exact⟨by rw[s1,s2];exact h.wf,fun h0=>⟨by rw[s4];exact(h.ok (s1▸h0)).wi,by rw[s5];exact(h.ok (s1▸h0)).va,fun p hp=>(h.ok (s1▸h0)).pr p (s6▸hp),by rw[s2];exact h.wf.1⟩,fun p hp=>h.pr p (s6▸hp),by rw[s4,s5];exact h.sz,fun n hn=>h.mem n (s3▸hn)⟩
theorem lu.ok {x y:dZ}(h:lu P x)(hc:yL x)(s:qB y x):Fz P 0 y:=
 ⟨fun v hv=>h.log v (s.log▸hv),by rw[s.log];exact hc.ll,fun v hv=>h.vs v (s.vs▸hv),by rw[s.vs];exact hc.vl,fun v hv=>h.wi v (s.wi▸hv),by rw[s.wi];exact hc.wl,by rw[s.r];exact h.t.same s.t,by rw[s.hd];exact⟨by have:=hc.hd;omega,by have:=hc.hd;omega⟩,by rw[s.me];exact hc.me,by rw[s.num];exact hc.num,by rw[s.r];exact⟨(dz hc.g).2,fun n hn=>o9 hc.g n hn⟩⟩
structure sW (P:ByteArray→Prop)(x y:dZ):Prop where
 inn:lu P y
 me:y.me=x.me
 num:y.num=x.num
 r:y.g.r.l=x.g.r.l
 m:y.g.m.l=x.g.m.l
theorem bC.to {c:Nat}{x:dZ}{X Y:eU}(h:bC P c Y)(hi:uT X Y)(s:qB X.x x):sW P x Y.x:=
 ⟨⟨h.log,h.vs,h.wi,h.t⟩,hi.1.trans s.me,hi.2.1.trans s.num,(by rw[hi.2.2];exact s.r),(by rw[hi.2.2];exact s.m)⟩
def iN:dZ:=⟨0,0,⟨⟨none,0,[]⟩,⟨none,0,[]⟩⟩,⟨none,0,[]⟩,⟨none,0,[]⟩,iZ,⟨none,0,[]⟩,0⟩
theorem Env.iN {is:List It}(E:Env b w0 bx is w)(N:Nat):Env b w0 bx (sJ iN N++is) w:=
 (((((E.aO (α:=Int) (N:=N)).aO (α:=Int) (N:=N)).aO (α:=ByteArray) (N:=N)).aO (α:=lT) (N:=N)).aO (α:=ByteArray) (N:=N)).iZ N
structure xD (P:ByteArray→Prop)(y:dZ)(rc:List Re)(ma:List bS):Prop where
 rc:∀r∈rc,r.g=y.num∧P r.v∧Gs r
 ma:∀m∈ma,TF P y.me y.num y.g.r.l m
theorem P7 (P:ByteArray→Prop)(x:dZ)(w:World)(N:Nat)(hl:au.aA w w N x)(hN:N≤10000)(hN2:1000≤N)(hi:lu P x)(hz:MK P) :
  Calls prog 107 #[x] w fun e w'=>∃(y:dZ) (rc:Sl Re) (ma:Sl bS) (q:Int),e=.returned (.tuple #[y,rc,ma,q])∧Hid (q=0→sW P x y∧xD P y rc.l ma.l)∧Env w w [] (bM ⟨y,rc,ma⟩ N (6*N) 10) w':=by
 have HL:=L_ hl;have HI:=L_ hi;have HZ:=L_ hz;clear hl hi hz;have E:=Env.start w
 go_enter func107,ntmps107
 refine G E [5,71,3,70,3,84,4,6,5,9] ?_;clear E;intro g1 g2 w3 E;refine aB 1 15 E ?_;refine ah (xq x _ N (E.h HL) (by omega) hN2 (HI.wf HZ)) ?_;rintro _ w4 ⟨⟨v,rfl,hv⟩,hw⟩;replace E:=E.up hw;clear hw;replace hv:=L_ hv;refine G0 [26] ?_
 by_cases h0:v=0
 case neg=>
  refine G E [0,4,5,0,0,4,7,5,0,0,60,84,4,22,24,9] ?_;clear E;intro w5 E;exact jL 0 E ⟨iN,⟨none,0,[]⟩,⟨none,0,[]⟩,v,rfl,L_ (fun h=>absurd h h0),(((E.drop 2).iN N).aO (α:=Re) (N:=10)).aO (α:=bS) (N:=6*N)⟩
 subst h0;refine G0 [0,4,5,0,0,4,8,15,5] ?_;refine aB 1 15 E ?_;refine ah (yB x _ N (E.h HL) (by omega)) ?_;rintro _ w6 ⟨y,rfl,hy,F⟩;replace E:=E.call F;clear F;refine G E [26,0,71,3,0,4,5,9] ?_;clear E;intro g17 w7 E;replace E:Env w w (iG g17 ⟨y,⟨none,0,[]⟩,⟨none,0,[]⟩⟩::_) (bM ⟨y,⟨none,0,[]⟩,⟨none,0,[]⟩⟩ N 4 0++[]) _:=(E.aO (α:=Re) (N:=0)).aO (α:=bS) (N:=4);have HK:Hid (bC P 0 ⟨y,⟨none,0,[]⟩,⟨none,0,[]⟩⟩):=L_ ⟨HI.ok (hv rfl) hy,fun r hr=>(by cases hr),fun r hr=>(by cases hr)⟩;refine fV ?_;refine ah (Vt P g17 N 4 0 0 _ _ E HK HZ (by omega) (by omega) (by omega) hN hN2) ?_;clear E;rintro _ w8 ⟨X',rfl,hX,E⟩;refine G0 [26] ?_;replace E:=E.bn (M':=6*N) (K':=10) (by omega) (by omega);refine aC ?_;replace E:=E.bD 1;refine yw 1 14 E ?_;clear E;intro w9 E;refine ay 0 E ?_;refine ay 1 E ?_;refine ay 2 E ?_;refine oG 3 0 15 E ?_;refine ay 4 E ?_;refine ay 5 E ?_;refine ay 6 E ?_;refine aX 7 0 E ?_;refine ay 8 E ?_;refine ay 9 E ?_;refine ay 10 E ?_;refine aX 11 0 E ?_;refine uS 12 0 E ?_;clear E;intro w10 E;refine ay 13 E ?_;refine G0 [30,0,0,4,22] ?_;exact jL 0 E ⟨X'.x,X'.rc,X'.ma,0,rfl,L_ (fun _=>⟨hX.1.to hX.2 hy,hX.1.rc,hX.1.ma⟩),E.drop 3⟩
theorem GN (P:ByteArray→Prop)(x:dZ)(m:bS)(w:World)(N:Nat)(hl:au.aA w w N x)(hN:N≤10000)(hN2:1000≤N)(hi:lu P x)(hz:MK P)(hm:m.k=7∨P m.v)(hw:gN m) :
  Calls prog 237 #[x,m] w fun e w'=>∃(y:dZ) (rc:Sl Re) (ma:Sl bS) (q:Int),e=.returned (.tuple #[y,rc,ma,q])∧Hid (q=0→sW P x y∧xD P y rc.l ma.l)∧Env w w [] (bM ⟨y,rc,ma⟩ N (6*N) 10) w':=by
 have HL:=L_ hl;have HI:=L_ hi;have HZ:=L_ hz;have HM:=L_ hm;have HW:=L_ hw;clear hl hi hz hm hw;have E:=Env.start w
 go_enter func237,ntmps237
 refine G E [5,71,3,71,3,70,3,84,4,6,5,9] ?_;clear E;intro g2 g3 g4 w4 E;refine aB 2 15 E ?_;refine ah (xq x _ N (E.h HL) (by omega) hN2 (HI.wf HZ)) ?_;rintro _ w5 ⟨⟨v,rfl,hv⟩,hw⟩;replace E:=E.up hw;clear hw;replace hv:=L_ hv;refine G0 [26] ?_
 by_cases h0:v=0
 case neg=>
  refine G E [0,4,5,0,0,4,7,5,0,0,60,84,4,22,24,9] ?_;clear E;intro w6 E;exact jL 0 E ⟨iN,⟨none,0,[]⟩,⟨none,0,[]⟩,v,rfl,L_ (fun h=>absurd h h0),(((E.drop 3).iN N).aO (α:=Re) (N:=10)).aO (α:=bS) (N:=6*N)⟩
 subst h0;refine G0 [0,4,5,0,0,4,8,15,6,5] ?_;refine aB 1 10 E ?_;refine ah (P6 m _ HW) ?_;rintro _ w7 ⟨v2,rfl,hv2,hw⟩;replace E:=E.up hw;clear hw;replace hv2:=L_ hv2;refine G0 [26] ?_
 by_cases h0:v2=0
 case neg=>
  refine G E [0,4,5,0,0,4,7,5,0,0,60,84,4,22,24,9] ?_;clear E;intro w8 E;exact jL 0 E ⟨iN,⟨none,0,[]⟩,⟨none,0,[]⟩,v2,rfl,L_ (fun h=>absurd h h0),(((E.drop 3).iN N).aO (α:=Re) (N:=10)).aO (α:=bS) (N:=6*N)⟩
 subst h0;refine G E [0,4,5,0,0,4,8,15,6,5,0,41,0,42] ?_
 by_cases h1:(m.t !=x.me)=true
 case pos=>
  refine G E [0,0,1,82,2,2,2,2,4,7,5,0,60,84,4,22,24,9] ?_;clear E;intro w9 E;exact jL 0 E ⟨iN,⟨none,0,[]⟩,⟨none,0,[]⟩,6,rfl,L_ (fun h=>absurd h (by decide)),(((E.drop 3).iN N).aO (α:=Re) (N:=10)).aO (α:=bS) (N:=6*N)⟩
 replace h1:(m.t !=x.me)=false:=by simpa using h1
 refine G E [84,41,0,42] ?_
 by_cases h2:(m.g !=x.num)=true
 case pos=>
  refine G E [84,1,81,80,2,2,4,7,5,0,60,84,4,22,24,9] ?_;clear E;intro w10 E;exact jL 0 E ⟨iN,⟨none,0,[]⟩,⟨none,0,[]⟩,6,rfl,L_ (fun h=>absurd h (by decide)),(((E.drop 3).iN N).aO (α:=Re) (N:=10)).aO (α:=bS) (N:=6*N)⟩
 replace h2:(m.g !=x.num)=false:=by simpa using h2
 refine G E [84,0,41] ?_
 by_cases h3:(m.k==8)=true
 case pos=>
  refine G E [84,1,81,2,2,4,7,5,0,60,84,4,22,24,9] ?_;clear E;intro w11 E;exact jL 0 E ⟨iN,⟨none,0,[]⟩,⟨none,0,[]⟩,6,rfl,L_ (fun h=>absurd h (by decide)),(((E.drop 3).iN N).aO (α:=Re) (N:=10)).aO (α:=bS) (N:=6*N)⟩
 replace h3:(m.k==8)=false:=by simpa using h3
 refine G E [84,0,41] ?_
 by_cases h9:(m.k !=9)=true
 case' pos=>
  refine G E [84,0,42,0,41] ?_;refine ah (tY x.g.r m.f _ N (E.h HL).1 (by omega)) ?_;rintro _ w12 ⟨rfl,rfl⟩;refine G0 [26] ?_
  by_cases hf:m.f∈x.g.r.l
  case neg=>
   refine G E [84,4,7,5,0,60,84,4,22,24,9] ?_;clear E;intro w13 E;exact jL 0 E ⟨iN,⟨none,0,[]⟩,⟨none,0,[]⟩,6,rfl,L_ (fun h=>absurd h (by decide)),(((E.drop 3).iN N).aO (α:=Re) (N:=10)).aO (α:=bS) (N:=6*N)⟩
  refine G0 [84,4,8] ?_;have HF:Hid (m.k≠9→m.f∈x.g.r.l):=L_ (fun _=>hf);refine G0 [15,5] ?_;clear hf h9 h1 h2 h3
 case' neg=>
  replace h9:(m.k !=9)=false:=by simpa using h9
  refine G0 [0,0,1] ?_;have HF:Hid (m.k≠9→m.f∈x.g.r.l):=L_ (fun h=>absurd (by simpa using h9) h);refine G0 [1,1,1,1,1,1,0,0,4,8,15,5] ?_;clear h9 h1 h2 h3
 all_goals
  refine aB 2 15 E ?_;refine ah (yB x _ N (E.h HL) (by omega)) ?_;rintro _ w14 ⟨y,rfl,hy,F⟩;replace E:=E.call F;clear F;refine G E [26,0,71,3,0,4,5,9] ?_;clear E;intro g58 w15 E;replace E:Env w w (iG g58 ⟨y,⟨none,0,[]⟩,⟨none,0,[]⟩⟩::_) (bM ⟨y,⟨none,0,[]⟩,⟨none,0,[]⟩⟩ N 5 0++[]) _:=(E.aO (α:=Re) (N:=0)).aO (α:=bS) (N:=5);have HK:Hid (bC P 0 ⟨y,⟨none,0,[]⟩,⟨none,0,[]⟩⟩):=L_ ⟨HI.ok (hv rfl) hy,fun r hr=>(by cases hr),fun r hr=>(by cases hr)⟩;refine fV ?_;refine aB 2 10 E ?_;refine ah (OU P g58 N 5 0 0 _ m _ E HK HZ (by omega) (by omega) (by omega) hN hN2 HM HW (by rw[hy.out.r];exact HF) (hv2 rfl).s) ?_;clear E;rintro _ w16 ⟨X',rfl,hX,E⟩;refine G0 [26] ?_;replace E:=E.bn (M':=6*N) (K':=10) (by omega) (by omega);refine aC ?_;replace E:=E.bD 1;refine yw 1 14 E ?_;clear E;intro w17 E;refine ay 0 E ?_;refine ay 1 E ?_;refine ay 2 E ?_;refine oG 3 0 15 E ?_;refine ay 4 E ?_;refine ay 5 E ?_;refine ay 6 E ?_;refine aX 7 0 E ?_;refine ay 8 E ?_;refine ay 9 E ?_;refine ay 10 E ?_;refine aX 11 0 E ?_;refine uS 12 0 E ?_;clear E;intro w18 E;refine ay 13 E ?_;refine G0 [30,0,0,4,22] ?_;exact jL 0 E ⟨X'.x,X'.rc,X'.ma,0,rfl,L_ (fun _=>⟨hX.1.to hX.2 hy,hX.1.rc,hX.1.ma⟩),E.drop 4⟩
theorem Oz (P:ByteArray→Prop)(x:dZ)(v:ByteArray)(w:World)(N:Nat)(hl:au.aA w w N x)(hN:N≤10000)(hN2:1000≤N)(hi:lu P x)(hz:MK P)(hv:P v) :
  Calls prog 192 #[x,v] w fun e w'=>∃(y:dZ) (q:Int),e=.returned (.tuple #[y,q])∧Hid (q=0→sW P x y)∧Env w w [] (sJ y N) w':=by
 have HL:=L_ hl;have HI:=L_ hi;have HZ:=L_ hz;have HV:=L_ hv;clear hl hi hz hv;have E:=Env.start w
 go_enter func192,ntmps192
 refine G E [5,71,3,70,3,0,4,6,5,9] ?_;clear E;intro g2 g4 w3 E;refine aB 1 15 E ?_;refine ah (xq x _ N (E.h HL) (by omega) hN2 (HI.wf HZ)) ?_;rintro _ w4 ⟨⟨v1,rfl,hv⟩,hw⟩;replace E:=E.up hw;clear hw;replace hv:=L_ hv;refine G0 [26] ?_
 by_cases h0:v1=0
 case neg=>
  refine G E [0,4,5,0,0,4,7,5,0,0,60,0,4,22,24,9] ?_;clear E;intro w5 E;exact aI 0 E ⟨iN,v1,rfl,L_ (fun h=>absurd h h0),(E.drop 2).iN N⟩
 subst h0;refine G0 [0,4,5,0,0,4,8,15,5] ?_;refine aB 1 15 E ?_;refine ah (yB x _ N (E.h HL) (by omega)) ?_;rintro _ w6 ⟨y,rfl,hy,F⟩;replace E:=E.call F;clear F;refine G E [26,0,71,3,0,4,6,5,9] ?_;clear E;intro g18 w7 E;replace E:Env w w (iG g18 ⟨y,⟨none,0,[]⟩,⟨none,0,[]⟩⟩::_) (bM ⟨y,⟨none,0,[]⟩,⟨none,0,[]⟩⟩ N 4 0++[]) _:=(E.aO (α:=Re) (N:=0)).aO (α:=bS) (N:=4);have HK:Hid (bC P 0 ⟨y,⟨none,0,[]⟩,⟨none,0,[]⟩⟩):=L_ ⟨HI.ok (hv rfl) hy,fun r hr=>(by cases hr),fun r hr=>(by cases hr)⟩;refine G0 [0,0] ?_;refine ah (Qk g18 N 4 0 _ v _ E (by omega) hN2 (Zt (HZ v HV).1 (by decide)) HK.wl) ?_;clear E;rintro _ w8 ⟨q,s2,rfl,hs2,E⟩;refine G0 [26] ?_
 by_cases h4:q=0
 case neg=>
  refine G E [0,4,5,0,0,4,7,5,0,0,61,0,4,22,24,9] ?_;clear E;intro w9 E;exact aI 1 E ⟨iN,q,rfl,L_ (fun h=>absurd h h4),((E.drop 3).sub (Zi _) (Zy _)).iN N⟩
 subst h4;refine G0 [0,4,5,0,0,4,8,15,5,84] ?_;refine aB 0 15 E ?_;refine G E [61,0,4,22,9] ?_;clear E;intro w10 E;exact aI 1 E ⟨(xY ⟨y,⟨none,0,[]⟩,⟨none,0,[]⟩⟩ s2).x,0,rfl,L_ (fun _=>(HK.want hs2 HV).to (X:=⟨y,⟨none,0,[]⟩,⟨none,0,[]⟩⟩) ⟨rfl,rfl,rfl⟩ hy),(E.drop 3).tl.tl⟩
end
variable{α:Type}
section
attribute [local irreducible] wpList av
def Ye (α:Type)[aj α](V:α→Value)(F:Nat):Prop:=∀(s r:Sl α) (g:Nat) (eg:∀args w,(callFunc g args).run prog w=.ok (.enter g args) w) (C:Array Value) (w:World) (N:Nat) (h:s.aA w w N) (h2:r.aA w w N) (hN:N≤1000000000)
  (hf:∀x∈s.l,∀y∈r.l,∀w',Below w w w'→Calls prog g (#[V x,V y]++C) w' fun e w''=>∃b,e=.returned (.bool b)∧Below w' w' w''),
  Calls prog F #[s,r,.func (.func g) #[] C] w fun e w'=>∃b,e=.returned (.bool b)∧Below w w w'
theorem XC [aj α](V:α→Value)(F:Nat){n:Nat}(hF:prog.funcs[F]?=some fn)(hn:fn.ntmps=n)(h:prog.funcs[F]?=some fn→fn.ntmps=n→Ye α V F:=by
 intro hF hn s r g eg C w N h h2 hN hf;obtain⟨A,c,l⟩:=s;obtain⟨A',c',l'⟩:=r;have hnl:l.length≤1000000000:=Zt h.2.2.2.1 hN;have hnl2:l'.length≤1000000000:=Zt h2.2.2.2.1 hN;have H:=L_ h;have H2:=L_ h2;have HF:=L_ hf;clear h h2 hf;have E:=Env.start w
 go_enter hF,hn
 by_cases hne:(l.length:Int)=(l'.length:Int)
 case neg=>
  refine G0 [5,0,4,6,5,83,4,7,5,0,4,22,24] ?_;exact ak ⟨false,rfl,E.aD⟩
 case pos=>
  refine G0 [5,0,4,6,5,83,4,8,15,6] ?_;replace hne:=L_ hne;refine G0 [5,84,4,19] ?_
  go_loopw [17] (fun y wr=>∃k:Nat,y=(k:Int)∧k≤l.length∧Env w w [] [] wr) (fun y _=>l.length - (intOf y).toNat)
  case atStart=>exact⟨0,rfl,Zq _,E⟩
  case round=>
   clear E;obtain⟨k,rfl,hk,E⟩:=hrel;have hw:IntKind.i64.wrap ((k:Int)+1)=((k+1:Nat):Int):=by rw[aaP _ (by omega)];rfl
   by_cases hlt:k<l.length
   case pos=>
    refine G0 [5,0,4,16] ?_;obtain⟨bb,off,x,hA,hbl,hx,hcc,_⟩:=H.get (k:=k) hlt;obtain⟨bc,of2,y,hA2,hbl2,hy,hdd,_⟩:=H2.get (k:=k) (by have:=hne.out;simp only;omega);have hlt2:(k:Int)<(l'.length:Int):=by have:=hne.out;omega
    simp only at hA hA2;subst hA hA2;replace hcc:=L_ hcc;replace hdd:=L_ hdd;replace hx:=L_ (Zk hx);replace hy:=L_ (Zk hy);refine G0 [15,18,5,0,0] ?_
    (refine fA (aj.cs x) (fun i u hu=>(E.aD.cell (by exact hbl)).trans (hcc i u hu)) ?_;dsimp only[aj.cs])
    refine G E [70,3,0,60,4,5,84,9] ?_;clear E;intro g8 w3 E
    (refine fA (aj.cs y) (fun i u hu=>(E.aD.cell (by exact hbl2)).trans (hdd i u hu)) ?_;dsimp only[aj.cs])
    refine G E [70,3,60,4,5,0,9] ?_;clear E;intro g9 w5 E
    first|refine aB 1 15 E ?_|refine aB 1 2 E ?_
    first|refine aB 0 15 E ?_|refine aB 0 2 E ?_
    have hcf:=HF x hx y hy _ E.aD;dsimp only at hcf;replace hcf:=L_ hcf;refine ah (hcf) ?_;rintro _ w6 ⟨q,rfl,hb⟩;replace E:=E.up hb;clear hb;refine G0 [26] ?_;cases q
    case false=>
     refine G0 [0,4,7,5,0,4,22,24] ?_;exact ak ⟨false,rfl,E.aD⟩
    case true=>
     refine G0 [0,4,8,21,23,0,0,25] ?_
     go_roundw
     case rel=>exact⟨k+1,by go_num,by omega,E.drop 2⟩
     case measure=>simp[intOf];omega
   case neg=>
    refine G0 [5,0,4,17,27,28,5,0,4,22] ?_;exact ak ⟨true,rfl,E.aD⟩
 ):Ye α V F:=h hF hn
theorem q9:Ye gT (fun x=>x) 91:=XC _ _ func91 ntmps91
theorem zQ:Ye dZ (fun x=>x) 232:=XC _ _ func232 ntmps232
theorem zZ:∀args w,(callFunc 231 args).run prog w=.ok (.enter 231 args) w:=enters_of func231 (by kernel_rfl) rfl
theorem Dq:∀args w,(callFunc 233 args).run prog w=.ok (.enter 233 args) w:=enters_of func233 (by kernel_rfl) rfl
theorem Ua (t u:gT)(w:World)(N:Nat)(ht:au.aA w w N t)(hu:au.aA w w N u)(hN:N≤1000000):Calls prog 231 #[t,u] w fun e w'=>∃b,e=.returned (.bool b)∧Below w w w':=by
 have HT:=L_ ht;have HU:=L_ hu;clear ht hu;have E:=Env.start w
 go_enter func231,ntmps231
 refine G E [5,71,3,71,3,0,4,5,0,41,0,40,9] ?_;clear E;intro g2 g3 w3 E;refine ah (eZ t.r u.r _ N (E.h HT).1 (E.h HU).1 (by omega)) ?_;rintro _ w4 ⟨b,rfl,hw⟩;replace E:=E.up hw;clear hw;refine G0 [26] ?_;cases b
 case false=>
  refine G0 [0,1,80,2,4,22] ?_;exact ak ⟨false,rfl,E.aD⟩
 refine G E [0,0,41,0,40] ?_;refine ah (eZ t.m u.m _ N (E.h HT).2 (E.h HU).2 (by omega)) ?_;rintro _ w5 ⟨b,rfl,hw⟩;replace E:=E.up hw;clear hw;refine G0 [26,0,0,4,22] ?_;exact ak ⟨b,rfl,E.aD⟩
theorem Vv (t u:jl)(w:World)(N:Nat)(ht:au.aA w w N t)(hu:au.aA w w N u)(hN:N≤1000000):Calls prog 156 #[t,u] w fun e w'=>∃b,e=.returned (.bool b)∧Below w w w':=by
 have HT:=L_ ht;have HU:=L_ hu;clear ht hu;have E:=Env.start w
 go_enter func156,ntmps156
 refine G E [5,71,3,71,3,0,4,5,0,41,0,40,9] ?_;clear E;intro g2 g3 w3 E
 by_cases h1:(t.me==u.me)=false
 case pos=>
  refine G0 [0,0,1,82,4,22] ?_;exact ak ⟨false,rfl,E.aD⟩
 replace h1:(t.me==u.me)=true:=by simpa using h1
 refine G E [84,41,0,40] ?_;refine ah (q9 t.all u.all 231 zZ #[] _ N (E.h HT).1 (E.h HU).1 (by omega) (fun x hx y hy w' hb=>Ua x y w' N (au.aS (((E.h HT).1.up hb).2.2.2.2 x hx) (Zh _) (Zh _)) (((E.h HU).1.up hb).2.2.2.2 y hy) hN)) ?_;rintro _ w4 ⟨b,rfl,hw⟩;replace E:=E.up hw;clear hw;refine G0 [26] ?_;cases b
 case false=>
  refine G0 [0,0,1,81,2,2,2,4,22] ?_;exact ak ⟨false,rfl,E.aD⟩
 refine G E [84,41,0,40] ?_;refine ah (zQ t.se u.se 233 Dq #[] _ N (E.h HT).2.1 (E.h HU).2.1 (by omega) (fun x hx y hy w' hb=>(Uz x y w' N (((E.h HT).2.1.up hb).2.2.2.2 x hx) (((E.h HU).2.1.up hb).2.2.2.2 y hy) hN).mono fun e w'' h=>⟨h.1.choose,h.1.choose_spec,h.2⟩)) ?_;rintro _ w5 ⟨b,rfl,hw⟩;replace E:=E.up hw;clear hw;refine G0 [26] ?_;cases b
 case false=>
  refine G0 [0,0,1,80,2,4,22] ?_;exact ak ⟨false,rfl,E.aD⟩
 refine G E [84,41,0,40] ?_;refine ah (Bz t.ti u.ti _ N (E.h HT).2.2 (E.h HU).2.2 (by omega)) ?_;rintro _ w6 ⟨b,rfl,hw⟩;replace E:=E.up hw;clear hw;refine G0 [26,0,0,4,22] ?_;exact ak ⟨b,rfl,E.aD⟩
end
variable{ops:Array Oper}{Q:Exit→Act→World→Prop}{o:Oper}{sl x:Operand}{T:TypeId}
section
variable{α:Type}[aj α] [jy α] {b N:Nat}{w0 w w':World}{bx:List Bx}{is:List It}
theorem Sj (q:Nat){rest:List Oper}{s:Sl α}(N':Nat)(y:α)(g:Nat)(E:Env b w0 bx is w)(hy:Reads w w (aj.sz α) (some ⟨g,0,none⟩) 1 (aj.cs y))(hn:s.l.length+1≤N')(hNN:N≤N')(hN:N'≤1000000000)
  (h:∀(s':Sl α) w',Hid (s'.l=s.l++[y])→Env b w0 bx (is.set q (own s' N')) w'→wpList prog ops Q rest (a.put o.dst (.slice s'.A s'.l.length s'.c)) w')
  (hk:is[q]?=some (both (own s N) (own y N)):=by rfl) (hgd:o.guard=none:=by rfl) (hT:T=aj.sty α:=by rfl) (ho:o.op=.call { callee:=.builtin .append,args:=#[sl,x],argTypes:=#[T,T] }:=by rfl) (hs:a.eval sl=s:=by rfl) (hx:a.eval x=.slice (some ⟨g,0,none⟩) 1 1:=by rfl) (ht:aj.ty α ∉ jy.tys α:=by decide):wpList prog ops Q (o::rest) a w:=by
 have hr:=(show Sl.Own w b N s from(E.get q hk).1).1;refine Sl.app hgd sl x T hT ho b s hs hr w (⟨some ⟨g,0,none⟩,1,[y]⟩:Sl α) hx (by simpa[Sl.row] using hy) (by simp only[ZI,aai];omega) E.sz fun s' w' h1 h2 h3=>?_;exact h s' w' (L_ h1) (E.ML q hk h3 h2 h1 hn hNN ht)
end
end Go.Proofs.YtaebfkcgdmodlaaGreatDoor
