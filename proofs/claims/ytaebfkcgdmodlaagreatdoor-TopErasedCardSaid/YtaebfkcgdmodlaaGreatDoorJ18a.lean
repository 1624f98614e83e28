/-
  A part of the proof that the erased node of towncrier reads nothing (TopErased).
-/
import Derived.Test.YtaebfkcgdmodlaaGreatDoorJ18
import Derived.Test.YtaebfkcgdmodlaaGreatDoorJ14
namespace Go.Proofs.YtaebfkcgdmodlaaGreatDoor
open Go.RowKit Go.Proofs.Tryz
set_option maxHeartbeats 16000000
set_option maxRecDepth 100000
set_option linter.unusedVariables false
set_option linter.unusedSimpArgs false
variable{P:ByteArray→Prop}{Pg:Int→ByteArray→Prop}{bx:List Bx}{b k:Nat}{w0:World}
section
attribute [local irreducible] wpList av aH
structure zK (Pg:Int→ByteArray→Prop)(n:Nat):Prop where
 sz:oH Pg
 nil:∀g v,Pg g v→Pg g ⟨#[]⟩
 fin:∀g v c,Pg g v→Cp.eB v.data.toList=(c,0)→c.k=1→∀(d:Cp.dD) (u:ByteArray),Cp.dU d=true→d.k=2→u.data.toList=Cp.aV d→Pg g u
 Zg:∀g v c,Pg g v→Cp.eB v.data.toList=(c,0)→c.k=1→∀h:Nat,(h:Int)∈c.gs→h<n→∀(d:Cp.dD) (u:ByteArray),Cp.dU d=true→d.k=1→d.gs=c.gs→u.data.toList=Cp.aV d→Pg (h:Int) u
def jl.aU (x:jl):List (List Int):=x.all.l.map fun g=>g.r.l
structure jJ (Pg:Int→ByteArray→Prop)(T:Nat)(x:jl):Prop where
 se:∀s∈x.se.l,lu (Pg s.num) s
 ti:∀t∈x.ti.l,i64 t.t
 tl:x.ti.l.length≤T
structure S9 (Pg:Int→ByteArray→Prop)(T:Nat)(x y:jl):Prop where
 inn:jJ Pg T y
 me:y.me=x.me
 aU:y.aU=x.aU
def Gz (Pg:Int→ByteArray→Prop)(me:Int)(aU:List (List Int))(m:bS):Prop:=
 m.f=me∧(m.k=7∨Pg m.g m.v)∧(∃(k:Nat) (r:List Int),m.g=(k:Int)∧aU[k]?=some r∧m.t∈r)∧gN m
structure Gp (Pg:Int→ByteArray→Prop)(A:bS→Prop)(x:jl)(rc:List Re)(ma:List bS):Prop where
 rc:∀r∈rc,Pg r.g r.v∧Gs r
 ma:∀m∈ma,Gz Pg x.me x.aU m∨A m
theorem lu.same {x y:dZ}(h:lu P x)(s:qB y x):lu P y:=
 ⟨by rw[s.log];exact h.log,by rw[s.vs];exact h.vs,by rw[s.wi];exact h.wi,by rw[s.r];exact h.t.same s.t⟩
theorem dB.aU {a b:List gT}(h:dB a b):a.map (fun g=>g.r.l)=b.map fun g=>g.r.l:=by
 have h2:=congrArg (List.map Prod.fst) h;simpa[List.map_map,Function.comp_def] using h2
theorem dB.get {a b:List gT}(h:dB a b){g:gT}(hg:b[k]?=some g):∃g',a[k]?=some g'∧g'.r.l=g.r.l∧g'.m.l=g.m.l:=by
 have h2:(a.map fun g=>(g.r.l,g.m.l))[k]?=(b.map fun g=>(g.r.l,g.m.l))[k]?:=by rw[h]
 rw[ZU,ZU,hg] at h2;cases ha:a[k]? with
 |none=>rw[ha] at h2;cases h2
 |some g'=>
  rw[ha] at h2;simp only[aad,ZH,ZV] at h2;exact⟨g',rfl,h2.1,h2.2⟩
theorem dB.ok {a b:List gT}(h:dB a b)(hb:nG b):nG a:=by
 have hl:a.length=b.length:=by have:=congrArg List.length h;simpa using this
 refine⟨by rw[hl];exact hb.1,by rw[hl];exact hb.2.1,fun g hg=>?_⟩;obtain⟨k,hk,rfl⟩:=aaC hg;obtain⟨g',h1,h2,h3⟩:=dB.get (Eq.symm h:dB b a) (Zl hk);rw[←h2,←h3];exact hb.2.2 g' (Zk h1)
theorem jJ.Ue {T:Nat}{x y:jl}(h:jJ Pg T x)(c:jN x)(s:jv y x):eF Pg ⟨y,⟨none,0,[]⟩,⟨none,0,[]⟩⟩:=by
 refine⟨fun u hu=>?_,fun m hm=>(by cases hm),fun r hr=>(by cases hr),fun t ht=>h.ti t (s.ti▸ht),dB.ok s.all c.all,by rw[s.me];exact c.me⟩;obtain⟨k,hk,rfl⟩:=aaC hu;obtain⟨z,hz,hs⟩:=s.se.2 k _ (Zl hk);have hzm:=Zk hz;obtain⟨-,h2,i,g,h3,h4,h5⟩:=c.se z hzm;obtain⟨g',h6,h7,-⟩:=dB.get s.all h4;exact⟨by rw[hs.num];exact(h.se z hzm).same hs,hs.me.trans (h2.trans s.me.symm),i,g',hs.num.trans h3,h6,by rw[hs.r,h5,h7]⟩
theorem eF.aD {T:Nat}{X:gY}(h:eF Pg X)(ht:X.x.ti.l.length≤T):jJ Pg T X.x:=⟨fun s hs=>(h.se s hs).1,h.ti,ht⟩
theorem eF.fin {A:bS→Prop}{X:gY}(h:eF Pg X):Gp Pg A X.x X.rc.l X.ma.l:=
 ⟨h.rc,fun m hm=>Or.inl ⟨(h.ma m hm).f,(h.ma m hm).v,by
  obtain⟨k,g,h1,h2,h3⟩:=(h.ma m hm).t;exact⟨k,g.r.l,h1,by unfold jl.aU;rw[ZU,h2];rfl,h3⟩,(h.ma m hm).wf⟩⟩
theorem eF.times {X:gY}(h:eF Pg X)(ti:Sl mM)(ht:∀t∈ti.l,i64 t.t):eF Pg ⟨⟨X.x.me,X.x.all,X.x.se,ti⟩,X.rc,X.ma⟩:=
 ⟨fun s hs=>⟨(h.se s hs).1,(h.se s hs).2.1,(h.se s hs).2.2⟩,fun m hm=>⟨(h.ma m hm).f,(h.ma m hm).v,(h.ma m hm).t,(h.ma m hm).wf⟩,h.rc,ht,h.gr,h.me⟩
theorem eX.len {X Y:gY}(h:eX X Y):Y.x.se.l.length=X.x.se.l.length:=by
 have:=congrArg List.length h.num;simpa using this
theorem eX.aU {X Y:gY}(h:eX X Y):Y.x.aU=X.x.aU:=by unfold jl.aU;rw[h.all]
theorem jv.aU {x y:jl}(h:jv x y):x.aU=y.aU:=dB.aU h.all
theorem jv.n {x y:jl}(h:jv x y):x.all.l.length=y.all.l.length:=by have:=congrArg List.length h.aU;simpa[jl.aU] using this
theorem jN.iU {x y:jl}{X:gY}(c:jN x)(s:jv y x)(e:X.x.all=y.all){u:dZ}(hu:u∈x.se.l):∃(k:Nat) (gx:gT),u.num=(k:Int)∧X.x.all.l[k]?=some gx:=by
 obtain⟨-,-,i,g,h3,h4,-⟩:=c.se u hu;obtain⟨g',h6,-,-⟩:=dB.get s.all h4;exact⟨i,g',h3,by rw[e];exact h6⟩
theorem jW.is {l:List ByteArray}{m:sU}(h:m.is (jW l)):m.is F5∧(m.g.l.length≤4∧∀g∈m.g.l,0≤g)∧∃v∈l,∃c,Cp.eB v.data.toList=(c,0)∧c.k=1∧c.gs=m.g.l:=by
 obtain⟨h1,v,hv,c,h2,h3,h4,h5,h6,h7,h8⟩:=h;refine⟨h1,?_,v,hv,c,h2,h3,h5⟩;have hm:=(Lg.qo (s:=v.data.toList) (by rw[h2])).1;rw[h2] at hm
 have h9:Cp.VU c.gs=true:=by
  unfold Cp.dU at hm;rw[h3] at hm;simp only[show ¬((1:Int)=0) by decide,if_false,if_true,Zr] at hm;have h10:=hm.1.1.1.1.1.1;unfold Cp.lS at h10;simp only[Zr] at h10;exact h10.1.1.1.1
 rw[h5] at h9;have h11:=Cp.Iz h9;refine⟨h11.1,fun g hg=>?_⟩;have:=Nm.ku (h11.2 g hg);omega
theorem OQ {is:List It}(Pg:Int→ByteArray→Prop)(p N M K:Nat)(X:gY)(q:Int)(l:List ByteArray)(m:sU)(w:World)(E:Env b w0 (dJ p X::bx) (cO X N M K++is) w)(hI:eF Pg X)(hP:zK Pg X.x.all.l.length)(hq:∃(k:Nat) (gx:gT),q=(k:Int)∧X.x.all.l[k]?=some gx)
  (hm:∀X' M' w',Env b w0 (dJ p X'::bx) (cO X' N M' K++is) w'→au.aA w' w' N m) (hmf:m.is (jW l)) (hl:∀v∈l,Pg q v)
  (hN:N≤10000) (hN2:1000≤N) (hM:M+24≤900000) :
  Calls prog 105 #[p,q,m] w fun e w'=>∃X':gY,e=()∧Hid (eF Pg X'∧eX X X')∧Env b w0 (dJ p X'::bx) (cO X' N (M+24) K++is) w':=by
 obtain⟨k,gx,rfl,hk⟩:=hq;obtain⟨h1,h2,v,hv,c,h3,h4,h5⟩:=jW.is hmf;exact OI Pg p N M K X k gx m w E hI hP.sz hk hm h1 h2 (fun t ht u hu=>hP.fin _ v c (hl v hv) h3 h4 _ u ht rfl hu) (fun g hg hgn ht u hu=>hP.Zg _ v c (hl v hv) h3 h4 g (by rw[h5];exact hg) hgn _ u ht rfl h5.symm hu) hN hN2 hM
end
variable{B K' M M' N:Nat}{w:World}
section
attribute [local irreducible] wpList av aH
def iY:jl:=⟨0,⟨none,0,[]⟩,⟨none,0,[]⟩,⟨none,0,[]⟩⟩
theorem Env.qO {is:List It}(E:Env b w0 bx is w)(N M K:Nat):Env b w0 bx (cO ⟨iY,⟨none,0,[]⟩,⟨none,0,[]⟩⟩ N M K++is) w:=
 ((((E.aO (α:=mM) (N:=N)).aO (α:=gT) (N:=N)).aO (α:=dZ) (N:=N)).aO (α:=Re) (N:=K)).aO (α:=bS) (N:=M)
theorem Env.Ue {is:List It}{x:jl}(E:Env b w0 bx (lV x N++is) w)(M K:Nat):Env b w0 bx (cO ⟨x,⟨none,0,[]⟩,⟨none,0,[]⟩⟩ N M K++is) w:=
 (E.aO (α:=Re) (N:=K)).aO (α:=bS) (N:=M)
theorem Env.more {K:Nat}{is:List It}{X:gY}(E:Env b w0 bx (cO X N M K++is) w)(h:M≤M')(h2:K≤K'):Env b w0 bx (cO X N M' K'++is) w:=
 (((E.l9 h).perm (ZW ..)).l9 h2).perm (ZW ..)
theorem XM {s:Sl ByteArray}(h:s.aA w B N)(hl:s.l.length≤200):s.aA w B 1000:=⟨h.1,h.2.1,h.2.2.1,by omega,fun v hv=>h.2.2.2.2 v hv⟩
theorem Cv:∀args w,(callFunc 107 args).run prog w=.ok (.enter 107 args) w:=enters_of func107 (by kernel_rfl) rfl
def Stepped (Pg:Int→ByteArray→Prop)(A:bS→Prop)(T:Nat)(x:jl)(N:Nat)(w:World)(e:Ending)(w':World):Prop:=
 ∃(y:jl) (rc:Sl Re) (ma:Sl bS) (q:Int),e=.returned (.tuple #[y,rc,ma,q])∧Hid (q=0→S9 Pg T x y∧Gp Pg A y rc.l ma.l)∧Env w w [] (cO ⟨y,rc,ma⟩ N (96000+24*N) 40) w'
theorem Vo (Pg:Int→ByteArray→Prop)(T:Nat)(x:jl)(w:World)(N:Nat)(hl:au.aA w w N x)(hN:N≤10000)(hN2:1000≤N)(hi:jJ Pg T x)(hP:zK Pg x.all.l.length) :
  Calls prog 51 #[x] w (Stepped Pg (fun _=>False) T x N w):=by
 have HL:=L_ hl;have HI:=L_ hi;have HP:=L_ hP;have HW:Hid (∀s∈x.se.l,yF s):=L_ fun s hs=>(hi.se s hs).wf (hP.sz _);clear hl hi hP;have E:=Env.start w
 go_enter func51,ntmps51
 refine GD E [5,71,3,70,3,84,4,6,5,9] ?_;clear E;intro g1 g2 w3 E;refine aB 1 4 E ?_;refine ah (sO x _ N (E.h HL) (by omega) hN2 HW) ?_;rintro _ w4 ⟨v,rfl,hv,hb⟩;replace E:=E.up hb;clear hb;refine G0 [26] ?_
 by_cases h0:v=0
 case neg=>
  refine GD E [0,4,5,0,0,4,7,5,0,0,60,84,4,22,24,9] ?_;clear E;intro w5 E;exact jL 0 E ⟨iY,⟨none,0,[]⟩,⟨none,0,[]⟩,v,rfl,L_ (fun h=>absurd h h0),(E.drop 2).qO N _ _⟩
 subst h0;refine G0 [0,4,5,0,0,4,8] ?_;replace hv:=L_ (hv rfl);refine G0 [15,5] ?_;refine aB 1 4 E ?_;refine ah (rX x _ N (E.h HL) (by omega)) ?_;rintro _ w6 ⟨y,rfl,hy,F⟩;replace E:=E.call F;clear F;refine GD E [26,0,71,3,0,4,6,5,0,42,0,0,4,19,9] ?_;clear E;intro g23 w7 E;have hsn:x.se.l.length≤4:=hv.n;have HY:Hid (eF Pg ⟨y,⟨none,0,[]⟩,⟨none,0,[]⟩⟩):=L_ (HI.Ue hv hy);replace E:Env w w (dJ g23 ⟨y,⟨none,0,[]⟩,⟨none,0,[]⟩⟩::(g2,45,[.int .i64 0,(),(),()])::(g1,45,x)::[]) (cO ⟨y,⟨none,0,[]⟩,⟨none,0,[]⟩⟩ N 0 0++[]) _:=E.Ue 0 0
 go_loopw [27] (fun u wr=>∃(k:Nat) (X:gY),u=(k:Int)∧k≤x.se.l.length∧Hid (eF Pg X∧eX ⟨y,⟨none,0,[]⟩,⟨none,0,[]⟩⟩ X)∧Env w w (dJ g23 X::(g2,45,[.int .i64 0,(),(),()])::(g1,45,x)::[]) (cO X N (24000*k) 0++[]) wr) (fun u _=>x.se.l.length - (intOf u).toNat)
 case atStart=>exact⟨0,_,rfl,Zq _,L_ ⟨HY,eX.refl _⟩,E⟩
 case round=>
  clear E;obtain⟨k,X,rfl,hk,HX,E⟩:=hrel
  by_cases hlt:k<x.se.l.length
  case pos=>
   have hw:IntKind.i64.wrap ((k:Int)+1)=((k+1:Nat):Int):=by rw[aaP _ (by omega)];rfl
   obtain⟨bb,off,s,hA,-,hs,hcc,-⟩:=(E.l HL.2.1).get (k:=k) hlt;replace hcc:=L_ hcc;have HS:=L_ (Zk hs);have HSL:Hid (au.aA w w N s):=L_ (HL.2.1.2.2.2.2 s HS);clear hs;refine G0 [5,0,4,16,15,18,5,0] ?_;refine fA s hcc ?_;clear hcc hA;refine GD E [70,3,60,4,5,9] ?_;clear E;intro g9 w9 E;refine aB 0 15 E ?_;refine ah (PD s _ 1000 (XM (E.l HSL.2.2.1) (hv.se s HS).1.ll) (by decide) (by decide) (fun v hv=>(HP.sz _ v ((HI.se s HS).log v hv)).1)) ?_;rintro _ w10 ⟨r,rfl,hr,F⟩;replace E:=E.call F;clear F;refine G0 [26,0,0,4,19] ?_;replace E:=(E.dQ (is':=cO X N (24000*k) 0++own r 1000::[]) 6 [1,2,3,4,5,0]).bD 1
   go_loopw [34] (fun u wr=>∃(j:Nat) (X2:gY),u=(j:Int)∧j≤r.l.length∧Hid (eF Pg X2∧eX ⟨y,⟨none,0,[]⟩,⟨none,0,[]⟩⟩ X2)∧Env w w (dJ g23 X2::(g9,60,s)::(g2,45,[.int .i64 0,(),(),()])::(g1,45,x)::[]) (cO X2 N (24000*k+24*j) 0++own r 1000::[]) wr) (fun u _=>r.l.length - (intOf u).toNat)
   case atStart=>exact⟨0,X,rfl,Zq _,HX,E⟩
   case round=>
    clear E;obtain⟨j,X2,rfl,hj,HX2,E⟩:=hrel;have hon:=E.on (s:=r) (N:=1000) 5
    by_cases hlt2:j<r.l.length
    case pos=>
     have hw2:IntKind.i64.wrap ((j:Int)+1)=((j+1:Nat):Int):=by rw[aaP _ (by omega)];rfl
     obtain⟨bb,off,z,hA,-,hz,hcc,-⟩:=(E.ol (s:=r) (N:=1000) 5).get (k:=j) hlt2;replace hcc:=L_ hcc;have HZ:=L_ (Zk hz);clear hz;refine G0 [5,0,4,16,15,18,5,0] ?_;refine fA z hcc ?_;clear hcc hA;refine GD E [70,3,60,4,23,0,0,42,0,9] ?_;clear E;intro g11 w12 E;refine aB 0 5 E ?_;replace E:=E.bD 1;refine ah (OQ Pg g23 N (24000*k+24*j) 0 X2 s.num s.log.l z.m _ E HX2.1 (by rw[HX2.out.2.all];exact hy.n▸HP.out) (hv.iU hy HX2.2.all HS) (fun X' M' w' E'=>au.aS ((E'.ol (s:=r) (N:=1000) 5).2.2.2.2 z HZ) (Zh _) hN2) (hr z HZ) (fun v hv=>(HI.se s HS).log v hv) hN hN2 (by omega)) ?_;clear E;rintro _ w13 ⟨X3,rfl,hX,E⟩;refine G0 [26,20,23,0,0,25] ?_
     go_roundw
     case rel=>exact⟨j+1,X3,rfl,hlt2,L_ ⟨hX.1,HX2.2.trans hX.2⟩,((E.bD 1).drop 1).yI (by omega)⟩
     case measure=>simp[intOf];omega
    case neg=>
     refine G0 [5,0,4,17,27,28,23,0,0,25] ?_
     go_roundw
     case rel=>exact⟨k+1,X2,rfl,hlt,HX2,(((E.bD 1).drop 1).dQ (is':=cO X2 N (24000*k+24*j) 0++[]) 6 [0,1,2,3,4]).yI (by omega)⟩
     case measure=>simp[intOf];omega
  case neg=>
   refine GD E [5,0,4,17,27,28,6,5,84,0,40,0,0,4,19] ?_;have hXl:X.x.se.l.length≤4:=by rw[HX.out.2.len];have:=hy.se.1;show y.se.l.length≤4;omega
   go_loopw [52] (fun u wr=>∃(i:Nat) (X2:gY),u=(i:Int)∧i≤X.x.se.l.length∧Hid (eF Pg X2∧eX ⟨y,⟨none,0,[]⟩,⟨none,0,[]⟩⟩ X2∧X2.x.se.l.length=X.x.se.l.length)∧Env w w (dJ g23 X2::(g2,45,[.int .i64 0,(),(),()])::(g1,45,x)::[]) (cO X2 N (96000+6*(N*i)) (10*i)++[]) wr) (fun u _=>X.x.se.l.length - (intOf u).toNat)
   case atStart=>exact⟨0,X,rfl,Zq _,L_ ⟨HX.1,HX.2,rfl⟩,E.more (by omega) (by omega)⟩
   case round=>
    clear E;obtain⟨i,X2,rfl,hi,HX2,E⟩:=hrel;have hNi:=Nat.mul_le_mul_left N (show i≤4 by omega)
    by_cases hlt2:i<X.x.se.l.length
    case pos=>
     have hw2:IntKind.i64.wrap ((i:Int)+1)=((i+1:Nat):Int):=by rw[aaP _ (by omega)];rfl
     obtain⟨s,hs⟩:∃s,X2.x.se.l[i]?=some s:=⟨_,Zl (by rw[HX2.out.2.2];exact hlt2)⟩;replace hs:=L_ hs;refine G0 [5,0,4,16,15,18,5,0,0,4,5,0,0] ?_;refine ah (N8 Pg 107 #[] Cv g23 N (96000+6*(N*i)) (10*i) X2 i s _ E HX2.1 hs (fun w' E'=>P7 (Pg s.num) s w' N ((E'.ol (s:=X2.x.se) (N:=N) 2).2.2.2.2 s (Zk hs)) hN hN2 (HX2.1.se s (Zk hs)).1 (HP.sz _)) hN hN2 (by omega) (by omega)) ?_;clear E;rintro _ w14 ⟨v,X3,rfl,hX,E⟩;refine G0 [26] ?_
     by_cases h0:v=0
     case neg=>
      refine GD E [0,4,5,0,0,4,7,5,0,0,61,84,4,22,24,9] ?_;clear E;intro w15 E;exact jL 1 E ⟨iY,⟨none,0,[]⟩,⟨none,0,[]⟩,v,rfl,L_ (fun h=>absurd h h0),((E.drop 3).MJ 5).qO N _ _⟩
     subst h0;refine G0 [0,4,5,0,0,4,8,21,23,0,0,25] ?_
     go_roundw
     case rel=>exact⟨i+1,X3,rfl,hlt2,L_ ⟨hX.1,HX2.2.1.trans hX.2,hX.2.len.trans HX2.2.2⟩,E.more (by rw[Nat.mul_succ];omega) (by omega)⟩
     case measure=>simp[intOf];omega
    case neg=>
     refine G0 [5,0,4,17,27,28,5,0] ?_;refine ah (Tp g23 N (96000+6*(N*i)) (10*i) X2 _ E (by omega) hN2 (HX2.1.sz HP.sz)) ?_;clear E;rintro _ w16 ⟨ti,rfl,hti,E⟩;refine G0 [26,4] ?_;replace E:=E.bD 1;refine bP 1 14 [] (aaL [0,1,2,3,4,5,6,7,8,9,10,11]++aaN [12]++aaL [13]) E ?_;clear E;intro w17 E
     iterate 3 refine ni E ?_
     refine gZ 0 4 E ?_;refine GD E [32,32,32,50,32,32,32,50] ?_;refine lN 0 E ?_;clear E;intro w18 E;refine GD E [32,29,0,0,4,22] ?_;exact jL 0 E ⟨⟨X2.x.me,X2.x.all,X2.x.se,ti⟩,X2.rc,X2.ma,0,rfl,L_ (fun _=>⟨⟨(HX2.1.times ti fun t ht=>HX2.1.ti t (hti.2 t ht)).aD (Zt hti.1 (by rw[HX2.out.2.1.ti];show y.ti.l.length≤T;rw[hy.out.ti];exact HI.tl)),HX2.2.1.me.trans hy.me,HX2.2.1.aU.trans hy.aU⟩,(HX2.1.times ti fun t ht=>HX2.1.ti t (hti.2 t ht)).fin⟩),(E.drop 3).more (by omega) (by omega)⟩
theorem Uf (v:ByteArray)(w:World)(hv:v.size≤1000000):Calls prog 70 #[v] w fun e w'=>∃(c:lJ) (q:Int),e=.returned (.tuple #[c,q])∧Hid (ny c)∧Below w w w':=by
 refine(uL v _ w (by unfold maxLen;omega) rfl).mono ?_;rintro e w' ⟨D,x,h1,-,h3,h4⟩;refine⟨D.com,x,?_,L_ h3.wf,h4⟩;obtain⟨e1,e2⟩:=h3.len;rw[h1];clear h1 h3 h4;obtain⟨k,mi,GA,Gn,Gc,gs,mt,key,body,i,tm,MA,Mn,Mc,mem,tp,who,n⟩:=D;simp only at e1 e2;subst e1 e2;rfl
theorem BF:∀args w,(callFunc 236 args).run prog w=.ok (.enter 236 args) w:=enters_of func236 (by kernel_rfl) rfl
theorem WK (P:ByteArray→Prop)(g1:Nat)(s:dZ)(m:bS)(w:World)(N:Nat)(hb:aF w g1 62 m)(hl:au.aA w w N s)(hN:N≤10000)(hN2:1000≤N)(hi:lu P s)(hz:MK P)(hm:m.k=7∨P m.v)(hw:gN m) :
  Calls prog 236 #[s,g1] w fun e w'=>∃(y:dZ) (rc:Sl Re) (ma:Sl bS) (q:Int),e=.returned (.tuple #[y,rc,ma,.int .i64 q])∧Hid (q=0→sW P s y∧xD P y rc.l ma.l)∧Env w w [] (bM ⟨y,rc,ma⟩ N (6*N) 10) w':=by
 have HL:=L_ hl;have HI:=L_ hi;have HZ:=L_ hz;have HM:=L_ hm;have HW:=L_ hw;have HB:=L_ hb;have hlt:=hb.lt;clear hl hi hz hm hw hb;have E:=Env.start w
 go_enter func236,ntmps236
 refine G E [5,71,3,70,3,84,4,5,9] ?_;clear E;intro g2 g3 w3 E;refine aB 1 15 E ?_;refine fA m (fun q u hu=>(E.aD.cell (p:=⟨g1,0+q,none⟩) hlt).trans ((HB.cell (0+q)).trans (by rw[aah];exact List.getElem?_toArray.trans hu))) ?_;refine ah (GN P s m _ N (E.h HL) hN hN2 HI HZ HM HW) ?_;rintro _ w4 ⟨y,rc,ma,q,rfl,hq,F⟩;replace E:=E.call F;clear F;refine G E [26,84,0,60,84,4,22,9] ?_;clear E;intro w5 E;exact jL 0 E ⟨y,rc,ma,q,rfl,hq,E.drop 2⟩
theorem Lh {x y:jl}(s:jv y x)(g:Int):mD y g=mD x g:=by
 unfold mD;rw[s.me];cases hx:x.all.l[g.toNat]? with
 |some z=>
  obtain⟨z',h1,h2,-⟩:=dB.get s.all hx;rw[h1];simp only[h2]
 |none=>
  rw[List.getElem?_eq_none (by rw[s.n];exact List.getElem?_eq_none_iff.1 hx)]
theorem jN.seat {x y:jl}(c:jN x)(s:jv y x){n:Nat}(hn:n<y.all.l.length)(ho:mD y (n:Int)=true):∃u∈y.se.l,u.num=(n:Int):=by
 obtain⟨z,hz,h1⟩:=c.own n (by rw[←s.n];exact hn) (by rw[←Lh s];exact ho);obtain⟨k,hk,rfl⟩:=aaC hz;have hk2:k<y.se.l.length:=by rw[s.se.1];exact hk
 obtain⟨z',h2,h3⟩:=s.se.2 k _ (Zl hk2);rw[Zl hk] at h2;injection h2 with h2
 exact⟨_,List.getElem_mem hk2,by rw[h3.num,←h2];exact h1⟩
def rY (Pg:Int→ByteArray→Prop)(me:Int)(m m':bS):Prop:=m'.f=me∧m'.t=m.f∧Pg m'.g m'.v∧m.k=9∧gN m'
theorem Oh (Pg:Int→ByteArray→Prop)(T T':Nat)(x:jl)(m:bS)(w:World)(N:Nat)(hl:au.aA w w N x)(hN:N≤10000)(hN2:1000≤N)(hi:jJ Pg T x)(hP:zK Pg x.all.l.length)(hm:m.k=7∨Pg m.g m.v)(hw:gN m)(hT:T≤T')(hT8:m.k=8→T+1≤T')(hTN:T'≤N) :
  Calls prog 158 #[x,m] w (Stepped Pg (rY Pg x.me m) T' x N w):=by
 have HL:=L_ hl;have HI:=L_ hi;have HP:=L_ hP;have HM:=L_ hm;have HW:=L_ hw;have HT:=L_ hT;have HT8:=L_ hT8;have HTN:=L_ hTN;have HWF:Hid (∀s∈x.se.l,yF s):=L_ fun s hs=>(hi.se s hs).wf (hP.sz _);clear hl hi hP hm hw hT hT8 hTN;have E:=Env.start w;obtain⟨mf,mt,mk,mg,ms,mb,mp,mv,mi,mtm⟩:=m
 go_enter func158,ntmps158
 refine GD E [5,71,3,71,3,70,3,84,4,6,5,9] ?_;clear E;intro g2 g3 g4 w4 E;refine aB 2 4 E ?_;refine ah (sO x _ N (E.h HL) (by omega) hN2 HWF) ?_;rintro _ w5 ⟨v,rfl,hv,hb⟩;replace E:=E.up hb;clear hb;refine G0 [26] ?_
 by_cases h0:v=0
 case neg=>
  refine GD E [0,4,5,0,0,4,7,5,0,0,60,84,4,22,24,9] ?_;clear E;intro w6 E;exact jL 0 E ⟨iY,⟨none,0,[]⟩,⟨none,0,[]⟩,v,rfl,L_ (fun h=>absurd h h0),(E.drop 3).qO N _ _⟩
 subst h0;refine G0 [0,4,5,0,0,4,8] ?_;replace hv:=L_ (hv rfl);refine G0 [15,6,5] ?_;refine aB 1 10 E ?_;refine ah (P6 ⟨mf,mt,mk,mg,ms,mb,mp,mv,mi,mtm⟩ _ HW) ?_;rintro _ w7 ⟨q,rfl,hq,hb⟩;replace E:=E.up hb;clear hb;refine G0 [26] ?_
 by_cases h0:q=0
 case neg=>
  refine GD E [0,4,5,0,0,4,7,5,0,0,60,84,4,22,24,9] ?_;clear E;intro w8 E;exact jL 0 E ⟨iY,⟨none,0,[]⟩,⟨none,0,[]⟩,q,rfl,L_ (fun h=>absurd h h0),(E.drop 3).qO N _ _⟩
 subst h0;replace hq:=L_ (hq rfl);obtain⟨n,rfl⟩:∃n:Nat,mg=(n:Int):=⟨mg.toNat,by have h:=hq.g;simp only at h;omega⟩;refine G0 [0,4,5,0,0,4,8,15,5] ?_;refine aB 2 4 E ?_;refine ah (rX x _ N (E.h HL) (by omega)) ?_;rintro _ w9 ⟨y,rfl,hy,F⟩;replace E:=E.call F;clear F;refine GD E [26,0,71,3,0,4,6,9] ?_;clear E;intro g30 w10 E;have HY:Hid (eF Pg ⟨y,⟨none,0,[]⟩,⟨none,0,[]⟩⟩):=L_ (HI.Ue hv hy);replace E:Env w w (dJ g30 ⟨y,⟨none,0,[]⟩,⟨none,0,[]⟩⟩::_) (cO ⟨y,⟨none,0,[]⟩,⟨none,0,[]⟩⟩ N 0 0++[]) _:=E.Ue 0 0;refine bP 0 27 [] (aaL [0,1,2,3,4,5,6,7,8,9,10,11,12,13,14,15,16,17,18,19,20,21,22,24,25,26]++aaN [23]) E ?_;clear E;intro w11 E;refine GD E [32,52,32,32,32,32,50] ?_
 by_cases h1:(mt !=y.me)=true
 case pos=>
  refine GD E [32,32,36,33,33,33,33,32,32,36,33,34,29,1,0,4,7,5,0,61,84,4,22,24,9] ?_;clear E;intro w12 E;exact jL 1 E ⟨iY,⟨none,0,[]⟩,⟨none,0,[]⟩,6,rfl,L_ (fun h=>absurd h (by decide)),((E.drop 4).MJ 5).qO N _ _⟩
 replace h1:(mt !=y.me)=false:=by simpa using h1
 refine GD E [32,32,32,52,32,32,32,32,50,32] ?_
 by_cases h2:(y.all.l.length:Int)≤(n:Int)
 case pos=>
  refine GD E [32,32,32,36,33,34,29,1,0,4,7,5,0,61,84,4,22,24,9] ?_;clear E;intro w13 E;exact jL 1 E ⟨iY,⟨none,0,[]⟩,⟨none,0,[]⟩,6,rfl,L_ (fun h=>absurd h (by decide)),((E.drop 4).MJ 5).qO N _ _⟩
 iterate 4 refine ni E ?_
 have hnl:n<y.all.l.length:=by omega
 refine GD E [32,52,32,52,32] ?_;refine bT (EC g30 N ⟨y,⟨none,0,[]⟩,⟨none,0,[]⟩⟩ (n:Int) _ E (by omega) (fun w' E'=>E'.ol (s:=y.all) (N:=N) 3) HW.g) ?_;clear E;rintro _ w14 ⟨rfl,E⟩;refine⟨_,rfl,E.weak,D_n ?_⟩;refine ow ?_;obtain⟨o,ho⟩:∃o,mD y (n:Int)=o:=⟨_,rfl⟩;rw[ho];replace ho:=L_ ho;cases o
 case false=>
  by_cases h8:(mk==8)=true
  case pos=>
   refine GD E [0,0,4,8,15,6,5,0,42,0,4,7,6] ?_;obtain⟨gy,hgy⟩:∃gy,y.all.l[n]?=some gy:=⟨_,Zl hnl⟩;obtain⟨bb,off,gy2,hA,-,-,-,-⟩:=(E.ol (s:=y.all) (N:=N) 3).get (k:=n) hnl;replace hgy:=L_ hgy;refine bP 0 12 (cO ⟨y,⟨none,0,[]⟩,⟨none,0,[]⟩⟩ N 0 0++[]) (aaL [0,1,2,3,4,5,6,7,8,9,10,11]) E ?_;clear E;intro w15 E;refine GD E [32,32,32,32,50,32,52,32,32] ?_;refine ug E (v:=gy.r) (fun w' E'=>by have h:=(E'.ol (N:=N) (s:=y.all) 3).gI (i:=0) hA hgy rfl;simpa[aj.sz] using h) ?_;refine GD E [32,52,29] ?_;refine ah (tY gy.r mf _ N ((E.ol (N:=N) (s:=y.all) 3).2.2.2.2 gy (Zk hgy)).1 (by omega)) ?_;rintro _ w16 ⟨rfl,rfl⟩;refine G0 [26] ?_;obtain⟨r,hr⟩:∃r,decide (mf∈gy.r.l)=r:=⟨_,rfl⟩;rw[hr];replace hr:=L_ hr;cases r
   case false=>
    refine GD E [0,4,7,5,0,61,84,4,22,24,9] ?_;clear E;intro w17 E;exact jL 1 E ⟨iY,⟨none,0,[]⟩,⟨none,0,[]⟩,6,rfl,L_ (fun h=>absurd h (by decide)),((E.drop 4).MJ 5).qO N _ _⟩
   case true=>
    refine GD E [0,4,8,15,5,0,0,42,0,42,0,42,0] ?_;clear hA;have hk8:mk=8:=by simpa using h8
    refine ah (Sd g30 N 0 0 ⟨y,⟨none,0,[]⟩,⟨none,0,[]⟩⟩ ⟨mi,(n:Int),mtm⟩ _ E (by omega) hN2 (HY.sz HP.sz) (by have h1:=HI.tl;have h2:=HT8 hk8;have h3:=HTN.out;have h4:=congrArg List.length hy.ti;show y.ti.l.length+1≤N;omega)) ?_;clear E;rintro _ w18 ⟨ti,rfl,hti,E⟩;refine G0 [26,4,5,84] ?_;refine aB 0 4 E ?_;refine GD E [61,84,4,22,24,9] ?_;clear E;intro w19 E;exact jL 1 E ⟨⟨y.me,y.all,y.se,ti⟩,⟨none,0,[]⟩,⟨none,0,[]⟩,0,rfl,L_ (fun _=>⟨⟨(HY.times ti fun t ht=>(hti.2 t ht).elim (HY.ti t) fun e=>e▸HW.out.tm).aD (Zt hti.1 (by show y.ti.l.length+1≤T';rw[hy.out.ti];have h1:=HI.tl;have h2:=HT8 hk8;omega)),hy.me,hy.aU⟩,(HY.times ti fun t ht=>(hti.2 t ht).elim (HY.ti t) fun e=>e▸HW.out.tm).fin⟩),(E.drop 4).more (by omega) (by omega)⟩
  replace h8:(mk==8)=false:=by simpa using h8
  refine GD E [0,0,4,7,5,0,61,84,4,22,24,9] ?_;clear E;intro w20 E;exact jL 1 E ⟨iY,⟨none,0,[]⟩,⟨none,0,[]⟩,6,rfl,L_ (fun h=>absurd h (by decide)),((E.drop 4).MJ 5).qO N _ _⟩
 case true=>
  by_cases h8:(mk==8)=true
  case pos=>
   refine GD E [0,0,4,7,5,0,61,84,4,22,24,9] ?_;clear E;intro w21 E;exact jL 1 E ⟨iY,⟨none,0,[]⟩,⟨none,0,[]⟩,6,rfl,L_ (fun h=>absurd h (by decide)),((E.drop 4).MJ 5).qO N _ _⟩
  replace h8:(mk==8)=false:=by simpa using h8
  refine GD E [0,0,4,8,15,6,5,0,42,0,4,8,15,6,5,0,42] ?_;refine ah (Uf mv _ HW.v) ?_;rintro _ w22 ⟨c,q,rfl,hc,hb⟩;replace E:=E.up hb;clear hb;refine G0 [26] ?_
  by_cases h9:(mk==9)=true
  case' neg=>
   replace h9:(mk==9)=false:=by simpa using h9
   refine GD E [84,70,3,60,0,4,5,0,43,0,0,1,80,2,2,4,8,15,6,5,84,43,9] ?_;clear E;intro g11 w24 E;replace E:=E.bD 1
  case' pos=>
   refine GD E [84,70,3,60,0,4,5,0,43,84,9] ?_;clear E;intro g11 w26 E
   by_cases h10:(q==0)=true
   case' neg=>
    replace h10:(q==0)=false:=by simpa using h10
    refine GD E [84,1,1,1,0,4,8,15,6,5,84,43] ?_;replace E:=E.bD 1
   case' pos=>
    refine G0 [84,0] ?_
    by_cases h11:(c.k==1)=true
    case' neg=>
     replace h11:(c.k==1)=false:=by simpa using h11
     refine GD E [40,0,0,4,8,15,6,5,84,43] ?_;replace E:=E.bD 1
    case' pos=>
     refine GD E [40,0,0,4,7,5,84,40,0,43] ?_;replace E:=E.bD 1;refine ah (Cb g30 N ⟨y,⟨none,0,[]⟩,⟨none,0,[]⟩⟩ c.m.i (n:Int) _ E (by omega) (by omega) (fun w' E'=>⟨E'.ol 2,E'.ol 4⟩) (HY.sz HP.sz) HY.ti) ?_;clear E;rintro _ w27 ⟨t,rfl,ht,E⟩;replace E:=E.fZ;refine G0 [26] ?_
     by_cases h12:0<t
     case' neg=>
      refine GD E [0,4,5,0,0,4,8,15,6,5,84,43] ?_;replace E:=E.bD 1
     case pos=>
      refine G0 [0,4,5,0,0] ?_;refine aC (Qs (wp_seq (bP 0 7 [] (aaL [0,1,2,3,4,5,6]) E ?_)));clear E;intro w28 E;refine GD E [32,53,32,32,32,32,51,29] ?_
      by_cases h13:(mf !=y.me)=false
      case pos=>
       refine G0 [0,4,8,15] ?_;replace E:=E.bD 2;refine bP 1 10 [] (aaL [0,1,2,3,4,5,6,7]++aaN [8]++aaL [9]) E ?_;clear E;intro w29 E
       iterate 3 refine ni E ?_
       refine gZ 1 4 E ?_;refine GD E [32,32,32,51] ?_;refine lN 0 E ?_;clear E;intro w30 E;refine GD E [32,29,0,0,4,22,24] ?_;exact jL 0 E ⟨y,⟨none,0,[]⟩,⟨none,0,[]⟩,0,rfl,L_ (fun _=>⟨⟨HY.aD (by show y.ti.l.length≤T';rw[hy.out.ti];exact Zt HI.tl HT),hy.me,hy.aU⟩,HY.fin⟩),(E.drop 5).more (by omega) (by omega)⟩
      replace h13:(mf !=y.me)=true:=by simpa using h13
      refine fV ?_;refine aC (Qs (ng 0 21 [] (aaL [0,1,2,3,4,5,6,7,8,9,10,11,12,13,14,15,16,17,18]++aaN [19,20]) E ?_));clear E;intro w31 E;refine GD E [32,32,32,32,51,32,32,32,32,51,32,53,32,53,32,32,50,32,32] ?_;refine xL E ?_;clear E;intro g146 w32 E;refine D_n ?_;refine TR 0 (s:=(⟨none,0,[]⟩:Sl bS)) 1 (⟨some ⟨g146,0,none⟩,1,[⟨y.me,mf,8,(n:Int),0,0,0,⟨#[]⟩,c.m.i,t⟩]⟩:Sl bS) E (E.reads 0 1 10) (by simp) (by omega) ?_;clear E;intro s2 w33 h2 E;refine D_n ?_;refine GD E [29,0,0,62,4,9] ?_;clear E;intro w34 E;replace E:=E.bD 3;refine bP 1 10 [] (aaL [0,1,2,3,4,5,6,7]++aaN [8]++aaL [9]) E ?_;clear E;intro w35 E
      iterate 3 refine ni E ?_
      refine gZ 2 4 E ?_;refine GD E [32,32,32,52] ?_;refine lN 0 E ?_;clear E;intro w36 E;refine GD E [32,29,0,0,4,22,24] ?_
      exact jL 0 E ⟨y,⟨none,0,[]⟩,s2,0,rfl,L_ (fun _=>⟨⟨HY.aD (by show y.ti.l.length≤T';rw[hy.out.ti];exact Zt HI.tl HT),hy.me,hy.aU⟩,⟨fun r hr=>(by cases hr),fun m hm=>Or.inr (by
       rw[h2.out] at hm;obtain rfl:=Zp.1 hm;have hk:mk=9:=by simpa using h9
       have hp:Pg (n:Int) mv:=HM.resolve_left (fun e=>by simp only at e;omega);have hme:=hv.me;exact⟨hy.me,rfl,HP.nil _ _ hp,hk,jG y.me (by rw[hy.out.me];omega) (by rw[hy.out.me];omega),HW.f,(by show(0:Int)≤8∧(8:Int)≤255;decide),HW.g,dO,dO,dO,hc.m.1,ht,(by show(⟨#[]⟩:ByteArray).size≤1000000;decide)⟩)⟩⟩),(E.drop 6).more (by omega) (by omega)⟩
  all_goals
   refine ah (RG g30 N ⟨y,⟨none,0,[]⟩,⟨none,0,[]⟩⟩ (n:Int) _ E (by omega) (fun w' E'=>E'.ol 2)) ?_;clear E;rintro _ w37 ⟨j0,rfl,hj,E⟩;refine G0 [26,0] ?_
   obtain⟨i,s,rfl,hs,hsk⟩:∃(i:Nat) (s:dZ),j0=(i:Int)∧y.se.l[i]?=some s∧s.num=(n:Int):=by
    rcases hj with ⟨-,hno⟩|⟨i,s,h1,h2,h3,-⟩
    ·exfalso;obtain⟨s,hs,hn⟩:=hv.seat hy.out hnl ho;have h:false=(s.num==(n:Int)):=hno s hs;rw[hn] at h;simp at h
    ·exact⟨i,s,h1,h2,by simpa using h3.symm⟩
   replace hs:=L_ hs;replace hsk:=L_ hsk;clear hj;refine ah (N8 Pg 236 #[g3] BF g30 N 0 0 ⟨y,⟨none,0,[]⟩,⟨none,0,[]⟩⟩ i s _ E HY hs (fun w' E'=>WK (Pg s.num) g3 s ⟨mf,mt,mk,(n:Int),ms,mb,mp,mv,mi,mtm⟩ w' N (E'.blk 3 rfl) ((E'.ol (s:=y.se) (N:=N) 2).2.2.2.2 s (Zk hs)) hN hN2 (HY.se s (Zk hs)).1 (HP.sz _) (by rw[hsk.out];exact HM) HW) hN hN2 (by omega) (by omega)) ?_;clear E;rintro _ w38 ⟨v,X3,rfl,hX,E⟩;refine G0 [26] ?_
   by_cases h0:v=0
   case neg=>
    refine GD E [0,4,5,0,0,4,7,5,0,0,62,84,4,22,24,9] ?_;clear E;intro w39 E;exact jL 2 E ⟨iY,⟨none,0,[]⟩,⟨none,0,[]⟩,v,rfl,L_ (fun h=>absurd h h0),((E.drop 5).MJ 5).qO N _ _⟩
   subst h0;refine G0 [0,4,5,0,0,4,8,15,5,0] ?_;refine ah (Tp g30 N (0+6*N) (0+10) X3 _ E (by omega) hN2 (hX.1.sz HP.sz)) ?_;clear E;rintro _ w40 ⟨ti,rfl,hti,E⟩;refine G0 [26,4] ?_;replace E:=E.bD 2;refine bP 1 14 [] (aaL [0,1,2,3,4,5,6,7,8,9,10,11]++aaN [12]++aaL [13]) E ?_;clear E;intro w41 E
   iterate 3 refine ni E ?_
   refine gZ 0 4 E ?_;refine GD E [32,32,32,50,32,32,32,50] ?_;refine lN 0 E ?_;clear E;intro w42 E;refine GD E [32,29,0,0,4,22] ?_;exact jL 0 E ⟨⟨X3.x.me,X3.x.all,X3.x.se,ti⟩,X3.rc,X3.ma,0,rfl,L_ (fun _=>⟨⟨(hX.1.times ti fun t ht=>hX.1.ti t (hti.2 t ht)).aD (Zt hti.1 (by rw[hX.out.2.ti];show y.ti.l.length≤T';rw[hy.out.ti];exact Zt HI.tl HT)),hX.2.me.trans hy.me,hX.2.aU.trans hy.aU⟩,(hX.1.times ti fun t ht=>hX.1.ti t (hti.2 t ht)).fin⟩),(E.drop 5).more (by omega) (by omega)⟩
end
section
attribute [local irreducible] wpList av
def ND:Cp.dD:=⟨1,7,[0],1,[],[],0,0,[],0,0,0⟩
def NQ:Cp.dD:=⟨2,0,[],0,[],[],7,1,[],0,0,0⟩
def Yu:Cp.dD:=⟨0,7,[0],1,[],[],0,0,[],0,0,0⟩
structure tu (l:List ByteArray):Prop where
 h:∃a b:ByteArray,l=[a,b]∧a.data.toList=Cp.aV ND∧b.data.toList=Cp.aV NQ
theorem tu.sz {l:List ByteArray}(h:tu l):∀v∈l,v.size≤1000000:=by
 obtain⟨a,b,rfl,ha,hb⟩:=h.h;have e1:(Cp.aV ND).length≤1000000:=by decide
 have e2:(Cp.aV NQ).length≤1000000:=by decide
 intro v hv;have hs:v.size=v.data.toList.length:=Array.length_toList.symm
 rcases Zu.1 hv with rfl|hv
 ·rw[hs,ha];exact e1
 ·rw[Zp.1 hv] at hs ⊢;rw[hs,hb];exact e2
theorem DC {n:Int}(h:0≤n∧n≤100):i64 n:=by unfold i64;omega
theorem Kv {l:List ByteArray}{cs:List lJ}{v:Int}(h:tu l)(hc:TD l cs v):v=0∧∃x y:lJ,cs=[x,y]∧(x.hc.cmd=ND∧y.hc.cmd=NQ)∧ny x∧ny y:=by
 obtain⟨a,b,rfl,ha,hb⟩:=h.h;have h1:Cp.eB a.data.toList=(ND,0):=by rw[ha];exact Cp.kV (by decide) (Cp.pU (by decide))
 have h2:Cp.eB b.data.toList=(NQ,0):=by rw[hb];exact Cp.kV (by decide) (Cp.pU (by decide))
 have hall:Lg.all (tx [a,b])=some [ND,NQ]:=by
  show Lg.all [a.data.toList,b.data.toList]=_;rw[Lg.jZ (by rw[h1]),Lg.jZ (by rw[h2]),h1,h2];rfl
 have hx:=hc.x;rw[Lg.nH (show ¬200<(tx [a,b]).length from(by decide:¬200<2)) hall] at hx;obtain⟨h3,h4⟩:=aaD hx;refine⟨h4,?_⟩
 match cs,h3,hc.wf with
 |[x,y],h3,hw=>
  injection h3 with e1 e2
  injection e2 with e2 _
  exact⟨x,y,rfl,⟨e1,e2⟩,(hw x ZC).1,(hw y (Zv _ ZC)).1⟩
 |[],h3,_=>cases h3
 |[_],h3,_=>exact absurd (congrArg List.length h3) (by simp)
 |_::_::_::_,h3,_=>exact absurd (congrArg List.length h3) (by simp)
theorem oW:i64 0:=DC (by decide)
theorem Tz:i64 1:=DC (by decide)
theorem Tq:i64 7:=DC (by decide)
theorem qy:(⟨#[]⟩:ByteArray).size≤4096:=by decide
def Yh (g:Nat):Sl Int:=⟨some ⟨g,0,none⟩,1,[0]⟩
theorem VG (g:Nat):ny ⟨1,⟨7,Yh g,1,⟨#[]⟩,⟨#[]⟩⟩,0,0,⟨none,0,[]⟩,0,0,0⟩:=
 ⟨(show 0≤(1:Int)∧(1:Int)≤255 from by decide),⟨Tq,Tz,(fun h hh=>by rw[Zp.1 hh];exact oW),qy,qy⟩,oW,oW,(fun x hx=>by cases hx),oW,oW,oW⟩
theorem QI (w:World):Calls prog 28 #[.int .i64 0] w fun e w'=>e=.returned .nilIface∧Below w w w':=by
 have E:=Env.start w
 go_enter func28,ntmps28
 refine G0 [5,0,4,6,5,83,0,4,8,15,5,0,4,22] ?_;exact ak ⟨rfl,E.aD⟩
theorem XL (w:World):Calls prog 9 #[] w fun e w'=>∃r:Sl ByteArray,e=.returned (.tuple #[r,true])∧Hid (tu r.l)∧Env w w [] [own r 1000] w':=by
 have E:=Env.start w
 go_enter func9,ntmps9
 refine G E [5,0,0,4,5,72,3,0,0,9] ?_;clear E;intro g7 w2 E;replace E:=E.I7 (s:=Yh g7) (N:=1000) rfl (Zh 1) (show 1≤maxLen from by decide) rfl rfl (show 1≤1000 from by decide);refine ah (CS ⟨1,⟨7,Yh g7,1,⟨#[]⟩,⟨#[]⟩⟩,0,0,⟨none,0,[]⟩,0,0,0⟩ _ 1000 ⟨E.ol (s:=Yh g7) (N:=1000) 0,Sl.dh⟩ (VG g7)) (hr:=by go_simp<;>exact⟨rfl,rfl,rfl⟩) ?_;rintro _ w3 ⟨ta,v,rfl,hta,hb⟩;replace E:=E.up hb;clear hb;refine G0 [26] ?_;obtain rfl:v=0:=hta.1.2 (show Cp.dU ND=true from by decide);have HA:Hid (ta.data.toList=Cp.aV ND):=L_ (hta.2 rfl);clear hta;refine G0 [83,4,5,0] ?_;refine ah (CS ⟨2,⟨0,⟨none,0,[]⟩,0,⟨#[]⟩,⟨#[]⟩⟩,7,1,⟨none,0,[]⟩,0,0,0⟩ _ 1000 ⟨Sl.dh,Sl.dh⟩ ⟨by decide,⟨oW,oW,(fun g hg=>by cases hg),qy,qy⟩,Tq,Tz,(fun x hx=>by cases hx),oW,oW,oW⟩) ?_;rintro _ w4 ⟨tb,v,rfl,htb,hb⟩;replace E:=E.up hb;clear hb;refine G0 [26] ?_;obtain rfl:v=0:=htb.1.2 (show Cp.dU NQ=true from by decide);have HB:Hid (tb.data.toList=Cp.aV NQ):=L_ (htb.2 rfl);clear htb;refine G E [83,4,5,0,0,72,3,9] ?_;clear E;intro g20 w5 E;replace E:=E.I7 (s:=(⟨some ⟨g20,0,none⟩,2,[ta,tb]⟩:Sl ByteArray)) (N:=1000) rfl (Zh 2) (show 2≤maxLen from by decide) rfl rfl (show 2≤1000 from by decide);refine G0 [83,84,4,22] ?_;exact Fu ⟨⟨some ⟨g20,0,none⟩,2,[ta,tb]⟩,rfl,L_ ⟨ta,tb,rfl,HA,HB⟩,E.sub (Zy _) (List.Sublist.cons_cons _ (Zy _))⟩
structure qV (k:Nat)(X:FK)(o:List Tok):Prop where
 m:∀x∈X.k.wa.l,x.m.is F5
 z0:k=0→X.k=⟨0,⟨none,0,[]⟩,⟨none,0,[]⟩⟩∧zV X.s∧o=[]
 z1:k=1→(X.k.ck=1∧X.k.dn.l=[])∧zV X.s∧o=[]∧∃m:sU,m.hc.cmd=Yu∧X.k.wa.l=[⟨m,1,false⟩]
 z2:k=2→X.k.dn.l.length=1∧(∃n,o=[⟨7,1,n⟩])∧∀x∈X.s.co.l,x.l=List.replicate 8 0
theorem qV.new {X:FK}{o:List Tok}{c:lJ}(h:qV k X o)(hk:k=0)(hc:c.hc.cmd=ND):Dr X.k 0 c:=by
 obtain⟨h1,-,-⟩:=h.z0 hk;have e1:c.k=1:=congrArg Cp.dD.k hc;have e2:c.m.g.l=[0]:=congrArg Cp.dD.gs hc;exact⟨by rw[h1];exact⟨rfl,rfl,rfl⟩,e1,⟨Int.le_refl 0,by decide,by rw[e2];exact ZC⟩,by rw[hc];decide⟩
theorem qV.fin {X:FK}{o:List Tok}{c:lJ}(h:qV k X o)(hk:k=1)(hc:c.hc.cmd=NQ):∃y,BH X.k 0 c y∧y.m.hc.cmd=Yu:=by
 obtain⟨⟨h1,h2⟩,-,-,m,hm,hw⟩:=h.z1 hk;have e1:c.k=2:=congrArg Cp.dD.k hc;have e2:c.i=7:=congrArg Cp.dD.i hc;have e3:c.tm=1:=congrArg Cp.dD.tm hc;have e4:m.i=7:=congrArg Cp.dD.mi hm;exact⟨⟨m,1,false⟩,⟨by omega,⟨hw,h2⟩,⟨rfl,by rw[e2];exact e4,by rw[e3];exact Int.le_refl 1,Int.le_refl 1,by rw[h1];exact Int.le_refl 1⟩,by rw[hm];decide,e1,⟨Int.le_refl 0,by decide⟩,by rw[hc];decide⟩,hm⟩
theorem M8 {b:ByteArray}(h:b.data.toList=[]):b.size=0:=by
 have:b.size=b.data.toList.length:=Array.length_toList.symm;rw[this,h];rfl
theorem qV.ready {X:FK}{o:List Tok}{c:lJ}(h:qV k X o)(hc:k=0∧c.hc.cmd=ND∨k=1∧c.hc.cmd=NQ):zV X.s∧(Dr X.k 0 c∨∃y,BH X.k 0 c y∧(∃k:Nat,y.m.t=(k:Int)∧k<4)∧0≤y.m.i∧y.m.i<6291456∧y.m.key.size≤16∧y.m.body.size≤64)∧o=[]:=by
 rcases hc with ⟨hk,hc⟩|⟨hk,hc⟩
 ·exact⟨(h.z0 hk).2.1,Or.inl (h.new hk hc),(h.z0 hk).2.2⟩
 ·obtain⟨y,hf,hm⟩:=h.fin hk hc;have e1:y.m.i=7:=congrArg Cp.dD.mi hm;have e2:y.m.t=1:=congrArg Cp.dD.mt hm;have e3:y.m.key.data.toList=[]:=congrArg Cp.dD.key hm;have e4:y.m.body.data.toList=[]:=congrArg Cp.dD.body hm;have e5:=M8 e3;have e6:=M8 e4;exact⟨(h.z1 hk).2.1,Or.inr ⟨y,hf,⟨1,e2,by decide⟩,by omega,by omega,by omega,by omega⟩,(h.z1 hk).2.2.1⟩
theorem qV.go {X:FK}{o o':List Tok}{c:lJ}{K:iW}{S:oN}(h:qV k X o)(hc:k=0∧c.hc.cmd=ND∨k=1∧c.hc.cmd=NQ)(d:Y1 X c K S o')(hm:∀x∈K.wa.l,x.m.is F5):qV (k+1) ⟨K,S,X.la⟩ (o++o')∧o'.length≤1:=by
 have h0:=(h.ready hc).2.2;subst h0
 rcases hc with ⟨hk,hc⟩|⟨hk,hc⟩
 ·obtain⟨h1,h2,h3,h4,g,hg,hw⟩:=d.new (h.new hk hc);refine⟨⟨hm,by omega,fun _=>⟨⟨h1,h2⟩,by rw[show(⟨K,S,X.la⟩:FK).s=X.s from h3];exact(h.z0 hk).2.1,by rw[h4];rfl,⟨c.m.i,g,c.m.t,c.m.key,c.m.body⟩,?_,hw⟩,by omega⟩,by rw[h4];exact Zq _⟩;have e1:c.m.i=7:=congrArg Cp.dD.mi hc;have e2:c.m.t=1:=congrArg Cp.dD.mt hc;have e3:c.m.key.data.toList=[]:=congrArg Cp.dD.key hc;have e4:c.m.body.data.toList=[]:=congrArg Cp.dD.body hc;have e5:c.m.g.l=[0]:=congrArg Cp.dD.gs hc;show(⟨0,c.m.i,g.l,c.m.t,c.m.key.data.toList,c.m.body.data.toList,0,0,[],0,0,0⟩:Cp.dD)=Yu;rw[e1,e2,e3,e4,hg,e5];rfl
 ·obtain⟨y,hf,hy⟩:=h.fin hk hc;obtain⟨h1,⟨n,h2⟩,h3⟩:=d.fin y hf;have e1:y.m.i=7:=congrArg Cp.dD.mi hy;have e2:y.m.t=1:=congrArg Cp.dD.mt hy;exact⟨⟨hm,by omega,by omega,fun _=>⟨by show K.dn.l.length=1;rw[h1];rfl,⟨n,by rw[h2,e1,e2];rfl⟩,h3⟩⟩,by rw[h2];exact Zh 1⟩
theorem Xu (s:Sl ByteArray)(w:World)(hl:s.aA w w 1000)(hs:tu s.l):Calls prog 10 #[.int .i64 0,s] w fun e w'=>∃(Y:FK) (o:Sl Tok),e=.returned (.tuple #[Y,o,.int .i64 0])∧Hid (Y.k.dn.l.length=1∧∃n,o.l=[⟨7,1,n⟩])∧Env w w [] (own o 1000::iV Y) w':=by
 have HL:=L_ hl;have HS:=L_ hs;clear hl hs;have E:=Env.start w
 go_enter func10,ntmps10
 refine G E [5,70,3,0,0,4,6,5,0,9] ?_;clear E;intro g4 w2 E;refine ah (QI _) ?_;rintro _ w3 ⟨rfl,hb⟩;replace E:=E.up hb;clear hb;refine G0 [26,0,4,5,0,0,4,8,15,5,0] ?_;refine ah (Ot s _ 1000 (E.l HL) (by decide) HS.sz) ?_;rintro _ w4 ⟨cs,v,rfl,hcs,F⟩;replace E:=E.call F;clear F;refine G0 [26] ?_;obtain⟨rfl,x,y,hxy,hc,wx,wy⟩:=Kv HS hcs
 have HC:Hid (cs.l.length=2∧∀(k:Nat) (c:lJ),cs.l[k]?=some c→ny c∧(k=0∧c.hc.cmd=ND∨k=1∧c.hc.cmd=NQ)):=L_ (by
  rw[hxy];refine⟨rfl,fun k c h=>?_⟩
  match k,h with
  |0,h=>cases h;exact⟨wx,Or.inl ⟨rfl,hc.1⟩⟩
  |1,h=>cases h;exact⟨wy,Or.inr ⟨rfl,hc.2⟩⟩
  |k+2,h=>cases h)
 clear hxy hc wx wy hcs;refine G0 [83,4,6,5,0,0,4,8,15,5] ?_;refine ah (X9 _) ?_;rintro _ w5 ⟨X,rfl,hX,F⟩;replace E:=E.call F;clear F;refine G E [26,0,71,3,0,4,5,84,4,5,0,4,6,5,84,4,19,9] ?_;clear E;intro g35 w6 E;replace E:Env w w (BX g35 X::(g4,75,[.int .i64 0,(),(),(),(),()])::[]) (own (⟨none,0,[]⟩:Sl Tok) 1000::(iV X++[own cs 200])) _:=E.aO (α:=Tok) (N:=1000)
 go_loopw [12,40] (fun z u wr=>∃(k:Nat) (X:FK) (s:Sl Tok),z=s∧u=(k:Int)∧k≤cs.l.length∧Hid (qV k X s.l)∧Env w w (BX g35 X::(g4,75,[.int .i64 0,(),(),(),(),()])::[]) (own s 1000::(iV X++[own cs 200])) wr) (fun _ u _=>cs.l.length - (intOf u).toNat)
 case atStart=>exact⟨0,X,⟨none,0,[]⟩,rfl,rfl,Zq _,L_ ⟨by rw[hX.out.1];exact fun x hx=>(by cases hx),fun _=>⟨hX.1,hX.2,rfl⟩,by omega,by omega⟩,E⟩
 case round=>
  clear E hX;obtain⟨k,X,o,rfl,rfl,hk,HP,E⟩:=hrel
  by_cases hlt:k<cs.l.length
  case pos=>
   have hw:IntKind.i64.wrap ((k:Int)+1)=((k+1:Nat):Int):=by rw[aaP _ (by have:=HC.out.1;omega)];rfl
   obtain⟨bb,off,c,hA,-,hc,hcc,hcl⟩:=(E.ol (s:=cs) (N:=200) 6).get (k:=k) hlt;have HK:=L_ (HC.2 k c hc);have HM:Hid (c∈cs.l):=L_ (Zk hc);replace hcc:=L_ hcc;clear hc hcl;refine G0 [5,0,4,16,15,18,5,0] ?_;refine fA c hcc ?_;clear hcc hA;refine G E [70,3,60,4,5,0,0,9] ?_;clear E;intro g14 w8 E;refine aB 0 12 E ?_;replace E:Env w w (BX g35 X::(g14,37,c)::(g4,75,[.int .i64 0,(),(),(),(),()])::[]) (iV X++[own cs 200,own o 1000]) _:=(E.bD 1).dQ (is':=iV X++[own cs 200,own o 1000]) 7 [1,2,3,4,5,6,0];refine ah (YL g35 X c _ E (fun bx w' E'=>au.aS ((E'.ol (s:=cs) (N:=200) 5).2.2.2.2 c HM) (Zh _) (by decide)) (HP.ready HK.2).1 HK.1 (HP.ready HK.2).2.1 HP.m) ?_;clear E;rintro _ w9 ⟨K,S,o',rfl,hd,hm,E⟩;refine G0 [26] ?_;have HG:=L_ (HP.go HK.2 hd hm);have ho0:Hid (o.l.length+o'.l.length≤1000):=L_ (by rw[(HP.out.ready HK.out.2).2.2];exact Zt (by simpa using HG.out.2) (by decide:1≤1000));refine G0 [83,4,6,5,84] ?_;refine ah (X5 110 (.agg #[.int .i64 9]) _) ?_;rintro _ w10 ⟨rfl,hb⟩;replace E:=E.up hb;clear hb;refine G0 [26,4,8,15,23,0,0] ?_;refine pV 7 (s:=o) (N:=1000) 1000 o' E (E.ol (s:=o') (N:=1000) 0).1 ho0 (by omega) ?_;clear E;intro s2 w11 h2 E;refine G0 [3,0,20,23,0,0,25] ?_
   go_roundw
   case rel=>exact⟨k+1,⟨K,S,X.la⟩,s2,rfl,rfl,hlt,L_ (by rw[h2.out];exact HG.1),(E.fZ.drop 1).dQ (is':=own s2 1000::(iV ⟨K,S,X.la⟩++[own cs 200])) 8 [7,1,2,3,4,5,6]⟩
   case measure=>simp[intOf];omega
  case neg=>
   refine G0 [5,0,4,17] ?_;have hk2:k=2:=by have:=HC.1;omega
   refine G0 [27,28,5,84] ?_;refine aB 0 6 E ?_;refine ah (UC X _ ⟨⟨E.ol 1,E.ol 2⟩,⟨E.ol 3,E.ol 4⟩,E.ol 5⟩ (HP.z2 hk2).2.2) ?_;rintro _ w12 ⟨Y,rfl,hY,F⟩;replace E:=E.call F;clear F;refine G E [26,0,61,0,0,4,22,9] ?_;clear E;intro w13 E;exact mQ 1 E ⟨Y,o,rfl,L_ ⟨by rw[hY.out];exact(HP.z2 hk2).1,(HP.z2 hk2).2.1⟩,(E.drop 2).dQ (is':=own o 1000::iV Y) 12 [5,0,1,2,3,4]⟩
theorem Ib (w:World):Calls prog 4 #[] w fun e w'=>e=.returned true∧Below w w w':=by
 have E:=Env.start w
 go_enter func4,ntmps4
 refine G0 [5,0,4,5] ?_;refine ah (XL _) ?_;rintro _ w2 ⟨r,rfl,hr,F⟩;replace E:=E.call F;clear F;refine G0 [26,83,4,5,0] ?_;refine ah (Xu r _ (E.ol (s:=r) (N:=1000) 0) hr) ?_;rintro _ w3 ⟨Y,o,rfl,hY,F⟩;replace E:=E.call F;clear F;refine G0 [26] ?_;obtain⟨hd,n,ho⟩:=hY;obtain⟨oA,oc,ol⟩:=o;obtain rfl:ol=[⟨7,1,n⟩]:=ho;refine G E [84,0,70,3,60,0,0,4,9] ?_;clear E;intro g3 w5 E;obtain⟨bb,off,x,hA,-,hx,hcc,-⟩:=(E.ol (s:=(⟨oA,oc,[⟨7,1,n⟩]⟩:Sl Tok)) (N:=1000) 0).get (k:=0) (show 0<1 from by decide);obtain rfl:x=⟨7,1,n⟩:=Zp.1 (Zk hx);have hA0:oA=some ⟨bb,off,none⟩:=hA;subst hA0;have d1:_=some (Value.int .i64 7):=hcc 0 _ rfl;have hdn:((Y.k.dn.l.length:Int)==1)=true:=by rw[hd];rfl
 clear hcc hx hA hd;refine G0 [5,83,83,84,0] ?_;refine oZ d1 ?_;refine G E [83,40,84,0,4,22] ?_;exact ak ⟨rfl,E.aD⟩
end
end Go.Proofs.YtaebfkcgdmodlaaGreatDoor
