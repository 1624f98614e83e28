/-
  A part of the proof that the erased node of towncrier reads nothing (TopErased).
-/
import Derived.Test.YtaebfkcgdmodlaaGreatDoorJ18a
namespace Go.Proofs.YtaebfkcgdmodlaaGreatDoor
open Go.RowKit Go.Proofs.Tryz
set_option maxHeartbeats 16000000
set_option maxRecDepth 100000
set_option linter.unusedVariables false
set_option linter.unusedSimpArgs false
section
attribute [local irreducible] wpList av aH
theorem UL (Pg:Int→ByteArray→Prop)(T:Nat)(x:jl)(g:Int)(c:lJ)(w:World)(N:Nat)(hl:au.aA w w N x)(hc:au.aA w w N c)(hcw:ny c)(hN:N≤10000)(hN2:1000≤N)(hi:jJ Pg T x)(hP:zK Pg x.all.l.length)(hg:i64 g)
  (hW:∀n:Nat,g=(n:Int)→n<x.all.l.length→Cp.dU c.hc.cmd=true→∀v:ByteArray,v.data.toList=Cp.aV c.hc.cmd→Pg (n:Int) v) :
  Calls prog 62 #[x,g,c] w fun e w'=>∃(y:jl) (ma:Sl bS) (q:Int),e=.returned (.tuple #[y,ma,q])∧Hid (q=0→S9 Pg T x y∧Gp Pg (fun _=>False) y [] ma.l)∧Env w w [] (own ma 6::lV y N) w':=by
 have HL:=L_ hl;have HC:=L_ hc;have HCW:=L_ hcw;have HI:=L_ hi;have HP:=L_ hP;have HG:=L_ hg;have HPW:=L_ hW;have HWF:Hid (∀s∈x.se.l,yF s):=L_ fun s hs=>(hi.se s hs).wf (hP.sz _);clear hl hc hcw hi hP hg hW;have E:=Env.start w
 go_enter func62,ntmps62
 refine GD E [5,71,3,71,3,70,3,0,0,4,6,5,9] ?_;clear E;intro g3 g5 g6 w4 E;refine aB 2 4 E ?_;refine ah (sO x _ N (E.h HL) (by omega) hN2 HWF) ?_;rintro _ w5 ⟨v,rfl,hv,hb⟩;replace E:=E.up hb;clear hb;refine G0 [26] ?_
 by_cases h0:v=0
 case neg=>
  refine GD E [0,4,5,0,0,4,7,5,0,0,60,0,0,4,22,24,9] ?_;clear E;intro w6 E;exact mQ 0 E ⟨iY,⟨none,0,[]⟩,v,rfl,L_ (fun h=>absurd h h0),(E.drop 3).qO N 6 0 |>.dQ 5 [0,2,3,4]⟩
 subst h0;refine G0 [0,4,5,0,0,4,8] ?_;replace hv:=L_ (hv rfl);refine G0 [15,6,5,0] ?_
 by_cases c1:g<0
 case pos=>
  refine GD E [0,0,1,80,4,7,5,0,60,0,0,4,22,24,9] ?_;clear E;intro w7 E;exact mQ 0 E ⟨iY,⟨none,0,[]⟩,2,rfl,L_ (fun h=>absurd h (by decide)),(E.drop 3).qO N 6 0 |>.dQ 5 [0,2,3,4]⟩
 refine GD E [84,0,42,0] ?_
 by_cases c2:(x.all.l.length:Int)≤g
 case pos=>
  refine GD E [0,0,4,7,5,0,60,0,0,4,22,24,9] ?_;clear E;intro w8 E;exact mQ 0 E ⟨iY,⟨none,0,[]⟩,2,rfl,L_ (fun h=>absurd h (by decide)),(E.drop 3).qO N 6 0 |>.dQ 5 [0,2,3,4]⟩
 refine G0 [0,0,4,8] ?_;obtain⟨n,rfl⟩:∃n:Nat,g=(n:Int):=⟨g.toNat,by omega⟩;refine G0 [15,6,5] ?_;refine aB 1 12 E ?_;refine ah (JM c _ N (E.h HC) HCW) ?_;rintro _ w9 ⟨q,rfl,hq,hb⟩;replace E:=E.up hb;clear hb;refine G0 [26] ?_
 by_cases h0:q=0
 case neg=>
  refine GD E [0,4,5,0,0,4,7,5,0,0,60,0,0,4,22,24,9] ?_;clear E;intro w10 E;exact mQ 0 E ⟨iY,⟨none,0,[]⟩,q,rfl,L_ (fun h=>absurd h h0),(E.drop 3).qO N 6 0 |>.dQ 5 [0,2,3,4]⟩
 subst h0;refine GD E [0,4,5,0,0,4,8,15,6,5,0,41] ?_
 by_cases h2:(c.k==2)=true
 case pos=>
  refine GD E [0,4,7,5,0,60,0,0,4,22,24,9] ?_;clear E;intro w11 E;exact mQ 0 E ⟨iY,⟨none,0,[]⟩,2,rfl,L_ (fun h=>absurd h (by decide)),(E.drop 3).qO N 6 0 |>.dQ 5 [0,2,3,4]⟩
 replace h2:(c.k==2)=false:=by simpa using h2
 refine G0 [0,4,8,15,5] ?_;refine aB 2 4 E ?_;refine ah (rX x _ N (E.h HL) (by omega)) ?_;rintro _ w12 ⟨y,rfl,hy,F⟩;replace E:=E.call F;clear F;refine GD E [26,0,71,3,0,4,6,5,0,0,9] ?_;clear E;intro g42 w13 E;refine aB 2 12 E ?_;have HY:Hid (eF Pg ⟨y,⟨none,0,[]⟩,⟨none,0,[]⟩⟩):=L_ (HI.Ue hv hy);replace E:Env w w (dJ g42 ⟨y,⟨none,0,[]⟩,⟨none,0,[]⟩⟩::_) (cO ⟨y,⟨none,0,[]⟩,⟨none,0,[]⟩⟩ N 0 0++[]) _:=E.Ue 0 0;have hnx:n<x.all.l.length:=by omega
 obtain⟨gy,hgy⟩:∃gy,y.all.l[n]?=some gy:=⟨_,Zl (by rw[hy.out.n];exact hnx)⟩;replace hgy:=L_ hgy;refine ah (Gq Pg g42 N 0 0 ⟨y,⟨none,0,[]⟩,⟨none,0,[]⟩⟩ n gy c _ E HY HP.sz hgy (fun w' E'=>E'.h HC) HCW (HPW n rfl hnx) hN hN2 (by omega)) ?_;clear E;rintro _ w14 ⟨v,X2,rfl,hX,E⟩;refine G0 [26] ?_
 by_cases h0:v=0
 case neg=>
  refine GD E [0,4,5,0,0,4,7,5,0,0,61,0,0,4,22,24,9] ?_;clear E;intro w15 E;exact mQ 1 E ⟨iY,⟨none,0,[]⟩,v,rfl,L_ (fun h=>absurd h h0),((E.drop 4).MJ 5).qO N 6 0 |>.dQ 5 [0,2,3,4]⟩
 subst h0;refine G0 [0,4,5,0,0,4,8,15] ?_;replace E:=E.bD 1;refine bP 1 9 [] (aaL [0,1,2,3,4,5,6,7]++aaN [8]) E ?_;clear E;intro w16 E
 iterate 3 refine ni E ?_
 refine gZ 0 4 E ?_;refine GD E [32,32,32,50] ?_;refine lN 0 E ?_;clear E;intro w17 E;refine GD E [29,0,0,4,22] ?_;exact mQ 0 E ⟨X2.x,X2.ma,0,rfl,L_ (fun _=>⟨⟨hX.1.aD (by rw[hX.out.2.ti];show y.ti.l.length≤T;rw[hy.out.ti];exact HI.tl),hX.2.me.trans hy.me,hX.2.aU.trans hy.aU⟩,⟨fun r hr=>(by cases hr),hX.1.fin.ma⟩⟩),(E.drop 4).dQ 5 [0,2,3,4]⟩
end
variable{me:Int}{B M g k:Nat}{t:TypeId}
section
attribute [local irreducible] wpList av aH
section
variable{b N V:Nat}{w0 w w':World}{bx:List Bx}{is:List It}
def nv (s:dZ):dZ:=⟨s.me,s.num,s.g,s.log,⟨none,0,[]⟩,s.t,s.wi,s.hd⟩
def iw (x:jl)(N V:Nat):List It:=fG x.se N::fB (x.se.l.map nv) N::own x.all N::own x.ti N::x.se.l.map fun s=>own s.vs V
theorem Xk {s:dZ}:(g,t)∈au.bl s↔(g,t)∈au.bl (nv s)∨(g,t)∈s.vs.bl:=by
 have hz:Sl.bl (⟨none,0,[]⟩:Sl lT)=[]:=rfl;simp only[au.bl,nv,Zm,hz,ZF,or_false]
 grind
theorem Env.XB {y:dZ}(E:Env b w0 bx (sJ y N++is) w):Env b w0 bx (own (nv y) N::own y.vs N::is) w:=by
 have E0:Env b w0 bx (own y.t.ac N::own y.t.pr N::own y.t.mem N::own y.wi N::own y.vs N::own y.log N::own y.g.m N::own y.g.r N::is) w:=E;have E1:=((((((E0.dQ (is':=own y.t.ac N::own y.t.pr N::own y.t.mem N::own y.wi N::own y.log N::own y.g.m N::own y.g.r N::own y.vs N::is) 8 [0,1,2,3,5,6,7,4]).join).join).join).join).join).join
 exact E1.conv 0 (i:=both (both (both (both (both (both (own y.t.ac N) (own y.t.pr N)) (own y.t.mem N)) (own y.wi N)) (own y.log N)) (own y.g.m N)) (own y.g.r N)) (own (nv y) N) (fun h=>⟨h.2,h.1.2,h.1.1.2,Sl.eY,h.1.1.1.1.2,h.1.1.1.1.1.2,h.1.1.1.1.1.1,h.1.1.1.2⟩) (fun g hg=>by
  have hz:Sl.bl (⟨none,0,[]⟩:Sl lT)=[]:=rfl;simp only[own,both,au.bl,nv,hz,aag,Zm,List.map_nil,ZF] at hg ⊢
  grind)
theorem Env.Ut {s' s:Sl dZ}{y:dZ}{i j:It}(hl:s'.l=s.l++[y])(E:Env b w0 bx (own (nv y) N::own y.vs V::fG s' N::fB (s.l.map nv) N::i::j::((s.l.map fun x=>own x.vs V)++is)) w):Env b w0 bx (fG s' N::fB (s'.l.map nv) N::i::j::((s'.l.map fun x=>own x.vs V)++is)) w:=by
 have E1:=(E.dQ (is':=own (nv y) N::fB (s.l.map nv) N::fG s' N::i::j::own y.vs V::((s.l.map fun x=>own x.vs V)++is)) 6 [0,3,2,4,5,1]).Tk;refine E1.perm ?_;rw[hl,aag,aag,List.map_cons,List.map_nil,List.map_cons,List.map_nil,ZN,List.singleton_append];exact(ZW _ _ _).trans ((((List.perm_middle.symm.cons _).cons _).cons _).cons _)
theorem Env.Jw {x:jl}(h:x.se.l=[])(E:Env b w0 bx (lV x N++is) w):Env b w0 bx (iw x N V++is) w:=by
 have E1:Env b w0 bx (fG x.se N::own x.all N::own x.ti N::is) w:=Env.Tm E;have E2:=E1.VH (α:=dZ) (N:=N);unfold iw;rw[h];exact E2.perm (ZW ..)
theorem PZ {x:jl}{s:dZ}(h:x.se.l[k]?=some s):(iw x N V++is)[k+4]?=some (own s.vs V):=by
 simp only[iw,aap,List.getElem?_cons_succ];rw[Z0 (by rw[Z5];exact(Zo.1 h).1),ZU,h];rfl
theorem Env.Xb {x:jl}(E:Env b w0 bx (iw x N V++is) w)(h1:N≤M)(h2:V≤M):Sl.Own w b M x.se:=by
 have h0:x.se.Row w b∧x.se.l.length≤N:=E.get 0;have hh:∀y∈x.se.l.map nv,au.Own w b N y:=E.get 1;refine⟨h0.1,Zt h0.2 h1,fun s hs=>?_⟩;have c:au.Own w b M (nv s):=au.aG (hh _ (aaq hs)) (Zh _) h1;obtain⟨k,hk⟩:=aaF hs;have v:Sl.Own w b V s.vs:=E.get (k+4) (PZ hk);exact⟨c.1,c.2.1,c.2.2.1,v.mono (Zh _) h2,c.2.2.2.2⟩
theorem Env.SY {x:jl}(E:Env b w0 bx (iw x N V++is) w)(h1:N≤M)(h2:V≤M):x.se.aA w w M:=Sl.Own.lie (E.Xb h1 h2)
theorem Env.Tj {x:jl}(hv:∀s∈x.se.l,s.vs.l.length≤N)(E:Env b w0 bx (iw x N V++is) w):Env b w0 bx (lV x N++is) w:=by
 have E0:Env b w0 bx ([fG x.se N,fB (x.se.l.map nv) N,own x.all N,own x.ti N]++((x.se.l.map fun s:dZ=>own s.vs V)++is)) w:=E;have E1:Env b w0 bx ((x.se.l.map fun s:dZ=>own s.vs V)++(fG x.se N::fB (x.se.l.map nv) N::own x.all N::own x.ti N::is)) w:=E0.perm (List.perm_append_comm_assoc ..);have E2:=(E1.SQ (fun s:dZ=>s.vs)).dQ (is':=fB (x.se.l.map fun s=>s.vs) V::fB (x.se.l.map nv) N::fG x.se N::own x.all N::own x.ti N::is) 3 [0,2,1]
 have E3:=E2.join.conv 0 (i:=both (fB (x.se.l.map fun s=>s.vs) V) (fB (x.se.l.map nv) N)) (fB x.se.l N) (fun h s hs=>by
  have a:Sl.Own _ b V s.vs:=h.1 s.vs (aaq (f:=fun s:dZ=>s.vs) hs);have c:au.Own _ b N (nv s):=h.2 (nv s) (aaq hs);exact⟨c.1,c.2.1,c.2.2.1,⟨a.1,hv s hs,a.2.2⟩,c.2.2.2.2⟩) (fun g hg=>by
  obtain⟨⟨g',t⟩,hm,rfl⟩:=ZA.1 hg;obtain⟨s,hs,hm⟩:=aau.1 hm
  rcases Xk.1 hm with h|h
  ·exact ZL _ (ZA.2 ⟨_,aau.2 ⟨nv s,aaq hs,h⟩,rfl⟩)
  ·exact ZJ _ (ZA.2 ⟨_,aau.2 ⟨s.vs,aaq (f:=fun s:dZ=>s.vs) hs,h⟩,rfl⟩))
 exact Env.glue (E3.perm (ZW ..))
end
structure Ht (n:Nat)(s:dZ):Prop where
 log:s.log.l=[]
 vs:s.vs.l=[]
 wi:s.wi.l=[]
 t:qC s.t iZ
 num:∃k:Nat,k<n∧s.num=(k:Int)
structure pQ (me:Int)(l:List gT)(y:jl)(v:Int):Prop where
 ti:y.ti.l=[]
 se:∀s∈y.se.l,Ht l.length s
 ok:v=0→y.me=me∧dB y.all.l l∧nG l∧0≤me∧me<6
theorem pQ.z {v:Int}{l:List gT}(h:¬v=0):pQ me l iY v:=⟨rfl,fun s hs=>(by cases hs),fun e=>absurd e h⟩
theorem Env.Yk {b:Nat}{w0 w:World}{bx:List Bx}{is:List It}(E:Env b w0 bx is w)(N V:Nat):Env b w0 [] (iw iY N V++[]) w:=
 Env.Jw (x:=iY) rfl ((((E.sub (Zy _) (Zy _)).aO (α:=mM) (N:=N)).aO (α:=gT) (N:=N)).aO (α:=dZ) (N:=N))
theorem Pp {x:jl}{g:gT}(h:mD x (k:Int)=true)(hg:x.all.l[k]?=some g):x.me∈g.r.l:=by
 unfold mD at h;rw[Z9,hg] at h;simpa using h
theorem yX {w:World}{N:Nat}{s:Sl gT}(h:s.aA w B M)(hg:nG s.l)(hN:10≤N):s.aA w B N:=by
 have h4:=hg.2.1;refine⟨h.1,h.2.1,h.2.2.1,by omega,fun g hm=>?_⟩;obtain⟨a,b,-⟩:=jk (hg.2.2 g hm);have a6:=(dz a).2;have b6:=(dz b).2;have hgl:=h.2.2.2.2 g hm;exact⟨⟨hgl.1.1,hgl.1.2.1,hgl.1.2.2.1,by omega,fun _ _=>trivial⟩,⟨hgl.2.1,hgl.2.2.1,hgl.2.2.2.1,by omega,fun _ _=>trivial⟩⟩
theorem J3 (me:Int)(all:Sl gT)(w:World)(N V:Nat)(hl:all.aA w w M)(hM:M≤9223372036854775807)(hN:10≤N)(hN2:N≤100000) :
  Calls prog 35 #[me,all] w fun e w'=>∃(y:jl) (v:Int),e=.returned (.tuple #[y,v])∧Hid (pQ me all.l y v)∧Env w w [] (iw y N V++[]) w':=by
 have HL:=L_ hl;clear hl;have E:=Env.start w
 go_enter func35,ntmps35
 refine GD E [5,70,3,0,4,6,5,0,9] ?_;clear E;intro g4 w2 E
 by_cases c1:me<0
 case pos=>
  refine GD E [0,0,1,1,0,4,7,5,0,60,0,4,22,24,9] ?_;clear E;intro w3 E;exact aI 0 E ⟨iY,2,rfl,L_ (pQ.z (by decide)),E.Yk N V⟩
 refine G0 [84] ?_
 by_cases c2:6≤me
 case pos=>
  refine GD E [0,0,4,7,5,0,60,0,4,22,24,9] ?_;clear E;intro w4 E;exact aI 0 E ⟨iY,2,rfl,L_ (pQ.z (by decide)),E.Yk N V⟩
 refine G0 [0,0,4,8,15,6,5,0] ?_;refine ah (Fe all _ M (E.l HL) hM) ?_;rintro _ w5 ⟨v,rfl,hv,hb⟩;replace E:=E.up hb;clear hb;refine G0 [26] ?_
 by_cases h0:v=0
 case neg=>
  refine GD E [0,4,5,0,0,4,7,5,0,0,60,0,4,22,24,9] ?_;clear E;intro w6 E;exact aI 0 E ⟨iY,v,rfl,L_ (pQ.z h0),E.Yk N V⟩
 subst h0;refine G0 [0,4,5,0,0,4,8] ?_;replace hv:=L_ (hv rfl);replace HL:=L_ (yX HL hv hN);have hln:all.l.length≤N:=HL.2.2.2.1;refine G0 [15,5,84] ?_;refine ah (rX ⟨me,all,⟨none,0,[]⟩,⟨none,0,[]⟩⟩ _ N ⟨E.l HL,Sl.dh,Sl.dh⟩ (by omega)) (hr:=by go_simp<;>simp) ?_;rintro _ w7 ⟨y,rfl,hy,F⟩;replace E:=E.call F;clear F;refine GD E [26,0,71,3,0,4,6,5,84,4,19,9] ?_;clear E;intro g29 w8 E;have hy0:Hid (y.se.l=[]):=L_ (ZY hy.se.1);replace E:Env w w (dJ g29 ⟨y,⟨none,0,[]⟩,⟨none,0,[]⟩⟩::(g4,45,[.int .i64 0,(),(),()])::[]) (iw y N V++[]) _:=Env.Jw hy0 E;have hl4:all.l.length≤4:=hv.2.1
 go_loopw [32] (fun u wr=>∃(k:Nat) (X:Sl dZ),u=(k:Int)∧k≤all.l.length∧X.l.length≤k∧Hid (∀s∈X.l,Ht all.l.length s)∧Env w w (dJ g29 ⟨⟨y.me,y.all,X,y.ti⟩,⟨none,0,[]⟩,⟨none,0,[]⟩⟩::(g4,45,[.int .i64 0,(),(),()])::[]) (iw ⟨y.me,y.all,X,y.ti⟩ N V++[]) wr) (fun u _=>all.l.length - (intOf u).toNat)
 case atStart=>exact⟨0,y.se,rfl,Zq _,by rw[hy0.out];exact Zh _,L_ (fun s hs=>by rw[hy0.out] at hs;cases hs),E⟩
 case round=>
  clear E;obtain⟨k,X,rfl,hk,hXk,HX,E⟩:=hrel
  by_cases hlt:k<all.l.length
  case pos=>
   have hw:IntKind.i64.wrap ((k:Int)+1)=((k+1:Nat):Int):=by rw[aaP _ (by omega)];rfl
   refine G0 [5,0,4,16,15,18,5,0,0,4,5,0,0] ?_;refine ah (EC g29 N ⟨⟨y.me,y.all,X,y.ti⟩,⟨none,0,[]⟩,⟨none,0,[]⟩⟩ (k:Int) _ E (by omega) (fun w' E'=>E'.ol (s:=y.all) (N:=N) 2) (jG _ (by omega) (by omega))) ?_;clear E;rintro _ w9 ⟨rfl,E⟩;refine G0 [26] ?_;obtain⟨o,ho⟩:∃o,mD ⟨y.me,y.all,X,y.ti⟩ (k:Int)=o:=⟨_,rfl⟩;rw[ho];replace ho:=L_ ho;cases o
   case false=>
    refine G0 [4,8,21,23,0,0,25] ?_
    go_roundw
    case rel=>exact⟨k+1,X,rfl,hlt,by omega,HX,E⟩
    case measure=>simp[intOf];omega
   case true=>
    refine G0 [4,7,5] ?_;obtain⟨bb,off,g,hA,-,hg,hcc,-⟩:=(E.l HL).get (k:=k) hlt;replace hcc:=L_ hcc;replace hg:=L_ hg;refine G0 [83] ?_;refine fA g hcc ?_;clear hcc hA;refine ah (Sb me (k:Int) g _ N (E.h (HL.2.2.2.2 g (Zk hg))) (by omega)) ?_;rintro _ w10 ⟨z,q,rfl,hz,F⟩;replace E:=E.call F;clear F;refine GD E [26,84,70,3,60,0,4,9] ?_;clear E;intro g9 w12 E;replace E:=Env.XB (y:=z) E;replace E:=E.less 1 (i:=own z.vs N) (i':=own z.vs V) (fun h=>⟨h.1,by rw[hz.out.vs];exact Zq _,h.2.2⟩);refine ng 0 9 [] (aaL [0,1,2,3,4,5,6]++aaN [7,8]) E ?_;clear E;intro w13 E;refine GD E [35,51] ?_;refine gZ 0 15 E ?_;refine xL E ?_;clear E;intro g55 w14 E;refine D_n ?_;refine Ux 2 (s:=X) (N:=N) N (⟨some ⟨g55,0,none⟩,1,[z]⟩:Sl dZ) E (E.reads 0 1 15) (by simp;omega) (by omega) ?_;clear E;intro s2 w15 h2 E;refine D_n ?_;refine ow ?_
    have HX2:Hid (∀s∈s2.l,Ht all.l.length s):=L_ (fun s hs=>by
     rw[h2.out] at hs
     rcases Zm.1 hs with h|h
     ·exact HX s h
     ·rw[Zp.1 h];obtain⟨g',e1,e2,-⟩:=dB.get hy.all hg;have hm:me∈g.r.l:=by have h:=Pp ho e1;rw[e2] at h;exact(show y.me=me from hy.me)▸h
      exact⟨hz.log,hz.vs,hz.wi,hz.t,k,hlt,(hz.ok (by omega) (by omega) (by omega) (by omega) (hv.2.2 g (Zk hg)) hm).2.1⟩)
    refine GD E [84,62,20,23,0,0,9] ?_;clear E;intro w16 E;refine jI ?_
    go_roundw
    case rel=>exact⟨k+1,s2,rfl,hlt,by rw[h2.out];simp;omega,HX2,Env.Ut (s:=X) h2 (E.drop 2)⟩
    case measure=>simp[intOf];omega
  case neg=>
   refine G0 [5,0,4,17,27,28,5,84] ?_;refine aB 0 4 E ?_;refine GD E [61,0,4,22,9] ?_;clear E;intro w17 E;exact aI 1 E ⟨⟨y.me,y.all,X,y.ti⟩,0,rfl,L_ ⟨hy.ti,HX,fun _=>⟨hy.me,hy.all,hv,by omega,by omega⟩⟩,E.drop 2⟩
end
variable{Pg:Int→ByteArray→Prop}{j j':Nat}
section
attribute [local irreducible] wpList av aH
section
variable{b N V:Nat}{w0 w w':World}{bx:List Bx}{is:List It}
def VE (s:dZ)(v:Sl lT):dZ:=⟨s.me,s.num,s.g,s.log,v,s.t,s.wi,s.hd⟩
def za (s:dZ)(l:Sl ByteArray):dZ:=⟨s.me,s.num,s.g,l,s.vs,s.t,s.wi,s.hd⟩
def Yd (x:jl)(k:Nat)(s:dZ):jl:=⟨x.me,x.all,⟨x.se.A,x.se.c,x.se.l.set k s⟩,x.ti⟩
theorem Env.Yx {x:jl}{s:dZ}{v:Sl lT}(hs:x.se.l[k]?=some s)(E:Env b w0 bx (((iw x N V++is).set (k+4) (own v V)).set 0 (fG (⟨x.se.A,x.se.c,x.se.l.set k (VE s v)⟩:Sl dZ) N)) w):Env b w0 bx (iw (Yd x k (VE s v)) N V++is) w:=by
 refine E.as rfl ?_;have hk:k<x.se.l.length:=(Zo.1 hs).1
 have e1:(x.se.l.set k (VE s v)).map nv=x.se.l.map nv:=by
  rw[List.map_set];refine List.ext_getElem? fun i=>?_;rw[aaH]
  split
  ·rename_i e
   subst e;rw[aaS (by rw[Z5];exact hk),ZU,hs];rfl
  ·rfl
 simp only[iw,Yd,aap,aaK,aaJ];rw[e1,List.set_append_left _ _ (by rw[Z5];exact hk),List.map_set];rfl
theorem Env.XU {x:jl}{s:dZ}{r:Sl ByteArray}(hs:x.se.l[k]?=some s)(E:Env b w0 bx (own r N::fG (⟨x.se.A,x.se.c,x.se.l.set k (za s r)⟩:Sl dZ) N::fB (x.se.l.map nv) N::own x.all N::own x.ti N::((x.se.l.map fun s=>own s.vs V)++is)) w):Env b w0 bx (iw (Yd x k (za s r)) N V++is) w:=by
 have hk:k<x.se.l.length:=(Zo.1 hs).1
 have e1:(x.se.l.set k (za s r)).map (fun s=>own s.vs V)=x.se.l.map fun s=>own s.vs V:=by
  rw[List.map_set];refine List.ext_getElem? fun i=>?_;rw[aaH]
  split
  ·rename_i e
   subst e;rw[aaS (by rw[Z5];exact hk),ZU,hs];rfl
  ·rfl
 have E2:=(E.dQ (is':=own r N::fB (x.se.l.map nv) N::fG (⟨x.se.A,x.se.c,x.se.l.set k (za s r)⟩:Sl dZ) N::own x.all N::own x.ti N::((x.se.l.map fun s=>own s.vs V)++is)) 3 [0,2,1]).join
 have E3:=E2.conv 0 (i:=both (own r N) (fB (x.se.l.map nv) N)) (fB ((x.se.l.set k (za s r)).map nv) N) (fun h y hy=>by
  obtain⟨u,hu,rfl⟩:=ZA.1 hy
  rcases aat hu with hu|rfl
  ·exact h.2 _ (aaq hu)
  ·have c:au.Own _ b N (nv s):=h.2 _ (aaq (Zk hs));exact⟨c.1,c.2.1,h.1,c.2.2.2⟩) (fun g hg=>by
  obtain⟨⟨g',t⟩,hm,rfl⟩:=ZA.1 hg;obtain⟨y,hy,hm⟩:=aau.1 hm;obtain⟨u,hu,rfl⟩:=ZA.1 hy
  rcases aat hu with hu|rfl
  ·exact ZL _ (ZA.2 ⟨_,aau.2 ⟨nv u,aaq hu,hm⟩,rfl⟩)
  ·by_cases h:(g',t)∈r.bl
   ·exact ZJ _ (ZA.2 ⟨_,h,rfl⟩)
   ·refine ZL _ (ZA.2 ⟨_,aau.2 ⟨nv s,aaq (Zk hs),?_⟩,rfl⟩);simp only[au.bl,nv,za,Zm] at hm ⊢
    grind)
 have E4:=E3.perm (ZW ..);refine E4.as rfl ?_;simp only[iw,Yd,aap,e1]
end
structure tF (Pg:Int→ByteArray→Prop)(n j:Nat)(s:dZ):Prop where
 log:∀v∈s.log.l,Pg s.num v
 vs:∀y∈s.vs.l,Pg s.num y.v∧i64 y.p∧i64 y.b
 wi:s.wi.l=[]
 t:qC s.t iZ
 num:∃k:Nat,k<n∧s.num=(k:Int)
 vn:s.vs.l.length≤j
theorem tF.more {n:Nat}{s:dZ}(h:tF Pg n j s)(hj:j≤j'):tF Pg n j' s:=⟨h.log,h.vs,h.wi,h.t,h.num,Zt h.vn hj⟩
theorem tF.iD {n:Nat}{s:dZ}(h:tF Pg n j s):lu (Pg s.num) s:=⟨h.log,h.vs,fun v hv=>(by rw[h.wi] at hv;cases hv),ko.nil.same h.t⟩
theorem Env.Ay {b:Nat}{w0 w:World}{bx:List Bx}{is:List It}(E:Env b w0 bx is w)(N:Nat):Env b w0 [] (lV iY N) w:=
 (((E.sub (Zy _) (Zy _)).aO (α:=mM) (N:=N)).aO (α:=gT) (N:=N)).aO (α:=dZ) (N:=N)
theorem RQ (Pg:Int→ByteArray→Prop)(me:Int)(all:Sl gT)(X:Al)(w:World)(hl:all.aA w w 1000)(hX:au.aA w w 99000 X)(hI:kI Pg X)(hz:oH Pg) :
  Calls prog 60 #[me,all,X] w fun e w'=>∃(y:jl) (v:Int),e=.returned (.tuple #[y,.int .i64 v])∧Hid (v=0→jJ Pg 0 y∧y.me=me∧y.aU=all.l.map fun g=>g.r.l)∧Env w w [] (lV y 1000) w':=by
 have HL:=L_ hl;have HX:=L_ hX;have HI:=L_ hI;have HZ:=L_ hz;have hvn:X.vs.l.length≤99000:=hX.2.2.2.2.1;have hln:X.lo.l.length≤99000:=hX.1.2.2.2.1;clear hl hX hI hz;have E:=Env.start w
 go_enter func60,ntmps60
 refine GD E [5,71,3,70,3,0,4,5,0,0,9] ?_;clear E;intro g5 g6 w3 E;refine ah (J3 me all _ 1000 100000 (E.l HL) (by decide) (by decide) (by decide)) ?_;rintro _ w4 ⟨y,v,rfl,hy,F⟩;replace E:=E.call F;clear F;refine G0 [26] ?_
 by_cases h0:v=0
 case neg=>
  refine GD E [84,70,3,60,0,4,6,5,0,0,4,7,5,0,0,61,0,4,22,24,9] ?_;clear E;intro g8 w7 E;exact aI 1 E ⟨iY,v,rfl,L_ (fun h=>absurd h h0),E.Ay _⟩
 subst h0;refine GD E [84,70,3,60,0,4,6,5,0,0,4,8,9] ?_;clear E;intro g8 w9 E;have HK:=L_ (hy.ok rfl);refine G0 [15,6,5] ?_;refine aB 2 2 E ?_;refine ah (Bc X _ 99000 (E.h HX) (by omega) (fun y hy=>(HI.vs y hy).2)) ?_;rintro _ w10 ⟨v,rfl,hb⟩;replace E:=E.up hb;clear hb;refine G0 [26] ?_
 by_cases h1:(v !=0)=true
 case pos=>
  refine GD E [0,0,1,80,2,4,7,5,0,61,0,4,22,24,9] ?_;clear E;intro w11 E;exact aI 1 E ⟨iY,8,rfl,L_ (fun h=>absurd h (by decide)),E.Ay _⟩
 replace h1:(v !=0)=false:=by simpa using h1
 refine GD E [84,42,84] ?_
 by_cases h2:((X.lo.l.length:Int) !=(all.l.length:Int))=true
 case pos=>
  refine GD E [0,0,4,7,5,0,61,0,4,22,24,9] ?_;clear E;intro w12 E;exact aI 1 E ⟨iY,8,rfl,L_ (fun h=>absurd h (by decide)),E.Ay _⟩
 replace h2:((X.lo.l.length:Int) !=(all.l.length:Int))=false:=by simpa using h2
 refine G0 [0,0,4,8,15,5] ?_;refine aB 0 4 E ?_;refine GD E [0,71,3,0,4,6,5,0,43,0,0,4,19,9] ?_;clear E;intro g42 w13 E;have hlen:Hid (X.lo.l.length=all.l.length):=L_ (by have h:(X.lo.l.length:Int)=(all.l.length:Int):=(by simpa using h2);omega);have hl4:X.lo.l.length≤4:=by rw[hlen.out];exact HK.2.2.1.2.1
 clear h1 h2;replace E:Env w w (dJ g42 ⟨y,⟨none,0,[]⟩,⟨none,0,[]⟩⟩::(g8,45,y)::(g6,45,[.int .i64 0,(),(),()])::(g5,135,X)::[]) (iw y 1000 100000++[]) _:=E.as rfl (by simp only[aak])
 go_loopw [46] (fun u wr=>∃k:Nat,u=(k:Int)∧k≤X.lo.l.length∧Env w w (dJ g42 ⟨y,⟨none,0,[]⟩,⟨none,0,[]⟩⟩::(g8,45,y)::(g6,45,[.int .i64 0,(),(),()])::(g5,135,X)::[]) (iw y 1000 100000++[]) wr) (fun u _=>X.lo.l.length - (intOf u).toNat)
 case atStart=>exact⟨0,rfl,Zq _,E⟩
 case round=>
  clear E;obtain⟨k,rfl,hk,E⟩:=hrel
  by_cases hlt:k<X.lo.l.length
  case pos=>
   have hw:IntKind.i64.wrap ((k:Int)+1)=((k+1:Nat):Int):=by rw[aaP _ (by omega)];rfl
   obtain⟨bb,off,x,hA,-,hx,hcc,hxl⟩:=(E.h HX).1.get (k:=k) hlt;have d1:wr.cell? ⟨bb,off+k,none⟩=some (.slice x.A x.l.length x.c):=by simpa[aj.sz,Sl.val] using hcc 0 _ rfl
   clear hcc hx hxl;refine G0 [5,0,4,16,15,18,5,0,0] ?_;refine bQ d1 ?_;clear d1 hA;refine G0 [0,0,4,5] ?_
   by_cases hx0:0<x.l.length
   case neg=>
    have hx1:decide ((0:Int)<(x.l.length:Int))=false:=ZE (by omega);refine G0 [84,0,1,2,2,2,2,4,8,21,23,0,0,25] ?_
    go_roundw
    case rel=>exact⟨k+1,rfl,hlt,E⟩
    case measure=>simp[intOf];omega
   case pos=>
    have hx1:decide ((0:Int)<(x.l.length:Int))=true:=ZG (by omega);refine G0 [83,0] ?_;refine ah (EC g42 1000 ⟨y,⟨none,0,[]⟩,⟨none,0,[]⟩⟩ (k:Int) _ E (by omega) (fun w' E'=>E'.ol (s:=y.all) (N:=1000) 2) (jG _ (by omega) (by omega))) ?_;clear E;rintro _ w14 ⟨rfl,E⟩;refine G0 [26] ?_;obtain⟨o,ho⟩:∃o,mD y (k:Int)=o:=⟨_,rfl⟩;rw[ho];clear ho;cases o
    case false=>
     refine GD E [0,0,4,7,5,0,62,0,4,22,24,9] ?_;clear E;intro w15 E;exact aI 2 E ⟨iY,8,rfl,L_ (fun h=>absurd h (by decide)),E.Ay _⟩
    case true=>
     refine G0 [0,0,4,8,21,23,0,0,25] ?_
     go_roundw
     case rel=>exact⟨k+1,rfl,hlt,E⟩
     case measure=>simp[intOf];omega
  case neg=>
   refine GD E [5,0,4,17,27,28,6,5,0,43,0,0,4,19] ?_;clear hlt hk
   go_loopw [65] (fun u wr=>∃(j:Nat) (S:Sl dZ),u=(j:Int)∧j≤X.vs.l.length∧Hid (∀s∈S.l,tF Pg all.l.length j s)∧Env w w (dJ g42 ⟨⟨y.me,y.all,S,y.ti⟩,⟨none,0,[]⟩,⟨none,0,[]⟩⟩::(g8,45,y)::(g6,45,[.int .i64 0,(),(),()])::(g5,135,X)::[]) (iw ⟨y.me,y.all,S,y.ti⟩ 1000 100000++[]) wr) (fun u _=>X.vs.l.length - (intOf u).toNat)
   case atStart=>exact⟨0,y.se,rfl,Zq _,L_ (fun s hs=>by have h:=hy.se s hs;exact⟨fun v hv=>(by rw[h.log] at hv;cases hv),fun v hv=>(by rw[h.vs] at hv;cases hv),h.wi,h.t,h.num,by rw[h.vs];exact Zh _⟩),E⟩
   case round=>
    clear E;obtain⟨j,S,rfl,hj,HS,E⟩:=hrel
    by_cases hlt:j<X.vs.l.length
    case pos=>
     have hw:IntKind.i64.wrap ((j:Int)+1)=((j+1:Nat):Int):=by rw[aaP _ (by omega)];rfl
     obtain⟨bb,off,v,hA,-,hv,hcc,-⟩:=(E.h HX).2.get (k:=j) hlt;replace hcc:=L_ hcc;have HV:=L_ (HI.vs v (Zk hv));clear hv;refine G0 [5,0,4,16,15,18,5,0] ?_;refine fA v hcc ?_;clear hcc hA;refine GD E [70,3,60,4,5,9] ?_;clear E;intro g14 w17 E;replace E:=E.bD 1;refine GD E [0,0,41] ?_;refine ah (RG g42 100000 ⟨⟨y.me,y.all,S,y.ti⟩,⟨none,0,[]⟩,⟨none,0,[]⟩⟩ v.g _ E (by omega) (fun w' E'=>Env.SY (x:=⟨y.me,y.all,S,y.ti⟩) E' (by omega) (by omega))) ?_;clear E;rintro _ w18 ⟨j0,rfl,hf,E⟩;refine G0 [26] ?_
     by_cases c1:j0<0
     case pos=>
      refine GD E [0,4,6,5,0,0,4,7,5,0,63,0,4,22,24,9] ?_;clear E;intro w19 E;exact aI 3 E ⟨iY,8,rfl,L_ (fun h=>absurd h (by decide)),E.Ay _⟩
     refine G0 [0,4,6,5,0,0,4,8,15] ?_
     obtain⟨i,s,rfl,hs,hsn⟩:∃(i:Nat) (s:dZ),j0=(i:Int)∧S.l[i]?=some s∧s.num=v.g:=by
      rcases hf with ⟨h1,-⟩|⟨i,s,h1,h2,h3,-⟩
      ·exact absurd h1 (by omega)
      ·exact⟨i,s,h1,h2,by simpa using h3.symm⟩
     replace hs:=L_ hs;replace hsn:=L_ hsn;have hil:i<S.l.length:=(Zo.1 hs).1;obtain⟨gl,cur,hA,-,-,-⟩:=(show S.Row _ _∧_ from E.get 0).1.at_ hs;have hsv:=(HS s (Zk hs)).vn;clear hf c1;replace E:=E.Cu (i+4) (PZ (x:=⟨y.me,y.all,S,y.ti⟩) hs);refine ng 0 18 ((iw ⟨y.me,y.all,S,y.ti⟩ 1000 100000++[]).take (i+4)++(iw ⟨y.me,y.all,S,y.ti⟩ 1000 100000++[]).drop (i+4+1)) (aaL [0,1,2,3,4,5,6,7,8,9,10,11,12,13,14,15]++aaN [16,17]) E ?_;clear E;intro w20 E;refine GD E [32,32,32,32,50,35,50,32,32,32] ?_;refine ug E (v:=s.vs) (fun w' E'=>by have h:=E'.Ms (s:=S) (N:=1000) 0 (i:=5) hA hs rfl;simpa[aj.sz] using h) ?_;refine gZ 1 5 E ?_;refine xL E ?_;clear E;intro g92 w21 E;refine D_n ?_;refine Ii (s:=s.vs) (N:=100000) 100000 ⟨some ⟨g92,0,none⟩,1,[v]⟩ E (E.reads 0 1 5) (by simp;omega) (by omega) ?_;clear E;intro v3 w22 h3 E;refine D_n ?_;refine ow ?_;replace E:=E.J2 (by simp[iw];omega);refine G0 [0,0] ?_;refine AA (N:=1000) (i:=5) 0 E hA hs (VE s v3) ?_;clear E;intro w23 E
     have HS2:Hid (∀u∈S.l.set i (VE s v3),tF Pg all.l.length (j+1) u):=L_ (fun u hu=>by
      rcases aat hu with hu|rfl
      ·exact(HS u hu).more (Nat.le_succ j)
      ·have h:=HS s (Zk hs);refine⟨h.log,fun z hz=>?_,h.wi,h.t,h.num,?_⟩
       ·rw[show(VE s v3).vs.l=s.vs.l++[v] from h3.out] at hz
        rcases Zm.1 hz with hz|hz
        ·exact h.vs z hz
        ·rw[Zp.1 hz];exact⟨hsn.out▸HV.out.1,HV.2.2⟩
       ·show v3.l.length≤j+1;rw[h3.out,Zn];simp;exact h.vn)
     refine G0 [20,23,0,0,25] ?_
     go_roundw
     case rel=>exact⟨j+1,⟨S.A,S.c,S.l.set i (VE s v3)⟩,rfl,hlt,HS2,(Env.Yx (x:=⟨y.me,y.all,S,y.ti⟩) hs ((E.drop 1).only 1)).as (by simp[dJ,Z7]) rfl⟩
     case measure=>simp[intOf];omega
    case neg=>
     refine GD E [5,0,4,17,27,28,6,5,84,0,40,0,0,4,19] ?_;clear hlt;have hSn:S.l.length≤1000:=(show S.Row _ _∧S.l.length≤1000 from E.get 0).2
     go_loopw [103] (fun u wr=>∃(i:Nat) (R:Sl dZ),u=(i:Int)∧i≤S.l.length∧Hid (R.l.length=S.l.length∧∀s∈R.l,tF Pg all.l.length 99000 s)∧Env w w (dJ g42 ⟨⟨y.me,y.all,R,y.ti⟩,⟨none,0,[]⟩,⟨none,0,[]⟩⟩::(g8,45,y)::(g6,45,[.int .i64 0,(),(),()])::(g5,135,X)::[]) (iw ⟨y.me,y.all,R,y.ti⟩ 1000 100000++[]) wr) (fun u _=>S.l.length - (intOf u).toNat)
     case atStart=>exact⟨0,S,rfl,Zq _,L_ ⟨rfl,fun s hs=>(HS s hs).more (by omega)⟩,E⟩
     case round=>
      clear E;obtain⟨i,R,rfl,hi,HR,E⟩:=hrel
      by_cases hlt:i<S.l.length
      case pos=>
       have hw:IntKind.i64.wrap ((i:Int)+1)=((i+1:Nat):Int):=by rw[aaP _ (by omega)];rfl
       obtain⟨s,hs⟩:∃s,R.l[i]?=some s:=⟨_,Zl (by rw[HR.out.1];exact hlt)⟩;replace hs:=L_ hs;have hil:i<R.l.length:=(Zo.1 hs).1;obtain⟨gl,cur,hA,-,-,-⟩:=(show R.Row _ _∧_ from E.get 0).1.at_ hs;refine G0 [5,0,4,16,15,18,5,0,0,4] ?_;obtain⟨q,hql,hqn⟩:=(HR.2 s (Zk hs)).num;have hqx:q<X.lo.l.length:=by rw[hlen.out];exact hql
       obtain⟨bb,off,x,hA2,-,hx,-,hxl⟩:=(E.h HX).1.get (k:=q) hqx;replace hx:=L_ hx;replace hqn:=L_ hqn;have HXL:Hid (Sl.aA w w 1000 x):=L_ (by have h:=HX.1.2.2.2.2 x (Zk hx);exact⟨h.1,h.2.1,h.2.2.1,Zt (HI.lo q x hx).1 (by decide),h.2.2.2.2⟩);clear hxl;refine ng 0 20 (iw ⟨y.me,y.all,R,y.ti⟩ 1000 100000++[]) (aaL [0,1,2,3,4,5,6,7,8,9,10,11,12,13,14,15,16,17,18]++aaN [19]) E ?_;clear E;intro w24 E;refine GD E [32,32,32,32,50,32,32,53,32,32,32,32,50,32,32,32] ?_;refine ug E (v:=.int .i64 (q:Int)) (fun w' E'=>by have h:=E'.Ms (s:=R) (N:=1000) 0 (i:=1) hA hs.out rfl;rw[show(some (Value.int .i64 (q:Int)))=some (Value.int .i64 s.num) from by rw[hqn.out]];simpa[aj.sz] using h) ?_;refine ni E ?_;refine ug E (v:=x) (fun w' E'=>by have h:=(E'.h HX).1.gI (i:=0) hA2 hx rfl;simpa[aj.sz,Sl.val] using h) ?_;refine bT (qg gH E HXL) ?_;clear E;rintro _ w25 ⟨cl,rfl,hcl,E⟩;refine⟨_,rfl,E.sub (by first|exact Zi _|exact List.drop_sublist _ _) (by first|exact Zi _|exact List.sublist_append_right _ _|exact Zj _ (Zi _)),D_n ?_⟩;refine GD E [29,0,0] ?_;refine AA (N:=1000) (i:=4) 1 E hA hs (za s cl) ?_;clear E;intro w26 E
       have HR2:Hid ((R.l.set i (za s cl)).length=S.l.length∧∀u∈R.l.set i (za s cl),tF Pg all.l.length 99000 u):=L_ ⟨by rw[Z7];exact HR.1,fun u hu=>by
        rcases aat hu with hu|rfl
        ·exact HR.2 u hu
        ·have h:=HR.2 s (Zk hs);refine⟨fun z hz=>?_,h.vs,h.wi,h.t,h.num,h.vn⟩;rw[show(za s cl).log.l=x.l from hcl.out] at hz;show Pg s.num z;rw[hqn.out];exact(HI.lo q x hx).2 z hz⟩
       refine G0 [20,23,0,0,25] ?_
       go_roundw
       case rel=>exact⟨i+1,⟨R.A,R.c,R.l.set i (za s cl)⟩,rfl,hlt,HR2,(Env.XU (x:=⟨y.me,y.all,R,y.ti⟩) hs E).as (by simp[dJ,Z7]) rfl⟩
       case measure=>simp[intOf];omega
      case neg=>
       refine G0 [5,0,4,17,27,28,6,5,84] ?_;refine aB 0 4 E ?_;refine ah (sO ⟨y.me,y.all,R,y.ti⟩ _ 100000 ⟨(E.ol (s:=y.all) (N:=1000) 2).more (Zh _) (by decide),Env.SY (x:=⟨y.me,y.all,R,y.ti⟩) E (by decide) (by decide),(E.ol (s:=y.ti) (N:=1000) 3).more (Zh _) (by decide)⟩ (by decide) (by decide) (fun s hs=>(HR.2 s hs).iD.wf (HZ _))) ?_;rintro _ w27 ⟨v,rfl,hc,hb⟩;replace E:=E.up hb;clear hb;refine G0 [26] ?_
       by_cases h0:v=0
       case neg=>
        refine GD E [0,4,5,0,0,4,7,5,0,0,62,0,4,22,24,9] ?_;clear E;intro w28 E;exact aI 2 E ⟨iY,v,rfl,L_ (fun h=>absurd h h0),E.Ay _⟩
       subst h0;refine G0 [0,4,5,0,0,4,8,15,5,84] ?_;refine aB 0 4 E ?_;refine GD E [62,0,4,22,9] ?_;clear E;intro w29 E;exact aI 2 E ⟨⟨y.me,y.all,R,y.ti⟩,0,rfl,L_ (fun _=>⟨⟨fun s hs=>(HR.2 s hs).iD,fun t ht=>(by rw[show(⟨y.me,y.all,R,y.ti⟩:jl).ti.l=[] from hy.out.ti] at ht;cases ht),by show y.ti.l.length≤0;rw[hy.out.ti];exact Zh _⟩,HK.1,dB.aU HK.2.1⟩),by have h:=Env.Tj (x:=⟨y.me,y.all,R,y.ti⟩) (fun s hs=>Zt ((hc rfl).se s hs).1.vl (by decide)) (E.drop 4);exact h⟩
end
end Go.Proofs.YtaebfkcgdmodlaaGreatDoor
