/-
  A part of the proof that the erased node of towncrier reads nothing (TopErased).
-/
import Derived.Test.YtaebfkcgdmodlaaGreatDoorJ20
namespace Go.Proofs.YtaebfkcgdmodlaaGreatDoor
open Go.RowKit Go.Proofs.Tryz
set_option maxHeartbeats 16000000
set_option maxRecDepth 100000
set_option linter.unusedVariables false
set_option linter.unusedSimpArgs false
variable{a a':Act}{ops:Array Oper}{Q:Exit→Act→World→Prop}{me:Int}{M g j:Nat}{o:Oper}{x:Operand}{α:Type}{ty:TypeId}{v:Value}{w:World}
section
attribute [local irreducible] wpList av
structure OO (me:Int)(n:eP):Prop where
 d:n.k.d.l.length=0
 ti:n.b.ti.l.length=0
 se:∀s∈n.b.se.l,s.log.l.length=0∧s.vs.l.length=0∧s.wi.l.length=0
 h:∀m∈n.h.l,m.k=7
theorem UD {l:List α}(h:∀x∈l,False):l.length=0:=by
 cases l with
 |nil=>rfl
 |cons a r=>exact(h a ZC).elim
theorem eO.quiet {aU:List (List Int)}{T:Nat}{n:eP}(h:eO me aU T me n):OO me n:=by
 have hno:∀g v,¬yE me aU me g v:=fun g v h=>h.1 rfl;refine⟨?_,?_,fun s hs=>?_,fun m hm=>?_⟩
 ·have h1:=congrArg List.length ((h.inn.k.2 hno).1:n.k.pl.data=[]);have h2:n.k.pl.data.length=n.k.d.l.length:=by first|exact Z5 ..|simp[qp.pl]
  rw[h2] at h1;exact h1
 ·have h1:n.b.ti.l.length≤0:=by have:=h.inn.b.tl;simpa[Tn] using this
  omega
 ·have hb:=h.inn.b.se s hs;exact⟨UD fun v hv=>hno _ _ (hb.log v hv),UD fun v hv=>hno _ _ (hb.vs v hv).1,UD fun v hv=>hno _ _ (hb.wi v hv)⟩
 ·obtain⟨h1,h2⟩:=h.ho m hm;exact h1.ok.resolve_right fun h3=>h3.1 h2
theorem Xl {rest:List Oper}(vs:List Value)(hc:∀i u,vs[i]?=some u→w.cell? ⟨g,j+i,none⟩=some u)(h:wpList prog ops Q rest a' w)
  (hg:Region.wanted o (yielded ops a.tmps)=true:=by rfl) (ho:o.op=.load ty x:=by rfl) (hx:a.eval x=.pointer (some ⟨g,j,none⟩):=by rfl) (hu:bq prog ty=false:=by kernel_rfl) (hs:(prog.info? ty).map (·.size)=some vs.length:=by kernel_rfl) (hd:(prog.underlying ty).isSome=true:=by kernel_rfl) (ha:a.put o.dst (.agg vs.toArray)=a':=by first|(simp only[Act.put,aaI,aaJ,aaK]<;>rfl)|rfl):wpList prog ops Q (o::rest) a w:=by
 subst ha;obtain⟨d,hd⟩:=aan.1 hd;have hr:d.isRow=true:=by simpa[bq,hd] using hu
 refine wpList_step fun K hK=>?_;rw[aaS hg];unfold Oper.wp execOp;simp only[ho,hx,aaV,aaW,aaQ,run_loadAt_mid w g j ty vs d (fun q u hq=>hc q u hq) hd hr hs];exact hK _ _ h
theorem tJ (i:Nat){c:Code}{K:Exit→Act→World→Prop}{f:Value→Act}(h:∀u,c.wp prog K (f u) w)(hv:a.tmps[i]?=some v:=by rfl)(hf:∀u,a.put (some i) u=f u:=by intro u;first|(simp only[Act.put,aaI,aaJ,aaK]<;>rfl)|rfl):c.wp prog K a w:=by
 have e:a.put (some i) v=a:=by
  obtain⟨ts,ds⟩:=a
  have e:ts.setIfInBounds i v=ts:=by
   refine Array.ext_getElem? fun j=>?_;rw[Array.getElem?_setIfInBounds]
   split
   ·rename_i e
    subst e
    split
    ·exact hv.symm
    ·rename_i h2
     exact(Array.getElem?_eq_none (by omega)).symm
   ·rfl
  exact congrArg (fun t=>(⟨t,ds⟩:Act)) e
 have h2:=h v;rw[←hf v,e] at h2;exact h2
theorem XO {H:jH→World→Prop}{S:Value→Value→Value→Value→Value→Value→Value→Value→Value→jH→Nat→World→Prop}{G:Prop}(h1:(∀u0 u1 u2 u3 u4 u5 u6 u7 u8 Y g w,H Y w→S u0 u1 u2 u3 u4 u5 u6 u7 u8 Y g w)→G)(h2:∀u0 u1 u2 u3 u4 u5 u6 u7 u8 Y g w,H Y w→S u0 u1 u2 u3 u4 u5 u6 u7 u8 Y g w):G:=h1 h2
theorem WM (hdel:∀w:World,Calls prog 4 #[] w fun e w'=>e=.returned true∧Below w w w')(nodes me:Int)(all:Sl gT)(l:Sl DN)(w:World)(hl:all.aA w w M)(hla:l.aA w w M)(hM:M≤140737488355328)(hs:∀a∈l.l,a.c.m.key.size≤140737488355328∧a.c.m.body.size≤140737488355328)(hwf:∀a∈l.l,a.c.m.key.size≤4096→a.c.m.body.size≤4096→F4 a) :
  Calls prog 3 #[nodes,all,l,me] w fun e w'=>e=.returned true∧Below w w w':=by
 have HD:=L_ hdel;have HL:=L_ hl;have HLA:=L_ hla;have HS:=L_ hs;have HWF:=L_ hwf;clear hl hla hs hwf hdel;have E:=Env.start w
 go_enter func3,ntmps3
 refine G0 [5,0,4,5] ?_;refine ah (HD _) ?_;rintro _ w2 ⟨rfl,hb⟩;replace E:=E.up hb;clear hb;refine G0 [26,0,4,6,5,0,0,4,8,15,5,0,0] ?_;refine ah (XG nodes all _ (E.l HL) (by omega)) ?_;rintro _ w3 ⟨c,v,rfl,hc,F⟩;replace E:=E.call F;clear F;refine G0 [26] ?_
 by_cases h1:(v !=0)=true
 case pos=>
  refine G E [84,70,3,60,0,4,6,5,84,1,81,2,4,7,5,0,0,4,22,24,9] ?_;clear E;intro g10 w5 E;exact ak ⟨rfl,E.aD⟩
 replace h1:(v !=0)=false:=by simpa using h1
 refine G E [84,70,3,60,0,4,6,5,84,0,9] ?_;clear E;intro g10 w7 E;replace hc:=L_ (hc (by simpa using h1));clear h1;refine ah (XK l _ (E.l HLA) hM HS) ?_;rintro _ w8 ⟨q,rfl,hq,hb⟩;replace E:=E.up hb;clear hb;refine G0 [26] ?_;cases q
 case true=>
  refine G0 [0,0,1,80,2,2,4,7,5,0,0,4,22,24] ?_;exact ak ⟨rfl,E.aD⟩
 case false=>
  refine G0 [84] ?_;replace hq:=L_ (hq rfl)
  by_cases c3:me<0
  case pos=>
   refine G0 [84,1,1,1,0,4,7,5,0,0,4,22,24] ?_;exact ak ⟨rfl,E.aD⟩
  refine G0 [83] ?_
  by_cases c4:nodes≤me
  case pos=>
   refine G0 [0,0,4,7,5,0,0,4,22,24] ?_;exact ak ⟨rfl,E.aD⟩
  refine G0 [0,0,4,8,15,6,5,0,4,19] ?_;replace HL:=L_ (yX (N:=1000) HL hc.gr (by decide));have hl60:l.l.length≤60:=hq.n;have hcn:=hc.n;obtain⟨mi,rfl⟩:∃mi:Nat,me=(mi:Int):=⟨me.toNat,by omega⟩;have hmi:mi<c.no.l.length:=by omega
  replace hmi:=L_ hmi;clear c3 c4 hcn
  go_loopw [12] (fun u wr=>∃(k:Nat) (C:jH),u=(k:Int)∧k≤l.l.length∧Hid (iM (mi:Int) (all.l.map fun g=>g.r.l) k C∧C.no.l.length=c.no.l.length)∧Env w w ((g10,28,C)::[]) (iJ C) wr) (fun u _=>l.l.length - (intOf u).toNat)
  case atStart=>exact⟨0,c,rfl,Zq _,L_ ⟨hc.ok _,rfl⟩,E⟩
  case round=>
   clear E;obtain⟨k,C,rfl,hk,HC,E⟩:=hrel
   by_cases hlt:k<l.l.length
   case pos=>
    have hw:IntKind.i64.wrap ((k:Int)+1)=((k+1:Nat):Int):=by rw[aaP _ (by omega)];rfl
    obtain⟨bb,off,a,hA,-,ha,hcc,hal⟩:=(E.l HLA).get (k:=k) hlt
    have HAL:Hid (au.aA w w 1000 a.c):=L_ (by
     have h:=HLA.2.2.2.2 a (Zk ha);have h2:=(hq.c a (Zk ha)).1;exact⟨⟨h.1.1,h.1.2.1,h.1.2.2.1,by omega,fun _ _=>trivial⟩,⟨h.2.1,h.2.2.1,h.2.2.2.1,by omega,fun _ _=>trivial⟩⟩)
    have HAW:Hid (F4 a):=L_ (by
     have h2:=(hq.c a (Zk ha)).2;exact HWF a (Zk ha) (by omega) (by omega))
    replace hcc:=L_ hcc;have HA:=L_ ha;clear hal ha
    have HCC:Hid (∀(bx:List Bx) (is:List It) (w':World),Env w.heap.size w bx is w'→∀q u,[.int .u8 a.k,.int .i64 a.node,.int .i64 a.pl,.int .i64 a.keep,.int .i64 a.DL,.int .i64 a.g,.int .u8 a.c.k,.int .i64 a.c.m.i,.slice a.c.m.g.A a.c.m.g.l.length a.c.m.g.c,.int .i64 a.c.m.t,.string a.c.m.key,.string a.c.m.body,.int .i64 a.c.i,.int .i64 a.c.tm,.slice a.c.me.A a.c.me.l.length a.c.me.c,.int .i64 a.c.tp,.int .i64 a.c.who,.int .i64 a.c.n][q]?=some u→w'.cell? ⟨bb,off+k*18+q,none⟩=some u):=L_ (fun bx is w' E'=>by
     obtain⟨bb',off',a',hA',-,ha',hcc',-⟩:=(E'.l HLA).get (k:=k) hlt;obtain rfl:a'=a:=by rw[HA.out] at ha';exact(Z4 ha').symm
     cases hA.symm.trans hA';exact hcc')
    revert E
    apply XO (H:=fun Y w'=>Env w w ((g10,28,Y)::[]) (iJ Y) w'∧Hid (iM (mi:Int) (all.l.map fun g=>g.r.l) (k+1) Y∧Y.no.l.length=C.no.l.length))
    case' h1=>
     intro key E;refine G0 [6,5,84,0,4,7,15,18,6,5,84,0] ?_;refine bQ (hcc 0 _ rfl) ?_
     by_cases h8:(a.k==8)=true
     case' pos=>
      refine G0 [83] ?_;refine Xl a hcc ?_;refine G0 [0,0] ?_;refine ah (PO (mi:Int) a all _ (E.l HL) (E.h HAL).1) ?_;rintro _ w9 ⟨q,rfl,ht,hb⟩;replace E:=E.up hb;clear hb;refine G0 [26] ?_;cases q
      case true=>
       refine G0 [0,4,7,27,28,23,84,25] ?_
       go_roundw
       case rel=>exact⟨k+1,C,rfl,hlt,L_ ⟨HC.1.more (Nat.le_succ k),HC.2⟩,E⟩
       case measure=>simp[intOf];omega
      case' false=>
       refine G0 [0,4,8,15] ?_;have HOK:Hid (Np (mi:Int) (all.l.map fun g=>g.r.l) a):=L_ (fun _=>ht rfl);clear h8 ht
     case' neg=>
      replace h8:(a.k==8)=false:=by simpa using h8
      refine G0 [0,0,1,80,2,2,4,8,15] ?_;have HOK:Hid (Np (mi:Int) (all.l.map fun g=>g.r.l) a):=L_ (fun h=>by simp[h] at h8);clear h8
     all_goals
      refine dw 11 E ?_;clear E;intro w10 E;refine oG 0 0 3 E ?_;refine ay 1 E ?_;refine ay 2 E ?_;refine ay 3 E ?_;refine VZ 4 E a (fun w' E'=>HCC _ _ w' E') ?_;refine IJ 5 9 (cK (Wy (mi:Int) (all.l.map fun g=>g.r.l) k C a _ ⟨E.ol 2,E.ol 0,E.ol 1⟩ (E.h HAL.out) HC.out.1 HAW.out HOK.out (by omega)) ?_) (jm E ?_)
      case' refine_1=>
       rintro _ w11 ⟨Y,v,rfl,hY,F⟩;replace E:=E.call F;clear F;refine⟨_,rfl,E.weak,dL ?_⟩;refine ay 6 E ?_;refine ay 7 E ?_;refine ay 8 E ?_;refine T_1 9 (jm E ?_);clear E;intro g13 w12 E;refine⟨(E.drop 1).weak,dL ?_⟩
      case' refine_2=>
       clear E;intro g13 w11 E;refine⟨(E.drop 1).weak,dL ?_⟩;refine T_1 5 (cK (Wy (mi:Int) (all.l.map fun g=>g.r.l) k C a _ ⟨E.ol 2,E.ol 0,E.ol 1⟩ (E.h HAL.out) HC.out.1 HAW.out HOK.out (by omega)) ?_);rintro _ w12 ⟨Y,v,rfl,hY,F⟩;replace E:=E.call F;clear F;refine⟨_,rfl,(E.drop 1).weak,dL ?_⟩;refine ay 6 E ?_;refine ay 7 E ?_;refine ay 8 E ?_
      all_goals
       refine uS 10 0 E ?_;clear E;intro w13 E;refine G0 [30,0,4,6,5,0] ?_
       by_cases h0:v=0
       case neg=>
        refine G0 [0,4,7,27,28,23,84,25] ?_
        go_roundw
        case rel=>exact⟨k+1,C,rfl,hlt,L_ ⟨HC.1.more (Nat.le_succ k),HC.2⟩,(E.drop 1).dQ (is':=iJ C) 6 [3,4,5]⟩
        case measure=>simp[intOf];omega
       subst h0;refine G0 [0,4,8] ?_;replace hY:=L_ (hY rfl);refine G0 [15,5] ?_;refine aB 0 3 E ?_;refine G E [61,4,9] ?_;clear E;intro w14 E;replace E:Env w w ((g10,28,Y)::[]) (iJ Y) _:=(E.drop 1).dQ (is':=iJ Y) 6 [0,1,2];refine tJ 56 ?_;intro u56;refine tJ 57 ?_;intro u57;refine tJ 58 ?_;intro u58;refine tJ 59 ?_;intro u59;refine tJ 60 ?_;intro u60;refine tJ 61 ?_;intro u61;refine tJ 62 ?_;intro u62;refine tJ 63 ?_;intro u63;refine tJ 64 ?_;intro u64;exact key u56 u57 u58 u59 u60 u61 u62 u63 u64 Y g13 _ ⟨E,hY⟩
    all_goals
     rintro u56 u57 u58 u59 u60 u61 u62 u63 u64 Y g13 wE ⟨E,hY⟩;obtain⟨n,hn⟩:∃n,Y.no.l[mi]?=some n:=⟨_,Zl (by rw[hY.out.2,HC.out.2];exact hmi)⟩;have hmY:mi<Y.no.l.length:=(Zo.1 hn).1;have HQ:Hid (OO (mi:Int) n):=L_ (hY.1.no mi n hn).quiet;obtain⟨bb2,off2,n',hA2,-,hn',hcc2,-⟩:=(E.ol (s:=Y.no) (N:=1000) 0).get (k:=mi) hmY;obtain rfl:n'=n:=by rw[hn] at hn';exact(Z4 hn').symm
     replace hcc2:=L_ hcc2;have NL:Hid (∀(bx:List Bx) (w':World),Env w w bx (iJ Y) w'→au.aA w' w' 1000 n'):=L_ (fun bx w' E'=>(E'.ol (s:=Y.no) (N:=1000) 0).2.2.2.2 n' (Zk hn));have NB:=L_ (NL _ _ E);have hY2:Hid (iM (mi:Int) (all.l.map fun g=>g.r.l) (k+1) Y∧Y.no.l.length=c.no.l.length):=L_ ⟨hY.1,hY.2.trans HC.2⟩;clear hn hn';refine G E [5,0,40,0,0] ?_;refine fA n' hcc2 ?_;clear hcc2 hA2;refine G E [70,3,60,4,6,5,0,0,40,0,9] ?_;clear E;intro g15 w16 E;have e1:((n'.k.d.l.length:Int) !=0)=false:=by rw[HQ.out.d];rfl
     have e2:((n'.b.ti.l.length:Int) !=0)=false:=by rw[HQ.out.ti];rfl
     refine G E [84,0,40,84,4,8,15,6,5,0,4,19] ?_;clear e1 e2;have hsn:n'.b.se.l.length≤1000:=NB.2.1.2.2.2.1;have hhn:n'.h.l.length≤5000:=NB.2.2.2.2.2.2.2.2.1;have hmn:Y.ma.l.length≤5000:=E.on (s:=Y.ma) (N:=5000) 1
     go_loopw [16] (fun u wr=>∃j:Nat,u=(j:Int)∧j≤n'.b.se.l.length∧Env w w ((g15,51,n')::(g10,28,Y)::[]) (iJ Y) wr) (fun u _=>n'.b.se.l.length - (intOf u).toNat)
     case atStart=>exact⟨0,rfl,Zq _,E⟩
     case round=>
      clear E;obtain⟨j,rfl,hj,E⟩:=hrel
      by_cases hlt2:j<n'.b.se.l.length
      case pos=>
       have hw2:IntKind.i64.wrap ((j:Int)+1)=((j+1:Nat):Int):=by rw[aaP _ (by omega)];rfl
       obtain⟨bb,off,s,hA,-,hs,hcc,-⟩:=(NL _ _ E).2.1.get (k:=j) hlt2;have HSQ:=L_ (HQ.se s (Zk hs));replace hcc:=L_ hcc;clear hs;refine G E [6,5,84,40,0,0,4,7,15,18,5,0,0,40,0,0] ?_;refine fA s hcc ?_;clear hcc hA;refine G E [70,3,60,4,5,0,40,0,9] ?_;clear E;intro g17 w18 E;have e1:((s.log.l.length:Int) !=0)=false:=by rw[HSQ.out.1];rfl
       have e2:((s.vs.l.length:Int) !=0)=false:=by rw[HSQ.out.2.1];rfl
       have e3:((s.wi.l.length:Int) !=0)=false:=by rw[HSQ.out.2.2];rfl
       refine G E [84,40,83,40,84,4,8,21,23,84,25] ?_
       go_roundw
       case rel=>exact⟨j+1,rfl,hlt2,E.drop 1⟩
       case measure=>simp[intOf];omega
      case neg=>
       refine G E [6,5,84,40,0,0,4,8,27,28,6,5,0,4,19] ?_
       go_loopw [18] (fun u wr=>∃j:Nat,u=(j:Int)∧j≤n'.h.l.length∧Env w w ((g15,51,n')::(g10,28,Y)::[]) (iJ Y) wr) (fun u _=>n'.h.l.length - (intOf u).toNat)
       case atStart=>exact⟨0,rfl,Zq _,E⟩
       case round=>
        clear E;obtain⟨j,rfl,hj,E⟩:=hrel
        by_cases hlt2:j<n'.h.l.length
        case pos=>
         have hw2:IntKind.i64.wrap ((j:Int)+1)=((j+1:Nat):Int):=by rw[aaP _ (by omega)];rfl
         obtain⟨bb,off,m,hA,-,hm,hcc,-⟩:=(NL _ _ E).2.2.2.2.2.get (k:=j) hlt2;have HMQ:=L_ (HQ.h m (Zk hm));have d1:_=some (Value.int .u8 m.k):=hcc 2 _ rfl;clear hcc hm;refine G E [6,5,0,0,40,0,0,4,7,15,18,5,0,40,84] ?_;refine bQ d1 ?_;clear d1 hA;have e1:(m.k !=7)=false:=by rw[HMQ.out];rfl
         refine G0 [0,4,8,21,23,84,25] ?_
         go_roundw
         case rel=>exact⟨j+1,rfl,hlt2,E⟩
         case measure=>simp[intOf];omega
        case neg=>
         refine G E [6,5,0,0,40,0,0,4,8,27,28,5,0,4,19] ?_
         go_loopw [19] (fun u wr=>∃j:Nat,u=(j:Int)∧j≤Y.ma.l.length∧Env w w ((g15,51,n')::(g10,28,Y)::[]) (iJ Y) wr) (fun u _=>Y.ma.l.length - (intOf u).toNat)
         case atStart=>exact⟨0,rfl,Zq _,E⟩
         case round=>
          clear E;obtain⟨j,rfl,hj,E⟩:=hrel
          by_cases hlt2:j<Y.ma.l.length
          case pos=>
           have hw2:IntKind.i64.wrap ((j:Int)+1)=((j+1:Nat):Int):=by rw[aaP _ (by omega)];rfl
           obtain⟨bb,off,m,hA,-,hm,hcc,-⟩:=(E.ol (s:=Y.ma) (N:=5000) 1).get (k:=j) hlt2;have HMQ:=L_ (hY.1.ma m (Zk hm)).ok;have d1:_=some (Value.int .i64 m.t):=hcc 1 _ rfl;have d2:_=some (Value.int .i64 m.f):=hcc 0 _ rfl;have d3:_=some (Value.int .u8 m.k):=hcc 2 _ rfl;clear hcc hm;refine G E [6,5,0,0,41,0,0,4,7,15,18,5,0,41,84] ?_;refine bQ d1 ?_
           by_cases q1:(m.t==(mi:Int))=true
           case pos=>
            have e1:(m.k !=7)=false:=by rw[HMQ.out.resolve_right fun h=>h.2.1 (by simpa using q1)];rfl
            refine G E [84,1,1,1,1,1,1,1,1,84,41,84] ?_;refine oZ d3 ?_;refine G0 [0,0,4,8,21,23,84,25] ?_
            go_roundw
            case rel=>exact⟨j+1,rfl,hlt2,E⟩
            case measure=>simp[intOf];omega
           case neg=>
            replace q1:(m.t==(mi:Int))=false:=by simpa using q1
            refine G E [84,0,41,84] ?_;refine oZ d2 ?_
            by_cases q2:(m.f==(mi:Int))=true
            case pos=>
             have e1:(m.k !=7)=false:=by rw[HMQ.out.resolve_right fun h=>h.1 (by simpa using q2)];rfl
             refine G E [83,41,84] ?_;refine oZ d3 ?_;refine G0 [0,0,4,8,21,23,84,25] ?_
             go_roundw
             case rel=>exact⟨j+1,rfl,hlt2,E⟩
             case measure=>simp[intOf];omega
            case neg=>
             replace q2:(m.f==(mi:Int))=false:=by simpa using q2
             refine G0 [84,0,1,80,2,2,4,8,21,23,84,25] ?_
             go_roundw
             case rel=>exact⟨j+1,rfl,hlt2,E⟩
             case measure=>simp[intOf];omega
          case neg=>
           refine G E [6,5,0,0,41,0,0,4,8,27,28,23,84,25] ?_
           go_roundw
           case rel=>exact⟨k+1,Y,rfl,hlt,hY2,E.drop 1⟩
           case measure=>simp[intOf];omega
   case neg=>
    refine G0 [6,5,84,0,4,8,27,28,5,0,0,4,22] ?_;exact ak ⟨rfl,E.aD⟩
end
end Go.Proofs.YtaebfkcgdmodlaaGreatDoor
