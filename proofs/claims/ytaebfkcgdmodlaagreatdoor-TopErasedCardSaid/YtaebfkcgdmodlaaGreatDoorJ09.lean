/-
  A part of the proof that the erased node of towncrier reads nothing (TopErased).
-/
import Derived.Test.YtaebfkcgdmodlaaGreatDoorJ08
namespace Go.Proofs.YtaebfkcgdmodlaaGreatDoor
open Go.RowKit Go.Proofs.Tryz
set_option maxHeartbeats 16000000
set_option maxRecDepth 100000
set_option linter.unusedVariables false
set_option linter.unusedSimpArgs false
variable{bx:List Bx}{b:Nat}{w0:World}
section
attribute [local irreducible] wpList av aH
theorem RD (g:gT)(w:World)(N:Nat)(h:au.aA w w N g)(hN:N≤9223372036854775807):Calls prog 151 #[g] w fun e w'=>e=.returned ((cB g.r.l g.m.l))∧Below w w w':=
 rz g.r.A g.r.l.length g.r.c g.r.l g.m.A g.m.l.length g.m.c g.m.l w (by have:=h.1.1;rwa[fF] at this) (by have:=h.2.1;rwa[fF] at this) (by have:=h.1.2.2.2.1;omega) (by have:=h.2.2.2.2.1;omega)
def nG (l:List gT):Prop:=1≤l.length∧l.length≤4∧∀g∈l,cB g.r.l g.m.l=0
theorem Fe (s:Sl gT)(w:World)(N:Nat)(hl:s.aA w w N)(hN:N≤9223372036854775807) :
  Calls prog 80 #[s] w fun e w'=>∃v:Int,e=.returned v∧Hid (v=0→nG s.l)∧Below w w w':=by
 have HL:=L_ hl;have hsn:s.l.length≤N:=hl.2.2.2.1;clear hl;have E:=Env.start w
 go_enter func80,ntmps80
 refine G0 [5,0,4,6,5,0,0] ?_
 by_cases c1:4<(s.l.length:Int)
 case pos=>
  refine G0 [0,4,7,5,0,4,22,24] ?_;exact ak ⟨4,rfl,L_ (fun h=>absurd h (by decide)),E.aD⟩
 refine G0 [0,4,8,15,6,5,0,0] ?_
 by_cases c2:((s.l.length:Int)==0)=true
 case pos=>
  refine G0 [0,4,7,5,0,4,22,24] ?_;exact ak ⟨2,rfl,L_ (fun h=>absurd h (by decide)),E.aD⟩
 replace c2:((s.l.length:Int)==0)=false:=by simpa using c2
 refine G0 [0,4,8,15,6,5] ?_;have HC:Hid (1≤s.l.length∧s.l.length≤4):=L_ ⟨by have h:¬(s.l.length:Int)=0:=(by simpa using c2);omega,by omega⟩;clear c1 c2;refine G0 [84,4,19] ?_
 go_loopw [14] (fun y wr=>∃(k:Nat),y=(k:Int)∧k≤s.l.length∧Hid (∀g∈s.l.take k,cB g.r.l g.m.l=0)∧Env w w [] [] wr) (fun y _=>s.l.length - (intOf y).toNat)
 case atStart=>exact⟨0,rfl,Zq _,L_ (fun g h=>by cases h),E⟩
 case round=>
  clear E;obtain⟨k,rfl,hk,HG,E⟩:=hrel
  by_cases hlt:k<s.l.length
  case pos=>
   have hw:IntKind.i64.wrap ((k:Int)+1)=((k+1:Nat):Int):=by rw[aaP _ (by omega)];rfl
   obtain⟨bb,off,g,hA,-,hg,hcc,hgl⟩:=(E.l HL).get (k:=k) hlt;replace hcc:=L_ hcc;replace hg:=L_ hg;have HGL:Hid (au.aA w w N g):=L_ (HL.2.2.2.2 g (Zk hg));clear hgl;refine G0 [5,0,4,16,15,18,5,0] ?_;refine fA g hcc ?_;clear hcc hA;refine G E [70,3,60,4,5,9] ?_;clear E;intro g4 w3 E;refine aB 0 2 E ?_;refine ah (RD g _ N (E.h HGL) hN) ?_;rintro _ w4 ⟨rfl,hb⟩;replace E:=E.up hb;clear hb;refine G0 [26] ?_;obtain⟨q,hq⟩:∃q,cB g.r.l g.m.l=q:=⟨_,rfl⟩;rw[hq];replace hq:=L_ hq
   by_cases h0:q=0
   case neg=>
    refine G0 [0,4,5,0,0,4,7,5,0,0,4,22,24] ?_;exact ak ⟨q,rfl,L_ (fun h=>absurd h h0),E.aD⟩
   subst h0;refine G0 [0,4,5,0,0,4,8,21,23,0,0,25] ?_
   go_roundw
   case rel=>exact⟨k+1,rfl,hlt,L_ (fun x hx=>by rw[ZP,hg.out] at hx;exact(Zm.1 hx).elim (HG x) (fun h=>(Zp.1 h)▸hq.out)),E.drop 1⟩
   case measure=>simp[intOf];omega
  case neg=>
   refine G0 [5,0,4,17,27,28,5,0,4,22] ?_;exact ak ⟨0,rfl,L_ (fun _=>⟨HC.1,HC.2,by have:=HG.out;rwa[Zz (by omega)] at this⟩),E.aD⟩
theorem BU:∀args w,(callFunc 170 args).run prog w=.ok (.enter 170 args) w:=enters_of func170 (by kernel_rfl) rfl
theorem V3 (x:dI)(w:World):Calls prog 170 #[x] w fun e w'=>∃q:Bool,e=.returned q∧True∧Below w w w':=by
 have E:=Env.start w
 go_enter func170,ntmps170
 refine G E [5,71,3,0,4,5,0,40,0,4,22,9] ?_;clear E;intro g1 w2 E;exact ak ⟨_,rfl,trivial,E.aD⟩
theorem PD (x:dZ)(w:World)(N:Nat)(hl:x.log.aA w w N)(hN:N≤100000)(hN2:1000≤N)(hz:∀v∈x.log.l,v.size≤1000000) :
  Calls prog 104 #[x] w fun e w'=>∃r:Sl dI,e=.returned r∧Hid (∀y∈r.l,y.m.is (jW x.log.l))∧Env w w [] [own r N] w':=by
 have HL:=L_ hl;have HZ:=L_ hz;clear hl hz;have E:=Env.start w
 go_enter func104,ntmps104
 refine G E [5,71,3,0,4,5,0,40,0,40,9] ?_;clear E;intro g1 w2 E;refine ah (Um x.num x.log _ N (E.l HL) hN hN2 HZ) ?_;rintro _ w3 ⟨Y,o,v,rfl,hY,F⟩;replace E:=E.call F;clear F;refine G E [26,84,0,70,3,60,0,0,4,5,9] ?_;clear E;intro g3 w5 E;have hon:=E.on (s:=Y.wa) (N:=N) 0;refine G E [0,40] ?_;refine ah (xV Y.wa (fun _ _=>True) w 170 BU #[] _ N (E.ol 0) (show Sl.Own _ w N Y.wa from E.get 0).1 (by omega) (fun x _ w' _=>V3 x w')) ?_;rintro _ w6 ⟨r,rfl,hr,hrl,hrow,hgr⟩;replace E:=E.Qp (N:=N) 0 hgr hrow (by omega) (fun x hx=>(hr x hx).1);replace hr:=L_ hr;clear hgr hrow;refine G0 [26,0,4,22] ?_;exact ak ⟨r,rfl,L_ (fun y hy=>hY y (hr y hy).1),(E.drop 2).dQ 2 [0]⟩
def ED (l:List dZ):Prop:=∀x∈l,∀v∈x.log.l,v.size≤1000000
theorem Gj {is:List It}(p N:Nat)(X:gY)(w:World)(E:Env b w0 (dJ p X::bx) is w)(hN:N≤100000)(hN2:1000≤N)(hl:∀w',Env b w0 (dJ p X::bx) is w'→X.x.all.aA w' w' N∧X.x.se.aA w' w' N)(hz:ED X.x.se.l) :
  Calls prog 166 #[p] w fun e w'=>∃g,e=.returned (.map (some g))∧Env b w0 (dJ p X::bx) (sj g::is) w':=by
 have HL:=L_ hl;have HZ:=L_ hz;have hsn:X.x.se.l.length≤N:=(hl w E).2.2.2.2.1;clear hl hz
 go_enter func166,ntmps166
 refine G0 [5,0,4,5] ?_;refine UE E ?_;clear E;intro g3 w2 E;refine G E [0,4,6,5,84,0,40,0,0,4,19] ?_
 go_loopw [17] (fun y wr=>∃(k:Nat),y=(k:Int)∧k≤X.x.se.l.length∧Env b w0 (dJ p X::bx) (sj g3::is) wr) (fun y _=>X.x.se.l.length - (intOf y).toNat)
 case atStart=>exact⟨0,rfl,Zq _,E⟩
 case round=>
  clear E;obtain⟨k,rfl,hk,E⟩:=hrel
  by_cases hlt:k<X.x.se.l.length
  case pos=>
   have hw:IntKind.i64.wrap ((k:Int)+1)=((k+1:Nat):Int):=by rw[aaP _ (by omega)];rfl
   obtain⟨bb,off,x,hA,-,hx,hcc,-⟩:=(HL _ E.tl).2.get (k:=k) hlt;replace hcc:=L_ hcc;have HX:=L_ (Zk hx);clear hx;refine G0 [5,0,4,16,15,18,5,0] ?_;refine fA x hcc ?_;clear hcc hA;refine G E [70,3,60,4,5,9] ?_;clear E;intro g5 w4 E;refine aB 0 15 E ?_;refine ah (PD x _ N ((HL _ ((E.drop 1).tl)).2.2.2.2.2 x HX).2.2.1 hN hN2 (HZ x HX)) ?_;rintro _ w5 ⟨r,rfl,hr,F⟩;replace E:=E.call F;clear F;refine G0 [26,0,0,4,19] ?_;have hrn:=E.on (s:=r) (N:=N) 0
   go_loopw [24] (fun y wr=>∃(j:Nat),y=(j:Int)∧j≤r.l.length∧Env b w0 ((g5,60,x)::dJ p X::bx) (own r N::sj g3::is) wr) (fun y _=>r.l.length - (intOf y).toNat)
   case atStart=>exact⟨0,rfl,Zq _,E⟩
   case round=>
    clear E;obtain⟨j,rfl,hj,E⟩:=hrel
    by_cases hlt2:j<r.l.length
    case pos=>
     have hw2:IntKind.i64.wrap ((j:Int)+1)=((j+1:Nat):Int):=by rw[aaP _ (by omega)];rfl
     obtain⟨bb,off,y,hA,-,hy,hcc,-⟩:=(E.ol (s:=r) (N:=N) 0).get (k:=j) hlt2;replace hcc:=L_ hcc;have HY:=L_ (Zk hy);clear hy;refine G0 [5,0,4,16,15,18,5,0] ?_;refine fA y hcc ?_;clear hcc hA;refine G E [70,3,60,4,5,0,0,40,0,0,4,19,9] ?_;clear E;intro g7 w7 E;have hgn:y.m.g.l.length≤N:=((E.ol (s:=r) (N:=N) 0).2.2.2.2 y HY).2.2.2.1
     go_loopw [32] (fun z wr=>∃(i:Nat),z=(i:Int)∧i≤y.m.g.l.length∧Env b w0 ((g7,202,y)::(g5,60,x)::dJ p X::bx) (own r N::sj g3::is) wr) (fun z _=>y.m.g.l.length - (intOf z).toNat)
     case atStart=>exact⟨0,rfl,Zq _,E⟩
     case round=>
      clear E;obtain⟨i,rfl,hi,E⟩:=hrel
      by_cases hlt3:i<y.m.g.l.length
      case pos=>
       have hw3:IntKind.i64.wrap ((i:Int)+1)=((i+1:Nat):Int):=by rw[aaP _ (by omega)];rfl
       obtain⟨bb,off,g,hA,-,hg,hcc,-⟩:=((E.ol (s:=r) (N:=N) 0).2.2.2.2 y HY:Sl.aA _ _ _ y.m.g).get (k:=i) hlt3;have d1:wr.cell? ⟨bb,off+i,none⟩=some (.int .i64 g):=by simpa[aj.sz] using hcc 0 _ rfl
       have HI:Hid (i64 g):=L_ ((hr y HY).1.2.2.1 g (Zk hg));clear hg hcc;refine G0 [5,0,4,16,15,18,5,0] ?_;refine bQ d1 ?_;clear d1 hA
       by_cases hga:g<(X.x.all.l.length:Int)
       case pos=>
        refine G E [0,4,5,83,42,83] ?_;replace E:=E.bD 2;refine ah (EC p N X g _ E (by omega) (fun w' E'=>(HL _ (E'.only 2).tl.tl).1) HI) ?_;clear E;rintro _ w8 ⟨rfl,E⟩;refine G0 [26] ?_;obtain⟨q,hq⟩:∃q,mD X.x g=q:=⟨_,rfl⟩;rw[hq];clear hq;cases q
        case true=>
         refine G0 [0,0,4,8,21,23,0,0,25] ?_
         go_roundw
         case rel=>exact⟨i+1,rfl,hlt3,E.Nc ((ZW _ _ _).trans (List.Perm.cons _ (ZW _ _ _)))⟩
         case measure=>simp[intOf];omega
        case false=>
         refine G E [0,0,4,7,23,84,41,0,0] ?_;refine WZ (i:=y.m.i) (j:=g) 1 E ?_;clear E;intro w9 E;refine G0 [20,23,0,0,25] ?_
         go_roundw
         case rel=>exact⟨i+1,rfl,hlt3,E.Nc ((ZW _ _ _).trans (List.Perm.cons _ (ZW _ _ _)))⟩
         case measure=>simp[intOf];omega
       case neg=>
        refine G E [0,4,5,83,42,84,1,2,2,2,2,4,8,21,23,0,0,25] ?_
        go_roundw
        case rel=>exact⟨i+1,rfl,hlt3,E⟩
        case measure=>simp[intOf];omega
      case neg=>
       refine G0 [5,0,4,17,27,28,23,0,0,25] ?_
       go_roundw
       case rel=>exact⟨j+1,rfl,hlt2,E.drop 1⟩
       case measure=>simp[intOf];omega
    case neg=>
     refine G0 [5,0,4,17,27,28,23,0,0,25] ?_
     go_roundw
     case rel=>exact⟨k+1,rfl,hlt,(E.drop 1).tl⟩
     case measure=>simp[intOf];omega
  case neg=>
   refine G0 [5,0,4,17,27,28,5,0,0,4,22] ?_;exact ak ⟨g3,rfl,E⟩
end
section
attribute [local irreducible] wpList av
theorem Jb {is:List It}(P:ByteArray→Prop)(p N M K c:Nat)(X:eU)(bl nd:Int)(w:World)(E:Env b w0 (iG p X::bx) (bM X N M K++is) w)(hI:bC P c X)(hz:MK P)(hc:c≤100)(hKM:K+1≤M)(hM:M≤900000)(hN:N≤10000)(hN2:1000≤N) :
  Calls prog 298 #[p,bl,nd] w fun e w'=>∃X':eU,e=()∧Hid (bC P (c+1) X'∧uT X X')∧Env b w0 (iG p X'::bx) (bM X' N (M+N) (K+1)++is) w':=by
 have HI:=L_ hI;have HZ:=L_ hz;have hll:=hI.ll;clear hI hz
 go_enter func298,ntmps298
 refine G0 [5,84,0] ?_;refine aB 0 7 E ?_;refine G0 [0,0] ?_;refine ah (Mf P X.x.t bl nd _ N (Dj E) (by omega) (by omega) HI.t.wf_ HI.t.ok) ?_;rintro _ w2 ⟨t2,x,rfl,hR,F⟩;replace E:=E.call F;clear F;refine G E [26,84,70,3,60,9] ?_;clear E;intro g6 w4 E;replace E:=E.fZ;refine G0 [0,4,6,5,0] ?_
 by_cases h0:x=0
 case neg=>
  refine G0 [0,4,7,22,24] ?_;exact aaT (results_none rfl _ _ _) rfl ⟨X,rfl,L_ ⟨HI.more (by omega),rfl,rfl,rfl⟩,(E.fZ.drop 1).tl.tl.tl.bn (by omega) (by omega)⟩
 subst h0;replace hR:=L_ (hR rfl);refine G0 [0,4,8,15,5,0] ?_;refine aB 1 7 E ?_;refine G E [84,60,4,5,9] ?_;clear E;intro w5 E;replace E:Env b w0 (iG p (bU X t2)::(g6,58,t2)::bx) (bM (bU X t2) N M K++is) _:=E.Nu;have HJ:Hid (bC P c (bU X t2)):=L_ (HI.Vs (hR.so HI.t HZ));refine G E [0,41] ?_
 by_cases h3:t2.ph=3
 case neg=>
  refine G0 [0,4,8,31] ?_
  go_end0
  exact⟨bU X t2,rfl,L_ ⟨HJ.more (by omega),rfl,rfl,rfl⟩,(E.fZ.drop 1).bn (by omega) (by omega)⟩
 refine G0 [0,4,7,5] ?_;clear h3;refine fV ?_;refine ah (jh p b N M (bU X t2) _ (E.jK 0 (by omega)) (by omega)) ?_;rintro _ w6 ⟨rfl,rfl⟩;refine G E [26,0,4,5,0,0,41] ?_;refine ah (Jy p N M K (bU X t2) t2.va _ E hKM (by omega) (by omega) (by show X.x.log.l.length<N;omega)) ?_;clear E;rintro _ w7 ⟨lo,vs,wi,rc,rfl,hl,E⟩;refine G0 [26] ?_;have HL:Hid (bC P (c+1) (rD (bU X t2) lo vs wi rc)):=L_ (HJ.learn hl hR.ok.va (by omega) HZ);refine aC (fO 0 11 E ?_);clear E;intro w8 E;refine ay 0 E ?_;refine ay 1 E ?_;refine ay 2 E ?_;refine ay 3 E ?_;refine ay 4 E ?_;refine ay 5 E ?_;refine aX 6 0 E ?_;refine ay 7 E ?_;refine ay 8 E ?_;refine aX 9 1 E ?_;refine ay 10 E ?_;refine kg ?_;refine ah (lD p N M (K+1) (rD (bU X t2) lo vs wi rc) (rD (bU X t2) lo vs wi rc).x.g.r ⟨0,0,6,0,((bU X t2).x.log.l.length:Int)+1,0,0,t2.va,0,0⟩ _ E (by have:=HI.rl.1;show M+X.x.g.r.l.length≤_;omega) (fun s2 M2 w' E'=>E'.ol 9)) ?_;clear E;rintro _ w9 ⟨s2,rfl,hs,E⟩;refine G0 [26] ?_;refine wpList_nil ?_
 go_end0
 exact⟨⟨(rD (bU X t2) lo vs wi rc).x,rc,s2⟩,rfl,L_ ⟨HL.send hs (fun n hn=>hn) (Or.inr hR.ok.va) (pW ⟨by decide,by decide⟩ (jG ((X.x.log.l.length:Int)+1) (by omega) (by omega)) dO dO (HZ _ hR.ok.va).1),rfl,rfl,rfl⟩,(E.fZ.drop 1).bn (by have:=HI.rl.1;show M+X.x.g.r.l.length≤_;omega) (Zh _)⟩
end
variable{N g1 g2:Nat}{w:World}
section
attribute [local irreducible] wpList av
theorem Ae:∀args w,(callFunc 320 args).run prog w=.ok (.enter 320 args) w:=enters_of func320 (by kernel_rfl) rfl
theorem Qy {is:List It}(E:Env b w0 bx is w)(j k q:Nat){t:Try}{p:rF}(h1:bx[j]?=some (g1,58,[.int .u8 t.ph,.int .i64 t.b,.slice t.mem.A t.mem.l.length t.mem.c,.string t.wi,.string t.va,.slice t.pr.A t.pr.l.length t.pr.c,.slice t.ac.A t.ac.l.length t.ac.c]))(h2:bx[k]?=some (g2,399,[.int .i64 p.n,.int .i64 p.b,.string p.v]))(hq:is[q]?=some (own t.pr N))(i:Nat)(hi:i<t.pr.l.length) :
  Calls prog 320 #[(i:Int),g1,g2] w fun e w'=>∃b,e=.returned (.bool b)∧Below w w w':=by
 have hB:=(E.aD.size);obtain⟨bb,off,x,hA,hbl,hx,hcc,-⟩:=(E.ol q hq).get hi;have d0:∀w',Env w w [] [] w'→w'.cell? ⟨bb,off+i*3,none⟩=some (.int .i64 x.n):=fun w' F=>(F.aD.cell hbl).trans (hcc 0 _ rfl);have d1:∀w',Env w w [] [] w'→w'.cell? ⟨g1,5,none⟩=some (.slice t.pr.A t.pr.l.length t.pr.c):=fun w' F=>(F.aD.cell (E.blk j h1).lt).trans (E.c j 5 h1 rfl);have d2:∀w',Env w w [] [] w'→w'.cell? ⟨g2,0,none⟩=some (.int .i64 p.n):=fun w' F=>(F.aD.cell (E.blk k h2).lt).trans (E.c k 0 h2 rfl);clear E hcc hx;have E:=Env.start w
 go_enter func320,ntmps320
 refine G0 [5,0] ?_;refine aC (dw 8 E ?_);clear E;intro w2 E;refine ay 0 E ?_;refine Ie 1 E d1 ?_;refine ay 2 E ?_;refine ay 3 E ?_;refine ay 4 E ?_;refine Ie 5 E d0 ?_;refine ay 6 E ?_;refine Ie 7 E d2 ?_;refine G0 [30,0,0,4,22] ?_;exact ak ⟨_,rfl,E.aD⟩
theorem Bn (P:ByteArray→Prop)(t:Try)(b:Int)(p:rF)(w:World)(N:Nat)(ht:au.aA w w N t)(hN:N≤1000000)(hN2:10≤N)(hwf:Ef t)(hok:t.ph≠0→yZ P t)(hp:P p.v)(hpb:i64 p.b)(hpn:i64 p.n)(hpv:p.v.size≤1000000) :
  Calls prog 297 #[t,b,p] w fun e w'=>∃(t':Try) (x:Int),e=.returned (.tuple #[t',x])∧Hid (x=0→Px P t t')∧Env w w [] (uD t' N) w':=by
 have HT:=L_ ht;have HO:=L_ hok;have HP:=L_ hp;have HPB:=L_ hpb;have HPN:=L_ hpn;clear ht hok hp hpb hpn;have E:=Env.start w
 go_enter func297,ntmps297
 refine G E [5,71,3,71,3,70,3,0,4,6,5,9] ?_;clear E;intro g3 g5 g6 w4 E;refine aB 2 7 E ?_;refine ah (rQ t _ N (E.h HT) hN hwf) ?_;rintro _ w5 ⟨⟨v,rfl,hv⟩,hw⟩;replace E:=E.up hw;replace hv:=L_ hv;refine G0 [26] ?_
 by_cases h0:v=0
 case neg=>
  refine G E [0,4,5,0,0,4,7,5,0,0,60,0,4,22,24,9] ?_;clear E;intro w6 E;exact aI 0 E ⟨iZ,v,rfl,L_ (fun h=>absurd h h0),(E.drop 3).iZ N⟩
 subst h0;refine G E [0,4,5,0,0,4,8,15,6,5,0,42] ?_
 by_cases h1:(t.ph !=1)=true
 case pos=>
  refine G E [0,0,1,81,2,2,4,7,5,0,60,0,4,22,24,9] ?_;clear E;intro w7 E;exact aI 0 E ⟨iZ,6,rfl,L_ (fun h=>absurd h (by decide)),(E.drop 3).iZ N⟩
 replace h1:(t.ph !=1)=false:=by simpa using h1
 refine G0 [84] ?_;have H1:Hid (t.ph=1):=L_ (by simpa using h1);clear h1;refine G E [0,42] ?_
 by_cases h2:(b !=t.b)=true
 case pos=>
  refine G E [84,1,80,2,4,7,5,0,60,0,4,22,24,9] ?_;clear E;intro w8 E;exact aI 0 E ⟨iZ,6,rfl,L_ (fun h=>absurd h (by decide)),(E.drop 3).iZ N⟩
 replace h2:(b !=t.b)=false:=by simpa using h2
 refine G E [84,0,42,0,41] ?_;refine ah (tY t.mem p.n _ N (E.h HT).1 hN) ?_;rintro _ w9 ⟨rfl,rfl⟩;refine G0 [26] ?_
 by_cases hm:p.n∈t.mem.l
 case neg=>
  refine G E [0,0,4,7,5,0,60,0,4,22,24,9] ?_;clear E;intro w10 E;exact aI 0 E ⟨iZ,6,rfl,L_ (fun h=>absurd h (by decide)),(E.drop 3).iZ N⟩
 case pos=>
  have hs:=L_ (hv rfl (by have:=H1.out;omega));clear hv;refine G0 [0,0,4,8,15,6,5] ?_;clear hm;refine aB 1 3 E ?_;refine fV ?_;refine ah (FI p b _ HPB hpv) ?_;rintro _ w11 ⟨⟨q,rfl⟩,hw⟩;replace E:=E.up hw;clear hw;refine G0 [26] ?_;cases q
  case false=>
   refine G E [0,4,7,5,0,60,0,4,22,24,9] ?_;clear E;intro w12 E;exact aI 0 E ⟨iZ,8,rfl,L_ (fun h=>absurd h (by decide)),(E.drop 3).iZ N⟩
  refine G0 [0,4,8,15,5] ?_;refine aB 2 7 E ?_;refine ah (IQ t _ N (E.h HT.out) hN) ?_;rintro _ w13 ⟨t2,rfl,h2,F⟩;replace E:=E.call F;clear F;refine G E [26,62,4,5,0,42,0,0,9] ?_;clear E;intro w14 E;refine ah (yT t2.pr.l.length _ Ae #[g3,g5] _ (by have:=E.on (N:=N) (s:=t2.pr) 1;omega) (fun i hi w' hb=>Qy (E.up hb) 2 1 1 rfl rfl rfl i hi)) ?_;rintro _ w15 ⟨k,rfl,hk,hw⟩;replace E:=E.up hw;clear hw;refine G0 [26] ?_;have hkN:k≤N:=Zt hk (E.on (s:=t2.pr) 1);have hpr:Hid (t2.pr.l.length≤6):=L_ (by have h:=Jr hs.1.2.1 hs.1.1;rw[Z5] at h;rw[h2.out.2.2.2.2.2.1];exact h);have HR:Hid (∀pr:Sl rF,(∀y∈pr.l,y∈t2.pr.l∨y=p)→∀(ph:Int) (va:ByteArray),1≤ph∧ph≤3→P va→Px P t ⟨ph,t2.b,t2.mem,t2.wi,va,pr,t2.ac⟩):=L_ (fun pr hy ph va hph hva=>⟨⟨h2.2.2.2.1▸(HO (by have:=H1.out;omega)).wi,hva,fun y hyp=>(hy y hyp).elim (fun h=>(HO (by have:=H1.out;omega)).pr y (h2.2.2.2.2.2.1▸h)) (fun h=>h▸⟨HP,HPB,HPN⟩),h2.2.1▸(HO (by have:=H1.out;omega)).b⟩,h2.2.2.1,hph,h2.2.1,by have:=H1.out;omega⟩)
  by_cases hlt:k<t2.pr.l.length
  case' pos=>
   obtain⟨bb,off,x,hA,hbl,hx,hcc,-⟩:=(E.ol (N:=N) (s:=t2.pr) 1).get (k:=k) hlt;have hx2:=L_ hx;clear hbl hx hcc;refine fV ?_;refine aC (wp_seq (I5 0 14 (own t2.ac N::own t2.pr N::own t2.mem N::[]) E ?_));clear E;intro w16 E;refine ay 0 E ?_;refine ay 1 E ?_;refine aX 2 2 E ?_;refine ay 3 E ?_;refine ay 4 E ?_;refine ay 5 E ?_;refine ay 6 E ?_;refine aX 7 2 E ?_;refine ay 8 E ?_;refine ay 9 E ?_;refine ay 10 E ?_;refine Ie 11 E (v:=x.n) (fun w' E'=>(E'.ol (N:=N) (s:=t2.pr) 1).gI (i:=0) hA hx2 rfl) ?_
   by_cases he:x.n=p.n
   case pos=>
    refine ay 12 E ?_;refine aX 13 1 E ?_;refine G0 [30,0,0,4,7,5] ?_;clear hA;refine aB 2 7 E ?_;refine G E [60,0,4,22,24,9] ?_;clear E;intro w17 E;exact aI 0 E ⟨⟨t2.ph,t2.b,t2.mem,t2.wi,t2.va,t2.pr,t2.ac⟩,0,rfl,L_ (fun _=>HR t2.pr (fun y h=>Or.inl h) t2.ph t2.va (by rw[h2.out.1,H1.out];decide) (h2.2.2.2.2.1▸(HO (by have:=H1.out;omega)).va)),E.drop 3⟩
   case' neg=>
    refine ay 12 E ?_;refine aX 13 1 E ?_;refine G0 [30,0,0,4,8,15,5] ?_;clear he hA hlt
  case' neg=>
   refine fV ?_;refine aC (wp_seq (dw 14 E ?_));clear E;intro w18 E;refine ay 0 E ?_;refine ay 1 E ?_;refine aX 2 2 E ?_;refine ay 3 E ?_;refine ay 4 E ?_;refine ay 5 E ?_;refine jF 6 E ?_;refine G0 [30,1,0,4,8,15,5] ?_;clear hlt
  all_goals
   refine G E [0,42,0] ?_;refine aB 1 3 E ?_;refine G E [72,3,9] ?_;clear E;intro g67 w19 E;refine ah (zD t2.pr _ _ (show Sl.Own _ _ _ t2.pr from E.get 1).1 (by have:=E.on (N:=N) (s:=t2.pr) 1;omega) k hk p _ (E.blk 0 rfl) (fun a ha e=>E.Vj 0 1 rfl rfl (e▸gL (N:=N) ha)) E.sz) ?_;rintro _ w20 ⟨pr,rfl,hp2,hr,hg⟩;replace E:=(E.mG 1 (N':=N) rfl hg hr (by rw[hp2];have:=hpr.out;simp;omega)).drop 1;have hpm:Hid (∀y∈pr.l,y∈t2.pr.l∨y=p):=L_ (by intro y hy;rw[hp2] at hy;simp only[Zm,Zp] at hy;exact hy.elim (fun h=>h.elim (fun h=>Or.inl (aaE h)) Or.inr) (fun h=>Or.inl (List.mem_of_mem_drop h)));clear hr hg hp2;refine G E [26,0,62,9] ?_;clear E;intro w21 E;refine aC (wp_seq (dw 5 E ?_));clear E;intro w22 E;refine ay 0 E ?_;refine aX 1 2 E ?_;refine ay 2 E ?_;refine aX 3 2 E ?_;refine cu 4 (su pr _ N (E.ol 1) hN) ?_;rintro _ w23 ⟨r,rfl,hr,hR,hw⟩;replace E:=E.sH (N:=N) (x:=r) hw ⟨hR,by rw[hr,Z5];exact E.on (s:=pr) 1,fun _ _=>trivial⟩;clear hr hR hw;refine⟨_,rfl,E.weak,dL ?_⟩;refine kg ?_;refine ah (qD t2.mem r _ N (E.ol 3) (E.ol 0) hN) ?_;rintro _ w24 ⟨⟨q,rfl⟩,rfl⟩;refine G0 [26] ?_;replace E:=E.sub (Zi _) (Zj _ (Zi _));cases q
   case false=>
    refine G0 [4,8,15,5] ?_;refine aB 2 7 E ?_;refine G E [60,0,4,22,9] ?_;clear E;intro w25 E;exact aI 0 E ⟨⟨t2.ph,t2.b,t2.mem,t2.wi,t2.va,pr,t2.ac⟩,0,rfl,L_ (fun _=>HR pr hpm t2.ph t2.va (by rw[h2.out.1,H1.out];decide) (h2.2.2.2.2.1▸(HO (by have:=H1.out;omega)).va)),E.drop 3⟩
   case true=>
    refine G E [4,7,23,0,42,0,42] ?_;refine ah (Br pr t2.wi _ N P (E.ol 1) hN (h2.2.2.2.1▸(HO (by have:=H1.out;omega)).wi) (fun y hy=>(hpm y hy).elim (fun h=>((HO (by have:=H1.out;omega)).pr y (h2.2.2.2.2.2.1▸h)).1) (fun h=>h▸HP.out))) ?_;rintro _ w26 ⟨⟨v9,rfl,hv9⟩,hw⟩;replace E:=E.up hw;replace hv9:=L_ hv9;clear hw;refine G E [26,0,62,0,62,4,5,9] ?_;clear E;intro w28 E;refine aB 2 7 E ?_;refine G E [60,0,4,22,9] ?_;clear E;intro w29 E;exact aI 0 E ⟨⟨2,t2.b,t2.mem,t2.wi,v9,pr,t2.ac⟩,0,rfl,L_ (fun _=>HR pr hpm 2 v9 (by decide) hv9),E.drop 3⟩
end
variable{bf:Bool}{vv:ByteArray}{P:ByteArray→Prop}{vb vp:Int}{k:Nat}
section
attribute [local irreducible] wpList av
theorem atOk {c:Nat}{X:eU}(I:bC P c X)(h0:P ⟨#[]⟩)(h1:bf=true→∃x,X.x.vs.l[k]?=some x∧vp=x.p∧vb=x.b∧vv=x.v)(h2:bf=false→vp=0∧vb=0∧vv=⟨#[]⟩):P vv∧i64 vp∧i64 vb:=by
 cases bf
 ·obtain⟨rfl,rfl,rfl⟩:=h2 rfl;exact⟨h0,dO,dO⟩
 ·obtain⟨y,hy,rfl,rfl,rfl⟩:=h1 rfl;exact I.vs y (Zk hy)
theorem xW {is:List It}(P:ByteArray→Prop)(p N M K c:Nat)(X:eU)(bl:Int)(r:rF)(w:World)(E:Env b w0 (iG p X::bx) (bM X N M K++is) w)(hI:bC P c X)(hz:MK P)(hc:c≤99)(hKM:K+2≤M)(hM:M≤800000)(hN:N≤10000)(hN2:1000≤N)(hbl:i64 bl)(hp:P r.v)(hpb:i64 r.b)(hpn:i64 r.n) :
  Calls prog 257 #[p,bl,r] w fun e w'=>∃X':eU,e=()∧Hid (bC P (c+2) X'∧uT X X')∧Env b w0 (iG p X'::bx) (bM X' N (M+N+N) (K+2)++is) w':=by
 have HI:=L_ hI;have HZ:=L_ hz;have hll:=hI.ll;have hvl:=hI.vl;have HB:=L_ hbl;have HP:=L_ hp;have HPB:=L_ hpb;have HPN:=L_ hpn;clear hI hz hbl hp hpb hpn
 go_enter func257,ntmps257
 refine G E [5,71,3,9] ?_;clear E;intro g5 w2 E;refine aC (dw 13 E ?_);clear E;intro w3 E;refine ay 0 E ?_;refine ay 1 E ?_;refine ay 2 E ?_;refine ay 3 E ?_;refine oG 4 1 7 E ?_;refine ay 5 E ?_;refine oG 6 0 3 E ?_;refine IJ 7 11 (cK (Bn P X.x.t bl r _ N (Dj E) (by omega) (by omega) HI.t.wf_ HI.t.ok HP HPB HPN (HZ _ HP).1) ?_) (jm E ?_)
 case' refine_1=>
  rintro _ w4 ⟨t2,x,rfl,hR,F⟩;replace E:=E.call F;clear F;refine⟨_,rfl,E.weak,dL ?_⟩;refine ay 8 E ?_;refine ay 9 E ?_;refine ay 10 E ?_;refine T_1 11 (jm E ?_);clear E;intro g6 w5 E;refine⟨(E.drop 1).weak,dL ?_⟩
 case' refine_2=>
  clear E;intro g6 w4 E;refine⟨(E.drop 1).weak,dL ?_⟩;refine T_1 7 (cK (Bn P X.x.t bl r _ N (Dj E) (by omega) (by omega) HI.t.wf_ HI.t.ok HP HPB HPN (HZ _ HP).1) ?_);rintro _ w5 ⟨t2,x,rfl,hR,F⟩;replace E:=E.call F;clear F;refine⟨_,rfl,(E.drop 1).weak,dL ?_⟩;refine ay 8 E ?_;refine ay 9 E ?_;refine ay 10 E ?_
 all_goals
  refine uS 12 0 E ?_;clear E;intro w6 E;refine G0 [30,0,4,6,5] ?_;replace E:=(E.bD 2);refine fV ?_
  by_cases h0:x=0
  case neg=>
   refine G0 [0,4,7,22,24] ?_;exact aaT (results_none rfl _ _ _) rfl ⟨X,rfl,L_ ⟨HI.more (by omega),rfl,rfl,rfl⟩,(E.only 2).tl.tl.tl.bn (by omega) (by omega)⟩
  subst h0;replace hR:=L_ (hR rfl);refine G0 [0,4,8,15,6,5,0] ?_;refine aB 1 7 E ?_;refine G E [84,60,4,5,9] ?_;clear E;intro w7 E;replace E:Env b w0 (iG p (bU X t2)::(g6,58,t2)::(g5,399,r)::bx) (bM (bU X t2) N M K++is) _:=E.Nu;have HJ:Hid (bC P c (bU X t2)):=L_ (HI.Vs (hR.so HI.t HZ));refine G E [0,41] ?_
  by_cases h3:(t2.ph !=2)=true
  case pos=>
   refine G0 [0,4,7,22,24] ?_;exact aaT (results_none rfl _ _ _) rfl ⟨bU X t2,rfl,L_ ⟨HJ.more (by omega),rfl,rfl,rfl⟩,(E.only 2).bn (by omega) (by omega)⟩
  replace h3:(t2.ph !=2)=false:=by simpa using h3
  refine G0 [0,4,8,15,5,0] ?_;refine ah (jh p b N M (bU X t2) _ (E.jK 0 (by omega)) (by omega)) ?_;rintro _ w8 ⟨rfl,rfl⟩;refine G E [26,0,4,5,0,0,41,84,41,0] ?_;refine ah (lD p N M K (bU X t2) t2.mem ⟨0,0,3,0,((bU X t2).x.log.l.length:Int)+1,bl,0,t2.va,0,0⟩ _ E (by have:=E.on (s:=t2.mem) 4;omega) (fun s2 M2 w' E'=>E'.ol 4)) ?_;clear E;rintro _ w9 ⟨s2,rfl,hs,E⟩;refine G0 [26] ?_;replace E:=E.bn (M':=M+N) (K':=K) (by have:=E.on (s:=t2.mem) 4;omega) (Zh _);have HK:Hid (bC P c ⟨(bU X t2).x,(bU X t2).rc,s2⟩):=L_ (HJ.send hs HJ.t.mem (Or.inr hR.ok.va) (pW ⟨by decide,by decide⟩ (jG ((X.x.log.l.length:Int)+1) (by omega) (by omega)) HB dO (HZ _ hR.ok.va).1));refine aC (wp_seq (dw 7 E ?_));clear E;intro w10 E;refine ay 0 E ?_;refine aX 1 1 E ?_;refine ay 2 E ?_;refine ay 3 E ?_;refine ay 4 E ?_;refine ay 5 E ?_;refine aX 6 0 E ?_;refine kg ?_;refine ah (tY t2.mem (bU X t2).x.me _ N (E.ol 4) (by omega)) ?_;rintro _ w11 ⟨rfl,rfl⟩;refine G0 [26] ?_
  by_cases hm:(bU X t2).x.me∈t2.mem.l
  case neg=>
   refine G0 [0,4,7,22,24] ?_;exact aaT (results_none rfl _ _ _) rfl ⟨_,rfl,L_ ⟨HK.more (by omega),rfl,rfl,rfl⟩,(E.only 2).bn (by omega) (by omega)⟩
  case pos=>
   refine G0 [0,4,8,15,5] ?_;clear hm;refine G0 [0,0] ?_;refine ah (qh p b N (M+N) ⟨(bU X t2).x,(bU X t2).rc,s2⟩ _ _ (E.jK 0 (by omega)) (by omega)) ?_;rintro _ w12 ⟨⟨vp,vb,vv,k,bf,rfl,-,hv1,hv2⟩,hw⟩;replace E:=E.up hw;clear hw;have HV:=L_ (atOk HK (HZ _ hR.ok.va).2 hv1 hv2);clear hv1 hv2;refine G E [26,84,0,70,3,60,0,0,4,5,9] ?_;clear E;intro g9 w14 E;replace E:=E.fZ;refine aB 1 3 E ?_;refine G E [0,0,42] ?_;refine ah (JO vp vb vv bl t2.va _ (HZ _ HV.1).1 (HZ _ hR.ok.va).1 HV.2.1 HV.2.2 HB) ?_;rintro _ w15 ⟨vp2,vb2,vv2,y,rfl,hv,hw⟩;replace E:=E.up hw;replace hv:=L_ hv;clear hw;refine G0 [26] ?_;have HW:Hid (P vv2∧i64 vp2∧i64 vb2):=L_ (hv.elim (fun h=>by rw[h.1,h.2.1,h.2.2];exact⟨hR.ok.va,HB,HB⟩) (fun h=>by rw[h.1,h.2.1,h.2.2];exact⟨(HZ _ hR.ok.va).2,dO,dO⟩));refine G E [84,70,3,60,0,4,5,9] ?_;clear E;intro g12 w17 E;replace E:=E.fZ;refine fV ?_
   by_cases h4:y=0
   case neg=>
    refine G0 [0,4,8,31] ?_
    go_end0
    exact⟨_,rfl,L_ ⟨HK.more (by omega),rfl,rfl,rfl⟩,(E.only 4).bn (by omega) (by omega)⟩
   subst h4;refine G E [0,4,7,5,84,0,43,0] ?_;refine aB 1 3 E ?_;refine ah (JV p N (M+N) K ⟨(bU X t2).x,(bU X t2).rc,s2⟩ ⟨2,0,((bU X t2).x.log.l.length:Int)+1,bl,t2.va⟩ ⟨vp2,vb2,vv2⟩ _ E (by omega) (by omega) (by omega) (by show X.x.vs.l.length<N;omega)) ?_;clear E;rintro _ w18 ⟨v2,r2,rfl,hp,E⟩;refine G0 [26] ?_;have HL:=L_ (HK.put hp HW hR.ok.va ⟨⟨(by decide:(0:Int)≤2),(by decide:(2:Int)≤255)⟩,dO,jG ((X.x.log.l.length:Int)+1) (by omega) (by omega),HB,(HZ _ hR.ok.va).1⟩);refine G E [4,23,83,0,40] ?_;refine ah (Jb P p N (M+N) (K+1) (c+1) (wH ⟨(bU X t2).x,(bU X t2).rc,s2⟩ v2 r2) bl _ _ E HL HZ (by omega) (by omega) (by omega) (by omega) hN2) ?_;clear E;rintro _ w19 ⟨X',rfl,hX,E⟩;refine G0 [26] ?_;refine wpList_nil ?_
   go_end0
   exact⟨X',rfl,L_ ⟨hX.1,hX.2.1,hX.2.2.1,hX.2.2.2⟩,E.only 4⟩
end
variable{M:Nat}
section
attribute [local irreducible] wpList av
theorem Env.mid {i:It}{l is:List It}(E:Env b w0 bx (i::(l++is)) w):Env b w0 bx (l++i::is) w:=E.perm List.perm_middle.symm
theorem Env.EJ {K:Nat}{X:eU}{i:It}{is:List It}(E:Env b w0 bx (bM X N M K++i::is) w):Env b w0 bx (bM X N M K++is) w:=E.sub (Zi _) ((Zi _).append (Zj _ (Zi _)))
theorem Vt {is:List It}(P:ByteArray→Prop)(p N M K c:Nat)(X:eU)(w:World)(E:Env b w0 (iG p X::bx) (bM X N M K++is) w)(hI:bC P c X)(hz:MK P)(hc:c≤90)(hKM:K+4≤M)(hM:M≤700000)(hN:N≤10000)(hN2:1000≤N) :
  Calls prog 172 #[p] w fun e w'=>∃X':eU,e=()∧Hid (bC P (c+3) X'∧uT X X')∧Env b w0 (iG p X'::bx) (bM X' N (M+5*N) (K+3)++is) w':=by
 have HI:=L_ hI;have HZ:=L_ hz;have hll:=hI.ll;have hvl:=hI.vl;clear hI hz
 go_enter func172,ntmps172
 refine G0 [5,0] ?_;refine ah (jh p b N M X _ (E.jK 0 (by omega)) (by omega)) ?_;rintro _ w2 ⟨rfl,rfl⟩;refine G0 [26,0] ?_;refine ah (uf p b N M X _ (E.jK 0 (by omega)) (by omega) (by omega) (fun v hv=>Zt (HZ v (HI.log v hv)).1 (by decide))) ?_;rintro _ w3 ⟨s,rfl,ho,hsr,hs6,hb⟩;replace E:=Env.mid (l:=bM X N M K) (E.sH (x:=s) (N:=N) hb ho);replace hsr:=L_ hsr;clear ho hb;refine G E [26,0,0,4,5,83,0,40,0,0] ?_;refine ah (lD p N M K X X.x.g.r ⟨0,0,7,0,(X.x.log.l.length:Int)+1,0,0,⟨#[]⟩,0,0⟩ _ E (by have:=HI.rl.1;omega) (fun s2 M2 w' E'=>E'.ol 9)) ?_;clear E;rintro _ w4 ⟨s2,rfl,hs,E⟩;refine G0 [26] ?_;replace E:=E.bn (M':=M+N) (K':=K) (by have:=HI.rl.1;omega) (Zh _);have HJ:Hid (bC P c ⟨X.x,X.rc,s2⟩):=L_ (HI.send hs (fun n hn=>hn) (Or.inl rfl) (pW ⟨(by decide:(0:Int)≤7),(by decide:(7:Int)≤255)⟩ (jG ((X.x.log.l.length:Int)+1) (by omega) (by omega)) dO dO (by decide)));refine G0 [4,6,5] ?_
 by_cases h1:((X.x.wi.l.length:Int)==0)=true
 case pos=>
  refine G E [84,0,40,84,1,1,0,4,7,22,24] ?_;exact aaT (results_none rfl _ _ _) rfl ⟨_,rfl,L_ ⟨HJ.more (by omega),rfl,rfl,rfl⟩,E.EJ.bn (by omega) (by omega)⟩
 replace h1:((X.x.wi.l.length:Int)==0)=false:=by simpa using h1
 refine G E [84,0,40,84,0] ?_;have hpos:0<X.x.wi.l.length:=by have:=(by simpa using h1:¬(X.x.wi.l.length:Int)=0);omega
 clear h1
 by_cases h2:(decide (200<(X.x.log.l.length:Int)+1))=true
 case pos=>
  refine G0 [0,0,4,7,22,24] ?_;exact aaT (results_none rfl _ _ _) rfl ⟨_,rfl,L_ ⟨HJ.more (by omega),rfl,rfl,rfl⟩,E.EJ.bn (by omega) (by omega)⟩
 replace h2:(decide (200<(X.x.log.l.length:Int)+1))=false:=by simpa using h2
 refine G0 [0,0,4,8,15,6,5] ?_;clear h2;refine G E [83,40] ?_;refine ah (tY s X.x.me _ N (E.ol 10) (by omega)) ?_;rintro _ w5 ⟨rfl,rfl⟩;refine G0 [26] ?_;obtain⟨bb,off,v,hA,-,hx,hcc,-⟩:=(E.ol (N:=N) (s:=X.x.wi) 5).get (k:=0) hpos;have HPV:Hid (P v):=L_ (HI.wi v (Zk hx));have HX:=L_ hx;clear hcc hx
 by_cases hm:X.x.me∈s.l
 case neg=>
  refine G E [0,4,7,5,83,0,40] ?_;clear hm;have d1:=(E.ol (N:=N) (s:=X.x.wi) 5).gI (i:=0) hA HX rfl;simp only[aj.sz,Nat.zero_mul,Nat.add_zero] at d1;refine fV ?_;refine bQ d1 ?_;clear d1 hA;refine fV ?_;refine ah (lD p N (M+N) K ⟨X.x,X.rc,s2⟩ s ⟨0,0,9,0,0,0,0,v,0,0⟩ _ E (by omega) (fun s3 M2 w' E'=>E'.ol 10)) ?_;clear E;rintro _ w6 ⟨s3,rfl,hs3,E⟩;refine G0 [26,4,22,24] ?_;exact aaT (results_none rfl _ _ _) rfl ⟨_,rfl,L_ ⟨(HJ.send hs3 hsr (Or.inr HPV) (pW ⟨(by decide:(0:Int)≤9),(by decide:(9:Int)≤255)⟩ dO dO dO (HZ _ HPV).1)).more (by omega),rfl,rfl,rfl⟩,E.EJ.bn (by omega) (by omega)⟩
 case pos=>
  refine G0 [0,4,8,15,5] ?_;clear hm;refine G0 [0,0] ?_;refine ah (qh p b N (M+N) ⟨X.x,X.rc,s2⟩ _ _ (E.jK 0 (by omega)) (by omega)) ?_;rintro _ w7 ⟨⟨vp,vb,vv,k,bf,rfl,-,hv1,hv2⟩,hw⟩;replace E:=E.up hw;clear hw;have HV:=L_ (atOk HJ (HZ _ HPV).2 hv1 hv2);clear hv1 hv2;refine G E [26,84,0,70,3,60,0,0,4,9] ?_;clear E;intro g4 w9 E;replace E:=E.fZ;refine dw 18 E ?_;clear E;intro w10 E;refine ay 0 E ?_;refine aX 1 1 E ?_;refine ay 2 E ?_;refine ay 3 E ?_;refine ay 4 E ?_;refine ay 5 E ?_;refine aX 6 0 E ?_;refine ay 7 E ?_;refine ay 8 E ?_;refine ay 9 E ?_;refine ay 10 E ?_;refine ay 11 E ?_;refine aX 12 0 E ?_;refine cu 13 (XD (if vp<X.x.hd then X.x.hd else vp) X.x.me _) ?_;rintro _ w11 ⟨bl,y,rfl,hbl,rfl⟩;replace hbl:=L_ hbl;refine⟨_,rfl,E.weak,dL ?_⟩
  by_cases h4:y=0
  case neg=>
   refine ay 14 E ?_;refine ay 15 E ?_;refine ay 16 E ?_;refine ay 17 E ?_;refine G0 [30,0,4,6,5,0,0,4,7,22,24] ?_;exact aaT (results_none rfl _ _ _) rfl ⟨_,rfl,L_ ⟨HJ.more (by omega),rfl,rfl,rfl⟩,(E.only 1).EJ.bn (by omega) (by omega)⟩
  subst h4;refine ay 14 E ?_;refine ay 15 E ?_;refine ay 16 E ?_;refine ay 17 E ?_;refine G0 [30,0,4,6,5,0,0,4,8,15,5] ?_;refine aB 1 3 E ?_;refine fV ?_;refine ah (Cg vp vb vv bl _ (HZ _ HV.1).1 HV.2.1 HV.2.2 hbl) ?_;rintro _ w12 ⟨vp2,vb2,vv2,y2,rfl,hv,hw⟩;replace E:=E.up hw;replace hv:=L_ hv;clear hw;refine G0 [26] ?_;have HW:Hid (P vv2∧i64 vp2∧i64 vb2):=L_ (hv.elim (fun h=>by rw[h.1,h.2.1,h.2.2];exact⟨HV.1,hbl,HV.2.2⟩) (fun h=>by rw[h.1,h.2.1,h.2.2];exact⟨(HZ _ HPV).2,dO,dO⟩));refine G E [84,70,3,60,0,4,5,9] ?_;clear E;intro g9 w14 E;replace E:=E.fZ;refine G0 [84,0] ?_;refine aB 1 3 E ?_;refine ah (JV p N (M+N) K ⟨X.x,X.rc,s2⟩ ⟨1,0,(X.x.log.l.length:Int)+1,bl,⟨#[]⟩⟩ ⟨vp2,vb2,vv2⟩ _ E (by omega) (by omega) (by omega) (by show X.x.vs.l.length<N;omega)) ?_;clear E;rintro _ w15 ⟨v2,r2,rfl,hp,E⟩;refine G0 [26] ?_;have HK:=L_ (HJ.put hp HW (HZ _ HPV).2 ⟨⟨(by decide:(0:Int)≤1),(by decide:(1:Int)≤255)⟩,dO,jG ((X.x.log.l.length:Int)+1) (by omega) (by omega),hbl,(by decide:(0:Nat)≤1000000)⟩);refine G0 [4,5] ?_;have hA2:(wH ⟨X.x,X.rc,s2⟩ v2 r2).x.wi.A=some ⟨bb,off,none⟩:=hA;have hpos2:0<(wH ⟨X.x,X.rc,s2⟩ v2 r2).x.wi.l.length:=hpos;refine G E [83,0,0,40,0] ?_;have d1:=(E.ol (N:=N) (s:=X.x.wi) 5).gI (i:=0) hA HX rfl;simp only[aj.sz,Nat.zero_mul,Nat.add_zero] at d1;refine bQ d1 ?_;clear d1 hA hA2 hpos2;refine ah (Uv P s bl v _ N (E.ol 10) (by omega) hbl (HZ _ HPV).1 HPV (HZ _ HPV).2) ?_;rintro _ w16 ⟨t,x2,rfl,ht,F⟩;replace E:=E.call F;clear F;refine G E [26,83,0,60,4,5,9] ?_;clear E;intro w17 E
  have HS:Hid (ko P X.x.g.r.l t):=L_ ⟨⟨ht.1.b,ht.2.2.2.2⟩,fun _=>ht.1,fun q hq=>(by rw[ht.out.2.2.1] at hq;cases hq),⟨(HZ _ ht.1.wi).1,(HZ _ ht.1.va).1⟩,fun n hn=>hsr n (ht.2.1 n hn)⟩;have HL:=L_ (HK.Vs HS);replace E:=Env.Nu (X:=wH ⟨X.x,X.rc,s2⟩ v2 r2) E;refine G0 [83] ?_;refine ah (lD p N (M+N) (K+1) (bU (wH ⟨X.x,X.rc,s2⟩ v2 r2) t) s ⟨0,0,1,0,(X.x.log.l.length:Int)+1,bl,0,⟨#[]⟩,0,0⟩ _ E (by omega) (fun s3 M2 w' E'=>E'.ol 10)) ?_;clear E;rintro _ w18 ⟨s3,rfl,hs3,E⟩;refine G0 [26] ?_;have HM:=L_ (HL.send hs3 hsr (Or.inr (HZ _ HPV).2) (pW ⟨(by decide:(0:Int)≤1),(by decide:(1:Int)≤255)⟩ (jG ((X.x.log.l.length:Int)+1) (by omega) (by omega)) hbl dO (by decide)));replace E:=E.bn (M':=M+N+N) (K':=K+1) (by omega) (Zh _);refine aC (fO 0 12 E ?_);clear E;intro w19 E;refine ay 0 E ?_;refine ay 1 E ?_;refine ay 2 E ?_;refine ay 3 E ?_;refine ay 4 E ?_;refine ay 5 E ?_;refine aX 6 0 E ?_;refine ay 7 E ?_;refine aX 8 2 E ?_;refine ay 9 E ?_;refine aX 10 2 E ?_;refine ay 11 E ?_;refine kg ?_;refine ah (xW P p N (M+N+N) (K+1) (c+1) _ bl ⟨(bU (wH ⟨X.x,X.rc,s2⟩ v2 r2) t).x.me,vb,vv⟩ _ E HM HZ (by omega) (by omega) (by omega) hN hN2 hbl HV.1 HV.2.2 (jG X.x.me (by have:=HI.me;omega) (by have:=HI.me;omega))) ?_;clear E;rintro _ w20 ⟨X',rfl,hX,E⟩;refine G0 [26] ?_;refine wpList_nil ?_
  go_end0
  exact⟨X',rfl,L_ ⟨hX.1,hX.2.1,hX.2.2.1,hX.2.2.2⟩,(E.only 2).EJ.bn (by omega) (by omega)⟩
theorem Ka {is:List It}(P:ByteArray→Prop)(p N M K c:Nat)(X:eU)(m:bS)(w:World)(E:Env b w0 (iG p X::bx) (bM X N M K++is) w)(hI:bC P c X)(hz:MK P)(hc:c≤90)(hKM:K+4≤M)(hM:M≤700000)(hN:N≤10000)(hN2:1000≤N)(hm:P m.v)(hw:gN m)(hf:m.f∈X.x.g.r.l)(hs1:1≤m.s) :
  Calls prog 312 #[p,m] w fun e w'=>∃X':eU,e=()∧Hid (bC P (c+3) X'∧uT X X')∧Env b w0 (iG p X'::bx) (bM X' N (M+5*N) (K+3)++is) w':=by
 have HI:=L_ hI;have HZ:=L_ hz;have HM:=L_ hm;have HW:=L_ hw;have HF:=L_ hf;have H0:Hid (P ⟨#[]⟩):=L_ (hz _ hm).2;have hll:=hI.ll;have hvl:=hI.vl;clear hI hz hm hw hf
 go_enter func312,ntmps312
 refine G E [5,71,3,4,5,0,40,0,40,0,70,3,60,4,6,9] ?_;clear E;intro g3 g4 w4 E;replace E:=E.bD 2;refine dw 4 E ?_;clear E;intro w5 E;refine ay 0 E ?_;refine aX 1 2 E ?_;refine ay 2 E ?_;refine cu 3 (jh p b N M X _ (E.jK 0 (by omega)) (by omega)) ?_;rintro _ w6 ⟨rfl,rfl⟩;refine⟨_,rfl,E.weak,dL ?_⟩;refine kg ?_
 by_cases hlt:m.s<(X.x.log.l.length:Int)+1
 case pos=>
  refine G0 [0,4,7] ?_;obtain⟨k,hk⟩:∃k:Nat,m.s=(k:Int)+1:=⟨(m.s - 1).toNat,by omega⟩;have hkl:k<X.x.log.l.length:=by omega
  have hks:m.s - 1=(k:Int):=by omega
  have hwr:IntKind.i64.wrap (m.s - 1)=(k:Int):=by rw[hks,aaP _ (by omega)]
  obtain⟨bb,off,v,hA,-,hx,-,-⟩:=(E.ol (N:=N) (s:=X.x.log) 7).get (k:=k) hkl;have HPV:Hid (P v):=L_ (HI.log v (Zk hx));have HX:=L_ hx;clear hx hlt hks hk;refine I5 0 17 (bM X N M K++is) E ?_;clear E;intro w7 E;refine ay 0 E ?_;refine ay 1 E ?_;refine aX 2 2 E ?_;refine ay 4 E ?_;refine aX 5 2 E ?_;refine ay 6 E ?_;refine ay 7 E ?_;refine ay 8 E ?_;refine ay 9 E ?_;refine aX 10 0 E ?_;refine ay 11 E ?_;refine aX 12 2 E ?_;refine ay 13 E ?_;refine ay 14 E ?_;refine Ie 15 E (v:=v) (fun w' E'=>by have h:=(E'.ol (N:=N) (s:=X.x.log) 7).gI (i:=0) hA HX rfl;simpa[aj.sz] using h) ?_;clear hA;refine ay 16 E ?_;refine uZ 3 E ?_;clear E;intro g24 w8 E;refine dL ?_;refine kg ?_;refine ah (lD p N M K X ⟨some ⟨g24,0,none⟩,1,[m.f]⟩ ⟨0,0,6,0,m.s,0,0,v,0,0⟩ _ (E.bD 1) (by show M+1≤_;omega) (fun s2 M2 w' E'=>⟨E'.reads 1 1 1,Zh _,(by decide:1≤maxLen),(by show 1≤N;omega),fun _ _=>trivial⟩)) ?_;clear E;rintro _ w9 ⟨s2,rfl,hs,E⟩;refine G0 [26,4,22,24] ?_;exact aaT (results_none rfl _ _ _) rfl ⟨_,rfl,L_ ⟨(HI.send hs (fun n hn=>(Zp.1 hn)▸HF.out) (Or.inr HPV) (pW ⟨(by decide:(0:Int)≤6),(by decide:(6:Int)≤255)⟩ HW.s dO dO (HZ _ HPV).1)).more (by omega),rfl,rfl,rfl⟩,(E.only 3).bn (by show M+1≤_;omega) (by omega)⟩
 case neg=>
  refine G0 [0,4,8,15,5] ?_;clear hlt;refine G E [0,0,42] ?_;refine ah (qh p b N M X m.s _ (E.jK 0 (by omega)) (by omega)) ?_;rintro _ w10 ⟨⟨vp,vb,vv,k,bf,rfl,-,hv1,hv2⟩,hw⟩;replace E:=E.up hw;clear hw;have HV:=L_ (atOk HI H0 hv1 hv2);clear hv1 hv2;refine G E [26,84,0,70,3,60,0,0,4,5,0,43,0,43,0,70,3,60,4,5,9] ?_;clear E;intro g5 g8 w14 E;refine aB 1 3 E ?_;refine G E [0,44] ?_;refine ah (Cg vp vb vv m.b _ (HZ _ HV.1).1 HV.2.1 HV.2.2 HW.b) ?_;rintro _ w15 ⟨vp2,vb2,vv2,y,rfl,hv,hw⟩;replace E:=E.up hw;clear hw;have HV2:Hid (P vv2∧i64 vp2∧i64 vb2):=L_ (hv.elim (fun h=>by rw[h.1,h.2.1,h.2.2];exact⟨HV.1,HW.b,HV.2.2⟩) (fun h=>by rw[h.1,h.2.1,h.2.2];exact⟨H0,dO,dO⟩));clear hv;refine G E [26,84,70,3,60,0,4,6,5,9] ?_;clear E;intro g9 w17 E
  by_cases hk:(m.k==3)=true
  case pos=>
   refine G E [0,45,0,4,7] ?_;replace E:=E.bD 1;refine yw 1 4 E ?_;clear E;intro w18 E;refine ay 0 E ?_;refine aX 1 4 E ?_;refine ay 2 E ?_;refine uS 3 0 E ?_;clear E;intro w19 E;refine G E [30,0,60,4,23,9] ?_;clear E;intro w20 E;refine aB 2 3 E ?_;refine G E [0,45,0,45] ?_;refine ah (JO vp vb vv m.b m.v _ (HZ _ HV.1).1 (HZ _ HM).1 HV.2.1 HV.2.2 HW.b) ?_;rintro _ w21 ⟨vp2,vb2,vv2,y,rfl,hv,hw⟩;replace E:=E.up hw;clear hw;clear HV2;have HV2:Hid (P vv2∧i64 vp2∧i64 vb2):=L_ (hv.elim (fun h=>by rw[h.1,h.2.1,h.2.2];exact⟨HM,HW.b,HW.b⟩) (fun h=>by rw[h.1,h.2.1,h.2.2];exact⟨H0,dO,dO⟩));clear hv;refine G0 [26] ?_
   by_cases h4:(y !=0)=true
   case pos=>
    refine G E [84,61,0,4,18,5,84,4,7,9] ?_;clear E;intro w22 E;have h5:(y==0)=false:=by simpa using h4
    clear h4;replace E:=E.bD 4;refine fO 1 4 E ?_;clear E;intro w23 E;refine ay 0 E ?_;refine aX 1 2 E ?_;refine ay 2 E ?_;refine uS 3 0 E ?_;clear E;intro w24 E;refine G E [30,0,60,20,6,5,0,0,4,8,15,23,9] ?_;clear E;intro w25 E;replace E:=E.bD 4;refine G E [0,0,45,72,3,9] ?_;clear E;intro g103 w26 E;refine aB 2 10 E ?_;refine ah (lD p N (M) (K) X ⟨some ⟨g103,0,none⟩,1,[m.f]⟩ ⟨0,0,5,0,m.s,m.b,vp,⟨#[]⟩,0,0⟩ _ (E.bD 1) (by show M+1≤_;omega) (fun s2 M2 w' E'=>⟨E'.reads 1 1 1,Zh _,(by decide:1≤maxLen),(by show 1≤N;omega),fun _ _=>trivial⟩)) ?_;clear E;rintro _ w27 ⟨s2,rfl,hs,E⟩;refine G0 [26] ?_;refine wpList_nil ?_
    go_end0
    exact⟨_,rfl,L_ ⟨(HI.send hs (fun n hn=>(Zp.1 hn)▸HF.out) (Or.inr H0) (pW ⟨(by decide:(0:Int)≤5),(by decide:(5:Int)≤255)⟩ HW.s HW.b HV.2.1 (HZ _ H0).1)).more (by omega),rfl,rfl,rfl⟩,(E.only 6).bn (by show M+1≤_;omega) (by omega)⟩
   replace h4:(y !=0)=false:=by simpa using h4
   refine G E [84,61,0,4,18,5,84,4,8,5,9] ?_;clear E;intro w28 E;have h5:(y==0)=true:=by simpa using h4
   clear h4;refine G E [0,45,0,0,4,7,23,0,64,20,6,5,9] ?_;clear E;intro w29 E;replace E:=E.bD 3;refine G0 [0,0,4,7,23,0] ?_;refine aB 1 5 E ?_;refine aB 2 3 E ?_;refine ah (JV p N M K X ⟨2,0,m.s,m.b,m.v⟩ ⟨vp2,vb2,vv2⟩ _ E (by omega) (by omega) (by omega) (by omega)) ?_;clear E;rintro _ w30 ⟨v2,r2,rfl,hp,E⟩;refine G0 [26] ?_;have HL:=L_ (HI.put hp HV2 HM ⟨⟨(by decide:(0:Int)≤2),(by decide:(2:Int)≤255)⟩,dO,HW.s,HW.b,(HZ _ HM).1⟩);refine G E [4,23,0,0,45,72,3,9] ?_;clear E;intro g103 w31 E;refine aB 5 10 E ?_;refine ah (lD p N (M) (K+1) (wH X v2 r2) ⟨some ⟨g103,0,none⟩,1,[m.f]⟩ ⟨0,0,4,0,m.s,m.b,0,⟨#[]⟩,0,0⟩ _ (E.bD 1) (by show M+1≤_;omega) (fun s2 M2 w' E'=>⟨E'.reads 1 1 1,Zh _,(by decide:1≤maxLen),(by show 1≤N;omega),fun _ _=>trivial⟩)) ?_;clear E;rintro _ w32 ⟨s2,rfl,hs,E⟩;refine G0 [26] ?_;refine wpList_nil ?_
   go_end0
   exact⟨_,rfl,L_ ⟨(HL.send hs (fun n hn=>(Zp.1 hn)▸HF.out) (Or.inr H0) (pW ⟨(by decide:(0:Int)≤4),(by decide:(4:Int)≤255)⟩ HW.s HW.b dO (HZ _ H0).1)).more (by omega),rfl,rfl,rfl⟩,(E.only 6).bn (by show M+1≤_;omega) (by omega)⟩
  case neg=>
   replace hk:(m.k==3)=false:=by simpa using hk
   refine G E [0,45,0,4,8,15,18,5] ?_;replace E:=E.bD 1;refine fV ?_
   by_cases h4:(y !=0)=true
   case pos=>
    refine G0 [0,0,4,7] ?_;have h5:(y==0)=false:=by simpa using h4
    clear h4;replace E:=E.bD 4;refine fO 1 4 E ?_;clear E;intro w33 E;refine ay 0 E ?_;refine aX 1 2 E ?_;refine ay 2 E ?_;refine uS 3 0 E ?_;clear E;intro w34 E;refine G E [30,0,60,20,6,5,0,0,4,8,15,23,9] ?_;clear E;intro w35 E;replace E:=E.bD 4;refine G E [0,0,45,72,3,9] ?_;clear E;intro g103 w36 E;refine aB 2 10 E ?_;refine ah (lD p N (M) (K) X ⟨some ⟨g103,0,none⟩,1,[m.f]⟩ ⟨0,0,5,0,m.s,m.b,vp,⟨#[]⟩,0,0⟩ _ (E.bD 1) (by show M+1≤_;omega) (fun s2 M2 w' E'=>⟨E'.reads 1 1 1,Zh _,(by decide:1≤maxLen),(by show 1≤N;omega),fun _ _=>trivial⟩)) ?_;clear E;rintro _ w37 ⟨s2,rfl,hs,E⟩;refine G0 [26] ?_;refine wpList_nil ?_
    go_end0
    exact⟨_,rfl,L_ ⟨(HI.send hs (fun n hn=>(Zp.1 hn)▸HF.out) (Or.inr H0) (pW ⟨(by decide:(0:Int)≤5),(by decide:(5:Int)≤255)⟩ HW.s HW.b HV.2.1 (HZ _ H0).1)).more (by omega),rfl,rfl,rfl⟩,(E.only 6).bn (by show M+1≤_;omega) (by omega)⟩
   replace h4:(y !=0)=false:=by simpa using h4
   refine G0 [0,0,4,8,5] ?_;have h5:(y==0)=true:=by simpa using h4
   clear h4;refine G E [0,45,0,0,4,8] ?_;replace E:=E.bD 4;refine fO 1 8 E ?_;clear E;intro w38 E;refine ay 0 E ?_;refine aX 1 2 E ?_;refine ay 2 E ?_;refine aX 3 2 E ?_;refine ay 4 E ?_;refine uS 5 0 E ?_;clear E;intro w39 E;refine ay 6 E ?_;refine uS 7 0 E ?_;clear E;intro w40 E;refine G E [30,0,60,20,6,5,9] ?_;clear E;intro w41 E;replace E:=E.bD 4;refine G0 [0,0,4,7,23,0] ?_;refine aB 2 5 E ?_;refine aB 3 3 E ?_;refine ah (JV p N M K X ⟨1,0,m.s,m.b,⟨#[]⟩⟩ ⟨vp2,vb2,vv2⟩ _ E (by omega) (by omega) (by omega) (by omega)) ?_;clear E;rintro _ w42 ⟨v2,r2,rfl,hp,E⟩;refine G0 [26] ?_;have HL:=L_ (HI.put hp HV2 H0 ⟨⟨(by decide:(0:Int)≤1),(by decide:(1:Int)≤255)⟩,dO,HW.s,HW.b,(HZ _ H0).1⟩);refine G E [4,23,0,0,45,72,3,9] ?_;clear E;intro g103 w43 E;refine aB 2 10 E ?_;refine ah (lD p N (M) (K+1) (wH X v2 r2) ⟨some ⟨g103,0,none⟩,1,[m.f]⟩ ⟨0,0,2,0,m.s,m.b,vb,vv,0,0⟩ _ (E.bD 1) (by show M+1≤_;omega) (fun s2 M2 w' E'=>⟨E'.reads 1 1 1,Zh _,(by decide:1≤maxLen),(by show 1≤N;omega),fun _ _=>trivial⟩)) ?_;clear E;rintro _ w44 ⟨s2,rfl,hs,E⟩;refine G0 [26] ?_;refine wpList_nil ?_
   go_end0
   exact⟨_,rfl,L_ ⟨(HL.send hs (fun n hn=>(Zp.1 hn)▸HF.out) (Or.inr HV.1) (pW ⟨(by decide:(0:Int)≤2),(by decide:(2:Int)≤255)⟩ HW.s HW.b HV.2.2 (HZ _ HV.1).1)).more (by omega),rfl,rfl,rfl⟩,(E.only 6).bn (by show M+1≤_;omega) (by omega)⟩
theorem bC.heard {c:Nat}{X:eU}{n:Int}(h:bC P c X)(hn:i64 n):bC P c ⟨⟨X.x.me,X.x.num,X.x.g,X.x.log,X.x.vs,X.x.t,X.x.wi,n⟩,X.rc,X.ma⟩:=⟨⟨h.log,h.ll,h.vs,h.vl,h.wi,h.wl,h.t,hn,h.me,h.num,h.rl⟩,h.rc,h.ma⟩
theorem bC.want {c:Nat}{X:eU}{v:ByteArray}{s:Sl ByteArray}(h:bC P c X)(hw:OM X v s)(hv:P v):bC P c (xY X s):=⟨⟨h.log,h.ll,h.vs,h.vl,fun y hy=>by
  have hy2:y∈s.l:=hy
  rcases hw.1 with e|⟨e,-⟩
  ·rw[e] at hy2;exact h.wi y hy2
  ·rw[e] at hy2
   rcases Zm.1 hy2 with h1|h1
   ·exact h.wi y h1
   ·rw[Zp.1 h1];exact hv,hw.2,h.t,h.hd,h.me,h.num,h.rl⟩,h.rc,h.ma⟩
theorem OU {is:List It}(P:ByteArray→Prop)(p N M K c:Nat)(X:eU)(m:bS)(w:World)(E:Env b w0 (iG p X::bx) (bM X N M K++is) w)(hI:bC P c X)(hz:MK P)(hc:c≤80)(hKM:K+5≤M)(hM:M≤600000)(hN:N≤10000)(hN2:1000≤N)(hm:m.k=7∨P m.v)(hw:gN m)(hf:m.k≠9→m.f∈X.x.g.r.l)(hs:m.k≠8→m.k≠9→1≤m.s∧m.s≤201) :
  Calls prog 283 #[p,m] w fun e w'=>∃X':eU,e=()∧Hid (bC P (c+3) X'∧uT X X')∧Env b w0 (iG p X'::bx) (bM X' N (M+5*N) (K+3)++is) w':=by
 have HI:=L_ hI;have HZ:=L_ hz;have HM:=L_ hm;have HW:=L_ hw;have HF:=L_ hf;have HS:=L_ hs;have hll:=hI.ll;have hvl:=hI.vl;obtain⟨nw,hnw⟩:∃q,(m.s==(X.x.log.l.length:Int)+1)=q:=⟨_,rfl⟩;clear hI hz hm hw hf hs
 go_enter func283,ntmps283
 refine G E [5,71,3,4,9] ?_;clear E;intro g3 w2 E;replace E:=E.fZ;refine dw 4 E ?_;clear E;intro w3 E;refine ay 0 E ?_;refine aX 1 1 E ?_;refine ay 2 E ?_;refine cu 3 (jh p b N M X _ (E.jK 0 (by omega)) (by omega)) ?_;rintro _ w4 ⟨rfl,rfl⟩;refine⟨_,rfl,E.weak,dL ?_⟩;refine G0 [30,0,0,4,5] ?_;clear hnw
 by_cases h1:(m.k==1)=true
 case pos=>
  have h1p:m.k=1:=by simpa using h1
  have H1:=L_ h1p;clear h1p;refine G E [0,41,4,19,6,5,0,0,4,7,15,7,5,0,41,0,0,1,1,1,0,4,7,23,0] ?_;refine aB 1 10 E ?_;refine ah (Ka P p N M K c X m _ E HI HZ (by omega) (by omega) (by omega) hN hN2 (HM.resolve_left (by have:=H1.out;omega)) HW (HF (by have:=H1.out;omega)) (HS (by have:=H1.out;omega) (by have:=H1.out;omega)).1) ?_;clear E;rintro _ w5 ⟨X',rfl,hX,E⟩;refine G0 [26] ?_;refine wpList_nil ?_;simp only[Exit.inBlock]
  go_end0
  exact⟨X',rfl,hX,E.only 1⟩
 case neg=>
  replace h1:(m.k==1)=false:=by simpa using h1
  refine G E [0,41,4,19,6,5,0,0,4,8] ?_
  by_cases h3:(m.k==3)=true
  case pos=>
   have h3p:m.k=3:=by simpa using h3
   have H3:=L_ h3p;clear h3p;refine G E [23,0,0,4,7,5,0,41,84,41] ?_;refine ah (jg m.v _ (Zt HW.v (by decide))) ?_;rintro _ w6 ⟨rfl,hb⟩;replace E:=E.up hb;clear hb;refine G0 [26] ?_
   by_cases ht:(isText m.v)=false
   case pos=>
    refine G0 [0,4,8,31] ?_;simp only[Exit.inBlock]
    go_end0
    exact⟨X,rfl,L_ ⟨HI.more (by omega),rfl,rfl,rfl⟩,(E.only 1).bn (by omega) (by omega)⟩
   replace ht:(isText m.v)=true:=by simpa using ht
   refine G0 [0,4,7,23,0] ?_;refine aB 1 10 E ?_;refine ah (Ka P p N M K c X m _ E HI HZ (by omega) (by omega) (by omega) hN hN2 (HM.resolve_left (by have:=H3.out;omega)) HW (HF (by have:=H3.out;omega)) (HS (by have:=H3.out;omega) (by have:=H3.out;omega)).1) ?_;clear E;rintro _ w7 ⟨X',rfl,hX,E⟩;refine G0 [26] ?_;refine wpList_nil ?_;simp only[Exit.inBlock]
   go_end0
   exact⟨X',rfl,hX,E.only 1⟩
  case neg=>
   replace h3:(m.k==3)=false:=by simpa using h3
   refine G0 [23,0,0,4,8,5] ?_
   by_cases h2:(m.k==2)=true
   case pos=>
    have h2p:m.k=2:=by simpa using h2
    have H2:=L_ h2p;clear h2p;refine G0 [0,0,4,7] ?_;cases nw
    case false=>
     refine G0 [5,0,0,1,80,2,2,2,4,8,31] ?_;simp only[Exit.inBlock]
     go_end0
     exact⟨X,rfl,L_ ⟨HI.more (by omega),rfl,rfl,rfl⟩,(E.only 1).bn (by omega) (by omega)⟩
    refine G0 [5,84] ?_
    by_cases hp:(m.p==0)=true
    case' pos=>
     refine G E [41,0,0,1,1,1,0,0,4,7,23] ?_;clear hp
    case' neg=>
     replace hp:(m.p==0)=false:=by simpa using hp
     refine G E [41,84,41] ?_;refine ah (jg m.v _ (Zt HW.v (by decide))) ?_;rintro _ w8 ⟨rfl,hb⟩;replace E:=E.up hb;clear hb;refine G0 [26] ?_
     by_cases ht:isText m.v=true
     case neg=>
      refine G0 [0,0,4,8,31] ?_;simp only[Exit.inBlock]
      go_end0
      exact⟨X,rfl,L_ ⟨HI.more (by omega),rfl,rfl,rfl⟩,(E.only 1).bn (by omega) (by omega)⟩
     case' pos=>
      refine G0 [0,0,4,7,23] ?_;clear hp ht
    all_goals
     refine G E [0,0,41,0,41,0,41,0,41,0] ?_;refine ah (xW P p N M K c X m.b ⟨m.f,m.p,m.v⟩ _ E HI HZ (by omega) (by omega) (by omega) hN hN2 HW.b (HM.resolve_left (by have:=H2.out;omega)) HW.p HW.f) ?_;clear E;rintro _ w9 ⟨X',rfl,hX,E⟩;refine G0 [26] ?_;refine wpList_nil ?_;simp only[Exit.inBlock]
     go_end0
     exact⟨X',rfl,L_ ⟨hX.1.more (by omega),hX.2⟩,(E.only 1).bn (by omega) (by omega)⟩
   case neg=>
    replace h2:(m.k==2)=false:=by simpa using h2
    refine G0 [0,0,4,8] ?_
    by_cases h4:(m.k==4)=true
    case pos=>
     refine G0 [5,0,0,4,7] ?_;cases nw
     case false=>
      refine G0 [5,0,4,8,31] ?_;simp only[Exit.inBlock]
      go_end0
      exact⟨X,rfl,L_ ⟨HI.more (by omega),rfl,rfl,rfl⟩,(E.only 1).bn (by omega) (by omega)⟩
     refine G E [5,0,4,7,23,0,0,41,0,41] ?_;refine ah (Jb P p N M K c X m.b m.f _ E HI HZ (by omega) (by omega) (by omega) hN hN2) ?_;clear E;rintro _ w10 ⟨X',rfl,hX,E⟩;refine G0 [26] ?_;refine wpList_nil ?_;simp only[Exit.inBlock]
     go_end0
     exact⟨X',rfl,L_ ⟨hX.1.more (by omega),hX.2⟩,(E.only 1).bn (by omega) (by omega)⟩
    case neg=>
     replace h4:(m.k==4)=false:=by simpa using h4
     refine G0 [5,0,0,4,8] ?_
     by_cases h5:(m.k==5)=true
     case pos=>
      refine G0 [5,0,0,4,7] ?_;cases nw
      case false=>
       refine G0 [5,0,4,8,31] ?_;simp only[Exit.inBlock]
       go_end0
       exact⟨X,rfl,L_ ⟨HI.more (by omega),rfl,rfl,rfl⟩,(E.only 1).bn (by omega) (by omega)⟩
      refine G0 [5,0] ?_;refine aC (Qs (fO 0 9 E ?_));clear E;intro w11 E;refine ay 0 E ?_;refine ay 1 E ?_;refine ay 2 E ?_;refine ay 3 E ?_;refine ay 4 E ?_;refine aX 5 0 E ?_;refine ay 6 E ?_;refine aX 7 1 E ?_;refine ay 8 E ?_;refine G E [30,84,60,9] ?_;clear E;intro w12 E;refine wpList_nil ?_;simp only[Exit.inBlock]
      go_end0
      exact⟨⟨⟨X.x.me,X.x.num,X.x.g,X.x.log,X.x.vs,X.x.t,X.x.wi,if X.x.hd<m.p then m.p else X.x.hd⟩,X.rc,X.ma⟩,rfl,L_ ⟨(HI.heard (by split<;>first|exact HW.p|exact HI.hd)).more (by omega),rfl,rfl,rfl⟩,(E.only 1).bn (by omega) (by omega)⟩
     case neg=>
      replace h5:(m.k==5)=false:=by simpa using h5
      refine G0 [5,0,0,4,8] ?_
      by_cases h6:(m.k==6)=true
      case pos=>
       have h6p:m.k=6:=by simpa using h6
       have H6:=L_ h6p;clear h6p;refine G0 [5,0,0,4,7] ?_;cases nw
       case false=>
        refine G0 [5,0,0,1,1,1,0,4,8,31] ?_;simp only[Exit.inBlock]
        go_end0
        exact⟨X,rfl,L_ ⟨HI.more (by omega),rfl,rfl,rfl⟩,(E.only 1).bn (by omega) (by omega)⟩
       refine G E [5,84,41] ?_;refine ah (jg m.v _ (Zt HW.v (by decide))) ?_;rintro _ w13 ⟨rfl,hb⟩;replace E:=E.up hb;clear hb;refine G0 [26] ?_
       by_cases ht:isText m.v=true
       case neg=>
        refine G0 [0,4,8,31] ?_;simp only[Exit.inBlock]
        go_end0
        exact⟨X,rfl,L_ ⟨HI.more (by omega),rfl,rfl,rfl⟩,(E.only 1).bn (by omega) (by omega)⟩
       case pos=>
        refine G E [0,4,7,23,0,0,41] ?_;refine ah (Jy p N M K X m.v _ E (by omega) (by omega) (by omega) (by omega)) ?_;clear E;rintro _ w14 ⟨lo,vs,wi,rc,rfl,hl,E⟩;refine G0 [26] ?_;refine wpList_nil ?_;simp only[Exit.inBlock]
        go_end0
        exact⟨_,rfl,L_ ⟨(HI.learn hl (HM.resolve_left (by have:=H6.out;omega)) (by omega) HZ).more (by omega),rfl,rfl,rfl⟩,(E.only 1).bn (by omega) (by omega)⟩
      case neg=>
       replace h6:(m.k==6)=false:=by simpa using h6
       refine G0 [5,0,0,4,8] ?_
       by_cases h7:(m.k==7)=true
       case pos=>
        have h7p:m.k=7:=by simpa using h7
        obtain⟨hs1,hs2⟩:=HS (by omega) (by omega);have HF2:=L_ (HF (by omega));clear h7p;refine G E [5,0,0,4,7,5,0,41,0,4,19] ?_;have hw8:IntKind.i64.wrap (m.s+8)=m.s+8:=aaP _ (by omega)
        go_loopw [5] (fun y wr=>∃(j:Nat) (s2:Sl bS),y=.int .i64 (m.s+(j:Int))∧j≤8∧Hid (bC P c ⟨X.x,X.rc,s2⟩)∧Env b w0 (iG p ⟨X.x,X.rc,s2⟩::(g3,62,m)::bx) (bM ⟨X.x,X.rc,s2⟩ N (M+j) K++is) wr) (fun y _=>(m.s+8 - intOf y).toNat)
        case atStart=>exact⟨0,X.ma,by simp,by omega,HI,E⟩
        case round=>
         clear E;obtain⟨j,s2,rfl,hj,HJ,E⟩:=hrel;refine wp_seq (dw 7 E ?_);clear E;intro w15 E;refine ay 0 E ?_;refine ay 1 E ?_;refine ay 3 E ?_;refine aX 4 1 E ?_;refine ay 5 E ?_;refine cu 2 (jh p b N (M+j) ⟨X.x,X.rc,s2⟩ _ (E.jK 0 (by omega)) (by omega)) ?_;rintro _ w16 ⟨rfl,rfl⟩;refine⟨_,rfl,E.weak,dL ?_⟩;obtain⟨mn,hmn⟩:∃x:Int,(if m.s+8<(X.x.log.l.length:Int)+1 then m.s+8 else(X.x.log.l.length:Int)+1)=x:=⟨_,rfl⟩;have hm1:Hid (mn≤m.s+8∧mn≤(X.x.log.l.length:Int)+1):=L_ (by rw[←hmn];split<;>omega)
         by_cases hlt:m.s+(j:Int)<mn
         case pos=>
          refine ay 6 E ?_;refine G0 [30,0,4,7,15,18] ?_;have hjl:m.s+(j:Int)<m.s+8∧m.s+(j:Int)<(X.x.log.l.length:Int)+1:=by have:=hm1.out;omega
          clear hmn hlt;obtain⟨k,hk⟩:∃k:Nat,m.s+(j:Int) - 1=(k:Int):=⟨(m.s+(j:Int) - 1).toNat,by omega⟩;have hkl:k<X.x.log.l.length:=by omega
          have hwr:IntKind.i64.wrap (m.s+(j:Int) - 1)=(k:Int):=by rw[hk,aaP _ (by omega)]
          have hw1:IntKind.i64.wrap (m.s+(j:Int)+1)=m.s+((j+1:Nat):Int):=by rw[aaP _ (by omega)];simp;omega
          have hj8:j+1≤8:=by omega
          obtain⟨bb,off,v,hA,-,hx,-,-⟩:=(E.ol (N:=N) (s:=X.x.log) 7).get (k:=k) hkl;have HPV:Hid (P v):=L_ (HI.log v (Zk hx));have HX:=L_ hx;clear hx hk hjl hm1;refine PI 0 15 (bM ⟨X.x,X.rc,s2⟩ N (M+j) K++is) E ?_;clear E;intro w17 E;refine ay 0 E ?_;refine ay 1 E ?_;refine aX 2 1 E ?_;refine ay 4 E ?_;refine ay 5 E ?_;refine ay 6 E ?_;refine ay 7 E ?_;refine ay 8 E ?_;refine aX 9 0 E ?_;refine ay 10 E ?_;refine ay 11 E ?_;refine ay 12 E ?_;refine Ie 13 E (v:=v) (fun w' E'=>by have h:=(E'.ol (N:=N) (s:=X.x.log) 7).gI (i:=0) hA HX rfl;simpa[aj.sz] using h) ?_;clear hA;refine ay 14 E ?_;refine uZ 3 E ?_;clear E;intro g104 w18 E;refine dL ?_;refine kg ?_;refine ah (lD p N (M+j) K ⟨X.x,X.rc,s2⟩ ⟨some ⟨g104,0,none⟩,1,[m.f]⟩ ⟨0,0,6,0,m.s+(j:Int),0,0,v,0,0⟩ _ (E.bD 1) (by show M+j+1≤_;omega) (fun s2 M2 w' E'=>⟨E'.reads 1 1 1,Zh _,(by decide:1≤maxLen),(by show 1≤N;omega),fun _ _=>trivial⟩)) ?_;clear E;rintro _ w19 ⟨s3,rfl,hs3,E⟩;replace E:=E.fZ.drop 1;refine G0 [26,20,23,84,25] ?_
          go_roundw
          case rel=>exact⟨j+1,s3,rfl,hj8,L_ (HJ.send hs3 (fun n hn=>(Zp.1 hn)▸HF2.out) (Or.inr HPV) (pW ⟨(by decide:(0:Int)≤6),(by decide:(6:Int)≤255)⟩ (jG _ (by omega) (by omega)) dO dO (HZ _ HPV).1)),E⟩
          case measure=>simp[intOf];omega
         case neg=>
          refine ay 6 E ?_;refine G0 [30,0,4,8,27,28] ?_
          go_end0
          exact⟨_,rfl,L_ ⟨HJ.more (by omega),rfl,rfl,rfl⟩,(E.only 1).bn (by omega) (by omega)⟩
       case neg=>
        replace h7:(m.k==7)=false:=by simpa using h7
        refine G0 [5,0,0,4,8] ?_
        by_cases h9:(m.k==9)=true
        case pos=>
         have h9p:m.k=9:=by simpa using h9
         have H9:=L_ h9p;clear h9p;refine G E [5,0,0,4,7,23,0,0,41] ?_;refine ah (Qk p N M K X m.v _ E (by omega) hN2 (Zt HW.v (by decide)) HI.wl) ?_;clear E;rintro _ w20 ⟨q,s2,rfl,hs2,E⟩;refine G0 [26] ?_;refine wpList_nil ?_;simp only[Exit.inBlock]
         go_end0
         exact⟨xY X s2,rfl,L_ ⟨(HI.want hs2 (HM.resolve_left (by have:=H9.out;omega))).more (by omega),rfl,rfl,rfl⟩,(E.only 1).bn (by omega) (by omega)⟩
        case neg=>
         replace h9:(m.k==9)=false:=by simpa using h9
         refine G0 [5,0,0,4,8,31] ?_;simp only[Exit.inBlock]
         go_end0
         exact⟨X,rfl,L_ ⟨HI.more (by omega),rfl,rfl,rfl⟩,(E.only 1).bn (by omega) (by omega)⟩
end
end Go.Proofs.YtaebfkcgdmodlaaGreatDoor
