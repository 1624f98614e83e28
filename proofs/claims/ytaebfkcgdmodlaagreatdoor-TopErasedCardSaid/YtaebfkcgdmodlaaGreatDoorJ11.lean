/-
  A part of the proof that the erased node of towncrier reads nothing (TopErased).
-/
import Derived.Deep.RegionHeld3
import Derived.Deep.RegionLawGrows
import Derived.Test.YtaebfkcgdmodlaaGreatDoorJ06
namespace Go.Proofs.YtaebfkcgdmodlaaGreatDoor
open Go.RowKit Go.Proofs.Tryz
set_option maxHeartbeats 16000000
set_option maxRecDepth 100000
set_option linter.unusedVariables false
set_option linter.unusedSimpArgs false
variable{k:Nat}
theorem vB (A:Option Addr)(n c:Nat)(l:List UInt8)(w:World)(B:Nat)(hr:Reads w B 1 A n (cb l))(hB:B≤w.heap.size)(hn:n≤140737488351232) :
  Calls prog 180 #[.slice A n c] w fun e w'=>∃A2 c2,e=.returned (.slice A2 n c2)∧w'.ownsRow w 5 1 (.slice A2 n c2) n (cb l)∧Below w w w':=by
 have hl:=hr.mR;have q22:∀(w:World) (a:Option Addr) (n c n' c':Nat),(binOp .eql 46 (.slice a n c) (.slice none n' c')).run prog w=.ok a.isNone w:=fun w a n c n' c'=>Lib.run_eql_slice_nil w _ _ a n c n' c' underlying46;cases A with
 |none=>
  have h0:n=0:=by
   rcases aao n with h0|h0
   ·exact h0
   ·obtain⟨ad,h',_⟩:=hr.2 h0;cases h'
  subst h0;obtain rfl:l=[]:=ZY hl;clear hr
  go_enter func180,ntmps180
  go_wp2;go_ret;exact⟨none,0,rfl,aaU _ _ _ _,aaO _ _⟩
 |some ad=>
  have HR:=L_ hr;clear hr;have HO:=L_ (World.ownsRow_made (base:=w.heap.size) (e:=5) (size:=1) w #[] 0 (Zh _) (Zq _) rfl);have HR2:=L_ (HR.keep (w':=w.alloc (.cells #[] 5)) fun p hp=>World.cell?_alloc_lt w _ p (by omega))
  go_enter func180,ntmps180
  go_wp2_with (at_builtin;refine rG rfl (.tmp 5) (.tmp 6) rfl w.heap.size (.slice (some ⟨w,0,none⟩) 0 0) 0 [] rfl HO B (some ad) n c l rfl HR2 (by omega) (by simp) ?_);intro v' w' h1 h2;obtain⟨A2,c2,rfl,_,_,_⟩:=bH h1;have H1:=L_ h1;have hb:=L_ (aR (h2.bW HO (by simp)) (Zh _));clear h1 h2;go_wp2;go_ret;exact⟨_,_,rfl,H1,hb⟩
def eD:Bool→Int
 |true=>0
 |false=>30
def qR (s:Nat)(p:HP):Nat:=if p.sw then p.n else s+p.n
theorem Fa {b:List UInt8}{p:HP}(h:p.d.length=p.n):(Dp.step b p.put).length=qR b.length p:=by
 unfold Dp.step qR HP.put;cases p.sw<;>simp[h]
theorem jV {l:List HP}{p:HP}(h:l[k]?=some p):(l.take (k+1)).map HP.put=(l.take k).map HP.put++[p.put]:=by
 rw[ZP,h];simp
theorem KH {b:List UInt8}{l:List HP}{p:HP}(h:l[k]?=some p)(hf:Dp.fits b ((l.take k).map HP.put)=true)(hn:p.d.length=p.n) :
  Dp.fits b ((l.take (k+1)).map HP.put)=decide (qR (Dp.done b ((l.take k).map HP.put)).length p≤1048576):=by
 rw[jV h,Dp.Fq,hf,Bool.true_and,Fa hn]
theorem uM {b:List UInt8}{l:List HP}{p:HP}(h:l[k]?=some p):Dp.done b ((l.take (k+1)).map HP.put)=Dp.step (Dp.done b ((l.take k).map HP.put)) p.put:=by
 rw[jV h,Dp.lY];rfl
theorem zC {b:List UInt8}{l:List HP}{p:HP}(h:l[k]?=some p)(hn:p.d.length=p.n):(Dp.done b ((l.take (k+1)).map HP.put)).length=qR (Dp.done b ((l.take k).map HP.put)).length p:=by
 rw[uM h,Fa hn]
theorem Nf {b:List UInt8}{l:List HP}(hk:Dp.fits b ((l.take k).map HP.put)=false):Dp.fits b (l.map HP.put)=false:=by
 cases h:Dp.fits b (l.map HP.put) with
 |false=>rfl
 |true=>
  have:=Dp.uG h k;rw[←List.map_take,hk] at this;cases this
theorem gB (D:HD)(w:World)(b:Bool)(hb:Dp.dF D.disk=b)(h:aW w w D) :
  Calls prog 88 #[.agg #[.slice D.A D.n D.c,.slice D.WA D.Wn D.Wc]] w fun e w'=>e=.returned ((eD b))∧Below w w w':=by
 obtain⟨A,n,c,d,WA,Wn,Wc,l⟩:=D;have hlen:=h.oP;have hdl:=h.Oy;have hlim:=h.lim;have hwlim:=h.Et;simp only at hlen hdl hlim hwlim;have HH:=L_ h;have HB:=L_ hb;clear h hb
 by_cases z:Wn≤1024
 case neg=>
  obtain rfl:b=false:=by
   rw[←HB.out,Dp.dF,HD.disk];simp only[Z5,hlen];rw[ZE (by omega)];rfl
  have z1:(1024:Int)<(Wn:Int):=by omega
  clear hlen hdl
  go_enter func88,ntmps88
  go_wp2;go_ret;exact⟨rfl,(aaO _ w).alloc (Zh _) _⟩
 have z1:¬(1024:Int)<(Wn:Int):=by omega
 by_cases zd:n≤1048576
 case neg=>
  obtain rfl:b=false:=by
   rw[←HB.out,Dp.dF,HD.disk];cases hf:Dp.fits d (l.map HP.put) with
   |false=>simp
   |true=>exact absurd (Dp.nL hf) (by omega)
  have z2:(1048576:Int)<(n:Int):=by omega
  clear hlen hdl
  go_enter func88,ntmps88
  go_wp2;go_ret;exact⟨rfl,(aaO _ w).alloc (Zh _) _⟩
 have z2:¬(1048576:Int)<(n:Int):=by omega
 have HF:Hid (Dp.fits d (l.map HP.put)=b):=by
  rw[Hid,←HB.out,Dp.dF,HD.disk];simp only[Z5,hlen];rw[ZG (by omega)];rfl
 have HL:=L_ hlen;have HD':=L_ hdl;clear hlen hdl
 go_enter func88,ntmps88
 go_wp2
 go_loopw [3,18] (fun x y wr=>∃(k s:Nat),y=(k:Int)∧k≤Wn∧x=(s:Int)∧s≤1048576∧s=(Dp.done d ((l.take k).map HP.put)).length∧Dp.fits d ((l.take k).map HP.put)=true∧Below w w wr) (fun _ y _=>Wn - (intOf y).toNat)
 case atStart=>exact⟨0,n,rfl,Zq _,rfl,zd,by simp[Dp.done,HD'.out],by simp[Dp.fits,HD'.out,zd],(aaO _ w).alloc (Zh _) _⟩
 case round=>
  obtain⟨k,s,rfl,hk,rfl,hs,hse,hf,hb⟩:=hrel;have HSE:=L_ hse;have HFK:=L_ hf;have HB1:=L_ hb;clear hse hf hb
  by_cases hlt:k<Wn
  ·obtain⟨g,off,p,e,hg,hm,hc⟩:=(HH.below HB1).EU.hput hlt;have hp':=Zk hm;have hpn:=HH.EX hp';have hpl:=(HH.all p hp').2.2.2;simp only at e;subst e;obtain⟨sw,pA,pn,pc,pd⟩:=p;simp only at hpl hpn;have HC:Hid (wr.rangeAt g (off+k*2) [sw,.slice pA pn pc]):=L_ hc;have HM:=L_ hm;have HPN:=L_ hpn
   have HSt:Hid (Dp.fits d ((l.take (k+1)).map HP.put)=decide (qR s ⟨sw,pA,pn,pc,pd⟩≤1048576)):=by
    rw[Hid,KH HM.out HFK.out HPN.out,←HSE.out]
   have HSl:Hid ((Dp.done d ((l.take (k+1)).map HP.put)).length=qR s ⟨sw,pA,pn,pc,pd⟩):=by
    rw[Hid,zC HM.out HPN.out,←HSE.out]
   have HIN:Hid (qR s ⟨sw,pA,pn,pc,pd⟩≤1048576→Dp.fits d ((l.take (k+1)).map HP.put)=true):=fun q=>by rw[HSt.out];exact ZG q
   have HOUT:Hid (¬qR s ⟨sw,pA,pn,pc,pd⟩≤1048576→b=false):=fun q=>by
    rw[←HF.out];exact Nf (by rw[HSt.out];exact ZE q)
   clear hc hm hpn hp' HSE HFK HSt;have B2:=L_ (HB1.alloc HB1.size (.cells #[sw,.slice pA pn pc] 215));cases sw with
   |true=>
    have HN:Hid (qR s ⟨true,pA,pn,pc,pd⟩=pn):=rfl
    by_cases zz:pn≤1048576
    ·have z3:¬(1048576:Int)<(pn:Int):=by omega
     go_wp2_with (first|(with_reducible refine wpList_load_mid rfl _ _ rfl _ _ rfl _ _ HC.out underlying215 rfl (by kernel_rfl) ?_)|fail);go_wp2
     go_roundw
     case rel=>exact⟨k+1,pn,by go_num,by omega,rfl,zz,by rw[HSl.out,HN.out],HIN (by rw[HN.out];exact zz),B2⟩
     case measure=>simp[intOf];omega
    ·have z3:(1048576:Int)<(pn:Int):=by omega
     have HE:=HOUT (by rw[HN.out];exact zz);have HE2:=L_ HE;clear HE;go_wp2_with (first|(with_reducible refine wpList_load_mid rfl _ _ rfl _ _ rfl _ _ HC.out underlying215 rfl (by kernel_rfl) ?_)|fail);go_wp2;go_ret;rw[HE2.out];exact⟨rfl,B2⟩
   |false=>
    have HN:Hid (qR s ⟨false,pA,pn,pc,pd⟩=s+pn):=rfl
    by_cases zz:s+pn≤1048576
    ·have z3:¬(1048576:Int)<(s:Int)+(pn:Int):=by omega
     go_wp2_with (first|(with_reducible refine wpList_load_mid rfl _ _ rfl _ _ rfl _ _ HC.out underlying215 rfl (by kernel_rfl) ?_)|fail);go_wp2
     go_roundw
     case rel=>exact⟨k+1,s+pn,by go_num,by omega,by go_num,zz,by rw[HSl.out,HN.out],HIN (by rw[HN.out];exact zz),B2⟩
     case measure=>simp[intOf];omega
    ·have z3:(1048576:Int)<(s:Int)+(pn:Int):=by omega
     have HE:=HOUT (by rw[HN.out];exact zz);have HE2:=L_ HE;clear HE;go_wp2_with (first|(with_reducible refine wpList_load_mid rfl _ _ rfl _ _ rfl _ _ HC.out underlying215 rfl (by kernel_rfl) ?_)|fail);go_wp2;go_ret;rw[HE2.out];exact⟨rfl,B2⟩
  ·have HE:Hid (b=true):=by
    have e1:l.take k=l:=Zz (by rw[HL.out];omega);have h1:=HFK.out;rw[e1,HF.out] at h1;exact h1
   go_wp2;go_ret;rw[HE.out];exact⟨rfl,HB1⟩
variable{d:List UInt8}{xs:List Value}{B base:Nat}{A:Option Addr}{w:World}
theorem PL {n c size:Nat}{e:TypeId}(h:w.ownsRow base e size (.slice A n c) n xs):w.ownsRow base e size (.slice A 0 c) 0 []:=by
 refine⟨by simp,?_⟩
 rcases h.2 with ⟨h1,h2⟩|⟨g,cap,cur,h1,h2,h3,h4,h5,h6,h7⟩
 ·injection h1 with h3 h4 h5
  subst h3 h5;exact Or.inl ⟨rfl,rfl⟩
 ·injection h1 with h8 h9 h10
  subst h8 h10;exact Or.inr ⟨g,_,cur,rfl,h2,h3,Zq _,h5,h6,by simp⟩
theorem rU {l:List HP}(h:Dp.fits d (l.map HP.put)=true)(k:Nat):(Dp.done d ((l.take k).map HP.put)).length≤1048576:=by
 rw[List.map_take];exact Dp.vN (Dp.uG h k)
theorem sZ {D:HD}(h:Dp.dF D.disk=true):Dp.fits D.d (D.l.map HP.put)=true:=Dp.kS h
theorem zi {D:HD}(h:Dp.dF D.disk=true):D.l.length≤1024:=by
 have:=Dp.Fb h;simpa[HD.disk] using this
theorem Nw {l:List HP}{p:HP}(hp':p∈l)(h:Dp.fits d (l.map HP.put)=true):p.d.length≤1048576:=by
 obtain⟨k,hk⟩:=List.mem_iff_getElem?.1 hp';have h1:=rU h (k+1);rw[uM hk,Dp.step] at h1
 split at h1
 ·exact h1
 ·rw[Zn] at h1;have:p.put.d.length=p.d.length:=rfl;omega
theorem Te {D:HD}(h:Dp.dF D.disk=true){p:HP}(hp':p∈D.l):p.d.length≤1048576:=Nw hp' (sZ h)
theorem X6 {D:HD}(h:Dp.dF D.disk=true):D.d.length≤1048576:=Dp.nL (sZ h)
theorem FW (D:HD)(w:World)(h:aW w w D)(hm:Dp.dF D.disk=true)(k0:Nat)(hk0:k0≤D.Wn) :
  Calls prog 115 #[.agg #[.slice D.A D.n D.c,.slice D.WA D.Wn D.Wc],(k0:Int)] w fun e w'=>∃A2 c2 m,e=.returned (.tuple #[.slice A2 m c2,true])∧(Dp.done D.d ((D.l.take k0).map HP.put)).length=m∧w'.ownsRow w 5 1 (.slice A2 m c2) m (cb (Dp.done D.d ((D.l.take k0).map HP.put)))∧Below w w w':=by
 have hfit:=sZ hm;have hpl:∀p∈D.l,p.n≤1048576:=fun p hq=>by rw[←h.EX hq];exact Te hm hq
 have hdl:=X6 hm;obtain⟨A,n,c,d,WA,Wn,Wc,l⟩:=D;have hlen:=h.oP;have hdn:=h.Oy;have hwn:=h.Yc;have hk1:=zi hm;simp only at hlen hdn hfit hpl hdl hk0 hwn hk1 ⊢;rw[hdn] at hdl;rw[hlen] at hk1;have z1:decide ((n:Int)≤1048576)=true:=ZG (by omega);have K0:=L_ (aF.new w 49 #[.slice A n c,.slice WA Wn Wc]).drew;have hs2:=fun W=>Ak (P:=prog) underlying47 WA Wn Wc k0 (by omega) W Fy;have HCl:=L_ (vB A n c d (w.alloc (.cells #[.slice A n c,.slice WA Wn Wc] 49)).drew w ((h.rd.alloc (Zh _) _).drew) (by simp) (by omega));have HH:=L_ h;have HF:=L_ hfit;have HPL:=L_ hpl;have HL:=L_ hlen;have HDN:=L_ hdn;clear h hm hfit hpl hlen hdn
 go_enter func115,ntmps115
 go_wp2_with fail
 go_region_held3 (fun w'=>w'.cell? ⟨w,0,none⟩=some (.slice A n c)) (first|exact aF.cell K0 0|exact aF.cell (aF.below K0 b1 K0.lt) 0) ((go_at_call 180;refine HCl.mono ?_;rintro e w1 ⟨A1,c1,rfl,o1,b1⟩))
 have K1:=L_ (aF.below K0 b1 K0.lt);have B1:=L_ (aR ((Ra b1).mono (B':=w.heap.size) (by simp)) (Zh _));have O1:=L_ (aG (base':=w.heap.size) o1 (by simp));clear o1 b1 HCl K0;have y1:=K1.cell 1;go_wp2
 go_loopw [6,7,22] (fun x6 x7 y wr=>∃(k m:Nat) (bs:List UInt8),y=(k:Int)∧k≤k0∧x7=true∧(Dp.done d ((l.take k).map HP.put))=bs∧m≤1048576∧bs.length=m∧wr.ownsRow w 5 1 x6 m (cb bs)∧Below w w wr) (fun _ _ y _=>k0 - (intOf y).toNat)
 case atStart=>exact⟨0,n,d,rfl,Zq _,rfl,rfl,hdl,HDN,O1,B1⟩
 case round=>
  obtain⟨k,m,bs,rfl,hk,rfl,hbs,hm,hbl,ho,hb⟩:=hrel;obtain⟨A2,c2,rfl,_,_,_⟩:=bH ho;have HBS:=L_ hbs;have HBL:=L_ hbl;have HO:=L_ ho;have HB:=L_ hb;clear hbs hbl ho hb
  by_cases hlt:k<k0
  ·obtain⟨g,off,p,e,hg,hmm,hc⟩:=(HH.below HB).EU.hput (aal hlt hk0);have hp':=Zk hmm;have hpn:=HH.EX hp';have hpl:=HPL p hp';have hpa:=(((HH.below HB).all p hp').Qo HB.size (.cells #[p.sw,.slice p.A p.n p.c] 215)).1;simp only at e;subst e;obtain⟨sw,pA,pn,pc,pd⟩:=p;simp only at hpl hpn hpa;have HC:Hid (wr.rangeAt g (off+k*2) [sw,.slice pA pn pc]):=L_ hc;have HPA:=L_ hpa
   have HN:Hid (Dp.done d ((l.take (k+1)).map HP.put)=Dp.step bs ⟨sw,pd⟩):=by
    rw[Hid,uM hmm,HBS.out];rfl
   have HPN:=L_ hpn
   have HSM:Hid ((Dp.step bs ⟨sw,pd⟩).length≤1048576):=by
    rw[Hid,←HN.out];exact rU HF _
   clear hc hmm hpn hp' hpa;have B2:=L_ (HB.alloc HB.size (.cells #[sw,.slice pA pn pc] 215));cases sw with
   |true=>
    have HO2:=L_ ((PL HO).alloc (.cells #[true,.slice pA pn pc] 215));have hs0:=fun W=>nJ (P:=prog) underlying46 A2 m c2 0 (Zq _) W jS;rw[Int.natCast_zero] at hs0;have HSM2:Hid (pn≤1048576):=by have:=HSM.out;rw[←HPN.out];exact this
    have zq:decide ((pn:Int)≤1048576)=true:=ZG (by have:=HSM2.out;omega);go_wp2_with (first|(with_reducible refine wpList_load_mid rfl _ _ rfl _ _ rfl _ _ HC.out underlying215 rfl (by kernel_rfl) ?_)|(at_builtin;refine rG rfl (.tmp 30) (.tmp 32) rfl w.heap.size (.slice A2 0 c2) 0 [] rfl HO2.out w pA pn pc pd rfl HPA.out (by omega) (by have:=B2.out.size;simp at this ⊢;omega) ?_));intro v' w' h1 h2;have H1:=L_ h1;have B3:=L_ (B2.trans (h2.bW HO2 B2.size));obtain⟨A3,c3,rfl,_,_,_⟩:=bH h1;clear h1 h2;go_wp2
    go_roundw
    case rel=>exact⟨k+1,pn,pd,by go_num,by omega,rfl,HN,HSM2,HPN,H1,B3⟩
    case measure=>simp[intOf];omega
   |false=>
    have HO2:=L_ (HO.alloc (.cells #[false,.slice pA pn pc] 215))
    have HSM2:Hid (m+pn≤1048576):=by
     have h3:(bs++pd).length≤1048576:=HSM;rw[Zn,HBL.out,HPN.out] at h3;exact h3
    have zq:decide ((m:Int)+(pn:Int)≤1048576)=true:=ZG (by have:=HSM2.out;omega);go_wp2_with (first|(with_reducible refine wpList_load_mid rfl _ _ rfl _ _ rfl _ _ HC.out underlying215 rfl (by kernel_rfl) ?_)|(at_builtin;refine rG rfl (.tmp 30) (.tmp 32) rfl w.heap.size (.slice A2 m c2) m bs rfl HO2.out w pA pn pc pd rfl HPA.out (by omega) (by have:=B2.out.size;simp at this ⊢;omega) ?_));intro v' w' h1 h2;have H1:=L_ h1;have B3:=L_ (B2.trans (h2.bW HO2 B2.size));obtain⟨A3,c3,rfl,_,_,_⟩:=bH h1;clear h1 h2;go_wp2
    go_roundw
    case rel=>exact⟨k+1,m+pn,bs++pd,by go_num,by omega,by first|rfl|(simp only[zq]),HN,HSM2,by rw[Zn,HBL.out,HPN.out],H1,B3⟩
    case measure=>simp[intOf];omega
  ·have HE:Hid (Dp.done d ((l.take k0).map HP.put)=bs):=by
    have:k=k0:=by omega
    rw[Hid,←this];exact HBS
   go_wp2
   go_ret2
   exact⟨A2,c2,m,rfl,by rw[HE.out];exact HBL,by rw[HE.out];exact HO,HB⟩
theorem D6 {D:HD}(h:aW w B D):D.l.take D.Wn=D.l:=Zz (by rw[h.oP];exact Zh _)
theorem GJ (D:HD)(w:World)(h:aW w w D)(hm:Dp.dF D.disk=true) :
  Calls prog 116 #[.agg #[.slice D.A D.n D.c,.slice D.WA D.Wn D.Wc]] w fun e w'=>∃A2 c2 m,e=.returned (.tuple #[.slice A2 m c2,.int .i64 0])∧(Dp.seen D.disk).length=m∧w'.ownsRow w 5 1 (.slice A2 m c2) m (cb (Dp.seen D.disk))∧Below w w w':=by
 have K0:=L_ (aF.new w 49 #[.slice D.A D.n D.c,.slice D.WA D.Wn D.Wc]);have HA:=L_ (h.alloc (.cells #[.slice D.A D.n D.c,.slice D.WA D.Wn D.Wc] 49));have B0:=L_ ((aaO _ w).alloc (Zh w) (.cells #[.slice D.A D.n D.c,.slice D.WA D.Wn D.Wc] 49));have HS:Hid (Dp.done D.d ((D.l.take D.Wn).map HP.put)=Dp.seen D.disk):=by rw[Hid,D6 h];rfl
 have HM:=L_ hm;clear h hm
 go_enter func116,ntmps116
 go_wp2_with fail;refine(gB D _ true HM HA).mono ?_;rintro e w1 ⟨rfl,hb⟩;rw[show eD true=0 from rfl];have K1:=L_ (aF.below K0 hb K0.lt);have HA1:=L_ (HA.up hb);have B1:=L_ (B0.trans (hb.mono B0.size));clear hb K0 HA B0;have y0:=K1.cell 0;have y1:=K1.cell 1;go_wp2_with fail;refine(FW D w1 HA1 HM D.Wn (Zh _)).mono ?_;rintro e w2 ⟨A2,c2,m,rfl,hm2,ho,hb⟩;rw[HS.out] at hm2 ho;have HM2:=L_ hm2;have HO:=L_ (aG (base':=w.heap.size) ho B1.size);have B2:=L_ (B1.trans (hb.mono B1.size));clear hm2 ho hb y0 y1 K1;go_wp2
 go_ret2
 exact⟨_,_,_,rfl,HM2,HO,B2⟩
theorem Js (D:HD)(w:World)(h:aW w w D)(hm:Dp.dF D.disk=false) :
  Calls prog 116 #[.agg #[.slice D.A D.n D.c,.slice D.WA D.Wn D.Wc]] w fun e w'=>e=.returned (.tuple #[(),.int .i64 30])∧Below w w w':=by
 have HA:=L_ (h.alloc (.cells #[.slice D.A D.n D.c,.slice D.WA D.Wn D.Wc] 49));have B0:=L_ ((aaO _ w).alloc (Zh w) (.cells #[.slice D.A D.n D.c,.slice D.WA D.Wn D.Wc] 49));have HM:=L_ hm;clear h hm
 go_enter func116,ntmps116
 go_wp2_with fail;refine(gB D _ false HM HA).mono ?_;rintro e w1 ⟨rfl,hb⟩;rw[show eD false=30 from rfl];have B1:=L_ (B0.trans (hb.mono B0.size));clear hb HA B0;go_wp2
 go_ret2
 exact⟨rfl,B1⟩
theorem QD (D:HD)(w:World)(h:aW w w D) :
  Calls prog 116 #[.agg #[.slice D.A D.n D.c,.slice D.WA D.Wn D.Wc]] w fun e w'=>∃A2 c2 m,e=.returned (.tuple #[.slice A2 m c2,(Dp.see D.disk).2])∧(Dp.see D.disk).1.length=m∧w'.ownsRow w 5 1 (.slice A2 m c2) m (cb (Dp.see D.disk).1)∧Below w w w':=by
 cases hm:Dp.dF D.disk with
 |true=>
  have e:Dp.see D.disk=(Dp.seen D.disk,0):=by rw[Dp.see,aaS hm]
  rw[e];exact GJ D w h hm
 |false=>
  have e:Dp.see D.disk=([],30):=by rw[Dp.see,aaR (by rw[hm];simp)]
  rw[e];refine(Js D w h hm).mono ?_;rintro e w1 ⟨rfl,hb⟩;exact⟨none,0,0,rfl,rfl,aaU _ _ _ _,hb⟩
theorem Pv (D:HD)(w:World)(h:aW w w D) :
  Calls prog 124 #[.agg #[.slice D.A D.n D.c,.slice D.WA D.Wn D.Wc]] w fun e w'=>∃D',e=.returned (.tuple #[.agg #[.slice D'.A D'.n D'.c,.slice D'.WA D'.Wn D'.Wc],(Dp.sync D.disk).2])∧bF w' w D'∧D'.disk=(Dp.sync D.disk).1∧Below w w w':=by
 have hz:w.heap.size+1<w.heap.size+2:=by omega
 cases hm:Dp.dF D.disk with
 |true=>
  have e:Dp.sync D.disk=(⟨Dp.seen D.disk,[]⟩,0):=by rw[Dp.sync,aaS hm]
  rw[e];have hsl:=Dp.oV hm;have HA:=L_ ((h.alloc (.cells #[.slice D.A D.n D.c,.slice D.WA D.Wn D.Wc] 49)).alloc (.cells #[(),()] 49));have B0:=L_ (((aaO _ w).alloc (Zh w) (.cells #[.slice D.A D.n D.c,.slice D.WA D.Wn D.Wc] 49)).alloc (by simp) (.cells #[(),()] 49));have K0:=L_ (aF.newAt (w:=w.alloc (.cells #[.slice D.A D.n D.c,.slice D.WA D.Wn D.Wc] 49)) (g:=w.heap.size+1) (by simp) 49 #[(),()]);have HM:=L_ hm;clear h hm e
  go_enter func124,ntmps124
  go_wp2_with fail;refine(GJ D _ HA HM).mono ?_;rintro e w1 ⟨A2,c2,m,rfl,hm2,ho,hb⟩;have K1:=L_ (aF.below K0 hb K0.lt);have HM2:=L_ hm2;have HSL:Hid (m≤1048576):=by rw[Hid,←hm2];exact hsl
  have HO:=L_ (aG (base':=w.heap.size) ho B0.size);have B1:=L_ (B0.trans (hb.mono B0.size));have HW1:=L_ (aQ ho K1 (by decide));clear hm2 ho hb K0 HA B0 hsl;have z0:=K1.cell 0;have z1:=K1.cell 1;have fz0:=K1.frozen 0;have fz1:=K1.frozen 1;go_wp2;exact aaT (v:=.tuple #[.agg #[.slice A2 m c2,.slice none 0 0],.int .i64 0]) (by simp[results,results124,go_sem,z0,z1]) rfl ⟨⟨A2,m,c2,Dp.seen D.disk,none,0,0,[]⟩,rfl,⟨aT (aT HO.out K1.out (by decide) 0 _) (K1.out.aM 0 _) (by decide) 1 _,aaU _ _ _ _,by show m≤_;have:=HSL.out;omega,Zq _,by simp⟩,rfl,(B1.out.setCell (by simp) _).setCell (by simp) _⟩
 |false=>
  have e:Dp.sync D.disk=(Dp.fQ,30):=by rw[Dp.sync,aaR (by rw[hm];simp)]
  rw[e];have HA:=L_ ((h.alloc (.cells #[.slice D.A D.n D.c,.slice D.WA D.Wn D.Wc] 49)).alloc (.cells #[(),()] 49));have B0:=L_ (((aaO _ w).alloc (Zh w) (.cells #[.slice D.A D.n D.c,.slice D.WA D.Wn D.Wc] 49)).alloc (by simp) (.cells #[(),()] 49));have K0:=L_ (aF.newAt (w:=w.alloc (.cells #[.slice D.A D.n D.c,.slice D.WA D.Wn D.Wc] 49)) (g:=w.heap.size+1) (by simp) 49 #[(),()]);have HM:=L_ hm;clear h hm e
  go_enter func124,ntmps124
  go_wp2_with fail;refine(Js D _ HA HM).mono ?_;rintro e w1 ⟨rfl,hb⟩;have K1:=L_ (aF.below K0 hb K0.lt);have B1:=L_ (B0.trans (hb.mono B0.size));clear hb K0 HA B0;have z0:=K1.cell 0;have z1:=K1.cell 1;have fz0:=K1.frozen 0;have fz1:=K1.frozen 1;go_wp2;exact aaT (v:=.tuple #[.agg #[(),()],.int .i64 30]) (by simp[results,results124,go_sem,z0,z1]) rfl ⟨iO,rfl,cZ _ _,rfl,(B1.setCell (by simp) _).setCell (by simp) _⟩
variable{a:Act}{K:Act→World→Prop}{ops:Array Oper}{Q:Exit→Act→World→Prop}{g h1 h2:Nat}{o:Oper}{t t1 t2:TypeId}{v:Value}{W:World}
theorem EI {a b c:World}{r:Option Nat}(h:a.grownBy b r)(k:b.grownBy c r):a.grownBy c r:=
 ⟨k.os.trans h.os,k.tape.trans h.tape,k.output.trans h.output,Zt h.size k.size,fun i hi hne=>(k.block i (aal hi h.size) hne).trans (h.block i hi hne)⟩
theorem Ap {a b c:World}{r:Option Nat}(h:a.grownBy b r)(k:b.grownBy c v.ownBlock)(hv:∀g,v.ownBlock=some g→a.heap.size≤g):a.grownBy c r:=
 ⟨k.os.trans h.os,k.tape.trans h.tape,k.output.trans h.output,Zt h.size k.size,fun i hi hne=>(k.block i (aal hi h.size) (fun e=>by have:=hv i e.symm;omega)).trans (h.block i hi hne)⟩
theorem below_grown {a b c:World}(h:Below B a b)(k:b.grownBy c (some g))(hB:B≤b.heap.size)(hg:B≤g):Below B a c:=
 ⟨k.os.trans h.os,k.tape.trans h.tape,k.output.trans h.output,Zt h.size k.size,fun i hi=>(k.block i (aal hi hB) (fun e=>by injection e with e;omega)).trans (h.block i hi)⟩
theorem nX {a b c:World}(h:Below B a b)(k:b.grownBy c none)(hB:B≤b.heap.size):Below B a c:=
 ⟨k.os.trans h.os,k.tape.trans h.tape,k.output.trans h.output,Zt h.size k.size,fun i hi=>(k.block i (aal hi hB) (by simp)).trans (h.block i hi)⟩
theorem rV {a b:World}{n size:Nat}{e:TypeId}(h:a.ownsRow base e size v n xs)(k:a.grownBy b none):b.ownsRow base e size v n xs:=
 aN h fun g' hg=>k.block g' (uI h hg).2 (by simp)
theorem vK {a b:World}{n size:Nat}{e:TypeId}{cs:Array Value}(h:a.ownsRow base e size v n xs)(k:a.grownBy b (some g))(hb:aF a g t cs)(hne:e≠t):b.ownsRow base e size v n xs:=by
 refine aN h fun g' hg=>k.block g' (uI h hg).2 ?_;intro e;injection e with e
 subst e;exact aQ h hb hne hg
theorem kM {n size:Nat}{e:TypeId}(h:w.ownsRow base e size v n xs):∃A c,v=.slice A n c:=by
 rcases h.2 with ⟨rfl,rfl⟩|⟨g,cap,cur,rfl,_⟩
 ·exact⟨none,0,rfl⟩
 ·exact⟨_,cap,rfl⟩
theorem Cy (w:World)(sw:Bool)(A:Option Addr)(n c:Nat)(d:List UInt8):Reads (w.alloc (.cells #[sw,.slice A n c] 215)) (w.heap.size+1) 2 (some ⟨w,0,none⟩) 1 (hp [⟨sw,A,n,c,d⟩]):=by
 refine⟨rfl,fun _=>⟨_,rfl,by simp,fun j u hu=>?_⟩⟩;have hadd:(⟨w,0,none⟩:Addr).add j=⟨w,j,none⟩:=by unfold Addr.add;split<;>simp_all
 rw[hadd,(aF.new w 215 #[sw,.slice A n c]).cell j];simpa[hp,hcells] using hu
theorem Mt {E:Prop}(hgd:o.guard=none)(sl x:Operand)
  (ho:o.op=.call { callee:=.builtin .append,args:=#[sl,x],argTypes:=#[47,47] })
  (B:Nat) (A:Option Addr) (n:Nat) (l:List HP) (hs:a.eval sl=.slice A n n) (hl:Reads w B 2 A n (hp l))
  (A2:Option Addr) (c:Nat) (p:HP) (hx:a.eval x=.slice A2 1 c) (hr:Reads w (B+1000000) 2 A2 1 (hp [p])∨∃B2,Reads w B2 2 A2 1 (hp [p]))
  (hn:n≤1000000000000)
  (h:∀v' w',w'.ownsRow w 215 2 v' (n+1) (hp (l++[p]))→w.grownBy w' none→K (a.put o.dst v') w') :
  if Region.wanted o (yielded ops a.tmps)=true then Oper.wp prog o a w K Q else E:=by
 obtain⟨i0,hi0,hz0,hz1,hz2⟩:=info_parts yA
 obtain⟨B2,hr⟩:∃B2,Reads w B2 2 A2 1 (hp [p]):=by
  rcases hr with h|h
  ·exact⟨_,h⟩
  ·exact h
 obtain⟨ad,rfl,_,hc2⟩:=hr.2 (by omega)
 have holds:∀b,A=some b→∀j u,(hp l)[j]?=some u→w.cell? (b.add j)=some u:=by
  intro b hb j u hu
  rcases aao n with h0|h0
  ·subst h0;have:=hl.MW;obtain rfl:l=[]:=ZY this;simp[hp] at hu
  ·obtain⟨ad,e,_,hc⟩:=hl.2 h0;rw[hb] at e;injection e with e
   subst e;exact hc j u hu
 refine step_append_grows hgd sl x 47 ho 215 i0 _ 2 32 underlying47 hi0 hz0 hz1 hz2 rfl (by decide) A n n (hp l) hs ?_ hl.1 holds ad 1 c (hp [p]) hx hr.1 hc2 (Ql _) (by omega) (by simp only[maxLen];omega) (by omega) ?_
 ·intro e;subst e
  rcases aao n with h0|h0
  ·exact⟨h0,h0⟩
  ·obtain⟨ad,e,_⟩:=hl.2 h0;cases e
 ·intro v' w' h1 h2;exact h v' w' (by rw[Ba];exact h1) h2
theorem bF.aM {D:HD}{cs:Array Value}(h:bF w base D)(hb:aF w g 49 cs)(i:Nat)(u:Value):bF (w.setCell ⟨g,i,none⟩ u) base D:=
 ⟨aT h.rd hb (by decide) i u,aT h.EU hb (by decide) i u,h.lim,h.Et,fun p hp'=>⟨aT (h.all p hp').1 hb (by decide) i u,(h.all p hp').2⟩⟩
def Kl (w3:World)(g7:Nat)(A1:Option Addr)(n c1:Nat)(lp:List HP)(y:Value)(wr:World):Prop:=
 ∃(k:Nat) (WA:Option Addr) (Wc:Nat) (l':List HP),y=(k:Int)∧k≤lp.length∧w3.grownBy wr (some g7)∧aF wr g7 49 #[.slice A1 n c1,.slice WA k Wc] ∧
  wr.ownsRow w3 215 2 (.slice WA k Wc) k (hp l')∧l'.map HP.put=(lp.take k).map HP.put∧∀q∈l',wr.ownsRow w3 5 1 (.slice q.A q.n q.c) q.n (cb q.d)∧q.n≤140737488351232
theorem cells5 {a b c d:Value}(k1:aF W h1 t1 #[a,b])(k2:aF W h2 t2 #[c,d]):W.cell? ⟨h1,1,none⟩=some b∧W.cell? ⟨h2,0,none⟩=some c∧W.cell? ⟨h2,1,none⟩=some d:=⟨k1.cell 1,k2.cell 0,k2.cell 1⟩
theorem Kh (D:HD)(p:HP)(w:World)(b:Bool)(h:aW w w D)(hp':fE w w p)(hm:Dp.dF D.disk=true)(hb:Dp.dF ⟨D.d,D.disk.wait++[p.put]⟩=b) :
  Calls prog 179 #[.agg #[.slice D.A D.n D.c,.slice D.WA D.Wn D.Wc],.agg #[.bool p.sw,.slice p.A p.n p.c]] w fun e w'=>∃D',e=.returned (.tuple #[.agg #[.slice D'.A D'.n D'.c,.slice D'.WA D'.Wn D'.Wc],.int .i64 (if b=true then 0 else 9)])∧bF w' w.heap.size D'∧D'.disk=(if b=true then⟨D.d,D.disk.wait++[p.put]⟩ else Dp.fQ)∧Below w.heap.size w w':=by
 have hwl:=zi hm;have hlen:=h.oP;have hlim:=h.lim;have hwnc:=h.Yc;obtain⟨A,n,c,d,WA,Wn,Wc,l⟩:=D;obtain⟨sw,pA,pn,pc,pd⟩:=p;simp only at hwl hlen hlim hwnc ⊢;rw[hlen] at hwl;have hz:w.heap.size+1<w.heap.size+2:=by omega
 have HA:=L_ (((h.alloc (.cells #[.slice A n c,.slice WA Wn Wc] 49)).alloc (.cells #[sw,.slice pA pn pc] 215)).alloc (.cells #[(),()] 49));have HP0:=L_ hp';have HD0:=L_ h;have HM:=L_ hm;have HBB:=L_ hb;have HL:=L_ hlen;have B0:=L_ ((((aaO _ w).alloc (Zh w) (.cells #[.slice A n c,.slice WA Wn Wc] 49)).alloc (by simp) (.cells #[sw,.slice pA pn pc] 215)).alloc (by simp;omega) (.cells #[(),()] 49));have KD:=L_ (((aF.new w 49 #[.slice A n c,.slice WA Wn Wc]).alloc (.cells #[sw,.slice pA pn pc] 215)).alloc (.cells #[(),()] 49));have KP:=L_ ((aF.newAt (w:=w.alloc (.cells #[.slice A n c,.slice WA Wn Wc] 49)) (g:=w.heap.size+1) (by simp) 215 #[sw,.slice pA pn pc]).alloc (.cells #[(),()] 49));have KR:=L_ (aF.newAt (w:=(w.alloc (.cells #[.slice A n c,.slice WA Wn Wc] 49)).alloc (.cells #[sw,.slice pA pn pc] 215)) (g:=w.heap.size+2) (by simp) 49 #[(),()]);have hs3:=fun W=>wG (P:=prog) underlying47 WA Wn Wc hwnc W Fy;clear h hp' hm hb hlen
 go_enter func179,ntmps179
 go_wp2_with fail;refine(gB ⟨A,n,c,d,WA,Wn,Wc,l⟩ _ true HM HA).mono ?_;rintro e w1 ⟨rfl,hb1⟩;rw[show eD true=0 from rfl];have KD1:=L_ (aF.below KD hb1 KD.lt);have KP1:=L_ (aF.below KP hb1 KP.lt);have KR1:=L_ (aF.below KR hb1 KR.lt);have B1:=L_ (B0.trans (hb1.mono B0.size));clear hb1 KD KP KR B0 HA;have y0:=KD1.cell 0;have y1:=KD1.cell 1;go_wp2_with fail;refine(vB A n c d w1 w (HD0.rd.below B1) B1.size hlim).mono ?_;rintro e w2 ⟨A1,c1,rfl,o1,b1⟩;have KD2:=L_ ((KD1.below b1 KD1.lt).alloc (.cells #[.slice A1 n c1,()] 49));have KP2:=L_ ((KP1.below b1 KP1.lt).alloc (.cells #[.slice A1 n c1,()] 49));have KR2:=L_ ((KR1.below b1 KR1.lt).alloc (.cells #[.slice A1 n c1,()] 49));have K7:=L_ (aF.new w2 49 #[.slice A1 n c1,()]);have O1:=L_ ((aG (base':=w.heap.size) o1 B1.size).alloc (.cells #[.slice A1 n c1,()] 49));have B2:=L_ ((B1.trans (b1.mono B1.size)).alloc (Zt B1.size b1.size) (.cells #[.slice A1 n c1,()] 49));have hz1:=KR1.lt;have hz2:=b1.size;clear o1 b1 y0 y1 KD1 KP1 KR1 B1;go_wp2_with fail;have HWS:=L_ (show(w2.alloc (.cells #[.slice A1 n c1,()] 49)).heap.size=w2.heap.size+1 by simp);generalize w2.alloc (.cells #[.slice A1 n c1,()] 49)=W at *;generalize w2.heap.size=g7 at *;have HRW:=L_ (HD0.EU.below B2);have hz3:w.heap.size+2<g7:=by omega
 go_region_held3 (fun w'=>w'.cell? ⟨w,1,none⟩=some (.slice WA Wn Wc)∧w'.cell? ⟨w.heap.size+1,0,none⟩=some (.bool sw)∧w'.cell? ⟨w.heap.size+1,1,none⟩=some (.slice pA pn pc))
  (first|exact cells5 KD2.drew KP2.drew|exact cells5 (KD2.drew.alloc _) (KP2.drew.alloc _)|exact cells5 ((KD2.drew.alloc _).grown g3 (by simp)) ((KP2.drew.alloc _).grown g3 (by simp)))
  ((refine Mt (by rfl) (.tmp 28) (.tmp 30) (by rfl) w WA Wn l (by simp[Act.eval,Act.put]) (HRW.drew.alloc B2.size _) (some ⟨W,0,none⟩) 1 ⟨sw,pA,pn,pc,pd⟩ (by simp[Act.eval,Act.put]) (Or.inr ⟨_,Cy W.drew sw pA pn pc pd⟩) (by omega) ?_;intro v3 w3 o3 g3;obtain⟨A3,c3,rfl⟩:=kM o3))
 obtain⟨lp,hlp⟩:∃lp,l++[⟨sw,pA,pn,pc,pd⟩]=lp:=⟨_,rfl⟩;rw[hlp] at o3;have HLP:Hid (lp.length=Wn+1):=by rw[Hid,←hlp,Zn,HL.out];rfl
 have HLM:Hid (lp.map HP.put=l.map HP.put++[⟨sw,pd⟩]):=by rw[Hid,←hlp,aag];rfl
 have HALL:Hid (∀q∈lp,fE w w q):=by
  intro q hq;rw[←hlp] at hq
  rcases Zm.1 hq with hq|hq
  ·exact HD0.all q hq
  ·rw[Zp] at hq;rw[hq];exact HP0
 have hsz3:W.heap.size+1≤w3.heap.size:=by have:=g3.size;simpa using this
 have hsz4:g7+2≤w3.heap.size:=by have:=HWS.out;omega
 have B3:=L_ (nX (B2.drew.alloc B2.size (.cells #[sw,.slice pA pn pc] 215)) g3 (Zt B2.size (by simp)));have K73:=L_ (((K7.drew.alloc (.cells #[sw,.slice pA pn pc] 215)).grown g3 (by simp)));have KR3:=L_ (((KR2.drew.alloc (.cells #[sw,.slice pA pn pc] 215)).grown g3 (by simp)));have O13:=L_ (rV ((show W.drew.ownsRow w 5 1 (.slice A1 n c1) n (cb d) from aN O1 fun _ _=>rfl).alloc (.cells #[sw,.slice pA pn pc] 215)) g3);have O3:=L_ o3;clear o3 g3 hlp KD2 KP2 KR2 K7 O1 B2 HRW hs3;go_wp2
 go_loopw [33] (fun y wr=>Kl w3 g7 A1 n c1 lp y wr) (fun y _=>Wn+1 - (intOf y).toNat)
 case atStart=>exact⟨0,none,0,[],rfl,Zq _,World.grownBy.refl _ _,K73,aaU _ _ _ _,rfl,by simp⟩
 case round=>
  obtain⟨k,WA2,Wc2,l',rfl,hk,hg,hK,hO,hl',hA⟩:=hrel;have HG:=L_ hg;have HK:=L_ hK;have HO:=L_ hO;have HL':=L_ hl';have HA:=L_ hA;clear hg hK hO hl' hA;rw[HLP.out] at hk;have HBW:=L_ (below_grown B3 HG B3.size (by omega));have hszr:=HG.size
  by_cases hlt:k<Wn+1
  ·have HO3:=L_ (vK O3 HG K73 (by decide));obtain⟨g,off,q,e,hgg,hmm,hc⟩:=(Reads.bO HO3).hput hlt;have hqa:=HALL q (Zk hmm);obtain⟨qw,qA,qn,qc,qd⟩:=q;subst e;have HC:Hid (wr.rangeAt g (off+k*2) [qw,.slice qA qn qc]):=L_ hc;have HM2:=L_ hmm;have HQ:=L_ ((hqa.below HBW).Qo HBW.size (.cells #[qw,.slice qA qn qc] 215));have hqlim:qn≤140737488351232:=hqa.2.2.2;clear hc hmm hqa;go_wp2_with (first|(with_reducible refine wpList_load_mid rfl _ _ rfl _ _ rfl _ _ HC.out underlying215 rfl (by kernel_rfl) ?_)|fail);have KG:=L_ (HK.alloc (.cells #[qw,.slice qA qn qc] 215)).drew;have KB:=L_ (aF.new wr 215 #[qw,.slice qA qn qc]).drew;have HS0:=L_ (cells5 KG KB);refine eH 10 (fun w'=>w'.cell? ⟨g7,1,none⟩=some (.slice WA2 k Wc2)∧w'.cell? ⟨wr,0,none⟩=some (.bool qw)∧w'.cell? ⟨wr,1,none⟩=some (.slice qA qn qc)) (by kernel_rfl) (by kernel_rfl) ?_;refine d9 0 HS0 (h:=d9 2 HS0 (h:=d9 4 HS0 (h:=d9 1 HS0 (h:=?_))));try simp only[Act.put,aaI,aaJ,aaK]
   refine d9 3 HS0 (h:=d9 5 HS0 (h:=?_));try simp only[Act.put,aaI,aaJ,aaK]
   refine qW (i:=6) rfl (by kernel_rfl) ?_;go_wp2_with fail;refine(vB qA qn qc qd (wr.alloc (.cells #[qw,.slice qA qn qc] 215)).drew w HQ.1.drew (by have:=HBW.size;simp;omega) hqlim).mono ?_;rintro e w4 ⟨A4,c4,rfl,o4,b4⟩;have HG4:=L_ (EI (kN (jQ HG (.cells #[qw,.slice qA qn qc] 215))) (bV b4 (some g7)));have KG4:=L_ (KG.below b4 KG.lt);have KB4:=L_ (KB.below b4 KB.lt);have HO4:=L_ (own_below (w:=(wr.alloc (.cells #[qw,.slice qA qn qc] 215)).drew) (aN (HO.alloc (.cells #[qw,.slice qA qn qc] 215)) fun _ _=>rfl) b4);have HA4:Hid (∀q∈l',w4.ownsRow w3 5 1 (.slice q.A q.n q.c) q.n (cb q.d)∧q.n≤140737488351232):=fun q hq=>⟨own_below (w:=(wr.alloc (.cells #[qw,.slice qA qn qc] 215)).drew) (aN ((HA q hq).1.alloc (.cells #[qw,.slice qA qn qc] 215)) fun _ _=>rfl) b4,(HA q hq).2⟩;have hsw4:wr.heap.size+1≤w4.heap.size:=by have:=b4.size;simpa using this
   have HLT:Hid (∀g,(Value.slice WA2 k Wc2).ownBlock=some g→w3.heap.size≤g∧g<wr.heap.size):=fun g hg=>uI HO hg;have O4:=L_ (aG (base':=w3.heap.size) o4 (by simp;omega));have HS4:=L_ (cells5 KG4 KB4);clear o4 b4 HG HK HO HA KG KB HS0 HC HQ;go_wp2_with fail;simp only[Qn];refine⟨HS4,?_⟩;refine d9 7 HS4 (h:=?_);try simp only[Act.put,aaI,aaJ,aaK]
   have KG5:=L_ (KG4.alloc (.cells #[qw,.slice A4 qn c4] 215));have KB5:=L_ (KB4.alloc (.cells #[qw,.slice A4 qn c4] 215));have HS5:=L_ (cells5 KG5 KB5);refine qW (i:=8) rfl (by kernel_rfl) ?_;go_wp2_with fail;simp only[Qn];refine⟨HS5,?_⟩;refine qW (i:=9) rfl (by kernel_rfl) ?_;refine(TS rfl (.tmp 38) (.tmp 45) rfl w3.heap.size (.slice WA2 k Wc2) k l' rfl (HO4.alloc (.cells #[qw,.slice A4 qn c4] 215)) (w4.heap.size+1) (some ⟨w4,0,none⟩) 1 ⟨qw,A4,qn,c4,qd⟩ rfl (Cy w4 qw A4 qn c4 qd) (by omega) (by simp;omega) ?_);intro v5 w5 o5 g5;have KG6:=L_ (KG5.grown g5.1 (fun e=>aQ (HO4.alloc (.cells #[qw,.slice A4 qn c4] 215)) KG5 (by decide) e.symm));have KB6:=L_ (KB5.grown g5.1 (fun e=>by have:=(HLT _ e.symm).2;omega));have HG6:=L_ (Ap (jQ HG4 (.cells #[qw,.slice A4 qn c4] 215)) g5.1 (fun g hg=>(HLT g hg).1))
   have HA6:Hid (∀q∈l'++[⟨qw,A4,qn,c4,qd⟩],w5.ownsRow w3 5 1 (.slice q.A q.n q.c) q.n (cb q.d)∧q.n≤140737488351232):=by
    intro q hq
    rcases Zm.1 hq with hq|hq
    ·exact⟨kR ((HA4 q hq).1.alloc _) (HO4.alloc _) (by decide) g5,(HA4 q hq).2⟩
    ·rw[Zp] at hq;subst hq;exact⟨kR (O4.alloc _) (HO4.alloc _) (by decide) g5,hqlim⟩
   have HS6:=L_ (cells5 KG6 KB6);obtain⟨A5,c5,rfl⟩:=kM o5;have O6:=L_ o5;have hsw6:=g5.1.size;clear o5 g5 HG4 KG4 KB4 HO4 HA4 O4 HS4 KG5 KB5 HS5 HLT;go_wp2_with fail;simp only[Qn];refine⟨HS6,?_⟩;refine lH (by kernel_rfl) ?_;have y1:=KG6.cell 1;have fz1:=KG6.frozen 1;go_wp2
   go_roundw
   case rel=>exact⟨k+1,A5,c5,l'++[⟨qw,A4,qn,c4,qd⟩],by go_num,by rw[HLP.out];omega,dx HG6 (Or.inl rfl) _,KG6.aM 1 _,aT O6 KG6 (by decide) 1 _,by rw[aag,HL'.out,jV HM2.out];rfl,fun q hq=>⟨aT (HA6 q hq).1 KG6 (by decide) 1 _,(HA6 q hq).2⟩⟩
   case measure=>simp[intOf];omega
  ·obtain rfl:k=Wn+1:=by omega
   have KRr:=L_ (KR3.grown HG (by intro e;injection e with e;omega));have Or:=L_ (vK O13 HG K73 (by decide))
   have HLl:Hid (l'.map HP.put=l.map HP.put++[⟨sw,pd⟩]):=by
    rw[Hid,HL'.out,Zz (by rw[HLP.out];exact Zh _),HLM.out]
   have OD:Hid (bF wr w ⟨A1,n,c1,d,WA2,Wn+1,Wc2,l'⟩):=L_ ⟨Or,aG HO B3.size,hlim,by show Wn+1≤_;omega,fun q hq=>⟨aG (HA q hq).1 B3.size,(HA q hq).2⟩⟩;have HDk:Hid ((⟨A1,n,c1,d,WA2,Wn+1,Wc2,l'⟩:HD).disk=⟨d,l.map HP.put++[⟨sw,pd⟩]⟩):=by rw[Hid,HD.disk];simp only[HLl.out]
   have HMb:Hid (Dp.dF (⟨A1,n,c1,d,WA2,Wn+1,Wc2,l'⟩:HD).disk=b):=by rw[Hid,HDk.out];exact HBB
   clear HO HA HL' Or HLl HLM HLP HALL KR3 K73 O3 O13 B3 HG;have y0:=HK.cell 0;have y1:=HK.cell 1;cases b with
   |true=>
    go_wp2_with fail;refine(gB ⟨A1,n,c1,d,WA2,Wn+1,Wc2,l'⟩ wr true HMb OD.at_).mono ?_;rintro e w7 ⟨rfl,hb7⟩;rw[show eD true=0 from rfl];have HK7:=L_ (HK.below hb7 HK.lt);have KR7:=L_ (KRr.below hb7 KRr.lt);have OD7:=L_ (OD.below hb7);have B7:=L_ (HBW.trans (hb7.mono HBW.size));clear hb7 HK KRr OD HBW y0 y1;have y0:=HK7.cell 0;have y1:=HK7.cell 1;have z0:=KR7.cell 0;have z1:=KR7.cell 1;have fz0:=KR7.frozen 0;have fz1:=KR7.frozen 1;go_wp2;exact aaT (v:=.tuple #[.agg #[.slice A1 n c1,.slice WA2 (Wn+1:Nat) Wc2],.int .i64 0]) (by simp[results,results179,go_sem,z0,z1]) rfl ⟨⟨A1,n,c1,d,WA2,Wn+1,Wc2,l'⟩,rfl,(OD7.aM KR7 0 _).aM (KR7.aM 0 _) 1 _,HDk,(B7.setCell (by simp;omega) _).setCell (by simp;omega) _⟩
   |false=>
    go_wp2_with fail;refine(gB ⟨A1,n,c1,d,WA2,Wn+1,Wc2,l'⟩ wr false HMb OD.at_).mono ?_;rintro e w7 ⟨rfl,hb7⟩;rw[show eD false=30 from rfl];have KR7:=L_ (KRr.below hb7 KRr.lt);have B7:=L_ (HBW.trans (hb7.mono HBW.size));clear hb7 HK KRr OD HBW y0 y1;have z0:=KR7.cell 0;have z1:=KR7.cell 1;have fz0:=KR7.frozen 0;have fz1:=KR7.frozen 1;go_wp2;exact aaT (v:=.tuple #[.agg #[(),()],.int .i64 9]) (by simp[results,results179,go_sem,z0,z1]) rfl ⟨iO,rfl,cZ _ _,rfl,(B7.setCell (by simp;omega) _).setCell (by simp;omega) _⟩
theorem NS (D:HD)(p:HP)(w:World)(h:aW w w D)(hm:Dp.dF D.disk=false) :
  Calls prog 179 #[.agg #[.slice D.A D.n D.c,.slice D.WA D.Wn D.Wc],.agg #[p.sw,.slice p.A p.n p.c]] w fun e w'=>e=.returned (.tuple #[.agg #[(),()],.int .i64 30])∧Below w w w':=by
 obtain⟨sw,pA,pn,pc,pd⟩:=p;simp only;have hz:w.heap.size+1<w.heap.size+2:=by omega
 have HA:=L_ (((h.alloc (.cells #[.slice D.A D.n D.c,.slice D.WA D.Wn D.Wc] 49)).alloc (.cells #[sw,.slice pA pn pc] 215)).alloc (.cells #[(),()] 49));have HM:=L_ hm;have B0:=L_ ((((aaO _ w).alloc (Zh w) (.cells #[.slice D.A D.n D.c,.slice D.WA D.Wn D.Wc] 49)).alloc (by simp) (.cells #[sw,.slice pA pn pc] 215)).alloc (by simp;omega) (.cells #[(),()] 49));have KR:=L_ (aF.newAt (w:=(w.alloc (.cells #[.slice D.A D.n D.c,.slice D.WA D.Wn D.Wc] 49)).alloc (.cells #[sw,.slice pA pn pc] 215)) (g:=w.heap.size+2) (by simp) 49 #[(),()]);clear h hm
 go_enter func179,ntmps179
 go_wp2_with fail;refine(gB D _ false HM HA).mono ?_;rintro e w1 ⟨rfl,hb1⟩;rw[show eD false=30 from rfl];have KR7:=L_ (aF.below KR hb1 KR.lt);have B7:=L_ (B0.trans (hb1.mono B0.size));clear hb1 KR B0 HA;have z0:=KR7.cell 0;have z1:=KR7.cell 1;have fz0:=KR7.frozen 0;have fz1:=KR7.frozen 1;go_wp2;exact aaT (v:=.tuple #[.agg #[(),()],.int .i64 30]) (by simp[results,results179,go_sem,z0,z1]) rfl ⟨rfl,(B7.setCell (by simp;omega) _).setCell (by simp;omega) _⟩
theorem E8 (D:HD)(p:HP)(w:World)(h:aW w w D)(hp':fE w w p) :
  Calls prog 179 #[.agg #[.slice D.A D.n D.c,.slice D.WA D.Wn D.Wc],.agg #[p.sw,.slice p.A p.n p.c]] w fun e w'=>∃D',e=.returned (.tuple #[.agg #[.slice D'.A D'.n D'.c,.slice D'.WA D'.Wn D'.Wc],(Dp.write D.disk p.put).2])∧bF w' w D'∧D'.disk=(Dp.write D.disk p.put).1∧Below w w w':=by
 cases hm:Dp.dF D.disk with
 |true=>
  cases hb:Dp.dF ⟨D.d,D.disk.wait++[p.put]⟩ with
  |true=>
   have e:Dp.write D.disk p.put=(⟨D.d,D.disk.wait++[p.put]⟩,0):=by
    rw[Dp.write,aaS hm];exact aaS hb
   rw[e];have:=Kh D p w true h hp' hm hb;simpa only[aaS] using this
  |false=>
   have e:Dp.write D.disk p.put=(Dp.fQ,9):=by
    rw[Dp.write,aaS hm];exact aaR (by rw[show Dp.dF ⟨D.disk.data,D.disk.wait++[p.put]⟩=false from hb];simp)
   rw[e];have:=Kh D p w false h hp' hm hb;simpa using this
 |false=>
  have e:Dp.write D.disk p.put=(Dp.fQ,30):=by rw[Dp.write,aaR (by rw[hm];simp)]
  rw[e];refine(NS D p w h hm).mono ?_;rintro e w1 ⟨rfl,hb⟩;exact⟨iO,rfl,cZ _ _,rfl,hb⟩
theorem Hu (D:HD)(A:Option Addr)(n c:Nat)(d:List UInt8)(w:World)(h:aW w w D)(hp':fE w w ⟨false,A,n,c,d⟩) :
  Calls prog 163 #[.agg #[.slice D.A D.n D.c,.slice D.WA D.Wn D.Wc],.slice A n c] w fun e w'=>∃D',e=.returned (.tuple #[.agg #[.slice D'.A D'.n D'.c,.slice D'.WA D'.Wn D'.Wc],(Dp.write D.disk ⟨false,d⟩).2])∧bF w' w D'∧D'.disk=(Dp.write D.disk ⟨false,d⟩).1∧Below w w w':=by
 have hz:w.heap.size+1<w.heap.size+2:=by omega
 have HA:=L_ ((h.alloc (.cells #[.slice D.A D.n D.c,.slice D.WA D.Wn D.Wc] 49)).alloc (.cells #[(),()] 49));have HPu:=L_ ((hp'.alloc (.cells #[.slice D.A D.n D.c,.slice D.WA D.Wn D.Wc] 49)).alloc (.cells #[(),()] 49));have B0:=L_ (((aaO _ w).alloc (Zh w) (.cells #[.slice D.A D.n D.c,.slice D.WA D.Wn D.Wc] 49)).alloc (by simp) (.cells #[(),()] 49));have K0:=L_ (aF.newAt (w:=w.alloc (.cells #[.slice D.A D.n D.c,.slice D.WA D.Wn D.Wc] 49)) (g:=w.heap.size+1) (by simp) 49 #[(),()]);obtain⟨r,hr⟩:∃r,(Dp.write D.disk ⟨false,d⟩).2=r:=⟨_,rfl⟩;rw[hr];have HR:=L_ hr;clear h hp' hr
 go_enter func163,ntmps163
 go_wp2_with fail;refine(E8 D ⟨false,A,n,c,d⟩ _ HA HPu).mono ?_;rintro e w1 ⟨D',rfl,hd,he,hb⟩;rw[show(Dp.write D.disk (HP.put ⟨false,A,n,c,d⟩)).2=r from HR.out];have K1:=L_ (aF.below K0 hb K0.lt);have B1:=L_ (B0.trans (hb.mono B0.size));have OD:=L_ (hd.mono (base':=w.heap.size) (by simp;omega));have HE:=L_ he;clear hd he hb K0 B0 HA HPu;have z0:=K1.cell 0;have z1:=K1.cell 1;have fz0:=K1.frozen 0;have fz1:=K1.frozen 1;go_wp2;exact aaT (v:=.tuple #[.agg #[.slice D'.A D'.n D'.c,.slice D'.WA D'.Wn D'.Wc],.int .i64 r]) (by simp[results,results163,go_sem,z0,z1]) rfl ⟨D',rfl,(OD.aM K1 0 _).aM (K1.aM 0 _) 1 _,HE,(B1.setCell (by simp) _).setCell (by simp) _⟩
theorem Qd (D:HD)(A:Option Addr)(n c:Nat)(d:List UInt8)(w:World)(h:aW w w D)(hp':fE w w ⟨true,A,n,c,d⟩) :
  Calls prog 114 #[.agg #[.slice D.A D.n D.c,.slice D.WA D.Wn D.Wc],.slice A n c] w fun e w'=>∃D',e=.returned (.tuple #[.agg #[.slice D'.A D'.n D'.c,.slice D'.WA D'.Wn D'.Wc],(Dp.write D.disk ⟨true,d⟩).2])∧bF w' w D'∧D'.disk=(Dp.write D.disk ⟨true,d⟩).1∧Below w w w':=by
 have hz:w.heap.size+1<w.heap.size+2:=by omega
 have HA:=L_ ((h.alloc (.cells #[.slice D.A D.n D.c,.slice D.WA D.Wn D.Wc] 49)).alloc (.cells #[(),()] 49));have HPu:=L_ ((hp'.alloc (.cells #[.slice D.A D.n D.c,.slice D.WA D.Wn D.Wc] 49)).alloc (.cells #[(),()] 49));have B0:=L_ (((aaO _ w).alloc (Zh w) (.cells #[.slice D.A D.n D.c,.slice D.WA D.Wn D.Wc] 49)).alloc (by simp) (.cells #[(),()] 49));have K0:=L_ (aF.newAt (w:=w.alloc (.cells #[.slice D.A D.n D.c,.slice D.WA D.Wn D.Wc] 49)) (g:=w.heap.size+1) (by simp) 49 #[(),()]);obtain⟨r,hr⟩:∃r,(Dp.write D.disk ⟨true,d⟩).2=r:=⟨_,rfl⟩;rw[hr];have HR:=L_ hr;clear h hp' hr
 go_enter func114,ntmps114
 go_wp2_with fail;refine(E8 D ⟨true,A,n,c,d⟩ _ HA HPu).mono ?_;rintro e w1 ⟨D',rfl,hd,he,hb⟩;rw[show(Dp.write D.disk (HP.put ⟨true,A,n,c,d⟩)).2=r from HR.out];have K1:=L_ (aF.below K0 hb K0.lt);have B1:=L_ (B0.trans (hb.mono B0.size));have OD:=L_ (hd.mono (base':=w.heap.size) (by simp;omega));have HE:=L_ he;clear hd he hb K0 B0 HA HPu;have z0:=K1.cell 0;have z1:=K1.cell 1;have fz0:=K1.frozen 0;have fz1:=K1.frozen 1;go_wp2;exact aaT (v:=.tuple #[.agg #[.slice D'.A D'.n D'.c,.slice D'.WA D'.Wn D'.Wc],.int .i64 r]) (by simp[results,results114,go_sem,z0,z1]) rfl ⟨D',rfl,(OD.aM K1 0 _).aM (K1.aM 0 _) 1 _,HE,(B1.setCell (by simp) _).setCell (by simp) _⟩
end Go.Proofs.YtaebfkcgdmodlaaGreatDoor
