/-
  A part of the proof that the erased node of towncrier reads nothing (TopErased).
-/
import Derived.ChangeSame
import Derived.SizedLaws
import Derived.Test.YtaebfkcgdmodlaaGreatDoorJ11
import Derived.Test.YtaebfkcgdmodlaaGreatDoorJ08
namespace Go.Proofs.YtaebfkcgdmodlaaGreatDoor
open Go.RowKit Go.Proofs.Tryz
set_option maxHeartbeats 16000000
set_option maxRecDepth 100000
set_option linter.unusedVariables false
set_option linter.unusedSimpArgs false
variable{k:Nat}
namespace Nm
def uN:Nat→List UInt8→List (List UInt8)×Nat
 |0,_=>([],0)
 |f+1,l=>match bE l with
  |none=>([],0)
  |some (t,k)=>(t::(uN f (l.drop k)).1,k+(uN f (l.drop k)).2)
def cut (l:List UInt8):List (List UInt8)×Nat:=uN (l.length+1) l
theorem Lu:∀(f g:Nat) (l:List UInt8),l.length<f→l.length<g→uN f l=uN g l:=by
 intro f
 induction f with
 |zero=>intro g l h;omega
 |succ f ih=>
  intro g l hf hg;cases g with
  |zero=>omega
  |succ g=>
   unfold uN;cases h:bE l with
   |none=>rfl
   |some p=>
    obtain⟨t,k⟩:=p;obtain⟨_,_,h3,_,h5⟩:=bG h;simp only;rw[ih g (l.drop k) (by rw[ZK];omega) (by rw[ZK];omega)]
theorem gM {l:List UInt8}(h:bE l=none):cut l=([],0):=by unfold cut uN;rw[h]
theorem jD {l t:List UInt8}(h:bE l=some (t,k)):cut l=(t::(cut (l.drop k)).1,k+(cut (l.drop k)).2):=by
 obtain⟨_,_,h3,_,h5⟩:=bG h
 conv=>lhs;unfold cut uN
 rw[h];simp only;rw[Lu l.length ((l.drop k).length+1) (l.drop k) (by rw[ZK];omega) (by omega)];rfl
def join (l:List (List UInt8)):List UInt8:=l.flatMap txt
theorem join_append (l m:List (List UInt8)):join (l++m)=join l++join m:=by simp[join]
theorem join_one (t:List UInt8):join [t]=txt t:=by simp[join]
theorem join_cons (t:List UInt8)(l:List (List UInt8)):join (t::l)=txt t++join l:=rfl
theorem Fw:∀(l:List (List UInt8)) (b:List UInt8),(∀t∈l,t.length≤4096)→cut (join l++b)=(l++(cut b).1,(join l).length+(cut b).2):=by
 intro l
 induction l with
 |nil=>intro b _;simp[join]
 |cons t l ih=>
  intro b h;rw[join_cons,ZN,jD (lW (h t (ZC ..)) _),List.drop_left,ih b fun x hx=>h x (Zv _ hx)];simp only[aap,Zn,ZV,true_and];omega
theorem TW:∀(f:Nat) (l:List UInt8),(uN f l).2≤l.length∧(uN f l).1.length≤(uN f l).2:=by
 intro f
 induction f with
 |zero=>intro l;simp[uN]
 |succ f ih=>
  intro l;unfold uN;cases h:bE l with
  |none=>simp
  |some p=>
   obtain⟨t,k⟩:=p;obtain⟨_,_,h3,_,h5⟩:=bG h;have:=ih (l.drop k);rw[ZK] at this;simp only[ZI];omega
end Nm
variable{at':Nat}{v' x2:Value}{w w1 wr:World}
theorem Eo (s:ByteArray)(l:List UInt8)(k:Nat)(w:World)(h:s.size≤4096)(hl:Nm.txt s.data.toList=l)(hk:l.length=k) :
  Calls prog 162 #[s] w fun e w'=>∃A c,e=.returned (.tuple #[.slice A k c,.int .i64 0])∧w'.ownsRow w 5 1 (.slice A k c) k (cb l)∧Below w w w':=by
 have HL:=L_ hl;have HK:=L_ hk;clear hl hk
 go_enter func162,ntmps162
 go_wp2_with fail;refine(uy s l k w h HL HK).mono ?_;rintro e w1 ⟨A,c,rfl,ho,hb⟩;have HO:=L_ ho;have HB:=L_ hb;clear ho hb;go_wp2
 go_ret2
 exact⟨A,c,rfl,HO,HB⟩
theorem Bl (s:ByteArray)(w:World)(h:4096<s.size):Calls prog 162 #[s] w fun e w'=>e=.returned (.tuple #[(),.int .i64 3])∧w=w':=by
 go_enter func162,ntmps162
 go_wp2
 go_ret2
 exact⟨rfl,rfl⟩
def GT (l:List UInt8)(t:ByteArray)(k:Nat)(x:Int):Prop:=(∃u,Nm.bE l=some (u,k)∧t=S u∧x=0)∨(Nm.bE l=none∧t=⟨#[]⟩∧k=0∧x=8)
theorem TI (A:Option Addr)(n c B:Nat)(l:List UInt8)(w:World)(hr:Reads w B 1 A n (cb l))(hc:n≤c)(hn:n≤1000000000000) :
  Calls prog 181 #[.slice A n c] w fun e w'=>(∃t k x,e=.returned (.tuple #[.string t,.int .i64 (k:Nat),.int .i64 x])∧GT l t k x)∧w=w':=by
 refine(lX A n c B l w hr hc hn).mono ?_;rintro e w' ⟨rfl,rfl⟩;cases h:Nm.bE l with
 |none=>exact⟨⟨⟨#[]⟩,0,8,rfl,Or.inr ⟨h,rfl,rfl,rfl⟩⟩,rfl⟩
 |some p=>
  obtain⟨u,k⟩:=p;exact⟨⟨S u,k,0,rfl,Or.inl ⟨u,h,rfl,rfl⟩⟩,rfl⟩
def Jz (b:List UInt8)(w:World)(e:Ending)(w':World):Prop:=
 ∃A c,e=.returned (.tuple #[.slice A (Nm.cut b).1.length c,.int .i64 ((Nm.cut b).2:Nat),.int .i64 0])∧w'.ownsRow w 9 1 (.slice A (Nm.cut b).1.length c) (Nm.cut b).1.length (ct ((Nm.cut b).1.map S))∧Below w w w'
def Ow (b:List UInt8)(w:World)(x2 x3 x5 x6 x7:Value)(wr:World):Prop:=
 ∃(acc:List (List UInt8)) (at':Nat) (t:ByteArray) (k:Nat) (e:Int),x3=(at':Int)∧x5=t∧x6=(k:Int)∧x7=e∧at'≤b.length∧acc.length≤at' ∧
  wr.ownsRow w 9 1 x2 acc.length (ct (acc.map S))∧Below w w wr∧GT (b.drop at') t k e∧Nm.cut b=(acc++(Nm.cut (b.drop at')).1,at'+(Nm.cut (b.drop at')).2)
theorem Ey {b:List UInt8}{acc:List (List UInt8)}{k2:Nat}{u:List UInt8}{t2:ByteArray}{e2:Int}(ha:at'≤b.length)(hl:acc.length≤at')
  (ho:wr.ownsRow w 9 1 x2 acc.length (ct (acc.map S))) (hb:Below w w wr) (hg:Nm.bE (b.drop at')=some (u,k)) (hc:Nm.cut b=(acc++(Nm.cut (b.drop at')).1,at'+(Nm.cut (b.drop at')).2))
  (ho1:w1.ownsRow w 9 1 v' (acc.length+1) (ct (acc.map S++[S u]))) (hg1:dX wr w1 x2 v') (h2:GT (b.drop (at'+k)) t2 k2 e2) :
  Ow b w v' (.int .i64 ((at':Int)+(k:Int))) t2 ((k2:Int)) e2 w1:=by
 obtain⟨_,_,h3,_,h5⟩:=Nm.bG hg;rw[ZK] at h3;refine⟨acc++[u],at'+k,t2,k2,e2,by go_num,rfl,rfl,rfl,by omega,by simp;omega,by simpa using ho1,hb.trans (hg1.bW ho hb.size),h2,?_⟩;rw[hc,Nm.jD hg,List.drop_drop];simp only[ZN,aap,aay,ZV,true_and];omega
theorem J8 (A:Option Addr)(n c:Nat)(b:List UInt8)(w:World)(hr:Reads w w 1 A n (cb b))(hc:n≤c)(hn:n≤1048576) :
  Calls prog 117 #[.slice A n c] w (Jz b w):=by
 have hl:=hr.mR;have HL:=L_ hl;have HR:=L_ hr;clear hl
 go_enter func117,ntmps117
 go_wp2_with fail;refine(TI A n c _ b w hr hc (by omega)).mono ?_;rintro e w' ⟨⟨t,k,x,rfl,hgt⟩,rfl⟩;have HGT:=L_ hgt;clear hgt hr;go_wp2_with fail;have hn2:n≤1000000000:=by omega
 clear hn
 go_loopw [2,3,5,6,7] (fun x2 x3 x5 x6 x7 wr=>Ow b w x2 x3 x5 x6 x7 wr) (fun _ x3 _ _ _ _=>n - (intOf x3).toNat)
 case atStart=>exact⟨[],0,t,k,x,rfl,rfl,rfl,rfl,by omega,by simp,aaU _ _ _ _,aaO _ _,by simpa using HGT.out,by simp⟩
 case round=>
  obtain⟨acc,at',t,k,x,rfl,rfl,rfl,rfl,ha,hacc,ho,hb,hgt,hcut⟩:=hrel;have HO:=L_ ho;have HB:=L_ hb;have HC:=L_ hcut;have hle:b.length≤n:=by rw[HL.out];exact Zh _
  have hle2:n≤b.length:=by rw[HL.out];exact Zh _
  clear ho hb hcut
  rcases hgt with ⟨u,hg,rfl,rfl⟩|⟨hg,rfl,rfl,rfl⟩
  ·have h3:=(Nm.bG hg).2.2.1;have h5:=(Nm.bG hg).2.2.2.2;rw[ZK] at h3;have HG:=L_ hg;clear hg;have hc1:acc.length≤1000000000000:=by omega
   have hc2:=L_ HB.size
   have hs:∀w,(Instr.slice 46 (.slice A n c) (some (.int .i64 ((at':Int)+(k:Int)))) none none).run prog w=.ok (.slice (mX A c (at'+k)) (n - (at'+k)) (c - (at'+k))) w:=fun w=>by
    rw[show((at':Int)+(k:Int))=((at'+k:Nat):Int) by omega];exact gu underlying46 A n c (at'+k) (by omega) w jS
   go_wp2_with (at_builtin;refine Vk rfl (.tmp 27) (.tmp 29) rfl w.heap.size u2 acc.length (acc.map S) rfl HO (S u) rfl hc1 hc2 ?_);intro v2 w2 o2 g2;have O2:=L_ o2;have G2:=L_ g2;clear o2 g2;have B2:=L_ (HB.trans (G2.bW HO HB.size));have hr2:=((HR.below B2).rest (k:=at'+k) (c:=c) (by omega) hc);rw[nK] at hr2;have HR2:=L_ hr2;clear hr2;go_wp2_with fail;refine(TI _ (n - (at'+k)) (c - (at'+k)) _ _ w2 HR2 (by omega) (by omega)).mono ?_;rintro e w' ⟨⟨t2,k2,x2,rfl,hgt2⟩,rfl⟩;have HG2:=L_ hgt2;clear hgt2;go_wp2
   go_roundw
   case rel=>exact Ey ha hacc HO HB HG HC O2 G2 HG2
   case measure=>simp[intOf];omega
  ·have HG:=L_ hg;clear hg;go_wp2
   go_ret3
   have hc1:=HC.out;rw[Nm.gM HG.out] at hc1;simp only[aak,Nat.add_zero] at hc1;obtain⟨A2,c2,rfl,_,_,_⟩:=bH HO;unfold Jz;rw[hc1];exact⟨A2,c2,rfl,HO,HB⟩
variable{xs:List Value}{base i:Nat}{α:Type}{v:Value}{w':World}
def l7 (l:List (List UInt8)):Bool:=l.all (fun t=>decide (t.length≤4096))&&decide ((Nm.join l).length≤1048576)
theorem Gr {l:List (List UInt8)}(h1:∀t∈l,t.length≤4096)(h2:(Nm.join l).length≤1048576):l7 l=true:=by
 unfold l7;simp only[Zr,aam,Zx];exact⟨h1,h2⟩
theorem xM {l:List (List UInt8)}(h:l7 l=true):(∀t∈l,t.length≤4096)∧(Nm.join l).length≤1048576:=by
 unfold l7 at h;simp only[Zr,aam,Zx] at h;exact h
theorem Az {l:List (List UInt8)}(h:¬((∀t∈l,t.length≤4096)∧(Nm.join l).length≤1048576)):l7 l=false:=by
 cases hj:l7 l with
 |false=>rfl
 |true=>exact absurd (xM hj) h
theorem Dh (l:List (List UInt8))(i:Nat):(Nm.join (l.take i)).length≤(Nm.join l).length:=by
 conv=>rhs;rw[←aaB i l]
 rw[Nm.join_append,Zn];omega
theorem AX {l:List α}(h:i<l.length):l.take (i+1)=l.take i++[l[i]]:=by
 rw[ZP,Zl h];rfl
theorem Bg {l:List (List UInt8)}{t:List UInt8}(h:i<l.length)(ht:l[i]=t):Nm.join (l.take (i+1))=Nm.join (l.take i)++Nm.txt t:=by
 rw[AX h,Nm.join_append,ht,Nm.join_one]
theorem MR {l:List (List UInt8)}{t:List UInt8}(h:i<l.length)(ht:l[i]=t)(ha:∀x∈l.take i,x.length≤4096)(hl:t.length≤4096):∀x∈l.take (i+1),x.length≤4096:=by
 rw[AX h,ht];intro x hx
 rcases Zm.1 hx with hx|hx
 ·exact ha x hx
 ·rw[Zp] at hx;rw[hx];exact hl
theorem AB {t:List UInt8}(h:t.length≤4096):(Nm.txt t).length≤5000:=by
 unfold Nm.txt;rw[Zn];have:=Nm.qH (n:=t.length) (by omega);omega
theorem Ma {n size:Nat}{e:TypeId}(h:w.ownsRow base e size v n xs)(hb:Below w w w'):w'.ownsRow base e size v n xs:=
 h.kept (bV hb none) (by cases v.ownBlock<;>simp)
def Ol (l:List (List UInt8))(w:World)(e:Ending)(w':World):Prop:=
 (l7 l=true∧∃A c,e=.returned (.tuple #[.slice A (Nm.join l).length c,.int .i64 0])∧w'.ownsRow w 5 1 (.slice A (Nm.join l).length c) (Nm.join l).length (cb (Nm.join l))∧Below w w w') ∨
 (l7 l=false∧e=.returned (.tuple #[(),.int .i64 3])∧Below w w w')
def QK (l:List (List UInt8))(w:World)(most:Nat)(x4 x14:Value)(wr:World):Prop:=
 ∃(i m:Nat) (b:List UInt8),x14=(i:Int)∧i≤l.length∧(∀t∈l.take i,t.length≤4096)∧Nm.join (l.take i)=b∧b.length=m∧m≤most∧wr.ownsRow w 5 1 x4 m (cb b)∧Below w w wr
theorem Pb (A:Option Addr)(n c:Nat)(l:List (List UInt8))(w:World)(hr:Reads w w 1 A n (ct (l.map S)))(hn:n≤65536) :
  Calls prog 113 #[.slice A n c] w (Ol l w):=by
 have hl:l.length=n:=by have:=hr.Bq;simpa using this
 have HR:=L_ hr;clear hr
 go_enter func113,ntmps113
 go_wp2
 go_loopw [4,14] (fun x4 x14 wr=>QK l w 1048576 x4 x14 wr) (fun _ x14 _=>n - (intOf x14).toNat)
 case atStart=>exact⟨0,0,[],rfl,by omega,by simp,rfl,rfl,by omega,aaU _ _ _ _,aaO _ _⟩
 case round=>
  obtain⟨i,m,b,rfl,hi,ha,hj,hm,hmm,ho,hb⟩:=hrel;have HA:=L_ ha;have HJ:=L_ hj;have HM:=L_ hm;have HO:=L_ ho;have HB:=L_ hb;clear ha hj hm ho hb
  by_cases hlt:i<n
  ·obtain⟨ad,u,rfl,hbl,hu,hcell⟩:=(HR.below HB).at_ hlt;have hli:i<l.length:=by omega
   obtain⟨t,ht⟩:∃t,l[i]=t:=⟨_,rfl⟩
   have hu2:u=.string (S t):=by
    rw[Df,ZU,Zl hli,ht] at hu;simpa using hu.symm
   subst hu2;clear hu;have HT:=L_ ht;clear ht
   by_cases hs:t.length≤4096
   ·have hs2:(S t).size≤4096:=by rw[kZ];exact hs
    have HS2:=L_ hs2;clear hs2;go_wp2_with fail;refine(Eo (S t) (Nm.txt t) (Nm.txt t).length wr HS2 rfl rfl).mono ?_;rintro e w1 ⟨A1,c1,rfl,o1,b1⟩;have hk:=AB hs;obtain⟨k,HK⟩:∃k,Hid ((Nm.txt t).length=k):=⟨_,L_ rfl⟩;rw[HK.out] at o1 hk ⊢;have O1:=L_ o1;have B1:=L_ (HB.trans (b1.mono HB.size));have HO1:=L_ (Ma HO b1);have hz1:=L_ (Zt HB.size b1.size);clear o1 b1 hcell;go_wp2_with (at_builtin;refine yu rfl (.tmp 26) (.tmp 27) rfl w.heap.size u4 m b rfl HO1 w1 A1 k c1 (Nm.txt t) rfl (Reads.bO O1) ?c1 ?c2 ?_)
    case c1=>omega
    case c2=>exact hz1
    intro v2 w2 o2 g2;have O2:=L_ o2;have B2:=L_ (B1.trans (g2.bW HO1 hz1));obtain⟨A2,c2,rfl,_,_,_⟩:=bH o2;clear o2 g2
    by_cases hbig:m+k≤1048576
    ·go_wp2
     go_roundw
     case rel=>exact⟨i+1,m+k,b++Nm.txt t,by go_num,by omega,MR hli HT HA hs,by rw[Bg hli HT.out,HJ.out],by rw[Zn,HM.out,HK.out],hbig,O2,B2⟩
     case measure=>simp[intOf];omega
    ·go_wp2
     go_ret2
     refine Or.inr ⟨Az fun h=>?_,rfl,B2⟩;have h1:=Dh l (i+1);rw[Bg hli HT.out,HJ.out,Zn,HM.out,HK.out] at h1;omega
   ·have hs2:4096<(S t).size:=by rw[kZ];omega
    have HS2:=L_ hs2;clear hs2;go_wp2_with fail;refine(Bl (S t) wr HS2).mono ?_;rintro e w1 ⟨rfl,rfl⟩;go_wp2
    go_ret2
    refine Or.inr ⟨Az fun h=>?_,rfl,HB⟩;have:=h.1 t (by rw[←HT.out];exact List.getElem_mem hli);omega
  ·have hin:i=l.length:=by omega
   go_wp2
   go_ret2
   have h1:=HJ.out;have h2:=HA.out;rw[hin,List.take_length] at h1 h2;have h3:=HO.out;have h4:=HM.out;subst h4 h1;obtain⟨A2,c2,rfl,_,_,_⟩:=bH h3;exact Or.inl ⟨Gr h2 hmm,A2,c2,rfl,h3,HB⟩
namespace Wa
open Dp
def opened (d:dG):dG×List (List UInt8)×Int:=
 if Dp.dF d=true then
  (if (Nm.cut (Dp.seen d)).2=(Dp.seen d).length then(d,(Nm.cut (Dp.seen d)).1,0)
   else if (Dp.write d ⟨true,(Dp.seen d).take (Nm.cut (Dp.seen d)).2⟩).2=0 then((Dp.write d ⟨true,(Dp.seen d).take (Nm.cut (Dp.seen d)).2⟩).1,(Nm.cut (Dp.seen d)).1,0)
   else(Dp.fQ,[],(Dp.write d ⟨true,(Dp.seen d).take (Nm.cut (Dp.seen d)).2⟩).2))
 else(Dp.fQ,[],30)
def adds:dG→List (List UInt8)→dG×Int
 |d,[]=>(d,0)
 |d,t::l=>if (Dp.write d ⟨false,Nm.txt t⟩).2=0 then adds (Dp.write d ⟨false,Nm.txt t⟩).1 l else(Dp.fQ,(Dp.write d ⟨false,Nm.txt t⟩).2)
def add (d:dG)(l:List (List UInt8)):dG×Int:=
 if Dp.dF d=true then
  (if l.all (fun t=>decide (t.length≤4096))=true then
   (if (Nm.cut (Dp.seen d)).2=(Dp.seen d).length then adds d l else(Dp.fQ,8))
   else(Dp.fQ,3))
 else(Dp.fQ,30)
def reset (d:dG)(l:List (List UInt8)):dG×Int:=
 if Dp.dF d=true then(if l7 l=true then Dp.write d ⟨true,Nm.join l⟩ else(Dp.fQ,3)) else(Dp.fQ,30)
end Wa
namespace Wg
def Good (G:List UInt8→Prop)(b:List UInt8):Prop:=∀t∈(Nm.cut b).1,G t
theorem Nh (G:List UInt8→Prop):Good G []:=by
 intro t ht;rw[Nm.gM (by decide)] at ht;cases ht
theorem iH:Nm.bE []=none:=by decide
theorem PY:∀(n:Nat) (b:List UInt8),b.length≤n→∀m,∃r,(Nm.cut b).1=(Nm.cut (b.take m)).1++r:=by
 intro n
 induction n with
 |zero=>
  intro b hb m;obtain rfl:b=[]:=List.length_eq_zero_iff.1 (by omega);exact⟨[],by simp⟩
 |succ n ih=>
  intro b hb m;cases h:Nm.bE (b.take m) with
  |none=>exact⟨_,by rw[Nm.gM h];rfl⟩
  |some p=>
   obtain⟨t,k⟩:=p;obtain⟨h1,h2,h3,h4,h5⟩:=Nm.bG h;rw[Zw] at h3;rw[List.take_take,aaf (by omega)] at h4;have e1:b=Nm.txt t++b.drop k:=by rw[h4,aaB]
   have e2:Nm.bE b=some (t,k):=by
    have e3:=Nm.lW h1 (b.drop k);rw[←e1,←h2] at e3;exact e3
   obtain⟨r,hr⟩:=ih (b.drop k) (by rw[ZK];omega) (m - k);refine⟨r,?_⟩;rw[Nm.jD h,Nm.jD e2,hr,List.drop_take];rfl
theorem Good.take {G:List UInt8→Prop}{b:List UInt8}(h:Good G b)(m:Nat):Good G (b.take m):=by
 intro t ht;obtain⟨r,hr⟩:=PY b.length b (Zh _) m;exact h t (by rw[hr];exact ZJ _ ht)
theorem AY:∀(n:Nat) (b:List UInt8),b.length≤n→∀t∈(Nm.cut b).1,t.length≤4096:=by
 intro n
 induction n with
 |zero=>
  intro b hb t ht;obtain rfl:b=[]:=List.length_eq_zero_iff.1 (by omega);rw[Nm.gM iH] at ht;cases ht
 |succ n ih=>
  intro b hb t ht;cases h:Nm.bE b with
  |none=>rw[Nm.gM h] at ht;cases ht
  |some p=>
   obtain⟨t',k⟩:=p;obtain⟨h1,h2,h3,h4,h5⟩:=Nm.bG h;rw[Nm.jD h,Zu] at ht
   rcases ht with rfl|ht
   ·exact h1
   ·exact ih (b.drop k) (by rw[ZK];omega) t ht
theorem MC:∀(n:Nat) (b:List UInt8),b.length≤n→(Nm.cut b).2=b.length→b=Nm.join (Nm.cut b).1:=by
 intro n
 induction n with
 |zero=>
  intro b hb _;obtain rfl:b=[]:=List.length_eq_zero_iff.1 (by omega);rw[Nm.gM iH];rfl
 |succ n ih=>
  intro b hb he;cases h:Nm.bE b with
  |none=>
   rw[Nm.gM h] at he ⊢;obtain rfl:b=[]:=List.length_eq_zero_iff.1 (by simpa using he.symm);rfl
  |some p=>
   obtain⟨t,k⟩:=p;obtain⟨h1,h2,h3,h4,h5⟩:=Nm.bG h;rw[Nm.jD h] at he ⊢;dsimp only at he;rw[Nm.join_cons,h4,←ih (b.drop k) (by rw[ZK];omega) (by rw[ZK];omega),aaB]
theorem Good.snoc {G:List UInt8→Prop}{b t:List UInt8}(h:Good G b)(hw:(Nm.cut b).2=b.length)(ht:t.length≤4096)(hg:G t):Good G (b++Nm.txt t)∧(Nm.cut (b++Nm.txt t)).2=(b++Nm.txt t).length:=by
 have e1:=MC b.length b (Zh _) hw;have e2:b++Nm.txt t=Nm.join ((Nm.cut b).1++[t])++[]:=by rw[Nm.join_append,Nm.join_one,←e1,aak]
 have e3:=Nm.Fw ((Nm.cut b).1++[t]) [] (by
  intro x hx
  rcases Zm.1 hx with hx|hx
  ·exact AY b.length b (Zh _) x hx
  ·rw[Zp.1 hx];exact ht)
 rw[←e2,Nm.gM iH] at e3;refine⟨?_,?_⟩
 ·intro x hx;rw[e3,aak] at hx
  rcases Zm.1 hx with hx|hx
  ·exact h x hx
  ·rw[Zp.1 hx];exact hg
 ·rw[e3,e2];simp
theorem LD {G:List UInt8→Prop}{l:List (List UInt8)}(hl:∀t∈l,t.length≤4096)(hg:∀t∈l,G t):Good G (Nm.join l):=by
 intro t ht;have e:=Nm.Fw l [] hl;rw[aak,Nm.gM iH] at e;rw[e,aak] at ht;exact hg t ht
def DG (G:List UInt8→Prop)(d:Dp.dG):Prop:=∀k,Good G (Dp.done d.data (d.wait.take k))
variable{G:List UInt8→Prop}{d:Dp.dG}
theorem iy:DG G Dp.fQ:=by
 intro k;simp only[Dp.fQ,List.take_nil,Dp.done];exact Nh G
theorem DG.seen (h:DG G d):Good G (Dp.seen d):=by
 have:=h d.wait.length;rwa[List.take_length] at this
theorem JJ {b:List UInt8}(h:Good G b):DG G ⟨b,[]⟩:=by
 intro k;simp only[List.take_nil,Dp.done];exact h
theorem DG.write (h:DG G d){p:Dp.Put}(hp:Good G (Dp.step (Dp.seen d) p)):DG G (Dp.write d p).1:=by
 unfold Dp.write
 split
 ·split
  ·intro k
   rcases aaA d.wait.length k with hk|hk
   ·simp only;rw[Zz (by rw[Zn];simp;omega),Dp.lY];exact hp
   ·simp only;rw[aac hk];exact h k
  ·exact iy
 ·exact iy
theorem DG.sync (h:DG G d):DG G (Dp.sync d).1:=by
 unfold Dp.sync
 split
 ·exact JJ h.seen
 ·exact iy
theorem DG.crash (h:DG G d)(keep many:Int):DG G (Dp.crash d keep many).1:=by
 unfold Dp.crash
 split
 ·split
  ·exact iy
  ·refine JJ ?_;unfold Dp.part;cases hp:d.wait[keep.toNat]? with
   |none=>simpa using h keep.toNat
   |some p=>
    simp only
    split
    ·simpa using h keep.toNat
    ·rename_i hs
     have h1:=h (keep.toNat+1);rw[ZP,hp,Dp.lY] at h1;simp only[aaz,Dp.done,Dp.step,aaR hs] at h1;have h2:=h1.take ((Dp.done d.data (d.wait.take keep.toNat)).length+many.toNat);rw[List.take_append,Zz (Nat.le_add_right _ _),Nat.add_sub_cancel_left] at h2;exact h2
 ·exact iy
theorem DG.opened (h:DG G d):DG G (Wa.opened d).1∧∀t∈(Wa.opened d).2.1,G t:=by
 unfold Wa.opened
 split
 ·split
  ·exact⟨h,fun t ht=>h.seen t ht⟩
  ·have hw:DG G (Dp.write d ⟨true,(Dp.seen d).take (Nm.cut (Dp.seen d)).2⟩).1:=h.write (by
    simp only[Dp.step,if_true];exact h.seen.take _)
   split
   ·exact⟨hw,fun t ht=>h.seen t ht⟩
   ·exact⟨iy,fun t ht=>by cases ht⟩
 ·exact⟨iy,fun t ht=>by cases ht⟩
theorem Jm:∀(l:List (List UInt8)) (d:Dp.dG),DG G d→(Nm.cut (Dp.seen d)).2=(Dp.seen d).length→(∀t∈l,t.length≤4096)→(∀t∈l,G t)→DG G (Wa.adds d l).1
 |[],d,h,_,_,_=>h
 |t::l,d,h,hw,hl,hg=>by
  unfold Wa.adds;obtain⟨h1,h2⟩:=h.seen.snoc hw (hl t ZC) (hg t ZC)
  split
  ·rename_i he
   refine Jm l _ (h.write h1) ?_ (fun x hx=>hl x (Zv _ hx)) (fun x hx=>hg x (Zv _ hx));obtain⟨_,_,e⟩:=Dp.M6 he;rw[e,Dp.Kr];exact h2
  ·exact iy
theorem DG.add (h:DG G d){l:List (List UInt8)}(hg:∀t∈l,G t):DG G (Wa.add d l).1:=by
 unfold Wa.add
 split
 ·split
  ·rename_i hl
   split
   ·rename_i hw
    exact Jm l d h hw (fun t ht=>by simpa using aam.1 hl t ht) hg
   ·exact iy
  ·exact iy
 ·exact iy
theorem DG.reset (h:DG G d){l:List (List UInt8)}(hg:∀t∈l,G t):DG G (Wa.reset d l).1:=by
 unfold Wa.reset
 split
 ·split
  ·rename_i hj
   unfold l7 at hj;simp only[Zr,aam,Zx] at hj;refine h.write ?_;simp only[Dp.step,if_true];exact LD hj.1 hg
  ·exact iy
 ·exact iy
def EZ (d:Dp.dG):Prop:=d.data=[]∧∀p∈d.wait,p.d=[]
theorem iX:EZ Dp.fQ:=⟨rfl,fun p hp=>by cases hp⟩
theorem Da:∀(l:List Dp.Put) (b:List UInt8),b=[]→(∀p∈l,p.d=[])→Dp.done b l=[]
 |[],b,hb,_=>hb
 |p::l,b,hb,h=>by
  unfold Dp.done;refine Da l _ ?_ (fun q hq=>h q (Zv _ hq));have:=h p ZC;unfold Dp.step
  split
  ·exact this
  ·rw[hb,this];rfl
variable{d:Dp.dG}
theorem EZ.seen (h:EZ d):Dp.seen d=[]:=Da d.wait d.data h.1 h.2
theorem EZ.write (h:EZ d){p:Dp.Put}(hp:p.d=[]):EZ (Dp.write d p).1:=by
 unfold Dp.write
 split
 ·split
  ·refine⟨h.1,fun q hq=>?_⟩
   rcases Zm.1 hq with hq|hq
   ·exact h.2 q hq
   ·rw[Zp.1 hq];exact hp
  ·exact iX
 ·exact iX
theorem EZ.sync (h:EZ d):EZ (Dp.sync d).1:=by
 unfold Dp.sync
 split
 ·exact⟨h.seen,fun p hp=>by cases hp⟩
 ·exact iX
theorem EZ.crash (h:EZ d)(keep many:Int):EZ (Dp.crash d keep many).1:=by
 unfold Dp.crash
 split
 ·split
  ·exact iX
  ·refine⟨?_,fun p hp=>by cases hp⟩;simp only;rw[Da _ _ h.1 (fun p hp=>h.2 p (aaE hp))];unfold Dp.part;cases hp:d.wait[keep.toNat]? with
   |none=>rfl
   |some p=>
    simp only
    split
    ·rfl
    ·rw[h.2 p (Zk hp)];simp
 ·exact iX
theorem EZ.opened (h:EZ d):EZ (Wa.opened d).1∧(Wa.opened d).2.1=[]:=by
 unfold Wa.opened;rw[h.seen,Nm.gM iH]
 split
 ·exact⟨h,rfl⟩
 ·exact⟨iX,rfl⟩
theorem EZ.add (h:EZ d):EZ (Wa.add d []).1:=by
 unfold Wa.add
 split
 ·split
  ·split
   ·exact h
   ·exact iX
  ·exact iX
 ·exact iX
theorem EZ.reset (h:EZ d):EZ (Wa.reset d []).1:=by
 unfold Wa.reset
 split
 ·split
  ·exact h.write rfl
  ·exact iX
 ·exact iX
end Wg
theorem xQ (D:HD)(w:World)(h:aW w w D)(hwn:D.Wn≤1000000) :
  Calls prog 118 #[.agg #[.slice D.A D.n D.c,.slice D.WA D.Wn D.Wc]] w fun e w'=>∃D',e=.returned (.agg #[.slice D'.A D'.n D'.c,.slice D'.WA D'.Wn D'.Wc])∧bF w' w D'∧D'.disk=D.disk∧Below w w w':=by
 have hlen:=h.oP;have hlim:=h.lim;obtain⟨A,n,c,d,WA,Wn,Wc,l⟩:=D;simp only at hlen hlim hwn ⊢;have hz:w.heap.size+1<w.heap.size+2:=by omega
 have HD0:=L_ h;have HPL:=L_ (fun q hq=>(h.all q hq).2.2.2);have HL:=L_ hlen;have B0:=L_ (((aaO _ w).alloc (Zh w) (.cells #[.slice A n c,.slice WA Wn Wc] 49)).alloc (by simp) (.cells #[(),()] 49));have KD:=L_ ((aF.new w 49 #[.slice A n c,.slice WA Wn Wc]).alloc (.cells #[(),()] 49));have KR:=L_ (aF.newAt (w:=w.alloc (.cells #[.slice A n c,.slice WA Wn Wc] 49)) (g:=w.heap.size+1) (by simp) 49 #[(),()]);have HR0:=L_ (h.rd.below B0);clear h hlen
 go_enter func118,ntmps118
 go_wp2_with (at_builtin;refine rG rfl (.const (())) (.tmp 7) rfl (w.heap.size+2) (()) 0 [] rfl (aaU _ _ _ _) w A n c d rfl HR0 (by omega) (by simp) ?_);intro v' w2 h1 h2;have KD2:=L_ ((KD.grown h2.1 (by simp[Value.ownBlock])).alloc (.cells #[v',()] 49));have KR2:=L_ ((KR.grown h2.1 (by simp[Value.ownBlock])).alloc (.cells #[v',()] 49));have K7:=L_ (aF.new w2 49 #[v',()]);have B2:=L_ ((nX B0 h2.1 B0.size).alloc (Zt B0.size h2.1.size) (.cells #[v',()] 49));obtain⟨A1,c1,rfl,_,_,_⟩:=bH h1;have O1:=L_ (h1.alloc (.cells #[.slice A1 n c1,()] 49));have hz2:w.heap.size+2≤w2.heap.size:=by have:=h2.1.size;simpa using this
 clear h1 h2 KD KR B0;have d1:=KD2.cell 1;go_wp2;clear d1;have HWS:=L_ (show(w2.alloc (.cells #[.slice A1 n c1,()] 49)).heap.size=w2.heap.size+1 by simp);generalize w2.alloc (.cells #[.slice A1 n c1,()] 49)=W at *;generalize w2.heap.size=g7 at *
 go_loopw [13] (fun y wr=>Kl W g7 A1 n c1 l y wr) (fun y _=>Wn - (intOf y).toNat)
 case atStart=>exact⟨0,none,0,[],rfl,Zq _,World.grownBy.refl _ _,K7,aaU _ _ _ _,rfl,by simp⟩
 case round=>
  obtain⟨k,WA2,Wc2,l',rfl,hk,hg,hK,hO,hl',hA⟩:=hrel;have HG:=L_ hg;have HK:=L_ hK;have HO:=L_ hO;have HL':=L_ hl';have HA:=L_ hA;clear hg hK hO hl' hA;rw[HL.out] at hk;have HBW:=L_ (below_grown B2 HG B2.size (by omega));have KDr:=L_ (KD2.grown HG (by intro e;injection e with e;omega));have hszr:=HG.size;have y1:=KDr.cell 1
  by_cases hlt:k<Wn
  ·obtain⟨g,off,q,e,hgg,hmm,hc⟩:=(HD0.EU.below HBW).hput hlt;have hqm:=Zk hmm;have hqa:=(HD0.all q hqm).below HBW;have hql:=HPL q hqm;simp only at e;subst e;obtain⟨qw,qA,qn,qc,qd⟩:=q;simp only at hql;have HM2:=L_ hmm;have HQ:=L_ hqa.1;have HC:Hid (wr.rangeAt g (off+k*2) [qw,.slice qA qn qc]):=L_ hc;clear hc hmm hqa hqm y1;have HQ1:=L_ (HQ.keep (w':=wr.alloc (.cells #[qw,.slice qA qn qc] 215)) fun p hp=>World.cell?_alloc_lt wr _ p (by have:=HBW.size;omega));go_wp2_with (first|(with_reducible refine wpList_load_mid rfl _ _ rfl _ _ rfl _ _ HC.out underlying215 rfl (by kernel_rfl) ?_)|(at_builtin;refine rG rfl (.const (())) (.tmp 18) rfl W.heap.size (()) 0 [] rfl (aaU _ _ _ _) w qA qn qc qd rfl HQ1.out (by omega) (by have:=HG.out.size;simp;omega) ?_));intro v4 w4 o4 g4;have hown4:(wr.alloc (.cells #[qw,.slice qA qn qc] 215)).grownBy w4 none:=g4.1;have HB4:=L_ (nX (HBW.alloc HBW.size (.cells #[qw,.slice qA qn qc] 215)) hown4 (by have:=HBW.size;simp;omega));have HG4:=L_ (EI (jQ HG (.cells #[qw,.slice qA qn qc] 215)) ⟨hown4.os,hown4.tape,hown4.output,hown4.size,fun i hi _=>hown4.block i hi (by simp)⟩);have KG4:=L_ ((HK.alloc (.cells #[qw,.slice qA qn qc] 215)).grown hown4 (by simp));have KP4:=L_ ((aF.new wr 215 #[qw,.slice qA qn qc]).grown hown4 (by simp));have HO4:=L_ (rV (HO.alloc (.cells #[qw,.slice qA qn qc] 215)) hown4);have HLT:Hid (∀g,(Value.slice WA2 k Wc2).ownBlock=some g→W.heap.size≤g∧g<wr.heap.size):=fun g hg=>uI HO hg;have HA4:Hid (∀q∈l',w4.ownsRow W 5 1 (.slice q.A q.n q.c) q.n (cb q.d)∧q.n≤140737488351232):=fun q hq=>⟨rV ((HA q hq).1.alloc _) hown4,(HA q hq).2⟩
   have hsw4:wr.heap.size+1≤w4.heap.size:=by have:=hown4.size;simpa using this
   obtain⟨A4,c4,rfl⟩:=kM o4;have O4:=L_ o4;clear o4 g4 hown4 HG HK HO HA HQ HQ1 KDr HC;have hne:wr.heap.size≠g7:=by have:=HWS.out;omega
   have hne2:g7≠wr.heap.size:=by have:=HWS.out;omega
   have p0:=KP4.cell 0;have p1:=KP4.cell 1;have fp1:=KP4.frozen 1;have k1:=KG4.cell 1;have KG5:=L_ (KG4.far (p:=⟨wr,1,none⟩) hne2 (.slice A4 qn c4));have KP5:=L_ (KP4.aM 1 (.slice A4 qn c4));have HB5:=L_ (HB4.setCell (p:=⟨wr,1,none⟩) (by show w.heap.size≤wr.heap.size;exact HBW.size) (.slice A4 qn c4));have HG5:=L_ (dx HG4 (p:=⟨wr,1,none⟩) (Or.inr (by show W.heap.size≤wr.heap.size;omega)) (.slice A4 qn c4));have HO5:Hid ((w4.setCell ⟨wr,1,none⟩ (.slice A4 qn c4)).ownsRow W 215 2 (.slice WA2 k Wc2) k (hp l')):=aN HO4 fun g hg=>Below.heap_setCell w4 ⟨wr,1,none⟩ _ g (by have:=(HLT g hg).2;show g≠wr.heap.size;omega);have HA5:Hid (∀q∈l',(w4.setCell ⟨wr,1,none⟩ (.slice A4 qn c4)).ownsRow W 5 1 (.slice q.A q.n q.c) q.n (cb q.d)∧q.n≤140737488351232):=fun q hq=>⟨aT (HA4 q hq).1 KP4 (by decide) 1 _,(HA4 q hq).2⟩;have O5:=L_ (aT O4 KP4 (by decide) 1 (.slice A4 qn c4));have hsw5:wr.heap.size+1≤(w4.setCell ⟨wr,1,none⟩ (.slice A4 qn c4)).heap.size:=by simpa[World.setCell] using hsw4
   have NP:Hid (Reads ((w4.setCell ⟨wr,1,none⟩ (.slice A4 qn c4)).alloc (.cells #[qw,.slice A4 qn c4] 215)) (w4.heap.size+1) 2 (some ⟨w4,0,none⟩) 1 (hp [⟨qw,A4,qn,c4,qd⟩])):=by
    have h:=Cy (w4.setCell ⟨wr,1,none⟩ (.slice A4 qn c4)) qw A4 qn c4 qd;rw[show(w4.setCell ⟨wr,1,none⟩ (.slice A4 qn c4)).heap.size=w4.heap.size by simp[World.setCell]] at h;exact h
   go_wp2_with (at_builtin;go_must (refine TS rfl (.tmp 22) (.tmp 24) rfl W.heap.size (.slice WA2 k Wc2) k l' rfl (HO5.alloc (.cells #[qw,.slice A4 qn c4] 215)) _ (some ⟨w4,0,none⟩) 1 ⟨qw,A4,qn,c4,qd⟩ rfl NP (by omega) (by simp;omega) ?_));intro v5 w5 o5 g5;have KG6:=L_ ((KG5.alloc (.cells #[qw,.slice A4 qn c4] 215)).grown g5.1 (fun e=>aQ (HO5.alloc (.cells #[qw,.slice A4 qn c4] 215)) (KG5.alloc _) (by decide) e.symm));have HG6:=L_ (Ap (jQ HG5 (.cells #[qw,.slice A4 qn c4] 215)) g5.1 (fun g hg=>(HLT g hg).1))
   have HA6:Hid (∀q∈l'++[⟨qw,A4,qn,c4,qd⟩],w5.ownsRow W 5 1 (.slice q.A q.n q.c) q.n (cb q.d)∧q.n≤140737488351232):=by
    intro q hq
    rcases Zm.1 hq with hq|hq
    ·exact⟨kR ((HA5 q hq).1.alloc _) (HO5.alloc _) (by decide) g5,(HA5 q hq).2⟩
    ·rw[Zp] at hq;subst hq;exact⟨kR (O5.alloc _) (HO5.alloc _) (by decide) g5,by show qn≤_;omega⟩
   obtain⟨A5,c5,rfl⟩:=kM o5;have O6:=L_ o5;clear o5 g5 HG4 KG4 KP4 HO4 HA4 O4 KG5 KP5 HO5 HA5 O5 HLT HB4 HB5 HG5 p0 p1 fp1 k1;have y1:=KG6.cell 1;have fz1:=KG6.frozen 1;go_wp2
   go_roundw
   case rel=>exact⟨k+1,A5,c5,l'++[⟨qw,A4,qn,c4,qd⟩],by go_num,by rw[HL.out];omega,dx HG6 (Or.inl rfl) _,KG6.aM 1 _,aT O6 KG6 (by decide) 1 _,by rw[aag,HL'.out,jV HM2.out];rfl,fun q hq=>⟨aT (HA6 q hq).1 KG6 (by decide) 1 _,(HA6 q hq).2⟩⟩
   case measure=>simp[intOf];omega
  ·obtain rfl:k=Wn:=by omega
   have KRr:=L_ (KR2.grown HG (by intro e;injection e with e;omega));have Or:=L_ (vK O1 HG K7 (by decide))
   have HLl:Hid (l'.map HP.put=l.map HP.put):=by
    rw[Hid,HL'.out,Zz (by rw[HL.out];exact Zh _)]
   have OD:Hid (bF wr w ⟨A1,n,c1,d,WA2,k,Wc2,l'⟩):=L_ ⟨aG Or (by omega),aG HO B2.size,hlim,by show k≤_;omega,fun q hq=>⟨aG (HA q hq).1 B2.size,(HA q hq).2⟩⟩;have HDk:Hid ((⟨A1,n,c1,d,WA2,k,Wc2,l'⟩:HD).disk=⟨d,l.map HP.put⟩):=by rw[Hid,HD.disk];simp only[HLl.out]
   have x0:=HK.cell 0;have x1:=HK.cell 1;have z0:=KRr.cell 0;have z1:=KRr.cell 1;have fz0:=KRr.frozen 0;have fz1:=KRr.frozen 1;clear HO HA HL' Or HLl KR2 K7 O1 B2 HG KD2 HD0 HPL;go_wp2;exact aaT (v:=.agg #[.slice A1 n c1,.slice WA2 k Wc2]) (by simp[results,results118,go_sem,z0,z1]) rfl ⟨⟨A1,n,c1,d,WA2,k,Wc2,l'⟩,rfl,(OD.aM KRr 0 _).aM (KRr.aM 0 _) 1 _,HDk,(HBW.setCell (by simp) _).setCell (by simp) _⟩
theorem Kq {l:List HP}(h:l.length≤k)(m:Nat):Dp.part (l.map HP.put) k m=[]:=by
 unfold Dp.part;rw[List.getElem?_eq_none (by simpa using h)]
theorem LW {l:List HP}{p:HP}(h:l[k]?=some p)(m:Nat):Dp.part (l.map HP.put) k m=if p.sw then [] else p.d.take m:=by
 unfold Dp.part;rw[ZU,h];rfl
theorem Ns (D:HD)(k m:Nat)(w:World)(h:aW w w D)(hm:Dp.dF D.disk=true)(hk:k≤D.Wn)(hmb:m≤9223372036854775807) :
  Calls prog 57 #[.agg #[.slice D.A D.n D.c,.slice D.WA D.Wn D.Wc],(k:Int),(m:Int)] w fun e w'=>∃D',e=.returned (.tuple #[.agg #[.slice D'.A D'.n D'.c,.slice D'.WA D'.Wn D'.Wc],.int .i64 0])∧bF w' w D'∧D'.disk=⟨Dp.done D.d ((D.l.take k).map HP.put)++Dp.part (D.l.map HP.put) k m,[]⟩∧Below w w w':=by
 have hfit:=sZ hm;have hlen:=h.oP;have hz:w.heap.size+1<w.heap.size+2:=by omega
 have HA:=L_ ((h.alloc (.cells #[.slice D.A D.n D.c,.slice D.WA D.Wn D.Wc] 49)).alloc (.cells #[(),()] 49));have B0:=L_ (((aaO _ w).alloc (Zh w) (.cells #[.slice D.A D.n D.c,.slice D.WA D.Wn D.Wc] 49)).alloc (by simp) (.cells #[(),()] 49));have KD0:=L_ ((aF.new w 49 #[.slice D.A D.n D.c,.slice D.WA D.Wn D.Wc]).alloc (.cells #[(),()] 49));have K0:=L_ (aF.newAt (w:=w.alloc (.cells #[.slice D.A D.n D.c,.slice D.WA D.Wn D.Wc] 49)) (g:=w.heap.size+1) (by simp) 49 #[(),()]);have HM:=L_ hm;have HF:=L_ hfit;have HL:=L_ hlen;have HH:=L_ h;have n1:decide ((k:Int)<0)=false:=ZE (by omega);have n2:¬(k:Int)>(D.Wn:Int):=by omega
 have n2':¬(D.Wn:Int)<(k:Int):=by omega
 have n3:decide ((m:Int)<0)=false:=ZE (by omega);clear h hm hfit hlen
 go_enter func57,ntmps57
 go_wp2_with fail;refine(gB D _ true HM HA).mono ?_;rintro e w1 ⟨rfl,hb⟩;rw[show eD true=0 from rfl];have KD1:=L_ (KD0.below hb KD0.lt);have K1:=L_ (K0.below hb K0.lt);have HA1:=L_ (HA.up hb);have B1:=L_ (B0.trans (hb.mono B0.size));clear hb K0 KD0 HA B0;have y0:=KD1.cell 0;have y1:=KD1.cell 1;go_wp2_with fail;refine(FW D w1 HA1 HM k hk).mono ?_;rintro e w2 ⟨A2,c2,m2,rfl,hm2,ho,hb⟩;have HS2:Hid (m2≤1048576):=by rw[Hid,←hm2];exact rU HF k
 obtain⟨bs,hbs⟩:∃bs,Dp.done D.d ((D.l.take k).map HP.put)=bs:=⟨_,rfl⟩;rw[hbs] at hm2 ho;have HBS:=L_ hbs;clear hbs;have KD2:=L_ (KD1.below hb KD1.lt);have K2:=L_ (K1.below hb K1.lt);have HM2:=L_ hm2;have HW2:=L_ (aQ ho (K1.below hb K1.lt) (by decide));have HO:=L_ (aG (base':=w.heap.size) ho B1.size);have B2:=L_ (B1.trans (hb.mono B1.size));clear hm2 ho hb y0 y1 K1 KD1 B1 HA1;have y0:=KD2.cell 0;have y1:=KD2.cell 1;have z0:=K2.cell 0;have z1:=K2.cell 1;have fz0:=K2.frozen 0;have fz1:=K2.frozen 1
 by_cases hlt:k<D.Wn
 ·obtain⟨g,off,p,e,hg,hmm,hc⟩:=(HH.below B2).EU.hput hlt;have hp':=Zk hmm;have HPA:=L_ ((HH.below B2).all p hp');have HPL:Hid (p.n≤1048576):=by rw[Hid,←HH.out.EX hp'];exact Te HM hp'
  have HPD:Hid (p.d.length=p.n):=HH.EX hp';have HPT:=L_ (LW hmm m);have c0:=hc 0 _ rfl;have c1:=hc 1 _ rfl;rw[Nat.add_zero] at c0;clear hc hmm hp';have l1:decide ((k:Int)<(D.Wn:Int))=true:=ZG (by omega);have l2:decide (k<D.Wn)=true:=ZG hlt;obtain⟨sw,pA,pn,pc,pd⟩:=p;replace HPL:Hid (pn≤1048576):=HPL;replace HPD:Hid (pd.length=pn):=HPD;replace HPT:Hid (Dp.part (D.l.map HP.put) k m=if sw=true then [] else pd.take m):=HPT;cases sw with
  |true=>
   go_wp2;exact aaT (v:=.tuple #[.agg #[.slice A2 m2 c2,()],.int .i64 0]) (by simp[results,results57,go_sem,z0,z1]) rfl ⟨⟨A2,m2,c2,_,none,0,0,[]⟩,rfl,⟨aT (aT HO K2 (by decide) 0 _) (K2.aM 0 _) (by decide) 1 _,aaU _ _ _ _,by show m2≤_;have:=HS2.out;omega,Zq _,by simp⟩,by rw[HBS.out,show Dp.part (D.l.map HP.put) k m=[] from HPT.out.trans (aaS (by trivial)),aak];rfl,(B2.setCell (by simp) _).setCell (by simp) _⟩
  |false=>
   rcases aaA pn m with hcase|hcase
   ·have hqp:pn≤pn:=Zh _;have hmp:¬(m:Int)≤(pn:Int):=by omega
    have hmp2:(pn:Int)<(m:Int):=by omega
    have HQ:Hid (pd.take pn=pd.take m):=by rw[Hid,Zz (by rw[HPD.out];exact Zh _),Zz (by rw[HPD.out];omega)]
    have hs0:=fun W=>nJ (P:=prog) underlying46 pA pn pc pn (Zt hqp HPA.2.1) W jS;have HR:=L_ (HPA.1.first hqp);go_wp2_with (at_builtin;(refine rG rfl (.tmp 58) (.tmp 64) rfl w.heap.size (.slice A2 m2 c2) m2 _ rfl HO w pA pn pc (pd.take pn) rfl (by rw[←wR];exact HR) (by have:=HS2.out;have:=HPL.out;omega) B2.size ?_));intro v' w' h1 h2;have H1:=L_ h1;have B3:=L_ (B2.trans (h2.bW HO B2.size));have K3:=L_ (K2.grown h2.1 (fun e=>HW2 e.symm));have HW3:=L_ (aQ h1 (K2.grown h2.1 (fun e=>HW2 e.symm)) (by decide));obtain⟨A3,c3,rfl,_,_,_⟩:=bH h1;clear h1 h2 z0 z1 fz0 fz1;have z0:=K3.cell 0;have z1:=K3.cell 1;have fz0:=K3.frozen 0;have fz1:=K3.frozen 1;have HT:Hid (m2+pn≤140737488351232):=by have:=HS2.out;have:=HPL.out;rw[Hid];omega
    go_wp2;exact aaT (v:=.tuple #[.agg #[.slice A3 (m2+pn) c3,()],.int .i64 0]) (by simp[results,results57,go_sem,z0,z1]) rfl ⟨⟨A3,m2+pn,c3,_,none,0,0,[]⟩,rfl,⟨aT (aT H1 K3 (by decide) 0 _) (K3.aM 0 _) (by decide) 1 _,aaU _ _ _ _,HT,Zq _,by simp⟩,by rw[HBS.out,show Dp.part (D.l.map HP.put) k m=pd.take pn from(HPT.out.trans (aaR (by simp))).trans HQ.out.symm];rfl,(B3.setCell (by simp) _).setCell (by simp) _⟩
   ·have hqp:m≤pn:=by omega
    have hmp:(m:Int)≤(pn:Int):=by omega
    have hmp2:¬(pn:Int)<(m:Int):=by omega
    have hs0:=fun W=>nJ (P:=prog) underlying46 pA pn pc m (Zt hqp HPA.2.1) W jS;have HR:=L_ (HPA.1.first hqp);go_wp2_with (at_builtin;(refine rG rfl (.tmp 58) (.tmp 64) rfl w.heap.size (.slice A2 m2 c2) m2 _ rfl HO w pA m pc (pd.take m) rfl (by rw[←wR];exact HR) (by have:=HS2.out;have:=HPL.out;omega) B2.size ?_));intro v' w' h1 h2;have H1:=L_ h1;have B3:=L_ (B2.trans (h2.bW HO B2.size));have K3:=L_ (K2.grown h2.1 (fun e=>HW2 e.symm));have HW3:=L_ (aQ h1 (K2.grown h2.1 (fun e=>HW2 e.symm)) (by decide));obtain⟨A3,c3,rfl,_,_,_⟩:=bH h1;clear h1 h2 z0 z1 fz0 fz1;have z0:=K3.cell 0;have z1:=K3.cell 1;have fz0:=K3.frozen 0;have fz1:=K3.frozen 1;have HT:Hid (m2+m≤140737488351232):=by have:=HS2.out;have:=HPL.out;rw[Hid];omega
    go_wp2;exact aaT (v:=.tuple #[.agg #[.slice A3 (m2+m) c3,()],.int .i64 0]) (by simp[results,results57,go_sem,z0,z1]) rfl ⟨⟨A3,m2+m,c3,_,none,0,0,[]⟩,rfl,⟨aT (aT H1 K3 (by decide) 0 _) (K3.aM 0 _) (by decide) 1 _,aaU _ _ _ _,HT,Zq _,by simp⟩,by rw[HBS.out,show Dp.part (D.l.map HP.put) k m=pd.take m from HPT.out.trans (aaR (by simp))];rfl,(B3.setCell (by simp) _).setCell (by simp) _⟩
 ·have l1:decide ((k:Int)<(D.Wn:Int))=false:=ZE (by omega);have l2:decide (k<D.Wn)=false:=ZE hlt;have HPT:=L_ (Kq (l:=D.l) (k:=k) (by rw[HL.out];omega) m);go_wp2;exact aaT (v:=.tuple #[.agg #[.slice A2 m2 c2,()],.int .i64 0]) (by simp[results,results57,go_sem,z0,z1]) rfl ⟨⟨A2,m2,c2,_,none,0,0,[]⟩,rfl,⟨aT (aT HO K2 (by decide) 0 _) (K2.aM 0 _) (by decide) 1 _,aaU _ _ _ _,by show m2≤_;have:=HS2.out;omega,Zq _,by simp⟩,by rw[HBS.out,HPT.out,aak];rfl,(B2.setCell (by simp) _).setCell (by simp) _⟩
theorem Lj (D:HD)(keep many:Int)(w:World)(h:aW w w D)(hm:Dp.dF D.disk=false) :
  Calls prog 57 #[.agg #[.slice D.A D.n D.c,.slice D.WA D.Wn D.Wc],keep,many] w fun e w'=>e=.returned (.tuple #[.agg #[(),()],.int .i64 30])∧Below w w w':=by
 have hz:w.heap.size+1<w.heap.size+2:=by omega
 have HA:=L_ ((h.alloc (.cells #[.slice D.A D.n D.c,.slice D.WA D.Wn D.Wc] 49)).alloc (.cells #[(),()] 49));have B0:=L_ (((aaO _ w).alloc (Zh w) (.cells #[.slice D.A D.n D.c,.slice D.WA D.Wn D.Wc] 49)).alloc (by simp) (.cells #[(),()] 49));have K0:=L_ (aF.newAt (w:=w.alloc (.cells #[.slice D.A D.n D.c,.slice D.WA D.Wn D.Wc] 49)) (g:=w.heap.size+1) (by simp) 49 #[(),()]);have HM:=L_ hm;clear h hm
 go_enter func57,ntmps57
 go_wp2_with fail;refine(gB D _ false HM HA).mono ?_;rintro e w1 ⟨rfl,hb⟩;rw[show eD false=30 from rfl];have K1:=L_ (K0.below hb K0.lt);have B1:=L_ (B0.trans (hb.mono B0.size));clear hb K0 HA B0;have z0:=K1.cell 0;have z1:=K1.cell 1;have fz0:=K1.frozen 0;have fz1:=K1.frozen 1;go_wp2;exact aaT (v:=.tuple #[.agg #[(),()],.int .i64 30]) (by simp[results,results57,go_sem,z0,z1]) rfl ⟨rfl,(B1.setCell (by simp) _).setCell (by simp) _⟩
theorem KT (D:HD)(keep many:Int)(w:World)(h:aW w w D)(hm:Dp.dF D.disk=true)(hk:keep<0∨keep>D.Wn∨many<0) :
  Calls prog 57 #[.agg #[.slice D.A D.n D.c,.slice D.WA D.Wn D.Wc],keep,many] w fun e w'=>e=.returned (.tuple #[.agg #[(),()],.int .i64 2])∧Below w w w':=by
 have hz:w.heap.size+1<w.heap.size+2:=by omega
 have HA:=L_ ((h.alloc (.cells #[.slice D.A D.n D.c,.slice D.WA D.Wn D.Wc] 49)).alloc (.cells #[(),()] 49));have B0:=L_ (((aaO _ w).alloc (Zh w) (.cells #[.slice D.A D.n D.c,.slice D.WA D.Wn D.Wc] 49)).alloc (by simp) (.cells #[(),()] 49));have K0:=L_ (aF.newAt (w:=w.alloc (.cells #[.slice D.A D.n D.c,.slice D.WA D.Wn D.Wc] 49)) (g:=w.heap.size+1) (by simp) 49 #[(),()]);have KD0:=L_ ((aF.new w 49 #[.slice D.A D.n D.c,.slice D.WA D.Wn D.Wc]).alloc (.cells #[(),()] 49));have HM:=L_ hm;have HK:=L_ hk;clear h hm hk
 go_enter func57,ntmps57
 go_wp2_with fail;refine(gB D _ true HM HA).mono ?_;rintro e w1 ⟨rfl,hb⟩;rw[show eD true=0 from rfl];have K1:=L_ (K0.below hb K0.lt);have KD1:=L_ (KD0.below hb KD0.lt);have B1:=L_ (B0.trans (hb.mono B0.size));clear hb K0 HA B0;have y0:=KD1.cell 0;have y1:=KD1.cell 1;have z0:=K1.cell 0;have z1:=K1.cell 1;have fz0:=K1.frozen 0;have fz1:=K1.frozen 1
 by_cases h1:keep<0
 ·have d1:decide (keep<0)=true:=ZG h1;go_wp2;exact aaT (v:=.tuple #[.agg #[(),()],.int .i64 2]) (by simp[results,results57,go_sem,z0,z1]) rfl ⟨rfl,(B1.setCell (by simp) _).setCell (by simp) _⟩
 ·have d1:decide (keep<0)=false:=ZE h1
  by_cases h2:(D.Wn:Int)<keep
  ·have d2:decide ((D.Wn:Int)<keep)=true:=ZG h2;go_wp2;exact aaT (v:=.tuple #[.agg #[(),()],.int .i64 2]) (by simp[results,results57,go_sem,z0,z1]) rfl ⟨rfl,(B1.setCell (by simp) _).setCell (by simp) _⟩
  ·have d2:decide ((D.Wn:Int)<keep)=false:=ZE h2;have h3:many<0:=by have:=HK.out;omega
   have d3:decide (many<0)=true:=ZG h3;go_wp2;exact aaT (v:=.tuple #[.agg #[(),()],.int .i64 2]) (by simp[results,results57,go_sem,z0,z1]) rfl ⟨rfl,(B1.setCell (by simp) _).setCell (by simp) _⟩
theorem Mi (D:HD)(keep many:Int)(w:World)(h:aW w w D)(hmb:many≤9223372036854775807) :
  Calls prog 57 #[.agg #[.slice D.A D.n D.c,.slice D.WA D.Wn D.Wc],keep,many] w fun e w'=>∃D',e=.returned (.tuple #[.agg #[.slice D'.A D'.n D'.c,.slice D'.WA D'.Wn D'.Wc],(Dp.crash D.disk keep many).2])∧bF w' w D'∧D'.disk=(Dp.crash D.disk keep many).1∧Below w w w':=by
 have hlw:D.disk.wait.length=D.Wn:=by rw[HD.disk];simp only[Z5,h.oP]
 cases hm:Dp.dF D.disk with
 |true=>
  by_cases hk:keep<0∨keep>D.Wn∨many<0
  ·have e:Dp.crash D.disk keep many=(Dp.fQ,2):=by rw[Dp.crash,aaS hm,aaS (by rw[hlw];exact hk)]
   rw[e];refine(KT D keep many w h hm hk).mono ?_;rintro e w1 ⟨rfl,hb⟩;exact⟨iO,rfl,cZ _ _,rfl,hb⟩
  ·have e:Dp.crash D.disk keep many=(⟨Dp.done D.d ((D.l.take keep.toNat).map HP.put)++Dp.part (D.l.map HP.put) keep.toNat many.toNat,[]⟩,0):=by
    rw[Dp.crash,aaS hm,aaR (by rw[hlw];exact hk),List.map_take];rfl
   rw[e];obtain⟨k,rfl⟩:∃k:Nat,keep=k:=⟨keep.toNat,by omega⟩;obtain⟨m,rfl⟩:∃m:Nat,many=m:=⟨many.toNat,by omega⟩;simp only[Z9];exact Ns D k m w h hm (by omega) (by omega)
 |false=>
  have e:Dp.crash D.disk keep many=(Dp.fQ,30):=by rw[Dp.crash,aaR (by rw[hm];simp)]
  rw[e];refine(Lj D keep many w h hm).mono ?_;rintro e w1 ⟨rfl,hb⟩;exact⟨iO,rfl,cZ _ _,rfl,hb⟩
theorem LU (D:HD)(A:Option Addr)(n c:Nat)(d:List UInt8)(w:World)(R:Dp.dG)(r:Int)(hr:Dp.write D.disk ⟨false,d⟩=(R,r))(h:aW w w D)(hp':fE w w ⟨false,A,n,c,d⟩) :
  Calls prog 163 #[.agg #[.slice D.A D.n D.c,.slice D.WA D.Wn D.Wc],.slice A n c] w fun e w'=>∃D',e=.returned (.tuple #[.agg #[.slice D'.A D'.n D'.c,.slice D'.WA D'.Wn D'.Wc],r])∧bF w' w D'∧D'.disk=R∧Below w w w':=by
 have:=Hu D A n c d w h hp';rw[hr] at this;exact this
theorem Ci (D:HD)(A:Option Addr)(n c:Nat)(d:List UInt8)(w:World)(R:Dp.dG)(r:Int)(hr:Dp.write D.disk ⟨true,d⟩=(R,r))(h:aW w w D)(hp':fE w w ⟨true,A,n,c,d⟩) :
  Calls prog 114 #[.agg #[.slice D.A D.n D.c,.slice D.WA D.Wn D.Wc],.slice A n c] w fun e w'=>∃D',e=.returned (.tuple #[.agg #[.slice D'.A D'.n D'.c,.slice D'.WA D'.Wn D'.Wc],r])∧bF w' w D'∧D'.disk=R∧Below w w w':=by
 have:=Qd D A n c d w h hp';rw[hr] at this;exact this
theorem BP (D:HD)(w:World)(R:List UInt8)(r:Int)(hr:Dp.see D.disk=(R,r))(h:aW w w D) :
  Calls prog 116 #[.agg #[.slice D.A D.n D.c,.slice D.WA D.Wn D.Wc]] w fun e w'=>∃A2 c2 m,e=.returned (.tuple #[.slice A2 m c2,r])∧R.length=m∧w'.ownsRow w 5 1 (.slice A2 m c2) m (cb R)∧Below w w w':=by
 have:=QD D w h;rw[hr] at this;exact this
theorem bF.alloc {D:HD}(h:bF w base D)(o:Obj):bF (w.alloc o) base D:=h.below ((aaO _ w).alloc (Zh _) o)
section
open Go.Joins Go.ChangeShapes Go.WideShapes Go.Deep
variable{H:Type}{enc:TypeId×Value→H}{P:Program}{w:World}{base:Nat}{spare:Nat→Bool}{held:Bool}
end
section
open Go.Joins Go.ChangeShapes Go.WideShapes Go.Deep
variable{H:Type}{enc:TypeId×Value→H}{P:Program}{w:World}{base:Nat}{held:Bool}
end
instance:Inhabited HP:=⟨⟨false,none,0,0,[]⟩⟩
theorem vO {a b:World}(h:Below a a b)(o:Obj):Below a a (b.alloc o):=h.alloc h.size o
theorem Pw (D:HD)(w:World)(R:Dp.dG)(L:List (List UInt8))(r:Int)(hr:Wa.opened D.disk=(R,L,r))(h:aW w w D) :
  Calls prog 58 #[.agg #[.slice D.A D.n D.c,.slice D.WA D.Wn D.Wc]] w fun e w'=>∃D' A n c,e=.returned (.tuple #[.agg #[.slice D'.A D'.n D'.c,.slice D'.WA D'.Wn D'.Wc],.slice A n c,r])∧bF w' w D'∧D'.disk=R∧L.length=n∧w'.ownsRow w 9 1 (.slice A n c) n (ct (L.map S))∧Below w w w':=by
 have hz:w.heap.size+1<w.heap.size+2:=by omega
 have HD0:=L_ h;have HR:=L_ hr;have D1:=L_ ((h.alloc (.cells #[.slice D.A D.n D.c,.slice D.WA D.Wn D.Wc] 49)).alloc (.cells #[(),()] 49));have C:=L_ (((aaO _ w).alloc (Zh w) (.cells #[.slice D.A D.n D.c,.slice D.WA D.Wn D.Wc] 49)).alloc (by simp) (.cells #[(),()] 49));have K1:=L_ ((aF.new w 49 #[.slice D.A D.n D.c,.slice D.WA D.Wn D.Wc]).alloc (.cells #[(),()] 49));have KR:=L_ (aF.newAt (w:=w.alloc (.cells #[.slice D.A D.n D.c,.slice D.WA D.Wn D.Wc] 49)) (g:=w.heap.size+1) (by simp) 49 #[(),()]);clear h hr;have y0:=K1.cell 0;have y1:=K1.cell 1;cases hm:Dp.dF D.disk with
 |false=>
  have e0:Dp.see D.disk=([],30):=by rw[Dp.see,aaR (by rw[hm];simp)]
  have hr:=HR.out;rw[Wa.opened,aaR (by rw[hm];simp)] at hr;obtain⟨rfl,hr2⟩:=aaD hr;obtain⟨rfl,rfl⟩:=aaD hr2;have HS:=L_ e0;clear hr hr2 e0 HR hm
  go_enter func58,ntmps58
  go_wp2_with fail;refine(BP D _ _ _ HS D1).mono ?_;rintro e w2 ⟨A2,c2,m,rfl,hmm,ho,hb⟩;replace KR:=L_ (KR.below hb KR.lt);replace C:=L_ (C.trans (hb.mono C.size));clear hmm ho hb y0 y1;have z0:=KR.cell 0;have z1:=KR.cell 1;have fz0:=KR.frozen 0;have fz1:=KR.frozen 1;go_wp2;exact aaT (v:=.tuple #[.agg #[(),()],(),.int .i64 30]) (by simp[results,results58,go_sem,z0,z1]) rfl ⟨iO,none,0,0,rfl,cZ _ _,rfl,rfl,aaU _ _ _ _,(C.setCell (by simp) _).setCell (by simp) _⟩
 |true=>
  have e0:Dp.see D.disk=(Dp.seen D.disk,0):=by rw[Dp.see,aaS hm]
  have HS:=L_ e0;have HM:=L_ hm;have hr:=HR.out;rw[Wa.opened,aaS hm] at hr;have HR2:=L_ hr;have HSL:=L_ (Dp.oV hm);clear e0 hm hr HR
  go_enter func58,ntmps58
  go_wp2_with fail;refine(BP D _ _ _ HS D1).mono ?_;rintro e w2 ⟨A2,c2,m,rfl,hmm,ho,hb⟩;have hm20:m≤1048576:=by rw[←hmm];exact HSL
  have hmc:m≤c2:=(kG ho).1;have RB:=L_ (Reads.bO ho);have PB:=L_ (kG ho).2;have HMM:=L_ hmm;replace K1:=L_ (K1.below hb K1.lt);replace KR:=L_ (KR.below hb KR.lt);replace C:=L_ (C.trans (hb.mono C.size));clear hmm ho hb y0 y1 D1;go_wp2_with fail;refine(J8 A2 m c2 (Dp.seen D.disk) w2 RB hmc hm20).mono ?_;rintro e w3 ⟨A3,c3,rfl,ho,hb⟩;obtain⟨Lz,z,hcut⟩:∃Lz z,Nm.cut (Dp.seen D.disk)=(Lz,z):=⟨_,_,rfl⟩
  have hzm:z≤m:=by
   have h1:=(Nm.TW ((Dp.seen D.disk).length+1) (Dp.seen D.disk)).1;rw[HMM.out] at h1;have h2:(Nm.cut (Dp.seen D.disk)).2≤m:=by rw[Nm.cut,HMM.out];exact h1
   rw[hcut] at h2;exact h2
  rw[hcut] at ho;simp only[hcut];have LR:=L_ (aG (base':=w.heap.size) ho C.size);have HR3:=HR2.out;rw[hcut,HMM.out] at HR3;simp only at HR3;obtain⟨nl,hnl⟩:∃nl,Lz.length=nl:=⟨_,rfl⟩;have HNL:=L_ hnl;rw[hnl] at LR;rw[hnl];obtain⟨R2,r2,hW⟩:∃R2 r2,Dp.write D.disk ⟨true,(Dp.seen D.disk).take z⟩=(R2,r2):=⟨_,_,rfl⟩;rw[hW] at HR3;simp only at HR3;have HR4:=L_ HR3;have HW:=L_ hW;have RZ:=L_ (((RB.first hzm).below hb).more hb.size);have CZ:=L_ (wR (Dp.seen D.disk) z);replace K1:=L_ (K1.below hb K1.lt);replace KR:=L_ (KR.below hb KR.lt);replace C:=L_ (C.trans (hb.mono C.size));clear hcut ho hb HR2 HR3 hnl hW RB;have y0:=K1.cell 0;have y1:=K1.cell 1;have hzc:z≤c2:=Zt hzm hmc;have hzc2:(z:Int)≤(c2:Int):=by omega
  have hg01:w.heap.size+1<w3.heap.size:=KR.lt;go_wp2_with fail;have HSS:Hid (w3.drew.cell? ⟨w,0,none⟩=some (.slice D.A D.n D.c)∧w3.drew.cell? ⟨w,1,none⟩=some (.slice D.WA D.Wn D.Wc)):=⟨K1.cell 0,K1.cell 1⟩;refine eH 10 (fun w'=>w'.cell? ⟨w,0,none⟩=some (.slice D.A D.n D.c)∧w'.cell? ⟨w,1,none⟩=some (.slice D.WA D.Wn D.Wc)) (by kernel_rfl) (by kernel_rfl) ?_;refine d9 0 HSS (h:=d9 1 HSS (h:=d9 2 HSS (h:=d9 3 HSS (h:=?_))));try simp only[Act.put,aaI,aaJ,aaK]
  refine VW (i:=4) (j:=8) rfl rfl (by kernel_rfl) ?_ ?_
  ·have DD:=L_ ((HD0.below (below_drewN C 1)).more C.size);have PP:=L_ (show fE w3.drew w3.drew ⟨true,A2,z,c2,(Dp.seen D.disk).take z⟩ from⟨by rw[←CZ.out];exact RZ.drew,hzc,PB,by show z≤_;omega⟩);go_wp2_with fail;refine(Ci D A2 z c2 ((Dp.seen D.disk).take z) _ R2 r2 HW DD PP).mono ?_;rintro e w5 ⟨DW,rfl,hx,hex,hb⟩;replace K1:=L_ (K1.drew.below hb K1.lt);replace KR:=L_ (KR.drew.below hb KR.lt);replace LR:=L_ (own_below (show w3.drew.ownsRow _ _ _ _ _ _ from aN LR fun _ _=>rfl) hb);have OW:=L_ ((hx.mono (base':=w.heap.size) C.size).alloc (.cells #[.slice DW.A DW.n DW.c,.slice DW.WA DW.Wn DW.Wc] 49));have EW:=L_ hex;replace C:=L_ ((below_drewN C 1).trans (hb.mono C.size));have HS5:Hid (w5.cell? ⟨w,0,none⟩=some (.slice D.A D.n D.c)∧w5.cell? ⟨w,1,none⟩=some (.slice D.WA D.Wn D.Wc)):=⟨K1.cell 0,K1.cell 1⟩;have HS6:Hid ((w5.alloc (.cells #[(),()] 49)).cell? ⟨w,0,none⟩=some (.slice D.A D.n D.c)∧(w5.alloc (.cells #[(),()] 49)).cell? ⟨w,1,none⟩=some (.slice D.WA D.Wn D.Wc)):=⟨(K1.alloc (.cells #[(),()] 49)).cell 0,(K1.alloc (.cells #[(),()] 49)).cell 1⟩;have HS7:Hid ((w5.alloc (.cells #[.slice DW.A DW.n DW.c,.slice DW.WA DW.Wn DW.Wc] 49)).cell? ⟨w,0,none⟩=some (.slice D.A D.n D.c)∧(w5.alloc (.cells #[.slice DW.A DW.n DW.c,.slice DW.WA DW.Wn DW.Wc] 49)).cell? ⟨w,1,none⟩=some (.slice D.WA D.Wn D.Wc)):=⟨(K1.alloc (.cells #[.slice DW.A DW.n DW.c,.slice DW.WA DW.Wn DW.Wc] 49)).cell 0,(K1.alloc (.cells #[.slice DW.A DW.n DW.c,.slice DW.WA DW.Wn DW.Wc] 49)).cell 1⟩;have K9:=L_ (aF.new w5 49 #[.slice DW.A DW.n DW.c,.slice DW.WA DW.Wn DW.Wc])
   clear hx hex hb DD PP y0 y1 HSS;go_wp2_with fail;simp only[Qn];refine⟨HS5,?_⟩;refine d9 5 HS5 (h:=d9 6 HS5 (h:=d9 7 HS5 (h:=?_)));try simp only[Act.put,aaI,aaJ,aaK]
   refine qW (i:=8) rfl (by kernel_rfl) ?_;go_wp2_with fail;simp only[Qn];refine⟨HS6,?_⟩;refine qW (i:=9) rfl (by kernel_rfl) ?_;go_wp2_with fail;simp only[Qn];refine⟨HS7,?_⟩;refine lH (by kernel_rfl) ?_;have hne:w.heap.size+1≠w5.heap.size:=by have:=KR.lt;omega
   have hne2:w5.heap.size≠w.heap.size+1:=by omega
   have hg9:w.heap.size≤w5.heap.size:=C.size;replace K1:=L_ (K1.alloc (.cells #[.slice DW.A DW.n DW.c,.slice DW.WA DW.Wn DW.Wc] 49));replace KR:=L_ (KR.alloc (.cells #[.slice DW.A DW.n DW.c,.slice DW.WA DW.Wn DW.Wc] 49));replace LR:=L_ (LR.alloc (.cells #[.slice DW.A DW.n DW.c,.slice DW.WA DW.Wn DW.Wc] 49));replace C:=L_ (vO C (.cells #[.slice DW.A DW.n DW.c,.slice DW.WA DW.Wn DW.Wc] 49))
   by_cases hq:z=m
   ·have hq2:(z:Int)=(m:Int):=by omega
    have dq:decide ((z:Int)=(m:Int))=true:=ZG hq2;have hh:=HR4.out;rw[aaS hq] at hh;obtain⟨rfl,hh2⟩:=aaD hh;obtain⟨rfl,rfl⟩:=aaD hh2;clear hh hh2 HR4 hq;have y0:=K1.cell 0;have y1:=K1.cell 1;go_wp2_with fail;refine(xQ D _ ((HD0.below C).more C.size) (by have:=zi HM;have:=HD0.oP;omega)).mono ?_;rintro e w9 ⟨D3,rfl,hx,hex,hb⟩;replace K9:=L_ (K9.below hb K9.lt);replace KR:=L_ (KR.below hb KR.lt);replace LR:=L_ (own_below LR hb);have O3:=L_ (hx.mono (base':=w.heap.size) C.size);have E3:=L_ hex;replace C:=L_ (C.trans (hb.mono C.size));clear hx hex hb y0 y1;have q0:=K9.cell 0;have q1:=K9.cell 1;have fq0:=K9.frozen 0;have fq1:=K9.frozen 1;have z0:=KR.cell 0;have z1:=KR.cell 1;have fz0:=KR.frozen 0;have fz1:=KR.frozen 1;have KRe:=L_ ((KR.far (p:=⟨w5,0,none⟩) hne (.slice D3.A D3.n D3.c)).far (p:=⟨w5,1,none⟩) hne (.slice D3.WA D3.Wn D3.Wc));have LRe:=L_ (aT (aT LR K9 (by decide) 0 (.slice D3.A D3.n D3.c)) (K9.aM 0 (.slice D3.A D3.n D3.c)) (by decide) 1 (.slice D3.WA D3.Wn D3.Wc));have Oe:=L_ ((O3.aM K9 0 (.slice D3.A D3.n D3.c)).aM (K9.aM 0 (.slice D3.A D3.n D3.c)) 1 (.slice D3.WA D3.Wn D3.Wc));have Ce:=L_ ((C.setCell (p:=⟨w5,0,none⟩) hg9 (.slice D3.A D3.n D3.c)).setCell (p:=⟨w5,1,none⟩) hg9 (.slice D3.WA D3.Wn D3.Wc));go_wp2;exact aaT (v:=.tuple #[.agg #[.slice D3.A D3.n D3.c,.slice D3.WA D3.Wn D3.Wc],.slice A3 nl c3,.int .i64 0]) (by simp[results,results58,go_sem,z0,z1,hne,hne2]) rfl ⟨D3,A3,nl,c3,rfl,(Oe.aM KRe 0 _).aM (KRe.aM 0 _) 1 _,E3,HNL,aT (aT LRe KRe (by decide) 0 _) (KRe.aM 0 _) (by decide) 1 _,(Ce.setCell (by simp) _).setCell (by simp) _⟩
   ·have hq2:¬(z:Int)=(m:Int):=by omega
    have dq:decide ((z:Int)=(m:Int))=false:=ZE hq2;have q0:=K9.cell 0;have q1:=K9.cell 1;have z0:=KR.cell 0;have z1:=KR.cell 1;have fz0:=KR.frozen 0;have fz1:=KR.frozen 1
    by_cases hr0:r2=0
    ·subst hr0;have hh:=HR4.out;rw[aaR hq,aaS rfl] at hh;obtain⟨rfl,hh2⟩:=aaD hh;obtain⟨rfl,rfl⟩:=aaD hh2;clear hh hh2 HR4;go_wp2;exact aaT (v:=.tuple #[.agg #[.slice DW.A DW.n DW.c,.slice DW.WA DW.Wn DW.Wc],.slice A3 nl c3,.int .i64 0]) (by simp[results,results58,go_sem,z0,z1,hne,hne2]) rfl ⟨DW,A3,nl,c3,rfl,(OW.aM KR 0 _).aM (KR.aM 0 _) 1 _,EW,HNL,aT (aT LR KR (by decide) 0 _) (KR.aM 0 _) (by decide) 1 _,(C.setCell (by simp) _).setCell (by simp) _⟩
    ·have dr0:decide (r2=0)=false:=ZE hr0;have hh:=HR4.out;rw[aaR hq,aaR hr0] at hh;obtain⟨rfl,hh2⟩:=aaD hh;obtain⟨rfl,rfl⟩:=aaD hh2;clear hh hh2 HR4;go_wp2;exact aaT (v:=.tuple #[.agg #[(),()],(),.int .i64 r2]) (by simp[results,results58,go_sem,z0,z1]) rfl ⟨iO,none,0,0,rfl,cZ _ _,rfl,rfl,aaU _ _ _ _,(C.setCell (by simp) _).setCell (by simp) _⟩
  ·replace K1:=L_ (K1.drew.alloc (.cells #[(),()] 49));replace KR:=L_ (KR.drew.alloc (.cells #[(),()] 49));replace LR:=L_ ((show w3.drew.ownsRow _ _ _ _ _ _ from aN LR fun _ _=>rfl).alloc (.cells #[(),()] 49));replace C:=L_ (vO (below_drewN C 1) (.cells #[(),()] 49));have K9z:=L_ (aF.newAt (w:=w3.drew) (g:=w3.heap.size) rfl 49 #[(),()]);have DD:=L_ ((HD0.below C).more C.size);have PP:=L_ ((show fE w3.drew w3.drew ⟨true,A2,z,c2,(Dp.seen D.disk).take z⟩ from⟨by rw[←CZ.out];exact RZ.drew,hzc,PB,by show z≤_;omega⟩).alloc (.cells #[(),()] 49));have HS4:Hid ((w3.drew.alloc (.cells #[(),()] 49)).cell? ⟨w,0,none⟩=some (.slice D.A D.n D.c)∧(w3.drew.alloc (.cells #[(),()] 49)).cell? ⟨w,1,none⟩=some (.slice D.WA D.Wn D.Wc)):=⟨K1.cell 0,K1.cell 1⟩;clear y0 y1 HSS;go_wp2_with fail;simp only[Qn];refine⟨HS4,?_⟩;refine qW (i:=4) rfl (by kernel_rfl) ?_;go_wp2_with fail;refine(Ci D A2 z c2 ((Dp.seen D.disk).take z) _ R2 r2 HW DD PP).mono ?_;rintro e w5 ⟨DW,rfl,hx,hex,hb⟩;replace K1:=L_ (K1.below hb K1.lt);replace KR:=L_ (KR.below hb KR.lt);replace K9z:=L_ (K9z.below hb K9z.lt);replace LR:=L_ (own_below LR hb);have OW:=L_ (hx.mono (base':=w.heap.size) C.size);have EW:=L_ hex;replace C:=L_ (C.trans (hb.mono C.size));have HS5:Hid (w5.cell? ⟨w,0,none⟩=some (.slice D.A D.n D.c)∧w5.cell? ⟨w,1,none⟩=some (.slice D.WA D.Wn D.Wc)):=⟨K1.cell 0,K1.cell 1⟩;have hne:w.heap.size+1≠w3.heap.size:=by omega
   have hne2:w3.heap.size≠w.heap.size+1:=by omega
   have hne3:w.heap.size≠w3.heap.size:=by omega
   have hg9:w.heap.size≤w3.heap.size:=by omega
   clear hx hex hb DD PP HS4;go_wp2_with fail;simp only[Qn];refine⟨HS5,?_⟩;refine d9 5 HS5 (h:=d9 6 HS5 (h:=d9 7 HS5 (h:=?_)));try simp only[Act.put,aaI,aaJ,aaK]
   have k0:=K9z.cell 0;have k1:=K9z.cell 1;have fk0:=K9z.frozen 0;have fk1:=K9z.frozen 1;replace K1:=L_ ((K1.far (p:=⟨w3,0,none⟩) hne3 (.slice DW.A DW.n DW.c)).far (p:=⟨w3,1,none⟩) hne3 (.slice DW.WA DW.Wn DW.Wc));replace KR:=L_ ((KR.far (p:=⟨w3,0,none⟩) hne (.slice DW.A DW.n DW.c)).far (p:=⟨w3,1,none⟩) hne (.slice DW.WA DW.Wn DW.Wc));replace LR:=L_ (aT (aT LR K9z (by decide) 0 (.slice DW.A DW.n DW.c)) (K9z.aM 0 (.slice DW.A DW.n DW.c)) (by decide) 1 (.slice DW.WA DW.Wn DW.Wc));replace OW:=L_ ((OW.aM K9z 0 (.slice DW.A DW.n DW.c)).aM (K9z.aM 0 (.slice DW.A DW.n DW.c)) 1 (.slice DW.WA DW.Wn DW.Wc));replace C:=L_ ((C.setCell (p:=⟨w3,0,none⟩) hg9 (.slice DW.A DW.n DW.c)).setCell (p:=⟨w3,1,none⟩) hg9 (.slice DW.WA DW.Wn DW.Wc));have K9:=L_ ((K9z.aM 0 (.slice DW.A DW.n DW.c)).aM 1 (.slice DW.WA DW.Wn DW.Wc));have HS7:Hid (((w5.setCell ⟨w3,0,none⟩ (.slice DW.A DW.n DW.c)).setCell ⟨w3,1,none⟩ (.slice DW.WA DW.Wn DW.Wc)).cell? ⟨w,0,none⟩=some (.slice D.A D.n D.c)∧((w5.setCell ⟨w3,0,none⟩ (.slice DW.A DW.n DW.c)).setCell ⟨w3,1,none⟩ (.slice DW.WA DW.Wn DW.Wc)).cell? ⟨w,1,none⟩=some (.slice D.WA D.Wn D.Wc)):=⟨K1.cell 0,K1.cell 1⟩;refine qW (i:=9) rfl (by kernel_rfl) ?_;go_wp2_with fail;simp only[Qn];refine⟨HS7,?_⟩;refine lH (by kernel_rfl) ?_;clear k0 k1 fk0 fk1 K9z;generalize (w5.setCell ⟨w3,0,none⟩ (.slice DW.A DW.n DW.c)).setCell ⟨w3,1,none⟩ (.slice DW.WA DW.Wn DW.Wc)=w6 at *
   by_cases hq:z=m
   ·have hq2:(z:Int)=(m:Int):=by omega
    have dq:decide ((z:Int)=(m:Int))=true:=ZG hq2;have hh:=HR4.out;rw[aaS hq] at hh;obtain⟨rfl,hh2⟩:=aaD hh;obtain⟨rfl,rfl⟩:=aaD hh2;clear hh hh2 HR4 hq;have y0:=K1.cell 0;have y1:=K1.cell 1;go_wp2_with fail;refine(xQ D _ ((HD0.below C).more C.size) (by have:=zi HM;have:=HD0.oP;omega)).mono ?_;rintro e w9 ⟨D3,rfl,hx,hex,hb⟩;replace K9:=L_ (K9.below hb K9.lt);replace KR:=L_ (KR.below hb KR.lt);replace LR:=L_ (own_below LR hb);have O3:=L_ (hx.mono (base':=w.heap.size) C.size);have E3:=L_ hex;replace C:=L_ (C.trans (hb.mono C.size));clear hx hex hb y0 y1;have q0:=K9.cell 0;have q1:=K9.cell 1;have fq0:=K9.frozen 0;have fq1:=K9.frozen 1;have z0:=KR.cell 0;have z1:=KR.cell 1;have fz0:=KR.frozen 0;have fz1:=KR.frozen 1;have KRe:=L_ ((KR.far (p:=⟨w3,0,none⟩) hne (.slice D3.A D3.n D3.c)).far (p:=⟨w3,1,none⟩) hne (.slice D3.WA D3.Wn D3.Wc));have LRe:=L_ (aT (aT LR K9 (by decide) 0 (.slice D3.A D3.n D3.c)) (K9.aM 0 (.slice D3.A D3.n D3.c)) (by decide) 1 (.slice D3.WA D3.Wn D3.Wc));have Oe:=L_ ((O3.aM K9 0 (.slice D3.A D3.n D3.c)).aM (K9.aM 0 (.slice D3.A D3.n D3.c)) 1 (.slice D3.WA D3.Wn D3.Wc));have Ce:=L_ ((C.setCell (p:=⟨w3,0,none⟩) hg9 (.slice D3.A D3.n D3.c)).setCell (p:=⟨w3,1,none⟩) hg9 (.slice D3.WA D3.Wn D3.Wc));go_wp2;exact aaT (v:=.tuple #[.agg #[.slice D3.A D3.n D3.c,.slice D3.WA D3.Wn D3.Wc],.slice A3 nl c3,.int .i64 0]) (by simp[results,results58,go_sem,z0,z1,hne,hne2]) rfl ⟨D3,A3,nl,c3,rfl,(Oe.aM KRe 0 _).aM (KRe.aM 0 _) 1 _,E3,HNL,aT (aT LRe KRe (by decide) 0 _) (KRe.aM 0 _) (by decide) 1 _,(Ce.setCell (by simp) _).setCell (by simp) _⟩
   ·have hq2:¬(z:Int)=(m:Int):=by omega
    have dq:decide ((z:Int)=(m:Int))=false:=ZE hq2;have q0:=K9.cell 0;have q1:=K9.cell 1;have z0:=KR.cell 0;have z1:=KR.cell 1;have fz0:=KR.frozen 0;have fz1:=KR.frozen 1
    by_cases hr0:r2=0
    ·subst hr0;have hh:=HR4.out;rw[aaR hq,aaS rfl] at hh;obtain⟨rfl,hh2⟩:=aaD hh;obtain⟨rfl,rfl⟩:=aaD hh2;clear hh hh2 HR4;go_wp2;exact aaT (v:=.tuple #[.agg #[.slice DW.A DW.n DW.c,.slice DW.WA DW.Wn DW.Wc],.slice A3 nl c3,.int .i64 0]) (by simp[results,results58,go_sem,z0,z1,hne,hne2]) rfl ⟨DW,A3,nl,c3,rfl,(OW.aM KR 0 _).aM (KR.aM 0 _) 1 _,EW,HNL,aT (aT LR KR (by decide) 0 _) (KR.aM 0 _) (by decide) 1 _,(C.setCell (by simp) _).setCell (by simp) _⟩
    ·have dr0:decide (r2=0)=false:=ZE hr0;have hh:=HR4.out;rw[aaR hq,aaR hr0] at hh;obtain⟨rfl,hh2⟩:=aaD hh;obtain⟨rfl,rfl⟩:=aaD hh2;clear hh hh2 HR4;go_wp2;exact aaT (v:=.tuple #[.agg #[(),()],(),.int .i64 r2]) (by simp[results,results58,go_sem,z0,z1]) rfl ⟨iO,none,0,0,rfl,cZ _ _,rfl,rfl,aaU _ _ _ _,(C.setCell (by simp) _).setCell (by simp) _⟩
def cs (l:List HP):List Value:=l.map fun p=>.slice p.A p.n p.c
theorem VN (l:List HP)(k:Nat):(cs l)[k]?=(l[k]?).map fun p=>.slice p.A p.n p.c:=by simp[cs]
variable{a:Act}{ops:Array Oper}{Q:Exit→Act→World→Prop}{B:Nat}{o:Oper}{A:Option Addr}
theorem Sq:(prog.info? 46).map (fun i=>(i.zero,i.size,i.bytes))=some (some (.slice none 0 0),1,24):=by kernel_rfl
theorem LX (l m:List HP):cs (l++m)=cs l++cs m:=by simp[cs]
theorem UA {rest:List Oper}(hgd:o.guard=none)(s x:Operand)
  (ho:o.op=.call { callee:=.builtin .append,args:=#[s,x],argTypes:=#[306,306] })
  (base:Nat) (v:Value) (n:Nat) (l:List HP) (hs:a.eval s=v) (hown:w.ownsRow base 46 1 v n (cs l)) (p:HP) (hx:a.eval x=.slice (some ⟨w.heap.size,0,none⟩) 1 1)
  (hn:n≤1000000000) (hbase:base≤w.heap.size)
  (h:∀v' w',w'.ownsRow base 46 1 v' (n+1) (cs (l++[p]))→dX w w' v v'→wpList prog ops Q rest (a.put o.dst v') w') :
  wpList prog ops Q (o::rest) a (w.alloc (.cells #[.slice p.A p.n p.c] 46)):=by
 obtain⟨i0,hi0,hz0,hz1,hz2⟩:=info_parts Sq;have hr:=Reads.new w 46 #[.slice p.A p.n p.c];refine bB _ hgd s x 306 ho base 46 i0 _ 1 24 underlying306 hi0 hz0 hz1 hz2 rfl (by decide) v n (cs l) hs (hown.alloc _) _ _ 1 1 [.slice p.A p.n p.c] hx hr (by simp;rfl) (by simp only[maxLen];omega) (by omega) (by simp;omega) ?_;intro v' w' h1 h2 h3;refine h v' w' (by rw[LX];exact h1) ⟨jE h2,?_⟩
 rcases h3 with h3|h3
 ·exact Or.inl h3
 ·exact Or.inr ⟨_,h3,by simp⟩
def Wm (w:World)(B:Nat)(l:List (List UInt8))(x8 y:Value)(wr:World):Prop:=
 ∃(k:Nat) (fl:List HP),y=(k:Int)∧k≤l.length∧fl.length=k∧wr.ownsRow B 46 1 x8 k (cs fl)∧(∀p∈fl,wr.ownsRow B 5 1 (.slice p.A p.n p.c) p.n (cb p.d)∧p.n≤5000) ∧
  fl.map HP.d=(l.take k).map Nm.txt∧(∀t∈l.take k,t.length≤4096)∧Below w w wr
theorem Rz {n:Nat}{l:List (List UInt8)}(h:Reads w B 1 A n (ct (l.map S)))(hk:k<n):∃ad t,A=some ad∧l[k]?=some t∧w.cell? (ad.add k)=some (.string (S t))∧ad.block<B:=by
 obtain⟨ad,u,e,hb,hu,hc⟩:=h.at_ hk;have hl:l.length=n:=by have:=h.Bq;simpa using this
 have hg:l[k]?=some (l[k]'(by omega)):=Zl (by omega);rw[Df,ZU,hg] at hu;simp only[aad,ZH] at hu;subst hu;exact⟨ad,_,e,hg,hc,hb⟩
theorem KU {X:Dp.dG}{l:List (List UInt8)}{t:List UInt8}(h:l[k]?=some t):Wa.adds X (l.drop k)=if (Dp.write X ⟨false,Nm.txt t⟩).2=0 then Wa.adds (Dp.write X ⟨false,Nm.txt t⟩).1 (l.drop (k+1)) else(Dp.fQ,(Dp.write X ⟨false,Nm.txt t⟩).2):=by
 obtain⟨hk,e⟩:=Zo.1 h;rw[List.drop_eq_getElem_cons hk,e];rfl
theorem all_false {l:List (List UInt8)}{t:List UInt8}(h:l[k]?=some t)(ht:4096<t.length):l.all (fun t=>decide (t.length≤4096))=false:=by
 cases hb:l.all (fun t=>decide (t.length≤4096)) with
 |false=>rfl
 |true=>
  have:=aam.1 hb t (Zk h);simp at this;omega
theorem zL {l:List (List UInt8)}{t:List UInt8}(h:l[k]?=some t)(ha:∀t∈l.take k,t.length≤4096)(ht:t.length≤4096):∀t∈l.take (k+1),t.length≤4096:=by
 intro x hx;rw[ZP,h] at hx
 rcases Zm.1 hx with hx|hx
 ·exact ha x hx
 ·simp at hx;rw[hx];exact ht
def YH (w:World)(B:Nat)(FA:Option Addr)(n Fc:Nat)(fl:List HP)(d:Dp.dG)(l:List (List UInt8))(y:Value)(wr:World):Prop:=
 ∃(k:Nat) (X:HD),y=(k:Int)∧k≤n∧Below w w wr∧aF wr w 49 #[.slice X.A X.n X.c,.slice X.WA X.Wn X.Wc]∧bF wr w X∧Wa.adds d l=Wa.adds X.disk (l.drop k) ∧
  aF wr (w.heap.size+1) 49 #[(),()]∧wr.ownsRow B 46 1 (.slice FA n Fc) n (cs fl)∧∀p∈fl,wr.ownsRow B 5 1 (.slice p.A p.n p.c) p.n (cb p.d)∧p.n≤5000
theorem WR {n:Nat}{l:List HP}(h:Reads w B 1 A n (cs l))(hk:k<n):∃ad p,A=some ad∧l[k]?=some p∧w.cell? (ad.add k)=some (.slice p.A p.n p.c):=by
 obtain⟨ad,u,e,hb,hu,hc⟩:=h.at_ hk;rw[VN] at hu;cases hg:l[k]? with
 |none=>rw[hg] at hu;simp at hu
 |some p=>
  rw[hg] at hu;simp only[aad,ZH] at hu;subst hu;exact⟨ad,p,e,rfl,hc⟩
theorem Vn {fl:List HP}{l:List (List UInt8)}{p:HP}(h:fl.map HP.d=l.map Nm.txt)(hk:fl[k]?=some p):∃t,l[k]?=some t∧p.d=Nm.txt t:=by
 have h1:=congrArg (fun x=>x[k]?) h;simp only[ZU,hk,aad] at h1;cases hl:l[k]? with
 |none=>rw[hl] at h1;simp at h1
 |some t=>rw[hl] at h1;simp at h1;exact⟨t,rfl,h1⟩
theorem Rt (D:HD)(A:Option Addr)(n c:Nat)(l:List (List UInt8))(w:World)(R:Dp.dG)(r:Int)(hr:Wa.add D.disk l=(R,r))(h:aW w w D)(hl:Reads w w 1 A n (ct (l.map S)))(hn:n≤1024) :
  Calls prog 101 #[.agg #[.slice D.A D.n D.c,.slice D.WA D.Wn D.Wc],.slice A n c] w fun e w'=>∃D',e=.returned (.tuple #[.agg #[.slice D'.A D'.n D'.c,.slice D'.WA D'.Wn D'.Wc],r])∧bF w' w D'∧D'.disk=R∧Below w w w':=by
 have hz:w.heap.size+1<w.heap.size+2:=by omega
 have hll:l.length=n:=by have:=hl.Bq;simpa using this
 have HD0:=L_ h;have HL0:=L_ hl;have HR:=L_ hr;have HLL:=L_ hll;have D1:=L_ ((h.alloc (.cells #[.slice D.A D.n D.c,.slice D.WA D.Wn D.Wc] 49)).alloc (.cells #[(),()] 49));have C:=L_ (((aaO _ w).alloc (Zh w) (.cells #[.slice D.A D.n D.c,.slice D.WA D.Wn D.Wc] 49)).alloc (by simp) (.cells #[(),()] 49));have K1:=L_ ((aF.new w 49 #[.slice D.A D.n D.c,.slice D.WA D.Wn D.Wc]).alloc (.cells #[(),()] 49));have KR:=L_ (aF.newAt (w:=w.alloc (.cells #[.slice D.A D.n D.c,.slice D.WA D.Wn D.Wc] 49)) (g:=w.heap.size+1) (by simp) 49 #[(),()]);clear h hr hl hll;have y0:=K1.cell 0;have y1:=K1.cell 1;cases hm:Dp.dF D.disk with
 |false=>
  have e0:Dp.see D.disk=([],30):=by rw[Dp.see,aaR (by rw[hm];simp)]
  have hr:=HR.out;rw[Wa.add,aaR (by rw[hm];simp)] at hr;obtain⟨rfl,rfl⟩:=aaD hr;have HS:=L_ e0;clear hr e0 HR hm
  go_enter func101,ntmps101
  go_wp2_with fail;refine(BP D _ _ _ HS D1).mono ?_;rintro e w2 ⟨A2,c2,m,rfl,hmm,ho,hb⟩;replace KR:=L_ (KR.below hb KR.lt);replace C:=L_ (C.trans (hb.mono C.size));clear hmm ho hb y0 y1;have z0:=KR.cell 0;have z1:=KR.cell 1;have fz0:=KR.frozen 0;have fz1:=KR.frozen 1;go_wp2;exact aaT (v:=.tuple #[.agg #[(),()],.int .i64 30]) (by simp[results,results101,go_sem,z0,z1]) rfl ⟨iO,rfl,cZ _ _,rfl,(C.setCell (by simp) _).setCell (by simp) _⟩
 |true=>
  have e0:Dp.see D.disk=(Dp.seen D.disk,0):=by rw[Dp.see,aaS hm]
  have HS:=L_ e0;have HM:=L_ hm;have hr:=HR.out;rw[Wa.add,aaS hm] at hr;have HR2:=L_ hr;have HSL:=L_ (Dp.oV hm);clear e0 hm hr HR
  go_enter func101,ntmps101
  go_wp2_with fail;refine(BP D _ _ _ HS D1).mono ?_;rintro e w2 ⟨A2,c2,m,rfl,hmm,ho,hb⟩;have hm20:m≤1048576:=by rw[←hmm];exact HSL
  have hmc:m≤c2:=(kG ho).1;have OB:=L_ ho;have HMM:=L_ hmm;have hw12:=C.size;replace K1:=L_ (K1.below hb K1.lt);replace KR:=L_ (KR.below hb KR.lt);replace C:=L_ (C.trans (hb.mono C.size));have hw2:w.heap.size+1<w2.heap.size:=KR.lt;clear hmm ho hb y0 y1 D1;have z1024:¬(1024:Int)<(n:Int):=by omega
  go_wp2
  go_loopw [8,33] (fun x y wr=>Wm w2 w2 l x y wr) (fun _ y _=>n - (intOf y).toNat)
  case atStart=>exact⟨0,[],rfl,Zq _,rfl,aaU _ _ _ _,by simp,by simp,by simp,aaO _ _⟩
  case round=>
   obtain⟨k,fl,rfl,hk,hfl,ho,hp,hd,ha,hb⟩:=hrel;obtain⟨FA,Fc,rfl⟩:=kM ho;have HFL:=L_ hfl;have HO:=L_ ho;have HPf:=L_ hp;have HDD:=L_ hd;have HA:=L_ ha;have HB:=L_ hb;have CW:=L_ (C.trans (hb.mono C.size));rw[HLL.out] at hk;clear hfl ho hp hd ha hb
   by_cases hlt:k<n
   ·obtain⟨ad,t,rfl,ht,hc,hbl⟩:=Rz (HL0.below CW) hlt;have HT:=L_ ht;have HC:=L_ hc;clear ht hc
    by_cases h4:t.length≤4096
    ·have c0:=HC.out;go_wp2_with fail;refine(Eo (S t) (Nm.txt t) (Nm.txt t).length wr (by rw[kZ];exact h4) rfl rfl).mono ?_;rintro e w5 ⟨A5,c5,rfl,ho,hb⟩;have hsm:=AB h4;obtain⟨q,hq⟩:∃q,(Nm.txt t).length=q:=⟨_,rfl⟩;rw[hq] at ho hsm;have O5:=L_ (aG (base':=w2.heap.size) ho HB.size);have HO5:=L_ (own_below HO hb);have HP5:Hid (∀p∈fl,w5.ownsRow w2 5 1 (.slice p.A p.n p.c) p.n (cb p.d)∧p.n≤5000):=fun p hp=>⟨own_below (HPf p hp).1 hb,(HPf p hp).2⟩;have HB5:=L_ (HB.trans (hb.mono HB.size));rw[hq];have HQ:=L_ hq;clear ho hb hq c0 HO HPf HB CW;go_wp2_with (at_builtin;refine UA rfl (.tmp 46) (.tmp 48) rfl w2.heap.size (.slice FA k Fc) k fl rfl HO5 ⟨false,A5,q,c5,Nm.txt t⟩ rfl (by omega) HB5.size ?_);intro v6 w6 o6 g6;obtain⟨F6,cF6,rfl⟩:=kM o6;have O6:=L_ o6
     have HP6:Hid (∀p∈fl++[⟨false,A5,q,c5,Nm.txt t⟩],w6.ownsRow w2 5 1 (.slice p.A p.n p.c) p.n (cb p.d)∧p.n≤5000):=by
      intro p hp
      rcases Zm.1 hp with hp|hp
      ·exact⟨kR (HP5 p hp).1 HO5 (by decide) g6,(HP5 p hp).2⟩
      ·rw[Zp] at hp;subst hp;exact⟨kR O5 HO5 (by decide) g6,hsm⟩
     have HB6:=L_ (HB5.trans (g6.bW HO5 HB5.size));clear o6 g6 HO5 HP5 HB5 O5;go_wp2
     go_roundw
     case rel=>exact⟨k+1,fl++[⟨false,A5,q,c5,Nm.txt t⟩],by go_num,by rw[HLL.out];omega,by rw[Zn,HFL.out];rfl,O6.out,HP6.out,by rw[aag,HDD.out,ZP,HT.out,aag];rfl,zL HT.out HA.out h4,HB6.out⟩
     case measure=>simp[intOf];omega
    ·have c0:=HC.out;go_wp2_with fail;refine(Bl (S t) wr (by rw[kZ];omega)).mono ?_;rintro e w5 ⟨rfl,rfl⟩;have hr:=HR2.out;rw[all_false HT.out (by omega),aaR (by simp)] at hr;obtain⟨rfl,rfl⟩:=aaD hr;replace KR:=L_ (KR.below HB KR.lt);replace C:=CW;clear hr HR2 c0;have z0:=KR.cell 0;have z1:=KR.cell 1;have fz0:=KR.frozen 0;have fz1:=KR.frozen 1;go_wp2;exact aaT (v:=.tuple #[.agg #[(),()],.int .i64 3]) (by simp[results,results101,go_sem,z0,z1]) rfl ⟨iO,rfl,cZ _ _,rfl,(C.setCell (by simp) _).setCell (by simp) _⟩
   ·obtain rfl:k=n:=by omega
    have hall:l.all (fun t=>decide (t.length≤4096))=true:=by
     rw[aam];intro t ht;have e1:l.take k=l:=Zz (by rw[HLL.out];exact Zh _);exact ZG (HA t (by rw[e1];exact ht))
    have hr:=HR2.out;rw[aaS hall] at hr;replace HR2:=L_ hr;have HDD2:Hid (fl.map HP.d=l.map Nm.txt):=by rw[Hid,HDD.out,Zz (by rw[HLL.out];exact Zh _)]
    replace K1:=L_ (K1.below HB K1.lt);replace KR:=L_ (KR.below HB KR.lt);replace OB:=L_ (own_below OB HB);replace C:=CW;have hw3:=HB.size;clear hr hall HDD HA HB CW;have kn:¬(k:Int)<(k:Int):=by omega
    go_wp2_with fail;refine(J8 A2 m c2 (Dp.seen D.disk) wr (Reads.bO OB) hmc hm20).mono ?_;rintro e w6 ⟨A6,c6,rfl,-,hb⟩;obtain⟨Lz,z,hcut⟩:∃Lz z,Nm.cut (Dp.seen D.disk)=(Lz,z):=⟨_,_,rfl⟩;simp only[hcut];have hr:=HR2.out;rw[hcut,HMM.out] at hr;simp only at hr;replace HR2:=L_ hr;replace K1:=L_ (K1.below hb K1.lt);replace KR:=L_ (KR.below hb KR.lt);replace HO:=L_ (own_below HO hb);have HP2:Hid (∀p∈fl,w6.ownsRow w2 5 1 (.slice p.A p.n p.c) p.n (cb p.d)∧p.n≤5000):=fun p hp=>⟨own_below (HPf p hp).1 hb,(HPf p hp).2⟩;replace C:=L_ (C.trans (hb.mono C.size));have hw6:=hb.size;clear hb hcut hr HPf OB
    by_cases hq:z=m
    ·have hq2:(z:Int)=(m:Int):=by omega
     have dq:decide ((z:Int)=(m:Int))=true:=ZG hq2;have hr:=HR2.out;rw[aaS hq] at hr;replace HR2:=L_ hr;clear hr hq;have y0:=K1.cell 0;have y1:=K1.cell 1;go_wp2_with fail;refine(xQ D _ ((HD0.below C).more C.size) (by have:=zi HM;have:=HD0.oP;omega)).mono ?_;rintro e w7 ⟨D7,rfl,hx,hex,hb⟩;replace K1:=L_ (K1.below hb K1.lt);replace KR:=L_ (KR.below hb KR.lt);replace HO:=L_ (own_below HO hb);have HP3:Hid (∀p∈fl,w7.ownsRow w2 5 1 (.slice p.A p.n p.c) p.n (cb p.d)∧p.n≤5000):=fun p hp=>⟨own_below (HP2 p hp).1 hb,(HP2 p hp).2⟩;have O7:=L_ (hx.mono (base':=w.heap.size) C.size);have E7:=L_ hex;replace C:=L_ (C.trans (hb.mono C.size));have hw7:=hb.size;clear hx hex hb y0 y1 HP2;have q0:=K1.cell 0;have q1:=K1.cell 1;have fq0:=K1.frozen 0;have fq1:=K1.frozen 1;have hne:w.heap.size≠w.heap.size+1:=by omega
     have hne2:w.heap.size+1≠w.heap.size:=by omega
     have K18:=L_ ((K1.aM 0 (.slice D7.A D7.n D7.c)).aM 1 (.slice D7.WA D7.Wn D7.Wc));have KR8:=L_ ((KR.far (p:=⟨w,0,none⟩) hne2 (.slice D7.A D7.n D7.c)).far (p:=⟨w,1,none⟩) hne2 (.slice D7.WA D7.Wn D7.Wc));have HO8:=L_ (aT (aT HO K1 (by decide) 0 (.slice D7.A D7.n D7.c)) (K1.aM 0 (.slice D7.A D7.n D7.c)) (by decide) 1 (.slice D7.WA D7.Wn D7.Wc));have HP8:Hid (∀p∈fl,((w7.setCell ⟨w,0,none⟩ (.slice D7.A D7.n D7.c)).setCell ⟨w,1,none⟩ (.slice D7.WA D7.Wn D7.Wc)).ownsRow w2 5 1 (.slice p.A p.n p.c) p.n (cb p.d)∧p.n≤5000):=fun p hp=>⟨aT (aT (HP3 p hp).1 K1 (by decide) 0 _) (K1.aM 0 _) (by decide) 1 _,(HP3 p hp).2⟩;have O8:=L_ ((O7.aM K1 0 (.slice D7.A D7.n D7.c)).aM (K1.aM 0 (.slice D7.A D7.n D7.c)) 1 (.slice D7.WA D7.Wn D7.Wc));have C8:=L_ ((C.setCell (p:=⟨w,0,none⟩) (Zh _) (.slice D7.A D7.n D7.c)).setCell (p:=⟨w,1,none⟩) (Zh _) (.slice D7.WA D7.Wn D7.Wc));go_wp2;clear q0 q1 fq0 fq1
     go_loopw [66] (fun y wr=>YH w w2 FA k Fc fl D.disk l y wr) (fun y _=>k - (intOf y).toNat)
     case atStart=>exact⟨0,D7,rfl,Zq _,C8,K18,O8,by rw[E7.out,List.drop_zero],KR8,HO8,HP8⟩
     case round=>
      clear K18 KR8 HO8 HP8 O8 C8 K1 KR HO HP3 O7 E7;obtain⟨i,X,rfl,hi,hc,hk1,hx,he,hkr,ho,hp⟩:=hrel;replace C:=L_ hc;have K1:=L_ hk1;have KR:=L_ hkr;have HX:=L_ hx;have HE:=L_ he;have HO:=L_ ho;have HPf:=L_ hp;clear hc hk1 hx he hkr ho hp
      by_cases hlt:i<k
      ·obtain⟨ad,p,rfl,hf,hcc⟩:=WR (Reads.bO HO) hlt;have hpm:=Zk hf;obtain⟨t,ht,hpt⟩:=Vn HDD2.out hf;obtain⟨hpo,hpn⟩:=HPf p hpm;obtain⟨sw,pA,pn,pc,pd⟩:=p;simp only at hpt hpo hpn hcc;obtain⟨R1,r1,hW⟩:∃R1 r1,Dp.write X.disk ⟨false,pd⟩=(R1,r1):=⟨_,_,rfl⟩;have hE:=HE.out;rw[KU ht,←hpt,hW] at hE;simp only at hE;have HE2:=L_ hE;have HW:=L_ hW;have PP:Hid (fE wr wr ⟨false,pA,pn,pc,pd⟩):=⟨Reads.bO hpo,(kG hpo).1,(kG hpo).2,by show pn≤_;omega⟩;have HC:=L_ hcc;clear hpm hpt hpo hW hE HE hcc hf ht;have c0:=HC.out;have q0:=K1.cell 0;have q1:=K1.cell 1;have fq0:=K1.frozen 0;have fq1:=K1.frozen 1;go_wp2_with fail;refine(LU X pA pn pc pd _ R1 r1 HW HX.at_ PP).mono ?_;rintro e w9 ⟨D9,rfl,hx,hex,hb⟩;clear q0 q1 fq0 fq1 c0;replace K1:=L_ (K1.below hb K1.lt);replace KR:=L_ (KR.below hb KR.lt);replace HO:=L_ (own_below HO hb);have HP9:Hid (∀p∈fl,w9.ownsRow w2 5 1 (.slice p.A p.n p.c) p.n (cb p.d)∧p.n≤5000):=fun p hp=>⟨own_below (HPf p hp).1 hb,(HPf p hp).2⟩;have O9:=L_ (hx.mono (base':=w.heap.size) C.size);have E9:=L_ hex;replace C:=L_ (C.trans (hb.mono C.size));clear hx hex hb HPf PP HX HC;have q0:=K1.cell 0;have q1:=K1.cell 1;have fq0:=K1.frozen 0;have fq1:=K1.frozen 1;have K18:=L_ ((K1.aM 0 (.slice D9.A D9.n D9.c)).aM 1 (.slice D9.WA D9.Wn D9.Wc));have KR8:=L_ ((KR.far (p:=⟨w,0,none⟩) hne2 (.slice D9.A D9.n D9.c)).far (p:=⟨w,1,none⟩) hne2 (.slice D9.WA D9.Wn D9.Wc));have HO8:=L_ (aT (aT HO K1 (by decide) 0 (.slice D9.A D9.n D9.c)) (K1.aM 0 (.slice D9.A D9.n D9.c)) (by decide) 1 (.slice D9.WA D9.Wn D9.Wc))
       have HP8:Hid (∀p∈fl,((w9.setCell ⟨w,0,none⟩ (.slice D9.A D9.n D9.c)).setCell ⟨w,1,none⟩ (.slice D9.WA D9.Wn D9.Wc)).ownsRow w2 5 1 (.slice p.A p.n p.c) p.n (cb p.d)∧p.n≤5000):=fun p hp=>⟨aT (aT (HP9 p hp).1 K1 (by decide) 0 _) (K1.aM 0 _) (by decide) 1 _,(HP9 p hp).2⟩;have O8:=L_ ((O9.aM K1 0 (.slice D9.A D9.n D9.c)).aM (K1.aM 0 (.slice D9.A D9.n D9.c)) 1 (.slice D9.WA D9.Wn D9.Wc));have C8:=L_ ((C.setCell (p:=⟨w,0,none⟩) (Zh _) (.slice D9.A D9.n D9.c)).setCell (p:=⟨w,1,none⟩) (Zh _) (.slice D9.WA D9.Wn D9.Wc));clear HP9 HO K1 C O9
       by_cases h0:r1=0
       ·subst h0;have hE:=HE2.out;rw[aaS rfl] at hE;have HE3:=L_ hE;clear hE HE2;go_wp2
        go_roundw
        case rel=>exact⟨i+1,D9,by go_num,by omega,C8,K18,O8,by rw[E9.out];exact HE3,KR8,HO8,HP8⟩
        case measure=>simp[intOf];omega
       ·have hd0:decide (r1=0)=false:=ZE h0;have hE:=HE2.out;rw[aaR h0,HR2.out] at hE;obtain⟨rfl,rfl⟩:=aaD hE;clear hE HE2 HR2;have z0:=KR.cell 0;have z1:=KR.cell 1;have fz0:=KR.frozen 0;have fz1:=KR.frozen 1;go_wp2;exact aaT (v:=.tuple #[.agg #[(),()],r]) (by simp[results,results101,go_sem,z0,z1,hne,hne2]) rfl ⟨iO,rfl,cZ _ _,rfl,(C8.setCell (by simp) _).setCell (by simp) _⟩
      ·obtain rfl:i=k:=by omega
       have hE:=HE.out;rw[List.drop_of_length_le (by rw[HLL.out];exact Zh _),HR2.out] at hE;obtain⟨rfl,rfl⟩:=aaD hE;clear hE HE HR2;have q0:=K1.cell 0;have q1:=K1.cell 1;have z0:=KR.cell 0;have z1:=KR.cell 1;have fz0:=KR.frozen 0;have fz1:=KR.frozen 1;go_wp2;exact aaT (v:=.tuple #[.agg #[.slice X.A X.n X.c,.slice X.WA X.Wn X.Wc],.int .i64 0]) (by simp[results,results101,go_sem,z0,z1]) rfl ⟨X,rfl,(HX.aM KR 0 _).aM (KR.aM 0 _) 1 _,rfl,(C.setCell (by simp) _).setCell (by simp) _⟩
    ·have hq2:¬(z:Int)=(m:Int):=by omega
     have dq:decide ((z:Int)=(m:Int))=false:=ZE hq2;have hr:=HR2.out;rw[aaR hq] at hr;obtain⟨rfl,rfl⟩:=aaD hr;clear hr HR2;have z0:=KR.cell 0;have z1:=KR.cell 1;have fz0:=KR.frozen 0;have fz1:=KR.frozen 1;go_wp2;exact aaT (v:=.tuple #[.agg #[(),()],.int .i64 8]) (by simp[results,results101,go_sem,z0,z1]) rfl ⟨iO,rfl,cZ _ _,rfl,(C.setCell (by simp) _).setCell (by simp) _⟩
theorem KI (D:HD)(A:Option Addr)(n c:Nat)(l:List (List UInt8))(w:World)(R:Dp.dG)(r:Int)(hr:Wa.reset D.disk l=(R,r))(h:aW w w D)(hl:Reads w w 1 A n (ct (l.map S)))(hn:n≤65536) :
  Calls prog 56 #[.agg #[.slice D.A D.n D.c,.slice D.WA D.Wn D.Wc],.slice A n c] w fun e w'=>∃D',e=.returned (.tuple #[.agg #[.slice D'.A D'.n D'.c,.slice D'.WA D'.Wn D'.Wc],r])∧bF w' w D'∧D'.disk=R∧Below w w w':=by
 have hz:w.heap.size+1<w.heap.size+2:=by omega
 have HD0:=L_ h;have HL0:=L_ hl;have HR:=L_ hr;have D1:=L_ ((h.alloc (.cells #[.slice D.A D.n D.c,.slice D.WA D.Wn D.Wc] 49)).alloc (.cells #[(),()] 49));have C:=L_ (((aaO _ w).alloc (Zh w) (.cells #[.slice D.A D.n D.c,.slice D.WA D.Wn D.Wc] 49)).alloc (by simp) (.cells #[(),()] 49));have K1:=L_ ((aF.new w 49 #[.slice D.A D.n D.c,.slice D.WA D.Wn D.Wc]).alloc (.cells #[(),()] 49));have KR:=L_ (aF.newAt (w:=w.alloc (.cells #[.slice D.A D.n D.c,.slice D.WA D.Wn D.Wc] 49)) (g:=w.heap.size+1) (by simp) 49 #[(),()]);clear h hr hl;have y0:=K1.cell 0;have y1:=K1.cell 1;obtain⟨b,hm⟩:∃b,Dp.dF D.disk=b:=⟨_,rfl⟩;have HM:=L_ hm;clear hm
 go_enter func56,ntmps56
 go_wp2_with fail;refine(gB D _ _ HM D1).mono ?_;rintro e w1 ⟨rfl,hb⟩;replace K1:=L_ (K1.below hb K1.lt);replace KR:=L_ (KR.below hb KR.lt);replace C:=L_ (C.trans (hb.mono C.size));clear hb y0 y1 D1;cases b with
 |false=>
  have hr:=HR.out;rw[Wa.reset,aaR (by rw[HM.out];simp)] at hr;obtain⟨rfl,rfl⟩:=aaD hr;clear hr HR;have z0:=KR.cell 0;have z1:=KR.cell 1;have fz0:=KR.frozen 0;have fz1:=KR.frozen 1;rw[show eD false=30 from rfl];go_wp2;exact aaT (v:=.tuple #[.agg #[(),()],.int .i64 30]) (by simp[results,results56,go_sem,z0,z1]) rfl ⟨iO,rfl,cZ _ _,rfl,(C.setCell (by simp) _).setCell (by simp) _⟩
 |true=>
  have hr:=HR.out;rw[Wa.reset,aaS HM.out] at hr;have HR2:=L_ hr;clear hr HR;rw[show eD true=0 from rfl];go_wp2_with fail;refine(Pb A n c l w1 ((HL0.below C).more C.size) hn).mono ?_;rintro e w2 (⟨hj,A2,c2,rfl,ho,hb⟩|⟨hj,rfl,hb⟩)
  ·have hjl:=(xM hj).2;have hr:=HR2.out;rw[aaS hj] at hr;obtain⟨J,hJ⟩:∃J,Nm.join l=J:=⟨_,rfl⟩;rw[hJ] at ho hr hjl ⊢;obtain⟨q,hq⟩:∃q,J.length=q:=⟨_,rfl⟩;rw[hq] at ho hjl ⊢;have HW:=L_ hr;have PP:=L_ (show fE w2 w2 ⟨true,A2,q,c2,J⟩ from⟨Reads.bO ho,(kG ho).1,(kG ho).2,by show q≤_;omega⟩);replace K1:=L_ (K1.below hb K1.lt);replace KR:=L_ (KR.below hb KR.lt);replace C:=L_ (C.trans (hb.mono C.size));clear hj hr HR2 hJ hq ho hb;have y0:=K1.cell 0;have y1:=K1.cell 1;go_wp2_with fail;refine(Ci D A2 q c2 J _ R r HW ((HD0.below C).more C.size) PP).mono ?_;rintro e w3 ⟨D3,rfl,hx,hex,hb⟩;replace KR:=L_ (KR.below hb KR.lt);have O3:=L_ (hx.mono (base':=w.heap.size) C.size);have E3:=L_ hex;replace C:=L_ (C.trans (hb.mono C.size));clear hx hex hb y0 y1 PP;have z0:=KR.cell 0;have z1:=KR.cell 1;have fz0:=KR.frozen 0;have fz1:=KR.frozen 1;go_wp2;exact aaT (v:=.tuple #[.agg #[.slice D3.A D3.n D3.c,.slice D3.WA D3.Wn D3.Wc],r]) (by simp[results,results56,go_sem,z0,z1]) rfl ⟨D3,rfl,(O3.aM KR 0 _).aM (KR.aM 0 _) 1 _,E3,(C.setCell (by simp) _).setCell (by simp) _⟩
  ·have hr:=HR2.out;rw[aaR (by rw[hj];simp)] at hr;obtain⟨rfl,rfl⟩:=aaD hr;clear hr HR2 hj;replace KR:=L_ (KR.below hb KR.lt);replace C:=L_ (C.trans (hb.mono C.size));clear hb;have z0:=KR.cell 0;have z1:=KR.cell 1;have fz0:=KR.frozen 0;have fz1:=KR.frozen 1;go_wp2;exact aaT (v:=.tuple #[.agg #[(),()],.int .i64 3]) (by simp[results,results56,go_sem,z0,z1]) rfl ⟨iO,rfl,cZ _ _,rfl,(C.setCell (by simp) _).setCell (by simp) _⟩
variable{Pg:Int→ByteArray→Prop}{N b:Nat}
section
attribute [local irreducible] wpList av
def Pt.hp (p:Pt):HP:=⟨p.sw,p.d.A,p.d.l.length,p.d.c,p.d.l⟩
def GX (p:HP):Pt:=⟨p.sw,⟨p.A,p.c,p.d⟩⟩
def qp.hd (k:qp):HD:=⟨k.d.A,k.d.l.length,k.d.c,k.d.l,k.w.A,k.w.l.length,k.w.c,k.w.l.map Pt.hp⟩
def JK (D:HD):qp:=⟨⟨D.A,D.c,D.d⟩,⟨D.WA,D.Wc,D.l.map GX⟩⟩
def qp.pl (k:qp):Dp.dG:=⟨k.d.l,k.w.l.map fun p=>⟨p.sw,p.d.l⟩⟩
theorem tq (k:qp):k.hd.disk=k.pl:=by
 unfold HD.disk qp.hd qp.pl;rw[List.map_map];rfl
theorem DI (s:Sl UInt8):s.row=cb s.l:=by
 unfold Sl.row cb
 induction s.l with
 |nil=>rfl
 |cons a r ih=>rw[ZQ,ih];rfl
theorem UF (l:List Pt):l.flatMap aj.cs=hp (l.map Pt.hp):=by
 unfold hp
 induction l with
 |nil=>rfl
 |cons a r ih=>rw[ZQ,List.map_cons,ZQ,ih];rfl
theorem Fx:∀l:List HP,(∀p∈l,p.d.length=p.n)→(l.map GX).flatMap aj.cs=hp l
 |[],_=>rfl
 |p::l,h=>by
  rw[List.map_cons,ZQ,Fx l fun q hq=>h q (Zv _ hq),xw];have e:=h p ZC;show [Value.bool p.sw,.slice p.A p.d.length p.c]++_=_;rw[e];rfl
theorem vL {k:qp}(h:au.aA w B N k):aW w B k.hd:=by
 obtain⟨h1,h2⟩:=h;refine⟨by have:=h1.1;rwa[DI] at this,?_,h1.2.1,h1.2.2.1,h2.2.1,h2.2.2.1,by have:=h1.2.2.2.1;show k.d.l.length≤_;omega,by have:=h2.2.2.2.1;show k.w.l.length≤_;omega,fun p hq=>?_⟩
 ·have:=h2.1;unfold Sl.row at this;rwa[UF] at this
 ·obtain⟨x,hx,rfl⟩:=ZA.1 hq;have hx2:x.d.aA w B 4000000:=h2.2.2.2.2 x hx;exact⟨by have:=hx2.1;rwa[DI] at this,hx2.2.1,hx2.2.2.1,by have:=hx2.2.2.2.1;show x.d.l.length≤_;omega⟩
def Small (d:Dp.dG):Prop:=d.data.length≤4000000∧d.wait.length≤4000000∧∀p∈d.wait,p.d.length≤4000000
theorem xR:∀{l:List Dp.Put} {b:List UInt8},Dp.fits b l=true→∀p∈l,p.d.length≤1048576
 |[],b,_,p,hp=>by cases hp
 |q::l,b,h,p,hp=>by
  unfold Dp.fits at h;rw[Zr] at h
  rcases Zu.1 hp with rfl|hp
  ·have h2:=Dp.nL h.2;unfold Dp.step at h2
   split at h2
   ·exact h2
   ·rw[Zn] at h2;omega
  ·exact xR h.2 p hp
theorem kP {d:Dp.dG}(h:Dp.dF d=true):Small d:=by
 have h1:=Dp.nL (Dp.kS h);have h2:=Dp.Fb h;exact⟨by omega,by omega,fun p hp=>by have:=xR (Dp.kS h) p hp;omega⟩
theorem Gg (d:Dp.dG):Small (Dp.sync d).1:=by
 unfold Dp.sync
 split
 ·rename_i h
  have:=Dp.oV h;exact⟨by show(Dp.seen d).length≤_;omega,Zq _,fun p hp=>by cases hp⟩
 ·exact kP Dp.fu
theorem FM (d:Dp.dG)(k m:Int):Small (Dp.crash d k m).1:=by
 unfold Dp.crash
 split
 ·rename_i h
  split
  ·exact kP Dp.fu
  ·refine⟨?_,Zq _,fun p hp=>by cases hp⟩;have h1:=Dp.vN (Dp.uG (Dp.kS h) k.toNat)
   have h2:(Dp.part d.wait k.toNat m.toNat).length≤1048576:=by
    unfold Dp.part
    split
    ·rename_i p hp
     have:=xR (Dp.kS h) p (Zk hp)
     split
     ·exact Zq _
     ·rw[Zw];omega
    ·exact Zq _
   show(Dp.done d.data (d.wait.take k.toNat)++Dp.part d.wait k.toNat m.toNat).length≤4000000;rw[Zn];omega
 ·exact kP Dp.fu
theorem IU (d:Dp.dG):Dp.dF (Wa.opened d).1=true:=by
 unfold Wa.opened
 split
 ·rename_i h
  split
  ·exact h
  ·split
   ·exact Dp.uK _ _
   ·exact Dp.fu
 ·exact Dp.fu
theorem E5:∀(l:List (List UInt8)) (d:Dp.dG),Dp.dF d=true→Dp.dF (Wa.adds d l).1=true
 |[],d,h=>h
 |t::l,d,h=>by
  unfold Wa.adds
  split
  ·exact E5 l _ (Dp.uK _ _)
  ·exact Dp.fu
theorem Ru (d:Dp.dG)(l:List (List UInt8)):Dp.dF (Wa.add d l).1=true:=by
 unfold Wa.add
 split
 ·rename_i h
  split
  ·split
   ·exact E5 l d h
   ·exact Dp.fu
  ·exact Dp.fu
 ·exact Dp.fu
theorem Mh (d:Dp.dG)(l:List (List UInt8)):Dp.dF (Wa.reset d l).1=true:=by
 unfold Wa.reset
 split
 ·split
  ·exact Dp.uK _ _
  ·exact Dp.fu
 ·exact Dp.fu
theorem SV {n c size:Nat}{e:TypeId}{l:List UInt8}(h:w.ownsRow base e 1 (.slice A n c) n (cb l)):l.length=n:=by
 have:=h.1;rw[uQ] at this;omega
theorem Sy {D:HD}(h:bF w b D)(hs:Small D.disk):D.n=D.d.length∧D.Wn=D.l.length∧au.Own w b 0 (JK D)∧(JK D).pl=D.disk:=by
 have e1:D.n=D.d.length:=(SV (c:=D.c) (size:=1) h.rd).symm;have e2:D.Wn=D.l.length:=by have:=h.EU.1;rw[qL] at this;omega
 have e3:∀p∈D.l,p.d.length=p.n:=fun p hp=>SV (c:=p.c) (size:=1) (h.all p hp).1;refine⟨e1,e2,⟨⟨?_,hs.1,fun _ _=>trivial⟩,?_,?_,fun x hx=>?_⟩,?_⟩
 ·show w.ownsRow b _ 1 (.slice D.A D.d.length D.c) D.d.length (Sl.row (⟨D.A,D.c,D.d⟩:Sl UInt8));rw[DI,←e1];exact h.rd
 ·show w.ownsRow b _ 2 (.slice D.WA (D.l.map GX).length D.Wc) (D.l.map GX).length ((D.l.map GX).flatMap aj.cs);rw[Z5,Fx _ e3,←e2];exact h.EU
 ·have:=hs.2.1;show(D.l.map GX).length≤4000000;rw[Z5];simpa[HD.disk] using this
 ·obtain⟨p,hp,rfl⟩:=ZA.1 hx;refine⟨?_,?_,fun _ _=>trivial⟩
  ·show w.ownsRow b _ 1 (.slice p.A p.d.length p.c) p.d.length (Sl.row (⟨p.A,p.c,p.d⟩:Sl UInt8));rw[DI,e3 p hp];exact(h.all p hp).1
  ·exact hs.2.2 p.put (aaq hp)
 ·unfold qp.pl JK HD.disk;simp only[List.map_map];rfl
def iq (Pg:Int→ByteArray→Prop)(d:Dp.dG):Prop:=Wg.DG (vT Pg) d∧((∀g v,¬Pg g v)→Wg.EZ d)
theorem iq.zero:iq Pg Dp.fQ:=⟨Wg.iy,fun _=>Wg.iX⟩
theorem iq.sync {d:Dp.dG}(h:iq Pg d):iq Pg (Dp.sync d).1:=⟨h.1.sync,fun e=>(h.2 e).sync⟩
theorem iq.crash {d:Dp.dG}(h:iq Pg d)(k m:Int):iq Pg (Dp.crash d k m).1:=⟨h.1.crash k m,fun e=>(h.2 e).crash k m⟩
theorem M7:∀(n:Nat) (b:List UInt8),b.length≤n→(Nm.cut b).1.length≤b.length:=by
 intro n
 induction n with
 |zero=>
  intro b hb;obtain rfl:b=[]:=List.length_eq_zero_iff.1 (by omega);rw[Nm.gM Wg.iH];exact Zh _
 |succ n ih=>
  intro b hb;cases h:Nm.bE b with
  |none=>rw[Nm.gM h];exact Zq _
  |some p=>
   obtain⟨t,k⟩:=p;obtain⟨h1,h2,h3,h4,h5⟩:=Nm.bG h;rw[Nm.jD h];have:=ih (b.drop k) (by rw[ZK];omega);rw[ZK] at this;show((Nm.cut (b.drop k)).1.length)+1≤_;omega
theorem En (d:Dp.dG):(Wa.opened d).2.1.length≤1048576∧∀t∈(Wa.opened d).2.1,t.length≤4096:=by
 unfold Wa.opened
 split
 ·rename_i h
  have h1:=Dp.oV h;have h2:=M7 _ (Dp.seen d) (Zh _);have h3:=Wg.AY _ (Dp.seen d) (Zh _)
  split
  ·exact⟨Zt h2 h1,h3⟩
  ·split
   ·exact⟨Zt h2 h1,h3⟩
   ·exact⟨Zq _,fun t ht=>by cases ht⟩
 ·exact⟨Zq _,fun t ht=>by cases ht⟩
theorem QO (k:qp)(w:World)(hl:au.aA w w 0 k):Calls prog 88 #[k] w fun e w'=>∃v:Int,e=.returned v∧Below w w w':=
 (gB k.hd w _ rfl (vL hl)).mono fun e w' ⟨h1,h2⟩=>⟨_,h1,h2⟩
theorem uj {D:HD}{R:Dp.dG}(ho:bF w' w D)(hD:D.disk=R)(hs:Small R)(hb:Below w w w'):∃k:qp,Value.agg #[.slice D.A D.n D.c,.slice D.WA D.Wn D.Wc]=k∧k.pl=R∧Env w w [] [own k 0] w':=by
 obtain⟨e1,e2,h,e3⟩:=Sy ho (hD▸hs);exact⟨JK D,by rw[e1,e2];show _=Value.agg #[_,.slice D.WA (D.l.map GX).length D.Wc];rw[Z5];rfl,e3.trans hD,(Env.start w).sH hb h⟩
theorem Uo (k:qp)(w:World)(hl:au.aA w w 0 k):Calls prog 124 #[k] w fun e w'=>∃(k':qp) (v:Int),e=.returned (.tuple #[k',v])∧Hid (k'.pl=(Dp.sync k.pl).1)∧Env w w [] [own k' 0] w':=
 (Pv k.hd w (vL hl)).mono fun e w' ⟨D,h1,h2,h3,h4⟩=>by
  rw[tq] at h1 h3;obtain⟨k',e1,e2,E⟩:=uj h2 h3 (Gg _) h4;exact⟨k',_,by rw[h1,e1],L_ e2,E⟩
theorem R9 (k:qp)(keep many:Int)(w:World)(hl:au.aA w w 0 k)(hm:many≤9223372036854775807):Calls prog 57 #[k,keep,many] w fun e w'=>∃(k':qp) (v:Int),e=.returned (.tuple #[k',v])∧Hid (k'.pl=(Dp.crash k.pl keep many).1)∧Env w w [] [own k' 0] w':=
 (Mi k.hd keep many w (vL hl) hm).mono fun e w' ⟨D,h1,h2,h3,h4⟩=>by
  rw[tq] at h1 h3;obtain⟨k',e1,e2,E⟩:=uj h2 h3 (FM _ _ _) h4;exact⟨k',_,by rw[h1,e1],L_ e2,E⟩
theorem SC (l:List ByteArray):(tx l).map S=l:=by
 unfold tx;rw[List.map_map];exact(List.map_congr_left fun s _=>LJ s).trans (List.map_id l)
theorem XH (k:qp)(s:Sl ByteArray)(w:World)(N:Nat)(hl:au.aA w w 0 k)(hs:s.aA w w N)(hN:N≤1024):Calls prog 101 #[k,s] w fun e w'=>∃(k':qp) (v:Int),e=.returned (.tuple #[k',v])∧Hid (k'.pl=(Wa.add k.pl (tx s.l)).1)∧Env w w [] [own k' 0] w':=
 (Rt k.hd s.A s.l.length s.c (tx s.l) w _ _ rfl (vL hl) (by have:=hs.1;rw[rA] at this;rwa[SC]) (by have:=hs.2.2.2.1;omega)).mono fun e w' ⟨D,h1,h2,h3,h4⟩=>by
  rw[tq] at h1 h3;obtain⟨k',e1,e2,E⟩:=uj h2 h3 (kP (Ru _ _)) h4;exact⟨k',_,by rw[h1,e1],L_ e2,E⟩
theorem SA (k:qp)(s:Sl ByteArray)(w:World)(N:Nat)(hl:au.aA w w 0 k)(hs:s.aA w w N)(hN:N≤65536):Calls prog 56 #[k,s] w fun e w'=>∃(k':qp) (v:Int),e=.returned (.tuple #[k',v])∧Hid (k'.pl=(Wa.reset k.pl (tx s.l)).1)∧Env w w [] [own k' 0] w':=
 (KI k.hd s.A s.l.length s.c (tx s.l) w _ _ rfl (vL hl) (by have:=hs.1;rw[rA] at this;rwa[SC]) (by have:=hs.2.2.2.1;omega)).mono fun e w' ⟨D,h1,h2,h3,h4⟩=>by
  rw[tq] at h1 h3;obtain⟨k',e1,e2,E⟩:=uj h2 h3 (kP (Mh _ _)) h4;exact⟨k',_,by rw[h1,e1],L_ e2,E⟩
def Gd (d:Dp.dG)(k':qp)(l:List ByteArray):Prop:=k'.pl=(Wa.opened d).1∧tx l=(Wa.opened d).2.1
theorem Gd.iD {d:Dp.dG}{k':qp}{l:List ByteArray}(h:Gd d k' l)(hd:iq Pg d):iq Pg k'.pl∧∀t∈l,t.size≤1000000∧vT Pg t.data.toList:=by
 have h1:=hd.1.opened;refine⟨⟨by rw[h.1];exact h1.1,fun e=>by rw[h.1];exact(hd.2 e).opened.1⟩,fun t ht=>?_⟩;have hm:t.data.toList∈(Wa.opened d).2.1:=by rw[←h.2];exact aaq ht
 have h2:=(En d).2 _ hm;rw[ZO] at h2;exact⟨by show t.data.size≤_;omega,h1.2 _ hm⟩
theorem Nb (k:qp)(w:World)(hl:au.aA w w 0 k):Calls prog 58 #[k] w fun e w'=>∃(k':qp) (s:Sl ByteArray) (v:Int),e=.returned (.tuple #[k',.slice s.A s.l.length s.c,v])∧Hid (Gd k.pl k' s.l)∧Env w w [] [own k' 0,own s 1048576] w':=
 (Pw k.hd w (Wa.opened k.pl).1 (Wa.opened k.pl).2.1 (Wa.opened k.pl).2.2 (by rw[tq]) (vL hl)).mono fun e w' ⟨D,A,n,c,h1,h2,h3,h4,h5,h6⟩=>by
  obtain⟨k',e1,e2,E⟩:=uj h2 h3 (kP (IU _)) h6;have hk:au.Own w' w 0 k':=E.get 0;have en:n=((Wa.opened k.pl).2.1.map S).length:=by rw[Z5,h4]
  have hr:Sl.Own w' w 1048576 (⟨A,c,(Wa.opened k.pl).2.1.map S⟩:Sl ByteArray):=by
   refine⟨?_,by rw[←en,←h4];exact(En _).1,fun _ _=>trivial⟩;show w'.ownsRow _ _ 1 (.slice A ((Wa.opened k.pl).2.1.map S).length c) ((Wa.opened k.pl).2.1.map S).length (Sl.row _);rw[rA,←en];exact h5
  have hbl:∀g∈(both (own k' 0) (own (⟨A,c,(Wa.opened k.pl).2.1.map S⟩:Sl ByteArray) 1048576)).bl,w.heap.size≤g:=fun g hg=>by
   rcases Zm.1 hg with hg|hg
   ·obtain⟨⟨g',t⟩,hm,rfl⟩:=ZA.1 hg;exact(au.dK hk g' t hm).1
   ·obtain⟨⟨g',t⟩,hm,rfl⟩:=ZA.1 hg;exact(Sl.Own.iD hr g' t hm).1
  refine⟨k',⟨A,c,(Wa.opened k.pl).2.1.map S⟩,_,by rw[h1,e1,en],L_ ⟨e2,?_⟩,Env.cut ((Env.start w).gG h6 (both (own k' 0) (own (⟨A,c,(Wa.opened k.pl).2.1.map S⟩:Sl ByteArray) 1048576)) ⟨hk,hr⟩ hbl) fun g hg hg2=>?_⟩
  ·show((Wa.opened k.pl).2.1.map S).map (fun s=>s.data.toList)=_;rw[List.map_map];exact(List.map_congr_left fun l _=>by rfl).trans (List.map_id _)
  ·obtain⟨⟨g',t⟩,hm,rfl⟩:=ZA.1 hg;obtain⟨⟨g2,t2⟩,hm2,e⟩:=ZA.1 hg2;have e':g2=g':=e;subst e';obtain⟨_,cur,hh⟩:=au.dK hk g2 t hm;obtain⟨_,cur2,hh2⟩:=Sl.Own.iD hr g2 t2 hm2;rw[hh] at hh2;injection hh2 with hh2
   injection hh2 with _ hh2
   subst hh2;have ht1:t=9:=Zp.1 (Sl.dA (⟨A,c,(Wa.opened k.pl).2.1.map S⟩:Sl ByteArray) g2 t hm2);subst ht1
   rcases Zm.1 (show(g2,9)∈k'.d.bl++k'.w.bl from hm) with h|h
   ·exact absurd (Sl.dA k'.d g2 _ h) (by decide)
   ·exact absurd (Sl.dA k'.w g2 _ h) (by decide)
end
end Go.Proofs.YtaebfkcgdmodlaaGreatDoor
