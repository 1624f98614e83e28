/-
  A part of the proof that the erased node of towncrier reads nothing (TopErased).
-/
import Derived.Lib.QuietBelow
import Derived.Shelf.Abstract
import Derived.Laws.StructEq
import Derived.Deep.Cut
import Derived.Maps.OwnSet
import Derived.Lib.Overlaps
import Derived.Lib.AppendZerosOnto
import Derived.Lib.SliceRun
import Derived.Laws.IdiomCopy
import Derived.Laws.Externs
import Derived.Test.YtaebfkcgdmodlaaGreatDoorJ00
namespace Go.Proofs.YtaebfkcgdmodlaaGreatDoor
open Go.RowKit Go.Proofs.Tryz
set_option maxHeartbeats 16000000
set_option maxRecDepth 100000
set_option linter.unusedVariables false
set_option linter.unusedSimpArgs false
variable{nodes:List Int}{b:Nat}
namespace Qm
def eu:Nat→List Int→Nat
 |s,[]=>s
 |s,n::l=>eu (if 0≤n∧n<6 then s ||| 2 ^ n.toNat else s) l
def pop (x:Nat):Nat:=x % 2+x / 2 % 2+x / 4 % 2+x / 8 % 2+x / 16 % 2+x / 32 % 2
def incr:Int→List Int→Bool
 |_,[]=>true
 |lo,n::l=>decide (lo<n)&&decide (n<6)&&incr n l
def may (l:List Int):Bool:=!l.isEmpty&&incr (-1) l
def check (l:List Int):Int:=if 6<l.length then 4 else if may l=true then 0 else 60
theorem LG (s:Nat):eu s []=s:=rfl
theorem Im (s:Nat)(n:Int)(l:List Int):eu s (n::l)=eu (if 0≤n∧n<6 then s ||| 2 ^ n.toNat else s) l:=rfl
theorem O0 (lo:Int):incr lo []=true:=rfl
theorem Ar (lo n:Int)(l:List Int):incr lo (n::l)=(decide (lo<n)&&decide (n<6)&&incr n l):=rfl
theorem Tv {a:Nat}(ha:a<64)(hb:b<64):a ||| b<64:=Nat.or_lt_two_pow (n:=6) ha hb
theorem PW {n:Int}(h:0≤n∧n<6):2 ^ n.toNat<64:=by
 have:n.toNat<6:=by omega
 exact Nat.pow_lt_pow_right (a:=2) (n:=6) (by decide) this
theorem mP:∀(l:List Int) (s:Nat),s<64→eu s l<64:=by
 intro l
 induction l with
 |nil=>intro s h;exact h
 |cons n l ih=>
  intro s h;unfold eu;apply ih
  split
  ·rename_i hn;exact Tv h (PW hn)
  ·exact h
theorem Bj:∀(l:List Int) (s k:Nat),k<6→(eu s l).testBit k=(s.testBit k||decide ((k:Int)∈l)):=by
 intro l
 induction l with
 |nil=>intro s k h;simp[eu]
 |cons n l ih=>
  intro s k h;unfold eu;rw[ih _ _ h]
  by_cases hn:0≤n∧n<6
  ·rw[aaS hn,Nat.testBit_or,Nat.testBit_two_pow]
   by_cases hk:n.toNat=k
   ·have:(k:Int)=n:=by omega
    simp[hk,this]
   ·have:¬(k:Int)=n:=by omega
    simp[hk,this]
  ·rw[aaR hn];have:¬(k:Int)=n:=by omega
   simp[this]
def wM:Nat→Nat→List (List Int)
 |0,_=>[[]]
 |f+1,lo=>wM f (lo+1)++(wM f (lo+1)).map ((lo:Int)::·)
theorem PE:∀(f lo:Nat),([]:List Int)∈wM f lo:=by
 intro f
 induction f with
 |zero=>intro lo;simp[wM]
 |succ f ih=>intro lo;unfold wM;exact ZJ _ (ih _)
theorem P8:∀(f lo:Nat) (l:List Int),lo+f=6→incr ((lo:Int) - 1) l=true→l∈wM f lo:=by
 intro f
 induction f with
 |zero=>
  intro lo l h hi;cases l with
  |nil=>simp[wM]
  |cons n l=>
   unfold incr at hi;simp only[Zr,Zx] at hi;omega
 |succ f ih=>
  intro lo l h hi;cases l with
  |nil=>exact PE _ _
  |cons n l=>
   unfold wM;have hi0:=hi;unfold incr at hi;simp only[Zr,Zx] at hi
   by_cases hn:n=lo
   ·subst hn;refine ZL _ (ZA.2 ⟨l,ih _ _ (by omega) ?_,rfl⟩);have e:((lo+1:Nat):Int) - 1=(lo:Int):=by omega
    rw[e];exact hi.2
   ·refine ZJ _ (ih _ _ (by omega) ?_);have e:((lo+1:Nat):Int) - 1=(lo:Int):=by omega
    rw[e];unfold incr;simp only[Zr,Zx];exact⟨⟨by omega,hi.1.2⟩,hi.2⟩
theorem Fh {l:List Int}(h:may l=true):l∈wM 6 0∧l≠[]:=by
 unfold may at h;simp only[Zr,Bool.not_eq_true',List.isEmpty_eq_false_iff] at h;exact⟨P8 6 0 l (by omega) (by simpa using h.2),h.1⟩
def among (l nodes:List Int):Nat:=l.countP fun n=>decide (n∈nodes)
def FV (x:Nat)(n:Int):Bool:=x.testBit n.toNat
theorem MV:∀l∈wM 6 0,∀x:Fin 64,pop (eu 0 l &&& x.val)=l.countP (FV x.val):=by decide +kernel
theorem JC:∀l∈wM 6 0,∀n∈l,0≤n∧n<6:=by decide +kernel
theorem ME {l:List Int}(h:may l=true):pop (eu 0 l &&& eu 0 nodes)=among l nodes:=by
 obtain⟨hg,_⟩:=Fh h;rw[MV l hg ⟨eu 0 nodes,mP _ _ (by omega)⟩];unfold among;apply List.countP_congr;intro n hn;obtain⟨h0,h6⟩:=JC l hg n hn;have hb:=Bj nodes 0 n.toNat (by omega);have e:((n.toNat:Nat):Int)=n:=by omega
 rw[e] at hb;unfold FV;simp only[Nat.zero_testBit,Bool.false_or] at hb;show((eu 0 nodes).testBit n.toNat=true↔_);rw[hb]
end Qm
variable{r:List Int}{l':List UInt8}{m most:Nat}
namespace Cp
open Nm Rp
structure dD where
 k:Int
 mi:Int
 gs:List Int
 mt:Int
 key:List UInt8
 body:List UInt8
 i:Int
 tm:Int
 mem:List Int
 tp:Int
 who:Int
 n:Int
def fU:Int→List Int→Bool
 |_,[]=>true
 |lo,n::l=>decide (lo<n)&&decide (n<4)&&fU n l
def VU (l:List Int):Bool:=!l.isEmpty&&fU (-1) l
def mE (lo hi n:Int):Bool:=decide (lo≤n∧n≤hi)
def lS (c:dD):Bool:=VU c.gs&&Wp.mY c.mi&&mE 0 3 c.mt&&decide (c.key.length≤16)&&decide (c.body.length≤64)
def sV (c:dD):Bool:=c.mi==0&&c.gs.isEmpty&&c.mt==0&&c.key.isEmpty&&c.body.isEmpty
def dU (c:dD):Bool:=
 if c.k=0 then sV c&&c.i==0&&c.tm==0&&c.mem.isEmpty&&c.tp==0&&c.who==0&&c.n==0
 else if c.k=1 then lS c&&c.i==0&&c.tm==0&&c.mem.isEmpty&&c.tp==0&&c.who==0&&c.n==0
 else if c.k=2 then sV c&&Wp.mY c.i&&mE 1 1073741824 c.tm&&c.mem.isEmpty&&c.tp==0&&c.who==0&&c.n==0
 else if c.k=3 then sV c&&c.i==0&&c.tm==0&&Qm.check c.mem==0&&c.tp==0&&c.who==0&&c.n==0
 else if c.k=4 then sV c&&Wp.mY c.i&&c.tm==0&&c.mem.isEmpty&&mE 0 3 c.tp&&mE 0 7 c.who&&mE 0 1073741824 c.n
 else if c.k=5∨c.k=6 then sV c&&Wp.mY c.i&&c.tm==0&&c.mem.isEmpty&&mE 0 3 c.tp&&c.who==0&&mE 0 1073741824 c.n
 else false
inductive wV where
 |mi|gs|mt|key|body|i|tm|mem|tp|who|n
deriving DecidableEq
def aK (k:Int):List wV:=
 if k=1 then [.mi,.gs,.mt,.key,.body] else if k=2 then [.i,.tm] else if k=3 then [.mem] else if k=4 then [.i,.tp,.who,.n] else if k=5 then [.i,.tp,.n] else if k=6 then [.i,.tp,.n] else []
def pX:wV→dD→List UInt8
 |.mi,c=>enc c.mi.toNat
 |.gs,c=>fq c.gs
 |.mt,c=>enc c.mt.toNat
 |.key,c=>txt c.key
 |.body,c=>txt c.body
 |.i,c=>enc c.i.toNat
 |.tm,c=>enc c.tm.toNat
 |.mem,c=>fq c.mem
 |.tp,c=>enc c.tp.toNat
 |.who,c=>enc c.who.toNat
 |.n,c=>enc c.n.toNat
def wS:List wV→dD→List UInt8
 |[],_=>[]
 |f::r,c=>pX f c++wS r c
def aV (c:dD):List UInt8:=enc c.k.toNat++wS (aK c.k) c
def iL (most:Nat)(p:St):List Int×St:=match fD p.1 most with
 |some (r,k)=>(r,(p.1.drop k,p.2))
 |none=>([],(p.1,true))
def vC:wV→dD→St→dD×St
 |.mi,c,p=>({ c with mi:=(next p).1 },(next p).2)
 |.gs,c,p=>({ c with gs:=(iL 4 p).1 },(iL 4 p).2)
 |.mt,c,p=>({ c with mt:=(next p).1 },(next p).2)
 |.key,c,p=>({ c with key:=(Wp.gP p).1 },(Wp.gP p).2)
 |.body,c,p=>({ c with body:=(Wp.gP p).1 },(Wp.gP p).2)
 |.i,c,p=>({ c with i:=(next p).1 },(next p).2)
 |.tm,c,p=>({ c with tm:=(next p).1 },(next p).2)
 |.mem,c,p=>({ c with mem:=(iL 6 p).1 },(iL 6 p).2)
 |.tp,c,p=>({ c with tp:=(next p).1 },(next p).2)
 |.who,c,p=>({ c with who:=(next p).1 },(next p).2)
 |.n,c,p=>({ c with n:=(next p).1 },(next p).2)
def lM:List wV→dD→St→dD×St
 |[],c,p=>(c,p)
 |f::r,c,p=>lM r (vC f c p).1 (vC f c p).2
def fP (k:Int):dD:=⟨k,0,[],0,[],[],0,0,[],0,0,0⟩
def qY (l:List UInt8):Option dD:=
 let a:=next (l,false)
 let k:Int:=((min a.1 255:Nat):Int)
 let r:=lM (aK k) (fP k) a.2
 if r.2.2=false∧r.2.1=[]∧dU r.1=true then some r.1 else none
def cp:wV→dD→dD→dD
 |.mi,c,d=>{ d with mi:=c.mi }
 |.gs,c,d=>{ d with gs:=c.gs }
 |.mt,c,d=>{ d with mt:=c.mt }
 |.key,c,d=>{ d with key:=c.key }
 |.body,c,d=>{ d with body:=c.body }
 |.i,c,d=>{ d with i:=c.i }
 |.tm,c,d=>{ d with tm:=c.tm }
 |.mem,c,d=>{ d with mem:=c.mem }
 |.tp,c,d=>{ d with tp:=c.tp }
 |.who,c,d=>{ d with who:=c.who }
 |.n,c,d=>{ d with n:=c.n }
def Bb:List wV→dD→dD→dD
 |[],_,d=>d
 |f::r,c,d=>Bb r c (cp f c d)
def okF (c:dD):wV→Prop
 |.mi=>0≤c.mi∧c.mi≤1099511627776
 |.gs=>c.gs.length≤4∧∀x∈c.gs,jO x=true
 |.mt=>0≤c.mt∧c.mt≤1099511627776
 |.key=>c.key.length≤4096
 |.body=>c.body.length≤4096
 |.i=>0≤c.i∧c.i≤1099511627776
 |.tm=>0≤c.tm∧c.tm≤1099511627776
 |.mem=>c.mem.length≤6∧∀x∈c.mem,jO x=true
 |.tp=>0≤c.tp∧c.tp≤1099511627776
 |.who=>0≤c.who∧c.who≤1099511627776
 |.n=>0≤c.n∧c.n≤1099511627776
theorem BI {l:List Int}(hl:l.length≤most)(hm:most≤4096)(h:∀n∈l,jO n=true)(b:List UInt8):fD (fq l++b) most=some (l,(fq l).length):=by
 have g:=Cj (l:=l) (by omega) h b;unfold fD at g ⊢
 have ge:get (fq l++b)=some (l.length,(enc l.length).length):=by
  unfold fq;rw[ZN];exact nU (by omega) _
 rw[ge] at g ⊢;simp only at g ⊢;rw[aaR (by omega)] at g ⊢;exact g
theorem yc {l:List UInt8}{b:Bool}(hr:r.length≤most)(hm:most≤4096)(h:∀n∈r,jO n=true)(e:l=fq r++l'):iL most (l,b)=(r,(l',b)):=by
 subst e;simp[iL,BI hr hm h]
theorem MZ (most:Nat)(l:List UInt8):(∃r l',r.length≤most∧(∀n∈r,jO n=true)∧l=fq r++l'∧iL most (l,false)=(r,(l',false)))∨iL most (l,false)=([],(l,true)):=by
 cases h:fD l most with
 |none=>right;simp[iL,h]
 |some p=>
  obtain⟨r,k⟩:=p;obtain⟨h1,h2,h3,h4,h5⟩:=nV h
  left
  exact⟨r,l.drop k,h1,h2,by rw[h5,aaB],by simp[iL,h]⟩
theorem IB (most:Nat)(l:List UInt8):(iL most (l,true)).2.2=true:=by
 cases h:fD l most with
 |none=>simp[iL,h]
 |some p=>simp[iL,h]
theorem Vl (l:List UInt8):(next (l,true)).2.2=true:=by
 obtain⟨n,l',h⟩:=jP l;rw[h]
theorem Ro (l:List UInt8):(Wp.gP (l,true)).2.2=true:=by
 obtain⟨n,l',h⟩:=Wp.zo l;rw[h]
theorem NV (f:wV)(c:dD)(l:List UInt8):(vC f c (l,true)).2.2=true:=by
 cases f<;>first|exact Vl l|exact Ro l|exact IB _ l
theorem lC:∀(r:List wV) (c:dD) (p:St),p.2=true→(lM r c p).2.2=true
 |[],_,_,h=>h
 |f::r,c,(l,b),h=>by
  obtain rfl:b=true:=h;exact lC r _ _ (NV f c l)
theorem Oq (f:wV)(c d:dD)(l:List UInt8)(b:Bool)(h:okF c f):vC f d (pX f c++l,b)=(cp f c d,(l,b)):=by
 have num:∀x:Int,0≤x∧x≤1099511627776→next (enc x.toNat++l,b)=(x.toNat,(l,b)):=fun x hx=>dY (by omega) rfl;have cast:∀x:Int,0≤x∧x≤1099511627776→((x.toNat:Nat):Int)=x:=fun x hx=>by omega
 cases f with
 |mi=>simp only[vC,pX,cp,num _ h,cast _ h]
 |gs=>simp only[vC,pX,cp,yc h.1 (by omega) h.2 rfl]
 |mt=>simp only[vC,pX,cp,num _ h,cast _ h]
 |key=>simp only[vC,pX,cp,Wp.rR (l':=l) (t:=c.key) h rfl]
 |body=>simp only[vC,pX,cp,Wp.rR (l':=l) (t:=c.body) h rfl]
 |i=>simp only[vC,pX,cp,num _ h,cast _ h]
 |tm=>simp only[vC,pX,cp,num _ h,cast _ h]
 |mem=>simp only[vC,pX,cp,yc h.1 (by omega) h.2 rfl]
 |tp=>simp only[vC,pX,cp,num _ h,cast _ h]
 |who=>simp only[vC,pX,cp,num _ h,cast _ h]
 |n=>simp only[vC,pX,cp,num _ h,cast _ h]
theorem oJ:∀(r:List wV) (c d:dD) (l:List UInt8) (b:Bool),(∀f∈r,okF c f)→lM r d (wS r c++l,b)=(Bb r c d,(l,b))
 |[],_,_,_,_,_=>rfl
 |f::r,c,d,l,b,h=>by
  unfold lM Bb wS;rw[ZN,Oq f c d _ b (h f ZC)];exact oJ r c _ l b fun x hx=>h x (Zv _ hx)
theorem Ox (f:wV)(c c':dD)(l l':List UInt8)(h:vC f c (l,false)=(c',(l',false))):l=pX f c'++l'∧c'=cp f c' c:=by
 have num:∀(u:Nat→dD),(u (next (l,false)).1,(next (l,false)).2)=(c',(l',false))→∃x:Nat,c'=u x∧l=enc x++l':=by
  intro u h
  rcases nQ l with ⟨n1,l1,hn1,e1,h1⟩|h1
  ·rw[h1] at h;simp only[ZV,and_true] at h;exact⟨n1,h.1.symm,by rw[e1,h.2]⟩
  ·rw[h1] at h;simp at h
 have ins:∀(most:Nat) (u:List Int→dD),(u (iL most (l,false)).1,(iL most (l,false)).2)=(c',(l',false))→∃x,c'=u x∧l=fq x++l':=by
  intro most u h
  rcases MZ most l with ⟨r,l1,_,_,e1,h1⟩|h1
  ·rw[h1] at h;simp only[ZV,and_true] at h;exact⟨r,h.1.symm,by rw[e1,h.2]⟩
  ·rw[h1] at h;simp at h
 have tex:∀(u:List UInt8→dD),(u (Wp.gP (l,false)).1,(Wp.gP (l,false)).2)=(c',(l',false))→∃x,c'=u x∧l=txt x++l':=by
  intro u h
  rcases Wp.EY l with ⟨r,l1,_,e1,h1⟩|h1
  ·rw[h1] at h;simp only[ZV,and_true] at h;exact⟨r,h.1.symm,by rw[e1,h.2]⟩
  ·rw[h1] at h;simp at h
 cases f with
 |mi=>obtain⟨x,rfl,e⟩:=num (fun x=>{ c with mi:=x }) h;exact⟨by simpa[pX] using e,rfl⟩
 |gs=>obtain⟨x,rfl,e⟩:=ins 4 (fun x=>{ c with gs:=x }) h;exact⟨e,rfl⟩
 |mt=>obtain⟨x,rfl,e⟩:=num (fun x=>{ c with mt:=x }) h;exact⟨by simpa[pX] using e,rfl⟩
 |key=>obtain⟨x,rfl,e⟩:=tex (fun x=>{ c with key:=x }) h;exact⟨e,rfl⟩
 |body=>obtain⟨x,rfl,e⟩:=tex (fun x=>{ c with body:=x }) h;exact⟨e,rfl⟩
 |i=>obtain⟨x,rfl,e⟩:=num (fun x=>{ c with i:=x }) h;exact⟨by simpa[pX] using e,rfl⟩
 |tm=>obtain⟨x,rfl,e⟩:=num (fun x=>{ c with tm:=x }) h;exact⟨by simpa[pX] using e,rfl⟩
 |mem=>obtain⟨x,rfl,e⟩:=ins 6 (fun x=>{ c with mem:=x }) h;exact⟨e,rfl⟩
 |tp=>obtain⟨x,rfl,e⟩:=num (fun x=>{ c with tp:=x }) h;exact⟨by simpa[pX] using e,rfl⟩
 |who=>obtain⟨x,rfl,e⟩:=num (fun x=>{ c with who:=x }) h;exact⟨by simpa[pX] using e,rfl⟩
 |n=>obtain⟨x,rfl,e⟩:=num (fun x=>{ c with n:=x }) h;exact⟨by simpa[pX] using e,rfl⟩
theorem UN {f g:wV}(h:f≠g)(d c:dD):pX f (cp g d c)=pX f c:=by
 cases f<;>cases g<;>first|rfl|exact absurd rfl h
theorem Wj {f g:wV}(h:f≠g)(d c e:dD):cp f (cp g d c) e=cp f c e:=by
 cases f<;>cases g<;>first|rfl|exact absurd rfl h
theorem J5:∀(r:List wV) (f:wV) (d c:dD),f ∉ r→pX f (Bb r d c)=pX f c
 |[],_,_,_,_=>rfl
 |g::r,f,d,c,h=>by
  unfold Bb;rw[J5 r f d _ (fun x=>h (Zv _ x)),UN (fun x=>h (by rw[x];exact ZC))]
theorem Pd:∀(r:List wV) (f:wV) (d c e:dD),f ∉ r→cp f (Bb r d c) e=cp f c e
 |[],_,_,_,_,_=>rfl
 |g::r,f,d,c,e,h=>by
  unfold Bb;rw[Pd r f d _ e (fun x=>h (Zv _ x)),Wj (fun x=>h (by rw[x];exact ZC))]
theorem Aq {r:List wV}{c:dD}{p:St}(h:(lM r c p).2.2=false):p.2=false:=by
 obtain⟨l,b⟩:=p;cases b with
 |false=>rfl
 |true=>rw[lC _ _ _ rfl] at h;cases h
theorem pK:∀(r:List wV) (c c':dD) (l l':List UInt8),r.Nodup→lM r c (l,false)=(c',(l',false))→l=wS r c'++l'∧c'=Bb r c' c
 |[],c,c',l,l',_,h=>by
  unfold lM at h;simp only[ZV,and_true] at h;obtain⟨rfl,rfl⟩:=h;exact⟨rfl,rfl⟩
 |f::r,c,c',l,l',hn,h=>by
  obtain⟨hf,hn2⟩:=List.nodup_cons.1 hn;unfold lM at h;obtain⟨⟨c1,⟨l1,b1⟩⟩,h1⟩:∃q,vC f c (l,false)=q:=⟨_,rfl⟩;rw[h1] at h;simp only at h
  have hb:b1=false:=by
   have:=Aq (r:=r) (c:=c1) (p:=(l1,b1)) (by rw[h]);exact this
  subst hb;obtain⟨e1,d1⟩:=Ox f c c1 l l1 h1;obtain⟨e2,d2⟩:=pK r c1 c' l1 l' hn2 h;have w1:pX f c1=pX f c':=by rw[d2,J5 r f c' c1 hf]
  have w2:cp f c' c=c1:=by rw[d2,Pd r f c' c1 c hf,←d1]
  refine⟨by rw[e1,e2,wS,ZN,w1],?_⟩;rw[Bb,w2];exact d2
theorem sM:∀(l:List Int) (lo:Int),-1≤lo→fU lo l=true→(∀x∈l,jO x=true)∧(lo≤3→(l.length:Int)≤3 - lo)
 |[],lo,_,_=>⟨by simp,fun h=>by simp;omega⟩
 |n::l,lo,h0,h=>by
  simp only[fU,Zr,Zx] at h;obtain⟨⟨h1,h2⟩,h3⟩:=h;obtain⟨a,b⟩:=sM l n (by omega) h3;refine⟨fun x hx=>?_,fun _=>?_⟩
  ·rcases Zu.1 hx with rfl|hx
   ·exact ZG ⟨by omega,by omega⟩
   ·exact a x hx
  ·have:=b (by omega);simp only[ZI];omega
theorem Iz {l:List Int}(h:VU l=true):l.length≤4∧∀x∈l,jO x=true:=by
 simp only[VU,Zr] at h;obtain⟨a,b⟩:=sM l (-1) (by omega) h.2;have:=b (by omega);exact⟨by omega,a⟩
theorem Jd:∀(l:List Int) (lo:Int),-1≤lo→Qm.incr lo l=true→∀x∈l,jO x=true
 |[],_,_,_=>by simp
 |n::l,lo,h0,h=>by
  simp only[Qm.incr,Zr,Zx] at h;obtain⟨⟨h1,h2⟩,h3⟩:=h;intro x hx
  rcases Zu.1 hx with rfl|hx
  ·exact ZG ⟨by omega,by omega⟩
  ·exact Jd l n (by omega) h3 x hx
theorem Fg {l:List Int}(h:Qm.check l=0):l.length≤6∧∀x∈l,jO x=true:=by
 unfold Qm.check at h
 split at h
 ·cases h
 split at h
 ·rename_i h1 h2
  simp only[Qm.may,Zr] at h2;exact⟨by omega,Jd l (-1) (by omega) h2.2⟩
 ·cases h
theorem JU:aK 0=[]:=by decide
theorem fields1:aK 1=[.mi,.gs,.mt,.key,.body]:=by decide
theorem fields2:aK 2=[.i,.tm]:=by decide
theorem wT:aK 3=[.mem]:=by decide
theorem wN:aK 4=[.i,.tp,.who,.n]:=by decide
theorem wY:aK 5=[.i,.tp,.n]:=by decide
theorem wQ:aK 6=[.i,.tp,.n]:=by decide
theorem nC {c:dD}(h:dU c=true):0≤c.k∧c.k≤6∧(∀f∈aK c.k,okF c f)∧Bb (aK c.k) c (fP c.k)=c∧c.key.length≤16∧c.body.length≤64:=by
 obtain⟨k,mi,gs,mt,key,body,i,tm,mem,tp,who,n⟩:=c;unfold dU at h;simp only[sV,lS,Wp.mY,mE] at h ⊢
 split at h
 ·rename_i hk
  subst hk;simp only[Zr,Zx,aar,aaG] at h;obtain⟨⟨⟨⟨⟨⟨⟨⟨⟨⟨rfl,rfl⟩,rfl⟩,rfl⟩,rfl⟩,rfl⟩,rfl⟩,rfl⟩,rfl⟩,rfl⟩,rfl⟩:=h;exact⟨by omega,by omega,by simp[JU],rfl,by simp,by simp⟩
 split at h
 ·rename_i hk
  subst hk;simp only[Zr,Zx,aar,aaG] at h;obtain⟨⟨⟨⟨⟨⟨⟨⟨⟨⟨h1,h2⟩,h3⟩,h4⟩,h5⟩,rfl⟩,rfl⟩,rfl⟩,rfl⟩,rfl⟩,rfl⟩:=h;refine⟨by omega,by omega,?_,rfl,h4,h5⟩;intro f hf;rw[fields1] at hf;simp only[Zu,ZF,or_false] at hf
  rcases hf with rfl|rfl|rfl|rfl|rfl
  ·exact⟨by simp only;omega,by simp only;omega⟩
  ·exact Iz h1
  ·exact⟨by simp only;omega,by simp only;omega⟩
  ·show key.length≤4096;omega
  ·show body.length≤4096;omega
 split at h
 ·rename_i hk
  subst hk;simp only[Zr,Zx,aar,aaG] at h;obtain⟨⟨⟨⟨⟨⟨⟨⟨⟨⟨rfl,rfl⟩,rfl⟩,rfl⟩,rfl⟩,h1⟩,h2⟩,rfl⟩,rfl⟩,rfl⟩,rfl⟩:=h;refine⟨by omega,by omega,?_,rfl,by simp,by simp⟩;intro f hf;rw[fields2] at hf;simp only[Zu,ZF,or_false] at hf
  rcases hf with rfl|rfl<;>exact⟨by simp only;omega,by simp only;omega⟩
 split at h
 ·rename_i hk
  subst hk;simp only[Zr,Zx,aar,aaG] at h;obtain⟨⟨⟨⟨⟨⟨⟨⟨⟨⟨rfl,rfl⟩,rfl⟩,rfl⟩,rfl⟩,rfl⟩,rfl⟩,h1⟩,rfl⟩,rfl⟩,rfl⟩:=h;refine⟨by omega,by omega,?_,rfl,by simp,by simp⟩;intro f hf;rw[wT] at hf;simp only[Zu,ZF,or_false] at hf;subst hf;exact Fg h1
 split at h
 ·rename_i hk
  subst hk;simp only[Zr,Zx,aar,aaG] at h;obtain⟨⟨⟨⟨⟨⟨⟨⟨⟨⟨rfl,rfl⟩,rfl⟩,rfl⟩,rfl⟩,h1⟩,rfl⟩,rfl⟩,h2⟩,h3⟩,h4⟩:=h;refine⟨by omega,by omega,?_,rfl,by simp,by simp⟩;intro f hf;rw[wN] at hf;simp only[Zu,ZF,or_false] at hf
  rcases hf with rfl|rfl|rfl|rfl<;>exact⟨by simp only;omega,by simp only;omega⟩
 split at h
 ·rename_i hk
  simp only[Zr,Zx,aar,aaG] at h;obtain⟨⟨⟨⟨⟨⟨⟨⟨⟨⟨rfl,rfl⟩,rfl⟩,rfl⟩,rfl⟩,h1⟩,rfl⟩,rfl⟩,h2⟩,rfl⟩,h4⟩:=h;refine⟨by omega,by omega,?_,?_,by simp,by simp⟩
  ·intro f hf
   have:aK k=[.i,.tp,.n]:=by
    rcases hk with rfl|rfl
    ·exact wY
    ·exact wQ
   rw[this] at hf;simp only[Zu,ZF,or_false] at hf
   rcases hf with rfl|rfl|rfl<;>exact⟨by simp only;omega,by simp only;omega⟩
  ·rcases hk with rfl|rfl<;>rfl
 ·cases h
theorem oh (k:Int):(aK k).Nodup:=by
 unfold aK
 repeat' split
 all_goals decide
theorem pU {c:dD}(h:dU c=true):qY (aV c)=some c:=by
 obtain⟨h1,h2,h3,h4,-,-⟩:=nC h;have a1:=dY (n:=c.k.toNat) (b:=false) (by omega) (show aV c=enc c.k.toNat++wS (aK c.k) c from rfl);have e1:((min c.k.toNat 255:Nat):Int)=c.k:=by omega
 have e5:=oJ (aK c.k) c (fP c.k) [] false h3;rw[aak,h4] at e5;simp only[qY,a1,e1,e5];rw[aaS ⟨trivial,trivial,h⟩]
theorem TP:∀(r:List wV) (d c:dD),(Bb r d c).k=c.k
 |[],_,_=>rfl
 |f::r,d,c=>by
  unfold Bb;rw[TP r];cases f<;>rfl
theorem xP {l:List UInt8}{c:dD}(h:qY l=some c):dU c=true∧aV c=l:=by
 simp only[qY] at h
 split at h
 rotate_left
 ·cases h
 rename_i hc
 obtain⟨c1,c2,c3⟩:=hc;injection h with h
 rw[h] at c3;refine⟨c3,?_⟩;have t1:=Aq c1
 rcases nQ l with ⟨n1,l1,hn1,e1,h1⟩|h1
 rotate_left
 ·rw[h1] at t1;cases t1
 rw[h1] at c1 c2 h;simp only at c1 c2 h;generalize hr:lM (aK ((min n1 255:Nat):Int)) (fP ((min n1 255:Nat):Int)) (l1,false)=r at c1 c2 h;obtain⟨m',l',b'⟩:=r;simp only at c1 c2 h;subst c1 c2 h;obtain⟨a1,a2⟩:=pK _ _ _ _ _ (oh _) hr;have hk:=nC c3;have ek:m'.k=((min n1 255:Nat):Int):=by rw[a2,TP];rfl
 have e5:min n1 255=n1:=by have:=hk.2.1;omega
 rw[e5] at a1 ek;rw[aak] at a1;rw[aV,ek,Z9,←a1,←e1]
theorem uW {l:List Int}(h:l.length≤m)(hm:m≤100)(hi:∀x∈l,jO x=true):(fq l).length≤6+6*m:=by
 unfold fq;rw[Zn];have h1:=oK l hi;have h2:=dV (n:=l.length) (by omega);omega
theorem R6 {c:dD}(f:wV)(h:okF c f)(hk:c.key.length≤16)(hb:c.body.length≤64):(pX f c).length≤70:=by
 have num:∀x:Int,0≤x∧x≤1099511627776→(enc x.toNat).length≤70:=fun x hx=>by have:=dV (n:=x.toNat) (by omega);omega
 cases f with
 |gs=>have:=uW h.1 (by omega) h.2;show(fq c.gs).length≤70;omega
 |mem=>have:=uW h.1 (by omega) h.2;show(fq c.mem).length≤70;omega
 |key=>show(txt c.key).length≤70;unfold txt;rw[Zn];have:=dV (n:=c.key.length) (by omega);omega
 |body=>show(txt c.body).length≤70;unfold txt;rw[Zn];have:=dV (n:=c.body.length) (by omega);omega
 |mi=>exact num _ h
 |mt=>exact num _ h
 |i=>exact num _ h
 |tm=>exact num _ h
 |tp=>exact num _ h
 |who=>exact num _ h
 |n=>exact num _ h
theorem Jj {c:dD}(hk:c.key.length≤16)(hb:c.body.length≤64):∀(r:List wV),(∀f∈r,okF c f)→(wS r c).length≤70*r.length
 |[],_=>by simp[wS]
 |f::r,h=>by
  have h1:=R6 f (h f ZC) hk hb;have h2:=Jj hk hb r fun x hx=>h x (Zv _ hx);simp only[wS,Zn,ZI];omega
theorem ER (k:Int):(aK k).length≤5:=by
 unfold aK
 repeat' split
 all_goals decide
theorem yG {c:dD}(h:dU c=true):1≤(aV c).length∧(aV c).length≤356:=by
 obtain⟨h1,h2,h3,h4,h5,h6⟩:=nC h;have a:=dV (n:=c.k.toNat) (by omega);have b:=Jj h5 h6 _ h3;have d:=ER c.k;have e:=vR c.k.toNat;unfold aV;rw[Zn];omega
end Cp
variable{a:Act}{listed:Array Bool}{ri rj:List Oper}{i j:Nat}{oi oj:Oper}{w:World}
section
variable{P:Program}{md:Region.Mode}{ops:Array Oper}{Q:Exit→Act→World→Prop}{S:World→Prop}{n:Nat}{L:Array Bool→Act→World→Prop}
def Sr (md:Region.Mode)(ops:Array Oper)(n i j:Nat)(listed:Array Bool):Bool:=decide (Region.ready md ops listed=[i,j])&&decide (i<n)&&decide (j<n)
theorem VW {f:Nat}(hi:ops.toList.drop i=oi::ri)(hj:ops.toList.drop j=oj::rj)(hB:Sr md ops n i j listed=true)
  (h1:wpList P ops (Qn Q (fun a' w'=>S w'∧av P md ops Q S n L f (listed.setIfInBounds i true) a' w')) [oi] a w)
  (h2:wpList P ops (Qn Q (fun a' w'=>S w'∧av P md ops Q S n L f (listed.setIfInBounds j true) a' w')) [oj] a w):av P md ops Q S n L (f+1) listed a w:=by
 simp only[Sr,Zr,Zx] at hB;refine⟨by rw[hB.1.1];simp,fun k hk=>?_⟩;rw[hB.1.1] at hk
 rcases Zu.1 hk with rfl|hk
 ·exact⟨hB.1.2,wpOp_mono (fun a' w' h'=>h') (wO (aL hi) h1)⟩
 ·obtain rfl:k=j:=by simpa using hk
  exact⟨hB.2,wpOp_mono (fun a' w' h'=>h') (wO (aL hj) h2)⟩
end
variable{acc:List Int}{at' k k0:Nat}{α:Type}{x':Value}{w1 wr:World}
def xI (l:List Int)(w:World)(e:Ending)(w':World):Prop:=
 (l.all Nm.jO=true∧∃A c,e=.returned (.tuple #[.slice A (Nm.fq l).length c,.int .i64 0])∧w'.ownsRow w 5 1 (.slice A (Nm.fq l).length c) (Nm.fq l).length (cb (Nm.fq l))∧Below w w w') ∨
 (l.all Nm.jO=false∧e=.returned (.tuple #[(),.int .i64 2])∧Below w w w')
def J4 (l:List Int)(w:World)(x y:Value)(wr:World):Prop:=
 ∃k:Nat,y=(k:Int)∧k≤l.length∧(∀a∈l.take k,Nm.jO a=true)∧wr.ownsRow w 5 1 x (Nm.enc l.length++Nm.many (l.take k)).length (cb (Nm.enc l.length++Nm.many (l.take k)))∧Below w w wr
theorem take_one {l:List α}(h:k<l.length):l.take (k+1)=l.take k++[l[k]]:=by
 rw[List.take_succ_eq_append_getElem h]
theorem CR {l:List Int}{x:Value}(hk:k<l.length)(ha:∀a∈l.take k,Nm.jO a=true)(hi:Nm.jO l[k]=true)(hb:Below w w wr)
  (hw:wr.ownsRow w 5 1 x (Nm.enc l.length++Nm.many (l.take k)).length (cb (Nm.enc l.length++Nm.many (l.take k))))
  (ho:w1.ownsRow w 5 1 x' ((Nm.enc l.length++Nm.many (l.take k)).length+(Nm.enc (l[k]).toNat).length) (cb (Nm.enc l.length++Nm.many (l.take k)++Nm.enc (l[k]).toNat))) (hg:dX wr w1 x x') :
  J4 l w x' (.int .i64 ((k:Int)+1)) w1:=by
 have e:Nm.enc l.length++Nm.many (l.take (k+1))=Nm.enc l.length++Nm.many (l.take k)++Nm.enc (l[k]).toNat:=by
  rw[take_one hk,Nm.wo,Nm.EK,ZN]
 refine⟨k+1,by go_num,by omega,?_,?_,hb.trans (hg.bW hw hb.size)⟩
 ·intro a h;rw[take_one hk] at h
  rcases Zm.1 h with h|h
  ·exact ha a h
  ·simp only[Zp] at h;subst h;exact hi
 ·rw[e,Zn];exact ho
theorem Eu {l:List Int}{x:Value}(hk:l.length≤k)(ha:∀a∈l.take k,Nm.jO a=true)(hb:Below w w wr)
  (hw:wr.ownsRow w 5 1 x (Nm.enc l.length++Nm.many (l.take k)).length (cb (Nm.enc l.length++Nm.many (l.take k)))):xI l w (.returned (.tuple #[x,.int .i64 0])) wr:=by
 rw[Zz hk] at ha hw;obtain⟨A,c,rfl,_,_,_⟩:=bH hw;exact Or.inl ⟨aam.2 ha,A,c,rfl,hw,hb⟩
theorem Fj {l:List Int}(hk:k<l.length)(hi:Nm.jO l[k]=false)(hb:Below w w wr):xI l w (.returned (.tuple #[(),.int .i64 2])) wr:=by
 refine Or.inr ⟨?_,rfl,hb⟩;cases h:l.all Nm.jO with
 |false=>rfl
 |true=>
  have:=aam.1 h _ (List.getElem_mem hk);rw[hi] at this;cases this
theorem L8 (A:Option Addr)(n c:Nat)(l:List Int)(w:World)(hr:Reads w w 1 A n (ci l))(hn:n≤4096)(hi64:∀a∈l,-9223372036854775808≤a∧a≤9223372036854775807) :
  Calls prog 130 #[.slice A n c] w (xI l w):=by
 have hl:=hr.jw;have HI:=L_ hi64;clear hi64
 go_enter func130,ntmps130
 go_wp2_with fail;refine(wZ w _ 0 [] n w (aaU _ _ _ _) (by omega) (by omega) (by omega) (Zh _)).mono ?_;rintro e w1 ⟨v1,rfl,o1,g1⟩;have B1:=L_ (g1.below (Zh _) (by simp[Value.ownBlock]));have O1:Hid (w1.ownsRow w 5 1 v1 (Nm.enc l.length).length (cb (Nm.enc l.length))):=by simpa[Hid,hl] using o1
 clear o1 g1;go_wp2_with fail
 go_loopw [4,15] (fun x y wr=>J4 l w x y wr) (fun _ y _=>n - (intOf y).toNat)
 case atStart=>exact⟨0,rfl,by omega,by simp,by simpa[Nm.many] using O1.out,B1⟩
 case round=>
  obtain⟨k,rfl,hk,ha,hw,hb⟩:=hrel
  by_cases hlt:k<n
  ·obtain⟨ad,u,rfl,hbl,hu,hc⟩:=(hr.below hb).at_ hlt;have hg:l[k]?=some (l[k]'(by omega)):=Zl (by omega);rw[lZ,hg] at hu;simp only[aad,ZH] at hu;subst hu;have h64:=HI _ (List.getElem_mem (l:=l) (n:=k) (by omega));have hlen:=Nm.oK (l.take k) ha
   have hlen2:(Nm.enc l.length++Nm.many (l.take k)).length≤1000000:=by
    have:=Nm.qH (n:=l.length) (by omega);rw[Zn];rw[Zw] at hlen;omega
   cases hin:Nm.jO (l[k]'(by omega)) with
   |true=>
    obtain⟨i1,i2⟩:=Nm.ku hin;have HIN:=L_ hin;have HA:=L_ ha;have HW:=L_ hw;have HB:=L_ hb;have HR:=L_ hr;clear hin ha hw hb hr hg hlen h64;obtain⟨z,hz⟩:∃z,l[k]'(by omega)=z:=⟨_,rfl⟩;rw[hz] at hc i1 i2;have HZ:=L_ hz;clear hz;go_wp2_with fail;refine(BD z _ i1 i2).mono ?_;rintro e w' ⟨rfl,rfl⟩;go_wp2_with fail;refine(wZ w u4 _ _ z wr HW (by omega) i1 (by omega) HB.size).mono ?_;rintro e w2 ⟨v2,rfl,o2,g2⟩;have O2:=L_ o2;have G2:=L_ g2;clear o2 g2;go_wp2
    go_roundw
    case rel=>exact CR (k:=k) (by omega) HA HIN HB HW (by rw[HZ.out];exact O2) G2
    case measure=>simp[intOf];omega
   |false=>
    have HN:=L_ (Nm.VL hin);have HIN:=L_ hin;have HB:=L_ hb;obtain⟨h64a,h64b⟩:=h64;clear hin ha hw hb hr hg hlen;obtain⟨z,hz⟩:∃z,l[k]'(by omega)=z:=⟨_,rfl⟩;rw[hz] at hc h64a h64b;have HN2:Hid (¬(0≤z∧z≤1099511627776)):=by rw[←hz];exact HN
    have HZ:=L_ hz;clear hz HN;go_wp2_with fail;refine(Nn z _ HN2).mono ?_;rintro e w' ⟨rfl,rfl⟩;go_wp2
    go_ret2
    exact Fj (k:=k) (by omega) HIN HB
  ·have HA:=L_ ha;have HW:=L_ hw;have HB:=L_ hb;clear ha hw hb hr;go_wp2
   go_ret2
   exact Eu (k:=k) (by omega) HA HB HW
def pz (o:Option (List Int×Nat))(w:World)(e:Ending)(w':World):Prop:=match o with
 |some (r,k)=>∃A c,e=.returned (.tuple #[.slice A r.length c,(k:Int),.int .i64 0])∧w'.ownsRow w 3 1 (.slice A r.length c) r.length (ci r)∧Below w w w'
 |none=>e=.returned (.tuple #[(),.int .i64 0,.int .i64 8])∧Below w w w'
def yK (b:List UInt8)(c k0:Nat)(w:World)(x s y:Value)(wr:World):Prop:=
 ∃(i at':Nat) (acc:List Int),y=(i:Int)∧s=(at':Int)∧i≤c∧k0≤at'∧at'≤b.length∧acc.length=i∧wr.ownsRow w 3 1 x i (ci acc)∧Below w w wr ∧
  (Nm.ints c (b.drop k0)).map (fun p=>(p.1,k0+p.2))=(Nm.ints (c - i) (b.drop at')).map fun p=>(acc++p.1,at'+p.2)
theorem wB {b:List UInt8}{c n:Nat}{x:Value}(hi:i<c)(h0:k0≤at')(ha:at'≤b.length)(hl:acc.length=i)(ho:wr.ownsRow w 3 1 x i (ci acc))(hb:Below w w wr)
  (he:(Nm.ints c (b.drop k0)).map (fun p=>(p.1,k0+p.2))=(Nm.ints (c - i) (b.drop at')).map fun p=>(acc++p.1,at'+p.2)) (hg:Nm.get (b.drop at')=some (n,k))
  (ho1:w1.ownsRow w 3 1 x' (i+1) (ci (acc++[(n:Int)]))) (hgr:dX wr w1 x x'):yK b c k0 w x' (.int .i64 ((at':Int)+(k:Int))) (.int .i64 ((i:Int)+1)) w1:=by
 have hk:=(Nm.gD hg).2.2.1;rw[ZK] at hk;refine⟨i+1,at'+k,acc++[(n:Int)],by go_num,by go_num,by omega,by omega,by omega,by simp[hl],ho1,hb.trans (hgr.bW ho hb.size),?_⟩;rw[he,show c - i=(c - (i+1))+1 by omega,Nm.lI hg,List.drop_drop,Option.map_map]
 congr 1
 funext p
 simp only[Function.comp_apply,ZN,aap,aay,ZV,true_and];omega
theorem xZ {b:List UInt8}{c:Nat}{x:Value}(hi:i=c)(hl:acc.length=i)(ho:wr.ownsRow w 3 1 x i (ci acc))(hb:Below w w wr)
  (he:(Nm.ints c (b.drop k0)).map (fun p=>(p.1,k0+p.2))=(Nm.ints (c - i) (b.drop at')).map fun p=>(acc++p.1,at'+p.2)) :
  pz ((Nm.ints c (b.drop k0)).map fun p=>(p.1,k0+p.2)) w (.returned (.tuple #[x,(at':Int),.int .i64 0])) wr:=by
 rw[he,show c - i=0 by omega];obtain⟨A,cp,rfl,_,_,_⟩:=bH ho;subst hl;exact⟨A,cp,by simp,by simpa using ho,hb⟩
theorem yt {b:List UInt8}{c:Nat}(hi:i<c)(hb:Below w w wr)
  (he:(Nm.ints c (b.drop k0)).map (fun p=>(p.1,k0+p.2))=(Nm.ints (c - i) (b.drop at')).map fun p=>(acc++p.1,at'+p.2)) (hg:Nm.get (b.drop at')=none) :
  pz ((Nm.ints c (b.drop k0)).map fun p=>(p.1,k0+p.2)) w (.returned (.tuple #[(),.int .i64 0,.int .i64 8])) wr:=by
 rw[he,show c - i=(c - (i+1))+1 by omega,Nm.pR hg];exact⟨rfl,hb⟩
theorem DJ (A:Option Addr)(n cp:Nat)(b:List UInt8)(most:Nat)(w:World)(hr:Reads w w 1 A n (cb b))(hcp:n≤cp)(hn:n≤1000000000000)(hm:most≤4096) :
  Calls prog 265 #[.slice A n cp,(most:Int)] w (pz (Nm.fD b most) w):=by
 have hl:=hr.mR;cases hg:Nm.get b with
 |none=>
  have e:Nm.fD b most=none:=by unfold Nm.fD;rw[hg]
  rw[e];have HG:=L_ (Gx A n cp _ b w hr hn hg);clear hg e hr
  go_enter func265,ntmps265
  go_wp2_with (first|(with_reducible refine HG.out.mono ?_;rintro e w' ⟨rfl,rfl⟩))
  go_ret3
  exact⟨rfl,aaO _ _⟩
 |some p=>
  obtain⟨c,k0⟩:=p;have HG:=L_ (Il A n cp _ b c k0 w hr hn hg);obtain⟨q1,q2,q3,q4⟩:=Nm.gD hg
  by_cases hc:most<c
  ·have e:Nm.fD b most=none:=by unfold Nm.fD;rw[hg];simp only;rw[aaS hc]
   rw[e];clear hg e hr q4 q2
   go_enter func265,ntmps265
   go_wp2_with (first|(with_reducible refine HG.out.mono ?_;rintro e w' ⟨rfl,rfl⟩))
   go_ret3
   exact⟨rfl,aaO _ _⟩
  ·have e:Nm.fD b most=(Nm.ints c (b.drop k0)).map fun p=>(p.1,k0+p.2):=by unfold Nm.fD;rw[hg];simp only;rw[aaR hc]
   rw[e];clear hg e q4 q2;have HL:=L_ hl;clear hl
   go_enter func265,ntmps265
   go_wp2_with (first|(with_reducible refine HG.out.mono ?_;rintro e w' ⟨rfl,rfl⟩))
   go_loopw [4,5,31] (fun x s y wr=>yK b c k0 w x s y wr) (fun _ _ y _=>c - (intOf y).toNat)
   case atStart=>exact⟨0,k0,[],rfl,rfl,by omega,Zh _,q3,rfl,aaU _ _ _ _,aaO _ _,by simp⟩
   case round=>
    obtain⟨i,at',acc,rfl,rfl,hi,h0,ha,hla,ho,hb,he⟩:=hrel;have hle:=HL.out
    by_cases hlt:i<c
    ·have hs:=fun w=>gu (P:=prog) underlying46 A n cp at' (by omega) w jS;have hr2:=((hr.below hb).rest (k:=at') (c:=cp) (by omega) hcp);rw[nK] at hr2;cases hgg:Nm.get (b.drop at') with
     |none=>
      have HG2:=L_ (Gx _ (n - at') (cp - at') _ _ wr hr2 (by omega) hgg);have HGG:=L_ hgg;have HE:=L_ he;have HB:=L_ hb;clear hgg he hb ho hr hr2 hla hle;go_wp2_with (first|(with_reducible refine HG2.out.mono ?_;rintro e w' ⟨rfl,rfl⟩))
      go_ret3
      exact yt hlt HB HE HGG
     |some p=>
      obtain⟨z,kz⟩:=p;have HG2:=L_ (Il _ (n - at') (cp - at') _ _ z kz wr hr2 (by omega) hgg);have hkz:=(Nm.gD hgg).2.2.1;rw[ZK] at hkz;have HGG:=L_ hgg;have HE:=L_ he;have HB:=L_ hb;have HO:=L_ ho;have HLA:=L_ hla;have HR:=L_ hr;clear hgg he hb ho hr hr2 hla;go_wp2_with fail;refine HG2.mono ?_;rintro e w' ⟨rfl,rfl⟩;go_wp2_with (at_builtin;refine T9 rfl (.tmp 44) (.tmp 46) rfl w.heap.size u4 i acc rfl HO (z:Int) rfl ?c1 ?c2 ?_)
      case c1=>omega
      case c2=>exact HB.size
      intro v2 w2 o2 g2;have O2:=L_ o2;have G2:=L_ g2;clear o2 g2;go_wp2
      go_roundw
      case rel=>exact wB hlt h0 ha HLA HO HB HE HGG O2 G2
      case measure=>simp[intOf];omega
    ·have HE:=L_ he;have HB:=L_ hb;have HO:=L_ ho;have HLA:=L_ hla;clear he hb ho hla hr hle;go_wp2
     go_ret3
     exact xZ (by omega) HLA HO HB HE
variable{xs:List Value}{base:Nat}{v:Value}{w':World}
def uw (w:World)(s:ByteArray):Nat:=grownCap w s.size 0 5
def Bd (w:World)(s:ByteArray):World:=w.drew.alloc (.cells (bytesRow s (uw w s)) 5 ((bytesRow s (uw w s)).size,(bytesRow s (uw w s)).size+1))
theorem vX (w:World)(s:ByteArray):(convert 9 46 s).run prog w=.ok (.slice (some ⟨w,0,none⟩) s.size (uw w s)) (Bd w s):=
 run_bytes_of_string w 9 46 5 s underlying9 underlying46 underlying5
@[go_sem] theorem yN (w:World) (s:ByteArray):(Bd w s).heap.size=w.heap.size+1:=by
 show(w.drew.heap.push _).size=_;simp
theorem vW (w:World)(s:ByteArray):Below w w (Bd w s):=(aaO _ _).drew.alloc (Zh _) _
theorem Ec (w:World)(s:ByteArray):s.size≤uw w s:=grownCap_ge _ _ _ _
theorem Fp (w:World)(s:ByteArray)(h:s.size≤maxLen):uw w s≤maxLen:=grownCap_le_maxLen _ _ _ _ h
theorem vS (w:World)(s:ByteArray):Reads (Bd w s) (w.heap.size+1) 1 (some ⟨w,0,none⟩) s.size (cb s.data.toList):=by
 have hsz:=size_data s;refine⟨by rw[uQ];omega,fun _=>⟨⟨w,0,none⟩,rfl,by simp,fun j u hu=>?_⟩⟩;have hadd:(⟨w,0,none⟩:Addr).add j=⟨w,j,none⟩:=by unfold Addr.add;split<;>simp_all
 rw[hadd];have hc:=World.cell?_alloc_mark w.drew (bytesRow s (uw w s)) 5 ((bytesRow s (uw w s)).size,(bytesRow s (uw w s)).size+1) j;have hh:w.drew.heap.size=w.heap.size:=rfl;rw[hh] at hc;show(Bd w s).cell? _=_;rw[Bd,hc];rw[Pz] at hu
 have hj:j<s.data.toList.length:=by
  rcases aaA j s.data.toList.length with h|h
  ·exact h
  ·rw[List.getElem?_eq_none h] at hu;cases hu
 have hj2:j<s.data.size:=by simpa using hj
 rw[bytesRow_at s _ j hj2,←hu,Zl hj];simp
theorem jB {n size:Nat}{e:TypeId}(h:w.ownsRow base e size v n xs)(hb:Below w w w'):w'.ownsRow base e size v n xs:=by
 refine⟨h.1,?_⟩
 rcases h.2 with h2|⟨g,cap,cur,hv,hg,hh,r⟩
 ·exact Or.inl h2
 ·exact Or.inr ⟨g,cap,cur,hv,hg,(hb.block g (by
   rcases aaA g w with hlt|hge
   ·exact hlt
   ·rw[Array.getElem?_eq_none hge] at hh;cases hh)).trans hh,r⟩
variable{bad:Bool}{B gr:Nat}{w2:World}
def uE (B gr:Nat)(l:List UInt8)(bad:Bool)(w:World):Prop:=
 ∃(A:Option Addr) (n c:Nat),aF w gr 256 #[.slice A n c,.bool !bad]∧Reads w B 1 A n (cb l)∧n≤c∧c≤9223372036854775807∧n≤4096∧B≤gr
theorem uE.below {l:List UInt8}(h:uE B gr l bad w)(hb:Below w w w'):uE B gr l bad w':=by
 obtain⟨A,n,c,h1,h2,h3,h4,h5,h6⟩:=h;exact⟨A,n,c,h1.below hb h1.lt,h2.below (hb.mono (by have:=h1.lt;omega)),h3,h4,h5,h6⟩
theorem uE.lt {l:List UInt8}(h:uE B gr l bad w):gr<w.heap.size:=by
 obtain⟨A,n,c,h1,_⟩:=h;exact h1.lt
theorem kQ (B gr:Nat)(l:List UInt8)(bad:Bool)(k:Nat)(x:Int)(w:World)(h:uE B gr l bad w)(hk:k≤l.length)(b:Bool)(hb:(bad||!(x==0))=b) :
  Calls prog 264 #[gr,(k:Int),x] w fun e w'=>e=()∧uE B gr (l.drop k) b w'∧w.grownBy w' (some gr):=by
 obtain⟨A,n,c,h1,h2,h3,h4,h5,h6⟩:=h;have hl:=h2.mR;have hkn:k≤n:=by omega
 have K0:=L_ h1;have R0:=L_ h2;have HB:=L_ hb;clear h1 h2 hb hl hk;have hs:=fun w=>gu (P:=prog) underlying46 A n c k hkn w jS;have hmin:(if n<k then(n:Int) else(k:Int))=(k:Int):=aaR (by omega);have hnk:¬n<k:=by omega
 have c0:=K0.cell 0;have c1:=K0.cell 1;have f1:=K0.frozen 1;have f0:=K0.frozen 0
 go_enter func264,ntmps264
 cases bad with
 |true=>
  have G1:=L_ (dx (World.grownBy.refl w (some gr)) (p:=⟨gr,1,none⟩) (Or.inl rfl) false);have K1:Hid (aF (w.setCell ⟨gr,1,none⟩ false) gr 256 #[.slice A n c,false]):=K0.aM 1 false;have R1:=L_ (R0.setCell (p:=⟨gr,1,none⟩) h6 false);have hbb:b=true:=HB.symm;subst hbb;go_wp2_with fail;generalize w.setCell ⟨gr,1,none⟩ false=W1 at *;clear K0 R0 c0 c1 f0 f1;have c0:=K1.cell 0;have f0:=K1.frozen 0;have HS:Hid ((fun w'=>w'.cell? ⟨gr,0,none⟩=some (.slice A n c)) W1.drew):=c0;refine eH 14 (fun w'=>w'.cell? ⟨gr,0,none⟩=some (.slice A n c)) (by kernel_rfl) (by kernel_rfl) ?_;refine d9 0 HS (h:=d9 1 HS (h:=d9 2 HS (h:=d9 3 HS (h:=?_))));try simp only[Act.put,aaI,aaJ,aaK]
  refine d9 4 HS (h:=d9 5 HS (h:=d9 6 HS (h:=d9 7 HS (h:=?_))));try simp only[Act.put,aaI,aaJ,aaK]
  refine d9 8 HS (h:=d9 9 HS (h:=d9 10 HS (h:=d9 11 HS (h:=?_))));try simp only[Act.put,aaI,aaJ,aaK]
  refine d9 12 HS (h:=d9 13 HS (h:=?_));try simp only[Act.put,aaI,aaJ,aaK]
  refine lH (by kernel_rfl) ?_;go_wp2
  go_end0
  refine⟨rfl,⟨mX A c k,n - k,c - k,?_,?_,by omega,by omega,by omega,h6⟩,?_⟩
  ·exact K1.drew.aM 0 (.slice (mX A c k) (n - k) (c - k))
  ·have:=(R1.drew.rest (k:=k) hkn h3).setCell (p:=⟨gr,0,none⟩) h6 (.slice (mX A c k) (n - k) (c - k));rw[nK] at this;exact this
  ·exact dx (kN G1) (Or.inl rfl) _
 |false=>
  cases hx:(x==0) with
  |true=>
   rw[hx] at HB;have G1:=L_ (dx (World.grownBy.refl w (some gr)) (p:=⟨gr,1,none⟩) (Or.inl rfl) true);have K1:Hid (aF (w.setCell ⟨gr,1,none⟩ true) gr 256 #[.slice A n c,true]):=K0.aM 1 true;have R1:=L_ (R0.setCell (p:=⟨gr,1,none⟩) h6 true);have hbb:b=false:=HB.symm;subst hbb;go_wp2_with fail;generalize w.setCell ⟨gr,1,none⟩ true=W1 at *;clear K0 R0 c0 c1 f0 f1;have c0:=K1.cell 0;have f0:=K1.frozen 0;have HS:Hid ((fun w'=>w'.cell? ⟨gr,0,none⟩=some (.slice A n c)) W1.drew):=c0;refine eH 14 (fun w'=>w'.cell? ⟨gr,0,none⟩=some (.slice A n c)) (by kernel_rfl) (by kernel_rfl) ?_;refine d9 0 HS (h:=d9 1 HS (h:=d9 2 HS (h:=d9 3 HS (h:=?_))));try simp only[Act.put,aaI,aaJ,aaK]
   refine d9 4 HS (h:=d9 5 HS (h:=d9 6 HS (h:=d9 7 HS (h:=?_))));try simp only[Act.put,aaI,aaJ,aaK]
   refine d9 8 HS (h:=d9 9 HS (h:=d9 10 HS (h:=d9 11 HS (h:=?_))));try simp only[Act.put,aaI,aaJ,aaK]
   refine d9 12 HS (h:=d9 13 HS (h:=?_));try simp only[Act.put,aaI,aaJ,aaK]
   refine lH (by kernel_rfl) ?_;go_wp2
   go_end0
   refine⟨rfl,⟨mX A c k,n - k,c - k,?_,?_,by omega,by omega,by omega,h6⟩,?_⟩
   ·exact K1.drew.aM 0 (.slice (mX A c k) (n - k) (c - k))
   ·have:=(R1.drew.rest (k:=k) hkn h3).setCell (p:=⟨gr,0,none⟩) h6 (.slice (mX A c k) (n - k) (c - k));rw[nK] at this;exact this
   ·exact dx (kN G1) (Or.inl rfl) _
  |false=>
   rw[hx] at HB;have G1:=L_ (dx (World.grownBy.refl w (some gr)) (p:=⟨gr,1,none⟩) (Or.inl rfl) false);have K1:Hid (aF (w.setCell ⟨gr,1,none⟩ false) gr 256 #[.slice A n c,false]):=K0.aM 1 false;have R1:=L_ (R0.setCell (p:=⟨gr,1,none⟩) h6 false);have hbb:b=true:=HB.symm;subst hbb;go_wp2_with fail;generalize w.setCell ⟨gr,1,none⟩ false=W1 at *;clear K0 R0 c0 c1 f0 f1;have c0:=K1.cell 0;have f0:=K1.frozen 0;have HS:Hid ((fun w'=>w'.cell? ⟨gr,0,none⟩=some (.slice A n c)) W1.drew):=c0;refine eH 14 (fun w'=>w'.cell? ⟨gr,0,none⟩=some (.slice A n c)) (by kernel_rfl) (by kernel_rfl) ?_;refine d9 0 HS (h:=d9 1 HS (h:=d9 2 HS (h:=d9 3 HS (h:=?_))));try simp only[Act.put,aaI,aaJ,aaK]
   refine d9 4 HS (h:=d9 5 HS (h:=d9 6 HS (h:=d9 7 HS (h:=?_))));try simp only[Act.put,aaI,aaJ,aaK]
   refine d9 8 HS (h:=d9 9 HS (h:=d9 10 HS (h:=d9 11 HS (h:=?_))));try simp only[Act.put,aaI,aaJ,aaK]
   refine d9 12 HS (h:=d9 13 HS (h:=?_));try simp only[Act.put,aaI,aaJ,aaK]
   refine lH (by kernel_rfl) ?_;go_wp2
   go_end0
   refine⟨rfl,⟨mX A c k,n - k,c - k,?_,?_,by omega,by omega,by omega,h6⟩,?_⟩
   ·exact K1.drew.aM 0 (.slice (mX A c k) (n - k) (c - k))
   ·have:=(R1.drew.rest (k:=k) hkn h3).setCell (p:=⟨gr,0,none⟩) h6 (.slice (mX A c k) (n - k) (c - k));rw[nK] at this;exact this
   ·exact dx (kN G1) (Or.inl rfl) _
theorem wh {row:Option Nat}(h:Below w w w1)(k:w1.grownBy w2 row):w.grownBy w2 row:=
 ⟨k.os.trans h.os,k.tape.trans h.tape,k.output.trans h.output,Zt h.size k.size,fun i hi hne=>(k.block i (aal hi h.size) hne).trans (h.block i hi)⟩
theorem FE (B gr:Nat)(l:List UInt8)(bad:Bool)(w:World)(h:uE B gr l bad w)(m:Nat)(l':List UInt8)(bad':Bool)(hx:Rp.next (l,bad)=(m,(l',bad'))) :
  Calls prog 202 #[gr] w fun e w'=>e=.returned ((m:Int))∧uE B gr l' bad' w'∧w.grownBy w' (some gr):=by
 have H:=L_ h;obtain⟨A,n,c,h1,h2,h3,h4,h5,h6⟩:=h;have c0:=h1.cell 0;have HG:=L_ (wP A n c B l w h2 (by omega));have hl:=h2.mR;clear h1 h2 h3 h4 h6;unfold Rp.next at hx;cases hg:Nm.get l with
 |none=>
  rw[hg] at hx HG;simp only[ZV] at hx;obtain⟨rfl,rfl,rfl⟩:=hx;have HT:=L_ (kQ B gr l bad 0 8 w H (Zq _) true (by simp));clear hg
  go_enter func202,ntmps202
  go_wp2_with fail;refine HG.mono ?_;rintro e w' ⟨rfl,rfl⟩;simp only[UO];go_wp2_with fail;refine HT.mono ?_;rintro e w2 ⟨rfl,hs,hgr⟩;have HS2:=L_ hs;have HGR:=L_ hgr;clear hs hgr c0;go_wp2;go_ret;exact⟨rfl,HS2,HGR⟩
 |some p=>
  obtain⟨v,k⟩:=p;rw[hg] at hx HG;simp only[ZV] at hx;obtain⟨rfl,rfl,rfl⟩:=hx;have hkl:=(Nm.gD hg).2.2.1;have HT:=L_ (kQ B gr l bad k 0 w H hkl bad (by simp));clear hg
  go_enter func202,ntmps202
  go_wp2_with fail;refine HG.mono ?_;rintro e w' ⟨rfl,rfl⟩;simp only[UO];go_wp2_with fail;refine HT.mono ?_;rintro e w2 ⟨rfl,hs,hgr⟩;have HS2:=L_ hs;have HGR:=L_ hgr;clear hs hgr c0;go_wp2;go_ret;exact⟨rfl,HS2,HGR⟩
theorem rZ (A:Option Addr)(n c:Nat)(A':Option Addr)(n' c' B B':Nat)(l l':List Int)(w:World)(hr:Reads w B 1 A n (ci l))(hr':Reads w B' 1 A' n' (ci l'))(hn:n≤9223372036854775807)(hn':n'≤9223372036854775807)(b:Bool)(hb:decide (l=l')=b) :
  Calls prog 93 #[.slice A n c,.slice A' n' c'] w fun e w'=>e=.returned b∧∃q,w'=w.drewN q:=by
 have hl:=hr.jw;have hl':=hr'.jw
 by_cases hnn:n=n'
 rotate_left
 ·obtain rfl:b=false:=by rw[←hb];exact ZE (fun h=>hnn (by rw[←hl,←hl',h]))
  have hne:decide ((n:Int)=(n':Int))=false:=ZE (by omega);clear hr hr' hl hl' hb
  go_enter func93,ntmps93
  go_wp2;go_ret;exact⟨rfl,0,rfl⟩
 subst hnn;have HB:=L_ hb;have HL:=L_ hl;have HL':=L_ hl';clear hl' hb hl
 go_enter func93,ntmps93
 go_wp2
 go_loopw [13] (fun y wr=>∃k:Nat,y=(k:Int)∧k≤n∧l.take k=l'.take k∧∃q,wr=w.drewN q) (fun y _=>n - (intOf y).toNat)
 case atStart=>exact⟨0,rfl,by omega,rfl,0,rfl⟩
 case round=>
  obtain⟨k,rfl,hk,hpre,q,rfl⟩:=hrel;have HP:=L_ hpre;clear hpre
  by_cases hlt:k<n
  ·obtain⟨ad,u,rfl,hbl,hu,hc⟩:=hr.at_ hlt;obtain⟨ad',u',rfl,hbl',hu',hc'⟩:=hr'.at_ hlt;have hg:l[k]?=some (l[k]'(by have:=HL.out;omega)):=Zl _;have hg':l'[k]?=some (l'[k]'(by have:=HL'.out;omega)):=Zl _;rw[lZ,hg] at hu;rw[lZ,hg'] at hu';simp only[aad,ZH] at hu hu';subst hu;subst hu';have HG:=L_ hg;have HG':=L_ hg';clear hg hg' hr hr';obtain⟨z,hz⟩:∃z,l[k]'(by have:=HL.out;omega)=z:=⟨_,rfl⟩;obtain⟨z',hz'⟩:∃z,l'[k]'(by have:=HL'.out;omega)=z:=⟨_,rfl⟩;rw[hz] at hc HG;rw[hz'] at hc' HG';clear hz hz'
   by_cases he:z=z'
   ·subst he;go_wp2_with fail
    go_quiet (fail)
    go_wp2
    go_roundw
    case rel=>exact⟨k+1,by go_num,by omega,by rw[ZP,ZP,HP.out,HG.out,HG'.out],_,rfl⟩
    case measure=>simp[intOf];omega
   ·have hzz:=L_ he
    have hf:Hid (b=false):=by
     rw[Hid,←HB.out];refine ZE fun h=>hzz ?_;have h1:=HG.out;rw[h,HG'.out] at h1;injection h1 with h1
     exact h1.symm
    go_wp2_with fail
    go_quiet (fail)
    go_wp2;go_ret;rw[hf.out];exact⟨rfl,_,World.drewN_drewN _ _ _⟩
  ·have hf:Hid (b=true):=by
    rw[Hid,←HB.out];refine ZG ?_;have h1:=HP.out;have h2:=HL.out;have h3:=HL'.out;rwa[Zz (by omega),Zz (by omega)] at h1
   clear hr hr';go_wp2;go_ret;rw[hf.out];exact⟨rfl,q,rfl⟩
variable{args:Array Value}{W:World}
section
open Go.RowKit Go.Sort
theorem qb {P:Program}{f:FuncId}(h:∀cur,Below W W cur→Calls P f args cur fun e w'=>e=.returned v∧Below cur cur w') :
  ∀d os,Calls P f args (grow (redrawn W d) os) fun e w''=>e=.returned v∧∃p:Regrown,w''=grow (redrawn W p.d) p.os:=
 fun d os=>Calls.regrown_of (h _ (below_regrown W d os))
end
variable{s:ByteArray}{g:Nat}
theorem aF.WS {w:World}(h:w.heap.size=g)(t:TypeId)(cs:Array Value):aF (w.alloc (.cells cs t)) g t cs:=by subst h;exact aF.new w t cs
structure HC where
 k:Int
 mi:Int
 GA:Option Addr
 Gn:Nat
 Gc:Nat
 gs:List Int
 mt:Int
 key:ByteArray
 body:ByteArray
 i:Int
 tm:Int
 MA:Option Addr
 Mn:Nat
 Mc:Nat
 mem:List Int
 tp:Int
 who:Int
 n:Int
def HC.cmd (D:HC):Cp.dD:=⟨D.k,D.mi,D.gs,D.mt,D.key.data.toList,D.body.data.toList,D.i,D.tm,D.mem,D.tp,D.who,D.n⟩
def i64 (n:Int):Prop:=-9223372036854775808≤n∧n≤9223372036854775807
structure bK (w:World)(B:Nat)(D:HC):Prop where
 rg:Reads w B 1 D.GA D.Gn (ci D.gs)
 rm:Reads w B 1 D.MA D.Mn (ci D.mem)
 gc:D.Gn≤D.Gc
 gm:D.Gc≤9223372036854775807
 mc:D.Mn≤D.Mc
 mm:D.Mc≤9223372036854775807
 kk:0≤D.k∧D.k≤255
 bk:D.key.size≤9223372036854775807
 bb:D.body.size≤9223372036854775807
 ig:∀x∈D.gs,i64 x
 im:∀x∈D.mem,i64 x
 a1:i64 D.mi
 a2:i64 D.mt
 a3:i64 D.i
 a4:i64 D.tm
 a5:i64 D.tp
 a6:i64 D.who
 a7:i64 D.n
section
variable{w w':World}{B B':Nat}{D:HC}
theorem bK.keep (h:bK w B D)(hk:∀q:Addr,q.block<B→w'.cell? q=w.cell? q):bK w' B D:=
 { h with rg:=h.rg.keep hk,rm:=h.rm.keep hk }
theorem bK.more (h:bK w B D)(hB:B≤B'):bK w B' D:={ h with rg:=h.rg.more hB,rm:=h.rm.more hB }
theorem bK.below (h:bK w B D)(hb:Below B w w'):bK w' B D:=h.keep fun _ hq=>hb.cell hq
theorem bK.up (h:bK w w D)(hb:Below w w w'):bK w' w' D:=(h.below hb).more hb.size
theorem bK.alloc (h:bK w w D)(o:Obj):bK (w.alloc o) (w.alloc o).heap.size D:=h.up ((aaO _ w).alloc (Zh _) o)
theorem bK.drewN (h:bK w B D)(q:Nat):bK (w.drewN q) B D:=h.keep fun _ _=>rfl
theorem bK.V7 (h:bK w B D):D.gs.length=D.Gn:=h.rg.jw
theorem bK.lg (h:bK w B D):D.Gn≤9223372036854775807:=Zt h.gc h.gm
theorem bK.lm (h:bK w B D):D.Mn≤9223372036854775807:=Zt h.mc h.mm
end
def aJ (k:Int):HC:=⟨k,0,none,0,0,[],0,⟨#[]⟩,⟨#[]⟩,0,0,none,0,0,[],0,0,0⟩
theorem LB (w:World)(B:Nat){k:Int}(h:0≤k∧k≤255):bK w B (aJ k):=
 ⟨Reads.none_,Reads.none_,Zh _,Zq _,Zh _,Zq _,h,Zq _,Zq _,fun x hx=>(by simp[aJ] at hx),fun x hx=>(by simp[aJ] at hx),
  ⟨by simp[aJ],by simp[aJ]⟩,⟨by simp[aJ],by simp[aJ]⟩,⟨by simp[aJ],by simp[aJ]⟩,⟨by simp[aJ],by simp[aJ]⟩,⟨by simp[aJ],by simp[aJ]⟩,⟨by simp[aJ],by simp[aJ]⟩,⟨by simp[aJ],by simp[aJ]⟩⟩
namespace Cp
def lq (c d:dD):Bool:=decide (c.mi=d.mi)&&(decide (c.gs=d.gs)&&(decide (c.mt=d.mt)&&(decide (c.key=d.key)&&decide (c.body=d.body))))
def mO (c d:dD):Bool:=decide (c.k=d.k)&&(lq c d&&(decide (c.i=d.i)&&(decide (c.tm=d.tm)&&(decide (c.mem=d.mem)&&(decide (c.tp=d.tp)&&(decide (c.who=d.who)&&decide (c.n=d.n)))))))
theorem mZ {c d:dD}(h:lq c d=true):c.mi=d.mi∧c.gs=d.gs∧c.mt=d.mt∧c.key=d.key∧c.body=d.body:=by
 simp only[lq,Zr,Zx] at h;exact h
theorem jX {c d:dD}(h:mO c d=true):c=d:=by
 simp only[mO,Zr,Zx] at h;obtain⟨h1,h2,h3,h4,h5,h6,h7,h8⟩:=h;obtain⟨g1,g2,g3,g4,g5⟩:=mZ h2;cases c;cases d;simp only at h1 h3 h4 h5 h6 h7 h8 g1 g2 g3 g4 g5;simp only[h1,h3,h4,h5,h6,h7,h8,g1,g2,g3,g4,g5]
theorem Ic (c:dD):lq c c=true:=by simp[lq]
def gJ (c:dD):dD:=Bb (aK c.k) c (fP c.k)
def sI (c:dD):Bool:=
 if c.k=0 then true else if c.k=1 then lS c else if c.k=2 then Wp.mY c.i&&mE 1 1073741824 c.tm else if c.k=3 then Qm.check c.mem==0
 else if c.k=4 then(Wp.mY c.i&&(mE 0 3 c.tp&&mE 0 1073741824 c.n))&&mE 0 7 c.who else if c.k=5∨c.k=6 then Wp.mY c.i&&(mE 0 3 c.tp&&mE 0 1073741824 c.n) else false
end Cp
theorem data_inj {t:ByteArray}(h:s.data.toList=t.data.toList):s=t:=by rw[←LJ s,←LJ t,h]
variable{b2:Nat}{t:TypeId}
theorem iF {w w':World}{base n size:Nat}{e:TypeId}(h:w.ownsRow base e size v n xs)(hk:∀g,v.ownBlock=some g→w'.heap[g]?=w.heap[g]?):w'.ownsRow base e size v n xs:=by
 refine⟨h.1,?_⟩
 rcases h.2 with h2|⟨g,cap,cur,h2,h3,h4,h5⟩
 ·exact Or.inl h2
 ·exact Or.inr ⟨g,cap,cur,h2,h3,(hk g (by rw[h2];rfl)).trans h4,h5⟩
theorem nD {a b:World}{base n size:Nat}{e:TypeId}{cs:Array Value}(h:a.ownsRow base e size v n xs)(k:a.grownBy b (some g))(hb:aF a g t cs)(hne:e≠t):b.ownsRow base e size v n xs:=by
 refine iF h fun g' hg=>k.block g' (h.lt g' hg).2 ?_;intro e;injection e with e
 subst e;exact aQ h hb hne hg
theorem uE.blk {B gr:Nat}{l:List UInt8}{bad:Bool}{w:World}(h:uE B gr l bad w):∃cs,aF w gr 256 cs:=by
 obtain⟨A,n,c,h1,_⟩:=h;exact⟨_,h1⟩
theorem xX (B gr:Nat)(l:List UInt8)(bad:Bool)(w:World)(h:uE B gr l bad w)(t l':List UInt8)(bad':Bool)(hx:Wp.gP (l,bad)=(t,(l',bad'))) :
  Calls prog 204 #[gr] w fun e w'=>e=.returned (.string (S t))∧uE B gr l' bad' w'∧w.grownBy w' (some gr):=by
 have H:=L_ h;obtain⟨A,n,c,h1,h2,h3,h4,h5,h6⟩:=h;have c0:=h1.cell 0;have HG:=L_ (lX A n c B l w h2 h3 (by omega));clear h1 h2 h3 h4 h6;unfold Wp.gP at hx;cases hg:Nm.bE l with
 |none=>
  rw[hg] at hx HG;simp only[ZV] at hx;obtain⟨rfl,rfl,rfl⟩:=hx;have HT:=L_ (kQ B gr l bad 0 8 w H (Zq _) true (by simp));clear hg
  go_enter func204,ntmps204
  go_wp2_with fail;refine HG.mono ?_;rintro e w' ⟨rfl,rfl⟩;simp only[pF];go_wp2_with fail;refine HT.mono ?_;rintro e w2 ⟨rfl,hs,hgr⟩;have HS2:=L_ hs;have HGR:=L_ hgr;clear hs hgr c0;go_wp2;go_ret;exact⟨rfl,HS2,HGR⟩
 |some p=>
  obtain⟨v,k⟩:=p;rw[hg] at hx HG;simp only[ZV] at hx;obtain⟨rfl,rfl,rfl⟩:=hx;have hkl:=(Nm.bG hg).2.2.1;have HT:=L_ (kQ B gr l bad k 0 w H hkl bad (by simp));obtain⟨U,hU⟩:∃U,S v=U:=⟨_,rfl⟩;rw[show pF (some (v,k))=.tuple #[.string (S v),(k:Int),.int .i64 0] from rfl,hU] at HG;rw[hU];clear hg hU
  go_enter func204,ntmps204
  go_wp2_with fail;refine HG.mono ?_;rintro e w' ⟨rfl,rfl⟩;go_wp2_with fail;refine HT.mono ?_;rintro e w2 ⟨rfl,hs,hgr⟩;have HS2:=L_ hs;have HGR:=L_ hgr;clear hs hgr c0;go_wp2;go_ret;exact⟨rfl,HS2,HGR⟩
theorem zl (B gr most:Nat)(l:List UInt8)(bad:Bool)(w:World)(h:uE B gr l bad w)(hm:most≤4096)(r:List Int)(l':List UInt8)(bad':Bool)(hx:Cp.iL most (l,bad)=(r,(l',bad'))) :
  Calls prog 203 #[gr,(most:Int)] w fun e w'=>(∃A c,e=.returned (.slice A r.length c)∧w'.ownsRow w 3 1 (.slice A r.length c) r.length (ci r))∧uE B gr l' bad' w'∧w.grownBy w' (some gr):=by
 have H:=L_ h;obtain⟨A,n,c,h1,h2,h3,h4,h5,h6⟩:=h;have c0:=h1.cell 0;have HG:=L_ (DJ A n c l most w (h2.more (by have:=h1.lt;omega)) h3 (by omega) hm);clear h1 h2 h3 h4 h6;unfold Cp.iL at hx;cases hg:Nm.fD l most with
 |none=>
  rw[hg] at hx HG;simp only[ZV] at hx;obtain⟨rfl,rfl,rfl⟩:=hx;clear hg
  go_enter func203,ntmps203
  go_wp2_with fail;refine HG.mono ?_;rintro e w1 ⟨rfl,hb⟩;have HB:=L_ hb;have HT:=L_ (kQ B gr l bad 0 8 w1 (H.below hb) (Zq _) true (by simp));clear hb;go_wp2_with fail;refine HT.mono ?_;rintro e w2 ⟨rfl,hs,hgr⟩;have HS2:=L_ hs;have HGR:=L_ hgr;clear hs hgr c0;go_wp2;go_ret;exact⟨⟨none,0,rfl,aaU _ _ _ _⟩,HS2,wh HB HGR⟩
 |some p=>
  obtain⟨v,k⟩:=p;rw[hg] at hx HG;simp only[ZV] at hx;obtain⟨rfl,rfl,rfl⟩:=hx;have hkl:=(Nm.nV hg).2.2.2.1;clear hg
  go_enter func203,ntmps203
  go_wp2_with fail;refine HG.mono ?_;rintro e w1 ⟨A1,c1,rfl,ho,hb⟩;have HB:=L_ hb;have HO:=L_ ho;have H1:=L_ (H.below hb);have HT:=L_ (kQ B gr l bad k 0 w1 H1 hkl bad (by simp));clear hb ho;go_wp2_with fail;refine HT.mono ?_;rintro e w2 ⟨rfl,hs,hgr⟩;have HS2:=L_ hs;have HGR:=L_ hgr;clear hs hgr c0;go_wp2;go_ret;obtain⟨cs,hbk⟩:=H1.blk;exact⟨⟨A1,c1,rfl,nD HO HGR hbk (by decide)⟩,HS2,wh HB HGR⟩
structure fK (w:World)(base:Nat)(D:HC):Prop where
 og:w.ownsRow base 3 1 (.slice D.GA D.Gn D.Gc) D.Gn (ci D.gs)
 om:w.ownsRow base 3 1 (.slice D.MA D.Mn D.Mc) D.Mn (ci D.mem)
 kk:0≤D.k∧D.k≤255
 bk:D.key.size≤4096
 bb:D.body.size≤4096
 ig:∀x∈D.gs,Nm.jO x=true
 im:∀x∈D.mem,Nm.jO x=true
 a1:Nm.jO D.mi=true
 a2:Nm.jO D.mt=true
 a3:Nm.jO D.i=true
 a4:Nm.jO D.tm=true
 a5:Nm.jO D.tp=true
 a6:Nm.jO D.who=true
 a7:Nm.jO D.n=true
theorem nM {x:Int}(h:Nm.jO x=true):i64 x:=by have:=Nm.ku h;exact⟨by omega,by omega⟩
section
variable{w w':World}{base:Nat}{D:HC}
theorem fK.at_ (h:fK w base D):bK w w D:=by
 have c1:=kG h.og;have c2:=kG h.om;unfold maxLen at c1 c2;exact⟨Reads.bO h.og,Reads.bO h.om,c1.1,c1.2,c2.1,c2.2,h.kk,by have:=h.bk;omega,by have:=h.bb;omega,fun x hx=>nM (h.ig x hx),fun x hx=>nM (h.im x hx),nM h.a1,nM h.a2,nM h.a3,nM h.a4,nM h.a5,nM h.a6,nM h.a7⟩
theorem fK.below (h:fK w base D)(hb:Below w w w'):fK w' base D:={ h with og:=jB h.og hb,om:=jB h.om hb }
theorem fK.mono (h:fK w base D)(hb:b2≤base):fK w b2 D:={ h with og:=aG h.og hb,om:=aG h.om hb }
end
theorem aP:Nm.jO 0=true:=by decide
theorem yS (w:World)(base:Nat){k:Int}(h:0≤k∧k≤255):fK w base (aJ k):=
 ⟨aaU _ _ _ _,aaU _ _ _ _,h,Zq _,Zq _,fun x hx=>(by simp[aJ] at hx),fun x hx=>(by simp[aJ] at hx),aP,aP,aP,aP,aP,aP,aP⟩
section
variable{base B gr gc:Nat}{l l':List UInt8}{bad bad':Bool}{D:HC}{w0 w w1:World}
end
variable{ops:Array Oper}{Q:Exit→Act→World→Prop}{o:Oper}
class au (α:Type) where
 bl:α→List (Nat×TypeId)
 aA:World→Nat→Nat→α→Prop
 Own:World→Nat→Nat→α→Prop
 bA:∀{w w':World} {B N:Nat} {x:α},aA w B N x→(∀p:Addr,p.block<B→w'.cell? p=w.cell? p)→aA w' B N x
 aS:∀{w:World} {B B' N N':Nat} {x:α},aA w B N x→B≤B'→N≤N'→aA w B' N' x
 aN:∀{w w':World} {b N:Nat} {x:α},Own w b N x→(∀g t,(g,t)∈bl x→w'.heap[g]?=w.heap[g]?)→Own w' b N x
 aG:∀{w:World} {b b' N N':Nat} {x:α},Own w b N x→b'≤b→N≤N'→Own w b' N' x
 dK:∀{w:World} {b N:Nat} {x:α},Own w b N x→∀g t,(g,t)∈bl x→b≤g∧∃cur,w.heap[g]?=some (.cells cur t (0,0))
 dP:∀{w:World} {b N:Nat} {x:α},Own w b N x→aA w w N x
class aj (α:Type) extends au α where
 ty:TypeId
 sz:Nat
 cs:α→List Value
 len:∀x,(cs x).length=sz
 pos:0<sz
 one:∀x,∀u∈cs x,u.oneCell'=true
 sty:TypeId
 und:prog.underlying sty=some (.slice ty)
 zero:Value
 bytes:Nat
 info:(prog.info? ty).map (fun i=>(i.zero,i.size,i.bytes))=some (some zero,sz,bytes)
 zc:zero.cells.size=sz
 Gl:bytes≤1000
structure Sl (α:Type) where
 A:Option Addr
 c:Nat
 l:List α
instance {α:Type}:CoeOut (Sl α) Value:=⟨fun s=>.slice s.A s.l.length s.c⟩
namespace Sl
variable{α:Type}[aj α]
def val (s:Sl α):Value:=s
def row (s:Sl α):List Value:=s.l.flatMap aj.cs
def bl (s:Sl α):List (Nat×TypeId):=(match s.A with|some a=>[(a.block,aj.ty α)]|none=>[])++s.l.flatMap au.bl
def aA (w:World)(B N:Nat)(s:Sl α):Prop:=Reads w B (aj.sz α) s.A s.l.length s.row∧s.l.length≤s.c∧s.c≤maxLen∧s.l.length≤N∧∀x∈s.l,au.aA w B N x
def Row (w:World)(b:Nat)(s:Sl α):Prop:=w.ownsRow b (aj.ty α) (aj.sz α) s s.l.length s.row
def Own (w:World)(b N:Nat)(s:Sl α):Prop:=s.Row w b∧s.l.length≤N∧∀x∈s.l,au.Own w b N x
def nil:Sl α:=⟨none,0,[]⟩
theorem jM (s:Sl α):s.row.length=s.l.length*aj.sz α:=by
 unfold row
 induction s.l with
 |nil=>simp
 |cons a r ih=>rw[ZQ,Zn,ih,aj.len,ZI,Nat.succ_mul,Nat.add_comm]
theorem row_one (s:Sl α):∀u∈s.row,u.oneCell'=true:=by
 intro u hu;simp only[row,aau] at hu;obtain⟨x,_,hu⟩:=hu;exact aj.one x u hu
variable{w w':World}{B B' b b' N N':Nat}{s:Sl α}
theorem aA.keep (h:s.aA w B N)(hk:∀p:Addr,p.block<B→w'.cell? p=w.cell? p):s.aA w' B N:=⟨h.1.keep hk,h.2.1,h.2.2.1,h.2.2.2.1,fun x hx=>au.bA (h.2.2.2.2 x hx) hk⟩
theorem aA.more (h:s.aA w B N)(hB:B≤B')(hN:N≤N'):s.aA w B' N':=⟨h.1.more hB,h.2.1,h.2.2.1,Zt h.2.2.2.1 hN,fun x hx=>au.aS (h.2.2.2.2 x hx) hB hN⟩
theorem aA.below (h:s.aA w B N)(hb:Below B w w'):s.aA w' B N:=h.keep fun _ hp=>hb.cell hp
theorem aA.up (h:s.aA w w N)(hb:Below w w w'):s.aA w' w' N:=(h.below hb).more hb.size (Zh _)
theorem Row.keep (h:s.Row w b)(hk:∀g t,(g,t)∈s.bl→w'.heap[g]?=w.heap[g]?):s.Row w' b:=by
 refine iF h fun g hg=>?_;cases hA:s.A with
 |none=>rw[hA] at hg;cases hg
 |some a=>
  rw[hA] at hg;simp only[Value.ownBlock,ZH] at hg;subst hg;exact hk _ (aj.ty α) (ZJ _ (by rw[hA];simp))
theorem Own.keep (h:s.Own w b N)(hk:∀g t,(g,t)∈s.bl→w'.heap[g]?=w.heap[g]?):s.Own w' b N:=
 ⟨h.1.keep hk,h.2.1,fun x hx=>au.aN (h.2.2 x hx) fun g t hgt=>hk g t (ZL _ (aau.2 ⟨x,hx,hgt⟩))⟩
theorem Own.mono (h:s.Own w b N)(hb:b'≤b)(hN:N≤N'):s.Own w b' N':=⟨aG h.1 hb,Zt h.2.1 hN,fun x hx=>au.aG (h.2.2 x hx) hb hN⟩
theorem Row.iD (h:s.Row w b){a:Addr}(hA:s.A=some a):b≤a.block∧∃cur,w.heap[a.block]?=some (.cells cur (aj.ty α) (0,0)):=by
 rcases h.2 with ⟨hv,_⟩|⟨g',cap,cur,hv,hb,hh,_⟩
 ·injection hv with hv _ _
  rw[hA] at hv;cases hv
 ·injection hv with hv _ _
  rw[hA] at hv;injection hv with hv
  subst hv;exact⟨hb,cur,hh⟩
theorem Own.iD (h:s.Own w b N)(g:Nat)(t:TypeId)(hg:(g,t)∈s.bl):b≤g∧∃cur,w.heap[g]?=some (.cells cur t (0,0)):=by
 rcases Zm.1 hg with hg|hg
 ·cases hA:s.A with
  |none=>rw[hA] at hg;cases hg
  |some a=>
   rw[hA] at hg;simp only[Zu,ZF,or_false,ZV] at hg;obtain⟨rfl,rfl⟩:=hg;exact h.1.iD hA
 ·obtain⟨x,hx,hg⟩:=aau.1 hg;exact au.dK (h.2.2 x hx) g t hg
theorem Row.caps (h:s.Row w b):s.l.length≤s.c∧s.c≤maxLen:=by
 rcases h.2 with ⟨hv,hn⟩|⟨g',cap,cur,hv,hb,hh,h1,h2,_⟩
 ·injection hv with _ _ hc
  exact⟨by omega,by rw[hc];exact Zq _⟩
 ·injection hv with _ _ hc
  omega
theorem Own.lie (h:s.Own w b N):s.aA w w N:=⟨Reads.bO h.1,h.1.caps.1,h.1.caps.2,h.2.1,fun x hx=>au.dP (h.2.2 x hx)⟩
theorem Row.below (h:s.Row w b)(hb:Below w w w'):s.Row w' b:=jB h hb
theorem Own.apart (h:s.Own w b N){cs:Array Value}(hb:aF w g t cs)(ht:∀g',(g',t) ∉ s.bl):∀t',(g,t') ∉ s.bl:=by
 intro t' hg;obtain⟨_,cur,hh⟩:=h.iD g t' hg;unfold aF at hb;rw[hb] at hh;injection hh with hh
 injection hh with _ hh
 subst hh;exact ht g hg
theorem xu:(nil:Sl α).Row w b:=aaU _ _ _ _
theorem eY:(nil:Sl α).Own w b N:=⟨xu,Zq _,fun x hx=>by cases hx⟩
theorem dh:(nil:Sl α).aA w B N:=⟨Reads.none_,Zh _,Zq _,Zq _,fun x hx=>by cases hx⟩
theorem uo {x:α}:∀{l:List α} {k:Nat},l[k]?=some x→i<aj.sz α→(l.flatMap aj.cs)[k*aj.sz α+i]?=(aj.cs x)[i]?
 |[],k,h,_=>by simp at h
 |a::l,0,h,hi=>by
  simp only[List.getElem?_cons_zero,ZH] at h;subst h;rw[ZQ,Nat.zero_mul,aah,Z0 (by rw[aj.len];exact hi)]
 |a::l,k+1,h,hi=>by
  rw[List.getElem?_cons_succ] at h;rw[ZQ,Z8 (by rw[aj.len,Nat.succ_mul];omega),aj.len,show(k+1)*aj.sz α+i - aj.sz α=k*aj.sz α+i by rw[Nat.succ_mul];omega];exact uo (k:=k) h hi
theorem aA.get (h:s.aA w B N)(hk:k<s.l.length):∃(bb off:Nat) (x:α),s.A=some ⟨bb,off,none⟩∧bb<B∧s.l[k]?=some x∧(∀i u,(aj.cs x)[i]?=some u→w.cell? ⟨bb,off+k*aj.sz α+i,none⟩=some u)∧au.aA w B N x:=by
 have hp:0<aj.sz α:=aj.pos;obtain⟨ad,hA,hb,hc⟩:=h.1.2 (by omega);have hg:s.l[k]?=some (s.l[k]'hk):=Zl hk;have h0:∃x,w.cell? (ad.add 0)=some x:=⟨_,hc 0 _ (Zl (by rw[jM];exact Nat.mul_pos (by omega) hp))⟩;obtain⟨x,h0⟩:=h0;obtain⟨bb,off,rfl,_⟩:=qG h0;refine⟨bb,off,s.l[k]'hk,hA,hb,hg,fun i u hu=>?_,h.2.2.2.2 _ (List.getElem_mem hk)⟩;have hi:i<aj.sz α:=by have:=(Zo.1 hu).1;rwa[aj.len] at this
 have:=hc (k*aj.sz α+i) u (by rw[row,uo (k:=k) hg hi];exact hu);have e:=LQ this;rwa[show off+(k*aj.sz α+i)=off+k*aj.sz α+i by omega] at e
end Sl
abbrev iE {α:Type}(t:TypeId)(z:Nat)(cs:α→List Value)(len:∀x,(cs x).length=z)(pos:0<z)(one:∀x,∀u∈cs x,u.oneCell'=true)(sty:TypeId)(und:prog.underlying sty=some (.slice t))(zero:Value)(bytes:Nat)
  (info:(prog.info? t).map (fun i=>(i.zero,i.size,i.bytes))=some (some zero,z,bytes)) (zc:zero.cells.size=z) (Gl:bytes≤1000):aj α:=
 { ty:=t,sz:=z,cs:=cs,len:=len,pos:=pos,one:=one,bl:=fun _=>[],aA:=fun _ _ _ _=>True,Own:=fun _ _ _ _=>True,bA:=fun h _=>h,aS:=fun h _ _=>h,aN:=fun h _=>h,aG:=fun h _ _=>h,dK:=fun _ g t h=>(by cases h),dP:=fun h=>h,sty:=sty,und:=und,zero:=zero,bytes:=bytes,info:=info,zc:=zc,Gl:=Gl }
instance:aj Int:=iE 3 1 (fun n=>[.int .i64 n]) (fun _=>rfl) (by decide) (fun x u hu=>by rw[Zp.1 hu];rfl) 33 underlying33 (.int .i64 0) 8 (by kernel_rfl) rfl (by decide)
instance:aj ByteArray:=iE 9 1 (fun s=>[.string s]) (fun _=>rfl) (by decide) (fun x u hu=>by rw[Zp.1 hu];rfl) 54 underlying54 (.string ⟨#[]⟩) 16 (by kernel_rfl) rfl (by decide)
instance:aj UInt8:=iE 5 1 (fun b=>[.int .u8 (b.toNat:Int)]) (fun _=>rfl) (by decide) (fun x u hu=>by rw[Zp.1 hu];rfl) 46 underlying46 (.int .u8 0) 1 (by kernel_rfl) rfl (by decide)
abbrev TH {α:Type}[aj α](T sty:TypeId)(und:prog.underlying sty=some (.slice T))(info:(prog.info? T).map (fun i=>(i.zero,i.size,i.bytes))=some (some (.slice none 0 0),1,24)):aj (Sl α) where
 ty:=T
 sz:=1
 cs:=fun s=>[s.val]
 len:=fun _=>rfl
 pos:=by decide
 one:=fun x u hu=>by rw[Zp.1 hu];rfl
 bl:=Sl.bl
 aA:=Sl.aA
 Own:=Sl.Own
 bA:=Sl.aA.keep
 aS:=Sl.aA.more
 aN:=Sl.Own.keep
 aG:=Sl.Own.mono
 dK:=Sl.Own.iD
 dP:=Sl.Own.lie
 sty:=sty
 und:=und
 zero:=()
 bytes:=24
 info:=info
 zc:=rfl
 Gl:=by decide
instance:aj (Sl ByteArray):=TH 54 133 underlying133 (by kernel_rfl)
theorem Lv {w:World}{n size:Nat}{e:TypeId}(h:w.ownsRow base e size v n xs):∃A c,v=.slice A n c:=by
 rcases h.2 with ⟨rfl,rfl⟩|⟨g,cap,cur,rfl,_⟩
 ·exact⟨_,_,rfl⟩
 ·exact⟨_,_,rfl⟩
namespace Sl
variable{α:Type}[aj α]
theorem app {rest:List Oper}{w:World}(hgd:o.guard=none)(sl x:Operand)(T:TypeId)(hT:T=aj.sty α)
  (ho:o.op=.call { callee:=.builtin .append,args:=#[sl,x],argTypes:=#[T,T] }) (b:Nat) (s:Sl α) (hs:a.eval sl=s) (hr:s.Row w b) (B:Nat) (y:Sl α) (hx:a.eval x=y) (hy:Reads w B (aj.sz α) y.A y.l.length y.row)
  (hn:s.l.length+y.l.length≤10000000000) (hb:b≤w.heap.size)
  (h:∀(s':Sl α) w',s'.l=s.l++y.l→s'.Row w' b→dX w w' s s'→wpList prog ops Q rest (a.put o.dst s') w'):wpList prog ops Q (o::rest) a w:=by
 subst hT;obtain⟨i0,hi0,hz0,hz1,hz2⟩:=info_parts (aj.info (α:=α));have hby:=aj.Gl (α:=α);have hbb:(s.l.length+y.l.length)*aj.bytes α≤140737488355328:=Zt (Nat.mul_le_mul hn hby) (by decide);refine bB _ hgd sl x (aj.sty α) ho b (aj.ty α) i0 (aj.zero α) (aj.sz α) (aj.bytes α) aj.und hi0 hz0 hz1 hz2 aj.zc aj.pos _ _ _ hs hr B y.A y.l.length y.c y.row hx hy y.row_one (by simp only[maxLen];omega) hbb hb ?_;intro v' w' h1 h2 h3;obtain⟨A2,c2,rfl⟩:=Lv h1;have h4:=h ⟨A2,c2,s.l++y.l⟩ w' rfl (by unfold Row;simp only[row,List.flatMap_append,Zn] at *;exact h1) ⟨h2,?_⟩
 ·simpa using h4
 ·simp only[Zn]
  rcases h3 with h3|h3
  ·exact Or.inl h3
  ·exact Or.inr ⟨_,h3,Zh _⟩
end Sl
theorem fF (s:Sl Int):s.row=ci s.l:=by
 unfold Sl.row ci
 induction s.l with
 |nil=>rfl
 |cons a r ih=>rw[ZQ,ih];rfl
theorem rA (s:Sl ByteArray):s.row=ct s.l:=by
 unfold Sl.row ct
 induction s.l with
 |nil=>rfl
 |cons a r ih=>rw[ZQ,ih];rfl
structure gT where
 r:Sl Int
 m:Sl Int
instance:Coe gT (List Value):=⟨fun x=>[x.r,x.m]⟩
instance:Coe gT (Array Value):=⟨fun x=>(x:List Value).toArray⟩
instance:Coe gT Value:=⟨fun x=>.agg (x:List Value).toArray⟩
instance:au gT where
 bl:=fun x=>(x.r.bl)++(x.m.bl)
 aA:=fun w B N x=>x.r.aA w B N∧x.m.aA w B N
 Own:=fun w b N x=>x.r.Own w b N∧x.m.Own w b N
 bA:=fun h hk=>⟨Sl.aA.keep (h.1) hk,Sl.aA.keep (h.2) hk⟩
 aS:=fun h hB hN=>⟨Sl.aA.more (h.1) hB hN,Sl.aA.more (h.2) hB hN⟩
 aN:=fun h hk=>⟨Sl.Own.keep (h.1) (fun g t hg=>hk g t (by simp[Zm,hg])),Sl.Own.keep (h.2) (fun g t hg=>hk g t (by simp[Zm,hg]))⟩
 aG:=fun h hb hN=>⟨Sl.Own.mono (h.1) hb hN,Sl.Own.mono (h.2) hb hN⟩
 dK:=fun h g t hg=>by
  simp only[Zm] at hg
  rcases hg with hg|hg
  ·exact Sl.Own.iD (h.1) g t hg
  ·exact Sl.Own.iD (h.2) g t hg
 dP:=fun h=>⟨Sl.Own.lie (h.1),Sl.Own.lie (h.2)⟩
instance:aj gT where
 ty:=53
 sz:=2
 cs:=fun x:gT=>[.slice x.r.A x.r.l.length x.r.c,.slice x.m.A x.m.l.length x.m.c]
 len:=fun _=>rfl
 pos:=by decide
 one:=fun(x:gT) u hu=>by simp only[Zu,ZF,or_false] at hu;rcases hu with rfl|rfl<;>rfl
 sty:=22
 und:=underlying22
 zero:=.agg #[.slice none 0 0,.slice none 0 0]
 bytes:=48
 info:=by kernel_rfl
 zc:=rfl
 Gl:=by decide
structure lT where
 g:Int
 s:Int
 p:Int
 b:Int
 v:ByteArray
instance:Coe lT (List Value):=⟨fun x=>[x.g,x.s,x.p,x.b,x.v]⟩
instance:Coe lT (Array Value):=⟨fun x=>(x:List Value).toArray⟩
instance:Coe lT Value:=⟨fun x=>.agg (x:List Value).toArray⟩
instance:aj lT:=iE 211 5 (fun x:lT=>[.int .i64 x.g,.int .i64 x.s,.int .i64 x.p,.int .i64 x.b,.string x.v]) (fun _=>rfl) (by decide) (fun(x:lT) u hu=>by simp only[Zu,ZF,or_false] at hu;rcases hu with rfl|rfl|rfl|rfl|rfl<;>rfl) 55 underlying55 (.agg #[.int .i64 0,.int .i64 0,.int .i64 0,.int .i64 0,.string ⟨#[]⟩]) 48 (by kernel_rfl) rfl (by decide)
structure rF where
 n:Int
 b:Int
 v:ByteArray
instance:Coe rF (List Value):=⟨fun x=>[x.n,x.b,x.v]⟩
instance:Coe rF (Array Value):=⟨fun x=>(x:List Value).toArray⟩
instance:Coe rF Value:=⟨fun x=>.agg (x:List Value).toArray⟩
instance:aj rF:=iE 399 3 (fun x:rF=>[.int .i64 x.n,.int .i64 x.b,.string x.v]) (fun _=>rfl) (by decide) (fun(x:rF) u hu=>by simp only[Zu,ZF,or_false] at hu;rcases hu with rfl|rfl|rfl<;>rfl) 56 underlying56 (.agg #[.int .i64 0,.int .i64 0,.string ⟨#[]⟩]) 32 (by kernel_rfl) rfl (by decide)
structure Try where
 ph:Int
 b:Int
 mem:Sl Int
 wi:ByteArray
 va:ByteArray
 pr:Sl rF
 ac:Sl Int
instance:Coe Try (List Value):=⟨fun x=>[.int .u8 x.ph,x.b,x.mem,x.wi,x.va,x.pr,x.ac]⟩
instance:Coe Try (Array Value):=⟨fun x=>(x:List Value).toArray⟩
instance:Coe Try Value:=⟨fun x=>.agg (x:List Value).toArray⟩
instance:au Try where
 bl:=fun x=>(x.mem.bl)++(x.pr.bl)++(x.ac.bl)
 aA:=fun w B N x=>x.mem.aA w B N∧x.pr.aA w B N∧x.ac.aA w B N
 Own:=fun w b N x=>x.mem.Own w b N∧x.pr.Own w b N∧x.ac.Own w b N
 bA:=fun h hk=>⟨Sl.aA.keep (h.1) hk,Sl.aA.keep (h.2.1) hk,Sl.aA.keep (h.2.2) hk⟩
 aS:=fun h hB hN=>⟨Sl.aA.more (h.1) hB hN,Sl.aA.more (h.2.1) hB hN,Sl.aA.more (h.2.2) hB hN⟩
 aN:=fun h hk=>⟨Sl.Own.keep (h.1) (fun g t hg=>hk g t (by simp[Zm,hg])),Sl.Own.keep (h.2.1) (fun g t hg=>hk g t (by simp[Zm,hg])),Sl.Own.keep (h.2.2) (fun g t hg=>hk g t (by simp[Zm,hg]))⟩
 aG:=fun h hb hN=>⟨Sl.Own.mono (h.1) hb hN,Sl.Own.mono (h.2.1) hb hN,Sl.Own.mono (h.2.2) hb hN⟩
 dK:=fun h g t hg=>by
  simp only[Zm] at hg
  rcases hg with (hg|hg)|hg
  ·exact Sl.Own.iD (h.1) g t hg
  ·exact Sl.Own.iD (h.2.1) g t hg
  ·exact Sl.Own.iD (h.2.2) g t hg
 dP:=fun h=>⟨Sl.Own.lie (h.1),Sl.Own.lie (h.2.1),Sl.Own.lie (h.2.2)⟩
structure dZ where
 me:Int
 num:Int
 g:gT
 log:Sl ByteArray
 vs:Sl lT
 t:Try
 wi:Sl ByteArray
 hd:Int
instance:Coe dZ (List Value):=⟨fun x=>[x.me,x.num,x.g.r,x.g.m,x.log,x.vs,.int .u8 x.t.ph,x.t.b,x.t.mem,x.t.wi,x.t.va,x.t.pr,x.t.ac,x.wi,x.hd]⟩
instance:Coe dZ (Array Value):=⟨fun x=>(x:List Value).toArray⟩
instance:Coe dZ Value:=⟨fun x=>.agg (x:List Value).toArray⟩
instance:au dZ where
 bl:=fun x=>(x.g.r.bl)++(x.g.m.bl)++(x.log.bl)++(x.vs.bl)++(x.t.mem.bl)++(x.t.pr.bl)++(x.t.ac.bl)++(x.wi.bl)
 aA:=fun w B N x=>x.g.r.aA w B N∧x.g.m.aA w B N∧x.log.aA w B N∧x.vs.aA w B N∧x.t.mem.aA w B N∧x.t.pr.aA w B N∧x.t.ac.aA w B N∧x.wi.aA w B N
 Own:=fun w b N x=>x.g.r.Own w b N∧x.g.m.Own w b N∧x.log.Own w b N∧x.vs.Own w b N∧x.t.mem.Own w b N∧x.t.pr.Own w b N∧x.t.ac.Own w b N∧x.wi.Own w b N
 bA:=fun h hk=>⟨Sl.aA.keep (h.1) hk,Sl.aA.keep (h.2.1) hk,Sl.aA.keep (h.2.2.1) hk,Sl.aA.keep (h.2.2.2.1) hk,Sl.aA.keep (h.2.2.2.2.1) hk,Sl.aA.keep (h.2.2.2.2.2.1) hk,Sl.aA.keep (h.2.2.2.2.2.2.1) hk,Sl.aA.keep (h.2.2.2.2.2.2.2) hk⟩
 aS:=fun h hB hN=>⟨Sl.aA.more (h.1) hB hN,Sl.aA.more (h.2.1) hB hN,Sl.aA.more (h.2.2.1) hB hN,Sl.aA.more (h.2.2.2.1) hB hN,Sl.aA.more (h.2.2.2.2.1) hB hN,Sl.aA.more (h.2.2.2.2.2.1) hB hN,Sl.aA.more (h.2.2.2.2.2.2.1) hB hN,Sl.aA.more (h.2.2.2.2.2.2.2) hB hN⟩
 aN:=fun h hk=>⟨Sl.Own.keep (h.1) (fun g t hg=>hk g t (by simp[Zm,hg])),Sl.Own.keep (h.2.1) (fun g t hg=>hk g t (by simp[Zm,hg])),Sl.Own.keep (h.2.2.1) (fun g t hg=>hk g t (by simp[Zm,hg])),Sl.Own.keep (h.2.2.2.1) (fun g t hg=>hk g t (by simp[Zm,hg])),Sl.Own.keep (h.2.2.2.2.1) (fun g t hg=>hk g t (by simp[Zm,hg])),Sl.Own.keep (h.2.2.2.2.2.1) (fun g t hg=>hk g t (by simp[Zm,hg])),Sl.Own.keep (h.2.2.2.2.2.2.1) (fun g t hg=>hk g t (by simp[Zm,hg])),Sl.Own.keep (h.2.2.2.2.2.2.2) (fun g t hg=>hk g t (by simp[Zm,hg]))⟩
 aG:=fun h hb hN=>⟨Sl.Own.mono (h.1) hb hN,Sl.Own.mono (h.2.1) hb hN,Sl.Own.mono (h.2.2.1) hb hN,Sl.Own.mono (h.2.2.2.1) hb hN,Sl.Own.mono (h.2.2.2.2.1) hb hN,Sl.Own.mono (h.2.2.2.2.2.1) hb hN,Sl.Own.mono (h.2.2.2.2.2.2.1) hb hN,Sl.Own.mono (h.2.2.2.2.2.2.2) hb hN⟩
 dK:=fun h g t hg=>by
  simp only[Zm] at hg
  rcases hg with ((((((hg|hg)|hg)|hg)|hg)|hg)|hg)|hg
  ·exact Sl.Own.iD (h.1) g t hg
  ·exact Sl.Own.iD (h.2.1) g t hg
  ·exact Sl.Own.iD (h.2.2.1) g t hg
  ·exact Sl.Own.iD (h.2.2.2.1) g t hg
  ·exact Sl.Own.iD (h.2.2.2.2.1) g t hg
  ·exact Sl.Own.iD (h.2.2.2.2.2.1) g t hg
  ·exact Sl.Own.iD (h.2.2.2.2.2.2.1) g t hg
  ·exact Sl.Own.iD (h.2.2.2.2.2.2.2) g t hg
 dP:=fun h=>⟨Sl.Own.lie (h.1),Sl.Own.lie (h.2.1),Sl.Own.lie (h.2.2.1),Sl.Own.lie (h.2.2.2.1),Sl.Own.lie (h.2.2.2.2.1),Sl.Own.lie (h.2.2.2.2.2.1),Sl.Own.lie (h.2.2.2.2.2.2.1),Sl.Own.lie (h.2.2.2.2.2.2.2)⟩
instance:aj dZ where
 ty:=60
 sz:=15
 cs:=fun x:dZ=>[.int .i64 x.me,.int .i64 x.num,.slice x.g.r.A x.g.r.l.length x.g.r.c,.slice x.g.m.A x.g.m.l.length x.g.m.c,.slice x.log.A x.log.l.length x.log.c,.slice x.vs.A x.vs.l.length x.vs.c,.int .u8 x.t.ph,.int .i64 x.t.b,.slice x.t.mem.A x.t.mem.l.length x.t.mem.c,.string x.t.wi,.string x.t.va,.slice x.t.pr.A x.t.pr.l.length x.t.pr.c,.slice x.t.ac.A x.t.ac.l.length x.t.ac.c,.slice x.wi.A x.wi.l.length x.wi.c,.int .i64 x.hd]
 len:=fun _=>rfl
 pos:=by decide
 one:=fun(x:dZ) u hu=>by simp only[Zu,ZF,or_false] at hu;rcases hu with rfl|rfl|rfl|rfl|rfl|rfl|rfl|rfl|rfl|rfl|rfl|rfl|rfl|rfl|rfl<;>rfl
 sty:=42
 und:=underlying42
 zero:=.agg #[.int .i64 0,.int .i64 0,.slice none 0 0,.slice none 0 0,.slice none 0 0,.slice none 0 0,.int .u8 0,.int .i64 0,.slice none 0 0,.string ⟨#[]⟩,.string ⟨#[]⟩,.slice none 0 0,.slice none 0 0,.slice none 0 0,.int .i64 0]
 bytes:=264
 info:=by kernel_rfl
 zc:=rfl
 Gl:=by decide
structure mM where
 i:Int
 g:Int
 t:Int
instance:Coe mM (List Value):=⟨fun x=>[x.i,x.g,x.t]⟩
instance:Coe mM (Array Value):=⟨fun x=>(x:List Value).toArray⟩
instance:Coe mM Value:=⟨fun x=>.agg (x:List Value).toArray⟩
instance:aj mM:=iE 296 3 (fun x:mM=>[.int .i64 x.i,.int .i64 x.g,.int .i64 x.t]) (fun _=>rfl) (by decide) (fun(x:mM) u hu=>by simp only[Zu,ZF,or_false] at hu;rcases hu with rfl|rfl|rfl<;>rfl) 43 underlying43 (.agg #[.int .i64 0,.int .i64 0,.int .i64 0]) 24 (by kernel_rfl) rfl (by decide)
structure zx where
 t:Int
 i:Int
instance:Coe zx (List Value):=⟨fun x=>[x.t,x.i]⟩
instance:Coe zx (Array Value):=⟨fun x=>(x:List Value).toArray⟩
instance:Coe zx Value:=⟨fun x=>.agg (x:List Value).toArray⟩
instance:aj zx:=iE 290 2 (fun x:zx=>[.int .i64 x.t,.int .i64 x.i]) (fun _=>rfl) (by decide) (fun(x:zx) u hu=>by simp only[Zu,ZF,or_false] at hu;rcases hu with rfl|rfl<;>rfl) 67 underlying67 (.agg #[.int .i64 0,.int .i64 0]) 16 (by kernel_rfl) rfl (by decide)
structure sU where
 i:Int
 g:Sl Int
 t:Int
 key:ByteArray
 body:ByteArray
instance:Coe sU (List Value):=⟨fun x=>[x.i,x.g,x.t,x.key,x.body]⟩
instance:Coe sU (Array Value):=⟨fun x=>(x:List Value).toArray⟩
instance:Coe sU Value:=⟨fun x=>.agg (x:List Value).toArray⟩
instance:au sU where
 bl:=fun x=>(x.g.bl)
 aA:=fun w B N x=>x.g.aA w B N
 Own:=fun w b N x=>x.g.Own w b N
 bA:=fun h hk=>Sl.aA.keep (h) hk
 aS:=fun h hB hN=>Sl.aA.more (h) hB hN
 aN:=fun h hk=>Sl.Own.keep (h) (fun g t hg=>hk g t (by simp[Zm,hg]))
 aG:=fun h hb hN=>Sl.Own.mono (h) hb hN
 dK:=fun h g t hg=>by
  exact Sl.Own.iD h g t hg
 dP:=fun h=>Sl.Own.lie (h)
instance:aj sU where
 ty:=35
 sz:=5
 cs:=fun x:sU=>[.int .i64 x.i,.slice x.g.A x.g.l.length x.g.c,.int .i64 x.t,.string x.key,.string x.body]
 len:=fun _=>rfl
 pos:=by decide
 one:=fun(x:sU) u hu=>by simp only[Zu,ZF,or_false] at hu;rcases hu with rfl|rfl|rfl|rfl|rfl<;>rfl
 sty:=163
 und:=underlying163
 zero:=.agg #[.int .i64 0,.slice none 0 0,.int .i64 0,.string ⟨#[]⟩,.string ⟨#[]⟩]
 bytes:=72
 info:=by kernel_rfl
 zc:=rfl
 Gl:=by decide
structure dI where
 m:sU
 t:Int
 f:Bool
instance:Coe dI (List Value):=⟨fun x=>[x.m.i,x.m.g,x.m.t,x.m.key,x.m.body,x.t,x.f]⟩
instance:Coe dI (Array Value):=⟨fun x=>(x:List Value).toArray⟩
instance:Coe dI Value:=⟨fun x=>.agg (x:List Value).toArray⟩
instance:au dI where
 bl:=fun x=>(x.m.g.bl)
 aA:=fun w B N x=>x.m.g.aA w B N
 Own:=fun w b N x=>x.m.g.Own w b N
 bA:=fun h hk=>Sl.aA.keep (h) hk
 aS:=fun h hB hN=>Sl.aA.more (h) hB hN
 aN:=fun h hk=>Sl.Own.keep (h) (fun g t hg=>hk g t (by simp[Zm,hg]))
 aG:=fun h hb hN=>Sl.Own.mono (h) hb hN
 dK:=fun h g t hg=>by
  exact Sl.Own.iD h g t hg
 dP:=fun h=>Sl.Own.lie (h)
instance:aj dI where
 ty:=202
 sz:=7
 cs:=fun x:dI=>[.int .i64 x.m.i,.slice x.m.g.A x.m.g.l.length x.m.g.c,.int .i64 x.m.t,.string x.m.key,.string x.m.body,.int .i64 x.t,.bool x.f]
 len:=fun _=>rfl
 pos:=by decide
 one:=fun(x:dI) u hu=>by simp only[Zu,ZF,or_false] at hu;rcases hu with rfl|rfl|rfl|rfl|rfl|rfl|rfl<;>rfl
 sty:=66
 und:=underlying66
 zero:=.agg #[.int .i64 0,.slice none 0 0,.int .i64 0,.string ⟨#[]⟩,.string ⟨#[]⟩,.int .i64 0,.bool false]
 bytes:=88
 info:=by kernel_rfl
 zc:=rfl
 Gl:=by decide
structure iW where
 ck:Int
 wa:Sl dI
 dn:Sl zx
instance:Coe iW (List Value):=⟨fun x=>[x.ck,x.wa,x.dn]⟩
instance:Coe iW (Array Value):=⟨fun x=>(x:List Value).toArray⟩
instance:Coe iW Value:=⟨fun x=>.agg (x:List Value).toArray⟩
instance:au iW where
 bl:=fun x=>(x.wa.bl)++(x.dn.bl)
 aA:=fun w B N x=>x.wa.aA w B N∧x.dn.aA w B N
 Own:=fun w b N x=>x.wa.Own w b N∧x.dn.Own w b N
 bA:=fun h hk=>⟨Sl.aA.keep (h.1) hk,Sl.aA.keep (h.2) hk⟩
 aS:=fun h hB hN=>⟨Sl.aA.more (h.1) hB hN,Sl.aA.more (h.2) hB hN⟩
 aN:=fun h hk=>⟨Sl.Own.keep (h.1) (fun g t hg=>hk g t (by simp[Zm,hg])),Sl.Own.keep (h.2) (fun g t hg=>hk g t (by simp[Zm,hg]))⟩
 aG:=fun h hb hN=>⟨Sl.Own.mono (h.1) hb hN,Sl.Own.mono (h.2) hb hN⟩
 dK:=fun h g t hg=>by
  simp only[Zm] at hg
  rcases hg with hg|hg
  ·exact Sl.Own.iD (h.1) g t hg
  ·exact Sl.Own.iD (h.2) g t hg
 dP:=fun h=>⟨Sl.Own.lie (h.1),Sl.Own.lie (h.2)⟩
structure Al where
 lo:Sl (Sl ByteArray)
 vs:Sl lT
instance:Coe Al (List Value):=⟨fun x=>[x.lo,x.vs]⟩
instance:Coe Al (Array Value):=⟨fun x=>(x:List Value).toArray⟩
instance:Coe Al Value:=⟨fun x=>.agg (x:List Value).toArray⟩
instance:au Al where
 bl:=fun x=>(x.lo.bl)++(x.vs.bl)
 aA:=fun w B N x=>x.lo.aA w B N∧x.vs.aA w B N
 Own:=fun w b N x=>x.lo.Own w b N∧x.vs.Own w b N
 bA:=fun h hk=>⟨Sl.aA.keep (h.1) hk,Sl.aA.keep (h.2) hk⟩
 aS:=fun h hB hN=>⟨Sl.aA.more (h.1) hB hN,Sl.aA.more (h.2) hB hN⟩
 aN:=fun h hk=>⟨Sl.Own.keep (h.1) (fun g t hg=>hk g t (by simp[Zm,hg])),Sl.Own.keep (h.2) (fun g t hg=>hk g t (by simp[Zm,hg]))⟩
 aG:=fun h hb hN=>⟨Sl.Own.mono (h.1) hb hN,Sl.Own.mono (h.2) hb hN⟩
 dK:=fun h g t hg=>by
  simp only[Zm] at hg
  rcases hg with hg|hg
  ·exact Sl.Own.iD (h.1) g t hg
  ·exact Sl.Own.iD (h.2) g t hg
 dP:=fun h=>⟨Sl.Own.lie (h.1),Sl.Own.lie (h.2)⟩
structure jl where
 me:Int
 all:Sl gT
 se:Sl dZ
 ti:Sl mM
instance:Coe jl (List Value):=⟨fun x=>[x.me,x.all,x.se,x.ti]⟩
instance:Coe jl (Array Value):=⟨fun x=>(x:List Value).toArray⟩
instance:Coe jl Value:=⟨fun x=>.agg (x:List Value).toArray⟩
instance:au jl where
 bl:=fun x=>(x.all.bl)++(x.se.bl)++(x.ti.bl)
 aA:=fun w B N x=>x.all.aA w B N∧x.se.aA w B N∧x.ti.aA w B N
 Own:=fun w b N x=>x.all.Own w b N∧x.se.Own w b N∧x.ti.Own w b N
 bA:=fun h hk=>⟨Sl.aA.keep (h.1) hk,Sl.aA.keep (h.2.1) hk,Sl.aA.keep (h.2.2) hk⟩
 aS:=fun h hB hN=>⟨Sl.aA.more (h.1) hB hN,Sl.aA.more (h.2.1) hB hN,Sl.aA.more (h.2.2) hB hN⟩
 aN:=fun h hk=>⟨Sl.Own.keep (h.1) (fun g t hg=>hk g t (by simp[Zm,hg])),Sl.Own.keep (h.2.1) (fun g t hg=>hk g t (by simp[Zm,hg])),Sl.Own.keep (h.2.2) (fun g t hg=>hk g t (by simp[Zm,hg]))⟩
 aG:=fun h hb hN=>⟨Sl.Own.mono (h.1) hb hN,Sl.Own.mono (h.2.1) hb hN,Sl.Own.mono (h.2.2) hb hN⟩
 dK:=fun h g t hg=>by
  simp only[Zm] at hg
  rcases hg with (hg|hg)|hg
  ·exact Sl.Own.iD (h.1) g t hg
  ·exact Sl.Own.iD (h.2.1) g t hg
  ·exact Sl.Own.iD (h.2.2) g t hg
 dP:=fun h=>⟨Sl.Own.lie (h.1),Sl.Own.lie (h.2.1),Sl.Own.lie (h.2.2)⟩
structure Re where
 k:Int
 g:Int
 s:Int
 b:Int
 v:ByteArray
instance:Coe Re (List Value):=⟨fun x=>[.int .u8 x.k,x.g,x.s,x.b,x.v]⟩
instance:Coe Re (Array Value):=⟨fun x=>(x:List Value).toArray⟩
instance:Coe Re Value:=⟨fun x=>.agg (x:List Value).toArray⟩
instance:aj Re:=iE 196 5 (fun x:Re=>[.int .u8 x.k,.int .i64 x.g,.int .i64 x.s,.int .i64 x.b,.string x.v]) (fun _=>rfl) (by decide) (fun(x:Re) u hu=>by simp only[Zu,ZF,or_false] at hu;rcases hu with rfl|rfl|rfl|rfl|rfl<;>rfl) 146 underlying146 (.agg #[.int .u8 0,.int .i64 0,.int .i64 0,.int .i64 0,.string ⟨#[]⟩]) 48 (by kernel_rfl) rfl (by decide)
structure bS where
 f:Int
 t:Int
 k:Int
 g:Int
 s:Int
 b:Int
 p:Int
 v:ByteArray
 i:Int
 tm:Int
instance:Coe bS (List Value):=⟨fun x=>[x.f,x.t,.int .u8 x.k,x.g,x.s,x.b,x.p,x.v,x.i,x.tm]⟩
instance:Coe bS (Array Value):=⟨fun x=>(x:List Value).toArray⟩
instance:Coe bS Value:=⟨fun x=>.agg (x:List Value).toArray⟩
instance:aj bS:=iE 62 10 (fun x:bS=>[.int .i64 x.f,.int .i64 x.t,.int .u8 x.k,.int .i64 x.g,.int .i64 x.s,.int .i64 x.b,.int .i64 x.p,.string x.v,.int .i64 x.i,.int .i64 x.tm]) (fun _=>rfl) (by decide) (fun(x:bS) u hu=>by simp only[Zu,ZF,or_false] at hu;rcases hu with rfl|rfl|rfl|rfl|rfl|rfl|rfl|rfl|rfl|rfl<;>rfl) 26 underlying26 (.agg #[.int .i64 0,.int .i64 0,.int .u8 0,.int .i64 0,.int .i64 0,.int .i64 0,.int .i64 0,.string ⟨#[]⟩,.int .i64 0,.int .i64 0]) 88 (by kernel_rfl) rfl (by decide)
structure Pt where
 sw:Bool
 d:Sl UInt8
instance:Coe Pt (List Value):=⟨fun x=>[x.sw,x.d]⟩
instance:Coe Pt (Array Value):=⟨fun x=>(x:List Value).toArray⟩
instance:Coe Pt Value:=⟨fun x=>.agg (x:List Value).toArray⟩
instance:au Pt where
 bl:=fun x=>(x.d.bl)
 aA:=fun w B N x=>x.d.aA w B N
 Own:=fun w b N x=>x.d.Own w b N
 bA:=fun h hk=>Sl.aA.keep (h) hk
 aS:=fun h hB hN=>Sl.aA.more (h) hB hN
 aN:=fun h hk=>Sl.Own.keep (h) (fun g t hg=>hk g t (by simp[Zm,hg]))
 aG:=fun h hb hN=>Sl.Own.mono (h) hb hN
 dK:=fun h g t hg=>by
  exact Sl.Own.iD h g t hg
 dP:=fun h=>Sl.Own.lie (h)
instance:aj Pt where
 ty:=215
 sz:=2
 cs:=fun x:Pt=>[.bool x.sw,.slice x.d.A x.d.l.length x.d.c]
 len:=fun _=>rfl
 pos:=by decide
 one:=fun(x:Pt) u hu=>by simp only[Zu,ZF,or_false] at hu;rcases hu with rfl|rfl<;>rfl
 sty:=47
 und:=underlying47
 zero:=.agg #[.bool false,.slice none 0 0]
 bytes:=32
 info:=by kernel_rfl
 zc:=rfl
 Gl:=by decide
structure qp where
 d:Sl UInt8
 w:Sl Pt
instance:Coe qp (List Value):=⟨fun x=>[x.d,x.w]⟩
instance:Coe qp (Array Value):=⟨fun x=>(x:List Value).toArray⟩
instance:Coe qp Value:=⟨fun x=>.agg (x:List Value).toArray⟩
instance:au qp where
 bl:=fun x=>(x.d.bl)++(x.w.bl)
 aA:=fun w B N x=>x.d.aA w B 4000000∧x.w.aA w B 4000000
 Own:=fun w b N x=>x.d.Own w b 4000000∧x.w.Own w b 4000000
 bA:=fun h hk=>⟨Sl.aA.keep (h.1) hk,Sl.aA.keep (h.2) hk⟩
 aS:=fun h hB hN=>⟨Sl.aA.more (h.1) hB (Zh _),Sl.aA.more (h.2) hB (Zh _)⟩
 aN:=fun h hk=>⟨Sl.Own.keep (h.1) (fun g t hg=>hk g t (by simp[Zm,hg])),Sl.Own.keep (h.2) (fun g t hg=>hk g t (by simp[Zm,hg]))⟩
 aG:=fun h hb hN=>⟨Sl.Own.mono (h.1) hb (Zh _),Sl.Own.mono (h.2) hb (Zh _)⟩
 dK:=fun h g t hg=>by
  simp only[Zm] at hg
  rcases hg with hg|hg
  ·exact Sl.Own.iD (h.1) g t hg
  ·exact Sl.Own.iD (h.2) g t hg
 dP:=fun h=>⟨Sl.Own.lie (h.1),Sl.Own.lie (h.2)⟩
structure eP where
 up:Bool
 b:jl
 k:qp
 h:Sl bS
instance:Coe eP (List Value):=⟨fun x=>[x.up,x.b.me,x.b.all,x.b.se,x.b.ti,x.k.d,x.k.w,x.h]⟩
instance:Coe eP (Array Value):=⟨fun x=>(x:List Value).toArray⟩
instance:Coe eP Value:=⟨fun x=>.agg (x:List Value).toArray⟩
instance:au eP where
 bl:=fun x=>(x.b.all.bl)++(x.b.se.bl)++(x.b.ti.bl)++(x.k.d.bl)++(x.k.w.bl)++(x.h.bl)
 aA:=fun w B N x=>x.b.all.aA w B N∧x.b.se.aA w B N∧x.b.ti.aA w B N∧x.k.d.aA w B 4000000∧x.k.w.aA w B 4000000∧x.h.aA w B 5000
 Own:=fun w b N x=>x.b.all.Own w b N∧x.b.se.Own w b N∧x.b.ti.Own w b N∧x.k.d.Own w b 4000000∧x.k.w.Own w b 4000000∧x.h.Own w b 5000
 bA:=fun h hk=>⟨Sl.aA.keep (h.1) hk,Sl.aA.keep (h.2.1) hk,Sl.aA.keep (h.2.2.1) hk,Sl.aA.keep (h.2.2.2.1) hk,Sl.aA.keep (h.2.2.2.2.1) hk,Sl.aA.keep (h.2.2.2.2.2) hk⟩
 aS:=fun h hB hN=>⟨Sl.aA.more (h.1) hB hN,Sl.aA.more (h.2.1) hB hN,Sl.aA.more (h.2.2.1) hB hN,Sl.aA.more (h.2.2.2.1) hB (Zh _),Sl.aA.more (h.2.2.2.2.1) hB (Zh _),Sl.aA.more (h.2.2.2.2.2) hB (Zh _)⟩
 aN:=fun h hk=>⟨Sl.Own.keep (h.1) (fun g t hg=>hk g t (by simp[Zm,hg])),Sl.Own.keep (h.2.1) (fun g t hg=>hk g t (by simp[Zm,hg])),Sl.Own.keep (h.2.2.1) (fun g t hg=>hk g t (by simp[Zm,hg])),Sl.Own.keep (h.2.2.2.1) (fun g t hg=>hk g t (by simp[Zm,hg])),Sl.Own.keep (h.2.2.2.2.1) (fun g t hg=>hk g t (by simp[Zm,hg])),Sl.Own.keep (h.2.2.2.2.2) (fun g t hg=>hk g t (by simp[Zm,hg]))⟩
 aG:=fun h hb hN=>⟨Sl.Own.mono (h.1) hb hN,Sl.Own.mono (h.2.1) hb hN,Sl.Own.mono (h.2.2.1) hb hN,Sl.Own.mono (h.2.2.2.1) hb (Zh _),Sl.Own.mono (h.2.2.2.2.1) hb (Zh _),Sl.Own.mono (h.2.2.2.2.2) hb (Zh _)⟩
 dK:=fun h g t hg=>by
  simp only[Zm] at hg
  rcases hg with ((((hg|hg)|hg)|hg)|hg)|hg
  ·exact Sl.Own.iD (h.1) g t hg
  ·exact Sl.Own.iD (h.2.1) g t hg
  ·exact Sl.Own.iD (h.2.2.1) g t hg
  ·exact Sl.Own.iD (h.2.2.2.1) g t hg
  ·exact Sl.Own.iD (h.2.2.2.2.1) g t hg
  ·exact Sl.Own.iD (h.2.2.2.2.2) g t hg
 dP:=fun h=>⟨Sl.Own.lie (h.1),Sl.Own.lie (h.2.1),Sl.Own.lie (h.2.2.1),Sl.Own.lie (h.2.2.2.1),Sl.Own.lie (h.2.2.2.2.1),Sl.Own.lie (h.2.2.2.2.2)⟩
instance:aj eP where
 ty:=51
 sz:=8
 cs:=fun x:eP=>[.bool x.up,.int .i64 x.b.me,.slice x.b.all.A x.b.all.l.length x.b.all.c,.slice x.b.se.A x.b.se.l.length x.b.se.c,.slice x.b.ti.A x.b.ti.l.length x.b.ti.c,.slice x.k.d.A x.k.d.l.length x.k.d.c,.slice x.k.w.A x.k.w.l.length x.k.w.c,.slice x.h.A x.h.l.length x.h.c]
 len:=fun _=>rfl
 pos:=by decide
 one:=fun(x:eP) u hu=>by simp only[Zu,ZF,or_false] at hu;rcases hu with rfl|rfl|rfl|rfl|rfl|rfl|rfl|rfl<;>rfl
 sty:=25
 und:=underlying25
 zero:=.agg #[.bool false,.int .i64 0,.slice none 0 0,.slice none 0 0,.slice none 0 0,.slice none 0 0,.slice none 0 0,.slice none 0 0]
 bytes:=160
 info:=by kernel_rfl
 zc:=rfl
 Gl:=by decide
structure jH where
 all:Sl gT
 no:Sl eP
 ma:Sl bS
instance:Coe jH (List Value):=⟨fun x=>[x.all,x.no,x.ma]⟩
instance:Coe jH (Array Value):=⟨fun x=>(x:List Value).toArray⟩
instance:Coe jH Value:=⟨fun x=>.agg (x:List Value).toArray⟩
instance:au jH where
 bl:=fun x=>(x.all.bl)++(x.no.bl)++(x.ma.bl)
 aA:=fun w B N x=>x.all.aA w B N∧x.no.aA w B N∧x.ma.aA w B 5000
 Own:=fun w b N x=>x.all.Own w b N∧x.no.Own w b N∧x.ma.Own w b 5000
 bA:=fun h hk=>⟨Sl.aA.keep (h.1) hk,Sl.aA.keep (h.2.1) hk,Sl.aA.keep (h.2.2) hk⟩
 aS:=fun h hB hN=>⟨Sl.aA.more (h.1) hB hN,Sl.aA.more (h.2.1) hB hN,Sl.aA.more (h.2.2) hB (Zh _)⟩
 aN:=fun h hk=>⟨Sl.Own.keep (h.1) (fun g t hg=>hk g t (by simp[Zm,hg])),Sl.Own.keep (h.2.1) (fun g t hg=>hk g t (by simp[Zm,hg])),Sl.Own.keep (h.2.2) (fun g t hg=>hk g t (by simp[Zm,hg]))⟩
 aG:=fun h hb hN=>⟨Sl.Own.mono (h.1) hb hN,Sl.Own.mono (h.2.1) hb hN,Sl.Own.mono (h.2.2) hb (Zh _)⟩
 dK:=fun h g t hg=>by
  simp only[Zm] at hg
  rcases hg with (hg|hg)|hg
  ·exact Sl.Own.iD (h.1) g t hg
  ·exact Sl.Own.iD (h.2.1) g t hg
  ·exact Sl.Own.iD (h.2.2) g t hg
 dP:=fun h=>⟨Sl.Own.lie (h.1),Sl.Own.lie (h.2.1),Sl.Own.lie (h.2.2)⟩
structure lJ where
 k:Int
 m:sU
 i:Int
 tm:Int
 me:Sl Int
 tp:Int
 who:Int
 n:Int
instance:Coe lJ (List Value):=⟨fun x=>[.int .u8 x.k,x.m.i,x.m.g,x.m.t,x.m.key,x.m.body,x.i,x.tm,x.me,x.tp,x.who,x.n]⟩
instance:Coe lJ (Array Value):=⟨fun x=>(x:List Value).toArray⟩
instance:Coe lJ Value:=⟨fun x=>.agg (x:List Value).toArray⟩
instance:au lJ where
 bl:=fun x=>(x.m.g.bl)++(x.me.bl)
 aA:=fun w B N x=>x.m.g.aA w B N∧x.me.aA w B N
 Own:=fun w b N x=>x.m.g.Own w b N∧x.me.Own w b N
 bA:=fun h hk=>⟨Sl.aA.keep (h.1) hk,Sl.aA.keep (h.2) hk⟩
 aS:=fun h hB hN=>⟨Sl.aA.more (h.1) hB hN,Sl.aA.more (h.2) hB hN⟩
 aN:=fun h hk=>⟨Sl.Own.keep (h.1) (fun g t hg=>hk g t (by simp[Zm,hg])),Sl.Own.keep (h.2) (fun g t hg=>hk g t (by simp[Zm,hg]))⟩
 aG:=fun h hb hN=>⟨Sl.Own.mono (h.1) hb hN,Sl.Own.mono (h.2) hb hN⟩
 dK:=fun h g t hg=>by
  simp only[Zm] at hg
  rcases hg with hg|hg
  ·exact Sl.Own.iD (h.1) g t hg
  ·exact Sl.Own.iD (h.2) g t hg
 dP:=fun h=>⟨Sl.Own.lie (h.1),Sl.Own.lie (h.2)⟩
structure DN where
 k:Int
 node:Int
 pl:Int
 keep:Int
 DL:Int
 g:Int
 c:lJ
instance:Coe DN (List Value):=⟨fun x=>[.int .u8 x.k,x.node,x.pl,x.keep,x.DL,x.g,.int .u8 x.c.k,x.c.m.i,x.c.m.g,x.c.m.t,x.c.m.key,x.c.m.body,x.c.i,x.c.tm,x.c.me,x.c.tp,x.c.who,x.c.n]⟩
instance:Coe DN (Array Value):=⟨fun x=>(x:List Value).toArray⟩
instance:Coe DN Value:=⟨fun x=>.agg (x:List Value).toArray⟩
instance:au DN where
 bl:=fun x=>(x.c.m.g.bl)++(x.c.me.bl)
 aA:=fun w B N x=>x.c.m.g.aA w B N∧x.c.me.aA w B N
 Own:=fun w b N x=>x.c.m.g.Own w b N∧x.c.me.Own w b N
 bA:=fun h hk=>⟨Sl.aA.keep (h.1) hk,Sl.aA.keep (h.2) hk⟩
 aS:=fun h hB hN=>⟨Sl.aA.more (h.1) hB hN,Sl.aA.more (h.2) hB hN⟩
 aN:=fun h hk=>⟨Sl.Own.keep (h.1) (fun g t hg=>hk g t (by simp[Zm,hg])),Sl.Own.keep (h.2) (fun g t hg=>hk g t (by simp[Zm,hg]))⟩
 aG:=fun h hb hN=>⟨Sl.Own.mono (h.1) hb hN,Sl.Own.mono (h.2) hb hN⟩
 dK:=fun h g t hg=>by
  simp only[Zm] at hg
  rcases hg with hg|hg
  ·exact Sl.Own.iD (h.1) g t hg
  ·exact Sl.Own.iD (h.2) g t hg
 dP:=fun h=>⟨Sl.Own.lie (h.1),Sl.Own.lie (h.2)⟩
instance:aj DN where
 ty:=39
 sz:=18
 cs:=fun x:DN=>[.int .u8 x.k,.int .i64 x.node,.int .i64 x.pl,.int .i64 x.keep,.int .i64 x.DL,.int .i64 x.g,.int .u8 x.c.k,.int .i64 x.c.m.i,.slice x.c.m.g.A x.c.m.g.l.length x.c.m.g.c,.int .i64 x.c.m.t,.string x.c.m.key,.string x.c.m.body,.int .i64 x.c.i,.int .i64 x.c.tm,.slice x.c.me.A x.c.me.l.length x.c.me.c,.int .i64 x.c.tp,.int .i64 x.c.who,.int .i64 x.c.n]
 len:=fun _=>rfl
 pos:=by decide
 one:=fun(x:DN) u hu=>by simp only[Zu,ZF,or_false] at hu;rcases hu with rfl|rfl|rfl|rfl|rfl|rfl|rfl|rfl|rfl|rfl|rfl|rfl|rfl|rfl|rfl|rfl|rfl|rfl<;>rfl
 sty:=23
 und:=underlying23
 zero:=.agg #[.int .u8 0,.int .i64 0,.int .i64 0,.int .i64 0,.int .i64 0,.int .i64 0,.int .u8 0,.int .i64 0,.slice none 0 0,.int .i64 0,.string ⟨#[]⟩,.string ⟨#[]⟩,.int .i64 0,.int .i64 0,.slice none 0 0,.int .i64 0,.int .i64 0,.int .i64 0]
 bytes:=192
 info:=by kernel_rfl
 zc:=rfl
 Gl:=by decide
structure eU where
 x:dZ
 rc:Sl Re
 ma:Sl bS
instance:Coe eU (List Value):=⟨fun x=>[x.x.me,x.x.num,x.x.g.r,x.x.g.m,x.x.log,x.x.vs,.int .u8 x.x.t.ph,x.x.t.b,x.x.t.mem,x.x.t.wi,x.x.t.va,x.x.t.pr,x.x.t.ac,x.x.wi,x.x.hd,x.rc,x.ma]⟩
instance:Coe eU (Array Value):=⟨fun x=>(x:List Value).toArray⟩
instance:Coe eU Value:=⟨fun x=>.agg (x:List Value).toArray⟩
structure gY where
 x:jl
 rc:Sl Re
 ma:Sl bS
instance:Coe gY (List Value):=⟨fun x=>[x.x.me,x.x.all,x.x.se,x.x.ti,x.rc,x.ma]⟩
instance:Coe gY (Array Value):=⟨fun x=>(x:List Value).toArray⟩
instance:Coe gY Value:=⟨fun x=>.agg (x:List Value).toArray⟩
class jy (α:Type) [au α] where
 tys:List TypeId
 ok:∀(x:α) (g:Nat) (t:TypeId),(g,t)∈au.bl x→t∈tys
namespace Sl
variable{α:Type}[aj α] [jy α]
def tys (α:Type)[aj α][jy α]:List TypeId:=aj.ty α::jy.tys α
theorem dA (s:Sl α)(g:Nat)(t:TypeId)(h:(g,t)∈s.bl):t∈tys α:=by
 rcases Zm.1 h with h|h
 ·cases hA:s.A with
  |none=>rw[hA] at h;cases h
  |some a=>
   rw[hA] at h;simp only[Zu,ZF,or_false,ZV] at h;rw[h.2];exact ZC
 ·obtain⟨x,_,h⟩:=aau.1 h;exact Zv _ (jy.ok x g t h)
variable{w w':World}{B B' b b' N N':Nat}{s:Sl α}
theorem Own.ne (h:s.Own w b N){cs:Array Value}(hb:aF w g t cs)(ht:t ∉ tys α):∀g' t',(g',t')∈s.bl→g'≠g:=by
 intro g' t' hg e;subst e;exact h.apart hb (fun g2 hg2=>ht (dA s g2 t hg2)) t' hg
end Sl
theorem iB {α:Type}[au α](h:∀x:α,au.bl x=[]):∀(x:α) (g:Nat) (t:TypeId),(g,t)∈au.bl x→t∈([]:List TypeId):=by
 intro x g t hg;rw[h] at hg;cases hg
instance:jy Int:=⟨[],iB fun _=>rfl⟩
instance:jy ByteArray:=⟨[],iB fun _=>rfl⟩
instance:jy UInt8:=⟨[],iB fun _=>rfl⟩
instance:jy lT:=⟨[],iB fun _=>rfl⟩
instance:jy rF:=⟨[],iB fun _=>rfl⟩
instance:jy mM:=⟨[],iB fun _=>rfl⟩
instance:jy zx:=⟨[],iB fun _=>rfl⟩
instance:jy Re:=⟨[],iB fun _=>rfl⟩
instance:jy bS:=⟨[],iB fun _=>rfl⟩
instance:jy (Sl ByteArray):=⟨[9],fun x g t h=>Sl.dA x g t h⟩
instance:jy gT:=⟨[3],fun x g t h=>by
 rcases Zm.1 h with h|h
 ·exact Sl.dA x.r g t h
 ·exact Sl.dA x.m g t h⟩
instance:jy sU:=⟨[3],fun x g t h=>Sl.dA x.g g t h⟩
instance:jy dI:=⟨[3],fun x g t h=>Sl.dA x.m.g g t h⟩
instance:jy Try:=⟨[3,399],fun x g t h=>by
 rcases Zm.1 h with h|h
 ·rcases Zm.1 h with h|h
  ·exact(show ∀t∈Sl.tys Int,t∈[3,399] by decide) t (Sl.dA x.mem g t h)
  ·exact(show ∀t∈Sl.tys rF,t∈[3,399] by decide) t (Sl.dA x.pr g t h)
 ·exact(show ∀t∈Sl.tys Int,t∈[3,399] by decide) t (Sl.dA x.ac g t h)⟩
instance:jy dZ:=⟨[3,9,211,399],fun x g t h=>by
 have e1:∀s:Sl Int,(g,t)∈s.bl→t=3:=fun s h=>by have:=Sl.dA s g t h;simpa[Sl.tys,jy.tys,aj.ty] using this
 have e2:∀s:Sl ByteArray,(g,t)∈s.bl→t=9:=fun s h=>by have:=Sl.dA s g t h;simpa[Sl.tys,jy.tys,aj.ty] using this
 have e3:∀s:Sl lT,(g,t)∈s.bl→t=211:=fun s h=>by have:=Sl.dA s g t h;simpa[Sl.tys,jy.tys,aj.ty] using this
 have e4:∀s:Sl rF,(g,t)∈s.bl→t=399:=fun s h=>by have:=Sl.dA s g t h;simpa[Sl.tys,jy.tys,aj.ty] using this
 simp only[au.bl,Zm] at h
 rcases h with (((((((h|h)|h)|h)|h)|h)|h)|h)
 all_goals first|(rw[e1 _ h];simp;done)|(rw[e2 _ h];simp;done)|(rw[e3 _ h];simp;done)|(rw[e4 _ h];simp;done)⟩
instance:jy Pt:=⟨[5],fun x g t h=>Sl.dA x.d g t h⟩
instance:jy lJ:=⟨[3],fun x g t h=>by
 rcases Zm.1 h with h|h
 ·exact Sl.dA x.m.g g t h
 ·exact Sl.dA x.me g t h⟩
instance:jy DN:=⟨[3],fun x g t h=>by
 rcases Zm.1 h with h|h
 ·exact Sl.dA x.c.m.g g t h
 ·exact Sl.dA x.c.me g t h⟩
instance:jy eP:=⟨[53,3,60,9,211,399,296,5,215,62],fun x g t h=>by
 simp only[au.bl,Zm] at h
 rcases h with (((((h|h)|h)|h)|h)|h)
 ·exact(show ∀t∈Sl.tys gT,t∈[53,3,60,9,211,399,296,5,215,62] by decide) t (Sl.dA x.b.all g t h)
 ·exact(show ∀t∈Sl.tys dZ,t∈[53,3,60,9,211,399,296,5,215,62] by decide) t (Sl.dA x.b.se g t h)
 ·exact(show ∀t∈Sl.tys mM,t∈[53,3,60,9,211,399,296,5,215,62] by decide) t (Sl.dA x.b.ti g t h)
 ·exact(show ∀t∈Sl.tys UInt8,t∈[53,3,60,9,211,399,296,5,215,62] by decide) t (Sl.dA x.k.d g t h)
 ·exact(show ∀t∈Sl.tys Pt,t∈[53,3,60,9,211,399,296,5,215,62] by decide) t (Sl.dA x.k.w g t h)
 ·exact(show ∀t∈Sl.tys bS,t∈[53,3,60,9,211,399,296,5,215,62] by decide) t (Sl.dA x.h g t h)⟩
section
open Go.RowKit Go.Maps
def MapAt (w:World)(k e:TypeId)(b n:Nat):Prop:=∃D:DataW Unit,w.ownsMap prog k (plainElem prog e) b n D
section
variable{w w':World}{k e:TypeId}{b n:Nat}
theorem MapAt.made (w:World)(k e:TypeId):MapAt (w.alloc (.map #[] 0)) k e w 0:=⟨_,World.ownsMap_made w prog k _⟩
theorem MapAt.lt (h:MapAt w k e b n):b<w.heap.size:=h.elim fun _ h=>h.lt
theorem MapAt.block (h:MapAt w k e b n)(hb:w'.heap[b]?=w.heap[b]?):MapAt w' k e b n:=by
 obtain⟨D,es,clock,h1,h2⟩:=h;exact⟨D,es,clock,hb.trans h1,h2⟩
end
theorem wF (w:World){rest:List Oper}
  (hg:o.guard=none) (m x:Operand) (t:TypeId) (hop:o.op=Op.lookup t m x false) (k e:TypeId) (K:Keyed prog k) (ht:prog.underlying t=some (.map k e)) (he:prog.underlying e=some (.int .i64)) (hz:(zeroValue e).run prog w=.ok (.int .i64 0) w)
  (b n:Nat) (hm:a.eval m=.map (some b)) (hown:MapAt w k e b n) (key:Value) (kl:Lit) (hx:a.eval x=key) (hkey:keyOf prog k key=some kl)
  (hK:∀c:Int,wpList prog ops Q rest (a.put o.dst (.int .i64 c)) w):wpList prog ops Q (o::rest) a w:=by
 obtain⟨D,hown⟩:=hown;exact wpList_lookup_own_int w hg m x t hop k e .i64 K ht he hz b n D hm hown key kl hx hkey fun c _ _=>hK c
theorem pJ (w:World){rest:List Oper}
  (hg:o.guard=none) (m x v:Operand) (t:TypeId) (hop:o.op=Op.mapUpdate t m x v) (k e:TypeId) (K:Keyed prog k) (ht:prog.underlying t=some (.map k e)) (b n:Nat)
  (hm:a.eval m=.map (some b)) (hown:MapAt w k e b n) (hn:n<maxLen) (key val:Value) (kl:Lit) (hx:a.eval x=key) (hv:a.eval v=val) (hkey:keyOf prog k key=some kl)
  (d:DataW Unit) (hval:plainElem prog e val=some (d,[]))
  (hK:∀w',MapAt w' k e b (n+1)→w.grownBy w' (some b)→wpList prog ops Q rest (a.put o.dst undef) w'):wpList prog ops Q (o::rest) a w:=by
 obtain⟨D,hown⟩:=hown;exact wpList_mapUpdate_own w hg m x v t hop k e K ht _ b n D hm hown hn key val kl hx hv hkey d [] hval fun w' h1 h2=>hK w' ⟨_,h1⟩ h2
end
section
variable{T T':List TypeId}{b b' N:Nat}{w w' w'':World}
end
namespace Sl
variable{α:Type}[aj α] [jy α] {T:List TypeId}{b b' N:Nat}{w w':World}{s:Sl α}
end Sl
namespace Sl
variable{α:Type}[aj α] {T:List TypeId}{b b' N:Nat}{w w':World}{s:Sl α}
end Sl
variable{fn:Func}{F:Nat}
theorem Eb [aj α](w:World):(⟨some ⟨w,0,none⟩,0,[]⟩:Sl α).Row (w.alloc (.cells #[] (aj.ty α))) w.heap.size:=
 World.ownsRow_made (base:=w.heap.size) (e:=aj.ty α) (size:=aj.sz α) w #[] 0 (Zh _) (Zq _) (by simp)
theorem reads_nil [aj α]{c:Nat}{l:List α}(h:Reads w B (aj.sz α) none l.length (Sl.row ⟨none,c,l⟩)):l=[]:=by
 rcases l with _|⟨a,r⟩
 ·rfl
 ·obtain⟨ad,h',_⟩:=h.2 (by simp);cases h'
abbrev YZ {α:Type}[aj α](_:List α):TypeId:=aj.ty α
abbrev Qj {α:Type}(_:List α)(w:World):Sl α:=⟨some ⟨w,0,none⟩,0,[]⟩
def xS (α:Type)[aj α](F:Nat):Prop:=∀(s:Sl α) (w:World) (B:Nat) (hr:Reads w B (aj.sz α) s.A s.l.length s.row) (hB:B≤w.heap.size) (hn:s.l.length≤1000000000),
  Calls prog F #[s] w fun e w'=>∃s':Sl α,e=.returned s'∧s'.l=s.l∧s'.Row w' w.heap.size∧Below w w w'
theorem tH [aj α]{T E n:Nat}(hu:prog.underlying T=some (.slice E))(hF:prog.funcs[F]?=some fn)(hn:fn.ntmps=n)(h:prog.underlying T=some (.slice E)→prog.funcs[F]?=some fn→fn.ntmps=n→xS α F:=by
 intro hu hF hN s w B hr hB hn;obtain⟨A,c,l⟩:=s;have q22:=fun(w:World) (a:Option Addr) (n c n' c':Nat)=>Lib.run_eql_slice_nil (P:=prog) w _ _ a n c n' c' hu;cases A with
 |none=>
  obtain rfl:=reads_nil hr;clear hr
  go_enter hF,hN
  go_wp2;go_ret;exact⟨Sl.nil,rfl,rfl,Sl.xu,aaO _ _⟩
 |some ad=>
  have HR:=L_ hr;clear hr;have HO:Hid ((Qj l w).Row (w.alloc (.cells #[] (YZ l))) w):=L_ (Eb w);have HR2:=L_ (HR.keep (w':=w.alloc (.cells #[] (YZ l))) fun p hp=>World.cell?_alloc_lt w _ p (by omega))
  go_enter hF,hN
  go_wp2_with (at_builtin;refine Sl.app rfl (.tmp 5) (.tmp 6) _ rfl rfl w.heap.size (Qj l w) rfl HO B ⟨some ad,c,l⟩ rfl HR2 (by simp at hn ⊢;omega) (by simp) ?_);intro s' w' h0 h1 h2;have H0:=L_ h0;have H1:=L_ h1;have hb:=L_ (aR (h2.bW HO (by simp)) (Zh _));clear h0 h1 h2;go_wp2;go_ret;exact⟨s',rfl,by simpa using H0.out,H1,hb⟩):xS α F:=h hu hF hn
theorem bY:xS Int 40:=tH underlying33 func40 ntmps40
theorem gH:xS ByteArray 111:=tH underlying54 func111 ntmps111
theorem jC:xS UInt8 112:=tH underlying46 func112 ntmps112
theorem fM:xS bS 97:=tH underlying26 func97 ntmps97
theorem Cw:xS lT 222:=tH underlying55 func222 ntmps222
theorem BO:xS rF 280:=tH underlying56 func280 ntmps280
theorem tL:xS mM 152:=tH underlying43 func152 ntmps152
theorem CB:xS dI 147:=tH underlying66 func147 ntmps147
theorem Dg:xS zx 148:=tH underlying67 func148 ntmps148
variable{cur:Array Value}{v':Value}
def kF (cur:Array Value):Nat→List Value→Array Value
 |_,[]=>cur
 |o,v::r=>kF (cur.setIfInBounds o v) (o+1) r
theorem fH:∀(vs:List Value) (o:Nat) (cur:Array Value),(kF cur o vs).size=cur.size
 |[],_,_=>rfl
 |v::r,o,cur=>by rw[kF,fH r,Array.size_setIfInBounds]
theorem gV:∀(vs:List Value) (o:Nat) (cur:Array Value),o+vs.length≤cur.size→(kF cur o vs).toList=cur.toList.take o++vs++cur.toList.drop (o+vs.length)
 |[],o,cur,h=>by simp[kF]
 |v::r,o,cur,h=>by
  simp only[ZI] at h;rw[kF,gV r (o+1) _ (by rw[Array.size_setIfInBounds];omega),Array.toList_setIfInBounds];have hlt:o<cur.toList.length:=by rw[ZO];omega
  rw[ZI,List.take_set,List.drop_set_of_lt (by omega),ZP,List.set_append,Zw];rw[aaR (by omega)];rw[Zl hlt];simp only[aaz,show o - min o cur.toList.length=0 by omega,aaJ,ZN,aap,aay];rw[show o+1+r.length=o+(r.length+1) by omega]
theorem aF.setCells {w:World}:∀(vs:List Value) (o:Nat) (w:World) (cur:Array Value),aF w g t cur→aF (w.setCells g o vs) g t (kF cur o vs)
 |[],_,_,_,h=>h
 |v::r,o,w,cur,h=>aF.setCells (w:=w) r (o+1) _ _ (h.aM o v)
theorem dW {w:World}(hg:g<w.heap.size):∀(vs:List Value) (o:Nat) (w':World),w.grownBy w' (some g)→w.grownBy (w'.setCells g o vs) (some g)
 |[],_,_,h=>h
 |v::r,o,w',h=>dW hg r (o+1) _ (dx h (Or.inl rfl) v)
section
variable{P:Program}
theorem mJ (w:World)(dT sT ty elem:TypeId)(size b o dLen dCap:Nat)(a:Addr)(sLen sCap:Nat)(cs:List Value)
  (hu:P.underlying dT=some (.slice elem)) (hs:(P.info? elem).map (·.size)=some size) (k:Nat) (hk:Nat.min sLen dLen=k) (hn:cs.length=k*size)
  (hsrc:∀j v,cs[j]?=some v→w.cell? (a.add j)=some v) (hc:∀j,j<cs.length→(w.cell? ⟨b,o+j,none⟩).isSome=true) (hf:∀j,j<cs.length→w.frozen? ⟨b,o+j,none⟩=false) (h1:∀v∈cs,v.oneCell'=true) :
  (Builtin.copy_ #[dT,sT] ty #[.slice (some ⟨b,o,none⟩) dLen dCap,.slice (some a) sLen sCap]).run P w=.ok (goInt k) (w.setCells b o cs):=by
 have hl:=run_loadCells_list (P:=P) w a cs hsrc;have hst:=run_storeCells_cells (P:=P) b o cs 0 w (by simpa using hc) (by simpa using hf) h1;cases hq:P.info? elem with
 |none=>simp[hq] at hs
 |some i=>
  have hi:i.size=size:=by simpa[hq] using hs
  simp[Builtin.copy_,run_underlying hu,Builtin.lenOf,Builtin.firstCells,sizeOf,typeInfo,hq,hi,hk,←hn,hl,hst]
theorem nS (w:World)(t e ty:TypeId)(z:Value)(ht:P.underlying t=some (.slice e))(hv:∀w,(zeroValue e).run P w=.ok z w)(b o n c:Nat)(zs:List Value)(hz:(Builtin.zeroCells z.cells n).toList=zs)(h1:∀v∈zs,v.oneCell'=true)(hn:0<n)
  (hc:∀j,j<zs.length→(w.cell? ⟨b,o+j,none⟩).isSome=true) (hf:∀j,j<zs.length→w.frozen? ⟨b,o+j,none⟩=false) :
  (Builtin.clear_ #[t] ty #[.slice (some ⟨b,o,none⟩) n c]).run P w=.ok (.tuple #[]) (w.setCells b o zs):=by
 have hst:=run_storeCells_cells (P:=P) b o zs 0 w (by simpa using hc) (by simpa using hf) h1;simp only[Nat.add_zero] at hst;obtain⟨m,rfl⟩:∃m,n=m+1:=⟨n - 1,by omega⟩;simp[Builtin.clear_,run_underlying ht,hv,hz,hst]
end
theorem sS {P:Program}(w:World){rest:List Oper}(hgd:o.guard=none)(d s:Operand)(t t':TypeId)
  (ho:o.op=.call { callee:=.builtin .copy,args:=#[d,s],argTypes:=#[t,t'] }) (v u:Value) (hd:a.eval d=v) (hs:a.eval s=u)
  (hr:(Builtin.copy_ #[t,t'] o.type #[v,u]).run P w=.ok v' w') (h:wpList P ops Q rest (a.put o.dst v') w'):wpList P ops Q (o::rest) a w:=
 wpList_plain hgd fun _ hK=>by
  unfold Oper.wp execOp;simp only[ho,resolve,invoke,builtin,aaV,aaW,aaQ,List.map_toArray,List.map_cons,List.map_nil,hd,hs,hr];exact hK _ _ h
theorem wu {P:Program}(w:World){rest:List Oper}(hgd:o.guard=none)(d s:Operand)(t t':TypeId)
  (ho:o.op=.call { callee:=.builtin .append,args:=#[d,s],argTypes:=#[t,t'] }) (v u:Value) (hd:a.eval d=v) (hs:a.eval s=u)
  (hr:(Builtin.append_ #[t,t'] o.type #[v,u]).run P w=.ok v' w') (h:wpList P ops Q rest (a.put o.dst v') w'):wpList P ops Q (o::rest) a w:=
 wpList_plain hgd fun _ hK=>by
  unfold Oper.wp execOp;simp only[ho,resolve,invoke,builtin,aaV,aaW,aaQ,List.map_toArray,List.map_cons,List.map_nil,hd,hs,hr];exact hK _ _ h
namespace Sl
variable{α:Type}[aj α] {w:World}{b:Nat}{s:Sl α}
theorem Row.parts (h:s.Row w b)(h0:0<s.l.length):∃g cur,s.A=some ⟨g,0,none⟩∧b≤g∧aF w g (aj.ty α) cur∧s.l.length≤s.c∧s.c≤maxLen∧cur.size=s.c*aj.sz α∧cur.toList.take (s.l.length*aj.sz α)=s.row:=by
 rcases h.2 with ⟨hv,hn⟩|⟨g,cap,cur,hv,hb,hh,h1,h2,h3,h4⟩
 ·omega
 ·injection hv with hA _ hc
  subst hc;exact⟨g,cur,hA,hb,hh,h1,h2,h3,h4⟩
theorem row_of {c:Nat}{l:List α}(hb:b≤g)(hh:aF w g (aj.ty α) cur)(h1:l.length≤c)(h2:c≤maxLen)(h3:cur.size=c*aj.sz α)(h4:cur.toList.take (l.length*aj.sz α)=l.flatMap aj.cs):Row w b (⟨some ⟨g,0,none⟩,c,l⟩:Sl α):=
 ⟨jM ⟨some ⟨g,0,none⟩,c,l⟩,Or.inr ⟨g,c,cur,rfl,hb,hh,h1,h2,h3,h4⟩⟩
theorem kT:∀(l:List α) (k:Nat),(l.flatMap aj.cs).take (k*aj.sz α)=(l.take k).flatMap aj.cs
 |[],k=>by simp
 |a::l,0=>by simp
 |a::l,k+1=>by
  rw[ZQ,aaw,ZQ,List.take_append,Zz (by rw[aj.len,Nat.succ_mul];omega),aj.len,show(k+1)*aj.sz α - aj.sz α=k*aj.sz α by rw[Nat.succ_mul];omega,kT l k]
theorem mW:∀(l:List α) (k:Nat),(l.flatMap aj.cs).drop (k*aj.sz α)=(l.drop k).flatMap aj.cs
 |[],k=>by simp
 |a::l,0=>by simp
 |a::l,k+1=>by
  rw[ZQ,aax,List.drop_append,List.drop_of_length_le (by rw[aj.len,Nat.succ_mul];omega),aay,aj.len,show(k+1)*aj.sz α - aj.sz α=k*aj.sz α by rw[Nat.succ_mul];omega,mW l k]
theorem dH (l:List α):(l.flatMap aj.cs).length=l.length*aj.sz α:=jM ⟨none,0,l⟩
end Sl
theorem lF (α:Type)[aj α]:∀w,(Go.sizeOf (aj.ty α)).run prog w=.ok (aj.sz α) w:=by
 obtain⟨i0,hi0,hz0,hz1,hz2⟩:=info_parts (aj.info (α:=α));intro w;simp[sizeOf,typeInfo,hi0,hz1]
theorem KJ (α:Type)[aj α]:(prog.info? (aj.ty α)).map (·.size)=some (aj.sz α):=by
 obtain⟨i0,hi0,hz0,hz1,hz2⟩:=info_parts (aj.info (α:=α));rw[hi0];simp[hz1]
theorem tN (α:Type)[aj α]:∀w,(zeroValue (aj.ty α)).run prog w=.ok (aj.zero α) w:=by
 obtain⟨i0,hi0,hz0,hz1,hz2⟩:=info_parts (aj.info (α:=α));intro w;simp[zeroValue,typeInfo,hi0,hz0]
section
variable (α:Type) [aj α]
theorem MO (T:TypeId)(hT:T=aj.sty α)(A:Option Addr)(n c k:Nat)(hk:k≤n):∃A',∀w,(Instr.slice T (.slice A n c) (some ((k:Int))) none none).run prog w=.ok (.slice A' (n - k) (c - k)) w:=by
 subst hT;refine⟨if c=k then A else A.map (·.add (k*aj.sz α)),fun w=>?_⟩;have ht:=aj.und (α:=α);have ht':prog.underlying (aj.sty α)=some (.slice (prog.elem (aj.sty α))):=by simp[Program.elem,ht]
 have he:prog.elem (aj.sty α)=aj.ty α:=by simp[Program.elem,ht]
 rw[run_slice_l w _ _ _ _ ht' .i64 _ (by omega) (by omega),he,lF α];simp only[Result.andThen,sliced,Z9]
theorem mF (T:TypeId)(hT:T=aj.sty α)(g n c k:Nat)(hk:k≤n)(hc:k<c)(w:World):(Instr.slice T (.slice (some ⟨g,0,none⟩) n c) (some ((k:Int))) none none).run prog w=.ok (.slice (some ⟨g,k*aj.sz α,none⟩) (n - k) (c - k)) w:=by
 subst hT;have ht:=aj.und (α:=α);have ht':prog.underlying (aj.sty α)=some (.slice (prog.elem (aj.sty α))):=by simp[Program.elem,ht]
 have he:prog.elem (aj.sty α)=aj.ty α:=by simp[Program.elem,ht]
 rw[run_slice_l w _ _ _ _ ht' .i64 _ (by omega) (by omega),he,lF α];simp only[Result.andThen,sliced,Z9,aaR (show ¬c=k by omega),aad,Addr.add_lit,aah]
theorem uO (T:TypeId)(hT:T=aj.sty α)(A:Option Addr)(n c k:Nat)(hk:k≤c)(w:World):(Instr.slice T (.slice A n c) none (some ((k:Int))) none).run prog w=.ok (.slice A k c) w:=by
 subst hT;have ht:=aj.und (α:=α);have ht':prog.underlying (aj.sty α)=some (.slice (prog.elem (aj.sty α))):=by simp[Program.elem,ht]
 have he:prog.elem (aj.sty α)=aj.ty α:=by simp[Program.elem,ht]
 rw[run_slice_h w _ _ _ _ ht' .i64 _ (by omega) (by omega),he,lF α]
 have h0:A.map (fun x=>x.add (0*aj.sz α))=A:=by
  cases A with
  |none=>rfl
  |some a=>simp[Addr.add]
 simp only[Result.andThen,sliced,h0,Z9,Nat.sub_zero,ite_self]
end
theorem Gv {α:Type}[aj α](T:TypeId)(hT:T=aj.sty α)(w:World)(g i c k n:Nat)(l:List α)(cur:Array Value)(hK:aF w g (aj.ty α) cur)(h4:cur.toList.take (n*aj.sz α)=l.flatMap aj.cs)(hi:i≤n)(hl:n=l.length)(h0:0<k)(hg:c<i+k)(hb:i+k≤10000000) :
  ∃(cur':Array Value) (G:Nat),(Builtin.append_ #[T,3] T #[.slice (some ⟨g,0,none⟩) i c,(k:Int)]).run prog w=.ok (.slice (some ⟨w,0,none⟩) (i+k) G) (w.drew.alloc (.cells cur' (aj.ty α)))∧cur'.size=G*aj.sz α∧i+k≤G∧G≤maxLen∧cur'.toList.take (i*aj.sz α)=(l.take i).flatMap aj.cs:=by
 subst hT;obtain⟨i0,hi0,hz0,hz1,hz2⟩:=info_parts (aj.info (α:=α));have hby:=aj.Gl (α:=α);have hL:((l.take i).flatMap aj.cs).length=i*aj.sz α:=by rw[Sl.dH,Zw,aaf (by omega)]
 have hold:(Builtin.firstCells i0.size i (.slice (some ⟨g,0,none⟩) i c)).run prog w.drew=.ok ((l.take i).flatMap aj.cs).toArray w.drew:=by
  have h:=run_loadCells_list (P:=prog) w.drew ⟨g,0,none⟩ ((l.take i).flatMap aj.cs) (fun j v hj=>by
   rw[Addr.add_lit,aah,hK.drew.cell]
   have h5:(cur.toList.take (n*aj.sz α))[j]?=some v:=by
    rw[h4];rw[←Sl.kT,aav] at hj
    split at hj
    ·exact hj
    ·cases hj
   rw[aav] at h5
   split at h5
   ·simpa using h5
   ·cases h5)
  rw[hL] at h;simp only[Builtin.firstCells,hz1];exact h
 have hbb:(i+k)*aj.bytes α≤140737488355328:=Zt (Nat.mul_le_mul hb hby) (by decide);have hkb:k*aj.bytes α≤(i+k)*aj.bytes α:=ZR _ (by omega);have h:=Lib.run_append_grow_zeros (P:=prog) w (aj.sty α) 3 (aj.sty α) (aj.ty α) i0 (aj.zero α) .i64 .i64 aj.und underlying3 hi0 hz0 (some ⟨g,0,none⟩) i c ((l.take i).flatMap aj.cs) hold k h0 (by rw[hz1];exact aj.pos) hg (by omega) (by rw[hz2];omega) (by rw[hz2];exact growslice_fits hg hbb);have hge:=grownCap_ge w (i+k) c (aj.ty α);refine⟨_,_,h,?_,hge,grownCap_le_maxLen _ _ _ _ (by simp only[maxLen];omega),?_⟩
 ·rw[Array.size_append,Array.size_append,size_zeroCells,size_zeroCells,aj.zc,List.size_toArray,hL,←Nat.add_mul,←Nat.add_mul]
  congr 1
  omega
 ·rw[Array.toList_append,Array.toList_append,aas,ZN,aac (by rw[hL];exact Zh _),Zz (by rw[hL];exact Zh _)]
section
variable (α:Type) [aj α]
theorem Xe (T:TypeId)(hT:T=aj.sty α)(A:Option Addr)(n c k:Nat)(hk:k+1≤n)(hc:n≤c):∃v,∀w,(Instr.slice T (.slice A n c) (some ((k:Int))) (some (.int .i64 ((k:Int)+1))) (some ((n:Int)))).run prog w=.ok v w:=by
 subst hT;have ht:=aj.und (α:=α);have ht':prog.underlying (aj.sty α)=some (.slice (prog.elem (aj.sty α))):=by simp[Program.elem,ht]
 have he:prog.elem (aj.sty α)=aj.ty α:=by simp[Program.elem,ht]
 apply Exists.intro;intro w;rw[run_slice_lhm w _ _ _ _ ht' .i64 .i64 .i64 _ _ _ (by omega) (by omega) (by omega) (by omega),he,lF α];rfl
theorem QC (T:TypeId)(hT:T=aj.sty α)(g n c k m:Nat)(hk:k≤m)(hm:m≤c)(hc:k<c)(w:World):(Instr.slice T (.slice (some ⟨g,0,none⟩) n c) (some ((k:Int))) (some ((m:Int))) none).run prog w=.ok (.slice (some ⟨g,k*aj.sz α,none⟩) (m - k) (c - k)) w:=by
 subst hT;have ht:=aj.und (α:=α);have ht':prog.underlying (aj.sty α)=some (.slice (prog.elem (aj.sty α))):=by simp[Program.elem,ht]
 have he:prog.elem (aj.sty α)=aj.ty α:=by simp[Program.elem,ht]
 rw[run_slice_lh w _ _ _ _ ht' .i64 .i64 _ _ (by omega) (by omega) (by omega),he,lF α];simp only[Result.andThen,sliced,Z9,aaR (show ¬c=k by omega),aad,Addr.add_lit,aah]
theorem jD (T:TypeId)(hT:T=aj.sty α)(g n c k:Nat)(hk:k≤n)(hc:n≤c):∃a:Addr,(∀w,(Instr.slice T (.slice (some ⟨g,0,none⟩) n c) (some ((k:Int))) none none).run prog w=.ok (.slice (some a) (n - k) (c - k)) w)∧(k<n→a=⟨g,k*aj.sz α,none⟩):=by
 by_cases h:k<n
 ·exact⟨_,fun w=>mF α T hT g n c k hk (by omega) w,fun _=>rfl⟩
 ·obtain rfl:k=n:=by omega
  by_cases h2:k<c
  ·exact⟨_,fun w=>mF α T hT g k c k hk h2 w,fun _=>rfl⟩
  ·obtain rfl:k=c:=by omega
   refine⟨⟨g,0,none⟩,fun w=>?_,fun h=>absurd h (by omega)⟩;subst hT;have ht:=aj.und (α:=α);have ht':prog.underlying (aj.sty α)=some (.slice (prog.elem (aj.sty α))):=by simp[Program.elem,ht]
   have he:prog.elem (aj.sty α)=aj.ty α:=by simp[Program.elem,ht]
   rw[run_slice_l w _ _ _ _ ht' .i64 _ (by omega) (by omega),he,lF α];simp only[Result.andThen,sliced,Z9,aaS]
end
theorem aF.setRow {w:World}{cs:Array Value}(h:aF w g t cs)(cs':Array Value):aF (w.setRow g cs') g t cs':=setRow_heap w g cs cs' t (0,0) h
theorem Dm {w:World}(h:w.grownBy w' (some g))(cs:Array Value):w.grownBy (w'.setRow g cs) (some g):=
 ⟨h.os,h.tape,h.output,by rw[setRow_size];exact h.size,fun i hi hne=>by
  rw[setRow_other _ _ _ _ (by rintro rfl;exact hne rfl)];exact h.block i hi hne⟩
theorem jU {P:Program}(w:World){rest:List Oper}(hgd:o.guard=none)(d:Operand)(t:TypeId)
  (ho:o.op=.call { callee:=.builtin .clear,args:=#[d],argTypes:=#[t] }) (v:Value) (hd:a.eval d=v)
  (hr:(Builtin.clear_ #[t] o.type #[v]).run P w=.ok v' w') (h:wpList P ops Q rest (a.put o.dst v') w'):wpList P ops Q (o::rest) a w:=
 wpList_plain hgd fun _ hK=>by
  unfold Oper.wp execOp;simp only[ho,resolve,invoke,builtin,aaV,aaW,aaQ,List.map_toArray,List.map_cons,List.map_nil,hd,hr];exact hK _ _ h
end Go.Proofs.YtaebfkcgdmodlaaGreatDoor
