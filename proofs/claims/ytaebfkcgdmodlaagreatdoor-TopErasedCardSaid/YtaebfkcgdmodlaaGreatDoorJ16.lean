/-
  A part of the proof that the erased node of towncrier reads nothing (TopErased).
-/
import Derived.Deep.RegionWith
import Derived.Deep.RegionHeld3
import Derived.Test.YtaebfkcgdmodlaaGreatDoorJ10
import Derived.Test.YtaebfkcgdmodlaaGreatDoorJ08
namespace Go.Proofs.YtaebfkcgdmodlaaGreatDoor
open Go.RowKit Go.Proofs.Tryz
set_option maxHeartbeats 16000000
set_option maxRecDepth 100000
set_option linter.unusedVariables false
set_option linter.unusedSimpArgs false
variable{xs:List Value}{k:Nat}{E T:TypeId}
section
open Go.RowKit Bal
def sD (m:Wp.aY):List Value:=(mA m).toList
theorem dR (m:Wp.aY):(sD m).length=10:=rfl
def cm (l:List Wp.aY):List Value:=l.flatMap sD
theorem qJ (m:Wp.aY)(l:List Wp.aY):cm (m::l)=sD m++cm l:=by simp[cm]
theorem qj:∀l:List Wp.aY,(cm l).length=l.length*10
 |[]=>rfl
 |m::l=>by rw[qJ,Zn,qj l,dR,ZI];omega
theorem Kw (l m:List Wp.aY):cm (l++m)=cm l++cm m:=by simp[cm]
theorem VQ (l:List Wp.aY):∀u∈cm l,u.oneCell'=true:=by
 intro u hu;simp only[cm,aau] at hu;obtain⟨m,_,hu⟩:=hu;simp only[sD,mA,Zu,ZF,or_false] at hu
 rcases hu with rfl|rfl|rfl|rfl|rfl|rfl|rfl|rfl|rfl|rfl<;>rfl
theorem JB:∀(l:List Wp.aY) (k:Nat),(cm l).take (k*10)=cm (l.take k)
 |[],k=>by simp[cm]
 |m::l,0=>by simp[cm]
 |m::l,k+1=>by
  rw[qJ,aaw,qJ,List.take_append,Zz (by rw[dR];omega),dR,show(k+1)*10 - 10=k*10 by omega];rw[JB l k]
theorem Ju:∀(l:List Wp.aY) (k:Nat),(cm l).drop (k*10)=cm (l.drop k)
 |[],k=>by simp[cm]
 |m::l,0=>by simp
 |m::l,k+1=>by
  rw[qJ,aax,List.drop_append,List.drop_of_length_le (by rw[dR];omega),dR,show(k+1)*10 - 10=k*10 by omega,Ju l k,aay]
theorem Ph:∀(l:List Wp.aY) (k:Nat) (m:Wp.aY) (i:Nat),l[k]?=some m→i<10→(cm l)[k*10+i]?=(sD m)[i]?
 |[],k,m,i,h,_=>by simp at h
 |a::l,0,m,i,h,hi=>by
  simp only[List.getElem?_cons_zero,ZH] at h;subst h;rw[qJ,Z0 (by rw[dR];omega),Nat.zero_mul,aah]
 |a::l,k+1,m,i,h,hi=>by
  rw[List.getElem?_cons_succ] at h;rw[qJ,Z8 (by rw[dR];omega),dR,show(k+1)*10+i - 10=k*10+i by omega];exact Ph l k m i h hi
section
variable{w:World}{B n:Nat}{A:Option Addr}{l:List Wp.aY}
theorem Reads.Kc (h:Reads w B 10 A n (cm l)):l.length=n:=by have:=h.1;rw[qj] at this;omega
theorem Reads.TY (h:Reads w B 10 A n (cm l))(hk:k<n):∃(b off:Nat) (m:Wp.aY),A=some ⟨b,off,none⟩∧b<B∧l[k]?=some m∧w.rangeAt b (off+k*10) (sD m):=by
 have hl:=h.Kc;obtain⟨ad,rfl,hb,hc⟩:=h.2 (by omega);have hg:l[k]?=some (l[k]'(by omega)):=Zl (by omega);have h0:∃x,w.cell? (ad.add 0)=some x:=⟨_,hc 0 _ (Zl (by rw[qj];omega))⟩;obtain⟨x,h0⟩:=h0;obtain⟨b,off,rfl,_⟩:=qG h0;refine⟨b,off,l[k]'(by omega),rfl,hb,hg,fun i u hu=>?_⟩;have hi:i<10:=by have:=(Zo.1 hu).1;rwa[dR] at this
 have:=hc (k*10+i) u (by rw[Ph l k _ i hg hi];exact hu);rw[Addr.add_mid] at this;rw[Nat.add_assoc];exact this
end
theorem Reads.UY {w:World}{B size n:Nat}{A:Option Addr}(h:Reads w B size A n xs)(hk:k≤n):Reads w B size A k (xs.take (k*size)):=by
 have h1:=h.1;have h2:k*size≤n*size:=ZR _ hk;refine⟨by rw[Zw];omega,fun hp=>?_⟩;obtain⟨ad,e,hb,hc⟩:=h.2 (by omega);refine⟨ad,e,hb,fun j u hu=>hc j u ?_⟩;rw[aav] at hu
 split at hu
 ·exact hu
 ·cases hu
section
variable{P:Program}
theorem mo (ht:P.underlying T=some (.slice E))(size:Nat)(A:Option Addr)(n c k:Nat)(hk:k≤c)(w:World)(hs:∀w,(Go.sizeOf E).run P w=.ok size w) :
  (Instr.slice T (.slice A n c) none (some ((k:Int))) none).run P w=.ok (.slice A k c) w:=by
 have ht':P.underlying T=some (.slice (P.elem T)):=by simp[Program.elem,ht]
 have he:P.elem T=E:=by simp[Program.elem,ht]
 rw[run_slice_h w T _ _ _ ht' .i64 _ (by omega) (by omega),he,hs]
 have h0:A.map (fun x=>x.add (0*size))=A:=by
  cases A with
  |none=>rfl
  |some a=>simp[Addr.add]
 simp only[Result.andThen,sliced,h0,Z9,Nat.sub_zero,ite_self]
def Rj (size:Nat)(A:Option Addr)(c k:Nat):Option Addr:=if c=k then A else A.map (·.add (k*size))
theorem wK (ht:P.underlying T=some (.slice E))(size:Nat)(A:Option Addr)(n c k:Nat)(hk:k≤n)(w:World)(hs:∀w,(Go.sizeOf E).run P w=.ok size w) :
  (Instr.slice T (.slice A n c) (some ((k:Int))) none none).run P w=.ok (.slice (Rj size A c k) (n - k) (c - k)) w:=by
 have ht':P.underlying T=some (.slice (P.elem T)):=by simp[Program.elem,ht]
 have he:P.elem T=E:=by simp[Program.elem,ht]
 rw[run_slice_l w T _ _ _ ht' .i64 _ (by omega) (by omega),he,hs];simp only[Result.andThen,sliced,Z9,Rj]
theorem Reads.Xg {w:World}{B size n:Nat}{A:Option Addr}(h:Reads w B size A n xs){c:Nat}(hk:k≤n)(hc:n≤c):Reads w B size (Rj size A c k) (n - k) (xs.drop (k*size)):=h.cut hk hc
end
def oD (m:Wp.aY):Bool:=!Wp.El m
theorem Ea (m:Wp.aY)(w:World)(hm:kH m)(b:Bool)(h:oD m=b) :
  Calls prog 87 #[.agg (mA m)] w fun e w'=>e=.returned b∧Below w w w':=by
 have HC:=yx m (w.alloc (.cells (mA m) 62)) hm;obtain⟨U,hU⟩:∃U,S m.v=U:=⟨_,rfl⟩;have eA:mA m=#[.int .i64 m.f,.int .i64 m.t,.int .u8 m.k,.int .i64 m.g,.int .i64 m.s,.int .i64 m.b,.int .i64 m.p,.string U,.int .i64 m.i,.int .i64 m.tm]:=by rw[←hU];rfl
 rw[eA] at HC ⊢;clear hU eA;have B0:=L_ ((aaO _ w).alloc (Zh w) (.cells #[m.f,m.t,.int .u8 m.k,m.g,m.s,m.b,m.p,.string U,m.i,m.tm] 62));cases hx:Wp.El m with
 |true=>
  rw[hx] at HC;have H:=L_ HC;obtain rfl:b=false:=by rw[←h,oD,hx];rfl
  clear HC hx h
  go_enter func87,ntmps87
  go_wp2_with fail;refine H.mono ?_;rintro e w1 ⟨rfl,hb⟩;have B1:=L_ (then_ B0 hb);clear hb;go_wp2;go_ret;exact⟨rfl,B1⟩
 |false=>
  rw[hx] at HC;have H:=L_ HC;obtain rfl:b=true:=by rw[←h,oD,hx];rfl
  clear HC hx h
  go_enter func87,ntmps87
  go_wp2_with fail;refine H.mono ?_;rintro e w1 ⟨rfl,hb⟩;have B1:=L_ (then_ B0 hb);clear hb;go_wp2;go_ret;exact⟨rfl,B1⟩
theorem Hq {l:List Wp.aY}{m:Wp.aY}(hm:l[k]?=some m)(h:oD m=true)(ha:∀y∈l.take k,oD y=false):l.findIdx? oD=some k:=by
 obtain⟨hk,rfl⟩:=Zo.1 hm;refine List.findIdx?_eq_some_iff_getElem.2 ⟨hk,h,fun j hj=>?_⟩;have:=ha (l[j]'(by omega)) (List.mem_take_iff_getElem.2 ⟨j,by omega,rfl⟩);simp[this]
def Mg (l:List Wp.aY):Int:=match l.findIdx? oD with
 |some k=>(k:Int)
 |none=>-1
theorem GR (A:Option Addr)(n c:Nat)(l:List Wp.aY)(w:World)(x:Int)(hx:Mg l=x)(hr:Reads w w 10 A n (cm l))(hl:∀m∈l,kH m)(hn:n≤1000000000) :
  Calls prog 94 #[.slice A n c,.func (.func 87) #[] #[]] w fun e w'=>e=.returned x∧Below w w w':=by
 have hlen:=hr.Kc;have HX:=L_ hx;have HL:=L_ hl;have HLN:=L_ hlen;clear hx hl hlen
 go_enter func94,ntmps94
 go_wp2
 go_loopw [8] (fun y wr=>∃k:Nat,y=(k:Int)∧k≤n∧Below w w wr∧∀m∈l.take k,oD m=false) (fun y _=>n - (intOf y).toNat)
 case atStart=>exact⟨0,rfl,Zq _,aaO _ _,by simp⟩
 case round=>
  obtain⟨k,rfl,hk,hb,ha⟩:=hrel
  by_cases hlt:k<n
  ·obtain⟨g,off,m,rfl,hg,hm,hc⟩:=(hr.below hb).TY hlt;have hm2:=Zk hm;have HIM:=L_ (HL m hm2);have HC:=L_ hc;have HB:=L_ hb;have HA:=L_ ha;have HR:=L_ hr;have HM:=L_ hm;clear hc hb ha hr hm2 hm;go_wp2_with (first|(with_reducible refine wpList_load_mid rfl _ _ rfl _ _ rfl _ _ HC.out underlying62 rfl (by kernel_rfl) ?_)|fail);rw[show(sD m).toArray=mA m from rfl];cases hbad:oD m with
   |true=>
    refine(Ea m wr HIM true hbad).mono ?_;rintro e w1 ⟨rfl,hb⟩
    have HE:Hid (x=(k:Int)):=by
     rw[Hid,←HX.out,Mg];rw[Hq HM.out hbad HA.out]
    have B1:=L_ (HB.trans (hb.mono HB.size));clear hb hbad;go_wp2;go_ret;exact⟨by rw[HE.out];rfl,B1⟩
   |false=>
    refine(Ea m wr HIM false hbad).mono ?_;rintro e w1 ⟨rfl,hb⟩;have B1:=L_ (HB.trans (hb.mono HB.size))
    have HA2:Hid (∀y∈l.take (k+1),oD y=false):=by
     intro y hy;rw[ZP,HM.out] at hy
     rcases Zm.1 hy with hy|hy
     ·exact HA y hy
     ·simp at hy;rw[hy];exact hbad
    clear hb hbad HA;go_wp2
    go_roundw
    case rel=>exact⟨k+1,by go_num,by omega,B1,HA2⟩
    case measure=>simp[intOf];omega
  ·have HE:Hid (x=-1):=by
    rw[Hid,←HX.out,Mg];rw[Zz (by have:=HLN.out;omega)] at ha;rw[List.findIdx?_eq_none_iff.2 (fun y hy=>ha y hy)]
   have HB:=L_ hb;clear ha hb hr;go_wp2;go_ret;exact⟨by rw[HE.out];rfl,HB⟩
theorem M4 (l:List Wp.aY):decide (0≤Mg l)=l.any oD:=by
 unfold Mg;cases h:l.findIdx? oD with
 |none=>
  have:=List.findIdx?_eq_none_iff.1 h;rw[List.any_eq_false.2 (fun y hy=>by simp[this y hy])]
  decide
 |some k=>
  obtain⟨hk,h1,_⟩:=List.findIdx?_eq_some_iff_getElem.1 h;rw[List.any_eq_true.2 ⟨_,List.getElem_mem hk,h1⟩];simp
theorem l8 (A:Option Addr)(n c:Nat)(l:List Wp.aY)(w:World)(b:Bool)(hb:l.any oD=b)(hr:Reads w w 10 A n (cm l))(hl:∀m∈l,kH m)(hn:n≤1000000000) :
  Calls prog 45 #[.slice A n c,.func (.func 87) #[] #[]] w fun e w'=>e=.returned b∧Below w w w':=by
 obtain⟨x,hx⟩:∃x,Mg l=x:=⟨_,rfl⟩;have hq:=M4 l;rw[hb,hx] at hq;have H:=L_ (GR A n c l w x hx hr hl hn);clear hx hb hr hl
 go_enter func45,ntmps45
 go_wp2_with fail;refine H.mono ?_;rintro e w1 ⟨rfl,hb⟩;have HB:=L_ hb;clear hb;cases b with
 |true=>
  go_wp2;go_ret;exact⟨rfl,HB⟩
 |false=>
  go_wp2;go_ret;exact⟨rfl,HB⟩
def nW (l:List Wp.aY):Bool:=decide (l.length≤4096)&&!l.any oD
theorem IL (A:Option Addr)(n c:Nat)(l:List Wp.aY)(w:World)(b:Bool)(hb:nW l=b)(hr:Reads w w 10 A n (cm l))(hl:∀m∈l,kH m)(hn:n≤1000000000) :
  Calls prog 42 #[.slice A n c] w fun e w'=>e=.returned (.int .i64 (if b then 0 else 8))∧Below w.heap.size w w':=by
 have hlen:=hr.Kc
 by_cases z:(4096:Int)<(n:Int)
 ·obtain rfl:b=false:=by rw[←hb,nW,ZE (by omega)];rfl
  clear hb hr hl hlen
  go_enter func42,ntmps42
  go_wp2;go_ret;exact⟨rfl,aaO _ _⟩
 ·cases ha:l.any oD with
  |true=>
   obtain rfl:b=false:=by rw[←hb,nW,ha];simp
   have H:=L_ (l8 A n c l w true ha hr hl hn);clear hb hr hl hlen ha
   go_enter func42,ntmps42
   go_wp2_with fail;refine H.mono ?_;rintro e w1 ⟨rfl,hb⟩;have HB:=L_ hb;clear hb;go_wp2;go_ret;exact⟨rfl,HB⟩
  |false=>
   obtain rfl:b=true:=by rw[←hb,nW,ha,ZG (by omega)];rfl
   have H:=L_ (l8 A n c l w false ha hr hl hn);clear hb hr hl hlen ha
   go_enter func42,ntmps42
   go_wp2_with fail;refine H.mono ?_;rintro e w1 ⟨rfl,hb⟩;have HB:=L_ hb;clear hb;go_wp2;go_ret;exact⟨rfl,HB⟩
end
variable{a:Act}{ops:Array Oper}{Q:Exit→Act→World→Prop}{base:Nat}{o:Oper}{v:Value}{w:World}
section
open Go.RowKit Bal
theorem KQ {n size:Nat}{e:TypeId}(h:w.ownsRow base e size v n xs):∃A c,v=.slice A n c∧Reads w w size A n xs∧n≤c∧c≤maxLen:=by
 rcases h.2 with ⟨rfl,rfl⟩|⟨g,cap,cur,rfl,_,_,hc,hm,_⟩
 ·exact⟨none,0,rfl,Reads.bO h,Zh _,Zq _⟩
 ·exact⟨_,cap,rfl,Reads.bO h,hc,hm⟩
def Ej:Value:=.agg #[.int .i64 0,.int .i64 0,.int .u8 0,.int .i64 0,.int .i64 0,.int .i64 0,.int .i64 0,.string ⟨#[]⟩,.int .i64 0,.int .i64 0]
theorem uJ:(prog.info? 62).map (fun i=>(i.zero,i.size,i.bytes))=some (some Ej,10,88):=by kernel_rfl
theorem qI:∀w,(Go.sizeOf 62).run prog w=.ok 10 w:=by
 obtain⟨i0,hi0,hz0,hz1,hz2⟩:=info_parts uJ;intro w;simp[sizeOf,typeInfo,hi0,hz1]
theorem OA {rest:List Oper}(hgd:o.guard=none)(sl x:Operand)
  (ho:o.op=.call { callee:=.builtin .append,args:=#[sl,x],argTypes:=#[26,26] })
  (base:Nat) (v:Value) (n:Nat) (l:List Wp.aY) (hs:a.eval sl=v) (hown:w.ownsRow base 62 10 v n (cm l))
  (B:Nat) (A:Option Addr) (m c:Nat) (news:List Wp.aY) (hx:a.eval x=.slice A m c) (hr:Reads w B 10 A m (cm news))
  (hn:n+m≤1000000000) (hbase:base≤w.heap.size)
  (h:∀v' w',w'.ownsRow base 62 10 v' (n+m) (cm (l++news))→dX w w' v v'→wpList prog ops Q rest (a.put o.dst v') w') :
  wpList prog ops Q (o::rest) a w:=by
 obtain⟨i0,hi0,hz0,hz1,hz2⟩:=info_parts uJ;refine bB _ hgd sl x 26 ho base 62 i0 _ 10 88 underlying26 hi0 hz0 hz1 hz2 rfl (by decide) v n (cm l) hs hown B A m c (cm news) hx hr (VQ _) (by simp only[maxLen];omega) (by omega) hbase ?_;intro v' w' h1 h2 h3;refine h v' w' (by rw[Kw];exact h1) ⟨h2,?_⟩
 rcases h3 with h3|h3
 ·exact Or.inl h3
 ·exact Or.inr ⟨_,h3,Zh _⟩
def yP (w:World)(n:Nat):Nat:=grownCap w (0+n) 0 62
def gW (w:World)(n:Nat):World:=w.drew.alloc (.cells ((#[]:Array Value)++Builtin.zeroCells Ej.cells n++Builtin.zeroCells Ej.cells (yP w n - (0+n))) 62)
theorem Jt (w:World)(n:Nat):n≤yP w n:=by have:=grownCap_ge w (0+n) 0 62;unfold yP;omega
theorem Ri (w:World)(n:Nat)(h:n≤1000000):yP w n≤maxLen:=grownCap_le_maxLen _ _ _ _ (by simp only[maxLen];omega)
theorem M5 (w:World)(n:Nat)(h0:0<n)(hn:n≤1000000):(Builtin.append_ #[26,3] 26 #[(),(n:Int)]).run prog w=.ok (.slice (some ⟨w,0,none⟩) n (yP w n)) (gW w n):=by
 obtain⟨i0,hi0,hz0,hz1,hz2⟩:=info_parts uJ
 have:=Lib.run_append_grow_zeros (P:=prog) w 26 3 26 62 i0 Ej .i64 .i64 underlying26 underlying3 hi0 hz0 none 0 0 [] (by simp[Builtin.firstCells]) n h0 (by omega) (by omega) (by omega) (by rw[hz2];omega) (by
  rw[hz2];have e:Builtin.nextslicecap (0+n) 0=n:=by unfold Builtin.nextslicecap;rw[aaS (by omega),aah]
  rw[e];omega)
 rw[aah] at this;rw[this];simp only[yP,gW,aah]
theorem PS (w:World)(n:Nat):Below w w (gW w n):=(aaO _ w).drew.alloc (Zh _) _
theorem VR (w:World)(n:Nat)(hn:n≤1000000):(gW w n).ownsRow w 62 10 (.slice (some ⟨w,0,none⟩) 0 (yP w n)) 0 (cm []):=by
 refine⟨rfl,Or.inr ⟨w,yP w n,_,rfl,Zh _,heap_alloc_new w.drew _,Zq _,Ri w n hn,?_,by simp[cm]⟩⟩;have h1:Ej.cells.size=10:=rfl;have h2:=Jt w n;rw[Array.size_append,Array.size_append,size_zeroCells,size_zeroCells,h1];simp only[List.size_toArray,aai];omega
theorem NY {rest:List Oper}(hgd:o.guard=none)(sl x:Operand)
  (ho:o.op=.call { callee:=.builtin .append,args:=#[sl,x],argTypes:=#[26,3] }) (hty:o.type=26)
  (hs:a.eval sl=()) (n:Nat) (hx:a.eval x=(n:Int)) (h0:0<n) (hn:n≤1000000)
  (h:wpList prog ops Q rest (a.put o.dst (.slice (some ⟨w,0,none⟩) n (yP w n))) (gW w n)) :
  wpList prog ops Q (o::rest) a w:=by
 refine wpList_plain hgd fun _ hK=>?_;have hrun:=M5 w n h0 hn;unfold Oper.wp execOp;simp only[ho,hty,resolve,invoke,builtin,aaV,aaW,aaQ,List.map_toArray,List.map_cons,List.map_nil,hs,hx,hrun];exact hK _ _ h
theorem MI (n:Nat)(w:World)(hn:n≤1000000) :
  Calls prog 164 #[(),(n:Int)] w fun e w'=>∃A c,e=.returned (.slice A 0 c)∧w'.ownsRow w 62 10 (.slice A 0 c) 0 (cm [])∧Below w w w':=by
 rcases aao n with rfl|h0
 ·go_enter func164,ntmps164
  go_wp2;go_ret;exact⟨none,0,rfl,aaU _ _ _ _,aaO _ _⟩
 ·have ho:=L_ (VR w n hn);have hb:=L_ (PS w n);have hq:=Jt w n;have hs0:=fun W=>mo (P:=prog) underlying26 10 none 0 0 0 (Zh _) W qI;have hs1:=fun W=>mo (P:=prog) underlying26 10 (some ⟨w,0,none⟩) n (yP w n) 0 (Zq _) W qI;rw[Int.natCast_zero] at hs0 hs1
  go_enter func164,ntmps164
  go_wp2_with (at_builtin;refine NY rfl (.tmp 20) (.tmp 21) rfl rfl rfl n rfl h0 hn ?_);generalize yP w n=gc at *;generalize gW w n=W1 at *;go_wp2;go_ret;exact⟨_,_,rfl,ho,hb⟩
def EF (k n m:Nat):Nat:=if k=0 then 0 else if k=1 then n else n+m
def Vy (k:Nat)(l m:List Wp.aY):List Wp.aY:=if k=0 then [] else if k=1 then l else l++m
theorem wz (g:Nat)(A A2:Option Addr)(n c n2 c2:Nat)(l l2:List Wp.aY)(w:World)(h0:w.cell? ⟨g,0,none⟩=some (.slice A n c))(h1:w.cell? ⟨g,1,none⟩=some (.slice A2 n2 c2))
  (hr:Reads w w 10 A n (cm l)) (hr2:Reads w w 10 A2 n2 (cm l2)) (hn:n+n2≤1000000) :
  Calls prog 102 #[.slice (some ⟨g,0,none⟩) 2 2] w fun e w'=>∃A3 c3,e=.returned (.slice A3 (n+n2) c3)∧w'.ownsRow w 62 10 (.slice A3 (n+n2) c3) (n+n2) (cm (l++l2))∧Below w w w':=by
 have hg:=World.block_lt_of_cell? w _ h0;simp only at hg;have HR:=L_ hr;have HR2:=L_ hr2;clear hr hr2
 go_enter func102,ntmps102
 go_wp2
 go_loop [3,11] (fun x y=>∃k:Nat,k≤2∧y=.int .i64 (k:Int)∧x=.int .i64 (EF k n n2:Nat)) (fun _ y=>2 - (intOf y).toNat)
 case atStart=>exact⟨0,by omega,rfl,rfl⟩
 case round=>
  obtain⟨k,hk,rfl,rfl⟩:=hrel;obtain rfl|rfl|rfl:k=0∨k=1∨k=2:=by omega
  ·rw[show EF 0 n n2=0 from rfl];go_wp2
   go_round
   case rel=>exact⟨1,by omega,rfl,rfl⟩
   case measure=>simp[intOf]
  ·rw[show EF 1 n n2=n from rfl];go_wp2
   go_round
   case rel=>exact⟨2,by omega,rfl,by simp[EF]⟩
   case measure=>simp[intOf]
  ·rw[show EF 2 n n2=n+n2 from rfl];go_wp2_with fail;refine(MI (n+n2) w (by omega)).mono ?_;rintro e w1 ⟨A1,c1,rfl,ho,hb⟩;have HO:=L_ ho;have HB:=L_ hb;have q0:w1.cell? ⟨g,0,none⟩=some (.slice A n c):=(hb.cell (p:=⟨g,0,none⟩) hg).trans h0;have q1:w1.cell? ⟨g,1,none⟩=some (.slice A2 n2 c2):=(hb.cell (p:=⟨g,1,none⟩) hg).trans h1;clear ho hb h0 h1;go_wp2_with fail
   go_loopw [6,27] (fun x y wr=>∃k:Nat,k≤2∧y=(k:Int)∧wr.ownsRow w 62 10 x (EF k n n2) (cm (Vy k l l2))∧Below w w wr∧w1.heap.size≤wr.heap.size∧wr.cell? ⟨g,0,none⟩=some (.slice A n c)∧wr.cell? ⟨g,1,none⟩=some (.slice A2 n2 c2)) (fun _ y _=>2 - (intOf y).toNat)
   case atStart=>exact⟨0,by omega,rfl,HO,HB,Zh _,q0,q1⟩
   case round=>
    clear q0 q1;obtain⟨k,hk,rfl,ho,hb,hz,q0,q1⟩:=hrel;have HO2:=L_ ho;have HB2:=L_ hb;have R1:=L_ (HR.below hb);have R2:=L_ (HR2.below hb);clear ho hb;obtain rfl|rfl|rfl:k=0∨k=1∨k=2:=by omega
    ·go_wp2_with (at_builtin;refine OA rfl (.tmp 31) (.tmp 32) rfl w.heap.size u6 0 [] rfl HO2 w A n c l rfl R1 ?c1 ?c2 ?_)
     case c1=>omega
     case c2=>exact HB2.size
     intro v2 w2 o2 g2;have O2:=L_ o2;have B2:=L_ (HB2.trans (g2.bW HO2 HB2.size));have hz2:=g2.size;have q02:=((g2.bW HO2 HB2.size).cell (p:=⟨g,0,none⟩) hg).trans q0;have q12:=((g2.bW HO2 HB2.size).cell (p:=⟨g,1,none⟩) hg).trans q1;clear o2 g2 q0 q1;go_wp2
     go_roundw
     case rel=>exact⟨1,by omega,rfl,by have:=O2.out;simpa[EF,Vy] using this,B2,by omega,q02,q12⟩
     case measure=>simp[intOf]
    ·go_wp2_with (at_builtin;refine OA rfl (.tmp 31) (.tmp 32) rfl w.heap.size u6 n l rfl HO2 w A2 n2 c2 l2 rfl R2 ?d1 ?d2 ?_)
     case d1=>omega
     case d2=>exact HB2.size
     intro v2 w2 o2 g2;have O2:=L_ o2;have B2:=L_ (HB2.trans (g2.bW HO2 HB2.size));have hz2:=g2.size;have q02:=((g2.bW HO2 HB2.size).cell (p:=⟨g,0,none⟩) hg).trans q0;have q12:=((g2.bW HO2 HB2.size).cell (p:=⟨g,1,none⟩) hg).trans q1;clear o2 g2 q0 q1;go_wp2
     go_roundw
     case rel=>exact⟨2,by omega,rfl,by have:=O2.out;simpa[EF,Vy] using this,B2,by omega,q02,q12⟩
     case measure=>simp[intOf]
    ·have O3:Hid (wr.ownsRow w 62 10 u6 (n+n2) (cm (l++l2))):=HO2;obtain⟨A3,c3,rfl,-,-,-⟩:=KQ O3;clear HO2;go_wp2;go_ret;exact⟨_,_,rfl,O3,HB2⟩
end
variable{bx:List Bx}{b:Nat}{w0:World}
section
attribute [local irreducible] wpList av aH
def AP (Pg:Int→ByteArray→Prop)(t:ByteArray):Prop:=t.size≤1100∧vT Pg t.data.toList∧∃g v,Pg g v
theorem Uq {is:List It}(Pg:Int→ByteArray→Prop)(g k:Nat)(s:Sl ByteArray)(r:Re)(w:World)(E:Env b w0 ((g,54,[s])::bx) (own s k::is) w)(hk:k≤900000)(hv:r.v.size≤1000000)(hb:i64 r.b)(hp:Pg r.g r.v)(hs:∀t∈s.l,AP Pg t) :
  Calls prog 110 #[r,g] w fun e w'=>∃s':Sl ByteArray,e=()∧Hid (∀t∈s'.l,AP Pg t)∧Env b w0 ((g,54,[s'])::bx) (own s' (k+1)::is) w':=by
 have HS:=L_ hs;have HP:=L_ hp;have hon:=E.on (s:=s) (N:=k) 0;clear hs hp
 go_enter func110,ntmps110
 refine G E [5,71,3,4,5,9] ?_;clear E;intro g2 w2 E;refine aB 0 5 E ?_;refine ah (Bh r _ hv hb) ?_;rintro _ w3 ⟨t,v,rfl,ht,hb2⟩;replace E:=E.up hb2;clear hb2;refine G E [26,83,4,23,41,0,72,3,9] ?_;clear E;intro g12 w4 E;refine pV 0 (s:=s) (k+1) ⟨some ⟨g12,0,none⟩,1,[t]⟩ E (E.reads 0 1 1) (by simp;omega) (by omega) ?_;clear E;intro s2 w5 h2 E;refine G E [3,62,9] ?_;clear E;intro w6 E;refine wpList_nil ?_
 go_end0
 exact⟨s2,rfl,L_ (fun q hq=>by rw[h2.out] at hq;exact(Zm.1 hq).elim (HS q) (fun h=>(Zp.1 h)▸⟨ht.1,ht.iD HP,_,_,HP⟩)),E.drop 2⟩
theorem Vm (Pg:Int→ByteArray→Prop)(X:Al)(w:World)(N:Nat)(hl:au.aA w w N X)(hN:N≤10000)(hI:kI Pg X)(hz:oH Pg)(hn:X.lo.l.length≤4) :
  Calls prog 53 #[X] w fun e w'=>∃(o:Sl ByteArray) (v:Int),e=.returned (.tuple #[o,v])∧Hid (∀t∈o.l,AP Pg t)∧Env w w [] [own o 65536] w':=by
 have HL:=L_ hl;have HI:=L_ hI;have HZ:=L_ hz;have hvn:X.vs.l.length≤N:=hl.2.2.2.2.1;clear hl hI hz;have E:=Env.start w
 go_enter func53,ntmps53
 refine G E [5,71,3,70,3,0,4,6,5,9] ?_;clear E;intro g1 g2 w3 E;refine aB 1 2 E ?_;refine ah (Bc X _ N (E.h HL) (by omega) (fun y hy=>(HI.vs y hy).2)) ?_;rintro _ w4 ⟨v,rfl,hb⟩;replace E:=E.up hb;clear hb;refine G0 [26] ?_
 by_cases h0:v=0
 case neg=>
  refine G E [0,4,5,0,0,4,7,5,0,60,0,4,22,24,9] ?_;clear E;intro w5 E;exact UR 0 E ⟨⟨none,0,[]⟩,v,rfl,L_ (fun t h=>by cases h),(E.drop 2).aO⟩
 subst h0;refine G E [0,4,5,0,0,4,8,15,5,0,0,4,6,5,0,41,0,0,4,19] ?_;replace E:=E.aO (α:=ByteArray) (N:=0)
 go_loopw [21] (fun y wr=>∃(k q:Nat) (s:Sl ByteArray),y=(k:Int)∧k≤X.lo.l.length∧q≤200*k∧Hid (∀t∈s.l,AP Pg t)∧Env w w ((g2,54,[s])::(g1,135,X)::[]) (own s q::[]) wr) (fun y _=>X.lo.l.length - (intOf y).toNat)
 case atStart=>exact⟨0,0,⟨none,0,[]⟩,rfl,Zq _,Zq _,L_ (fun t h=>by cases h),E⟩
 case round=>
  clear E;obtain⟨k,q,s,rfl,hk,hq,HS,E⟩:=hrel
  by_cases hlt:k<X.lo.l.length
  case pos=>
   have hw:IntKind.i64.wrap ((k:Int)+1)=((k+1:Nat):Int):=by rw[aaP _ (by omega)];rfl
   obtain⟨bb,off,x,hA,-,hx,hcc,hxl⟩:=(E.h HL).1.get (k:=k) hlt;have d1:wr.cell? ⟨bb,off+k,none⟩=some (.slice x.A x.l.length x.c):=by simpa[aj.sz,Sl.val] using hcc 0 _ rfl
   have HX:=L_ (HI.lo k x hx);have HXL:Hid (Sl.aA w w N x):=L_ (HL.1.2.2.2.2 x (Zk hx));have hxn:=HX.1;clear hcc hx hxl;refine G0 [5,0,4,16,15,18,5,0,0] ?_;refine bQ d1 ?_;clear d1 hA;refine G0 [0,0,4,5,84,4,19] ?_
   go_loopw [28] (fun y wr=>∃(j q2:Nat) (s:Sl ByteArray),y=(j:Int)∧j≤x.l.length∧q2≤200*k+j∧Hid (∀t∈s.l,AP Pg t)∧Env w w ((g2,54,[s])::(g1,135,X)::[]) (own s q2::[]) wr) (fun y _=>x.l.length - (intOf y).toNat)
   case atStart=>exact⟨0,q,s,rfl,Zq _,by omega,HS,E⟩
   case round=>
    clear E;obtain⟨j,q2,s,rfl,hj,hq2,HS,E⟩:=hrel
    by_cases hlt2:j<x.l.length
    case pos=>
     have hw2:IntKind.i64.wrap ((j:Int)+1)=((j+1:Nat):Int):=by rw[aaP _ (by omega)];rfl
     obtain⟨bb,off,t,hA,-,ht,hcc,-⟩:=(E.l HXL).get (k:=j) hlt2;have d1:wr.cell? ⟨bb,off+j,none⟩=some (.string t):=by simpa[aj.sz] using hcc 0 _ rfl
     have HT:=L_ (HX.2 t (Zk ht));clear hcc ht;refine G0 [5,0,4,16,15,18,5,0,0] ?_;refine bQ d1 ?_;clear d1 hA;refine G0 [0,0,4,23,83,0] ?_;refine ah (Uq Pg g2 q2 s ⟨3,(k:Int),((j+1:Nat):Int),0,t⟩ _ E (by omega) (HZ _ _ HT).1 dO HT HS) ?_;clear E;rintro _ w6 ⟨s2,rfl,HS2,E⟩;refine G0 [26,20,23,0,0,25] ?_
     go_roundw
     case rel=>exact⟨j+1,q2+1,s2,rfl,hlt2,by omega,HS2,E⟩
     case measure=>simp[intOf];omega
    case neg=>
     refine G0 [5,0,4,17,27,28,23,0,0,25] ?_
     go_roundw
     case rel=>exact⟨k+1,q2,s,rfl,hlt,by omega,HS,E⟩
     case measure=>simp[intOf];omega
  case neg=>
   refine G E [5,0,4,17,27,28,6,5,0,41,0,0,4,19] ?_;have hq8:q≤800:=by omega
   clear hlt hk hq
   go_loopw [45] (fun y wr=>∃(j q2:Nat) (s:Sl ByteArray),y=(j:Int)∧j≤X.vs.l.length∧q2≤800+2*j∧Hid (∀t∈s.l,AP Pg t)∧Env w w ((g2,54,[s])::(g1,135,X)::[]) (own s q2::[]) wr) (fun y _=>X.vs.l.length - (intOf y).toNat)
   case atStart=>exact⟨0,q,s,rfl,Zq _,by omega,HS,E⟩
   case round=>
    clear E;obtain⟨j,q2,s,rfl,hj,hq2,HS,E⟩:=hrel
    by_cases hlt:j<X.vs.l.length
    case pos=>
     have hw2:IntKind.i64.wrap ((j:Int)+1)=((j+1:Nat):Int):=by rw[aaP _ (by omega)];rfl
     obtain⟨bb,off,y,hA,-,hy,hcc,-⟩:=(E.h HL).2.get (k:=j) hlt;replace hcc:=L_ hcc;have HY:=L_ (HI.vs y (Zk hy));clear hy;refine G0 [5,0,4,16,15,18,5,0] ?_;refine fA y hcc ?_;clear hcc hA;refine G E [70,3,60,4,6,5,9] ?_;clear E;intro g11 w8 E;replace E:=E.bD 1
     by_cases hb:0<y.b
     case' pos=>
      refine G E [0,0,41,0,4,7,23,0,0,41,0,41,0,0,41,0,0,41,0] ?_;refine ah (Uq Pg g2 q2 s ⟨2,y.g,y.s,y.b,y.v⟩ _ E (by omega) HY.2.1 HY.2.2.2 HY.1 HS) ?_;clear E;rintro _ w9 ⟨s2,rfl,HS2,E⟩;refine G0 [26,4] ?_;obtain⟨q3,hq3,E⟩:∃q3,q3≤801+2*j∧Env w w ((g2,54,[.slice s2.A s2.l.length s2.c])::(g11,211,y)::(g1,135,X)::[]) (own s2 q3::[]) _:=⟨q2+1,by omega,E⟩;clear hb
     case' neg=>
      refine G E [0,0,41,0,4,8,15] ?_;obtain⟨s2,rfl⟩:∃s2,s2=s:=⟨_,rfl⟩;obtain⟨q3,hq3,E⟩:∃q3,q3≤801+2*j∧Env w w ((g2,54,[.slice s2.A s2.l.length s2.c])::(g11,211,y)::(g1,135,X)::[]) (own s2 q3::[]) _:=⟨q2,by omega,E⟩;have HS2:=HS;clear hb
     all_goals
      by_cases hb:y.b<y.p
      case pos=>
       refine G E [5,0,0,41,0,0,41,0,4,7,23,0,0,41,0,41,0,0,41,0] ?_;refine ah (Uq Pg g2 q3 s2 ⟨1,y.g,y.s,y.p,⟨#[]⟩⟩ _ E (by omega) (by decide:(⟨#[]⟩:ByteArray).size≤1000000) HY.2.2.1 (HZ _ _ HY.1).2 HS2) ?_;clear E;rintro _ w10 ⟨s3,rfl,HS3,E⟩;refine G0 [26,20,23,0,0,25] ?_
       go_roundw
       case rel=>exact⟨j+1,q3+1,s3,rfl,hlt,by omega,HS3,E.only 1⟩
       case measure=>simp[intOf];omega
      case neg=>
       refine G E [5,0,0,41,0,0,41,0,4,8,21,23,0,0,25] ?_
       go_roundw
       case rel=>exact⟨j+1,q3,s2,rfl,hlt,by omega,HS2,E.only 1⟩
       case measure=>simp[intOf];omega
    case neg=>
     refine G E [5,0,4,17,27,28,5,40,60,0,4,22,9] ?_;clear E;intro w11 E;exact UR 0 E ⟨s,0,rfl,HS,(E.drop 2).l9 (by omega)⟩
end
section
open Go.RowKit Bal
theorem Du (A:Option Addr)(n c at':Nat)(l:List Wp.aY)(w:World)(hr:Reads w w 10 A n (cm l))(hc:n≤c)(hat:at'<n)(hn:n≤100000) :
  Calls prog 96 #[.slice A n c,(at':Int)] w fun e w'=>∃A3 c3,e=.returned (.slice A3 (n - 1) c3)∧w'.ownsRow w 62 10 (.slice A3 (n - 1) c3) (n - 1) (cm (l.take at'++l.drop (at'+1)))∧Below w w w':=by
 have hs1:=fun W=>mo (P:=prog) underlying26 10 A n c at' (by omega) W qI;have hs2:=fun W=>wK (P:=prog) underlying26 10 A n c (at'+1) (by omega) W qI;rw[show((at'+1:Nat):Int)=(at':Int)+1 from rfl] at hs2;have q1:=hr.UY (k:=at') (by omega);have q2:=hr.Xg (k:=at'+1) (c:=c) (by omega) hc;rw[JB] at q1;rw[Ju] at q2;obtain⟨A2,hA2⟩:∃x,Rj 10 A c (at'+1)=x:=⟨_,rfl⟩;obtain⟨n2,hn2⟩:∃x,n - (at'+1)=x:=⟨_,rfl⟩;obtain⟨c2,hc2⟩:∃x,c - (at'+1)=x:=⟨_,rfl⟩;rw[hA2,hn2,hc2] at hs2;rw[hA2,hn2] at q2;have hsum:at'+n2=n - 1:=by omega
 have HC:=wz w A A2 at' c n2 c2 (l.take at') (l.drop (at'+1)) (w.alloc (.cells #[.slice A at' c,.slice A2 n2 c2] 26)).drew ((aF.new w 26 #[.slice A at' c,.slice A2 n2 c2]).drew.cell 0) ((aF.new w 26 #[.slice A at' c,.slice A2 n2 c2]).drew.cell 1)
  ((q1.alloc (Zh _) _).more (by simp)).drew ((q2.alloc (Zh _) _).more (by simp)).drew (by omega)
 rw[hsum] at HC;have H:=L_ HC;have B0:=L_ ((aaO _ w).alloc (Zh w) (.cells #[.slice A at' c,.slice A2 n2 c2] 26)).drew;have hwr:IntKind.i64.wrap ((at':Int)+1)=(at':Int)+1:=by rw[IntKind.wrap_i64];omega
 clear q1 q2 hA2 hn2 hc2 hsum HC hr
 go_enter func96,ntmps96
 go_wp2_with fail
 go_region_with (go_at_call 102;refine H.mono ?_;rintro e w1 ⟨A3,c3,rfl,ho,hb⟩)
 have HO:=L_ (aG (base':=w.heap.size) ho B0.size);have HB:=L_ (B0.trans (hb.mono B0.size));clear ho hb;go_wp2;go_ret;exact⟨_,_,rfl,HO,HB⟩
end
end Go.Proofs.YtaebfkcgdmodlaaGreatDoor
