/-
  A part of the proof that the erased node of towncrier reads nothing (TopErased).
-/
import Derived.Test.YtaebfkcgdmodlaaGreatDoorJ07
import Derived.Test.YtaebfkcgdmodlaaGreatDoorJ06
namespace Go.Proofs.YtaebfkcgdmodlaaGreatDoor
open Go.RowKit Go.Proofs.Tryz
set_option maxHeartbeats 16000000
set_option maxRecDepth 100000
set_option linter.unusedVariables false
set_option linter.unusedSimpArgs false
variable{a':Act}{q:Addr}{bx':List Bx}{g i j k:Nat}{o oi:Oper}{sl x y:Operand}{T t ty:TypeId}{v:Value}
section
variable{P:Program}{ops:Array Oper}{Q:Exit→Act→World→Prop}{S:World→Prop}{b:Nat}{w0 w:World}{bx:List Bx}{is:List It}{n:Nat}{a:Act}{r:List (Nat×Bool)}
variable{id:Nat}
theorem VD {y:Code}(n:Nat)(S:World→Prop)(l:List (Nat×Bool))(E:Env b w0 bx is w)(h:∀w',Env b w0 bx is w'→aH P ops (Exit.then (y.wp P Q) Q) S n l a w')(hB:Pf .any ops n l=true:=by kernel_rfl)(hm:P.follows .mixedOrders=true:=by kernel_rfl):(Code.seq (.region id ops true) y).wp P Q a w:=
 wp_seq (yh n _ l hm (Au hB) (h _ E.drew))
theorem oF {rest:List Oper}(hS:S w)(h:aH P ops Q S n r a' w)
  (hi:ops.toList.drop i=oi::rest:=by rfl) (hQ:∀c a w,Q (.panic c) (a.put oi.dst v) w→Q (.panic c) a w:=by exact fun _ _ _ h=>h) (hg:Region.wanted oi (yielded ops a.tmps)=true:=by rfl) (hv:∀w,(execOp a.eval oi).run P w=.ok (.value v) w:=by(intro w;go_simp)<;>with_reducible rfl) (ha:a.put oi.dst v=a':=by first|(simp only[Act.put,aaI,aaJ,aaK]<;>rfl)|rfl):aH P ops Q S n ((i,false)::r) a w:=by
 subst ha;exact kE hi hQ (Or.inl ⟨hg,fun w' _=>hv w'⟩) hS h
theorem TJ {rest:List Oper}(hS:S w)(hc:∀w',S w'→w'.cell? q=some v)(h:aH P ops Q S n r a' w)
  (hi:ops.toList.drop i=oi::rest:=by rfl) (hQ:∀c a w,Q (.panic c) (a.put oi.dst v) w→Q (.panic c) a w:=by exact fun _ _ _ h=>h) (hg:Region.wanted oi (yielded ops a.tmps)=true:=by rfl) (ho:oi.op=.load ty x:=by rfl) (hx:a.eval x=.pointer (some q):=by rfl) (hu:bq P ty=true:=by kernel_rfl) (ha:a.put oi.dst v=a':=by first|(simp only[Act.put,aaI,aaJ,aaK]<;>rfl)|rfl):aH P ops Q S n ((i,false)::r) a w:=by
 subst ha;obtain⟨d,hd,hr⟩:=dS hu;refine kE hi hQ (Or.inl ⟨hg,fun w' hw'=>?_⟩) hS h;unfold execOp;simp only[ho,hx,aaV,aaW,aaQ,gX hd hr (hc w' hw')]
theorem Xv {rest:List Oper}(hS:S w)(vs:List Value)(hc:∀w',S w'→∀q u,vs[q]?=some u→w'.cell? ⟨g,j+q,none⟩=some u)(h:aH P ops Q S n r a' w)
  (hi:ops.toList.drop i=oi::rest:=by rfl) (hQ:∀c a w,Q (.panic c) (a.put oi.dst (.agg vs.toArray)) w→Q (.panic c) a w:=by exact fun _ _ _ h=>h) (hg:Region.wanted oi (yielded ops a.tmps)=true:=by rfl) (ho:oi.op=.load ty x:=by rfl) (hx:a.eval x=.pointer (some ⟨g,j,none⟩):=by rfl) (hu:bq P ty=false:=by kernel_rfl) (hs:(P.info? ty).map (·.size)=some vs.length:=by kernel_rfl) (hd:(P.underlying ty).isSome=true:=by kernel_rfl) (ha:a.put oi.dst (.agg vs.toArray)=a':=by first|(simp only[Act.put,aaI,aaJ,aaK]<;>rfl)|rfl):aH P ops Q S n ((i,false)::r) a w:=by
 subst ha;obtain⟨d,hd⟩:=aan.1 hd;have hr:d.isRow=true:=by simpa[bq,hd] using hu
 refine kE hi hQ (Or.inl ⟨hg,fun w' hw'=>?_⟩) hS h;unfold execOp;simp only[ho,hx,aaV,aaW,aaQ,run_loadAt_mid w' g j ty vs d (fun q u hq=>hc w' hw' q u hq) hd hr hs]
theorem V8 (k:Nat){rest:List Oper}{cs:List Value}(E:Env b w0 bx is w)(hS:S w)(h:aH P ops Q S n r a' w)
  (hi:ops.toList.drop i=oi::rest:=by rfl) (hg:oi.guard=none:=by rfl) (ho:oi.op=.load ty x:=by rfl) (hx:a.eval x=.pointer (some ⟨g,j,none⟩):=by rfl) (hk:bx[k]?=some (g,t,cs):=by rfl) (hv:cs[j]?=some v:=by rfl) (hu:bq P ty=true:=by kernel_rfl) (ha:a.put oi.dst v=a':=by first|(simp only[Act.put,aaI,aaJ,aaK]<;>rfl)|rfl):aH P ops Q S n ((i,true)::r) a w:=by
 subst ha;obtain⟨d,hd,hr⟩:=dS hu;refine sN (aL hi) (wpList_plain hg fun K hK=>?_);unfold Oper.wp execOp;simp only[ho,hx,aaV,aaW,aaQ,gX hd hr ((E.cell k hk j).trans hv)];exact hK _ _ ⟨hS,h⟩
theorem WB (k:Nat){rest:List Oper}{cs:List Value}(E:Env b w0 bx is w)(hS:∀w',Env b w0 bx' is w'→S w')(h:∀w',Env b w0 bx' is w'→aH P ops Q S n r a w')
  (hi:ops.toList.drop i=oi::rest:=by rfl) (hg:oi.guard=none:=by rfl) (hd:oi.dst=none:=by rfl) (ho:oi.op=.store ty x y:=by rfl) (hx:a.eval x=.pointer (some ⟨g,j,none⟩):=by rfl) (hy:a.eval y=v:=by rfl) (hz:(P.info? ty).map (·.size)=some 1:=by kernel_rfl) (h1:v.oneCell'=true:=by rfl) (hv:v.cells.toList=[v]:=by rfl) (hk:bx[k]?=some (g,t,cs):=by rfl) (hl:Nat.ble (j+1) cs.length=true:=by rfl) (hb:bx.set k (g,t,Env.splice cs j [v])=bx':=by first|(dsimp only[Env.splice,List.set_cons_zero,List.set_cons_succ]<;>rfl)|rfl):aH P ops Q S n ((i,true)::r) a w:=by
 subst hb;rw[←hy] at hv;refine sN (aL hi) (wpList_plain hg fun K hK=>?_);unfold Oper.wp execOp;simp only[ho,hx,aaV,eT hv (E.there hk hl) hz (by simpa[hy] using h1),aaQ,aaW];refine hK _ _ ?_;rw[hd];have E':=Env.Ez k [v] E hk j;rw[hy];exact⟨hS _ E',h _ E'⟩
end
section
variable{α:Type}[aj α] {S:World→Prop}{b N:Nat}{w0 w w':World}{bx:List Bx}{is:List It}{ops:Array Oper}{Q:Exit→Act→World→Prop}{a:Act}{n:Nat}{r:List (Nat×Bool)}
theorem OV (k:Nat){rest:List Oper}{s:Sl α}(N':Nat)(y:Sl α)(E:Env b w0 bx is w)(hy:Reads w w (aj.sz α) y.A y.l.length y.row)(hn:s.l.length+y.l.length≤N')(hN:N'≤1000000)
  (hS:∀(s':Sl α) w',Env b w0 bx (is.set k (own s' N')) w'→S w') (h:∀(s':Sl α) w',Hid (s'.l=s.l++y.l)→Env b w0 bx (is.set k (own s' N')) w'→aH prog ops Q S n r (a.put oi.dst (.slice s'.A s'.l.length s'.c)) w')
  (hi:ops.toList.drop i=oi::rest:=by rfl) (hk:is[k]?=some (own s N):=by rfl) (hgd:oi.guard=none:=by rfl) (hT:T=aj.sty α:=by rfl) (ho:oi.op=.call { callee:=.builtin .append,args:=#[sl,x],argTypes:=#[T,T] }:=by rfl) (hs:a.eval sl=s:=by rfl) (hx:a.eval x=y:=by rfl) (hf:∀(x:α) (w:World) (b N:Nat),au.Own w b N x∧au.bl x=[]:=by exact fun _ _ _ _=>⟨trivial,rfl⟩):aH prog ops Q S n ((i,true)::r) a w:=by
 refine sN (aL hi) ?_;have hr:=(show Sl.Own w b N s from E.get k hk).1;refine Sl.app hgd sl x T hT ho b s hs hr w y hx hy (by omega) E.sz fun s' w' h1 h2 h3=>?_;have E':=E.mG k hk h3 h2 (by rw[h1,Zn];exact hn) hf;exact⟨hS s' w' E',h s' w' (L_ h1) E'⟩
variable [jy α]
theorem Wt (q:Nat){rest:List Oper}{s:Sl α}{z:α}(E:Env b w0 bx is w)(hA:s.A=some ⟨g,0,none⟩)(hz:s.l[k]?=some z)(z':α)
  (h:∀w',Env b w0 bx (is.set q (own (⟨s.A,s.c,s.l.set k z'⟩:Sl α) N)) w'→wpList prog ops Q rest a w')
  (hq:is[q]?=some (both (own s N) (own z' N))) (hg:o.guard=none) (hd:o.dst=none) (ho:o.op=.store ty x y) (hx:a.eval x=.pointer (some ⟨g,k*aj.sz α,none⟩)) (hy:(a.eval y).cells.toList=aj.cs z') (hs:(prog.info? ty).map (·.size)=some (aj.sz α)) (ht:aj.ty α ∉ jy.tys α):wpList prog ops Q (o::rest) a w:=by
 have hO:=show Sl.Own w b N s∧au.Own w b N z' from E.get q hq;have hr:s.Row w b:=hO.1.1;have hk:k<s.l.length:=(Zo.1 hz).1;obtain⟨g',cur,hA',hbg,hK,c1,c2,c3,c4⟩:=hr.parts (by omega);rw[hA] at hA';injection hA' with hA'
 injection hA' with hA'
 subst hA'
 have hle:k*aj.sz α+(aj.cs z').length≤cur.size:=by
  have h2:=ZR (aj.sz α) (show k+1≤s.l.length from hk);have h3:=ZR (aj.sz α) c1;rw[Nat.succ_mul] at h2;rw[aj.len];omega
 have hth:w.there g (k*aj.sz α) (aj.cs z').length:=fun j hj=>⟨by rw[hK.cell,ZM (by omega)];rfl,hK.frozen _⟩;refine wpList_plain hg fun K hK2=>?_;unfold Oper.wp execOp;simp only[ho,hx,aaV,eT hy hth (by rw[aj.len];exact hs) (aam.2 fun u hu=>aj.one z' u hu),aaQ,aaW];refine hK2 _ _ ?_;rw[hd]
 have hgr:dX w (w.setCells g (k*aj.sz α) (aj.cs z')) s (.slice s.A (s.l.set k z').length s.c):=by
  rw[hA];exact⟨iC g _ _ w,Or.inl rfl⟩
 have hsp:∀(vs cs:List Value),vs.length=cs.length→∀p:List Value,Env.splice (p++cs) p.length vs=p++vs:=by
  intro vs
  induction vs with
  |nil=>intro cs hl p;rw[List.length_eq_zero_iff.1 hl.symm];rfl
  |cons v vs ih=>
   intro cs hl p;cases cs with
   |nil=>cases hl
   |cons c cs=>
    rw[Env.splice,List.set_append_right _ _ (Zh _),Nat.sub_self,aaJ];have h3:=ih cs (by simpa using hl) (p++[v]);simpa[ZN] using h3
 have hc:aj.cs z'=Env.splice (aj.cs z) 0 (aj.cs z'):=(hsp (aj.cs z') (aj.cs z) (by rw[aj.len,aj.len]) []).symm;have hrow:=tC (i:=0) hr hA hz (by rw[aj.len];omega) hc;rw[Nat.add_zero] at hrow;refine h _ (E.I8 (s':=⟨s.A,s.c,s.l.set k z'⟩) q hq hr (fun a ha=>ZJ _ (gL ha)) hgr hrow (by rw[Z7];exact hO.1.2.1) (fun x hx=>?_) ht)
 rcases aat hx with hx|rfl
 ·exact⟨hO.1.2.2 x hx,fun g t hm=>ZJ _ (zn hx hm)⟩
 ·exact⟨hO.2,fun g t hm=>ZL _ (ZA.2 ⟨(g,t),hm,rfl⟩)⟩
theorem Oj (q:Nat){rest:List Oper}{s:Sl α}{z:α}(E:Env b w0 bx is w)(hA:s.A=some ⟨g,0,none⟩)(hz:s.l[k]?=some z)(z':α)
  (h:∀w',Env b w0 bx (is.set q (own (⟨s.A,s.c,s.l.set k z'⟩:Sl α) N)) w'→wpList prog ops Q rest a w')
  (hq:is[q]?=some (both (own s N) (own z' N)):=by rfl) (hg:o.guard=none:=by rfl) (hd:o.dst=none:=by rfl) (ho:o.op=.store ty x y:=by rfl) (hx:a.eval x=.pointer (some ⟨g,k*aj.sz α,none⟩):=by rfl) (hy:(a.eval y).cells.toList=aj.cs z':=by rfl) (hs:(prog.info? ty).map (·.size)=some (aj.sz α):=by kernel_rfl) (ht:aj.ty α ∉ jy.tys α:=by decide):wpList prog ops Q (o::rest) a w:=Wt q E hA hz z' h hq hg hd ho hx hy hs ht
theorem UJ (q:Nat){rest:List Oper}{s:Sl α}{z:α}(E:Env b w0 bx is w)(hA:s.A=some ⟨g,0,none⟩)(hz:s.l[k]?=some z)(z':α)
  (hS:∀w',Env b w0 bx (is.set q (own (⟨s.A,s.c,s.l.set k z'⟩:Sl α) N)) w'→S w') (h:∀w',Env b w0 bx (is.set q (own (⟨s.A,s.c,s.l.set k z'⟩:Sl α) N)) w'→aH prog ops Q S n r a w')
  (hi:ops.toList.drop i=oi::rest:=by rfl) (hq:is[q]?=some (both (own s N) (own z' N)):=by rfl) (hg:oi.guard=none:=by rfl) (hd:oi.dst=none:=by rfl) (ho:oi.op=.store ty x y:=by rfl) (hx:a.eval x=.pointer (some ⟨g,k*aj.sz α,none⟩):=by rfl) (hy:(a.eval y).cells.toList=aj.cs z':=by rfl) (hs:(prog.info? ty).map (·.size)=some (aj.sz α):=by kernel_rfl) (ht:aj.ty α ∉ jy.tys α:=by decide):aH prog ops Q S n ((i,true)::r) a w:=by
 refine sN (aL hi) ?_;refine Wt q E hA hz z' (fun w' E'=>?_) hq hg hd ho hx hy hs ht;exact⟨hS w' E',h w' E'⟩
end
variable{b1 b3 b4 b5 bd:Bool}{s:ByteArray}{l1 l2 l3 l4 l5:List UInt8}{cs' vs:List Value}{g4 g5 g7:Nat}{A:Option Addr}{t7:TypeId}{w':World}
section
open Go.RowKit Bal
attribute [local irreducible] wpList av aH
def WI (o:Option Rp.Rec):Value:=match o with
 |some r=>.tuple #[.agg #[.int .u8 r.k,r.g,r.s,r.b,.string (S r.v)],.int .i64 0]
 |none=>.tuple #[.agg #[.int .u8 0,.int .i64 0,.int .i64 0,.int .i64 0,.string ⟨#[]⟩],.int .i64 8]
theorem RS (p:Rp.St):(Rp.next p).1≤1099511627776:=by
 unfold Rp.next;cases h:Nm.get p.1 with
 |none=>simp
 |some q=>obtain⟨m,k⟩:=q;exact(Nm.gD h).1
theorem gF {l t:List UInt8}{m1 m2 m3 m4 κ:Nat}{b2:Bool}(h1:Rp.next (l,false)=(m1,(l1,b1)))(h2:Rp.next (l1,b1)=(m2,(l2,b2)))(h3:Rp.next (l2,b2)=(m3,(l3,b3)))(hk:m1 % 256=κ)
  (h4:(if Rp.fT (κ:Int) then Rp.next (l3,b3) else(0,(l3,b3)))=(m4,(l4,b4))) (h5:(if Rp.value (κ:Int)&&!b4 then Rp.text (l4,b4) else([],(l4,b4)))=(t,(l5,b5))) :
  Rp.lG l=if b5=false∧l5=[]∧m1≤255∧Rp.gK (κ:Int) m2 m3 m4 t.length=true then some ⟨(κ:Int),m2,m3,m4,t⟩ else none:=by
 subst hk;simp only[Rp.lG,h1,h2,h3,h4,h5]
def Rh (r:Nat)(xs:List UInt8):It where
 p:=fun _ w=>r<w.heap.size∧∀j u,(cb xs)[j]?=some u→w.cell? ⟨r,j,none⟩=some u
 bl:=[r]
 mono:=fun h _=>h
 keep:=fun{b w w'} h hk=>by
  have e:=hk r (Zp.2 rfl);refine⟨?_,fun j u hu=>(World.cell?_of_block e).trans (h.2 j u hu)⟩;rw[ZM h.1] at e;exact(Z6.1 e).1
 lt:=fun h g hg=>by rw[Zp.1 hg];exact h.1
structure RI (r:Nat)(xs:List UInt8)(A:Option Addr)(n c:Nat)(l:List UInt8):Prop where
 rd:∀w:World,(∀j u,(cb xs)[j]?=some u→w.cell? ⟨r,j,none⟩=some u)→Reads w (r+1) 1 A n (cb l)
 nc:n≤c
 cm:c≤9223372036854775807
 n1:n≤1000000
 ln:l.length=n
theorem RI.cut {r n c:Nat}{xs l:List UInt8}(h:RI r xs A n c l)(hk:k≤n):RI r xs (mX A c k) (n - k) (c - k) (l.drop k):=
 ⟨fun w hw=>by rw[←nK];exact(h.rd w hw).rest hk h.nc,by have:=h.nc;omega,by have:=h.cm;omega,by have:=h.n1;omega,by rw[ZK,h.ln]⟩
theorem XF {b:Nat}{w0 w:World}{bx:List Bx}{is:List It}{ops:Array Oper}{Q:Exit→Act→World→Prop}{a:Act}{rest:List Oper}(E:Env b w0 bx is w)(hs:s.size≤1000000)(h:∀(r c:Nat) w',Hid (RI r s.data.toList (some ⟨r,0,none⟩) s.size c s.data.toList)→Env b w0 bx (Rh r s.data.toList::is) w'→wpList prog ops Q rest (a.put o.dst (.slice (some ⟨r,0,none⟩) s.size c)) w')
  (hg:o.guard=none:=by rfl) (ho:o.op=.convert 9 46 x:=by rfl) (hx:a.eval x=s:=by rfl):wpList prog ops Q (o::rest) a w:=by
 refine wpList_plain hg fun K hK=>?_;unfold Oper.wp execOp;simp only[ho,hx,aaV,vX,aaQ,aaW];have hr:=vS w s;have hm:=Fp w s (by unfold maxLen;omega);have hl:(cb s.data.toList).length=s.size:=by rw[cb,Z5];exact size_data s
 refine hK _ _ (h _ _ _ (L_ ⟨fun w' hw=>⟨by rw[hl,ZB],fun _=>⟨_,rfl,by show w.heap.size<_;omega,fun j u hu=>by rw[Addr.add_lit,aah];exact hw j u hu⟩⟩,Ec w s,hm,hs,size_data s⟩) (E.gG (vW w s) (Rh w s.data.toList) ⟨by rw[yN];omega,fun j u hu=>?_⟩ fun g hg=>by rw[Zp.1 hg];exact Zh _));have hp:0<s.size:=by rw[←hl];have:=(Zo.1 hu).1;omega
 obtain⟨ad,hA,hb,hc⟩:=hr.2 hp;injection hA with hA
 subst hA;have:=hc j u hu;rwa[Addr.add_lit,aah] at this
theorem BA {b:Nat}{w0 w:World}{r n c:Nat}{R:List Value}{xs l:List UInt8}{bx:List Bx}{is:List It}(E:Env b w0 ((g7,t7,R)::(g5,4,[bd])::(g4,46,[.slice A n c])::bx) (Rh r xs::is) w)(h:RI r xs A n c l) :
  Calls prog 182 #[g4,g5] w fun e w'=>∃(m:Nat) (l':List UInt8) (b':Bool) (A':Option Addr) (n' c':Nat),Hid (Rp.next (l,bd)=(m,(l',b')))∧Hid (RI r xs A' n' c' l')∧m≤1099511627776∧e=.returned ((m:Int))∧Env b w0 ((g7,t7,R)::(g5,4,[b'])::(g4,46,[.slice A' n' c'])::bx) (Rh r xs::is) w':=by
 obtain⟨⟨m,l',b'⟩,hx⟩:∃p,Rp.next (l,bd)=p:=⟨_,rfl⟩;have hr:r<w.heap.size∧∀j u,(cb xs)[j]?=some u→w.cell? ⟨r,j,none⟩=some u:=E.get 0;have hle:=RS (l,bd);have hd:=Km l bd;rw[hx] at hle hd;simp only at hle hd;refine(Ld g4 g5 A n c (r+1) l l' m bd b' w (E.blk 2 rfl) (E.blk 1 rfl) (h.rd w hr.2) h.nc h.cm h.n1 hx).mono ?_;rintro e w' ⟨rfl,rfl⟩;exact⟨m,l',b',_,_,_,L_ hx,L_ (by rw[hd];exact h.cut (by rw[←h.ln];exact NM l)),hle,rfl,(E.set 1 rfl 0 b').set 2 rfl 0 _⟩
section
variable{P:Program}{ops:Array Oper}{Q:Exit→Act→World→Prop}{K:Act→World→Prop}{a:Act}{w:World}{b:Nat}{w0:World}{bx:List Bx}{is:List It}
theorem QS (k:Nat){rest:List Oper}{cs:List Value}(E:Env b w0 bx is w)(h:K (a.put oi.dst v) w)
  (hi:ops.toList.drop i=oi::rest:=by rfl) (hg:Region.wanted oi (yielded ops a.tmps)=true:=by rfl) (ho:oi.op=.load ty x:=by rfl) (hx:a.eval x=.pointer (some ⟨g,j,none⟩):=by rfl) (hk:bx[k]?=some (g,t,cs):=by rfl) (hv:cs[j]?=some v:=by rfl) (hu:bq P ty=true:=by kernel_rfl):wpOp P ops Q i K a w:=by
 obtain⟨d,hd,hr⟩:=dS hu;unfold wpOp;simp only[aL hi,hg,if_true];refine Or.inl ?_;unfold Oper.wp execOp;simp only[ho,hx,aaV,aaW,aaQ,gX hd hr ((E.cell k hk j).trans hv)];exact h
theorem MG (k:Nat){rest:List Oper}{cs:List Value}(E:Env b w0 bx is w)(h:∀w',Env b w0 bx' is w'→K a w')
  (hi:ops.toList.drop i=oi::rest:=by rfl) (hg:Region.wanted oi (yielded ops a.tmps)=true:=by rfl) (hd:oi.dst=none:=by rfl) (ho:oi.op=.store ty x y:=by rfl) (hx:a.eval x=.pointer (some ⟨g,j,none⟩):=by rfl) (hy:a.eval y=v:=by go_simp<;>with_reducible rfl) (hv:v.cells.toList=vs:=by simp only[Value.cells,List.toList_toArray]<;>rfl) (hi2:(P.info? ty).map (·.size)=some vs.length:=by kernel_rfl) (h1:vs.all (·.oneCell')=true:=by rfl) (hk:bx[k]?=some (g,t,cs):=by rfl) (hl:Nat.ble (j+vs.length) cs.length=true:=by rfl) (hb:bx.set k (g,t,Env.splice cs j vs)=bx':=by first|(dsimp only[Env.splice,List.set_cons_zero,List.set_cons_succ,List.drop_succ_cons,List.drop_zero,List.take_succ_cons,List.take_zero]<;>rfl)|rfl):wpOp P ops Q i K a w:=by
 rw[←hy] at hv;unfold wpOp;simp only[aL hi,hg,if_true];refine Or.inl ?_;unfold Oper.wp execOp;simp only[ho,hx,aaV,eT hv (E.there hk hl) hi2 h1,aaQ,aaW];have E':=Env.Ez k vs E hk j;rw[hb] at E';show K (a.put oi.dst undef) _;rw[hd];exact h _ E'
end
theorem Env.box0 {b:Nat}{w0 w:World}{cs:List Value}{bx:List Bx}{is:List It}(E:Env b w0 ((g,t,cs)::bx) is w)(h:cs=cs'):Env b w0 ((g,t,cs')::bx) is w:=h▸E
theorem jr {l:List UInt8}{w:World}(h:Rp.lG l=none)(hb:Below w w w'):Ending.returned (.tuple #[.agg #[.int .u8 0,.int .i64 0,.int .i64 0,.int .i64 0,.string ⟨#[]⟩],.int .i64 8])=.returned (WI (Rp.lG l))∧Below w w w':=⟨by rw[h];rfl,hb⟩
theorem LK (s:ByteArray)(w:World)(hs:s.size≤1000000) :
  Calls prog 120 #[s] w fun e w'=>e=.returned (WI (Rp.lG s.data.toList))∧Below w w w':=by
 have E:=Env.start w
 go_enter func120,ntmps120
 refine G E [5,70,3,0,4,5,0,9] ?_;clear E;intro g2 w2 E;refine XF E hs ?_;clear E;intro r c w3 i0 E;refine G E [70,3,70,3,61,60,4,5,0,0,4,5,70,3,4,5,0,9] ?_;clear E;intro g4 g5 g7 w8 E;refine ah (BA E i0) ?_;rintro _ w9 ⟨m1,l1,b1,A1,n1,c1,h1,i1,q1,rfl,F⟩;replace E:=F;clear F;refine G0 [26,0,4] ?_;obtain⟨κ,hκ⟩:∃κ,m1 % 256=κ:=⟨_,rfl⟩;have hκ2:κ≤255:=by omega
 have hand:=U1 m1 (by omega);rw[hκ] at hand;replace hκ:=L_ hκ;have hu:IntKind.u8.wrap (κ:Int)=(κ:Int):=by rw[IntKind.wrap_u8];omega
 refine G0 [5,84,0] ?_;refine ah (BA E i1) ?_;rintro _ w10 ⟨m2,l2,b2,A2,n2,c2,h2,i2,q2,rfl,F⟩;replace E:=F;clear F;refine G0 [26,0] ?_;refine ah (BA E i2) ?_;rintro _ w11 ⟨m3,l3,b3,A3,n3,c3,h3,i3,q3,rfl,F⟩;replace E:=F;clear F;refine G E [26,0,60,0,60,0,60,4,9] ?_;clear E;intro w14 E;clear hand hu;refine G E [5,0,40] ?_;refine ah (Cn (κ:Int) _) ?_;rintro _ w15 ⟨rfl,rfl⟩;refine G0 [26,83] ?_;cases hvo:Rp.fT (κ:Int)
 case' true=>
  refine G0 [4,6,5,0,4,7,23,0] ?_;refine ah (BA E i3) ?_;rintro _ w16 ⟨m4,l4,b4,A4,n4,c4,h4,i4,q4,rfl,F⟩;replace E:=F;clear F;refine G E [26,0,60,4,6,9] ?_;clear E;intro w17 E;have H4:Hid ((if Rp.fT (κ:Int) then Rp.next (l3,b3) else(0,(l3,b3)))=(m4,(l4,b4))):=L_ (by rw[hvo];exact h4);clear hvo
 case' false=>
  refine G0 [4,6,5,0,4,8,15,6] ?_;obtain⟨m4,hm4⟩:∃m4:Nat,0=m4:=⟨_,rfl⟩;have H4:Hid ((if Rp.fT (κ:Int) then Rp.next (l3,b3) else(0,(l3,b3)))=(m4,(l3,b3))):=L_ (by rw[hvo,←hm4];rfl);have q4:m4≤1099511627776:=by omega
  replace E:=E.box0 (cs':=[.int .u8 (κ:Int),(m2:Int),(m3:Int),(m4:Int),.string ⟨#[]⟩]) (by rw[←hm4];rfl);have i4:=i3;clear hvo hm4;generalize b3=b4 at *;generalize l3=l4 at *;generalize A3=A4 at *;generalize n3=n4 at *;generalize c3=c4 at *
 all_goals
  cases hv:Rp.value (κ:Int)
  case false=>
   refine G0 [5,0,0,1,1,0,4,8,15,6] ?_;have hts:Hid (ByteArray.size ⟨#[]⟩=([]:List UInt8).length):=L_ rfl;cases b4
   case true=>
    have H5:Hid ((if Rp.value (κ:Int)&&!true then Rp.text (l4,true) else([],(l4,true)))=([],(l4,true))):=L_ (by rw[hv];rfl);refine G E [5,41,0,1,81,2,2,4,7,5,0,63,0,4,22,24,9] ?_;clear E;intro w18 E;exact aI 3 E (jr (by rw[gF h1.out h2.out h3.out hκ.out H4.out H5.out];exact aaR (by rintro⟨h,_⟩;cases h)) E.aD)
   case false=>
    have H5:Hid ((if Rp.value (κ:Int)&&!false then Rp.text (l4,false) else([],(l4,false)))=([],(l4,false))):=L_ (by rw[hv];rfl);refine G E [5,41,0,42,0] ?_
    by_cases z0:0<n4
    case pos=>
     refine G E [84,1,80,2,2,4,7,5,0,63,0,4,22,24,9] ?_;clear E;intro w19 E;exact aI 3 E (jr (by rw[gF h1.out h2.out h3.out hκ.out H4.out H5.out];exact aaR (by rintro⟨_,h,_⟩;have:=i4.ln;rw[h] at this;simp at this;omega)) E.aD)
    case neg=>
     refine G0 [84,0] ?_
     by_cases mm:(255:Int)<(m1:Int)
     case pos=>
      refine G E [84,1,1,1,0,4,7,5,0,63,0,4,22,24,9] ?_;clear E;intro w20 E;exact aI 3 E (jr (by rw[gF h1.out h2.out h3.out hκ.out H4.out H5.out];exact aaR (by rintro⟨_,_,h,_⟩;omega)) E.aD)
     case neg=>
      refine G0 [84] ?_;refine oC 0 5 E ?_;refine ah (kK (κ:Int) m2 m3 m4 ⟨#[]⟩ _ (by rw[hts.out];first|decide|omega) (by omega) (by omega)) ?_;rintro _ w21 ⟨rfl,hb⟩;replace E:=E.up hb;clear hb;refine G0 [26] ?_;cases hm:Rp.gK (κ:Int) m2 m3 m4 ([]:List UInt8).length
      case false=>
       rw[hts.out,IK hm];refine G E [0,0,4,7,5,0,63,0,4,22,24,9] ?_;clear E;intro w22 E;exact aI 3 E (jr (by rw[gF h1.out h2.out h3.out hκ.out H4.out H5.out];exact aaR (by rintro⟨_,_,_,h⟩;rw[hm] at h;cases h)) E.aD)
      case true=>
       rw[hts.out,Nz hm];refine G0 [0,0,4,8,15,5] ?_;refine aB 0 5 E ?_;refine G E [63,0,4,22,9] ?_;clear E;intro w23 E;exact aI 3 E ⟨by rw[gF h1.out h2.out h3.out hκ.out H4.out H5.out,aaS ⟨rfl,ZY (by have:=i4.out.ln;omega),by omega,hm⟩];rfl,E.aD⟩
  case true=>
   refine G E [5,0,0,41] ?_;cases b4
   case true=>
    refine G0 [0,0,4,8,15,6] ?_;have H5:Hid ((if Rp.value (κ:Int)&&!true then Rp.text (l4,true) else([],(l4,true)))=([],(l4,true))):=L_ (by rw[hv];rfl);refine G E [5,41,0,1,81,2,2,4,7,5,0,63,0,4,22,24,9] ?_;clear E;intro w24 E;exact aI 3 E (jr (by rw[gF h1.out h2.out h3.out hκ.out H4.out H5.out];exact aaR (by rintro⟨h,_⟩;cases h)) E.aD)
   case false=>
    refine G E [0,0,4,7,5,42] ?_;cases hg:Nm.bE l4
    case none=>
     refine ah ((by have h:=lX A4 n4 c4 (r+1) l4 _ (i4.rd _ (show _∧_ from E.get 0).2) i4.nc (by have:=i4.n1;omega);rw[hg] at h;exact h)) ?_;rintro _ w25 ⟨rfl,rfl⟩;simp only[pF];refine G0 [26,83,0,0,4] ?_;have hsl:=fun w=>gu (P:=prog) underlying46 A4 n4 c4 0 (Zq _) w jS;refine fO 3 9 E ?_;clear E;intro w30 E;refine ay 0 E ?_;refine ay 2 E ?_;refine ay 4 E ?_;refine ay 5 E ?_;refine ay 6 E ?_;refine IJ 1 7 (QS 2 E ?_) (MG 0 E ?_)
     case' refine_1=>
      refine⟨(E.drop 3).weak,dL ?_⟩;refine ay 3 E ?_;refine T_1 7 (MG 0 E ?_);clear E;intro w31 E;refine⟨(E.drop 3).weak,dL ?_⟩
     case' refine_2=>
      clear E;intro w31 E;refine⟨(E.drop 3).weak,dL ?_⟩;refine T_1 1 (QS 2 E ?_);refine⟨(E.drop 3).weak,dL ?_⟩;refine ay 3 E ?_
     all_goals
      refine T_1 8 (MG 2 E ?_);clear E;intro w32 E;refine⟨(E.drop 3).weak,dL ?_⟩;refine G E [30,61,4,6,9] ?_;clear E;intro w33 E;have H5:Hid ((if Rp.value (κ:Int)&&!false then Rp.text (l4,false) else([],(l4,false)))=([],(l4,true))):=L_ (by rw[hv];show Rp.text (l4,false)=_;unfold Rp.text;rw[hg]);refine G E [5,41,0,1,81,2,2,4,7,5,0,63,0,4,22,24,9] ?_;clear E;intro w26 E;exact aI 3 E (jr (by rw[gF h1.out h2.out h3.out hκ.out H4.out H5.out];exact aaR (by rintro⟨h,_⟩;cases h)) E.aD)
    case some=>
     rename_i p
     obtain⟨t,k⟩:=p;have hkl:=(Nm.bG hg).2.2.1;have htl:=(Nm.bG hg).1;have hts:Hid (ByteArray.size (S t)=t.length):=L_ (kZ _);have i5:=L_ (i4.cut (k:=k) (by rw[←i4.out.ln];exact hkl));refine ah ((by have h:=lX A4 n4 c4 (r+1) l4 _ (i4.rd _ (show _∧_ from E.get 0).2) i4.nc (by have:=i4.n1;omega);rw[hg] at h;exact h)) ?_;rintro _ w27 ⟨rfl,rfl⟩;simp only[pF];refine G0 [26,83,0,0,4] ?_;have hsl:=fun w=>gu (P:=prog) underlying46 A4 n4 c4 k (by rw[←i4.out.ln];exact hkl) w jS;refine fO 3 9 E ?_;clear E;intro w30 E;refine ay 0 E ?_;refine ay 2 E ?_;refine ay 4 E ?_;refine ay 5 E ?_;refine ay 6 E ?_;refine IJ 1 7 (QS 2 E ?_) (MG 0 E ?_)
     case' refine_1=>
      refine⟨(E.drop 3).weak,dL ?_⟩;refine ay 3 E ?_;refine T_1 7 (MG 0 E ?_);clear E;intro w31 E;refine⟨(E.drop 3).weak,dL ?_⟩
     case' refine_2=>
      clear E;intro w31 E;refine⟨(E.drop 3).weak,dL ?_⟩;refine T_1 1 (QS 2 E ?_);refine⟨(E.drop 3).weak,dL ?_⟩;refine ay 3 E ?_
     all_goals
      refine T_1 8 (MG 2 E ?_);clear E;intro w32 E;refine⟨(E.drop 3).weak,dL ?_⟩;refine G E [30,61,4,6,9] ?_;clear E;intro w33 E;have H5:Hid ((if Rp.value (κ:Int)&&!false then Rp.text (l4,false) else([],(l4,false)))=(t,(l4.drop k,false))):=L_ (by rw[hv];show Rp.text (l4,false)=_;unfold Rp.text;rw[hg]);refine G E [5,41,0,42,0] ?_
      by_cases z0:0<n4 - k
      case pos=>
       refine G E [84,1,80,2,2,4,7,5,0,63,0,4,22,24,9] ?_;clear E;intro w28 E;exact aI 3 E (jr (by rw[gF h1.out h2.out h3.out hκ.out H4.out H5.out];exact aaR (by rintro⟨_,h,_⟩;have:=i5.ln;rw[h] at this;simp at this;omega)) E.aD)
      case neg=>
       refine G0 [84,0] ?_
       by_cases mm:(255:Int)<(m1:Int)
       case pos=>
        refine G E [84,1,1,1,0,4,7,5,0,63,0,4,22,24,9] ?_;clear E;intro w29 E;exact aI 3 E (jr (by rw[gF h1.out h2.out h3.out hκ.out H4.out H5.out];exact aaR (by rintro⟨_,_,h,_⟩;omega)) E.aD)
       case neg=>
        refine G0 [84] ?_;refine oC 0 5 E ?_;refine ah (kK (κ:Int) m2 m3 m4 (S t) _ (by rw[hts.out];first|decide|omega) (by omega) (by omega)) ?_;rintro _ w30 ⟨rfl,hb⟩;replace E:=E.up hb;clear hb;refine G0 [26] ?_;cases hm:Rp.gK (κ:Int) m2 m3 m4 (t:List UInt8).length
        case false=>
         rw[hts.out,IK hm];refine G E [0,0,4,7,5,0,63,0,4,22,24,9] ?_;clear E;intro w31 E;exact aI 3 E (jr (by rw[gF h1.out h2.out h3.out hκ.out H4.out H5.out];exact aaR (by rintro⟨_,_,_,h⟩;rw[hm] at h;cases h)) E.aD)
        case true=>
         rw[hts.out,Nz hm];refine G0 [0,0,4,8,15,5] ?_;refine aB 0 5 E ?_;refine G E [63,0,4,22,9] ?_;clear E;intro w32 E;exact aI 3 E ⟨by rw[gF h1.out h2.out h3.out hκ.out H4.out H5.out,aaS ⟨rfl,ZY (by have:=i5.out.ln;omega),by omega,hm⟩];rfl,E.aD⟩
end
section
attribute [local irreducible] wpList av aH
def dI.pl (x:dI):Int×List Int×Int×ByteArray×ByteArray×Int×Bool:=(x.m.i,x.m.g.l,x.m.t,x.m.key,x.m.body,x.t,x.f)
theorem Ip {l l':List dI}(h:l'.map dI.pl=l.map dI.pl){x:dI}(hx:l'[k]?=some x):∃y,l[k]?=some y∧x.pl=y.pl:=by
 have h1:(l'.map dI.pl)[k]?=some x.pl:=by rw[ZU,hx];rfl
 rw[h,ZU] at h1;cases hy:l[k]? with
 |none=>rw[hy] at h1;cases h1
 |some y=>
  rw[hy] at h1;exact⟨y,rfl,(Z4 h1).symm⟩
theorem Iw {l l':List dI}(h:l'.map dI.pl=l.map dI.pl){x:dI}(hx:x∈l'):∃y∈l,x.pl=y.pl:=by
 obtain⟨k,hk⟩:=aaF hx;obtain⟨y,hy,e⟩:=Ip h hk;exact⟨y,Zk hy,e⟩
theorem CJ {l l':List dI}(h:l'.map dI.pl=l.map dI.pl):l'.length=l.length:=by simpa using congrArg List.length h
theorem SX {x y:dI}(h:x.pl=y.pl){M:MP}(hm:y.m.is M):x.m.is M:=by
 simp only[dI.pl,ZV] at h;obtain⟨h1,h2,h3,h4,h5,-,-⟩:=h;unfold sU.is at *;rw[h1,h2,h3,h4,h5];exact hm
theorem FQ {x y:dI}(h:x.pl=y.pl):x.m.i=y.m.i:=by
 simp only[dI.pl,ZV] at h;exact h.1
theorem vV.pl {l l':List dI}(hs:vV l)(h:l'.map dI.pl=l.map dI.pl):vV l':=by
 refine⟨List.pairwise_iff_getElem.2 fun i j hi hj hij=>?_,fun x hx=>?_⟩
 ·obtain⟨y,hy,e⟩:=Ip h (Zl hi);obtain⟨z,hz,e2⟩:=Ip h (Zl hj);rw[FQ e,FQ e2];exact hs.lt hij hy hz
 ·obtain⟨y,hy,e⟩:=Iw h hx;rw[FQ e];exact hs.2 y hy
structure Bv (X Y:iW):Prop where
 ck:Y.ck=X.ck
 dn:Y.dn.l=X.dn.l
 wa:Y.wa.l.map dI.pl=X.wa.l.map dI.pl
theorem Bv.ok {M:MP}{X Y:iW}(h:Bv X Y)(o:qP M X):qP M Y:=
 ⟨by rw[h.ck];exact o.ck,o.so.pl h.wa,by rw[CJ h.wa];exact o.len,fun x hx=>by
  obtain⟨y,hy,e⟩:=Iw h.wa hx;exact SX e (o.m y hy)⟩
theorem map_set {l:List dI}{x y:dI}(hx:l[k]?=some x)(e:y.pl=x.pl):(l.set k y).map dI.pl=l.map dI.pl:=by
 rw[List.map_set,e];refine List.ext_getElem? fun i=>?_;rw[aaH]
 split
 ·rename_i h
  subst h;rw[ZU,hx]
  split
  ·rfl
  ·rename_i h2;exact absurd (by simpa using (Zo.1 hx).1) h2
 ·rfl
theorem DK (X:iW)(w:World)(N:Nat)(hl:au.aA w w N X)(hN:N≤100000) :
  Calls prog 78 #[X] w fun e w'=>∃Y:iW,e=.returned (Y)∧Hid (Bv X Y)∧Env w w [] (pO Y N) w':=by
 have HL:=L_ hl;have hwn:X.wa.l.length≤N:=hl.1.2.2.2.1;clear hl;have E:=Env.start w
 go_enter func78,ntmps78
 refine GD E [5,71,3,70,3,9] ?_;clear E;intro g1 g2 w3 E;refine aC (bP 0 7 [] (aaL [0,1,3,4]++aaN [2]++aaL [6]++aaN [5]) E ?_);clear E;intro w4 E;refine GD E [32,51,32,51] ?_;refine bT (Ze CB E HL.1) ?_;clear E;rintro _ w5 ⟨r,rfl,hr,E⟩;refine⟨_,rfl,E.weak,D_n ?_⟩;refine ni E ?_;refine bT (qg Dg E HL.2) ?_;clear E;rintro _ w6 ⟨d,rfl,hd,E⟩;refine⟨_,rfl,E.weak,D_n ?_⟩;refine GD E [29,61,0,61,4,6,5,0,41,0,0,4,19,9] ?_;clear E;intro w8 E;have hrN:r.l.length≤N:=by rw[hr.out];exact hwn
 go_loopw [15] (fun y wr=>∃(k:Nat) (l:List dI),y=(k:Int)∧k≤r.l.length∧Hid (l.length=r.l.length∧l.map dI.pl=X.wa.l.map dI.pl∧∀i,k≤i→l[i]?=X.wa.l[i]?)∧Env w w [(g2,69,[.int .i64 0,(),()]),(g1,69,[X.ck,r,d])] (fG (⟨r.A,r.c,l⟩:Sl dI) N::fB (l.take k) N::own d N::[]) wr) (fun y _=>r.l.length - (intOf y).toNat)
 case atStart=>exact⟨0,r.l,rfl,Zq _,L_ ⟨rfl,by rw[hr.out],fun i _=>by rw[hr.out]⟩,(E.perm (ZW _ _ _)).VH.perm (ZW _ _ _)⟩
 case round=>
  clear E;obtain⟨k,l,rfl,hk,HI,E⟩:=hrel;have hll:=HI.1
  by_cases hlt:k<r.l.length
  case pos=>
   have hw:IntKind.i64.wrap ((k:Int)+1)=((k+1:Nat):Int):=by rw[aaP _ (by omega)];rfl
   obtain⟨x,hx⟩:∃x,l[k]?=some x:=⟨_,Zl (by omega)⟩;have hx2:X.wa.l[k]?=some x:=(HI.2.2 k (Zh _))▸hx;obtain⟨g,cur,hA,-,-,-⟩:=(show Sl.Row _ _ (⟨r.A,r.c,l⟩:Sl dI)∧_ from E.get 0).1.at_ hx;have hA2:r.A=some ⟨g,0,none⟩:=hA;have HX:=L_ hx;have HX2:=L_ hx2;clear hx hx2 hA hll;refine G0 [5,0,4,16,15,18,5,0,0] ?_;refine aC (ng 0 11 (fG (⟨r.A,r.c,l⟩:Sl dI) N::fB (l.take k) N::own d N::[]) (aaL [0,1,2,3,4,5,6,7,8,9]++aaN [10]) E ?_);clear E;intro w9 E;refine GD E [32,51,32,32,51,32,32,32,32] ?_;refine ug E (v:=x.m.g) (fun w' E'=>by obtain⟨g',cur',h1,-,-,h4⟩:=(show Sl.Row w' w (⟨r.A,r.c,l⟩:Sl dI)∧_ from E'.get 0).1.at_ HX;have h5:some (⟨g',0,none⟩:Addr)=some ⟨g,0,none⟩:=h1.symm.trans hA2;injection h5 with h5;injection h5 with h5;subst h5;exact h4 1 _ rfl) ?_;refine bT (qg bY E (HL.1.2.2.2.2 x (Zk HX2))) ?_;clear E;rintro _ w10 ⟨g2',rfl,hg2,E⟩;refine⟨_,rfl,E.sub (by first|exact Zi _|exact List.drop_sublist _ _) (by first|exact Zi _|exact List.sublist_append_right _ _|exact Zj _ (Zi _)),D_n ?_⟩;refine GD E [29,84] ?_;refine AA (s:=⟨r.A,r.c,l⟩) 1 E hA2 HX ⟨⟨x.m.i,g2',x.m.t,x.m.key,x.m.body⟩,x.t,x.f⟩ ?_;clear E;intro w11 E;have hp:(⟨⟨x.m.i,g2',x.m.t,x.m.key,x.m.body⟩,x.t,x.f⟩:dI).pl=x.pl:=by simp only[dI.pl,hg2.out]
   replace E:=(E.conv 0 (own (⟨⟨x.m.i,g2',x.m.t,x.m.key,x.m.body⟩,x.t,x.f⟩:dI) N) (fun h=>h) (fun g hg=>hg)).perm ((ZW _ _ _).trans (List.Perm.cons _ (List.Perm.refl _)));replace E:=(E.perm ((ZW _ _ _).trans (List.Perm.cons _ (ZW _ _ _)))).Tk;rw[show l.take k++[(⟨⟨x.m.i,g2',x.m.t,x.m.key,x.m.body⟩,x.t,x.f⟩:dI)]=(l.set k ⟨⟨x.m.i,g2',x.m.t,x.m.key,x.m.body⟩,x.t,x.f⟩).take (k+1) by rw[ZP,List.getElem?_set_self (by have:=HI.out.1;omega),List.take_set_of_le (Zh _)];rfl] at E;refine G0 [20,23,0,0,25] ?_
   go_roundw
   case rel=>exact⟨k+1,_,rfl,hlt,L_ ⟨by rw[Z7];exact HI.1,by rw[map_set HX.out hp];exact HI.2.1,fun i hi=>by rw[List.getElem?_set_ne (by omega)];exact HI.2.2 i (by omega)⟩,E.perm (ZW _ _ _)⟩
   case measure=>simp[intOf];omega
  case neg=>
   refine G0 [5,0,4,17,27,28] ?_;have hkl:l.take k=l:=Zz (by omega);rw[hkl] at E;clear hkl;refine bN ?_;refine aB 1 3 E ?_;refine lQ 0 E ?_;clear E;intro w12 E;rw[←HI.out.1] at E;refine G0 [4,22] ?_;exact nI 0 E ⟨⟨X.ck,⟨r.A,r.c,l⟩,d⟩,rfl,L_ ⟨rfl,hd,HI.2.1⟩,(E.drop 2).glue (s:=⟨r.A,r.c,l⟩)⟩
theorem Ih (w:World):Calls prog 71 #[] w fun e w'=>e=.returned ((⟨0,⟨none,0,[]⟩,⟨none,0,[]⟩⟩:iW))∧Below w w w':=by
 have E:=Env.start w
 go_enter func71,ntmps71
 refine GD E [5,70,3,4,5,0,60,4,22,9] ?_;clear E;intro g0 w3 E;exact nI 0 E ⟨rfl,E.aD⟩
end
variable{bx:List Bx}{B N b:Nat}{w w0:World}
section
attribute [local irreducible] wpList av aH
def lJ.hc (c:lJ):HC:=⟨c.k,c.m.i,c.m.g.A,c.m.g.l.length,c.m.g.c,c.m.g.l,c.m.t,c.m.key,c.m.body,c.i,c.tm,c.me.A,c.me.l.length,c.me.c,c.me.l,c.tp,c.who,c.n⟩
structure ny (c:lJ):Prop where
 k:0≤c.k∧c.k≤255
 m:c.m.is F5
 i:i64 c.i
 tm:i64 c.tm
 me:∀x∈c.me.l,i64 x
 tp:i64 c.tp
 who:i64 c.who
 n:i64 c.n
theorem lJ.at_ {c:lJ}(h:au.aA w B N c)(hc:ny c):bK w B c.hc:=by
 obtain⟨h1,h2,h3,h4,h5⟩:=hc.m;have hg:=h.1.2.2.1;have hm:=h.2.2.2.1;unfold maxLen at hg hm;exact⟨by have:=h.1.1;rw[fF] at this;exact this,by have:=h.2.1;rw[fF] at this;exact this,h.1.2.1,Zt hg (by decide),h.2.2.1,Zt hm (by decide),hc.k,Zt h4 (by decide),Zt h5 (by decide),h3,hc.me,h1,h2,hc.i,hc.tm,hc.tp,hc.who,hc.n⟩
theorem JM (c:lJ)(w:World)(N:Nat)(h:au.aA w w N c)(hc:ny c):Calls prog 66 #[c] w fun e w'=>∃v:Int,e=.returned v∧Hid (v=0↔Cp.dU c.hc.cmd=true)∧Below w w w':=
 (r9 c.hc w (c.at_ h hc) _ rfl).mono fun e w' ⟨h1,h2⟩=>⟨_,h1,L_ (by unfold LV;split<;>simp_all),h2⟩
theorem Si {c:lJ}(h:Cp.dU c.hc.cmd=true)(hk:c.k=1):Cp.lS c.m.hc.cmd=true:=by
 have e1:c.hc.cmd.k=1:=hk;unfold Cp.dU at h;rw[aaR (by omega),aaS e1] at h;simp only[Zr] at h;rw[Cp.BJ] at *;exact h.1.1.1.1.1.1
theorem Jf {c:lJ}(h:Cp.dU c.hc.cmd=true)(hk:c.k=2):(0≤c.i∧c.i≤1099511627776)∧1≤c.tm∧c.tm≤1073741824:=by
 have e1:c.hc.cmd.k=2:=hk;unfold Cp.dU at h;rw[aaR (by omega),aaR (by omega),aaS e1] at h;simp only[Zr] at h;have h1:=h.1.1.1.1.1.2;have h2:=h.1.1.1.1.2;unfold Wp.mY at h1;unfold Cp.mE at h2;have h3:=aae h1;have h4:=aae h2;have e2:c.hc.cmd.i=c.i:=rfl;have e3:c.hc.cmd.tm=c.tm:=rfl;omega
structure Dr (X:iW)(iU:Int)(c:lJ):Prop where
 x:X.ck=0∧X.wa.l=[]∧X.dn.l=[]
 k:c.k=1
 g:0≤iU∧iU<4∧iU∈c.m.g.l
 may:Cp.dU c.hc.cmd=true
structure BH (X:iW)(iU:Int)(c:lJ)(y:dI):Prop where
 ck:0≤X.ck∧X.ck≤1073741824
 x:X.wa.l=[y]∧X.dn.l=[]
 ok:y.f=false∧y.m.i=c.i∧y.t≤c.tm∧1≤y.t∧y.t≤X.ck
 m:Cp.lS y.m.hc.cmd=true
 k:c.k=2
 g:0≤iU∧iU<4
 may:Cp.dU c.hc.cmd=true
theorem Dr.easy {X:iW}{iU:Int}{c:lJ}(h:Dr X iU c):uY X:=⟨by have:=h.x.1;omega,h.x.2.2,Or.inl h.x.2.1⟩
theorem BH.easy {X:iW}{iU:Int}{c:lJ}{x:dI}(h:BH X iU c x):uY X:=⟨h.ck,h.x.2,Or.inr ⟨x,h.x.1,h.m,h.ok.2.2.2.1,h.ok.2.2.2.2,h.ok.1⟩⟩
structure zP (M:MP)(X:iW)(iU:Int)(c:lJ)(Y:iW)(lo:List zw)(v:Int):Prop where
 ck:0≤Y.ck∧Y.ck≤1073741824
 m:∀x∈Y.wa.l,x.m.is M
 n:lo.length≤200
 new:Dr X iU c→v=0∧Y.ck=1∧Y.dn.l=[]∧lo=[]∧∃g:Sl Int,g.l=c.m.g.l∧Y.wa.l=[⟨⟨c.m.i,g,c.m.t,c.m.key,c.m.body⟩,1,false⟩]
 fin:∀x,BH X iU c x→v=0∧Y.dn.l=[⟨c.tm,x.m.i⟩]∧∃x':dI,x'.pl=x.pl∧lo=[x'.m.fl]
def oq:iW:=⟨0,⟨none,0,[]⟩,⟨none,0,[]⟩⟩
theorem Env.oq {is:List It}(E:Env b w0 bx is w)(N:Nat):Env b w0 bx (own (⟨none,0,[]⟩:Sl zw) N::(pO oq N++is)) w:=((E.aO (α:=zx) (N:=N)).aO (α:=dI) (N:=N)).aO (α:=zw) (N:=N)
theorem zP.z {M:MP}{X:iW}{iU:Int}{c:lJ}{v:Int}(h:Dr X iU c→False)(h2:∀x,BH X iU c x→False):zP M X iU c oq [] v:=⟨by decide,fun x hx=>(by cases hx),Zq _,fun a=>(h a).elim,fun x a=>(h2 x a).elim⟩
structure Pn (M:MP)(X:iW)(iU:Int)(c:lJ)(Y:iW):Prop where
 ok:qP M Y
 dn:Y.dn.l=X.dn.l
 new:Dr X iU c→Y.ck=1∧∃g:Sl Int,g.l=c.m.g.l∧Y.wa.l=[⟨⟨c.m.i,g,c.m.t,c.m.key,c.m.body⟩,1,false⟩]
 fin:∀x,BH X iU c x→∃x':dI,x'.pl=x.pl∧Y.wa.l=[⟨x'.m,c.tm,true⟩]
theorem Pn.end_ {M:MP}{X Y Z:iW}{iU:Int}{c:lJ}{lo:List zw}(h:Pn M X iU c Y)(d:Rl Y Z lo)(hx:X.dn.l.length≤200):zP M X iU c Z lo 0:=by
 have o:=d.ok h.ok;refine⟨o.ck,o.m,?_,fun a=>?_,fun x a=>?_⟩
 ·have:=d.m;have:=h.ok.len;omega
 ·obtain⟨h1,g,h2,h3⟩:=h.new a
  rcases d.one _ h3 with ⟨e1,e2,e3⟩|⟨e1,-⟩
  ·exact⟨rfl,by rw[d.ck,h1],by rw[e2,h.dn,a.x.2.2],e3,g,h2,e1⟩
  ·cases e1
 ·obtain⟨x',h2,h3⟩:=h.fin x a;obtain⟨-,e1,e2,e3⟩:=d.all _ h3 rfl;refine⟨rfl,?_,x',h2,e3⟩;rw[e2,h.dn,a.x.2];simp only[aay];rw[FQ h2]
theorem yH (M:MP)(X:iW)(iU:Int)(c:lJ)(w:World)(N:Nat)(hX:au.aA w w N X)(hc:au.aA w w N c)(hN:N≤100000)(hN2:1000≤N)(hM:∀x∈X.wa.l,x.m.is M)(hW:∀i g t k b,M i g t k b→F5 i g t k b)(hcw:ny c)(hcM:c.k=1→c.m.is M) :
  Calls prog 74 #[X,iU,c] w fun e w'=>∃(Y:iW) (lo:Sl zw) (v:Int),e=.returned (.tuple #[Y,lo,v])∧Hid (zP M X iU c Y lo.l v)∧Env w w [] (own lo N::pO Y N) w':=by
 have HX:=L_ hX;have HC:=L_ hc;have HM:=L_ hM;have HW:=L_ hW;have HCW:=L_ hcw;have HCM:=L_ hcM;clear hX hc hM hW hcw hcM;have E:=Env.start w
 go_enter func74,ntmps74
 refine G E [5,71,3,71,3,70,3,0,0,4,6,5,9] ?_;clear E;intro g3 g5 g6 w4 E;refine aB 2 3 E ?_;refine ah (Nk X _ N (E.h HX) hN (fun x hx=>HW _ _ _ _ _ (HM x hx))) ?_;rintro _ w5 ⟨v,rfl,hv,hb⟩;replace E:=E.up hb;clear hb;replace hv:=L_ hv;refine G0 [26] ?_
 by_cases h0:v=0
 case neg=>
  refine G E [0,4,5,0,0,4,7,5,0,0,60,0,0,4,22,24,9] ?_;clear E;intro w6 E;exact mQ 0 E ⟨oq,⟨none,0,[]⟩,v,rfl,L_ (zP.z (fun a=>h0 (hv.2 a.easy)) (fun x a=>h0 (hv.2 a.easy))),(E.drop 3).oq N⟩
 subst h0;refine G0 [0,4,5,0,0,4,8,15,6,5,0] ?_
 by_cases c1:iU<0
 case pos=>
  refine G E [0,0,1,1,0,4,7,5,0,60,0,0,4,22,24,9] ?_;clear E;intro w7 E;exact mQ 0 E ⟨oq,⟨none,0,[]⟩,2,rfl,L_ (zP.z (fun a=>by have:=a.g;omega) (fun x a=>by have:=a.g;omega)),(E.drop 3).oq N⟩
 refine G0 [84] ?_
 by_cases c2:4≤iU
 case pos=>
  refine G E [0,0,4,7,5,0,60,0,0,4,22,24,9] ?_;clear E;intro w8 E;exact mQ 0 E ⟨oq,⟨none,0,[]⟩,2,rfl,L_ (zP.z (fun a=>by have:=a.g;omega) (fun x a=>by have:=a.g;omega)),(E.drop 3).oq N⟩
 refine G0 [0,0,4,8,15,6,5] ?_;clear c1 c2;refine aB 1 12 E ?_;refine ah (JM c _ N (E.h HC) HCW) ?_;rintro _ w9 ⟨v2,rfl,hv2,hb⟩;replace E:=E.up hb;clear hb;refine G0 [26] ?_
 by_cases h1:v2=0
 case neg=>
  refine G E [0,4,5,0,0,4,7,5,0,0,60,0,0,4,22,24,9] ?_;clear E;intro w10 E;exact mQ 0 E ⟨oq,⟨none,0,[]⟩,v2,rfl,L_ (zP.z (fun a=>h1 (hv2.2 a.may)) (fun x a=>h1 (hv2.2 a.may))),(E.drop 3).oq N⟩
 subst h1;refine G0 [0,4,5,0,0,4,8,15,5] ?_;refine aB 2 3 E ?_;refine ah (DK X _ N (E.h HX) hN) ?_;rintro _ w11 ⟨Y,rfl,hY,F⟩;replace E:=E.call F;clear F;refine G E [26,0,71,3,0,4,6,9] ?_;clear E;intro g36 w12 E;have hmay:=L_ (hv2.1 rfl);have hchk:=L_ (hv.1 rfl);have HO:Hid (qP M Y):=L_ (hY.ok ⟨hchk.1,hchk.2.2.2,hchk.2.1,HM⟩);clear hv hv2;refine G E [5,0,42,4,19,5] ?_
 by_cases k1:(c.k==1)=true
 case' pos=>
  have k1p:c.k=1:=by simpa using k1
  have K1:=L_ k1p;clear k1p;refine G0 [0,0,4,7,5,84] ?_;refine aB 2 5 E ?_;refine ah (Ob g36 N Y iU c.m _ E (HC.1) hN hN2 HO.ck HO.len) ?_;clear E;rintro _ w13 ⟨v3,Z,rfl,hZ,E⟩;refine G0 [26] ?_
  by_cases h3:v3=0
  case neg=>
   refine G E [0,4,5,0,0,4,7,5,0,0,61,0,0,4,22,24,9] ?_;clear E;intro w14 E;exact mQ 1 E ⟨oq,⟨none,0,[]⟩,v3,rfl,L_ (zP.z (fun a=>h3 (hZ.new (by have:=CJ hY.wa;rw[a.x.2.1] at this;simpa using this) (by rw[hY.out.dn];exact a.x.2.2) a.g.2.2 (by rw[hY.out.ck];exact a.x.1)).1) (fun x a=>by have:=a.k;have:=K1.out;omega)),((E.drop 4).sub (Zi _) (Zy _)).oq N⟩
  subst h3;refine G0 [0,4,5,0,0,4,8,21,5] ?_
  have HMid:Hid (Pn M X iU c Z):=L_ ⟨hZ.ok HO (HCM K1) (JA (Si hmay K1)),by rw[hZ.out.dn,hY.out.dn],fun a=>by
   have e1:Y.ck=0:=by rw[hY.out.ck];exact a.x.1
   have e2:Y.wa.l=[]:=by have:=CJ hY.wa;rw[a.x.2.1] at this;simpa using this
   rcases hZ.r with rfl|⟨r1,-,-,k,g,r2,-,r3⟩
   ·exact absurd rfl (hZ.new e2 (by rw[hY.out.dn];exact a.x.2.2) a.g.2.2 e1).2
   ·exact⟨by rw[r1,e1];rfl,g,r2,by rw[r3,e2,e1];simp⟩,fun x a=>by have:=a.k;have:=K1.out;omega⟩
  clear hZ HO k1
 case' neg=>
  replace k1:(c.k==1)=false:=by simpa using k1
  refine G0 [0,0,4,8,5] ?_
  by_cases k2:(c.k==2)=true
  case' pos=>
   have k2p:c.k=2:=by simpa using k2
   have K2:=L_ k2p;clear k2p;refine G E [0,0,4,7,23,0,0,42,0,42] ?_;refine ah (QA g36 N Y c.i c.tm _ E hN HO.so (Jf hmay K2).1) ?_;clear E;rintro _ w15 ⟨Z,rfl,hZ,E⟩;refine G0 [26,20,5] ?_
   have HMid:Hid (Pn M X iU c Z):=L_ ⟨hZ.ok HO (by have:=(Jf hmay K2).2;omega),by rw[hZ.out.dn,hY.out.dn],fun a=>by have:=a.k;have:=K2.out;omega,fun x a=>by
    obtain⟨x',e1⟩:∃x',Y.wa.l=[x']:=List.length_eq_one_iff.1 (by rw[CJ hY.out.wa,a.x.1];rfl);have e2:x'.pl=x.pl:=by have:=hY.wa;rw[e1,a.x.1] at this;simpa using this
    refine⟨x',e2,hZ.one x' e1 ((FQ e2).trans a.ok.2.1) ?_ ?_⟩
    ·have:=congrArg (fun q=>q.2.2.2.2.2.2) e2;exact this.trans a.ok.1
    ·have:=congrArg (fun q=>q.2.2.2.2.2.1) e2;exact Int.le_trans (Int.le_of_eq this) a.ok.2.2.1⟩
   clear hZ HO k1 k2
  case' neg=>
   replace k2:(c.k==2)=false:=by simpa using k2
   refine G0 [0,0,4,8,21,5] ?_;obtain⟨Z,hZY⟩:∃Z,Z=Y:=⟨Y,rfl⟩;have HMid:Hid (Pn M X iU c Z):=L_ (hZY▸⟨HO,hY.dn,fun a=>by have:=a.k;simp[this] at k1,fun x a=>by have:=a.k;simp[this] at k2⟩);rw[←hZY] at E;clear HO k1 k2 hZY
 all_goals
  refine fV ?_;refine ah (Ky g36 N Z _ E hN HMid.ok.so (by have:=hchk.2.2.1;have:=HMid.ok.len;rw[HMid.out.dn];omega)) ?_;clear E;rintro _ w16 ⟨Z2,lo,rfl,hd,E⟩;refine G0 [26] ?_
  by_cases h9:200<(Z2.dn.l.length:Int)
  case pos=>
   refine G E [0,4,6,5,84,0,40,0,0,4,7,5,0,61,0,0,4,22,24,9] ?_;clear E;intro w17 E;exact mQ 1 E ⟨oq,⟨none,0,[]⟩,9,rfl,L_ (zP.z (fun a=>by have:=(HMid.end_ hd hchk.2.2.1).new a;rw[this.2.2.1] at h9;simp at h9) (fun x a=>by have:=(HMid.end_ hd hchk.2.2.1).fin x a;rw[this.2.1] at h9;simp at h9)),((E.drop 4).sub (Zi _) (Zy _)).oq N⟩
  refine G E [0,4,6,5,84,0,40,0,0,4,8,15,5,84] ?_;refine aB 0 3 E ?_;refine G E [0,61,0,0,4,22,9] ?_;clear E;intro w18 E;exact mQ 1 E ⟨Z2,lo,0,rfl,L_ (HMid.end_ hd hchk.2.2.1),E.drop 4⟩
end
instance:aj lJ where
 ty:=37
 sz:=12
 cs:=fun x:lJ=>[.int .u8 x.k,.int .i64 x.m.i,.slice x.m.g.A x.m.g.l.length x.m.g.c,.int .i64 x.m.t,.string x.m.key,.string x.m.body,.int .i64 x.i,.int .i64 x.tm,.slice x.me.A x.me.l.length x.me.c,.int .i64 x.tp,.int .i64 x.who,.int .i64 x.n]
 len:=fun _=>rfl
 pos:=by decide
 one:=fun(x:lJ) u hu=>by simp only[Zu,ZF,or_false] at hu;rcases hu with rfl|rfl|rfl|rfl|rfl|rfl|rfl|rfl|rfl|rfl|rfl|rfl<;>rfl
 sty:=99
 und:=underlying99
 zero:=.agg #[.int .u8 0,.int .i64 0,.slice none 0 0,.int .i64 0,.string ⟨#[]⟩,.string ⟨#[]⟩,.int .i64 0,.int .i64 0,.slice none 0 0,.int .i64 0,.int .i64 0,.int .i64 0]
 bytes:=144
 info:=by kernel_rfl
 zc:=rfl
 Gl:=by decide
def HC.com (D:HC):lJ:=⟨D.k,⟨D.mi,⟨D.GA,D.Gc,D.gs⟩,D.mt,D.key,D.body⟩,D.i,D.tm,⟨D.MA,D.Mc,D.mem⟩,D.tp,D.who,D.n⟩
theorem fK.len {D:HC}(h:fK w b D):D.gs.length=D.Gn∧D.mem.length=D.Mn:=by
 have h1:=h.og.1;have h2:=h.om.1;rw[KO] at h1 h2;omega
theorem fK.own {D:HC}(h:fK w b D)(hg:D.gs.length≤N)(hm:D.mem.length≤N):au.Own w b N D.com:=by
 obtain⟨e1,e2⟩:=h.len;have h1:=h.og;have h2:=h.om;rw[←e1,←fF ⟨D.GA,D.Gc,D.gs⟩] at h1;rw[←e2,←fF ⟨D.MA,D.Mc,D.mem⟩] at h2;exact⟨⟨h1,hg,fun _ _=>trivial⟩,⟨h2,hm,fun _ _=>trivial⟩⟩
theorem fK.hc {D:HC}(h:fK w b D):D.com.hc=D:=by
 obtain⟨e1,e2⟩:=h.len;obtain⟨k,mi,GA,Gn,Gc,gs,mt,key,body,i,tm,MA,Mn,Mc,mem,tp,who,n⟩:=D;simp only at e1 e2;subst e1 e2;rfl
theorem kJ {n:Int}(h:Nm.jO n=true):i64 n:=by
 have:=Nm.ku h;exact⟨by omega,by omega⟩
theorem fK.wf {D:HC}(h:fK w b D):ny D.com:=
 ⟨h.kk,⟨kJ h.a1,kJ h.a2,fun g hg=>kJ (h.ig g hg),h.bk,h.bb⟩,kJ h.a3,kJ h.a4,fun x hx=>kJ (h.im x hx),kJ h.a5,kJ h.a6,kJ h.a7⟩
theorem Ji:∀(ds:List HC),(∀D∈ds,D.com.hc=D)→(ds.map HC.com).flatMap aj.cs=cc ds
 |[],_=>rfl
 |D::r,h=>by
  rw[List.map_cons,ZQ,wU,Ji r fun D hD=>h D (Zv _ hD)];have e:kW D.com.hc=kW D:=by rw[h D ZC]
  rw[←e];rfl
theorem Cp.Oi {c:Cp.dD}(h:Cp.dU c=true):c.gs.length≤4∧c.mem.length≤6:=by
 have e:∀{l:List Int} {k:Nat},l.isEmpty=true→l.length≤k:=fun h=>by rw[aaG.1 h];exact Zq _
 unfold Cp.dU Cp.sV Cp.lS at h
 repeat' split at h
 all_goals try simp only[Zr] at h
 ·exact⟨e (by simp only[h]),e (by simp only[h])⟩
 ·exact⟨(Cp.Iz (by simp only[h])).1,e (by simp only[h])⟩
 ·exact⟨e (by simp only[h]),e (by simp only[h])⟩
 ·exact⟨e (by simp only[h]),(dz (aar.1 (by simp only[h]))).2⟩
 ·exact⟨e (by simp only[h]),e (by simp only[h])⟩
 ·exact⟨e (by simp only[h]),e (by simp only[h])⟩
 ·cases h
theorem Ko {l:List (List UInt8)}{cs:List Cp.dD}{x:Int}(h:(cs,x)=Lg.iA l):cs.length≤200∧∀c∈cs,∃t∈l,Cp.eB t=(c,0):=by
 have key:∀(l:List (List UInt8)) (cs:List Cp.dD),Lg.all l=some cs→cs.length=l.length∧∀c∈cs,∃t∈l,Cp.eB t=(c,0):=by
  intro l
  induction l with
  |nil=>intro cs h;simp only[Lg.all,ZH] at h;subst h;exact⟨rfl,fun c hc=>by cases hc⟩
  |cons s r ih=>
   intro cs h;rw[Lg.all] at h
   split at h
   ·rename_i h0
    cases hr:Lg.all r with
    |none=>rw[hr] at h;cases h
    |some q=>
     rw[hr] at h;simp only[aad,ZH] at h;subst h;obtain⟨i1,i2⟩:=ih q hr;refine⟨by simp[i1],fun c hc=>?_⟩
     rcases Zu.1 hc with rfl|hc
     ·exact⟨s,ZC,by rw[←h0]⟩
     ·obtain⟨t,h1,h2⟩:=i2 c hc;exact⟨t,Zv _ h1,h2⟩
   ·cases h
 unfold Lg.iA at h
 split at h
 ·injection h with h1 _;subst h1;exact⟨Zq _,fun c hc=>by cases hc⟩
 ·split at h
  ·rename_i q hq
   injection h with h1 _
   subst h1;obtain⟨k1,k2⟩:=key l _ hq;exact⟨by omega,k2⟩
  ·injection h with h1 _;subst h1;exact⟨Zq _,fun c hc=>by cases hc⟩
theorem qo {l:List UInt8}{c:Cp.dD}(h:Cp.eB l=(c,0)):Cp.dU c=true∧Cp.aV c=l:=by
 unfold Cp.eB at h
 split at h
 ·injection h with _ h;cases h
 ·split at h
  ·rename_i q hq
   injection h with h _
   subst h;exact Cp.xP hq
  ·injection h with _ h;cases h
structure TD (l:List ByteArray)(cs:List lJ)(v:Int):Prop where
 x:(cs.map (fun c=>c.hc.cmd),v)=Lg.iA (tx l)
 wf:∀c∈cs,ny c∧Cp.dU c.hc.cmd=true∧∃t∈l,Cp.eB t.data.toList=(c.hc.cmd,0)
 n:cs.length≤200
theorem Ot (s:Sl ByteArray)(w:World)(N:Nat)(h:s.aA w w N)(hN:N≤1000000)(hz:∀v∈s.l,v.size≤1000000) :
  Calls prog 30 #[s] w fun e w'=>∃(r:Sl lJ) (v:Int),e=.returned (.tuple #[r,.int .i64 v])∧Hid (TD s.l r.l v)∧Env w w [] [own r 200] w':=by
 refine(mq s.A s.l.length s.c w s.l w (by have:=h.1;rwa[rA] at this) (Zh _) (by have:=h.2.2.2.1;omega) (fun v hv=>Zt (hz v hv) (by decide))).mono ?_;rintro e w' ⟨⟨ds,x,A,c,rfl,hrow,hown,hx⟩,hb⟩;obtain⟨h200,hmem⟩:=Ko hx;rw[Z5] at h200;have hhc:∀D∈ds,D.com.hc=D:=fun D hD=>(hown D hD).hc
 have hcs:(ds.map HC.com).map (fun c=>c.hc.cmd)=ds.map HC.cmd:=by
  rw[List.map_map];exact List.map_congr_left fun D hD=>by simp only[Function.comp,hhc D hD]
 have hmay:∀D∈ds,Cp.dU D.cmd=true:=fun D hD=>by
  obtain⟨t,-,ht⟩:=hmem D.cmd (aaq hD);exact(qo ht).1
 refine⟨⟨A,c,ds.map HC.com⟩,x,by simp,L_ ⟨by rw[hcs];exact hx,fun q hq=>?_,by simpa using h200⟩,(Env.start w).sH hb (x:=(⟨A,c,ds.map HC.com⟩:Sl lJ)) (N:=200) ⟨?_,by simpa using h200,fun q hq=>?_⟩⟩
 ·obtain⟨D,hD,rfl⟩:=ZA.1 hq;rw[hhc D hD];obtain⟨t,ht,h2⟩:=hmem D.cmd (aaq hD);obtain⟨t',ht',rfl⟩:=ZA.1 ht;exact⟨(hown D hD).wf,hmay D hD,t',ht',h2⟩
 ·unfold Sl.Row;have:(⟨A,c,ds.map HC.com⟩:Sl lJ).row=cc ds:=Ji ds hhc;rw[this];show w'.ownsRow w 37 12 _ _ _;simpa using hrow
 ·obtain⟨D,hD,rfl⟩:=ZA.1 hq;obtain⟨h1,h2⟩:=Cp.Oi (hmay D hD);exact(hown D hD).own (Zt h1 (by decide)) (Zt h2 (by decide))
variable{N':Nat}{α σ:Type}
section
attribute [local irreducible] wpList av aH
structure YA where
 c:lJ
 x:iW
 y:iW
 o:Sl zw
instance:jy zw:=⟨[],fun _ _ _ h=>by cases h⟩
theorem Env.qE [aj α][jy α]{is:List It}{x:Bx}{s:Sl α}(E:Env b w0 bx (both (xO x) (own s N)::is) w)(ht:x.2.1 ∉ Sl.tys α:=by(try dsimp only)<;>decide):Env b w0 (x::bx) (own s N::is) w:=
 E.Vw fun hm=>by
  have h:=show aF w x.1 x.2.1 x.2.2.toArray∧Sl.Own w b N s from E.get 0;obtain⟨⟨g,t⟩,h1,h2⟩:=ZA.1 hm;exact Sl.Own.ne h.2 h.1 ht g t h1 h2
def OY {σ:Type}(g0:Nat)(C:Array Value)(J:Nat→σ→It):Prop:=
 ∀(b:Nat) (w0 w:World) (bx:List Bx) (is:List It) (k:Nat) (s:σ) (x:YA) (N:Nat),Env b w0 bx (J k s::is) w→k<300→(∀w',Env b w0 bx (J k s::is) w'→x.o.aA w' w' N)→x.o.l.length≤200→i64 x.y.ck→Calls prog g0 (#[.agg #[.int .u8 x.c.k,x.c.m.i,x.c.m.g,x.c.m.t,x.c.m.key,x.c.m.body,x.c.i,x.c.tm,x.c.me,x.c.tp,x.c.who,x.c.n,x.x.ck,x.x.wa,x.x.dn,x.y.ck,x.y.wa,x.y.dn,x.o]]++C) w fun e w'=>∃s':σ,e=()∧Env b w0 bx (J (k+1) s'::is) w'
def jW (l:List ByteArray):MP:=fun i gs t k b=>F5 i gs t k b∧∃v∈l,∃c,Cp.eB v.data.toList=(c,0)∧c.k=1∧c.mi=i∧c.gs=gs∧c.mt=t∧c.key=k.data.toList∧c.body=b.data.toList
theorem OG {is:List It}(g0:Nat)(C:Array Value)(J:Nat→σ→It)(eg:∀args w,(callFunc g0 args).run prog w=.ok (.enter g0 args) w)(hJ:OY g0 C J)(iU:Int)(s:Sl ByteArray)(w:World)(N:Nat)(z:σ)(E:Env b w0 bx (J 0 z::is) w)(hs:s.aA w0 b N)(hN:N≤100000)(hN2:1000≤N)(hz:∀v∈s.l,v.size≤1000000) :
  Calls prog 248 #[iU,s,.func (.func g0) #[] C] w fun e w'=>∃(Y:iW) (v:Int) (k:Nat) (z':σ),e=.returned (.tuple #[Y,v])∧k≤200∧Hid (∀x∈Y.wa.l,x.m.is (jW s.l))∧Env b w0 bx (own Y.wa N::own Y.dn N::J k z'::is) w':=by
 have HS:=L_ hs;have HZ:=L_ hz;have HJ:=L_ hJ;clear hs hz hJ
 go_enter func248,ntmps248
 refine G E [5,70,3,0,4,6,5,0,9] ?_;clear E;intro g6 w2 E
 by_cases c1:iU<0
 case pos=>
  refine G E [0,0,1,1,0,4,7,5,0,60,0,4,22,24,9] ?_;clear E;intro w3 E;exact aI 0 E ⟨oq,2,0,z,rfl,by decide,L_ (fun x hx=>by cases hx),((E.drop 1).aO (α:=zx) (N:=N)).aO (α:=dI) (N:=N)⟩
 refine G0 [84] ?_
 by_cases c2:4≤iU
 case pos=>
  refine G E [0,0,4,7,5,0,60,0,4,22,24,9] ?_;clear E;intro w4 E;exact aI 0 E ⟨oq,2,0,z,rfl,by decide,L_ (fun x hx=>by cases hx),((E.drop 1).aO (α:=zx) (N:=N)).aO (α:=dI) (N:=N)⟩
 refine G0 [0,0,4,8,15,5] ?_;clear c1 c2;refine fV ?_;refine ah (Ot s _ N (E.l HS) (by omega) HZ) ?_;rintro _ w5 ⟨r,v,rfl,hr,F⟩;replace E:=E.call F;clear F;refine G0 [26] ?_
 by_cases h0:v=0
 case neg=>
  refine G E [83,4,6,5,0,0,4,7,5,0,0,60,0,4,22,24,9] ?_;clear E;intro w6 E;exact aI 0 E ⟨oq,v,0,z,rfl,by decide,L_ (fun x hx=>by cases hx),((E.drop 1).tl.aO (α:=zx) (N:=N)).aO (α:=dI) (N:=N)⟩
 subst h0;refine G0 [83,4,6,5,0,0,4,8,15,5] ?_;refine ah (Ih _) ?_;rintro _ w7 ⟨rfl,hb⟩;replace E:=E.up hb;clear hb;refine G E [26,70,3,60,4,6,5,84,4,19,9] ?_;clear E;intro g10 w9 E;have hrn:=hr.n
 go_loopw [35] (fun y wr=>∃(k:Nat) (X:iW) (z':σ),y=(k:Int)∧k≤r.l.length∧Hid ((0≤X.ck∧X.ck≤1073741824)∧∀x∈X.wa.l,x.m.is (jW s.l))∧Env b w0 ((g10,69,X)::(g6,69,[.int .i64 0,(),()])::bx) (own X.wa N::own X.dn N::own r 200::J k z'::is) wr) (fun y _=>r.l.length - (intOf y).toNat)
 case atStart=>exact⟨0,oq,z,rfl,Zq _,L_ ⟨by decide,fun x hx=>by cases hx⟩,(E.aO (α:=zx) (N:=N)).aO (α:=dI) (N:=N)⟩
 case round=>
  clear E;obtain⟨k,X,z',rfl,hk,HM,E⟩:=hrel
  by_cases hlt:k<r.l.length
  case pos=>
   have hw:IntKind.i64.wrap ((k:Int)+1)=((k+1:Nat):Int):=by rw[aaP _ (by omega)];rfl
   obtain⟨bb,off,c,hA,-,hc,hcc,-⟩:=(E.ol (s:=r) (N:=200) 2).get (k:=k) hlt;replace hcc:=L_ hcc;have HC:=L_ (Zk hc);clear hc;refine G0 [5,0,4,16,15,18,5,0] ?_;refine fA c hcc ?_;clear hcc hA;have HCM:Hid (c.k=1→c.m.is (jW s.l)):=L_ (fun hk=>by obtain⟨h1,h2,t,h3,h4⟩:=hr.wf c HC;exact⟨h1.m,t,h3,c.hc.cmd,h4,hk,rfl,rfl,rfl,rfl,rfl⟩);refine G E [70,3,60,4,5,9] ?_;clear E;intro g12 w11 E;refine aB 1 3 E ?_;refine fV ?_;refine aB 0 12 E ?_;refine ah (yH (jW s.l) X iU c _ N ⟨E.ol 0,E.ol 1⟩ (au.aS ((E.ol (s:=r) (N:=200) 2).2.2.2.2 c HC) (Zh _) (by omega)) (by omega) hN2 HM.2 (fun _ _ _ _ _ h=>h.1) (hr.wf c HC).1 HCM) ?_;rintro _ w12 ⟨Y,lo,v2,rfl,hap,F⟩;replace E:=E.call F;clear F HCM;refine G0 [26] ?_
   by_cases h2:v2=0
   case neg=>
    refine G E [84,0,70,3,60,0,0,4,6,5,0,0,4,7,23,9] ?_;clear E;intro g13 w14 E;refine aB 2 3 E ?_;refine G E [60,0,4,9] ?_;clear E;intro w15 E;replace E:=E.tl.tl.tl;replace E:=E.dQ 4 [3,0,1,2];refine G0 [5,0] ?_;refine aB 1 12 E ?_;refine aB 2 3 E ?_;refine aB 0 3 E ?_;refine G0 [0,0] ?_;refine ah (HJ _ _ _ _ _ k z' ⟨c,X,X,⟨none,0,[]⟩⟩ 0 E (by omega) (fun _ _=>Sl.dh) (by simp) (by have:=HM.1;exact⟨by show _≤X.ck;omega,by show X.ck≤_;omega⟩)) ?_;clear E;rintro _ w16 ⟨z2,rfl,E⟩;refine G0 [26,4,23] ?_;refine aB 0 3 E ?_;refine G E [62,20,23,0,0,9] ?_;clear E;intro w17 E;refine jI ?_
    go_roundw
    case rel=>exact⟨k+1,X,z2,rfl,hlt,HM,(E.drop 2).dQ 4 [1,2,3,0]⟩
    case measure=>simp[intOf];omega
   subst h2;refine G E [84,0,70,3,60,0,0,4,6,5,0,0,4,8,15,9] ?_;clear E;intro g13 w19 E;have hi:i64 Y.ck:=by have:=hap.ck;exact⟨by omega,by omega⟩
   replace E:=E.dQ 7 [6,0,1,2,3,4,5];refine G0 [5,0] ?_;refine aB 1 12 E ?_;refine aB 2 3 E ?_;refine aB 0 3 E ?_;refine G0 [0,0] ?_;refine ah (HJ _ _ _ _ _ k z' ⟨c,X,Y,lo⟩ N E (by omega) (fun _ E'=>E'.ol 1) hap.n hi) ?_;clear E;rintro _ w20 ⟨z2,rfl,E⟩;refine G0 [26,4,23] ?_;refine aB 0 3 E ?_;refine G E [62,20,23,0,0,9] ?_;clear E;intro w21 E;refine jI ?_
   go_roundw
   case rel=>exact⟨k+1,Y,z2,rfl,hlt,L_ ⟨hap.ck,hap.m⟩,(E.drop 2).dQ 7 [2,3,6,0]⟩
   case measure=>simp[intOf];omega
  case neg=>
   refine G0 [5,0,4,17,27,28,5] ?_;refine aB 0 3 E ?_;refine ah (DK X _ N ⟨E.ol 0,E.ol 1⟩ (by omega)) ?_;rintro _ w22 ⟨Y,rfl,hY,F⟩;replace E:=E.call F;clear F;refine G E [26,61,0,4,22,9] ?_;clear E;intro w23 E;exact aI 1 E ⟨Y,0,k,z',rfl,by omega,L_ (fun x hx=>by obtain⟨y,hy,e⟩:=Iw hY.wa hx;exact SX e (HM.2 y hy)),(E.drop 2).dQ 6 [0,1,5]⟩
theorem Env.MJ {is:List It}(E:Env b w0 bx is w)(n:Nat):Env b w0 bx (is.drop n) w:=E.sub (Zi _) (List.drop_sublist _ _)
theorem Env.l9 [aj α]{is:List It}{s:Sl α}(E:Env b w0 bx (own s N::is) w)(h:N≤N'):Env b w0 bx (own s N'::is) w:=E.less 0 (i:=own s N) (i':=own s N') fun h2=>Sl.Own.mono h2 (Zh _) h
def TK (g k:Nat)(s:Sl zw):It:=both (xO (g,163,[s])) (own s (200*k))
theorem CG:∀args w,(callFunc 249 args).run prog w=.ok (.enter 249 args) w:=enters_of func249 (by kernel_rfl) rfl
theorem Ww (g:Nat):OY 249 #[g] (TK g):=by
 intro b w0 w bx is k s x N E hk hl hn hi;replace E:=Env.qE (x:=(g,163,[s])) E;have hon:=E.on (s:=s) (N:=200*k) 0;have HL:=L_ hl;clear hl hi;show Calls prog 249 #[.agg #[.int .u8 x.c.k,x.c.m.i,x.c.m.g,x.c.m.t,x.c.m.key,x.c.m.body,x.c.i,x.c.tm,x.c.me,x.c.tp,x.c.who,x.c.n,x.x.ck,x.x.wa,x.x.dn,x.y.ck,x.y.wa,x.y.dn,x.o],g] w _
 go_enter func249,ntmps249
 refine G E [5,71,3,4,23,41,0,40,9] ?_;clear E;intro g2 w2 E;refine pV 0 (s:=s) (200*(k+1)) x.o E (HL _ (E.drop 1).sP).1 (by omega) (by omega) ?_;clear E;intro s2 w3 h2 E;refine G E [3,61,9] ?_;clear E;intro w4 E;refine wpList_nil ?_
 go_end0
 exact⟨s2,rfl,(E.drop 1).sP⟩
end
variable{a:Act}{R:Ending→World→Prop}{fn:Func}{g2 i2:Nat}{t2 ty2:TypeId}{v2:Value}
section
attribute [local irreducible] wpList av aH
theorem XP {P:Program}{is:List It}(k:Nat)(E:Env b w0 bx is w)(hk:bx[k]?=some (g,t,[v]))(hu:bq P ty=true):(loadVar ty ⟨g,0,none⟩).run P w=.ok v w:=by
 obtain⟨d,hd,hr⟩:=dS hu;have h1:=E.c k 0 hk rfl;cases d<;>simp_all [loadVar,isAgg,underlying,go_sem,TypeDesc.isRow]
theorem Fu {P:Program}(h:R (.returned (.tuple #[v,v2])) w)(hr:fn.results=#[.tmp i,.tmp j]:=by rfl)(hd:a.defers=[]:=by rfl)(hx:a.tmps[i]?.getD undef=v:=by rfl)(hv:a.tmps[j]?.getD undef=v2:=by rfl):bodyPost P fn R .ret a w:=
 aaT (v:=.tuple #[v,v2]) (by simp[results,hr,hx,hv]) hd h
theorem Xx {P:Program}{is:List It}(k l:Nat){cs:List Value}(E:Env b w0 bx is w)(h:R (.returned (.tuple #[.agg cs.toArray,v2,v])) w)(hr:fn.results=#[.cell i ty,.cell i2 ty2,.tmp j]:=by rfl)(hd:a.defers=[]:=by rfl)(hx:a.tmps[i]?.getD undef=.pointer (some ⟨g,0,none⟩):=by rfl)(hx2:a.tmps[i2]?.getD undef=.pointer (some ⟨g2,0,none⟩):=by rfl)(hv:a.tmps[j]?.getD undef=v:=by rfl)(hk:bx[k]?=some (g,t,cs):=by rfl)(hk2:bx[l]?=some (g2,t2,[v2]):=by rfl)(hu:bq P ty=false:=by kernel_rfl)(hs:(P.info? ty).map (·.size)=some cs.length:=by kernel_rfl)(hn:(P.underlying ty).isSome=true:=by kernel_rfl)(hu2:bq P ty2=true:=by kernel_rfl):bodyPost P fn R .ret a w:=
 aaT (v:=.tuple #[.agg cs.toArray,v2,v]) (by simp[results,hr,hx,hx2,hv,asAddr,QE k E hk hu hs hn,XP l E hk2 hu2]) hd h
theorem UR {P:Program}{is:List It}(l:Nat)(E:Env b w0 bx is w)(h:R (.returned (.tuple #[v2,v])) w)(hr:fn.results=#[.cell i2 ty2,.tmp j]:=by rfl)(hd:a.defers=[]:=by rfl)(hx2:a.tmps[i2]?.getD undef=.pointer (some ⟨g2,0,none⟩):=by rfl)(hv:a.tmps[j]?.getD undef=v:=by rfl)(hk2:bx[l]?=some (g2,t2,[v2]):=by rfl)(hu2:bq P ty2=true:=by kernel_rfl):bodyPost P fn R .ret a w:=
 aaT (v:=.tuple #[v2,v]) (by simp[results,hr,hx2,hv,asAddr,XP l E hk2 hu2]) hd h
theorem Um (iU:Int)(s:Sl ByteArray)(w:World)(N:Nat)(hs:s.aA w w N)(hN:N≤100000)(hN2:1000≤N)(hz:∀v∈s.l,v.size≤1000000) :
  Calls prog 168 #[iU,s] w fun e w'=>∃(Y:iW) (o v:Value),e=.returned (.tuple #[Y,o,v])∧Hid (∀x∈Y.wa.l,x.m.is (jW s.l))∧Env w w [] [own Y.wa N,own Y.dn N] w':=by
 have HS:=L_ hs;have HZ:=L_ hz;clear hs hz;have E:=Env.start w
 go_enter func168,ntmps168
 refine GD E [5,70,3,70,3,0,4,5,84,9] ?_;clear E;intro g4 g5 w3 E;replace E:=(E.aO (α:=zw) (N:=200*0)).sP;refine ah (OG 249 #[g5] (TK g5) CG (Ww g5) iU s _ N ⟨none,0,[]⟩ E HS hN hN2 HZ) ?_;clear E;rintro _ w4 ⟨Y,v,k,z,rfl,-,hY,E⟩;refine GD E [26,84,60,0,4,9] ?_;clear E;intro w5 E;replace E:=E.dQ 3 [2,0,1];replace E:=Env.qE (x:=(g5,163,[z])) E;refine bP 0 5 [] (aaL [0,1,2]++aaN [3,4]) E ?_;clear E;intro w6 E;refine gZ 1 3 E ?_;refine GD E [50,32] ?_;refine lN 1 E ?_;clear E;intro w7 E;refine lN 0 E ?_;clear E;intro w8 E;refine GD E [29,0,4,22] ?_;exact Xx 1 0 E ⟨Y,_,_,rfl,hY,((E.drop 2).tl)⟩
structure Vq where
 t:Int
 i:Int
 A:Option Addr
 n:Nat
 c:Nat
 mt:Int
 key:ByteArray
 body:ByteArray
instance:aj Vq:=iE 460 6 (fun x:Vq=>[.int .i64 x.t,.int .i64 x.i,.slice x.A x.n x.c,.int .i64 x.mt,.string x.key,.string x.body]) (fun _=>rfl) (by decide) (fun(x:Vq) u hu=>by simp only[Zu,ZF,or_false] at hu;rcases hu with rfl|rfl|rfl|rfl|rfl|rfl<;>rfl) 456 underlying456 (.agg #[.int .i64 0,.int .i64 0,.slice none 0 0,.int .i64 0,.string ⟨#[]⟩,.string ⟨#[]⟩]) 80 (by kernel_rfl) rfl (by decide)
instance:jy Vq:=⟨[],fun _ _ _ h=>by cases h⟩
abbrev Y6:={ s:Sl Vq // ∀x∈s.l,i64 x.t }
def M0 (g k:Nat)(s:Y6):It:=both (xO (g,456,[s.1])) (own s.1 k)
theorem zA:∀args w,(callFunc 318 args).run prog w=.ok (.enter 318 args) w:=enters_of func318 (by kernel_rfl) rfl
theorem U3 (g:Nat):OY 318 #[g] (M0 g):=by
 intro b w0 w bx is k ss x N E hk hl hn hi;obtain⟨s,hs⟩:=ss;replace E:Env b w0 ((g,456,[s])::bx) (own s k::is) w:=Env.qE (x:=(g,456,[s])) (s:=s) E;have hon:=E.on (s:=s) (N:=k) 0;have HS:=L_ hs;have HI:=L_ hi;clear hl hs hi;show Calls prog 318 #[.agg #[.int .u8 x.c.k,x.c.m.i,x.c.m.g,x.c.m.t,x.c.m.key,x.c.m.body,x.c.i,x.c.tm,x.c.me,x.c.tp,x.c.who,x.c.n,x.x.ck,x.x.wa,x.x.dn,x.y.ck,x.y.wa,x.y.dn,x.o],g] w _
 go_enter func318,ntmps318
 by_cases h0:x.x.wa.l.length<x.y.wa.l.length
 case pos=>
  refine GD E [5,71,3,4,5,0,0,40,84,40,0,0,4,7,23,41,0,0,40,0,0,9] ?_;clear E;intro g2 w2 E;refine aB 0 5 E ?_;refine GD E [0,72,3,9] ?_;clear E;intro g20 w3 E;refine pV 0 (s:=s) (k+1) ⟨some ⟨g20,0,none⟩,1,[⟨x.y.ck,x.c.m.i,x.c.m.g.A,x.c.m.g.l.length,x.c.m.g.c,x.c.m.t,x.c.m.key,x.c.m.body⟩]⟩ E (E.reads 0 1 6) (by simp;omega) (by omega) ?_;clear E;intro s2 w4 h2 E;refine GD E [3,62,9] ?_;clear E;intro w5 E;refine wpList_nil ?_
  go_end0
  exact⟨⟨s2,fun y hy=>by rw[h2.out] at hy;exact(Zm.1 hy).elim (HS y) (fun h=>(Zp.1 h)▸HI.out)⟩,rfl,(E.drop 2).sP⟩
 case neg=>
  refine GD E [5,71,3,4,5,0,0,40,84,40,0,0,4,8,31,9] ?_;clear E;intro g2 w6 E
  go_end0
  exact⟨⟨s,HS⟩,rfl,((E.drop 1).l9 (Nat.le_succ k)).sP⟩
theorem RN (iU:Int)(s:Sl ByteArray)(w:World)(N:Nat)(hs:s.aA w w N)(hN:N≤100000)(hN2:1000≤N)(hz:∀v∈s.l,v.size≤1000000) :
  Calls prog 296 #[iU,s] w fun e w'=>∃(o:Sl Vq) (v:Int),e=.returned (.tuple #[o,v])∧Hid (∀x∈o.l,i64 x.t)∧Env w w [] [own o 200] w':=by
 have HS:=L_ hs;have HZ:=L_ hz;clear hs hz;have E:=Env.start w
 go_enter func296,ntmps296
 refine GD E [5,70,3,0,4,5,84,9] ?_;clear E;intro g4 w2 E;replace E:=(E.aO (α:=Vq) (N:=0)).sP;refine ah (OG 318 #[g4] (M0 g4) zA (U3 g4) iU s _ N ⟨⟨none,0,[]⟩,fun x hx=>by cases hx⟩ E HS hN hN2 HZ) ?_;clear E;rintro _ w3 ⟨Y,v,k,z,rfl,hk,-,E⟩;refine G0 [26,84,0,4,5] ?_;obtain⟨z,hz⟩:=z;replace hz:=L_ hz;replace E:=E.dQ 3 [2];replace E:=(Env.qE (x:=(g4,456,[z])) E).l9 hk;refine GD E [40,0,60,0,4,22,9] ?_;clear E;intro w4 E;exact UR 0 E ⟨z,v,rfl,hz,E.drop 1⟩
theorem QZ (iU:Int)(s:Sl ByteArray)(w:World)(N:Nat)(hs:s.aA w w N)(hN:N≤100000)(hN2:1000≤N)(hz:∀v∈s.l,v.size≤1000000) :
  Calls prog 251 #[iU,s] w fun e w'=>∃(o:Sl zx) (v:Int),e=.returned (.tuple #[o,v])∧Hid (∀x∈o.l,i64 x.t)∧Env w w [] [own o 200] w':=by
 have HS:=L_ hs;have HZ:=L_ hz;clear hs hz;have E:=Env.start w
 go_enter func251,ntmps251
 refine G0 [5,0,0,4,5,0,0] ?_;refine ah (RN iU s _ N (E.l HS) hN hN2 HZ) ?_;rintro _ w2 ⟨r,v,rfl,hr,F⟩;replace E:=E.call F;clear F;refine G0 [26,83,4,6,5,84,4,19] ?_;have hrn:=E.on (s:=r) (N:=200) 0
 go_loopw [4,17] (fun z y wr=>∃(k:Nat) (o:Sl zx),y=(k:Int)∧z=o∧k≤r.l.length∧Hid (∀x∈o.l,i64 x.t)∧Env w w [] (own o k::own r 200::[]) wr) (fun _ y _=>r.l.length - (intOf y).toNat)
 case atStart=>exact⟨0,⟨none,0,[]⟩,rfl,rfl,Zq _,L_ (fun x hx=>by cases hx),E.aO⟩
 case round=>
  clear E;obtain⟨k,o,rfl,rfl,hk,HO,E⟩:=hrel;have hon:=E.on (s:=o) (N:=k) 0
  by_cases hlt:k<r.l.length
  case pos=>
   have hw:IntKind.i64.wrap ((k:Int)+1)=((k+1:Nat):Int):=by rw[aaP _ (by omega)];rfl
   obtain⟨bb,off,y,hA,-,hy,hcc,-⟩:=(E.ol (s:=r) (N:=200) 1).get (k:=k) hlt;replace hcc:=L_ hcc;have HY:Hid (i64 y.t):=L_ (hr y (Zk hy));clear hy;refine G0 [5,0,4,16,15,18,5,0] ?_;refine fA [y.t,y.i,.slice y.A y.n y.c,y.mt,y.key,y.body] hcc ?_;clear hcc hA;refine GD E [70,3,60,4,23,0,0,40,0,0,40,0,72,3,9] ?_;clear E;intro g8 g28 w5 E;refine pV 0 (s:=o) (k+1) ⟨some ⟨g28,0,none⟩,1,[⟨y.t,y.i⟩]⟩ E (E.reads 0 1 2) (by simp;omega) (by omega) ?_;clear E;intro o2 w6 h2 E;refine G0 [3,0,20,23,0,0,25] ?_
   go_roundw
   case rel=>exact⟨k+1,o2,rfl,rfl,hlt,L_ (fun x hx=>by rw[h2.out] at hx;exact(Zm.1 hx).elim (HO x) (fun h=>(Zp.1 h)▸HY.out)),E.drop 2⟩
   case measure=>simp[intOf];omega
  case neg=>
   refine G0 [5,0,4,17,27,28,5,84,0,4,22] ?_;exact Fu ⟨o,v,rfl,HO,(E.dQ (is':=[own o k]) 2 [0]).l9 (by omega)⟩
end
variable{Pg:Int→ByteArray→Prop}{M:Nat}
section
attribute [local irreducible] wpList av aH
def Re.pl (r:Re):Rp.Rec:=⟨r.k,r.g,r.s,r.b,r.v.data.toList⟩
def G8 (r:Re)(t:ByteArray):Prop:=t.size≤1100∧(t=⟨#[]⟩∨Rp.lG t.data.toList=some r.pl)
theorem Bh (r:Re)(w:World)(hv:r.v.size≤1000000)(hb:i64 r.b):Calls prog 100 #[r] w fun e w'=>∃(t:ByteArray) (v:Int),e=.returned (.tuple #[t,v])∧Hid (G8 r t)∧Below w w w':=by
 cases h:Rp.gK r.k r.g r.s r.b r.v.size with
 |true=>
  have hm:Rp.vw r.pl=true:=by simp only[Rp.vw,Re.pl,size_data];exact h
  exact(MB r.k r.g r.s r.b r.v w h).mono fun e w' ⟨h1,h2⟩=>⟨_,_,h1,L_ ⟨by rw[kZ];have:=Rp.Ig hm;exact Zt this (by decide),Or.inr (by rw[IC];exact Rp.FJ hm)⟩,h2⟩
 |false=>exact(Ik r.k r.g r.s r.b r.v w (Zt hv (by decide)) hb.1 hb.2 h).mono fun e w' ⟨h1,h2⟩=>⟨_,_,h1,L_ ⟨by decide,Or.inl rfl⟩,h2⟩
theorem Xo.of {r:Rp.Rec}(h:Rp.vw r=true):Xo ⟨r.k,r.g,r.s,r.b,S r.v⟩:=by
 obtain⟨g0,g1,s0,s1,hv,hk⟩:=Rp.kY h;refine⟨?_,⟨g0,g1⟩,⟨s0,s1⟩,?_,by rw[kZ];exact Zt hv (by decide)⟩
 ·rcases hk with ⟨e,-⟩|⟨e,-⟩|⟨e,-⟩
  ·exact Or.inl e
  ·exact Or.inr (Or.inl e)
  ·exact Or.inr (Or.inr e)
 ·rcases hk with ⟨-,-,h1,h2,-⟩|⟨-,h1,h2,-⟩|⟨-,h1⟩
  ·exact⟨by dsimp only;omega,by dsimp only;omega⟩
  ·exact⟨by dsimp only;omega,by dsimp only;omega⟩
  ·dsimp only;rw[h1];exact dO
theorem Nv (t:ByteArray)(w:World)(ht:t.size≤1000000):Calls prog 120 #[t] w fun e w'=>∃(r:Re) (v:Int),e=.returned (.tuple #[r,v])∧Hid (v=0→Rp.lG t.data.toList=some r.pl∧Xo r)∧Below w w w':=by
 refine(LK t w ht).mono ?_;rintro e w' ⟨h1,h2⟩;cases h:Rp.lG t.data.toList with
 |none=>exact⟨⟨0,0,0,0,⟨#[]⟩⟩,8,by rw[h1,h];rfl,L_ (fun h=>absurd h (by decide)),h2⟩
 |some r=>exact⟨⟨r.k,r.g,r.s,r.b,S r.v⟩,0,by rw[h1,h];rfl,L_ (fun _=>⟨rfl,Xo.of (Rp.Gh h).1⟩),h2⟩
def vT (Pg:Int→ByteArray→Prop)(t:List UInt8):Prop:=∀r:Rp.Rec,Rp.lG t=some r→Pg r.g (S r.v)
theorem G8.iD {r:Re}{t:ByteArray}(h:G8 r t)(hv:Pg r.g r.v):vT Pg t.data.toList:=by
 intro q hq
 rcases h.2 with rfl|e
 ·have:Rp.lG ([]:List UInt8)=none:=by decide
  rw[show(⟨#[]⟩:ByteArray).data.toList=[] from rfl,this] at hq;cases hq
 ·rw[e] at hq;injection hq with hq
  subst hq;show Pg r.g (S r.v.data.toList);rw[LJ];exact hv
def GQ:Al:=⟨⟨none,0,[]⟩,⟨none,0,[]⟩⟩
theorem kI.z:kI Pg GQ:=⟨fun k x h=>(by cases h),fun y h=>(by cases h)⟩
theorem QT (n:Int)(w:World):Calls prog 119 #[n] w fun e w'=>∃(X:Al) (v:Int),e=.returned (.tuple #[X,.int .i64 v])∧Hid ((∀Pg,kI Pg X)∧(∀x∈X.lo.l,x=⟨none,0,[]⟩)∧X.vs=⟨none,0,[]⟩∧X.lo.l.length≤4∧(v=0→(X.lo.l.length:Int)=n))∧Env w w [] [own X.lo 1000] w':=by
 have E:=Env.start w
 go_enter func119,ntmps119
 refine G E [5,70,3,0,4,6,5,0,9] ?_;clear E;intro g2 w2 E
 by_cases c1:n<1
 case pos=>
  refine G E [0,0,1,1,0,4,7,5,0,60,0,4,22,24,9] ?_;clear E;intro w3 E;exact aI 0 E ⟨GQ,2,rfl,L_ ⟨fun _=>kI.z,fun x h=>(by cases h),rfl,Zq _,fun h=>absurd h (by decide)⟩,(E.drop 1).aO⟩
 refine G0 [84] ?_
 by_cases c2:4<n
 case pos=>
  refine G E [0,0,4,7,5,0,60,0,4,22,24,9] ?_;clear E;intro w4 E;exact aI 0 E ⟨GQ,2,rfl,L_ ⟨fun _=>kI.z,fun x h=>(by cases h),rfl,Zq _,fun h=>absurd h (by decide)⟩,(E.drop 1).aO⟩
 refine G0 [0,0,4,8,15,5] ?_;obtain⟨k,rfl⟩:∃k:Nat,n=(k:Int):=⟨n.toNat,by omega⟩;have hk4:k≤4:=by omega
 clear c1 c2;refine fV ?_;refine TT (n:=k) E (by omega) ?_;clear E;intro g12 w5 E;obtain⟨l,hl,hk⟩:∃l:List (Sl ByteArray),l=List.replicate k ⟨none,0,[]⟩∧k=l.length:=⟨_,rfl,List.length_replicate.symm⟩;rw[←hl] at E;have HR:Hid (∀x∈l,x=⟨none,0,[]⟩):=L_ (fun x h=>by rw[hl] at h;exact(List.mem_replicate.1 h).2);clear hl;subst hk;refine G E [3,0,60,0,4,22,9] ?_;clear E;intro w6 E;exact aI 0 E ⟨⟨⟨some ⟨g12,0,none⟩,l.length,l⟩,⟨none,0,[]⟩⟩,0,rfl,L_ ⟨fun Pg=>⟨fun i x h=>(by have:=HR x (Zk h);subst this;exact⟨Zq _,fun v h=>(by cases h)⟩),fun y h=>(by cases h)⟩,HR,rfl,hk4,fun _=>rfl⟩,E.drop 1⟩
theorem Env.JH [aj α]{is:List It}(E:Env b w0 bx is w):∀(l:List (Sl α)),(∀x∈l,x=⟨none,0,[]⟩)→Env b w0 bx (l.map (fun x=>own x N)++is) w
 |[],_=>E
 |x::l,h=>by
  rw[h x ZC];exact(E.JH l fun y hy=>h y (Zv _ hy)).aO
theorem Env.Tm [aj α]{is:List It}{s:Sl α}(E:Env b w0 bx (own s N::is) w):Env b w0 bx (fG s N::is) w:=
 Env.conv (i:=own s N) E 0 (fG s N) (fun h=>⟨h.1,h.2.1⟩) fun g hg=>by
  cases hA:s.A with
  |none=>simp only[fG,hA] at hg;cases hg
  |some a=>simp only[fG,hA] at hg;rw[Zp.1 hg];exact gL hA
theorem Env.YT {X:Al}(E:Env b w0 bx (oz X M++[]) w)(h:M≤99000):Env b w0 bx [own X.lo 1000,own X.vs 99000] w:=by
 rw[aak] at E;have E2:=E.less 1 (i:=own X.vs M) (i':=own X.vs 99000) fun h2=>Sl.Own.mono h2 (Zh _) h;have E3:=Env.joinL X.lo.l (E2.perm (is':=(X.lo.l.map fun x=>own x 1000)++[fG X.lo 1000,own X.vs 99000]) (List.perm_append_comm (l₁:=[fG X.lo 1000,own X.vs 99000])));exact(E3.perm (ZW _ _ _)).glue
theorem Env.Wz {X:Al}(E:Env b w0 bx [own X.lo 1000] w)(hn:∀x∈X.lo.l,x=⟨none,0,[]⟩)(hv:X.vs=⟨none,0,[]⟩):Env b w0 bx (oz X 0++[]) w:=by
 rw[oz,hv,aak];exact((E.Tm.JH (N:=1000) X.lo.l hn).aO (α:=lT) (N:=0)).perm (List.perm_append_comm (l₁:=own (⟨none,0,[]⟩:Sl lT) 0::X.lo.l.map fun x=>own x 1000) (l₂:=[fG X.lo 1000]))
theorem Ke (Pg:Int→ByteArray→Prop)(n:Int)(l:Sl ByteArray)(w:World)(N:Nat)(hl:l.aA w w N)(hN:N≤2000000)(hs:∀t∈l.l,t.size≤1000000)(hP:∀t∈l.l,vT Pg t.data.toList)(hz:oH Pg) :
  Calls prog 59 #[n,l] w fun e w'=>∃(X:Al) (v:Int),e=.returned (.tuple #[X,v])∧Hid (kI Pg X∧X.lo.l.length≤4∧(v=0→(X.lo.l.length:Int)=n))∧Env w w [] [own X.lo 1000,own X.vs 99000] w':=by
 have HL:=L_ hl;have HS:=L_ hs;have HP:=L_ hP;have HZ:=L_ hz;clear hl hs hP hz;have E:=Env.start w
 go_enter func59,ntmps59
 refine G E [5,70,3,0,4,5,0,9] ?_;clear E;intro g4 w2 E;refine ah (QT n _) ?_;rintro _ w3 ⟨X0,v,rfl,hX,F⟩;replace E:=E.call F;clear F;refine G0 [26] ?_
 by_cases h0:v=0
 case neg=>
  refine G E [84,70,3,60,0,4,6,5,0,0,4,7,5,0,0,61,0,4,22,24,9] ?_;clear E;intro g6 w6 E;exact aI 1 E ⟨GQ,v,rfl,L_ ⟨kI.z,Zq _,fun h=>absurd h h0⟩,((E.drop 2).MJ 1).aO.aO⟩
 subst h0;refine G E [84,70,3,60,0,4,6,5,0,0,4,8,15,6,5,0,0,9] ?_;clear E;intro g6 w8 E
 by_cases c1:65536<(l.l.length:Int)
 case pos=>
  refine G E [0,4,7,5,0,61,0,4,22,24,9] ?_;clear E;intro w9 E;exact aI 1 E ⟨GQ,4,rfl,L_ ⟨kI.z,Zq _,fun h=>absurd h (by decide)⟩,((E.drop 2).MJ 1).aO.aO⟩
 refine G0 [0,4,8,15,6,5] ?_;have hln:l.l.length≤65536:=by omega
 clear c1;refine G0 [84,4,19] ?_;replace E:=Env.Wz (X:=X0) E hX.2.1 hX.2.2.1
 go_loopw [27] (fun y wr=>∃(k:Nat) (X:Al),y=(k:Int)∧k≤l.l.length∧Hid (kI Pg X∧X.lo.l.length=X0.lo.l.length)∧Env w w (wD g6 X::(g4,135,[(),()])::[]) (oz X k++[]) wr) (fun y _=>l.l.length - (intOf y).toNat)
 case atStart=>exact⟨0,X0,rfl,Zq _,L_ ⟨hX.1 Pg,rfl⟩,E⟩
 case round=>
  clear E;obtain⟨k,X,rfl,hk,HI,E⟩:=hrel
  by_cases hlt:k<l.l.length
  case pos=>
   have hw:IntKind.i64.wrap ((k:Int)+1)=((k+1:Nat):Int):=by rw[aaP _ (by omega)];rfl
   obtain⟨bb,off,t,hA,-,ht,hcc,-⟩:=(E.l HL).get (k:=k) hlt;have d1:wr.cell? ⟨bb,off+k,none⟩=some (.string t):=by simpa[aj.sz] using hcc 0 _ rfl
   have HT:=L_ (Zk ht);clear hcc ht;refine G0 [5,0,4,16,15,18,5,0] ?_;refine bQ d1 ?_;clear d1 hA;refine G0 [0,4,5,0] ?_;refine ah (Nv t _ (HS t HT)) ?_;rintro _ w10 ⟨r,v,rfl,hr,hb⟩;replace E:=E.up hb;clear hb;refine G0 [26] ?_
   by_cases h0:(v==0)=true
   case pos=>
    have h00:v=0:=by simpa using h0
    subst h00;refine G E [84,70,3,60,0,4,6,5,0,0,4,7,9] ?_;clear E;intro g10 w12 E;replace E:=E.bD 1;refine JN ?_;refine aB 1 5 E ?_;refine ah (Rx Pg g6 k X r _ E HI.1 (hr rfl).2 (by have h:=HP t HT _ (hr rfl).1;rwa[show S r.pl.v=r.v from LJ r.v] at h) HZ (by omega) (by have:=HI.2;have:=hX.2.2.2.1;omega)) ?_;clear E;rintro _ w13 ⟨v2,Y,rfl,hY,E⟩;refine G0 [26] ?_
    by_cases h2:v2=0
    case neg=>
     refine G E [0,4,5,0,0,4,7,5,0,0,62,0,4,22,24,9] ?_;clear E;intro w14 E;exact aI 2 E ⟨GQ,v2,rfl,L_ ⟨kI.z,Zq _,fun h=>absurd h h2⟩,((E.drop 3).sub (Zi _) (Zy _)).aO.aO⟩
    subst h2;refine G0 [0,4,5,0,0,4,8,21,23,0,0,25] ?_
    go_roundw
    case rel=>exact⟨k+1,Y,rfl,hlt,L_ ⟨hY.1,hY.2.trans HI.2⟩,E.only 1⟩
    case measure=>simp[intOf];omega
   case neg=>
    replace h0:(v==0)=false:=by simpa using h0
    refine G E [84,70,3,60,0,4,6,5,0,0,4,8,15,5,9] ?_;clear E;intro g10 w16 E;have h1:¬v=0:=by simpa using h0
    refine G E [0,0,4,7,5,0,0,62,0,4,22,24,9] ?_;clear E;intro w17 E;exact aI 2 E ⟨GQ,v,rfl,L_ ⟨kI.z,Zq _,fun h=>by rw[h] at h0;cases h0⟩,((E.drop 3).sub (Zi _) (Zy _)).aO.aO⟩
  case neg=>
   refine G0 [5,0,4,17,27,28,5] ?_;have hX0:=hX.2.2.2;refine aB 0 2 E ?_;refine G E [61,0,4,22,9] ?_;clear E;intro w18 E;exact aI 1 E ⟨X,0,rfl,L_ ⟨HI.1,by have:=HI.2;omega,fun _=>by have:=hX0.2 rfl;have:=HI.2;omega⟩,(E.drop 2).YT (by omega)⟩
end
section
open Go.RowKit Go.Maps
def j4 (i g:Int):Value:=.agg #[i,g]
def IY (w:World)(g:Nat):Prop:=∃(es:Array MapEntry) (cl:Nat),w.heap[g]?=some (.map es cl)∧∀e∈es.toList,(∃i g,e.key=j4 i g)∧∃q,e.val=.bool q
def sj (g:Nat):It where
 p:=fun _ w=>IY w g
 bl:=[g]
 mono:=fun h _=>h
 keep:=fun h hk=>by
  obtain⟨es,cl,h1,h2⟩:=h;exact⟨es,cl,(hk _ (Zp.2 rfl)).trans h1,h2⟩
 lt:=fun h g hg=>by
  obtain⟨es,cl,h1,h2⟩:=h;rw[Zp.1 hg];exact(Z6.1 h1).1
theorem Xp (i g i' g':Int)(w:World):(Op.equal 313 (j4 i g) (j4 i' g')).run prog w=.ok ((i==i')&&(g==g')) w:=by
 have h0:prog.stoodInHeld 313=false:=by kernel_rfl
 have h1:prog.underlying 313=some (.struct (prog.fieldsOf 313)):=by kernel_rfl
 show(Op.equalIn (9999+1) 313 (.agg #[i,g]) (.agg #[i',g'])).run prog w=_;rw[run_equalIn_struct (P:=prog) w 9999 313 _ _ h1 h0];clear h0 h1;have p1:∀(x y:Int) (w:World),(part 3 #[.int .i64 x,.int .i64 y] 0).run prog w=.ok (.int .i64 x) w:=fun _ _ _=>by kernel_rfl
 have p2:∀(x y:Int) (w:World),(part 3 #[.int .i64 x,.int .i64 y] 1).run prog w=.ok (.int .i64 y) w:=fun _ _ _=>by kernel_rfl
 have q1:∀(x y:Int) (w:World),(Op.equalIn 9999 3 (.int .i64 x) (.int .i64 y)).run prog w=.ok (x==y) w:=fun x y w=>run_equalIn_int w 9998 3 .i64 .i64 x y underlying3;simp only[Program.fieldsOf,underlying313,Op.eqFields];simp only[aaV,p1,p2,q1,aaQ,ne_eq,Sem.run_ite,aaW];cases(i==i')<;>cases(g==g')<;>simp
theorem AO (em:Bool)(i g:Int)(w:World):(Instr.checkKey em 10000 313 (j4 i g)).run prog w=.ok () w:=by kernel_rfl
theorem DY (i g:Int)(w:World):∀(es:List MapEntry) (n:Nat),(∀e∈es,(∃i g,e.key=j4 i g)∧∃q,e.val=.bool q)→∃r,(Instr.findAsking 313 (j4 i g) es n).run prog w=.ok r w∧∀j v,r=some (j,v)→∃k,j=n+k∧∃e,es[k]?=some e∧e.key=j4 i g∧∃q,v=.bool q
 |[],n,_=>⟨none,rfl,fun j v h=>by cases h⟩
 |e::es,n,h=>by
  obtain⟨⟨i',g',hk⟩,q0,hv⟩:=h e ZC;have hq:=Xp i g i' g';unfold Instr.findAsking;cases hc:((i==i')&&(g==g')) with
  |true=>
   rw[hc] at hq;simp only[Zr,aar] at hc;exact⟨some (n,e.val),by rw[hk,aaV,hq w];rfl,fun j v hjv=>by cases hjv;exact⟨0,rfl,e,rfl,by rw[hk,hc.1,hc.2],q0,hv⟩⟩
  |false=>
   rw[hc] at hq;obtain⟨r,hr,hr2⟩:=DY i g w es (n+1) fun x hx=>h x (Zv _ hx);refine⟨r,by rw[hk,aaV,hq w];exact hr,fun j v hjv=>?_⟩;obtain⟨k,h1,e2,h2⟩:=hr2 j v hjv;exact⟨k+1,by omega,e2,by simpa using h2⟩
theorem Tc (i g:Int)(w:World)(es:List MapEntry)(h:∀e∈es,(∃i g,e.key=j4 i g)∧∃q,e.val=.bool q):∃r,(Instr.findKey 313 (j4 i g) es).run prog w=.ok r w∧∀j v,r=some (j,v)→∃e,es[j]?=some e∧e.key=j4 i g∧∃q,v=.bool q:=by
 unfold Instr.findKey;cases es with
 |nil=>
  refine⟨none,?_,fun j v h=>by cases h⟩;simp[Instr.findNow,underlying,go_sem,underlying313]
 |cons e r=>
  obtain⟨q,hq,h2⟩:=DY i g w (e::r) 0 h;obtain⟨⟨i',g',hk⟩,-⟩:=h e ZC;refine⟨q,?_,fun j v hjv=>by obtain⟨k,e1,h3⟩:=h2 j v hjv;rw[e1,aah];exact h3⟩;obtain⟨F,hF⟩:∃F,prog.underlying 313=some (.struct F):=⟨prog.fieldsOf 313,by kernel_rfl⟩
  have e1:Instr.findNow (.struct F) (j4 i g) (e::r) 0=none:=by
   unfold Instr.findNow;rw[hk];rfl
  simp[underlying,go_sem,hF,e1,hq]
theorem Tg {w:World}(h:IY w g)(i j:Int):∃q:Bool,(Instr.lookup 309 (.map (some g)) (j4 i j) false).run prog w=.ok q w:=by
 obtain⟨es,cl,hb,he⟩:=h;obtain⟨r,hr,h2⟩:=Tc i j w es.toList he;have hc:=AO es.isEmpty i j w;have hz:(zeroValue 4).run prog w=.ok false w:=by kernel_rfl
 cases r with
 |none=>exact⟨false,by simp[Instr.lookup,underlying,go_sem,underlying309,run_getObj_map w g es cl hb,hc,hr,hz]⟩
 |some p=>
  obtain⟨k,v⟩:=p;obtain⟨-,-,-,q,rfl⟩:=h2 k v rfl;exact⟨q,by simp[Instr.lookup,underlying,go_sem,underlying309,run_getObj_map w g es cl hb,hc,hr]⟩
theorem YO {w:World}(h:IY w g)(i j:Int)(q:Bool):∃w',(Instr.mapUpdate 309 (.map (some g)) (j4 i j) (.bool q)).run prog w=.ok () w'∧IY w' g∧w.grownBy w' (some g):=by
 obtain⟨es,cl,hb,he⟩:=h;obtain⟨r,hr,h2⟩:=Tc i j w es.toList he;have hc:=AO false i j w;have hg:g<w.heap.size:=(Z6.1 hb).1
 have aM:∀(es':Array MapEntry) (cl':Nat),(∀e∈es'.toList,(∃i g,e.key=j4 i g)∧∃q,e.val=.bool q)→IY { w with heap:=w.heap.setIfInBounds g (.map es' cl') } g∧w.grownBy { w with heap:=w.heap.setIfInBounds g (.map es' cl') } (some g):=fun es' cl' h'=>
  ⟨⟨es',cl',by simp[hg],h'⟩,⟨rfl,rfl,rfl,by simp,fun k _ hk=>by
   have:g≠k:=fun e=>hk (by rw[e]);simp[Array.getElem?_setIfInBounds,this]⟩⟩
 cases r with
 |none=>
  refine⟨_,?_,aM (es.push ⟨j4 i j,.bool q,cl⟩) (cl+1) fun e h=>?_⟩
  ·simp[Instr.mapUpdate,underlying,go_sem,underlying309,run_getObj_map w g es cl hb,hc,hr];simp[setObj,Sem.run,hb]
  ·rw[Array.toList_push] at h
   rcases Zm.1 h with h|h
   ·exact he e h
   ·rw[Zp.1 h];exact⟨⟨_,_,rfl⟩,_,rfl⟩
 |some p=>
  obtain⟨k,v⟩:=p;obtain⟨e,hk,hke,-⟩:=h2 k v rfl
  have hks:((es[k]?).map (·.key)).getD (j4 i j)=j4 i j:=by
   rw[←Array.getElem?_toList,hk];exact hke
  have hst:(Instr.keyThatStays (j4 i j) (j4 i j)).run prog w=.ok (j4 i j) w:=by
   unfold Instr.keyThatStays;rw[aaS (by simp[j4,Instr.sameBits])];rfl
  refine⟨_,?_,aM (es.modify k fun e=>{ e with key:=j4 i j,val:=.bool q }) cl fun x h=>?_⟩
  ·simp[Instr.mapUpdate,underlying,go_sem,underlying309,run_getObj_map w g es cl hb,hc,hr,hks,hst];simp[setObj,Sem.run,hb]
  ·rw[Array.toList_modify] at h;obtain⟨n,hn⟩:=aaF h;rw[List.getElem?_modify] at hn;cases hx:es.toList[n]? with
   |none=>rw[hx] at hn;cases hn
   |some y=>
    rw[hx] at hn;have hn2:=Z4 hn;rw[←hn2]
    split
    ·exact⟨⟨_,_,rfl⟩,_,rfl⟩
    ·exact he y (Zk hx)
section
variable{b:Nat}{w0 w:World}{bx:List Bx}{is:List It}{ops:Array Oper}{Q:Exit→Act→World→Prop}{a:Act}
theorem UE {rest:List Oper}(E:Env b w0 bx is w)(h:∀g w',Env b w0 bx (sj g::is) w'→wpList prog ops Q rest (a.put o.dst (.map (some g))) w')
  (hg:o.guard=none:=by rfl) (hr:(execOp a.eval o).run prog w=.ok (.value (.map (some w))) (w.alloc (.map #[] 0)):=by(have hmm:=@run_makeMap prog)<;>go_simp<;>with_reducible rfl):wpList prog ops Q (o::rest) a w:=by
 refine wpList_plain hg fun K hK=>?_;unfold Oper.wp;rw[hr];exact hK _ _ (h _ _ (E.gG ((aaO _ w).alloc (Zh _) _) (sj w) ⟨#[],0,Array.getElem?_push_size,fun e h=>by cases h⟩ (fun g hg=>by rw[Zp.1 hg];exact Zh _)))
theorem SG (q:Nat){rest:List Oper}{m:Operand}{i j:Int}(E:Env b w0 bx is w)(h:∀c:Bool,wpList prog ops Q rest (a.put o.dst c) w)
  (hq:is[q]?=some (sj g):=by rfl) (hg:Region.wanted o (yielded ops a.tmps)=true:=by rfl) (ho:o.op=Op.lookup t m x false:=by rfl) (ht:t=309:=by rfl) (hm:a.eval m=.map (some g):=by rfl) (hx:a.eval x=j4 i j:=by rfl):wpList prog ops Q (o::rest) a w:=by
 subst ht;obtain⟨c,hrun⟩:=Tg (E.get q hq) i j;refine wpList_step fun K hK=>?_;rw[aaS hg];unfold Oper.wp;simp[execOp,ho,hm,hx,hrun,Result.andThen];exact hK _ _ (h c)
theorem WZ (q:Nat){rest:List Oper}{m:Operand}{i j:Int}{c:Bool}(E:Env b w0 bx is w)(h:∀w',Env b w0 bx is w'→wpList prog ops Q rest a w')
  (hq:is[q]?=some (sj g):=by rfl) (hg:o.guard=none:=by rfl) (hd:o.dst=none:=by rfl) (ho:o.op=Op.mapUpdate t m x y:=by rfl) (ht:t=309:=by rfl) (hm:a.eval m=.map (some g):=by rfl) (hx:a.eval x=j4 i j:=by rfl) (hy:a.eval y=c:=by rfl):wpList prog ops Q (o::rest) a w:=by
 subst ht;obtain⟨w',hrun,hM,hgr⟩:=YO (E.get q hq) i j c;refine wpList_plain hg fun K hK=>?_;unfold Oper.wp;simp only[execOp,ho,hm,hx,hy,hrun,aaV,aaW,aaQ];refine hK _ _ ?_;rw[hd];have E':=E.row q hq hgr (fun g' e=>Zp.2 (Z4 e).symm) (i':=sj g) hM fun g' hg'=>Or.inl hg'
 have e:is.set q (sj g)=is:=by
  refine List.ext_getElem? fun n=>?_;rw[aaH]
  split
  ·rename_i h1
   subst h1;rw[aaS (Zo.1 hq).1,hq]
  ·rfl
 rw[e] at E';exact h _ E'
end
end
theorem DZ:∀args w,(callFunc 190 args).run prog w=.ok (.enter 190 args) w:=enters_of func190 (by kernel_rfl) rfl
theorem Yy {is:List It}{q:Nat}{g:Int}(k:Nat)(E:Env b w0 bx is w)(x:dZ)(hk:bx[k]?=some (q,3,[.int .i64 g])):Calls prog 190 #[.agg #[.int .i64 x.me,.int .i64 x.num,.slice x.g.r.A x.g.r.l.length x.g.r.c,.slice x.g.m.A x.g.m.l.length x.g.m.c,.slice x.log.A x.log.l.length x.log.c,.slice x.vs.A x.vs.l.length x.vs.c,.int .u8 x.t.ph,.int .i64 x.t.b,.slice x.t.mem.A x.t.mem.l.length x.t.mem.c,.string x.t.wi,.string x.t.va,.slice x.t.pr.A x.t.pr.l.length x.t.pr.c,.slice x.t.ac.A x.t.ac.l.length x.t.ac.c,.slice x.wi.A x.wi.l.length x.wi.c,.int .i64 x.hd],q] w fun e w'=>∃c,e=.returned (.bool c)∧c=(x.num==g)∧Below w.heap.size w w':=by
 have c0:=E.c k 0 hk rfl;have hq:(⟨q,0,none⟩:Addr).block<w.heap.size:=(E.blk k hk).lt;clear E
 go_enter func190,ntmps190
 refine bN ?_;refine DT (Env.start w) ?_;intro g2 w2 E;refine G E [3,0,4,5,0,40] ?_;refine bQ ((E.aD.cell hq).trans c0) ?_;refine G0 [0,0,4,22] ?_;exact ak (v:=.bool (x.num==g)) ⟨_,rfl,rfl,E.aD⟩
theorem RG {is:List It}(p N:Nat)(X:gY)(g:Int)(w:World)(E:Env b w0 (dJ p X::bx) is w)(hN:N≤1000000)(hl:∀w',Env b w0 (dJ p X::bx) is w'→X.x.se.aA w' w' N) :
  Calls prog 122 #[p,g] w fun e w'=>∃y:Int,e=.returned y∧Hid (Found (fun(x:dZ) c=>c=(x.num==g)) X.x.se.l y)∧Env b w0 (dJ p X::bx) is w':=by
 have HL:=L_ hl;clear hl
 go_enter func122,ntmps122
 refine G E [5,71,9] ?_;clear E;intro g3 w2 E;refine G E [3,0,4,5,84,0,41,0] ?_;refine ah (zF X.x.se (fun x c=>c=(x.num==g)) _ DZ #[g3] w2 N (HL.out _ (E.drop 1)) (by omega) (fun x _ w' hb=>Yy 0 (E.up hb) x rfl)) ?_;rintro _ w3 ⟨y,rfl,hy,hb⟩;replace hy:=L_ hy;replace E:=E.up hb;refine G0 [26,0,4,22] ?_;exact ak (v:=y) ⟨y,rfl,hy,E.drop 1⟩
theorem yj (s:Sl mM)(R:mM→Bool→Prop)(b g0:Nat)(eg:∀args w,(callFunc g0 args).run prog w=.ok (.enter g0 args) w)(C:Array Value)(w:World)(N:Nat)(h:s.aA w w N)(hs:s.Row w b)(hN:N≤1000000)
  (hf:∀x∈s.l,∀w',w.grownBy w' (Value.slice s.A s.l.length s.c).ownBlock→Calls prog g0 (#[.agg #[.int .i64 x.i,.int .i64 x.g,.int .i64 x.t]]++C) w' fun e w''=>∃q,e=.returned (.bool q)∧R x q∧Below w'.heap.size w' w'') :
  Calls prog 173 #[s,.func (.func g0) #[] C] w fun e w'=>∃s':Sl mM,e=.returned s'∧(∀x∈s'.l,x∈s.l∧R x false)∧s'.l.length≤s.l.length∧s'.Row w' b∧dX w w' s s':=by
 have hl:s.l.length≤1000000:=Zt h.2.2.2.1 hN;have HI:=L_ (Ac s R g0 eg C w N h (by omega) (fun x hx w' hb=>hf x hx w' (bV hb _)));have HS:=L_ hs;have HF:=L_ hf;clear h hs hf
 go_enter func173,ntmps173
 go_wp2_with fail;refine HI.mono ?_;rintro e w1 ⟨y,rfl,hy,hb⟩;have HB:=L_ hb;clear hb HI
 rcases hy with ⟨rfl,hall⟩|⟨k,x0,rfl,hk,hr0,hpre⟩
 ·have HA:=L_ hall;clear hall;go_wp2;go_ret;exact⟨s,rfl,fun x hx=>⟨hx,HA x hx⟩,Zh _,HS.below HB,⟨bV HB _,Or.inl rfl⟩⟩
 have hkl:k<s.l.length:=(Zo.1 hk).1;have hk1:((k:Int)==-1)=false:=ZX.2 (by omega);have HP:=L_ hpre;clear hk hr0 hpre;obtain⟨A,c,l⟩:=s;have hcap:=HS.caps;obtain⟨g,cur,hA,hbg,hK,-,-,h3,h4⟩:=HS.parts (by omega);simp only at hcap hl hkl hA h3 h4;subst hA;unfold maxLen at hcap;have HK:=L_ hK;have H4:Hid (cur.toList.take (l.length*aj.sz mM)=l.flatMap aj.cs):=L_ h4;have hsz:cur.size=c*3:=h3;have HK1:=L_ (hK.below HB hK.lt);clear hK h3 h4
 have HT:Hid ((l.take k).flatMap aj.cs=cur.toList.take (k*3)):=L_ (by
  have h:=Sl.kT l k;rw[←h,←H4.out,List.take_take,aaf (ZR _ (by omega))];rfl)
 go_wp2_with fail
 go_loopw [5,6] (fun p q wr=>∃(i j:Nat) (M:List mM) (cur':Array Value),p=(i:Int)∧q=(j:Int)∧i<j∧j≤l.length∧M.length=i∧(∀x∈M,x∈l∧R x false)∧aF wr g 296 cur'∧cur'.size=c*3∧cur'.toList.take (i*3)=M.flatMap aj.cs∧cur'.toList.drop (j*3)=cur.toList.drop (j*3)∧w.grownBy wr (some g)) (fun _ q _=>l.length - (intOf q).toNat)
 case atStart=>exact⟨k,k+1,l.take k,cur,rfl,by go_num,by omega,by omega,by rw[Zw];omega,fun x hx=>by
  obtain⟨j,hj,e⟩:=aaC hx;have hj2:=hj;rw[Zw] at hj2;rw[List.getElem_take] at e;exact⟨aaE hx,HP j x (by omega) (by rw[Zl (by omega),e])⟩,HK1,hsz,HT.symm,rfl,bV HB _⟩
 case round=>
  obtain⟨i,j,M,cur',rfl,rfl,hij,hj,hM,hMR,hK',hs',htk,hdr,hgr⟩:=hrel;have HM:=L_ hM;have HMR:=L_ hMR;have KW:=L_ hK';have HTK:=L_ htk;have HDR:=L_ hdr;have HGR:=L_ hgr;clear hM hMR hK' htk hdr hgr
  by_cases hlt:j<l.length
  ·obtain⟨x,hx⟩:∃x,l[j]?=some x:=⟨_,Zl hlt⟩
   have hcc:∀q u,(aj.cs x)[q]?=some u→wr.cell? ⟨g,j*3+q,none⟩=some u:=fun q u hq=>by
    have hq2:q<3:=by
     have:=(Zo.1 hq).1;rw[aj.len] at this;exact this
    rw[KW.out.cell]
    have h1:(cur.toList.take (l.length*aj.sz mM))[j*3+q]?=some u:=by
     rw[H4.out];exact(Sl.uo (k:=j) hx hq2).trans hq
    have h2:cur.toList[j*3+q]?=some u:=by
     rw[aav] at h1
     split at h1
     ·exact h1
     ·cases h1
    have h3:(cur'.toList.drop (j*3))[q]?=some u:=by
     rw[HDR.out,aaj];exact h2
    rw[aaj] at h3;simpa using h3
   have HX:=L_ (Zk hx);have c0:wr.cell? ⟨g,j*3,none⟩=some (.int .i64 x.i):=hcc 0 _ rfl;have c1:wr.cell? ⟨g,j*3+1,none⟩=some (.int .i64 x.g):=hcc 1 _ rfl;have c2:wr.cell? ⟨g,j*3+2,none⟩=some (.int .i64 x.t):=hcc 2 _ rfl;clear hcc hx;have KB:Hid (aF (wr.alloc (.cells x 296)) wr 296 x):=L_ (aF.new _ _ _);have KA:Hid (aF (wr.alloc (.cells x 296)) g 296 cur'):=L_ (KW.alloc _);have GA:Hid (w.grownBy (wr.alloc (.cells x 296)) (some g)):=L_ (jQ HGR _)
   go_upto_region 8 with fail
   obtain⟨gb,hgb⟩:∃gb,wr.heap.size=gb:=⟨_,rfl⟩;rw[hgb] at KB ⊢;generalize wr.alloc (.cells x 296)=W1 at *;clear hgb c0 c1 c2;have b0:=KB.cell 0;have b1:=KB.cell 1;have b2:=KB.cell 2;go_wp2_with fail
   go_at_fn g0
   refine(HF x HX W1 GA).mono ?_;rintro e w' ⟨q,rfl,hq,hb⟩;have HQ:=L_ hq;have KB2:=L_ (KB.below hb KB.lt);have KA2:=L_ (KA.below hb KA.lt);have GA2:Hid (w.grownBy w' (some g)):=L_ (GA.trans (bV hb _));clear hq hb b0 b1 b2
   have hdn:cur'.toList.drop ((j+1)*3)=cur.toList.drop ((j+1)*3):=by
    have h:=congrArg (List.drop 3) HDR;rw[List.drop_drop,List.drop_drop] at h;rw[show(j+1)*3=j*3+3 by omega];exact h
   have HDN:=L_ hdn;clear hdn;cases q with
   |true=>
    go_wp2
    go_roundw
    case rel=>exact⟨i,j+1,M,cur',rfl,by go_num,by omega,by omega,HM,HMR,KA2,hs',HTK,HDN,GA2⟩
    case measure=>simp[intOf];omega
   |false=>
    have hic:(i+1)*3≤c*3:=ZR _ (by omega);have b0:=KB2.cell 0;have u0:w'.cell? ⟨g,i*3,none⟩=some (cur'[i*3+0]'(by rw[hs'];omega)):=by rw[KA2.out.cell];exact ZM _
    have b1:=KB2.cell 1;have u1:w'.cell? ⟨g,i*3+1,none⟩=some (cur'[i*3+1]'(by rw[hs'];omega)):=by rw[KA2.out.cell];exact ZM _
    have b2:=KB2.cell 2;have u2:w'.cell? ⟨g,i*3+2,none⟩=some (cur'[i*3+2]'(by rw[hs'];omega)):=by rw[KA2.out.cell];exact ZM _
    have f0:=KA2.frozen;go_wp2_with fail;have KS:=L_ (aF.setCells (w:=w) (aj.cs x) (i*3) w' cur' KA2);have GS:Hid (w.grownBy (w'.setCells g (i*3) (aj.cs x)) (some g)):=L_ (dW HK.lt _ _ _ GA2);have HL1:=gV (aj.cs x) (i*3) cur' (by rw[aj.len,hs'];show i*3+3≤c*3;omega)
    have HT2:Hid ((kF cur' (i*3) (aj.cs x)).toList.take ((i+1)*3)=(M++[x]).flatMap aj.cs):=L_ (by
     have hlen:(cur'.toList.take (i*3)++aj.cs x).length=(i+1)*3:=by
      rw[Zn,Zw,ZO,hs',aj.len,aaf (by omega)];show i*3+3=_;omega
     rw[HL1,aac (by rw[hlen];exact Zh _),Zz (by rw[hlen];exact Zh _),HTK.out,List.flatMap_append,ZQ,List.flatMap_nil,aak])
    have HD2:Hid ((kF cur' (i*3) (aj.cs x)).toList.drop ((j+1)*3)=cur.toList.drop ((j+1)*3)):=L_ (by
     have hlen:(cur'.toList.take (i*3)++aj.cs x).length=(i+1)*3:=by
      rw[Zn,Zw,ZO,hs',aj.len,aaf (by omega)];show i*3+3=_;omega
     rw[HL1,List.drop_append,List.drop_of_length_le (by rw[hlen];omega),aay,hlen,List.drop_drop,aj.len];refine Eq.trans ?_ HDN;have e7:i*3+3+((j+1)*3 - (i+1)*3)=(j+1)*3:=by omega
     exact congrArg (fun m=>List.drop m cur'.toList) e7)
    clear HL1
    go_roundw
    case rel=>exact⟨i+1,j+1,M++[x],kF cur' (i*3) (aj.cs x),by go_num,by go_num,by omega,by omega,by rw[Zn,HM.out];rfl,fun z hz=>by
     rcases Zm.1 hz with hz|hz
     ·exact HMR z hz
     ·rw[Zp.1 hz];exact⟨HX,HQ⟩,KS,by rw[fH];exact hs',HT2,HD2,GS⟩
    case measure=>simp[intOf];omega
  ·obtain rfl:j=l.length:=by omega
   have hct:∀W,(Instr.slice 43 (.slice (some ⟨g,0,none⟩) l.length c) none (some ((i:Int))) none).run prog W=.ok (.slice (some ⟨g,0,none⟩) i c) W:=fun W=>uO mM 43 rfl (some ⟨g,0,none⟩) l.length c i (by omega) W;have hcf:∀W,(Instr.slice 43 (.slice (some ⟨g,0,none⟩) l.length c) (some ((i:Int))) none none).run prog W=.ok (.slice (some ⟨g,i*3,none⟩) (l.length - i) (c - i)) W:=fun W=>mF mM 43 rfl g l.length c i (by omega) (by omega) W;obtain⟨zs,hzs⟩:∃zs,(Builtin.zeroCells (aj.zero mM).cells (l.length - i)).toList=zs:=⟨_,rfl⟩;have hzl:zs.length=(l.length - i)*3:=by rw[←hzs,ZO,size_zeroCells,aj.zc];rfl
   have hzo:∀u∈zs,u.oneCell'=true:=by
    rw[←hzs]
    exact qx (fun u hu=>by
     have e:(aj.zero mM).cells=#[.int .i64 0,.int .i64 0,.int .i64 0]:=by kernel_rfl
     rw[e] at hu;simp only[List.mem_toArray,Zu,ZF,or_false] at hu
     rcases hu with rfl|rfl|rfl<;>rfl)
   have hcl:∀ty,(Builtin.clear_ #[43] ty #[.slice (some ⟨g,i*3,none⟩) (l.length - i) (c - i)]).run prog wr=.ok (.tuple #[]) (wr.setCells g (i*3) zs):=fun ty=>
    nS _ 43 296 ty (aj.zero mM) (aj.und (α:=mM)) (tN mM) g (i*3) (l.length - i) (c - i) zs hzs hzo (by omega) (fun q hq=>by
     rw[hzl] at hq;rw[KW.out.cell,ZM (by rw[hs'];omega)];rfl) (fun q hq=>KW.frozen _)
   have KF:=L_ (aF.setCells (w:=w) zs (i*3) wr cur' KW);have GF:Hid (w.grownBy (wr.setCells g (i*3) zs) (some g)):=L_ (dW HK.lt _ _ _ HGR)
   have HFIN:Hid ((kF cur' (i*3) zs).toList.take (M.length*aj.sz mM)=M.flatMap aj.cs):=L_ (by
    rw[HM.out,gV _ _ _ (by rw[hzl,hs'];omega),ZN];show List.take (i*3) _=_;rw[aac (by rw[Zw,ZO,hs'];omega),List.take_take,Nat.min_self];exact HTK)
   go_wp2_with (at_builtin;refine jU _ rfl _ 43 rfl _ rfl (hcl _) ?_);go_ret;exact⟨⟨some ⟨g,0,none⟩,c,M⟩,by rw[←HM.out];rfl,HMR,by rw[HM.out];omega,Sl.row_of hbg KF (by rw[HM.out];omega) (by unfold maxLen;omega) (by rw[fH];exact hs') HFIN,⟨GF,Or.inl rfl⟩⟩
theorem xV (s:Sl dI)(R:dI→Bool→Prop)(b g0:Nat)(eg:∀args w,(callFunc g0 args).run prog w=.ok (.enter g0 args) w)(C:Array Value)(w:World)(N:Nat)(h:s.aA w w N)(hs:s.Row w b)(hN:N≤1000000)
  (hf:∀x∈s.l,∀w',w.grownBy w' (Value.slice s.A s.l.length s.c).ownBlock→Calls prog g0 (#[.agg #[.int .i64 x.m.i,.slice x.m.g.A x.m.g.l.length x.m.g.c,.int .i64 x.m.t,.string x.m.key,.string x.m.body,.int .i64 x.t,.bool x.f]]++C) w' fun e w''=>∃q,e=.returned (.bool q)∧R x q∧Below w'.heap.size w' w'') :
  Calls prog 169 #[s,.func (.func g0) #[] C] w fun e w'=>∃s':Sl dI,e=.returned s'∧(∀x∈s'.l,x∈s.l∧R x false)∧s'.l.length≤s.l.length∧s'.Row w' b∧dX w w' s s':=by
 have hl:s.l.length≤1000000:=Zt h.2.2.2.1 hN;have HI:=L_ (zR s R g0 eg C w N h (by omega) (fun x hx w' hb=>hf x hx w' (bV hb _)));have HS:=L_ hs;have HF:=L_ hf;clear h hs hf
 go_enter func169,ntmps169
 go_wp2_with fail;refine HI.mono ?_;rintro e w1 ⟨y,rfl,hy,hb⟩;have HB:=L_ hb;clear hb HI
 rcases hy with ⟨rfl,hall⟩|⟨k,x0,rfl,hk,hr0,hpre⟩
 ·have HA:=L_ hall;clear hall;go_wp2;go_ret;exact⟨s,rfl,fun x hx=>⟨hx,HA x hx⟩,Zh _,HS.below HB,⟨bV HB _,Or.inl rfl⟩⟩
 have hkl:k<s.l.length:=(Zo.1 hk).1;have hk1:((k:Int)==-1)=false:=ZX.2 (by omega);have HP:=L_ hpre;clear hk hr0 hpre;obtain⟨A,c,l⟩:=s;have hcap:=HS.caps;obtain⟨g,cur,hA,hbg,hK,-,-,h3,h4⟩:=HS.parts (by omega);simp only at hcap hl hkl hA h3 h4;subst hA;unfold maxLen at hcap;have HK:=L_ hK;have H4:Hid (cur.toList.take (l.length*aj.sz dI)=l.flatMap aj.cs):=L_ h4;have hsz:cur.size=c*7:=h3;have HK1:=L_ (hK.below HB hK.lt);clear hK h3 h4
 have HT:Hid ((l.take k).flatMap aj.cs=cur.toList.take (k*7)):=L_ (by
  have h:=Sl.kT l k;rw[←h,←H4.out,List.take_take,aaf (ZR _ (by omega))];rfl)
 go_wp2_with fail
 go_loopw [5,6] (fun p q wr=>∃(i j:Nat) (M:List dI) (cur':Array Value),p=(i:Int)∧q=(j:Int)∧i<j∧j≤l.length∧M.length=i∧(∀x∈M,x∈l∧R x false)∧aF wr g 202 cur'∧cur'.size=c*7∧cur'.toList.take (i*7)=M.flatMap aj.cs∧cur'.toList.drop (j*7)=cur.toList.drop (j*7)∧w.grownBy wr (some g)) (fun _ q _=>l.length - (intOf q).toNat)
 case atStart=>exact⟨k,k+1,l.take k,cur,rfl,by go_num,by omega,by omega,by rw[Zw];omega,fun x hx=>by
  obtain⟨j,hj,e⟩:=aaC hx;have hj2:=hj;rw[Zw] at hj2;rw[List.getElem_take] at e;exact⟨aaE hx,HP j x (by omega) (by rw[Zl (by omega),e])⟩,HK1,hsz,HT.symm,rfl,bV HB _⟩
 case round=>
  obtain⟨i,j,M,cur',rfl,rfl,hij,hj,hM,hMR,hK',hs',htk,hdr,hgr⟩:=hrel;have HM:=L_ hM;have HMR:=L_ hMR;have KW:=L_ hK';have HTK:=L_ htk;have HDR:=L_ hdr;have HGR:=L_ hgr;clear hM hMR hK' htk hdr hgr
  by_cases hlt:j<l.length
  ·obtain⟨x,hx⟩:∃x,l[j]?=some x:=⟨_,Zl hlt⟩
   have hcc:∀q u,(aj.cs x)[q]?=some u→wr.cell? ⟨g,j*7+q,none⟩=some u:=fun q u hq=>by
    have hq2:q<7:=by
     have:=(Zo.1 hq).1;rw[aj.len] at this;exact this
    rw[KW.out.cell]
    have h1:(cur.toList.take (l.length*aj.sz dI))[j*7+q]?=some u:=by
     rw[H4.out];exact(Sl.uo (k:=j) hx hq2).trans hq
    have h2:cur.toList[j*7+q]?=some u:=by
     rw[aav] at h1
     split at h1
     ·exact h1
     ·cases h1
    have h3:(cur'.toList.drop (j*7))[q]?=some u:=by
     rw[HDR.out,aaj];exact h2
    rw[aaj] at h3;simpa using h3
   have HX:=L_ (Zk hx);have c0:wr.cell? ⟨g,j*7,none⟩=some (.int .i64 x.m.i):=hcc 0 _ rfl;have c1:wr.cell? ⟨g,j*7+1,none⟩=some (.slice x.m.g.A x.m.g.l.length x.m.g.c):=hcc 1 _ rfl;have c2:wr.cell? ⟨g,j*7+2,none⟩=some (.int .i64 x.m.t):=hcc 2 _ rfl;have c3:wr.cell? ⟨g,j*7+3,none⟩=some (.string x.m.key):=hcc 3 _ rfl;have c4:wr.cell? ⟨g,j*7+4,none⟩=some (.string x.m.body):=hcc 4 _ rfl;have c5:wr.cell? ⟨g,j*7+5,none⟩=some (.int .i64 x.t):=hcc 5 _ rfl;have c6:wr.cell? ⟨g,j*7+6,none⟩=some (.bool x.f):=hcc 6 _ rfl;clear hcc hx;have KB:Hid (aF (wr.alloc (.cells x 202)) wr 202 x):=L_ (aF.new _ _ _);have KA:Hid (aF (wr.alloc (.cells x 202)) g 202 cur'):=L_ (KW.alloc _);have GA:Hid (w.grownBy (wr.alloc (.cells x 202)) (some g)):=L_ (jQ HGR _)
   go_upto_region 8 with fail
   obtain⟨gb,hgb⟩:∃gb,wr.heap.size=gb:=⟨_,rfl⟩;rw[hgb] at KB ⊢;generalize wr.alloc (.cells x 202)=W1 at *;clear hgb c0 c1 c2 c3 c4 c5 c6;have b0:=KB.cell 0;have b1:=KB.cell 1;have b2:=KB.cell 2;have b3:=KB.cell 3;have b4:=KB.cell 4;have b5:=KB.cell 5;have b6:=KB.cell 6;go_wp2_with fail
   go_at_fn g0
   refine(HF x HX W1 GA).mono ?_;rintro e w' ⟨q,rfl,hq,hb⟩;have HQ:=L_ hq;have KB2:=L_ (KB.below hb KB.lt);have KA2:=L_ (KA.below hb KA.lt);have GA2:Hid (w.grownBy w' (some g)):=L_ (GA.trans (bV hb _));clear hq hb b0 b1 b2 b3 b4 b5 b6
   have hdn:cur'.toList.drop ((j+1)*7)=cur.toList.drop ((j+1)*7):=by
    have h:=congrArg (List.drop 7) HDR;rw[List.drop_drop,List.drop_drop] at h;rw[show(j+1)*7=j*7+7 by omega];exact h
   have HDN:=L_ hdn;clear hdn;cases q with
   |true=>
    go_wp2
    go_roundw
    case rel=>exact⟨i,j+1,M,cur',rfl,by go_num,by omega,by omega,HM,HMR,KA2,hs',HTK,HDN,GA2⟩
    case measure=>simp[intOf];omega
   |false=>
    have hic:(i+1)*7≤c*7:=ZR _ (by omega);have b0:=KB2.cell 0;have u0:w'.cell? ⟨g,i*7,none⟩=some (cur'[i*7+0]'(by rw[hs'];omega)):=by rw[KA2.out.cell];exact ZM _
    have b1:=KB2.cell 1;have u1:w'.cell? ⟨g,i*7+1,none⟩=some (cur'[i*7+1]'(by rw[hs'];omega)):=by rw[KA2.out.cell];exact ZM _
    have b2:=KB2.cell 2;have u2:w'.cell? ⟨g,i*7+2,none⟩=some (cur'[i*7+2]'(by rw[hs'];omega)):=by rw[KA2.out.cell];exact ZM _
    have b3:=KB2.cell 3;have u3:w'.cell? ⟨g,i*7+3,none⟩=some (cur'[i*7+3]'(by rw[hs'];omega)):=by rw[KA2.out.cell];exact ZM _
    have b4:=KB2.cell 4;have u4:w'.cell? ⟨g,i*7+4,none⟩=some (cur'[i*7+4]'(by rw[hs'];omega)):=by rw[KA2.out.cell];exact ZM _
    have b5:=KB2.cell 5;have u5:w'.cell? ⟨g,i*7+5,none⟩=some (cur'[i*7+5]'(by rw[hs'];omega)):=by rw[KA2.out.cell];exact ZM _
    have b6:=KB2.cell 6;have u6:w'.cell? ⟨g,i*7+6,none⟩=some (cur'[i*7+6]'(by rw[hs'];omega)):=by rw[KA2.out.cell];exact ZM _
    have f0:=KA2.frozen;go_wp2_with fail;have KS:=L_ (aF.setCells (w:=w) (aj.cs x) (i*7) w' cur' KA2);have GS:Hid (w.grownBy (w'.setCells g (i*7) (aj.cs x)) (some g)):=L_ (dW HK.lt _ _ _ GA2);have HL1:=gV (aj.cs x) (i*7) cur' (by rw[aj.len,hs'];show i*7+7≤c*7;omega)
    have HT2:Hid ((kF cur' (i*7) (aj.cs x)).toList.take ((i+1)*7)=(M++[x]).flatMap aj.cs):=L_ (by
     have hlen:(cur'.toList.take (i*7)++aj.cs x).length=(i+1)*7:=by
      rw[Zn,Zw,ZO,hs',aj.len,aaf (by omega)];show i*7+7=_;omega
     rw[HL1,aac (by rw[hlen];exact Zh _),Zz (by rw[hlen];exact Zh _),HTK.out,List.flatMap_append,ZQ,List.flatMap_nil,aak])
    have HD2:Hid ((kF cur' (i*7) (aj.cs x)).toList.drop ((j+1)*7)=cur.toList.drop ((j+1)*7)):=L_ (by
     have hlen:(cur'.toList.take (i*7)++aj.cs x).length=(i+1)*7:=by
      rw[Zn,Zw,ZO,hs',aj.len,aaf (by omega)];show i*7+7=_;omega
     rw[HL1,List.drop_append,List.drop_of_length_le (by rw[hlen];omega),aay,hlen,List.drop_drop,aj.len];refine Eq.trans ?_ HDN;have e7:i*7+7+((j+1)*7 - (i+1)*7)=(j+1)*7:=by omega
     exact congrArg (fun m=>List.drop m cur'.toList) e7)
    clear HL1
    go_roundw
    case rel=>exact⟨i+1,j+1,M++[x],kF cur' (i*7) (aj.cs x),by go_num,by go_num,by omega,by omega,by rw[Zn,HM.out];rfl,fun z hz=>by
     rcases Zm.1 hz with hz|hz
     ·exact HMR z hz
     ·rw[Zp.1 hz];exact⟨HX,HQ⟩,KS,by rw[fH];exact hs',HT2,HD2,GS⟩
    case measure=>simp[intOf];omega
  ·obtain rfl:j=l.length:=by omega
   have hct:∀W,(Instr.slice 66 (.slice (some ⟨g,0,none⟩) l.length c) none (some ((i:Int))) none).run prog W=.ok (.slice (some ⟨g,0,none⟩) i c) W:=fun W=>uO dI 66 rfl (some ⟨g,0,none⟩) l.length c i (by omega) W;have hcf:∀W,(Instr.slice 66 (.slice (some ⟨g,0,none⟩) l.length c) (some ((i:Int))) none none).run prog W=.ok (.slice (some ⟨g,i*7,none⟩) (l.length - i) (c - i)) W:=fun W=>mF dI 66 rfl g l.length c i (by omega) (by omega) W;obtain⟨zs,hzs⟩:∃zs,(Builtin.zeroCells (aj.zero dI).cells (l.length - i)).toList=zs:=⟨_,rfl⟩;have hzl:zs.length=(l.length - i)*7:=by rw[←hzs,ZO,size_zeroCells,aj.zc];rfl
   have hzo:∀u∈zs,u.oneCell'=true:=by
    rw[←hzs]
    exact qx (fun u hu=>by
     have e:(aj.zero dI).cells=#[.int .i64 0,.slice none 0 0,.int .i64 0,.string ⟨#[]⟩,.string ⟨#[]⟩,.int .i64 0,.bool false]:=by kernel_rfl
     rw[e] at hu;simp only[List.mem_toArray,Zu,ZF,or_false] at hu
     rcases hu with rfl|rfl|rfl|rfl|rfl|rfl|rfl<;>rfl)
   have hcl:∀ty,(Builtin.clear_ #[66] ty #[.slice (some ⟨g,i*7,none⟩) (l.length - i) (c - i)]).run prog wr=.ok (.tuple #[]) (wr.setCells g (i*7) zs):=fun ty=>
    nS _ 66 202 ty (aj.zero dI) (aj.und (α:=dI)) (tN dI) g (i*7) (l.length - i) (c - i) zs hzs hzo (by omega) (fun q hq=>by
     rw[hzl] at hq;rw[KW.out.cell,ZM (by rw[hs'];omega)];rfl) (fun q hq=>KW.frozen _)
   have KF:=L_ (aF.setCells (w:=w) zs (i*7) wr cur' KW);have GF:Hid (w.grownBy (wr.setCells g (i*7) zs) (some g)):=L_ (dW HK.lt _ _ _ HGR)
   have HFIN:Hid ((kF cur' (i*7) zs).toList.take (M.length*aj.sz dI)=M.flatMap aj.cs):=L_ (by
    rw[HM.out,gV _ _ _ (by rw[hzl,hs'];omega),ZN];show List.take (i*7) _=_;rw[aac (by rw[Zw,ZO,hs'];omega),List.take_take,Nat.min_self];exact HTK)
   go_wp2_with (at_builtin;refine jU _ rfl _ 66 rfl _ rfl (hcl _) ?_);go_ret;exact⟨⟨some ⟨g,0,none⟩,c,M⟩,by rw[←HM.out];rfl,HMR,by rw[HM.out];omega,Sl.row_of hbg KF (by rw[HM.out];omega) (by unfold maxLen;omega) (by rw[fH];exact hs') HFIN,⟨GF,Or.inl rfl⟩⟩
end Go.Proofs.YtaebfkcgdmodlaaGreatDoor
