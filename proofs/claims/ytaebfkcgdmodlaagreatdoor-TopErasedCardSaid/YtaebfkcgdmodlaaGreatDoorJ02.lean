/-
  A part of the proof that the erased node of towncrier reads nothing (TopErased).
-/
import Derived.Test.YtaebfkcgdmodlaaGreatDoorJ01
namespace Go.Proofs.YtaebfkcgdmodlaaGreatDoor
open Go.RowKit Go.Proofs.Tryz
set_option maxHeartbeats 16000000
set_option maxRecDepth 100000
set_option linter.unusedVariables false
set_option linter.unusedSimpArgs false
variable{k:Nat}
namespace Sl
variable{α:Type}[aj α] {w:World}{b b' N:Nat}{s:Sl α}
theorem Row.lt (h:s.Row w b){a:Addr}(hA:s.A=some a):a.block<w.heap.size:=by
 obtain⟨_,cur,hh⟩:=h.iD hA;exact(Z6.1 hh).1
theorem Row.at_ (h:s.Row w b){x:α}(hx:s.l[k]?=some x):∃(g:Nat) (cur:Array Value),s.A=some ⟨g,0,none⟩∧b≤g∧aF w g (aj.ty α) cur∧∀i u,(aj.cs x)[i]?=some u→w.cell? ⟨g,k*aj.sz α+i,none⟩=some u:=by
 have hk:k<s.l.length:=(Zo.1 hx).1;obtain⟨g,cur,hA,hb,hK,h1,h2,h3,h4⟩:=h.parts (by omega);refine⟨g,cur,hA,hb,hK,fun i u hu=>?_⟩;have hi:i<aj.sz α:=by have:=(Zo.1 hu).1;rwa[aj.len] at this
 have e:s.row[k*aj.sz α+i]?=some u:=(uo (k:=k) hx hi).trans hu;rw[←h4,aav] at e;rw[hK.cell]
 split at e
 ·simpa using e
 ·cases e
end Sl
variable{a:Act}{listed:Array Bool}{ops:Array Oper}{Q:Exit→Act→World→Prop}{bx0:List Bx}{vs:List Value}{N' g i:Nat}{o oi:Oper}{sl x y:Operand}{β:Type}{T t ty:TypeId}{v:Value}
def own {α:Type}[au α](x:α)(N:Nat):It where
 p:=fun b w=>au.Own w b N x
 bl:=(au.bl x).map (·.1)
 mono:=fun h hb=>au.aG h hb (Zh _)
 keep:=fun h hk=>au.aN h fun g t hg=>hk g (ZA.2 ⟨_,hg,rfl⟩)
 lt:=fun h g hg=>by
  obtain⟨⟨g,t⟩,hm,rfl⟩:=ZA.1 hg;obtain⟨_,cur,hh⟩:=au.dK h g t hm;exact(Z6.1 hh).1
instance Yv {α:Type}[aj α]:au (Sl α) where
 bl:=Sl.bl
 aA:=Sl.aA
 Own:=Sl.Own
 bA:=Sl.aA.keep
 aS:=Sl.aA.more
 aN:=Sl.Own.keep
 aG:=Sl.Own.mono
 dK:=Sl.Own.iD
 dP:=Sl.Own.lie
section
variable{P:Program}{α:Type}[aj α] {b N:Nat}{w0 w w':World}{bx:List Bx}{is:List It}{fn:FuncId}
theorem Env.sH [au β](E:Env b w0 bx is w)(h:Below w w w'){x:β}(o:au.Own w' w N x):Env b w0 bx (own x N::is) w':=
 E.gG h (own x N) o fun g hg=>by
  obtain⟨⟨g,t⟩,hm,rfl⟩:=ZA.1 hg;exact(au.dK o g t hm).1
theorem qg (C:∀(s:Sl α) (w:World) (B:Nat),Reads w B (aj.sz α) s.A s.l.length s.row→B≤w.heap.size→s.l.length≤1000000000→Calls P fn #[s] w fun e w'=>∃s':Sl α,e=.returned s'∧s'.l=s.l∧s'.Row w' w.heap.size∧Below w w w')
  (E:Env b w0 bx is w) {s:Sl α} (h:Sl.aA w0 b N s) (hN:N≤1000000000:=by omega) (hf:∀(x:α) (w:World) (b N:Nat),au.Own w b N x:=by exact fun _ _ _ _=>trivial):Calls P fn #[s] w fun e w'=>∃r:Sl α,e=.returned r∧Hid (r.l=s.l)∧Env b w0 bx (own r N::is) w':=
 (C s w b (h.below E.aD).1 E.sz (by have:=h.2.2.2.1;omega)).mono fun e w' ⟨r,he,hl,hr,hb⟩=>⟨r,he,L_ hl,E.sH hb (show Sl.Own w' w N r from⟨hr,by rw[hl];exact h.2.2.2.1,fun x _=>hf x _ _ _⟩)⟩
theorem Env.mG (E:Env b w0 bx is w)(k:Nat){s s':Sl α}(hk:is[k]?=some (own s N))(hg:dX w w' s s')(hr:s'.Row w' b)(hn:s'.l.length≤N')(hf:∀(x:α) (w:World) (b N:Nat),au.Own w b N x∧au.bl x=[]:=by exact fun _ _ _ _=>⟨trivial,rfl⟩):Env b w0 bx (is.set k (own s' N')) w':=by
 have hb:∀(r:Sl α) (g:Nat),g∈(own r N).bl↔∃a,r.A=some a∧g=a.block:=fun r g=>by
  have h0:r.l.flatMap au.bl=[]:=List.flatMap_eq_nil_iff.2 fun x _=>(hf x w 0 0).2
  have h1:au.bl r=(match r.A with|some a=>[(a.block,aj.ty α)]|none=>[]):=by
   show(match r.A with|some a=>[(a.block,aj.ty α)]|none=>[])++r.l.flatMap au.bl=_;rw[h0,aak]
  show g∈(au.bl r).map (·.1)↔_;rw[h1];cases r.A<;>simp
 refine E.row k hk hg.1 (fun g e=>?_) (show Sl.Own w' b N' s' from⟨hr,hn,fun x _=>(hf x _ _ _).1⟩) fun g hm=>?_
 ·rw[hb];cases hA:s.A with
  |none=>rw[hA] at e;cases e
  |some a=>rw[hA] at e;exact⟨a,rfl,(Z4 e).symm⟩
 ·obtain⟨a,ha,rfl⟩:=(hb s' _).1 hm
  rcases hg.2 with h|⟨q,h,hq⟩
  ·rw[ha] at h;refine Or.inl ((hb s _).2 ?_);cases hA:s.A with
   |none=>rw[hA] at h;cases h
   |some c=>rw[hA] at h;exact⟨c,rfl,Z4 h⟩
  ·rw[ha] at h;exact Or.inr ((Z4 h)▸hq)
theorem pV (k:Nat){rest:List Oper}{s:Sl α}(N':Nat)(y:Sl α)(E:Env b w0 bx is w)(hy:Reads w w (aj.sz α) y.A y.l.length y.row)(hn:s.l.length+y.l.length≤N')(hN:N'≤1000000)
  (h:∀(s':Sl α) w',Hid (s'.l=s.l++y.l)→Env b w0 bx (is.set k (own s' N')) w'→wpList prog ops Q rest (a.put o.dst (.slice s'.A s'.l.length s'.c)) w')
  (hk:is[k]?=some (own s N):=by rfl) (hgd:o.guard=none:=by rfl) (hT:T=aj.sty α:=by rfl) (ho:o.op=.call { callee:=.builtin .append,args:=#[sl,x],argTypes:=#[T,T] }:=by rfl) (hs:a.eval sl=s:=by rfl) (hx:a.eval x=y:=by rfl) (hf:∀(x:α) (w:World) (b N:Nat),au.Own w b N x∧au.bl x=[]:=by exact fun _ _ _ _=>⟨trivial,rfl⟩):wpList prog ops Q (o::rest) a w:=by
 have hr:=(show Sl.Own w b N s from E.get k hk).1;refine Sl.app hgd sl x T hT ho b s hs hr w y hx hy (by omega) E.sz fun s' w' h1 h2 h3=>?_;exact h s' w' (L_ h1) (E.mG k hk h3 h2 (by rw[h1,Zn];exact hn) hf)
theorem DX (i k:Nat){md:Region.Mode}{rest:List Oper}{n f:Nat}{s:Sl α}(N':Nat)(y:Sl α)(E:Env b w0 bx is w)(hy:Reads w w (aj.sz α) y.A y.l.length y.row)(hn:s.l.length+y.l.length≤N')(hN:N'≤1000000)
  (h:∀(s':Sl α) w',Hid (s'.l=s.l++y.l)→Env b w0 bx (is.set k (own s' N')) w'→av prog md ops Q (Env b w0 bx0 []) n (bR prog md ops Q n) f (listed.setIfInBounds i true) (a.put oi.dst (.slice s'.A s'.l.length s'.c)) w')
  (hi:ops.toList.drop i=oi::rest:=by rfl) (hB:qN md ops n i listed=true:=by kernel_rfl) (hk:is[k]?=some (own s N):=by rfl) (hgd:oi.guard=none:=by rfl) (hT:T=aj.sty α:=by rfl) (ho:oi.op=.call { callee:=.builtin .append,args:=#[sl,x],argTypes:=#[T,T] }:=by rfl) (hs:a.eval sl=s:=by rfl) (hx:a.eval x=y:=by rfl) (hf:∀(x:α) (w:World) (b N:Nat),au.Own w b N x∧au.bl x=[]:=by exact fun _ _ _ _=>⟨trivial,rfl⟩) (hsb:bx0.Sublist bx:=by first|exact Zi _|exact Zj _ (Zi _)|exact Zj _ (Zj _ (Zi _))|exact Zj _ (Zj _ (Zj _ (Zi _)))):av prog md ops Q (Env b w0 bx0 []) n (bR prog md ops Q n) (f+1) listed a w:=by
 refine qW (aL hi) hB ?_;have hr:=(show Sl.Own w b N s from E.get k hk).1;refine Sl.app hgd sl x T hT ho b s hs hr w y hx hy (by omega) E.sz fun s' w' h1 h2 h3=>?_;have E':=E.mG k hk h3 h2 (by rw[h1,Zn];exact hn) hf;exact⟨E'.sub hsb (Zy _),h s' w' (L_ h1) E'⟩
end
theorem gL {α:Type}[aj α]{s:Sl α}{N:Nat}{a:Addr}(h:s.A=some a):a.block∈(own s N).bl:=by
 refine ZA.2 ⟨(a.block,aj.ty α),ZJ _ ?_,rfl⟩;rw[h];exact Zp.2 rfl
theorem Env.SI {α:Type}[aj α]{b N:Nat}{w0 w:World}{bx:List Bx}{is:List It}{s:Sl α}(E:Env b w0 bx (own s N::is) w)(hA:s.A=some ⟨g,0,none⟩)(hp:0<s.l.length):∃cs:List Value,cs.length=s.c*aj.sz α∧cs.take (s.l.length*aj.sz α)=s.row∧Env b w0 ((g,aj.ty α,cs)::bx) is w:=by
 obtain⟨g',cur,hA',hb,hK,c1,c2,c3,c4⟩:=(show Sl.Own w b N s from E.get 0).1.parts hp;rw[hA] at hA';injection hA' with hA'
 injection hA' with hA'
 subst hA';have hg:g∈(own s N).bl:=gL (N:=N) hA;refine⟨cur.toList,by rw[ZO];exact c3,c4,E.aD,E.sz,fun x hx=>?_,fun i hi=>E.it i (Zv _ hi),fun l hl q hq=>?_,?_⟩
 ·rcases Zu.1 hx with rfl|hx
  ·simpa using hK
  ·exact E.at_ x hx
 ·rcases Zu.1 hl with rfl|hl
  ·rw[Zp.1 hq];exact hb
  ·refine E.ge l ?_ q hq
   rcases Zm.1 hl with h|h
   ·exact ZJ _ h
   ·exact ZL _ (Zv _ h)
 ·have hs:(comps bx (own s N::is)).Perm ((own s N).bl::comps bx is):=by
   unfold comps;exact List.perm_middle
  have h2:=hs.pairwise E.dj (fun hxy g hg hm=>hxy g hm hg);obtain⟨h3,h4⟩:=List.pairwise_cons.1 h2;exact List.pairwise_cons.2 ⟨fun l hl q hq=>by rw[Zp.1 hq];exact h3 l hl g hg,h4⟩
theorem Env.I7 {α:Type}[aj α]{b N:Nat}{w0 w:World}{bx:List Bx}{is:List It}{s:Sl α}{cs:List Value}(E:Env b w0 ((g,aj.ty α,cs)::bx) is w)(hA:s.A=some ⟨g,0,none⟩)(h1:s.l.length≤s.c)(h2:s.c≤maxLen)(h3:cs.length=s.c*aj.sz α)(h4:cs.take (s.l.length*aj.sz α)=s.row)(hN:s.l.length≤N)
  (hf:∀(x:α) (w:World) (b N:Nat),au.Own w b N x∧au.bl x=[]:=by exact fun _ _ _ _=>⟨trivial,rfl⟩):Env b w0 bx (own s N::is) w:=by
 have hb:b≤g:=E.ge [g] ZC g (Zp.2 rfl);have hK:=E.blk 0 rfl
 have hr:s.Row w b:=by
  obtain⟨A,c,l⟩:=s;dsimp only at hA;subst hA;exact Sl.row_of hb hK h1 h2 (by simpa using h3) h4
 have hbl:∀q∈(own s N).bl,q=g:=fun q hq=>by
  have h0:s.l.flatMap au.bl=[]:=List.flatMap_eq_nil_iff.2 fun x _=>(hf x w 0 0).2;obtain⟨⟨q',t⟩,hm,rfl⟩:=ZA.1 hq
  rcases Zm.1 (show(q',t)∈(match s.A with|some a=>[(a.block,aj.ty α)]|none=>[])++s.l.flatMap au.bl from hm) with h|h
  ·rw[hA] at h;simp only[Zu,ZF,or_false,ZV] at h;exact h.1
  ·rw[h0] at h;cases h
 refine⟨E.aD,E.sz,fun x hx=>E.at_ x (Zv _ hx),fun i hi=>?_,fun l hl q hq=>?_,?_⟩
 ·rcases Zu.1 hi with rfl|hi
  ·exact(show Sl.Own w b N s from⟨hr,hN,fun x _=>(hf x _ _ _).1⟩)
  ·exact E.it i hi
 ·rcases Zm.1 hl with h|h
  ·exact E.ge l (Zv _ (ZJ _ h)) q hq
  ·rcases Zu.1 h with rfl|h
   ·rw[hbl q hq];exact hb
   ·exact E.ge l (Zv _ (ZL _ h)) q hq
 ·have hs:((own s N).bl::comps bx is).Perm (comps bx (own s N::is)):=by
   unfold comps;exact List.perm_middle.symm
  refine hs.pairwise ?_ (fun hxy g hg hm=>hxy g hm hg);obtain⟨h5,h6⟩:=List.pairwise_cons.1 (show List.Pairwise (fun l m=>∀g∈l,g ∉ m) ([g]::comps bx is) from E.dj);exact List.pairwise_cons.2 ⟨fun l hl q hq=>by rw[hbl q hq];exact h5 l hl g (Zp.2 rfl),h6⟩
theorem iQ:∀(vs cs:List Value) (i:Nat),(Env.splice cs i vs).length=cs.length
 |[],cs,i=>rfl
 |v::vs,cs,i=>(iQ vs _ _).trans (Z7 ..)
theorem pE:∀(vs a c:List Value) (i:Nat),i+vs.length≤a.length→Env.splice (a++c) i vs=Env.splice a i vs++c
 |[],a,c,i,h=>rfl
 |v::vs,a,c,i,h=>by
  rw[ZI] at h;rw[Env.splice,Env.splice,List.set_append_left _ _ (by omega),pE vs _ c (i+1) (by rw[Z7];omega)]
theorem nN:∀(vs a c:List Value) (i:Nat),Env.splice (a++c) (a.length+i) vs=a++Env.splice c i vs
 |[],a,c,i=>rfl
 |v::vs,a,c,i=>by rw[Env.splice,Env.splice,List.set_append_right _ _ (by omega),Nat.add_sub_cancel_left,Nat.add_assoc,nN vs a _ (i+1)]
theorem vQ {α:Type}[aj α]{x y:α}(hy:aj.cs y=Env.splice (aj.cs x) i vs)(hi:i+vs.length≤aj.sz α):∀(l:List α) (k:Nat),l[k]?=some x→(l.set k y).flatMap aj.cs=Env.splice (l.flatMap aj.cs) (k*aj.sz α+i) vs
 |[],k,h=>by simp at h
 |a::l,0,h=>by
  simp only[List.getElem?_cons_zero,ZH] at h;subst h;rw[aaJ,ZQ,ZQ,hy,Nat.zero_mul,aah,pE _ _ _ _ (by rw[aj.len];exact hi)]
 |a::l,k+1,h=>by
  rw[List.getElem?_cons_succ] at h;rw[aaK,ZQ,ZQ,vQ hy hi l k h,show(k+1)*aj.sz α+i=(aj.cs a).length+(k*aj.sz α+i) by rw[aj.len,Nat.succ_mul];omega,nN]
theorem iC (g:Nat):∀(vs:List Value) (i:Nat) (w:World),w.grownBy (w.setCells g i vs) (some g)
 |[],i,w=>World.grownBy.refl w _
 |v::vs,i,w=>by
  have h:=iC g vs (i+1) (w.setCell ⟨g,i,none⟩ v);exact⟨h.os,h.tape,h.output,by simpa[World.setCells] using h.size,fun q hq hn=>(h.block q (by simpa using hq) hn).trans (Below.heap_setCell w _ v q fun e=>hn (by rw[e]))⟩
theorem uz:∀(vs:List Value) (i:Nat) {w:World} {cs:List Value},aF w g t cs.toArray→aF (w.setCells g i vs) g t (Env.splice cs i vs).toArray
 |[],i,w,cs,h=>h
 |v::vs,i,w,cs,h=>uz vs (i+1) (by have:=h.aM i v;simpa using this)
theorem tC {α:Type}[aj α]{w:World}{b:Nat}{s:Sl α}(h:s.Row w b)(hA:s.A=some ⟨g,0,none⟩){x y:α}(hx:s.l[k]?=some x)(hi:i+vs.length≤aj.sz α)(hy:aj.cs y=Env.splice (aj.cs x) i vs):Sl.Row (w.setCells g (k*aj.sz α+i) vs) b (⟨s.A,s.c,s.l.set k y⟩:Sl α):=by
 have hk:k<s.l.length:=(Zo.1 hx).1;obtain⟨g',cur,hA',hb,hK,h1,h2,h3,h4⟩:=h.parts (by omega);rw[hA] at hA';injection hA' with hA'
 injection hA' with hA'
 subst hA';rw[hA];have hK2:aF w g (aj.ty α) cur.toList.toArray:=by simpa using hK
 refine Sl.row_of hb (uz vs (k*aj.sz α+i) hK2) (by simpa using h1) h2 ?_ ?_
 ·rw[List.size_toArray,iQ];simpa using h3
 ·have hle:k*aj.sz α+i+vs.length≤s.l.length*aj.sz α:=by
   have:=ZR (aj.sz α) (show k+1≤s.l.length from hk);rw[Nat.succ_mul] at this;omega
  have hcur:s.l.length*aj.sz α≤cur.toList.length:=by
   rw[ZO,h3];exact ZR _ h1
  rw[Z7]
  conv=>lhs;rw[show cur.toList=cur.toList.take (s.l.length*aj.sz α)++cur.toList.drop (s.l.length*aj.sz α) from(aaB _ _).symm]
  rw[aas,pE _ _ _ _ (by rw[Zw,aaf hcur];exact hle),aac (by rw[iQ,Zw,aaf hcur];exact Zh _),Zz (by rw[iQ,Zw];omega),h4];exact(vQ hy hi s.l k hx).symm
section
variable{α:Type}[aj α] {b N:Nat}{w0 w w':World}{bx:List Bx}{is:List It}
theorem VO (q:Nat){rest:List Oper}{s:Sl α}{z:α}(E:Env b w0 bx is w)(hA:s.A=some ⟨g,0,none⟩)(hz:s.l[k]?=some z)(z':α)
  (h:∀w',Env b w0 bx (is.set q (own (⟨s.A,s.c,s.l.set k z'⟩:Sl α) N)) w'→wpList prog ops Q rest a w')
  (hq:is[q]?=some (own s N):=by rfl) (hg:o.guard=none:=by rfl) (hd:o.dst=none:=by rfl) (ho:o.op=.store ty x y:=by rfl) (hx:a.eval x=.pointer (some ⟨g,k*aj.sz α+i,none⟩):=by rfl) (hy:a.eval y=v:=by go_simp<;>with_reducible rfl) (hv:v.cells.toList=vs:=by simp only[Value.cells,aas]<;>rfl) (hs:(prog.info? ty).map (·.size)=some vs.length:=by kernel_rfl) (h1:vs.all (·.oneCell')=true:=by rfl) (hi:Nat.ble (i+vs.length) (aj.sz α)=true:=by rfl) (hc:aj.cs z'=Env.splice (aj.cs z) i vs:=by rfl) (hf:∀(x:α) (w:World) (b N:Nat),au.Own w b N x∧au.bl x=[]:=by exact fun _ _ _ _=>⟨trivial,rfl⟩):wpList prog ops Q (o::rest) a w:=by
 have hi:=Nat.le_of_ble_eq_true hi;have hr:s.Row w b:=(show Sl.Own w b N s from E.get q hq).1;have hk:k<s.l.length:=(Zo.1 hz).1;obtain⟨g',cur,hA',hbg,hK,c1,c2,c3,c4⟩:=hr.parts (by omega);rw[hA] at hA';injection hA' with hA'
 injection hA' with hA'
 subst hA'
 have hle:k*aj.sz α+i+vs.length≤cur.size:=by
  have h2:=ZR (aj.sz α) (show k+1≤s.l.length from hk);have h3:=ZR (aj.sz α) c1;rw[Nat.succ_mul] at h2;omega
 have ht:w.there g (k*aj.sz α+i) vs.length:=fun j hj=>⟨by rw[hK.cell,ZM (by omega)];rfl,hK.frozen _⟩;rw[←hy] at hv;refine wpList_plain hg fun K hK2=>?_;unfold Oper.wp execOp;simp only[ho,hx,aaV,eT hv ht hs h1,aaQ,aaW];refine hK2 _ _ ?_;rw[hd]
 have hgr:dX w (w.setCells g (k*aj.sz α+i) vs) s (.slice s.A (s.l.set k z').length s.c):=by
  rw[hA];exact⟨iC g vs _ w,Or.inl rfl⟩
 exact h _ (E.mG (s':=⟨s.A,s.c,s.l.set k z'⟩) q hq hgr (tC hr hA hz hi hc) (by rw[Z7];exact(show Sl.Own w b N s from E.get q hq).2.1) hf)
end
variable{a':Act}{args:Array Value}{R:Ending→World→Prop}{j:Nat}{elem:TypeId}
def both (i j:It):It where
 p:=fun b w=>i.p b w∧j.p b w
 bl:=i.bl++j.bl
 mono:=fun h hb=>⟨i.mono h.1 hb,j.mono h.2 hb⟩
 keep:=fun h hk=>⟨i.keep h.1 fun g hg=>hk g (ZJ _ hg),j.keep h.2 fun g hg=>hk g (ZL _ hg)⟩
 lt:=fun h g hg=>by
  rcases Zm.1 hg with hg|hg
  ·exact i.lt h.1 g hg
  ·exact j.lt h.2 g hg
section
variable{b:Nat}{w0 w w':World}{bx:List Bx}{is:List It}
theorem Env.join {i j:It}(E:Env b w0 bx (i::j::is) w):Env b w0 bx (both i j::is) w:=by
 refine⟨E.aD,E.sz,E.at_,fun x hx=>?_,fun l hl g hg=>?_,?_⟩
 ·rcases Zu.1 hx with rfl|hx
  ·exact⟨E.it i ZC,E.it j (Zv _ ZC)⟩
  ·exact E.it x (Zv _ (Zv _ hx))
 ·rcases Zm.1 hl with h|h
  ·exact E.ge l (ZJ _ h) g hg
  ·rcases Zu.1 h with rfl|h
   ·rcases Zm.1 hg with hg|hg
    ·exact E.ge i.bl (ZL _ ZC) g hg
    ·exact E.ge j.bl (ZL _ (Zv _ ZC)) g hg
   ·exact E.ge l (ZL _ (Zv _ (Zv _ h))) g hg
 ·have h1:(comps bx (i::j::is)).Perm (i.bl::j.bl::comps bx is):=by
   unfold comps;exact List.perm_middle.trans (List.Perm.cons _ List.perm_middle)
  have h2:(comps bx (both i j::is)).Perm ((i.bl++j.bl)::comps bx is):=by
   unfold comps;exact List.perm_middle
  have h3:=h1.pairwise E.dj (fun hxy g hg hm=>hxy g hm hg);obtain⟨h4,h5⟩:=List.pairwise_cons.1 h3;obtain⟨h6,h7⟩:=List.pairwise_cons.1 h5;refine h2.symm.pairwise (List.pairwise_cons.2 ⟨fun l hl g hg=>?_,h7⟩) (fun hxy g hg hm=>hxy g hm hg)
  rcases Zm.1 hg with hg|hg
  ·exact h4 l (Zv _ hl) g hg
  ·exact h6 l hl g hg
theorem Env.conv (E:Env b w0 bx is w)(q:Nat){i:It}(i':It)(h:i.p b w→i'.p b w)(hbl:∀g∈i'.bl,g∈i.bl)(hk:is[q]?=some i:=by rfl):Env b w0 bx (is.set q i') w:=
 E.row q hk (World.grownBy.refl w none) (fun g e=>by cases e) (h (E.get q hk)) (fun g hg=>Or.inl (hbl g hg))
theorem Env.ML {α:Type}[aj α][jy α]{N:Nat}(E:Env b w0 bx is w)(q:Nat){s s':Sl α}{y:α}(hk:is[q]?=some (both (own s N) (own y N)))(hg:dX w w' s s')(hr:s'.Row w' b)(hl:s'.l=s.l++[y])(hn:s.l.length+1≤N')(hN:N≤N')(ht:aj.ty α ∉ jy.tys α):Env b w0 bx (is.set q (own s' N')) w':=by
 have hO:=E.get q hk;have hs:Sl.Own w b N s:=hO.1;have hy:au.Own w b N y:=hO.2
 have far:∀x:α,au.Own w b N x→au.Own w' b N' x:=fun x hx=>by
  refine au.aG (au.aN hx fun g t hm=>?_) (Zh _) hN;obtain⟨_,cur,hh⟩:=au.dK hx g t hm;refine hg.1.block g (Z6.1 hh).1 fun e=>?_;cases hA:s.A with
  |none=>rw[hA] at e;cases e
  |some a=>
   rw[hA] at e;have e1:g=a.block:=Z4 e;subst e1;obtain⟨_,cur2,hh2⟩:=hs.1.iD hA;rw[hh] at hh2;injection hh2 with hh2
   injection hh2 with _ hh2
   exact ht (hh2▸jy.ok x _ t hm)
 refine E.row q hk hg.1 (fun g e=>?_) (show Sl.Own w' b N' s' from⟨hr,by rw[hl,Zn];exact hn,fun x hx=>?_⟩) fun g hm=>?_
 ·cases hA:s.A with
  |none=>rw[hA] at e;cases e
  |some a=>
   rw[hA] at e;exact ZJ _ ((Z4 e)▸gL (N:=N) hA)
 ·rw[hl] at hx
  rcases Zm.1 hx with hx|hx
  ·exact far x (hs.2.2 x hx)
  ·rw[Zp.1 hx];exact far y hy
 ·obtain⟨⟨g',t⟩,hm2,rfl⟩:=ZA.1 hm
  rcases Zm.1 (show(g',t)∈(match s'.A with|some a=>[(a.block,aj.ty α)]|none=>[])++s'.l.flatMap au.bl from hm2) with h|h
  ·cases hA:s'.A with
   |none=>rw[hA] at h;cases h
   |some a=>
    rw[hA] at h;simp only[Zu,ZF,or_false,ZV] at h;rw[h.1]
    rcases hg.2 with h2|⟨q2,h2,h3⟩
    ·rw[hA] at h2;cases hB:s.A with
     |none=>rw[hB] at h2;cases h2
     |some c=>
      rw[hB] at h2;exact Or.inl (ZJ _ ((show a.block=c.block from Z4 h2)▸gL (N:=N) hB))
    ·rw[hA] at h2;exact Or.inr ((Z4 h2)▸h3)
  ·rw[hl,List.flatMap_append] at h
   rcases Zm.1 h with h|h
   ·exact Or.inl (ZJ _ (ZA.2 ⟨_,ZL _ h,rfl⟩))
   ·rw[ZQ,List.flatMap_nil,aak] at h;exact Or.inl (ZL _ (ZA.2 ⟨_,h,rfl⟩))
end
section
variable{α:Type}[aj α] [jy α] {b N:Nat}{w0 w:World}{bx:List Bx}{is:List It}
theorem uR (q:Nat){ops:Array Oper}{rest:List Oper}{a:Act}{Q:Exit→Act→World→Prop}{s:Sl α}(N':Nat)(y:α)(g:Nat)(E:Env b w0 bx is w)(hy:Reads w w (aj.sz α) (some ⟨g,0,none⟩) 1 (aj.cs y))(hn:s.l.length+1≤N')(hNN:N≤N')(hN:N'≤1000000)
  (h:∀(s':Sl α) w',Hid (s'.l=s.l++[y])→Env b w0 bx (is.set q (own s' N')) w'→wpList prog ops Q rest (a.put o.dst (.slice s'.A s'.l.length s'.c)) w')
  (hk:is[q]?=some (both (own s N) (own y N)):=by rfl) (hgd:o.guard=none:=by rfl) (hT:T=aj.sty α:=by rfl) (ho:o.op=.call { callee:=.builtin .append,args:=#[sl,x],argTypes:=#[T,T] }:=by rfl) (hs:a.eval sl=s:=by rfl) (hx:a.eval x=.slice (some ⟨g,0,none⟩) 1 1:=by rfl) (ht:aj.ty α ∉ jy.tys α:=by decide):wpList prog ops Q (o::rest) a w:=by
 have hr:=(show Sl.Own w b N s from(E.get q hk).1).1;refine Sl.app hgd sl x T hT ho b s hs hr w (⟨some ⟨g,0,none⟩,1,[y]⟩:Sl α) hx (by simpa[Sl.row] using hy) (by simp only[ZI,aai];omega) E.sz fun s' w' h1 h2 h3=>?_;exact h s' w' (L_ h1) (E.ML q hk h3 h2 h1 hn hNN ht)
theorem Ij (i q:Nat){md:Region.Mode}{ops:Array Oper}{rest:List Oper}{a:Act}{Q:Exit→Act→World→Prop}{n f:Nat}{listed:Array Bool}{s:Sl α}(N':Nat)(y:α)(g:Nat)(E:Env b w0 bx is w)(hy:Reads w w (aj.sz α) (some ⟨g,0,none⟩) 1 (aj.cs y))(hn:s.l.length+1≤N')(hNN:N≤N')(hN:N'≤1000000)
  (h:∀(s':Sl α) w',Hid (s'.l=s.l++[y])→Env b w0 bx (is.set q (own s' N')) w'→av prog md ops Q (Env b w0 bx0 []) n (bR prog md ops Q n) f (listed.setIfInBounds i true) (a.put oi.dst (.slice s'.A s'.l.length s'.c)) w')
  (hi:ops.toList.drop i=oi::rest:=by rfl) (hB:qN md ops n i listed=true:=by kernel_rfl) (hk:is[q]?=some (both (own s N) (own y N)):=by rfl) (hgd:oi.guard=none:=by rfl) (hT:T=aj.sty α:=by rfl) (ho:oi.op=.call { callee:=.builtin .append,args:=#[sl,x],argTypes:=#[T,T] }:=by rfl) (hs:a.eval sl=s:=by rfl) (hx:a.eval x=.slice (some ⟨g,0,none⟩) 1 1:=by rfl) (ht:aj.ty α ∉ jy.tys α:=by decide) (hsb:bx0.Sublist bx:=by first|exact Zi _|exact Zj _ (Zi _)|exact Zj _ (Zj _ (Zi _))|exact Zj _ (Zj _ (Zj _ (Zi _)))):av prog md ops Q (Env b w0 bx0 []) n (bR prog md ops Q n) (f+1) listed a w:=by
 refine qW (aL hi) hB ?_;have hr:=(show Sl.Own w b N s from(E.get q hk).1).1;refine Sl.app hgd sl x T hT ho b s hs hr w (⟨some ⟨g,0,none⟩,1,[y]⟩:Sl α) hx (by simpa[Sl.row] using hy) (by simp only[ZI,aai];omega) E.sz fun s' w' h1 h2 h3=>?_;have E':=E.ML q hk h3 h2 h1 hn hNN ht;exact⟨E'.sub hsb (Zy _),h s' w' (L_ h1) E'⟩
theorem fA {ops:Array Oper}{rest:List Oper}{a:Act}{Q:Exit→Act→World→Prop}(vs:List Value)(hc:∀i u,vs[i]?=some u→w.cell? ⟨g,j+i,none⟩=some u)(h:wpList prog ops Q rest a' w)
  (hg:o.guard=none:=by rfl) (ho:o.op=.load ty x:=by rfl) (hx:a.eval x=.pointer (some ⟨g,j,none⟩):=by rfl) (hu:bq prog ty=false:=by kernel_rfl) (hs:(prog.info? ty).map (·.size)=some vs.length:=by kernel_rfl) (hd:(prog.underlying ty).isSome=true:=by kernel_rfl) (ha:a.put o.dst (.agg vs.toArray)=a':=by first|(simp only[Act.put,aaI,aaJ,aaK]<;>rfl)|rfl):wpList prog ops Q (o::rest) a w:=by
 subst ha;obtain⟨d,hd⟩:=aan.1 hd;have hr:d.isRow=true:=by simpa[bq,hd] using hu
 exact wpList_load_mid hg ty x ho g j hx vs d (fun i u hi=>hc i u hi) hd hr hs h
end
section
variable{P:Program}{md:Region.Mode}{ops:Array Oper}{Q:Exit→Act→World→Prop}{S:World→Prop}{b:Nat}{w0 w:World}{bx:List Bx}{is:List It}{n f:Nat}{L:Array Bool→Act→World→Prop}{listed:Array Bool}{a:Act}{K:Act→World→Prop}
theorem IJ (i j:Nat)(h1:wpOp P ops Q i (fun a' w'=>S w'∧av P md ops Q S n L f (listed.setIfInBounds i true) a' w') a w)(h2:wpOp P ops Q j (fun a' w'=>S w'∧av P md ops Q S n L f (listed.setIfInBounds j true) a' w') a w)(hB:Sr md ops n i j listed=true:=by kernel_rfl):av P md ops Q S n L (f+1) listed a w:=by
 simp only[Sr,Zr,Zx] at hB;refine⟨by rw[hB.1.1];simp,fun k hk=>?_⟩;rw[hB.1.1] at hk
 rcases Zu.1 hk with rfl|hk
 ·exact⟨hB.1.2,h1⟩
 ·obtain rfl:k=j:=by simpa using hk
  exact⟨hB.2,h2⟩
theorem T_1 (i:Nat)(h1:wpOp P ops Q i (fun a' w'=>S w'∧av P md ops Q S n L f (listed.setIfInBounds i true) a' w') a w)(hB:qN md ops n i listed=true:=by kernel_rfl):av P md ops Q S n L (f+1) listed a w:=by
 simp only[qN,Zr,Zx] at hB;refine⟨by rw[hB.1];simp,fun k hk=>?_⟩;rw[hB.1] at hk;obtain rfl:k=i:=by simpa using hk
 exact⟨hB.2,h1⟩
theorem cK {rest:List Oper}{fn:FuncId}(hc:Calls P fn args w R)(h:∀e w',R e w'→∃v,e=.returned v∧K (a.put oi.dst v) w')
  (hi:ops.toList.drop i=oi::rest:=by rfl) (hg:Region.wanted oi (yielded ops a.tmps)=true:=by rfl) (hr:∀w,(execOp a.eval oi).run P w=.ok (.enter fn args) w:=by(intro w;go_simp)<;>with_reducible rfl):wpOp P ops Q i K a w:=by
 unfold wpOp;simp only[aL hi,hg,if_true];refine Or.inl ?_;unfold Oper.wp;rw[hr w,Oper.upon_enter];refine hc.mono fun e w' hh=>?_;obtain⟨v,rfl,h'⟩:=h e w' hh;exact h'
theorem jm {rest:List Oper}{z:Value}(E:Env b w0 bx is w)(h:∀g w',Env b w0 ((g,elem,vs)::bx) is w'→K (a.put oi.dst (.pointer (some ⟨g,0,none⟩))) w')
  (hi:ops.toList.drop i=oi::rest:=by rfl) (hg:Region.wanted oi (yielded ops a.tmps)=true:=by rfl) (ho:oi.op=.alloc elem:=by rfl) (hz:(zeroValue elem).run P w=.ok z w:=by go_simp<;>with_reducible rfl) (hv:z.cells.toList=vs:=by simp only[Value.cells,aas]<;>rfl):wpOp P ops Q i K a w:=by
 unfold wpOp;simp only[aL hi,hg,if_true];refine Or.inl ?_;unfold Oper.wp execOp;have hc:z.cells=vs.toArray:=by rw[←hv]
 simp only[ho,Instr.alloc,newVar,newRow,hz,hc,aaV,aaW,run_newObj,aaQ];exact h _ _ (E.alloc elem vs)
end
def Aw:Nat→Nat→Array Bool→Array Bool
 |0,_,l=>l
 |m+1,i,l=>Aw m (i+1) (l.setIfInBounds i true)
def AL (md:Region.Mode)(ops:Array Oper)(n:Nat):Nat→Nat→Array Bool→Bool
 |0,_,_=>true
 |m+1,i,l=>takeB md ops n i l&&AL md ops n m (i+1) (l.setIfInBounds i true)
def Am (ops:List Oper):Nat→Act→Act
 |0,a=>a
 |m+1,a=>match ops with|[]=>a|o::r=>Am r m (a.put o.dst undef)
def xC (ops:Array Oper):List Oper→Nat→Act→Bool
 |_,0,_=>true
 |[],_+1,_=>false
 |o::r,m+1,a=>!Region.wanted o (yielded ops a.tmps)&&xC ops r m (a.put o.dst undef)
section
variable{P:Program}{md:Region.Mode}{ops:Array Oper}{Q:Exit→Act→World→Prop}{b:Nat}{w0 w:World}{bx:List Bx}{is:List It}{n f:Nat}
theorem Kk {S:World→Prop}(hQ:∀(d:Tmp) c a w,Q (.panic c) (a.put (some d) undef) w→Q (.panic c) a w)(hS:S w):∀(m i:Nat) (listed:Array Bool) (a:Act) (l:List Oper),ops.toList.drop i=l→AL md ops n m i listed=true→xC ops l m a=true→av P md ops Q S n (bR P md ops Q n) f (Aw m i listed) (Am l m a) w→av P md ops Q S n (bR P md ops Q n) (f+m) listed a w
 |0,i,listed,a,l,hl,ht,hw,h=>by cases l<;>simpa only[Aw,Am,Nat.add_zero] using h
 |m+1,i,listed,a,[],hl,ht,hw,h=>by simp[xC] at hw
 |m+1,i,listed,a,o::r,hl,ht,hw,h=>by
  simp only[AL,Zr] at ht;simp only[xC,Zr,Bool.not_eq_true'] at hw
  have hr:ops.toList.drop (i+1)=r:=by
   have:=congrArg (List.drop 1) hl;rwa[List.drop_drop,aax,List.drop_zero] at this
  exact bL hl ht.1 (fun c a w h=>by
   cases hd:o.dst with
   |none=>rw[hd] at h;exact h
   |some d=>rw[hd] at h;exact hQ d c a w h) (Or.inr ⟨hw.1,rfl⟩) hS (Kk hQ hS m (i+1) _ _ r hr ht.2 hw.2 h)
end
variable{bx:List Bx}{b:Nat}{w w0:World}{I:World→Prop}
structure Stp (l:List Nat)(P Q:Prop):Prop where
 h:Q→P
theorem Stp.z {P:Prop}:Stp [] P P:=⟨id⟩
theorem Stp.c {n:Nat}{l:List Nat}{P M Q:Prop}(h:M→P)(k:Stp l M Q):Stp (n::l) P Q:=⟨fun q=>h (k.h q)⟩
theorem Stp.e {n:Nat}{l:List Nat}{P Q:Prop}{M:World→Prop}(h:(∀w,I w→M w)→P)(k:∀w,I w→Stp l (M w) Q):Stp (n::l) P Q:=⟨fun q=>h fun w i=>(k w i).h q⟩
theorem Stp.n {n:Nat}{l:List Nat}{P:Prop}{Q:Nat→Prop}{M I:Nat→World→Prop}(h:(∀g w,I g w→M g w)→P)(k:∀g w,I g w→Stp l (M g w) (Q g)):Stp (n::l) P (∀g,Q g):=⟨fun q=>h fun g w i=>(k g w i).h (q g)⟩
theorem Stp.e9 {is:List It}{M:World→Prop}(E:Env b w0 bx is w):Stp [9] (M w) (∀w,Env b w0 bx is w→M w):=⟨fun h=>h w E⟩
theorem G0 (l:List Nat){P Q:Prop}(q:Q)(h:Stp l P Q:=by
 repeat first
  |exact Stp.z
  |(apply Stp.c (n:=0);(intro h;refine fV ?_;exact h))
  |(apply Stp.c (n:=4);(intro h;refine aC ?_;exact h))
  |(apply Stp.c (n:=5);(intro h;refine bN ?_;exact h))
  |(apply Stp.c (n:=2);(intro h;(first|refine GK ?_|refine fV ?_);exact h))
  |(apply Stp.c (n:=3);(intro h;refine zO ?_;exact h))
  |(apply Stp.c (n:=1);(intro h;refine GK ?_;exact h))
  |(apply Stp.c (n:=6);(intro h;refine wp_seq ?_;exact h))
  |(apply Stp.c (n:=7);(intro h;refine Qs ?_;exact h))
  |(apply Stp.c (n:=8);(intro h;refine VX ?_;exact h))
  |(apply Stp.c (n:=15);(intro h;refine WU ?_;exact h))
  |(apply Stp.c (n:=16);(intro h;refine YK ?_;exact h))
  |(apply Stp.c (n:=17);(intro h;refine YN ?_;exact h))
  |(apply Stp.c (n:=18);(intro h;refine lK ?_;exact h))
  |(apply Stp.c (n:=19);(intro h;refine wp_block ?_;exact h))
  |(apply Stp.c (n:=20);(intro h;refine ET ?_;exact h))
  |(apply Stp.c (n:=21);(intro h;refine GY ?_;exact h))
  |(apply Stp.c (n:=22);(intro h;refine wp_ret ?_;exact h))
  |(apply Stp.c (n:=23);(intro h;refine JN ?_;exact h))
  |(apply Stp.c (n:=24);(intro h;simp only[Exit.then,Exit.inBlock];exact h))
  |(apply Stp.c (n:=25);(intro h;refine jI ?_;exact h))
  |(apply Stp.c (n:=26);(intro h;refine⟨_,rfl,zO ?_⟩;exact h))
  |(apply Stp.c (n:=27);(intro h;refine wp_exit ?_;exact h))
  |(apply Stp.c (n:=28);(intro h;simp only[Exit.then,Exit.inBlock,if_true];exact h))
  |(apply Stp.c (n:=30);(intro h;refine kg ?_;exact h))
  |(apply Stp.c (n:=31);(intro h;refine wp_skip ?_;exact h))
  |(apply Stp.c (n:=80);(intro h;(iterate 5 (first|refine GK ?_|refine fV ?_));exact h))
  |(apply Stp.c (n:=81);(intro h;(iterate 10 (first|refine GK ?_|refine fV ?_));exact h))
  |(apply Stp.c (n:=82);(intro h;(iterate 20 (first|refine GK ?_|refine fV ?_));exact h))
  |(apply Stp.c (n:=83);(intro h;(iterate 5 refine fV ?_);exact h))
  |(apply Stp.c (n:=84);(intro h;(iterate 3 refine fV ?_);exact h))):P:=h.h q
theorem G {is:List It}(E:Env b w0 bx is w)(l:List Nat){P Q:Prop}(q:Q)(h:Env b w0 bx is w→Stp l P Q:=by
 intro E
 repeat first
  |exact Stp.z
  |exact Stp.e9 E
  |(apply Stp.c (n:=0);(intro h;refine fV ?_;exact h))
  |(apply Stp.c (n:=4);(intro h;refine aC ?_;exact h))
  |(apply Stp.c (n:=5);(intro h;refine bN ?_;exact h))
  |(apply Stp.c (n:=40);(intro h;refine mU 0 E ?_;exact h))
  |(apply Stp.c (n:=41);(intro h;refine mU 1 E ?_;exact h))
  |(apply Stp.c (n:=42);(intro h;refine mU 2 E ?_;exact h))
  |(apply Stp.c (n:=2);(intro h;(first|refine GK ?_|refine fV ?_);exact h))
  |(apply Stp.c (n:=3);(intro h;refine zO ?_;exact h))
  |(apply Stp.c (n:=1);(intro h;refine GK ?_;exact h))
  |(apply Stp.c (n:=6);(intro h;refine wp_seq ?_;exact h))
  |(apply Stp.c (n:=7);(intro h;refine Qs ?_;exact h))
  |(apply Stp.c (n:=8);(intro h;refine VX ?_;exact h))
  |(apply Stp.c (n:=15);(intro h;refine WU ?_;exact h))
  |(apply Stp.c (n:=16);(intro h;refine YK ?_;exact h))
  |(apply Stp.c (n:=17);(intro h;refine YN ?_;exact h))
  |(apply Stp.c (n:=18);(intro h;refine lK ?_;exact h))
  |(apply Stp.c (n:=19);(intro h;refine wp_block ?_;exact h))
  |(apply Stp.c (n:=20);(intro h;refine ET ?_;exact h))
  |(apply Stp.c (n:=21);(intro h;refine GY ?_;exact h))
  |(apply Stp.c (n:=22);(intro h;refine wp_ret ?_;exact h))
  |(apply Stp.c (n:=23);(intro h;refine JN ?_;exact h))
  |(apply Stp.c (n:=24);(intro h;simp only[Exit.then,Exit.inBlock];exact h))
  |(apply Stp.c (n:=25);(intro h;refine jI ?_;exact h))
  |(apply Stp.c (n:=26);(intro h;refine⟨_,rfl,zO ?_⟩;exact h))
  |(apply Stp.c (n:=27);(intro h;refine wp_exit ?_;exact h))
  |(apply Stp.c (n:=28);(intro h;simp only[Exit.then,Exit.inBlock,if_true];exact h))
  |(apply Stp.c (n:=30);(intro h;refine kg ?_;exact h))
  |(apply Stp.c (n:=31);(intro h;refine wp_skip ?_;exact h))
  |(apply Stp.c (n:=80);(intro h;(iterate 5 (first|refine GK ?_|refine fV ?_));exact h))
  |(apply Stp.c (n:=81);(intro h;(iterate 10 (first|refine GK ?_|refine fV ?_));exact h))
  |(apply Stp.c (n:=82);(intro h;(iterate 20 (first|refine GK ?_|refine fV ?_));exact h))
  |(apply Stp.c (n:=83);(intro h;(iterate 5 refine fV ?_);exact h))
  |(apply Stp.c (n:=84);(intro h;(iterate 3 refine fV ?_);exact h))
  |(apply Stp.c (n:=43);(intro h;refine mU 3 E ?_;exact h))
  |(apply Stp.c (n:=44);(intro h;refine mU 4 E ?_;exact h))
  |(apply Stp.c (n:=45);(intro h;refine mU 5 E ?_;exact h))
  |(apply Stp.c (n:=46);(intro h;refine mU 6 E ?_;exact h))
  |(apply Stp.c (n:=47);(intro h;refine mU 7 E ?_;exact h))
  |(apply Stp.e (n:=60);(intro h;refine lQ 0 E ?_;exact h);clear E;intro w E)
  |(apply Stp.e (n:=61);(intro h;refine lQ 1 E ?_;exact h);clear E;intro w E)
  |(apply Stp.e (n:=62);(intro h;refine lQ 2 E ?_;exact h);clear E;intro w E)
  |(apply Stp.e (n:=63);(intro h;refine lQ 3 E ?_;exact h);clear E;intro w E)
  |(apply Stp.e (n:=64);(intro h;refine lQ 4 E ?_;exact h);clear E;intro w E)
  |(apply Stp.e (n:=65);(intro h;refine lQ 5 E ?_;exact h);clear E;intro w E)
  |(apply Stp.e (n:=66);(intro h;refine lQ 6 E ?_;exact h);clear E;intro w E)
  |(apply Stp.e (n:=67);(intro h;refine lQ 7 E ?_;exact h);clear E;intro w E)
  |(apply Stp.n (n:=70);(intro h;refine Er E ?_;exact h);clear E;intro g w E)
  |(apply Stp.n (n:=71);(intro h;refine DT E ?_;exact h);clear E;intro g w E)
  |(apply Stp.n (n:=72);(intro h;refine Uy E ?_;exact h);clear E;intro g w E)):P:=(h E).h q
def qC (x y:Try):Prop:=x.ph=y.ph∧x.b=y.b∧x.mem.l=y.mem.l∧x.wi=y.wi∧x.va=y.va∧x.pr.l=y.pr.l∧x.ac.l=y.ac.l
def uD (x:Try)(N:Nat):List It:=[own x.ac N,own x.pr N,own x.mem N]
theorem IQ (x:Try)(w:World)(N:Nat)(hl:au.aA w w N x)(hN:N≤1000000) :
  Calls prog 223 #[x] w fun e w'=>∃x':Try,e=.returned (x')∧Hid (qC x' x)∧Env w w [] (uD x' N) w':=by
 have HL:=L_ hl;clear hl
 go_enter func223,ntmps223
 refine bN ?_;refine DT (Env.start w) ?_;intro g w0 E;refine zO ?_;refine Er E ?_;clear E;intro g' w1 E;refine zO ?_;refine aC (dw 10 E ?_);clear E;intro w1 E;refine ay 0 E ?_;refine aX 1 1 E ?_;refine ay 3 E ?_;refine aX 4 1 E ?_;refine ay 6 E ?_;refine aX 7 1 E ?_;refine cu 2 (qg bY E HL.1) ?_;clear E;rintro _ w2 ⟨r2,rfl,h2,E⟩;refine⟨_,rfl,E.weak,dL ?_⟩;refine ay 9 E ?_;refine cu 5 (qg BO E HL.2.1) ?_;clear E;rintro _ w3 ⟨p2,rfl,h3,E⟩;refine⟨_,rfl,E.weak,dL ?_⟩;refine cu 8 (qg bY E HL.2.2) ?_;clear E;rintro _ w3 ⟨a2,rfl,h4,E⟩;refine⟨_,rfl,E.weak,dL ?_⟩;refine G E [30,61,0,61,0,61,4,5,9] ?_;clear E;intro w4 E;refine aB 1 7 E ?_;refine lQ 0 E ?_;clear E;intro w4 E;refine aC (Iy 0 E ?_);exact⟨⟨x.ph,x.b,r2,x.wi,x.va,p2,a2⟩,rfl,L_ ⟨rfl,rfl,h2,rfl,rfl,h3,h4⟩,E.drop 2⟩
theorem RV (k:Fin 6)(s:Fin 64):bits .or .u64 (s.val:Int) (IntKind.u64.wrap (2 ^ k.val))=((s.val ||| 2 ^ k.val:Nat):Int):=by revert k s;decide +kernel
theorem tT (A:Option Addr)(n c B:Nat)(l:List Int)(w:World)(hr:Reads w B 1 A n (ci l))(hn:n≤1000000000000) :
  Calls prog 221 #[.slice A n c] w fun e w'=>e=.returned (.int .u64 (Qm.eu 0 l:Nat))∧w=w':=by
 have hl:=hr.jw;have HL:=L_ hl;have HR:=L_ hr;clear hr
 go_enter func221,ntmps221
 go_wp2
 go_loopw [2,7] (fun x y wr=>∃k s:Nat,x=.int .u64 (s:Int)∧y=(k:Int)∧k≤n∧s<64∧Qm.eu s (l.drop k)=Qm.eu 0 l∧wr=w) (fun _ y _=>n - (intOf y).toNat)
 case atStart=>exact⟨0,0,rfl,rfl,by omega,by omega,rfl,rfl⟩
 case round=>
  obtain⟨k,s,rfl,rfl,hk,hs,he,rfl⟩:=hrel;have HE:=L_ he;clear he
  by_cases hlt:k<n
  ·obtain⟨ad,u,rfl,hbl,hu,hc⟩:=HR.at_ hlt;have hkl:k<l.length:=by omega
   have hg:l[k]?=some (l[k]'hkl):=Zl hkl;rw[lZ,hg] at hu;simp only[aad,ZH] at hu;subst hu;clear hg;have hd:=List.drop_eq_getElem_cons hkl;obtain⟨z,hz⟩:∃z,l[k]'hkl=z:=⟨_,rfl⟩;rw[hz] at hc hd;have he:=HE.out;rw[hd,Qm.Im] at he;have HE2:=L_ he;clear hz hd he hl
   by_cases h0:0≤z
   ·by_cases h6:z<6
    ·obtain⟨x,rfl⟩:∃x:Fin 6,z=(x.val:Int):=⟨⟨z.toNat,by omega⟩,by simp;omega⟩;have hor:=RV x ⟨s,hs⟩;simp only at hor;go_wp2
     go_roundw
     case rel=>
      rw[aaS (by omega)] at HE2;have h2:=HE2.out;simp only[Z9] at h2;exact⟨k+1,s ||| 2 ^ x.val,rfl,by go_num,by omega,Qm.Tv hs (Qm.PW (n:=(x.val:Int)) (by omega)),h2,by trivial⟩
     case measure=>simp[intOf];omega
    ·go_wp2
     go_roundw
     case rel=>
      rw[aaR (by omega)] at HE2;exact⟨k+1,s,rfl,by go_num,by omega,hs,HE2,by trivial⟩
     case measure=>simp[intOf];omega
   ·go_wp2
    go_roundw
    case rel=>
      rw[aaR (by omega)] at HE2;exact⟨k+1,s,rfl,by go_num,by omega,hs,HE2,by trivial⟩
    case measure=>simp[intOf];omega
  ·go_wp2;go_ret;have h1:=HE.out;rw[List.drop_eq_nil_of_le (by omega)] at h1;rw[Qm.LG] at h1;rw[←h1];exact⟨rfl,by trivial⟩
theorem UH (x:Fin 64)(w:World):Calls prog 343 #[.int .u64 (x.val:Nat)] w fun e w'=>e=.returned (.int .i64 (Qm.pop x.val:Nat))∧w=w':=by
 go_enter func343,ntmps343
 go_wp2;go_ret;refine⟨?_,rfl⟩;show Ending.returned (Value.int .i64 _)=_
 congr 2
 revert x
 decide +kernel
theorem ones (x:Nat)(hx:x<64)(w:World):Calls prog 334 #[.int .u64 (x:Nat)] w fun e w'=>e=.returned (.int .i64 (Qm.pop x:Nat))∧w=w':=by
 have H:=L_ (UH ⟨x,hx⟩ w)
 go_enter func334,ntmps334
 go_wp2_with (first|(with_reducible refine H.out.mono ?_;rintro e w' ⟨rfl,rfl⟩));go_ret;exact⟨rfl,rfl⟩
def NJ (n:Nat)(l:List Int)(x y:Value):Prop:=∃(k:Nat) (last:Int),x=last∧y=(k:Int)∧k≤n∧-1≤last∧last<6∧(last<0↔k=0)∧Qm.incr last (l.drop k)=Qm.incr (-1) l
theorem jf (A:Option Addr)(n c B:Nat)(l:List Int)(w:World)(hr:Reads w B 1 A n (ci l))(hn:n≤9223372036854775807) :
  Calls prog 196 #[.slice A n c] w fun e w'=>e=.returned ((Qm.check l))∧w=w':=by
 have hl:=hr.jw;have HL:=L_ hl;have HR:=L_ hr;clear hr
 by_cases hbig:6<n
 ·have hc:Qm.check l=4:=by unfold Qm.check;rw[aaS (by omega)]
  rw[hc];clear hc
  go_enter func196,ntmps196
  go_wp2;go_ret;exact⟨rfl,rfl⟩
 ·have HC:Hid (Qm.check l=if (!l.isEmpty&&Qm.incr (-1) l)=true then 0 else 60):=L_ (by unfold Qm.check Qm.may;rw[aaR (by omega)])
  go_enter func196,ntmps196
  go_wp2
  go_loopw [3,11] (fun x y wr=>NJ n l x y∧wr=w) (fun _ y _=>n - (intOf y).toNat)
  case atStart=>exact⟨⟨0,-1,rfl,rfl,by omega,by omega,by omega,by simp,rfl⟩,rfl⟩
  case round=>
   obtain⟨⟨k,last,rfl,rfl,hk,hs,hs6,hl0,he⟩,rfl⟩:=hrel;have HE:=L_ he;clear he
   by_cases hlt:k<n
   ·obtain⟨ad,u,rfl,hbl,hu,hc⟩:=HR.at_ hlt;have hkl:k<l.length:=by omega
    have hg:l[k]?=some (l[k]'hkl):=Zl hkl;rw[lZ,hg] at hu;simp only[aad,ZH] at hu;subst hu;clear hg;have hd:=List.drop_eq_getElem_cons hkl;obtain⟨z,hz⟩:∃z,l[k]'hkl=z:=⟨_,rfl⟩;rw[hz] at hc hd;have he:=HE.out;rw[hd,Qm.Ar] at he;have HE2:=L_ he;clear hz hd he hl hl0
    by_cases h0:z≤last
    ·go_wp2;go_ret;have h1:=HE2.out;simp only[show ¬last<z by omega,decide_false,Bool.false_and] at h1;rw[HC.out,←h1];simp
    ·by_cases h6:6≤z
     ·go_wp2;go_ret;have h1:=HE2.out;simp only[show ¬z<6 by omega,decide_false,Bool.false_and,Bool.and_false] at h1;rw[HC.out,←h1];simp
     ·go_wp2
      go_roundw
      case rel=>
       have h1:=HE2.out;simp only[show last<z by omega,show z<6 by omega,decide_true,Bool.true_and] at h1;exact⟨⟨k+1,z,rfl,by go_num,by omega,by omega,by omega,by omega,h1⟩,by trivial⟩
      case measure=>simp[intOf];omega
   ·have h1:=HE.out;rw[List.drop_eq_nil_of_le (by omega)] at h1;rw[Qm.O0] at h1;have H1:=L_ h1;clear h1
    by_cases hneg:last<0
    ·have hk0:=hl0.1 hneg;have hl2:l=[]:=ZY (by omega);clear hl0;go_wp2;go_ret;rw[HC.out,hl2];simp
    ·have hk0:k≠0:=fun h=>hneg (hl0.2 h)
     have hl2:l.isEmpty=false:=by
      cases l with
      |nil=>simp at hl;omega
      |cons _ _=>rfl
     have H2:=L_ hl2;clear hl0 hl2;go_wp2;go_ret;rw[HC.out,H2.out,←H1.out];simp
theorem dz {l:List Int}(h:Qm.check l=0):Qm.may l=true∧l.length≤6:=by
 unfold Qm.check at h
 split at h
 ·omega
 ·split at h
  ·exact⟨by assumption,by omega⟩
  ·omega
theorem Fv (A:Option Addr)(n c B:Nat)(l:List Int)(w:World)(hr:Reads w B 1 A n (ci l))(h:Qm.check l=0) :
  Calls prog 333 #[.slice A n c] w fun e w'=>e=.returned (.tuple #[.int .i64 ((n / 2+1:Nat):Int),.int .i64 0])∧w=w':=by
 have hl:=hr.jw;have h6:=(dz h).2;have H:=L_ (jf A n c B l w hr (by omega));rw[h] at H;clear hr h
 go_enter func333,ntmps333
 go_wp2_with (first|(with_reducible refine H.out.mono ?_;rintro e w' ⟨rfl,rfl⟩))
 go_ret2
 exact⟨by congr 3,rfl⟩
theorem Kt (A:Option Addr)(n c B:Nat)(l:List Int)(v:Int)(w:World)(hr:Reads w B 1 A n (ci l))(hn:n≤9223372036854775807)(h:Qm.check l=v)(hv:v≠0) :
  Calls prog 333 #[.slice A n c] w fun e w'=>e=.returned (.tuple #[.int .i64 0,v])∧w=w':=by
 have H:=L_ (jf A n c B l w hr hn);rw[h] at H;clear hr h
 go_enter func333,ntmps333
 go_wp2_with (first|(with_reducible refine H.out.mono ?_;rintro e w' ⟨rfl,rfl⟩))
 go_ret2
 exact⟨rfl,rfl⟩
theorem II (A:Option Addr)(n c B:Nat)(l:List Int)(x:Int)(w:World)(hr:Reads w B 1 A n (ci l))(hn:n≤1000000000000) :
  Calls prog 86 #[.slice A n c,x] w fun e w'=>(∃r:Int,e=.returned r∧(0≤r↔x∈l))∧w=w':=by
 have hl:=hr.jw;have HL:=L_ hl;have HR:=L_ hr;clear hr
 go_enter func86,ntmps86
 go_wp2
 go_loopw [8] (fun y wr=>(∃k:Nat,y=(k:Int)∧k≤n∧x ∉ l.take k)∧wr=w) (fun y _=>n - (intOf y).toNat)
 case atStart=>exact⟨⟨0,rfl,by omega,by simp⟩,rfl⟩
 case round=>
  obtain⟨⟨k,rfl,hk,he⟩,rfl⟩:=hrel;have HE:=L_ he;clear he
  by_cases hlt:k<n
  ·obtain⟨ad,u,rfl,hbl,hu,hc⟩:=HR.at_ hlt;have hkl:k<l.length:=by omega
   have hg:l[k]?=some (l[k]'hkl):=Zl hkl;rw[lZ,hg] at hu;simp only[aad,ZH] at hu;subst hu;have ht:l.take (k+1)=l.take k++[l[k]'hkl]:=by rw[ZP,hg];rfl
   have hm:l[k]'hkl∈l:=List.getElem_mem hkl;obtain⟨z,hz⟩:∃z,l[k]'hkl=z:=⟨_,rfl⟩;rw[hz] at hc ht hm;have HT:=L_ ht;have HM:=L_ hm;clear hz ht hm hg hl
   by_cases h0:x=z
   ·go_wp2;go_ret;exact⟨⟨(k:Int),rfl,by constructor<;>intro _<;>first|(rw[h0];exact HM)|omega⟩,by trivial⟩
   ·go_wp2
    go_roundw
    case rel=>
     refine⟨⟨k+1,by go_num,by omega,?_⟩,by trivial⟩;rw[HT.out];intro h
     rcases Zm.1 h with h|h
     ·exact HE h
     ·exact h0 (Zp.1 h)
    case measure=>simp[intOf];omega
  ·go_wp2;go_ret;have h1:=HE.out;rw[Zz (by omega)] at h1;exact⟨⟨-1,rfl,by constructor<;>intro h<;>first|exact absurd h h1|omega⟩,by trivial⟩
theorem q8 (A:Option Addr)(n c B:Nat)(l:List Int)(x:Int)(w:World)(hr:Reads w B 1 A n (ci l))(hn:n≤1000000000000) :
  Calls prog 41 #[.slice A n c,x] w fun e w'=>e=.returned (.bool (decide (x∈l)))∧w=w':=by
 have HR:=L_ hr;clear hr
 go_enter func41,ntmps41
 go_wp2_with fail;refine(II A n c B l x w HR hn).mono ?_;rintro e w' ⟨⟨r,rfl,h⟩,rfl⟩;have h2:decide (x∈l)=decide (0≤r):=by rw[decide_eq_decide];exact h.symm
 have H2:=L_ h2;clear h h2;go_wp2;go_ret;rw[H2.out];exact⟨rfl,rfl⟩
theorem oU (A:Option Addr)(n c B:Nat)(l:List Int)(x:Int)(w:World)(hr:Reads w B 1 A n (ci l))(hn:n≤1000000000000) :
  Calls prog 14 #[.slice A n c,x] w fun e w'=>e=.returned (.bool (decide (x∈l)))∧w=w':=by
 have H:=L_ (q8 A n c B l x w hr hn);clear hr
 go_enter func14,ntmps14
 go_wp2_with (first|(with_reducible refine H.out.mono ?_;rintro e w' ⟨rfl,rfl⟩));go_ret;exact⟨rfl,rfl⟩
theorem RH (a b:Fin 64):bits .and .u64 (a.val:Int) (b.val:Int)=((a.val &&& b.val:Nat):Int):=by revert a b;decide +kernel
theorem MN (A:Option Addr)(n c B:Nat)(l:List Int)(A':Option Addr)(n' c' B':Nat)(l':List Int)(w:World)(hr:Reads w B 1 A n (ci l))(hr':Reads w B' 1 A' n' (ci l'))(h:Qm.check l=0)(hn:n'≤1000) :
  Calls prog 315 #[.slice A n c,.slice A' n' c'] w fun e w'=>e=.returned (.tuple #[.bool (decide (n / 2+1≤Qm.among l l')),.int .i64 0])∧w=w':=by
 have hl:=hr.jw;have h6:=dz h;have hlt1:=Qm.mP l 0 (by omega);have hlt2:=Qm.mP l' 0 (by omega);have hpa:=Qm.ME (nodes:=l') h6.1;have hand:=RH ⟨_,hlt1⟩ ⟨_,hlt2⟩;have hx:Qm.eu 0 l &&& Qm.eu 0 l'<64:=Nat.and_lt_two_pow (n:=6) _ hlt2;have H1:=L_ (Fv A n c B l w hr h);have H2:=L_ (tT A n c B l w hr (by omega));have H3:=L_ (tT A' n' c' B' l' w hr' (by omega));have H4:=L_ (ones _ hx w);rw[hpa] at H4;simp only at hand;generalize Qm.eu 0 l=a at *;generalize Qm.eu 0 l'=b at *;generalize Qm.among l l'=s at *;clear hr hr' h hlt1 hlt2 hpa hx
 go_enter func315,ntmps315
 go_wp2_with (first|(with_reducible refine H1.out.mono ?_;rintro e w' ⟨rfl,rfl⟩)|(with_reducible refine H2.out.mono ?_;rintro e w' ⟨rfl,rfl⟩)|(with_reducible refine H3.out.mono ?_;rintro e w' ⟨rfl,rfl⟩)|(with_reducible refine H4.out.mono ?_;rintro e w' ⟨rfl,rfl⟩))
 go_ret2
 exact⟨by simp;omega,rfl⟩
theorem Iq (A:Option Addr)(n c B:Nat)(l:List Int)(A':Option Addr)(n' c':Nat)(w:World)(hr:Reads w B 1 A n (ci l))(h:Qm.check l=0)(hn:1000<n')(hn':n'≤9223372036854775807) :
  Calls prog 315 #[.slice A n c,.slice A' n' c'] w fun e w'=>e=.returned (.tuple #[false,.int .i64 4])∧w=w':=by
 have hl:=hr.jw;have h6:=dz h;have H1:=L_ (Fv A n c B l w hr h);clear hr h
 go_enter func315,ntmps315
 go_wp2_with (first|(with_reducible refine H1.out.mono ?_;rintro e w' ⟨rfl,rfl⟩))
 go_ret2
 exact⟨rfl,rfl⟩
theorem Lx (A:Option Addr)(n c B:Nat)(l:List Int)(A':Option Addr)(n' c':Nat)(v:Int)(w:World)(hr:Reads w B 1 A n (ci l))(hn:n≤9223372036854775807)(h:Qm.check l=v)(hv:v≠0) :
  Calls prog 315 #[.slice A n c,.slice A' n' c'] w fun e w'=>e=.returned (.tuple #[false,v])∧w=w':=by
 have H1:=L_ (Kt A n c B l v w hr hn h hv);clear hr h
 go_enter func315,ntmps315
 go_wp2_with (first|(with_reducible refine H1.out.mono ?_;rintro e w' ⟨rfl,rfl⟩))
 go_ret2
 exact⟨rfl,rfl⟩
variable{is0:List It}{o1 o2 o3 o4 o5 o6 o7 o8:Oper}{α:Type}
section
variable{b N:Nat}{w0 w:World}{bx:List Bx}{is:List It}
theorem Env.l [aj α](E:Env b w0 bx is w){s:Sl α}(h:s.aA w0 b N):s.aA w w N:=(h.below E.aD).more E.sz (Zh _)
theorem Env.h [au α](E:Env b w0 bx is w){x:α}(h:au.aA w0 b N x):au.aA w w N x:=au.aS (au.bA h fun p hp=>E.aD.cell hp) E.sz (Zh _)
theorem Env.ol [aj α](E:Env b w0 bx is w)(q:Nat){s:Sl α}(hk:is[q]?=some (own s N):=by rfl):s.aA w w N:=Sl.Own.lie (show Sl.Own w b N s from E.get q hk)
theorem Env.on [aj α](E:Env b w0 bx is w)(q:Nat){s:Sl α}(hk:is[q]?=some (own s N):=by rfl):s.l.length≤N:=(show Sl.Own w b N s from E.get q hk).2.1
end
theorem Env.aO [aj α]{b N:Nat}{w0 w:World}{bx:List Bx}{is:List It}(E:Env b w0 bx is w):Env b w0 bx (own (⟨none,0,[]⟩:Sl α) N::is) w:=E.gG (aaO _ _) _ Sl.eY (fun g hg=>by cases hg)
def iZ:Try:=⟨0,0,⟨none,0,[]⟩,⟨#[]⟩,⟨#[]⟩,⟨none,0,[]⟩,⟨none,0,[]⟩⟩
theorem Env.iZ {b:Nat}{w0 w:World}{bx:List Bx}{is:List It}(E:Env b w0 bx is w)(N:Nat):Env b w0 bx (uD iZ N++is) w:=((E.aO (α:=Int) (N:=N)).aO (α:=rF) (N:=N)).aO (α:=Int) (N:=N)
theorem tY (s:Sl Int)(x:Int)(w:World)(N:Nat)(h:s.aA w w N)(hN:N≤1000000):Calls prog 14 #[s,x] w fun e w'=>e=.returned (.bool (decide (x∈s.l)))∧w=w':=
 oU s.A s.l.length s.c w s.l x w (by have:=h.1;rwa[fF] at this) (by have:=h.2.2.2.1;omega)
theorem QG (s:Sl Int)(w:World)(N:Nat)(h:s.aA w w N)(hN:N≤1000000):Calls prog 196 #[s] w fun e w'=>e=.returned ((Qm.check s.l))∧w=w':=
 jf s.A s.l.length s.c w s.l w (by have:=h.1;rwa[fF] at this) (by have:=h.2.2.2.1;omega)
section
variable{P:Program}{md:Region.Mode}{ops:Array Oper}{Q:Exit→Act→World→Prop}{b:Nat}{w0 w:World}{bx:List Bx}{is:List It}{n f:Nat}{listed:Array Bool}{a:Act}
theorem VZ (i:Nat){rest:List Oper}(E:Env b w0 bx is w)(vs:List Value)(hc:∀w',Env b w0 bx0 is0 w'→∀q u,vs[q]?=some u→w'.cell? ⟨g,j+q,none⟩=some u)(h:av P md ops Q (Env b w0 bx0 is0) n (bR P md ops Q n) f (listed.setIfInBounds i true) a' w)
  (hi:ops.toList.drop i=oi::rest:=by rfl) (hB:takeB md ops n i listed=true:=by kernel_rfl) (hQ:∀c a w,Q (.panic c) (a.put oi.dst (.agg vs.toArray)) w→Q (.panic c) a w:=by exact fun _ _ _ h=>h) (hg:Region.wanted oi (yielded ops a.tmps)=true:=by rfl) (ho:oi.op=.load ty x:=by rfl) (hx:a.eval x=.pointer (some ⟨g,j,none⟩):=by rfl) (hu:bq P ty=false:=by kernel_rfl) (hs:(P.info? ty).map (·.size)=some vs.length:=by kernel_rfl) (hd:(P.underlying ty).isSome=true:=by kernel_rfl) (hsi:is0.Sublist is:=by first|exact Zy _|exact Zi _|exact Zj _ (Zi _)) (hsb:bx0.Sublist bx:=by first|exact Zi _|exact Zj _ (Zi _)|exact Zj _ (Zj _ (Zi _))|exact Zj _ (Zj _ (Zj _ (Zi _)))) (ha:a.put oi.dst (.agg vs.toArray)=a':=by first|(simp only[Act.put,aaI,aaJ,aaK]<;>rfl)|rfl):av P md ops Q (Env b w0 bx0 is0) n (bR P md ops Q n) (f+1) listed a w:=by
 subst ha;obtain⟨d,hd⟩:=aan.1 hd;have hr:d.isRow=true:=by simpa[bq,hd] using hu
 refine bL hi hB hQ (Or.inl ⟨hg,fun w' hw'=>?_⟩) (E.sub hsb hsi) h;unfold execOp;simp only[ho,hx,aaV,aaW,aaQ,run_loadAt_mid w' g j ty vs d (fun q u hq=>hc w' hw' q u hq) hd hr hs]
end
section
variable{P:Program}{md:Region.Mode}{ops:Array Oper}{Q:Exit→Act→World→Prop}{b:Nat}{w0 w:World}{bx:List Bx}{is:List It}{n f:Nat}
theorem kC (i:Nat){listed:Array Bool}{a:Act}{rest:List Oper}(E:Env b w0 bx is w)(h:av P md ops Q (Env b w0 bx0 is0) n (bR P md ops Q n) f (Aw 2 i listed) a' w)
  (hi:ops.toList.drop i=o1::o2::rest:=by rfl) (ht:AL md ops n 2 i listed=true:=by kernel_rfl) (hw:xC ops (o1::o2::rest) 2 a=true:=by kernel_rfl) (ha:(a.put o1.dst undef).put o2.dst undef=a':=by first|(simp only[Act.put,aaI,aaJ,aaK]<;>rfl)|rfl) (hQ:∀(d:Tmp) c a w,Q (.panic c) (a.put (some d) undef) w→Q (.panic c) a w:=by exact fun _ _ _ _ h=>h) (hsi:is0.Sublist is:=by first|exact Zy _|exact Zi _|exact Zj _ (Zi _)) (hsb:bx0.Sublist bx:=by first|exact Zi _|exact Zj _ (Zi _)|exact Zj _ (Zj _ (Zi _))|exact Zj _ (Zj _ (Zj _ (Zi _)))):av P md ops Q (Env b w0 bx0 is0) n (bR P md ops Q n) (f+2) listed a w:=by
 subst ha;exact Kk hQ (E.sub hsb hsi) 2 i listed a _ hi ht hw (by simp only[Am];exact h)
theorem wL (i:Nat){listed:Array Bool}{a:Act}{rest:List Oper}(E:Env b w0 bx is w)(h:av P md ops Q (Env b w0 bx0 is0) n (bR P md ops Q n) f (Aw 4 i listed) a' w)
  (hi:ops.toList.drop i=o1::o2::o3::o4::rest:=by rfl) (ht:AL md ops n 4 i listed=true:=by kernel_rfl) (hw:xC ops (o1::o2::o3::o4::rest) 4 a=true:=by kernel_rfl) (ha:(((a.put o1.dst undef).put o2.dst undef).put o3.dst undef).put o4.dst undef=a':=by first|(simp only[Act.put,aaI,aaJ,aaK]<;>rfl)|rfl) (hQ:∀(d:Tmp) c a w,Q (.panic c) (a.put (some d) undef) w→Q (.panic c) a w:=by exact fun _ _ _ _ h=>h) (hsi:is0.Sublist is:=by first|exact Zy _|exact Zi _|exact Zj _ (Zi _)) (hsb:bx0.Sublist bx:=by first|exact Zi _|exact Zj _ (Zi _)|exact Zj _ (Zj _ (Zi _))|exact Zj _ (Zj _ (Zj _ (Zi _)))):av P md ops Q (Env b w0 bx0 is0) n (bR P md ops Q n) (f+4) listed a w:=by
 subst ha;exact Kk hQ (E.sub hsb hsi) 4 i listed a _ hi ht hw (by simp only[Am];exact h)
theorem jF (i:Nat){listed:Array Bool}{a:Act}{rest:List Oper}(E:Env b w0 bx is w)(h:av P md ops Q (Env b w0 bx0 is0) n (bR P md ops Q n) f (Aw 8 i listed) a' w)
  (hi:ops.toList.drop i=o1::o2::o3::o4::o5::o6::o7::o8::rest:=by rfl) (ht:AL md ops n 8 i listed=true:=by kernel_rfl) (hw:xC ops (o1::o2::o3::o4::o5::o6::o7::o8::rest) 8 a=true:=by kernel_rfl) (ha:(((((((a.put o1.dst aaM).put o2.dst aaM).put o3.dst aaM).put o4.dst aaM).put o5.dst aaM).put o6.dst aaM).put o7.dst aaM).put o8.dst aaM=a':=by first|(simp only[Act.put,aaI,aaJ,aaK]<;>rfl)|rfl) (hQ:∀(d:Tmp) c a w,Q (.panic c) (a.put (some d) aaM) w→Q (.panic c) a w:=by exact fun _ _ _ _ h=>h) (hsi:is0.Sublist is:=by first|exact Zy _|exact Zi _|exact Zj _ (Zi _)) (hsb:bx0.Sublist bx:=by first|exact Zi _|exact Zj _ (Zi _)|exact Zj _ (Zj _ (Zi _))|exact Zj _ (Zj _ (Zj _ (Zi _)))):av P md ops Q (Env b w0 bx0 is0) n (bR P md ops Q n) (f+8) listed a w:=by
 subst ha;exact Kk hQ (E.sub hsb hsi) 8 i listed a _ hi ht hw (by simp only[Am];exact h)
end
variable{p:Addr}{bx':List Bx}{is':List It}
theorem Env.tl {b:Nat}{w0 w:World}{bx:List Bx}{i:It}{is:List It}(E:Env b w0 bx (i::is) w):Env b w0 bx is w:=E.sub (Zi _) (Zj _ (Zi _))
theorem Env.only {b:Nat}{w0 w:World}{x:Bx}{bx:List Bx}{is:List It}(E:Env b w0 (x::bx) is w)(n:Nat):Env b w0 (x::bx.drop n) is w:=E.sub (.cons_cons _ (List.drop_sublist n bx)) (Zi _)
theorem Env.as {b:Nat}{w0 w:World}{bx:List Bx}{is:List It}(E:Env b w0 bx is w)(h:bx=bx')(k:is=is'):Env b w0 bx' is' w:=h▸k▸E
theorem Env.fZ {b:Nat}{w0 w:World}{x y:Bx}{bx:List Bx}{is:List It}(E:Env b w0 (x::y::bx) is w):Env b w0 (y::x::bx) is w:=by
 have hs:(comps (x::y::bx) is).Perm (comps (y::x::bx) is):=List.Perm.append_right _ ((ZW y x bx).map _);exact⟨E.aD,E.sz,fun z hz=>E.at_ z ((ZW x y bx).mem_iff.1 hz),E.it,fun l hl=>E.ge l (hs.mem_iff.2 hl),hs.pairwise E.dj fun hxy g hg hm=>hxy g hm hg⟩
theorem Env.Nc {b:Nat}{w0 w:World}{bx:List Bx}{is:List It}(E:Env b w0 bx is w)(h:bx.Perm bx'):Env b w0 bx' is w:=by
 have hs:(comps bx is).Perm (comps bx' is):=List.Perm.append_right _ (h.map _);exact⟨E.aD,E.sz,fun z hz=>E.at_ z (h.mem_iff.2 hz),E.it,fun l hl=>E.ge l (hs.mem_iff.2 hl),hs.pairwise E.dj fun hxy g hg hm=>hxy g hm hg⟩
theorem Env.bD {b:Nat}{w0 w:World}{bx:List Bx}{is:List It}(E:Env b w0 bx is w)(q:Nat){x:Bx}(hk:bx[q]?=some x:=by rfl):Env b w0 (x::(bx.take q++bx.drop (q+1))) is w:=E.Nc (by
 conv=>lhs;rw[Env.oQ bx q x hk]
 exact List.perm_middle)
section
variable{P:Program}{md:Region.Mode}{ops:Array Oper}{Q:Exit→Act→World→Prop}{b:Nat}{w0 w:World}{bx:List Bx}{is:List It}{n f:Nat}{listed:Array Bool}{a:Act}
theorem oZ {rest:List Oper}(hc:w.cell? p=some v)(h:wpList P ops Q rest a' w)
  (hg:Region.wanted o (yielded ops a.tmps)=true:=by rfl) (ho:o.op=.load ty x:=by rfl) (hx:a.eval x=.pointer (some p):=by rfl) (hu:bq P ty=true:=by kernel_rfl) (ha:a.put o.dst v=a':=by first|(simp only[Act.put,aaI,aaJ,aaK]<;>rfl)|rfl):wpList P ops Q (o::rest) a w:=by
 subst ha;obtain⟨d,hd,hr⟩:=dS hu;refine wpList_step fun K hK=>?_;rw[aaS hg];unfold Oper.wp execOp;simp only[ho,hx,aaV,aaW,aaQ,gX hd hr hc];exact hK _ _ h
end
section
open Go.RowKit Go.Maps
theorem JL {v:ByteArray}(h:v.size≤maxLen):keyOf prog 9 v=some (.string v.data.toList):=by
 rw[keyOf_string underlying9];simp[mapKey,underlying9,h]
def D8 (k e:TypeId)(g n:Nat):It where
 p:=fun _ w=>MapAt w k e g n
 bl:=[g]
 mono:=fun h _=>h
 keep:=fun h hk=>MapAt.block h (hk _ (Zp.2 rfl))
 lt:=fun h g hg=>by rw[Zp.1 hg];exact MapAt.lt h
section
variable{b:Nat}{w0 w:World}{bx:List Bx}{is:List It}
theorem Env.map (E:Env b w0 bx is w)(k e:TypeId):Env b w0 bx (D8 k e w 0::is) (w.alloc (.map #[] 0)):=
 E.gG ((aaO _ w).alloc (Zh _) _) (D8 k e w 0) (MapAt.made w k e) (fun g hg=>by rw[Zp.1 hg];exact Zh _)
variable{ops:Array Oper}{Q:Exit→Act→World→Prop}{a:Act}
theorem TA (k e:TypeId){rest:List Oper}(E:Env b w0 bx is w)(h:∀g w',Env b w0 bx (D8 k e g 0::is) w'→wpList prog ops Q rest (a.put o.dst (.map (some g))) w')
  (hg:o.guard=none:=by rfl) (hr:(execOp a.eval o).run prog w=.ok (.value (.map (some w))) (w.alloc (.map #[] 0)):=by(have hmm:=@run_makeMap prog)<;>go_simp<;>with_reducible rfl):wpList prog ops Q (o::rest) a w:=by
 refine wpList_plain hg fun K hK=>?_;unfold Oper.wp;rw[hr];exact hK _ _ (h _ _ (E.map k e))
theorem WY (q:Nat){rest:List Oper}{m:Operand}{n:Nat}{v:ByteArray}(E:Env b w0 bx is w)(hv:v.size≤maxLen)(h:∀c:Int,wpList prog ops Q rest (a.put o.dst c) w)
  (hq:is[q]?=some (D8 9 3 g n):=by rfl) (hg:o.guard=none:=by rfl) (ho:o.op=Op.lookup t m x false:=by rfl) (ht:t=400:=by rfl) (hm:a.eval m=.map (some g):=by rfl) (hx:a.eval x=v:=by rfl):wpList prog ops Q (o::rest) a w:=
 wF w hg m x t ho 9 3 (string_keyed underlying9) (ht▸underlying400) underlying3 (by kernel_rfl) g n hm (E.get q hq) _ _ hx (JL hv) h
theorem SN (q:Nat){rest:List Oper}{m:Operand}{n:Nat}{v:ByteArray}{c:Int}(E:Env b w0 bx is w)(hv:v.size≤maxLen)(h:∀w',Env b w0 bx (is.set q (D8 9 3 g (n+1))) w'→wpList prog ops Q rest a w')
  (hq:is[q]?=some (D8 9 3 g n):=by rfl) (hn:n<1000000:=by omega) (hg:o.guard=none:=by rfl) (hd:o.dst=none:=by rfl) (ho:o.op=Op.mapUpdate t m x y:=by rfl) (ht:t=400:=by rfl) (hm:a.eval m=.map (some g):=by rfl) (hx:a.eval x=v:=by rfl) (hy:a.eval y=c:=by rfl) (hw:(Lit.int .i64 c).wf=true:=by decide):wpList prog ops Q (o::rest) a w:=
 pJ w hg m x y t ho 9 3 (string_keyed underlying9) (ht▸underlying400) g n hm (E.get q hq) (aal hn (by decide)) _ _ _ hx hy (JL hv) _ (plainElem_int underlying3 hw) fun w' h1 h2=>by
  rw[hd];exact h _ (E.row q hq h2 (fun g' e=>Zp.2 (Z4 e).symm) h1 fun g' hg'=>Or.inl hg')
end
section
variable{P:Program}{ops:Array Oper}{Q:Exit→Act→World→Prop}{w:World}{a:Act}
theorem oC {b:Nat}{w0:World}{bx:List Bx}{is:List It}(k m:Nat){rest:List Oper}{cs:List Value}(E:Env b w0 bx is w)(h:wpList P ops Q rest a' w)
  (hg:Region.wanted o (yielded ops a.tmps)=true:=by rfl) (ho:o.op=.load ty x:=by rfl) (hx:a.eval x=.pointer (some ⟨g,j,none⟩):=by rfl) (hk:bx[k]?=some (g,t,cs):=by rfl) (hv:(cs.drop j).take m=vs:=by first|(dsimp only[Env.splice,List.set_cons_zero,List.set_cons_succ,List.drop_succ_cons,List.drop_zero,List.take_succ_cons,List.take_zero]<;>rfl)|rfl) (hl:Nat.ble (j+m) cs.length=true:=by rfl) (hu:bq P ty=false:=by kernel_rfl) (hs:(P.info? ty).map (·.size)=some m:=by kernel_rfl) (hd:(P.underlying ty).isSome=true:=by kernel_rfl) (ha:a.put o.dst (.agg vs.toArray)=a':=by first|(simp only[Act.put,List.setIfInBounds_toArray,List.set_cons_zero,List.set_cons_succ]<;>rfl)|rfl):wpList P ops Q (o::rest) a w:=by
 subst ha;obtain⟨d,hd⟩:=aan.1 hd;have hr:d.isRow=true:=by simpa[bq,hd] using hu
 have hl:=Nat.le_of_ble_eq_true hl;have hvl:vs.length=m:=by rw[←hv,Zw,ZK];omega
 refine wpList_step fun K hK=>?_;rw[aaS hg];unfold Oper.wp execOp
 simp only[ho,hx,aaV,aaW,aaQ,run_loadAt_mid w g j ty vs d (fun q u hq=>by
  rw[E.cell k hk];rw[←hv,aav] at hq
  split at hq
  ·rw[aaj] at hq;exact hq
  ·cases hq) hd hr (by rw[hvl];exact hs)]
 exact hK _ _ h
end
end
variable{q:Addr}{m:Nat}
section
variable{P:Program}{md:Region.Mode}{ops:Array Oper}{Q:Exit→Act→World→Prop}{S:World→Prop}{n:Nat}
def oL (md:Region.Mode)(ops:Array Oper)(n:Nat):List (Nat×Bool)→Array Bool→Bool
 |[],listed=>Region.seqB md ops (ops.size - n) n listed
 |(i,e)::r,listed=>(if e then qN md ops n i listed else decide (i<n)&&Region.free md ops listed i&&(Region.ready md ops listed).contains i)&&oL md ops n r (listed.setIfInBounds i true)
def Sg (md:Region.Mode)(ops:Array Oper)(n:Nat)(l:List (Nat×Bool)):Bool:=
 Region.noSelect ops&&decide (n<ops.size)&&Region.sinkB md ops n&&Region.chainB md ops n&&decide (l.length=n)&&oL md ops n l (Array.replicate ops.size false)
def aH (P:Program)(ops:Array Oper)(Q:Exit→Act→World→Prop)(S:World→Prop)(n:Nat):List (Nat×Bool)→Act→World→Prop
 |[],a,w=>wpList P ops Q (ops.toList.drop n) a w
 |(i,false)::r,a,w=>∃oi v,ops[i]?=some oi∧(∀c a w,Q (.panic c) (a.put oi.dst v) w→Q (.panic c) a w)∧YieldsIf P ops S oi v a∧S w∧aH P ops Q S n r (a.put oi.dst v) w
 |(i,true)::r,a,w=>wpOp P ops Q i (fun a' w'=>S w'∧aH P ops Q S n r a' w') a w
theorem IZ:HeadInv md ops n (Array.replicate ops.size false):=
 ⟨by simp,(fun j oj hj hl=>by rw[getD_replicate_false] at hl;cases hl),(fun t h1 h2=>getD_in (by simpa using h2) (getD_replicate_false _ _))⟩
theorem BR (hs0:Region.noSelect ops=true)(hn:n<ops.size)(hs:Region.sinkB md ops n=true)(hc:Region.chainB md ops n=true):∀(l:List (Nat×Bool)) (listed:Array Bool) (a:Act) (w:World),HeadInv md ops n listed→oL md ops n l listed=true→aH P ops Q S n l a w→av P md ops Q S n (bR P md ops Q n) l.length listed a w
 |[],listed,a,w,inv,hB,h=>⟨hB,h⟩
 |(i,false)::r,listed,a,w,inv,hB,h=>by
  simp only[oL,Zr,Zx,Bool.false_eq_true,if_false] at hB;obtain⟨⟨⟨h5,h7⟩,h8⟩,hr⟩:=hB;obtain⟨oi,v,hi,hQ,hy,hS,h⟩:=h;have hrd:i∈Region.ready md ops listed:=by simpa using h8
  exact sG hi (Region.noSelect_spec hs0) hQ hs hc hn h5 (fun l a w hL=>seqB_ready hL.1) r.length listed a w inv (Region.free_spec hi h7) hrd hy hS (BR hs0 hn hs hc r _ _ w (inv.set hrd h5) hr h)
 |(i,true)::r,listed,a,w,inv,hB,h=>by
  simp only[oL,Zr,if_true] at hB;obtain⟨h1,hr⟩:=hB;simp only[qN,Zr,Zx] at h1;have hrd:i∈Region.ready md ops listed:=by rw[h1.1];exact Zp.2 rfl
  refine⟨by rw[h1.1];simp,fun j hj=>?_⟩;rw[h1.1] at hj;obtain rfl:j=i:=by simpa using hj
  exact⟨h1.2,wpOp_mono (fun a' w' h'=>⟨h'.1,BR hs0 hn hs hc r _ a' w' (inv.set hrd h1.2) hr h'.2⟩) h⟩
variable{id:Nat}
theorem yh {a:Act}{w:World}(n:Nat)(S:World→Prop)(l:List (Nat×Bool))(hm:P.follows .mixedOrders=true)(hB:Sg .any ops n l=true)(h:aH P ops Q S n l a w.drew):(Code.region id ops true).wp P Q a w:=by
 simp only[Sg,Zr,Zx] at hB;obtain⟨⟨⟨⟨⟨h1,h2⟩,h3⟩,h4⟩,h5⟩,h6⟩:=hB;have:=BR (Q:=Q) (S:=S) h1 h2 h3 h4 l _ a w.drew IZ h6 h;rw[h5] at this;exact eH n S hm (ZG (Nat.le_of_lt h2)) this
theorem kE {rest:List Oper}{r:List (Nat×Bool)}{a:Act}{w:World}(hi:ops.toList.drop i=oi::rest)
  (hQ:∀c a w,Q (.panic c) (a.put oi.dst v) w→Q (.panic c) a w) (hy:YieldsIf P ops S oi v a) (hS:S w) (h:aH P ops Q S n r (a.put oi.dst v) w):aH P ops Q S n ((i,false)::r) a w:=
 ⟨oi,v,aL hi,hQ,hy,hS,h⟩
theorem sN {r:List (Nat×Bool)}{a:Act}{w:World}(hi:ops[i]?=some oi)(h:wpList P ops (Qn Q (fun a' w'=>S w'∧aH P ops Q S n r a' w')) [oi] a w):aH P ops Q S n ((i,true)::r) a w:=
 wpOp_mono (fun a' w' h'=>h') (wO hi h)
theorem ow {a:Act}{w:World}{l:List Oper}(h:wpList P ops Q l a w)(hl:ops.toList.drop n=l:=by rfl):aH P ops Q S n [] a w:=by
 subst hl;exact h
theorem D_n {l:List (Nat×Bool)}{a:Act}{w:World}(h:aH P ops Q S n l a' w)(ha:a=a':=by first|(simp only[Act.put,aaI,aaJ,aaK]<;>rfl)|rfl):aH P ops Q S n l a w:=ha▸h
end
def ou (md:Region.Mode):List Edge→Nat
 |[]=>0
 |e::l=>if Region.binds md e then 1 <<< e.on ||| ou md l else ou md l
theorem WT (i j:Nat):(1 <<< i).testBit j=decide (i=j):=by rw[Nat.one_shiftLeft,Nat.testBit_two_pow]
theorem qF {md:Region.Mode}{i:Nat}:∀(l:List Edge),(ou md l).testBit i=true↔∃e∈l,Region.binds md e=true∧e.on=i
 |[]=>by simp[ou]
 |e::l=>by
  have ih:=qF (md:=md) (i:=i) l;unfold ou
  split
  ·rename_i h
   rw[Nat.testBit_or,WT];simp[ih,h]
  ·rename_i h
   simp[ih,h]
theorem Qb {a:Nat}:(a &&& m==a)=true↔∀i,a.testBit i=true→m.testBit i=true:=by
 rw[aar]
 constructor
 ·intro h i hi;rw[←h,Nat.testBit_and,Zr] at hi;exact hi.2
 ·intro h;apply Nat.eq_of_testBit_eq;intro i;rw[Nat.testBit_and];have:=h i;cases ha:a.testBit i<;>simp_all
def Ei (md:Region.Mode)(ops:Array Oper):List Nat:=ops.toList.map fun o=>ou md o.after.toList
def lM:List Nat→Nat→Nat→List Nat
 |[],_,_=>[]
 |a::r,k,m=>if !m.testBit k&&(a &&& m==a) then k::lM r (k+1) m else lM r (k+1) m
def Bt (ops:Array Oper)(listed:Array Bool)(m:Nat):Prop:=listed.size=ops.size∧∀j,listed.getD j false=m.testBit j
theorem Bt.tt {ops:Array Oper}(h:Bt ops listed m)(hj:j<ops.size):listed.getD j true=m.testBit j:=by
 rw[←h.2 j];have:j<listed.size:=by rw[h.1];exact hj
 simp[Array.getD,this]
theorem Bt.set {ops:Array Oper}(h:Bt ops listed m)(hi:i<ops.size):Bt ops (listed.setIfInBounds i true) (1 <<< i ||| m):=by
 refine⟨by simpa using h.1,fun j=>?_⟩;rw[Nat.testBit_or,WT]
 by_cases e:i=j
 ·subst e;have:i<listed.size:=by rw[h.1];exact hi
  simp[Array.getD,this]
 ·rw[getD_set_ne false e,h.2 j];simp[e]
theorem Es {md:Region.Mode}{ops:Array Oper}(h:Bt ops listed m)(o:Oper):(ou md o.after.toList &&& m==ou md o.after.toList)=true↔∀e∈o.after,Region.binds md e=true→listed.getD e.on false=true:=by
 rw[Qb]
 constructor
 ·intro hh e he hb;rw[h.2];exact hh _ ((qF _).2 ⟨e,Array.mem_toList_iff.2 he,hb,rfl⟩)
 ·intro hh i hi;obtain⟨e,he,hb,rfl⟩:=(qF _).1 hi;rw[←h.2];exact hh e (Array.mem_toList_iff.1 he) hb
theorem Jg {md:Region.Mode}{ops:Array Oper}(h:Bt ops listed m):∀(l:List Oper) (k:Nat),(∀t,l[t]?=ops[k+t]?)→lM (l.map fun o=>ou md o.after.toList) k m=(List.range' k l.length).filter fun i=>!listed.getD i true&&((ops[i]?).map (·.after.all fun e=>!Region.binds md e||listed.getD e.on false)).getD false
 |[],k,hl=>by simp[lM]
 |o::l,k,hl=>by
  have h0:ops[k]?=some o:=by simpa using (hl 0).symm
  have hk:k<ops.size:=(Z6.1 h0).1;have ih:=Jg (md:=md) h l (k+1) (fun t=>by have:=hl (t+1);simpa[Nat.add_assoc,Nat.add_comm 1 t] using this)
  have hp:(!m.testBit k&&(ou md o.after.toList &&& m==ou md o.after.toList))=(!listed.getD k true&&((ops[k]?).map (·.after.all fun e=>!Region.binds md e||listed.getD e.on false)).getD false):=by
   rw[h.tt hk,h0]
   congr 1
   rw[Bool.eq_iff_iff,Es h o];simp only[aad,Option.getD_some,Array.all_eq_true_iff_forall_mem,Bool.or_eq_true,Bool.not_eq_true']
   constructor
   ·intro hh e he;cases hb:Region.binds md e
    ·exact .inl rfl
    ·exact .inr (hh e he hb)
   ·intro hh e he hb;exact(hh e he).resolve_left (by simp[hb])
  simp only[List.map_cons,lM,ZI,List.range'_succ,List.filter_cons,hp,ih]
theorem Iu {md:Region.Mode}{ops:Array Oper}(h:Bt ops listed m):lM (Ei md ops) 0 m=Region.ready md ops listed:=by
 unfold Ei Region.ready;rw[Jg h ops.toList 0 (fun t=>by simp),List.range_eq_range',ZO]
def vC (A:List Nat)(i m:Nat):Bool:=!m.testBit i&&match A[i]? with|some a=>a &&& m==a|none=>false
theorem PN {md:Region.Mode}{ops:Array Oper}(h:Bt ops listed m)(hr:vC (Ei md ops) i m=true):(Region.ready md ops listed).contains i=true:=by
 unfold vC Ei at hr;rw[ZU] at hr;cases ho:ops[i]? with
 |none=>simp[ho] at hr
 |some o=>
  have hi:i<ops.size:=(Z6.1 ho).1;have ho':ops.toList[i]?=some o:=by simpa using ho
  simp only[ho',aad,Zr,Bool.not_eq_true'] at hr;simp only[List.contains_eq_mem,Zx];exact mem_ready.2 ⟨by rw[h.tt hi];exact hr.1,o,ho,(Es h o).1 hr.2⟩
def Xz (ops:Array Oper)(oi:Oper)(i m:Nat):List Oper→List Nat→Nat→Bool
 |o::l,a::r,k=>(k==i||m.testBit k||a.testBit i||oi.apart ops o)&&Xz ops oi i m l r (k+1)
 |_,_,_=>true
theorem Ev {md:Region.Mode}{ops:Array Oper}(h:Bt ops listed m):∀(l:List Oper) (k:Nat),(∀t,l[t]?=ops[k+t]?)→Xz ops oi i m l (l.map fun o=>ou md o.after.toList) k=true→∀j,k≤j→j<ops.size→(j==i||listed.getD j true||match ops[j]? with
   |some oj=>oj.after.any (fun e=>Region.binds md e&&e.on==i)||oi.apart ops oj
   |none=>true)=true
 |[],k,hl,_,j,h1,h2=>by
  have:=hl (j - k);rw[show k+(j - k)=j by omega,ZM h2] at this;simp at this
 |o::l,k,hl,hB,j,h1,h2=>by
  have h0:ops[k]?=some o:=by simpa using (hl 0).symm
  simp only[List.map_cons,Xz,Zr] at hB
  rcases Nat.eq_or_lt_of_le h1 with rfl|h1
  ·have hb:=hB.1;rw[h.tt h2,h0];simp only[Bool.or_eq_true] at hb ⊢
   rcases hb with (hb|hb)|hb
   ·exact .inl hb
   ·obtain⟨e,he,hb,hi⟩:=(qF _).1 hb;refine .inr (.inl (Array.any_eq_true'.2 ⟨e,Array.mem_toList_iff.1 he,?_⟩));simp[hb,hi]
   ·exact .inr (.inr hb)
  ·exact Ev h l (k+1) (fun t=>by have:=hl (t+1);simpa[Nat.add_assoc,Nat.add_comm 1 t] using this) hB.2 j h1 h2
theorem NG {md:Region.Mode}{ops:Array Oper}(h:Bt ops listed m)(hi:ops[i]?=some oi)(hB:Xz ops oi i m ops.toList (Ei md ops) 0=true):Region.free md ops listed i=true:=by
 unfold Region.free;rw[hi];simp only[aam,List.mem_range];exact fun j hj=>Ev h ops.toList 0 (fun t=>by simp) hB j (Zq _) hj
def Nr (A:List Nat):Nat→Nat→Nat→Bool
 |0,_,m=>(lM A 0 m).isEmpty
 |g+1,k,m=>(lM A 0 m==[k])&&Nr A g (k+1) (1 <<< k ||| m)
theorem Bu {md:Region.Mode}{ops:Array Oper}:∀(g k m:Nat) (listed:Array Bool),Bt ops listed m→g+k=ops.size→Nr (Ei md ops) g k m=true→Region.seqB md ops g k listed=true
 |0,k,m,listed,h,hk,hB=>by
  simp only[Nr,Iu h] at hB;exact hB
 |g+1,k,m,listed,h,hk,hB=>by
  simp only[Nr,Iu h,Zr,aar] at hB;simp only[Region.seqB,Zr,Zx];exact⟨hB.1,Bu g (k+1) _ _ (h.set (by omega)) (by omega) hB.2⟩
def vJ (ops:Array Oper)(A:List Nat)(s n:Nat):List (Nat×Bool)→Nat→Bool
 |[],m=>Nr A (s - n) n m
 |(i,e)::r,m=>(if e then(lM A 0 m==[i])&&decide (i<n) else match ops[i]? with|some oi=>decide (i<n)&&Xz ops oi i m ops.toList A 0&&vC A i m|none=>false)&&vJ ops A s n r (1 <<< i ||| m)
theorem pI {md:Region.Mode}{ops:Array Oper}{n:Nat}(hn:n<ops.size):∀(l:List (Nat×Bool)) (m:Nat) (listed:Array Bool),Bt ops listed m→vJ ops (Ei md ops) ops.size n l m=true→oL md ops n l listed=true
 |[],m,listed,h,hB=>Bu _ _ _ _ h (by omega) hB
 |(i,true)::r,m,listed,h,hB=>by
  simp only[vJ,if_true,Zr,aar,Zx,Iu h] at hB;simp only[oL,if_true,qN,Zr,Zx];exact⟨hB.1,pI hn r _ _ (h.set (by omega)) hB.2⟩
 |(i,false)::r,m,listed,h,hB=>by
  cases ho:ops[i]? with
  |none=>simp[vJ,ho] at hB
  |some oi=>
   simp only[vJ,ho,Bool.false_eq_true,if_false,Zr,Zx] at hB;simp only[oL,Bool.false_eq_true,if_false,Zr,Zx];exact⟨⟨⟨hB.1.1.1,NG h ho hB.1.1.2⟩,PN h hB.1.2⟩,pI hn r _ _ (h.set (by omega)) hB.2⟩
theorem Bt.start {ops:Array Oper}:Bt ops (Array.replicate ops.size false) 0:=⟨by simp,fun j=>by rw[Nat.zero_testBit,getD_replicate_false]⟩
def Pf (md:Region.Mode)(ops:Array Oper)(n:Nat)(l:List (Nat×Bool)):Bool:=
 Region.noSelect ops&&decide (n<ops.size)&&Region.sinkB md ops n&&Region.chainB md ops n&&decide (l.length=n)&&vJ ops (Ei md ops) ops.size n l 0
theorem Au {md:Region.Mode}{ops:Array Oper}{n:Nat}{l:List (Nat×Bool)}(h:Pf md ops n l=true):Sg md ops n l=true:=by
 simp only[Pf,Sg,Zr,Zx] at h ⊢;exact⟨h.1,pI h.1.1.1.1.2 l 0 _ Bt.start h.2⟩
section
variable{P:Program}{ops:Array Oper}{Q:Exit→Act→World→Prop}{b:Nat}{w0 w:World}{bx:List Bx}{is:List It}{n:Nat}{a:Act}{r:List (Nat×Bool)}
variable{id:Nat}
theorem ng (d n:Nat)(is0:List It)(l:List (Nat×Bool))(E:Env b w0 bx is w)(h:∀w',Env b w0 bx is w'→aH P ops Q (Env b w0 bx0 is0) n l a w')(hd:bx.drop d=bx0:=by rfl)(hB:Pf .any ops n l=true:=by kernel_rfl)(hm:P.follows .mixedOrders=true:=by kernel_rfl):(Code.region id ops true).wp P Q a w:=by
 subst hd;exact yh n _ l hm (Au hB) (h _ E.drew)
theorem bP {y:Code}(d n:Nat)(is0:List It)(l:List (Nat×Bool))(E:Env b w0 bx is w)(h:∀w',Env b w0 bx is w'→aH P ops (Exit.then (y.wp P Q) Q) (Env b w0 bx0 is0) n l a w')(hd:bx.drop d=bx0:=by rfl)(hB:Pf .any ops n l=true:=by kernel_rfl)(hm:P.follows .mixedOrders=true:=by kernel_rfl):(Code.seq (.region id ops true) y).wp P Q a w:=wp_seq (ng d n is0 l E h hd hB hm)
theorem Ee (k:Nat){rest:List Oper}{cs:List Value}(E:Env b w0 bx is w)(h:aH P ops Q (Env b w0 bx0 is0) n r a' w)
  (hi:ops.toList.drop i=oi::rest:=by rfl) (hQ:∀c a w,Q (.panic c) (a.put oi.dst v) w→Q (.panic c) a w:=by exact fun _ _ _ h=>h) (hg:Region.wanted oi (yielded ops a.tmps)=true:=by rfl) (ho:oi.op=.load ty x:=by rfl) (hx:a.eval x=.pointer (some ⟨g,j,none⟩):=by rfl) (hk:bx0[k]?=some (g,t,cs):=by rfl) (hv:cs[j]?=some v:=by rfl) (hu:bq P ty=true:=by kernel_rfl) (hsi:is0.Sublist is:=by first|exact Zy _|exact Zi _|exact Zj _ (Zi _)) (hsb:bx0.Sublist bx:=by first|exact Zi _|exact Zj _ (Zi _)|exact Zj _ (Zj _ (Zi _))|exact Zj _ (Zj _ (Zj _ (Zi _)))) (ha:a.put oi.dst v=a':=by first|(simp only[Act.put,aaI,aaJ,aaK]<;>rfl)|rfl):aH P ops Q (Env b w0 bx0 is0) n ((i,false)::r) a w:=by
 subst ha;obtain⟨d,hd,hr⟩:=dS hu;refine kE hi hQ (Or.inl ⟨hg,fun w' hw'=>?_⟩) (E.sub hsb hsi) h;unfold execOp;simp only[ho,hx,aaV,aaW,aaQ,gX hd hr ((hw'.cell k hk j).trans hv)]
theorem gZ (k m:Nat){rest:List Oper}{cs:List Value}(E:Env b w0 bx is w)(h:aH P ops Q (Env b w0 bx0 is0) n r a' w)
  (hi:ops.toList.drop i=oi::rest:=by rfl) (hQ:∀c a w,Q (.panic c) (a.put oi.dst (.agg vs.toArray)) w→Q (.panic c) a w:=by exact fun _ _ _ h=>h) (hg:Region.wanted oi (yielded ops a.tmps)=true:=by rfl) (ho:oi.op=.load ty x:=by rfl) (hx:a.eval x=.pointer (some ⟨g,j,none⟩):=by rfl) (hk:bx0[k]?=some (g,t,cs):=by rfl) (hv:(cs.drop j).take m=vs:=by first|(dsimp only[Env.splice,List.set_cons_zero,List.set_cons_succ,List.drop_succ_cons,List.drop_zero,List.take_succ_cons,List.take_zero]<;>rfl)|rfl) (hl:Nat.ble (j+m) cs.length=true:=by rfl) (hu:bq P ty=false:=by kernel_rfl) (hs:(P.info? ty).map (·.size)=some m:=by kernel_rfl) (hd:(P.underlying ty).isSome=true:=by kernel_rfl) (hsi:is0.Sublist is:=by first|exact List.nil_sublist _|exact .refl _|exact List.Sublist.cons _ (List.Sublist.refl _)) (hsb:bx0.Sublist bx:=by first|exact .refl _|exact List.Sublist.cons _ (List.Sublist.refl _)|exact List.Sublist.cons _ (List.Sublist.cons _ (List.Sublist.refl _))|exact List.Sublist.cons _ (List.Sublist.cons _ (List.Sublist.cons _ (List.Sublist.refl _)))) (ha:a.put oi.dst (.agg vs.toArray)=a':=by first|(simp only[Act.put,List.setIfInBounds_toArray,List.set_cons_zero,List.set_cons_succ]<;>rfl)|rfl):aH P ops Q (Env b w0 bx0 is0) n ((i,false)::r) a w:=by
 subst ha;obtain⟨d,hd⟩:=aan.1 hd;have hr:d.isRow=true:=by simpa[bq,hd] using hu
 have hl:=Nat.le_of_ble_eq_true hl;have hvl:vs.length=m:=by rw[←hv,Zw,ZK];omega
 refine kE hi hQ (Or.inl ⟨hg,fun w' hw'=>?_⟩) (E.sub hsb hsi) h;unfold execOp
 simp only[ho,hx,aaV,aaW,aaQ,run_loadAt_mid w' g j ty vs d (fun q u hq=>by
  rw[hw'.cell k hk];rw[←hv,aav] at hq
  split at hq
  ·rw[aaj] at hq;exact hq
  ·cases hq) hd hr (by rw[hvl];exact hs)]
theorem ni {rest:List Oper}(E:Env b w0 bx is w)(h:aH P ops Q (Env b w0 bx0 is0) n r a' w)
  (hi:ops.toList.drop i=oi::rest:=by rfl) (hQ:∀c a w,Q (.panic c) (a.put oi.dst v) w→Q (.panic c) a w:=by exact fun _ _ _ h=>h) (hg:Region.wanted oi (yielded ops a.tmps)=true:=by rfl) (hv:∀w,(execOp a.eval oi).run P w=.ok (.value v) w:=by(intro w;go_simp)<;>with_reducible rfl) (hsi:is0.Sublist is:=by first|exact Zy _|exact Zi _|exact Zj _ (Zi _)) (hsb:bx0.Sublist bx:=by first|exact Zi _|exact Zj _ (Zi _)|exact Zj _ (Zj _ (Zi _))|exact Zj _ (Zj _ (Zj _ (Zi _)))) (ha:a.put oi.dst v=a':=by first|(simp only[Act.put,aaI,aaJ,aaK]<;>rfl)|rfl):aH P ops Q (Env b w0 bx0 is0) n ((i,false)::r) a w:=by
 subst ha;exact   kE hi hQ (Or.inl ⟨hg,fun w' _=>hv w'⟩) (E.sub hsb hsi) h
theorem Y0 {rest:List Oper}(E:Env b w0 bx is w)(h:aH P ops Q (Env b w0 bx0 is0) n r a' w)
  (hi:ops.toList.drop i=oi::rest:=by rfl) (hQ:∀c a w,Q (.panic c) (a.put oi.dst undef) w→Q (.panic c) a w:=by exact fun _ _ _ h=>h) (hg:Region.wanted oi (yielded ops a.tmps)=false:=by rfl) (hsi:is0.Sublist is:=by first|exact Zy _|exact Zi _|exact Zj _ (Zi _)) (hsb:bx0.Sublist bx:=by first|exact Zi _|exact Zj _ (Zi _)|exact Zj _ (Zj _ (Zi _))|exact Zj _ (Zj _ (Zj _ (Zi _)))) (ha:a.put oi.dst undef=a':=by first|(simp only[Act.put,aaI,aaJ,aaK]<;>rfl)|rfl):aH P ops Q (Env b w0 bx0 is0) n ((i,false)::r) a w:=by
 subst ha;exact kE hi hQ (Or.inr ⟨hg,rfl⟩) (E.sub hsb hsi) h
theorem YQ {rest:List Oper}(E:Env b w0 bx is w)(h:aH P ops Q (Env b w0 bx0 is0) n r a' w)
  (hi:ops.toList.drop i=oi::rest:=by rfl) (hg:Region.wanted oi (yielded ops a.tmps)=false:=by rfl) (hsi:is0.Sublist is:=by first|exact Zy _|exact Zi _|exact Zj _ (Zi _)) (hsb:bx0.Sublist bx:=by first|exact Zi _|exact Zj _ (Zi _)|exact Zj _ (Zj _ (Zi _))|exact Zj _ (Zj _ (Zj _ (Zi _)))) (ha:a.put oi.dst undef=a':=by first|(simp only[Act.put,aaI,aaJ,aaK]<;>rfl)|rfl):aH P ops Q (Env b w0 bx0 is0) n ((i,true)::r) a w:=by
 subst ha;unfold aH wpOp;simp only[aL hi,hg,Bool.false_eq_true,if_false];exact⟨E.sub hsb hsi,h⟩
theorem ug {rest:List Oper}(E:Env b w0 bx is w)(hc:∀w',Env b w0 bx0 is0 w'→w'.cell? q=some v)(h:aH P ops Q (Env b w0 bx0 is0) n r a' w)
  (hi:ops.toList.drop i=oi::rest:=by rfl) (hQ:∀c a w,Q (.panic c) (a.put oi.dst v) w→Q (.panic c) a w:=by exact fun _ _ _ h=>h) (hg:Region.wanted oi (yielded ops a.tmps)=true:=by rfl) (ho:oi.op=.load ty x:=by rfl) (hx:a.eval x=.pointer (some q):=by rfl) (hu:bq P ty=true:=by kernel_rfl) (hsi:is0.Sublist is:=by first|exact Zy _|exact Zi _|exact Zj _ (Zi _)) (hsb:bx0.Sublist bx:=by first|exact Zi _|exact Zj _ (Zi _)|exact Zj _ (Zj _ (Zi _))|exact Zj _ (Zj _ (Zj _ (Zi _)))) (ha:a.put oi.dst v=a':=by first|(simp only[Act.put,aaI,aaJ,aaK]<;>rfl)|rfl):aH P ops Q (Env b w0 bx0 is0) n ((i,false)::r) a w:=by
 subst ha;obtain⟨d,hd,hr⟩:=dS hu;refine kE hi hQ (Or.inl ⟨hg,fun w' hw'=>?_⟩) (E.sub hsb hsi) h;unfold execOp;simp only[ho,hx,aaV,aaW,aaQ,gX hd hr (hc w' hw')]
theorem R4 {rest:List Oper}(E:Env b w0 bx is w)(vs:List Value)(hc:∀w',Env b w0 bx0 is0 w'→∀q u,vs[q]?=some u→w'.cell? ⟨g,j+q,none⟩=some u)(h:aH P ops Q (Env b w0 bx0 is0) n r a' w)
  (hi:ops.toList.drop i=oi::rest:=by rfl) (hQ:∀c a w,Q (.panic c) (a.put oi.dst (.agg vs.toArray)) w→Q (.panic c) a w:=by exact fun _ _ _ h=>h) (hg:Region.wanted oi (yielded ops a.tmps)=true:=by rfl) (ho:oi.op=.load ty x:=by rfl) (hx:a.eval x=.pointer (some ⟨g,j,none⟩):=by rfl) (hu:bq P ty=false:=by kernel_rfl) (hs:(P.info? ty).map (·.size)=some vs.length:=by kernel_rfl) (hd:(P.underlying ty).isSome=true:=by kernel_rfl) (hsi:is0.Sublist is:=by first|exact Zy _|exact Zi _|exact Zj _ (Zi _)) (hsb:bx0.Sublist bx:=by first|exact Zi _|exact Zj _ (Zi _)|exact Zj _ (Zj _ (Zi _))|exact Zj _ (Zj _ (Zj _ (Zi _)))) (ha:a.put oi.dst (.agg vs.toArray)=a':=by first|(simp only[Act.put,aaI,aaJ,aaK]<;>rfl)|rfl):aH P ops Q (Env b w0 bx0 is0) n ((i,false)::r) a w:=by
 subst ha;obtain⟨d,hd⟩:=aan.1 hd;have hr:d.isRow=true:=by simpa[bq,hd] using hu
 refine kE hi hQ (Or.inl ⟨hg,fun w' hw'=>?_⟩) (E.sub hsb hsi) h;unfold execOp;simp only[ho,hx,aaV,aaW,aaQ,run_loadAt_mid w' g j ty vs d (fun q u hq=>hc w' hw' q u hq) hd hr hs]
theorem bT {rest:List Oper}{fn:FuncId}(hc:Calls P fn args w R)(h:∀e w',R e w'→∃v,e=.returned v∧Env b w0 bx0 is0 w'∧aH P ops Q (Env b w0 bx0 is0) n r (a.put oi.dst v) w')
  (hi:ops.toList.drop i=oi::rest:=by rfl) (hg:Region.wanted oi (yielded ops a.tmps)=true:=by rfl) (hr:∀w,(execOp a.eval oi).run P w=.ok (.enter fn args) w:=by(intro w;go_simp)<;>with_reducible rfl):aH P ops Q (Env b w0 bx0 is0) n ((i,true)::r) a w:=by
 unfold aH wpOp;simp only[aL hi,hg,if_true];refine Or.inl ?_;unfold Oper.wp;rw[hr w,Oper.upon_enter];refine hc.mono fun e w' hh=>?_;obtain⟨v,rfl,E',h'⟩:=h e w' hh;exact⟨E',h'⟩
theorem lN (k:Nat){rest:List Oper}{cs:List Value}(E:Env b w0 bx is w)(h:∀w',Env b w0 bx' is w'→aH P ops Q (Env b w0 bx0 is0) n r a w')
  (hi:ops.toList.drop i=oi::rest:=by rfl) (hg:Region.wanted oi (yielded ops a.tmps)=true:=by rfl) (hd:oi.dst=none:=by rfl) (ho:oi.op=.store ty x y:=by rfl) (hx:a.eval x=.pointer (some ⟨g,j,none⟩):=by rfl) (hy:a.eval y=v:=by go_simp<;>with_reducible rfl) (hv:v.cells.toList=vs:=by simp only[Value.cells,List.toList_toArray]<;>rfl) (hi2:(P.info? ty).map (·.size)=some vs.length:=by kernel_rfl) (h1:vs.all (·.oneCell')=true:=by rfl) (hk:bx[k]?=some (g,t,cs):=by rfl) (hl:Nat.ble (j+vs.length) cs.length=true:=by rfl) (hb:bx.set k (g,t,Env.splice cs j vs)=bx':=by first|(dsimp only[Env.splice,List.set_cons_zero,List.set_cons_succ,List.drop_succ_cons,List.drop_zero,List.take_succ_cons,List.take_zero]<;>rfl)|rfl) (hsi:is0.Sublist is:=by first|exact List.nil_sublist _|exact .refl _|exact List.Sublist.cons _ (List.Sublist.refl _)) (hsb:bx0.Sublist bx':=by first|exact .refl _|exact List.Sublist.cons _ (List.Sublist.refl _)|exact List.Sublist.cons _ (List.Sublist.cons _ (List.Sublist.refl _))|exact List.Sublist.cons _ (List.Sublist.cons _ (List.Sublist.cons _ (List.Sublist.refl _)))):aH P ops Q (Env b w0 bx0 is0) n ((i,true)::r) a w:=by
 rw[←hy] at hv;unfold aH wpOp;simp only[aL hi,hg,if_true];refine Or.inl ?_;unfold Oper.wp execOp;simp only[ho,hx,aaV,eT hv (E.there hk hl) hi2 h1,aaQ,aaW];have E':=Env.Ez k vs E hk j;rw[hb] at E';show _∧aH _ _ _ _ _ _ (a.put oi.dst undef) _;rw[hd];exact⟨E'.sub hsb hsi,h _ E'⟩
theorem xL {rest:List Oper}{e:TypeId}(E:Env b w0 bx is w)(h:∀g w',Env b w0 ((g,e,vs)::bx) is w'→aH P ops Q (Env b w0 bx0 is0) n r (a.put oi.dst (.slice (some ⟨g,0,none⟩) m m)) w')
  (hi:ops.toList.drop i=oi::rest:=by rfl) (hg:Region.wanted oi (yielded ops a.tmps)=true:=by rfl) (hr:(execOp a.eval oi).run P w=.ok (.value (.slice (some ⟨w,0,none⟩) m m)) (w.alloc (.cells vs.toArray e)):=by go_simp<;>first|with_reducible rfl|exact⟨rfl,rfl⟩) (hsi:is0.Sublist is:=by first|exact Zy _|exact Zi _|exact Zj _ (Zi _)) (hsb:bx0.Sublist bx:=by first|exact Zi _|exact Zj _ (Zi _)|exact Zj _ (Zj _ (Zi _))|exact Zj _ (Zj _ (Zj _ (Zi _)))):aH P ops Q (Env b w0 bx0 is0) n ((i,true)::r) a w:=by
 unfold aH wpOp;simp only[aL hi,hg,if_true];refine Or.inl ?_;unfold Oper.wp;rw[hr];have E':=E.alloc e vs;exact⟨E'.sub (Zj _ hsb) hsi,h _ _ E'⟩
end
section
variable{P:Program}{α:Type}[aj α] {b N:Nat}{w0 w w':World}{bx:List Bx}{is:List It}{fn:FuncId}
theorem TR (k:Nat){ops:Array Oper}{rest:List Oper}{a:Act}{Q:Exit→Act→World→Prop}{n:Nat}{r:List (Nat×Bool)}{s:Sl α}(N':Nat)(y:Sl α)(E:Env b w0 bx is w)(hy:Reads w w (aj.sz α) y.A y.l.length y.row)(hn:s.l.length+y.l.length≤N')(hN:N'≤1000000)
  (h:∀(s':Sl α) w',Hid (s'.l=s.l++y.l)→Env b w0 bx (is.set k (own s' N')) w'→aH prog ops Q (Env b w0 bx0 []) n r (a.put oi.dst (.slice s'.A s'.l.length s'.c)) w')
  (hi:ops.toList.drop i=oi::rest:=by rfl) (hk:is[k]?=some (own s N):=by rfl) (hgd:oi.guard=none:=by rfl) (hT:T=aj.sty α:=by rfl) (ho:oi.op=.call { callee:=.builtin .append,args:=#[sl,x],argTypes:=#[T,T] }:=by rfl) (hs:a.eval sl=s:=by rfl) (hx:a.eval x=y:=by rfl) (hf:∀(x:α) (w:World) (b N:Nat),au.Own w b N x∧au.bl x=[]:=by exact fun _ _ _ _=>⟨trivial,rfl⟩) (hsb:bx0.Sublist bx:=by first|exact Zi _|exact Zj _ (Zi _)|exact Zj _ (Zj _ (Zi _))|exact Zj _ (Zj _ (Zj _ (Zi _)))):aH prog ops Q (Env b w0 bx0 []) n ((i,true)::r) a w:=by
 refine sN (aL hi) ?_;have hr:=(show Sl.Own w b N s from E.get k hk).1;refine Sl.app hgd sl x T hT ho b s hs hr w y hx hy (by omega) E.sz fun s' w' h1 h2 h3=>?_;have E':=E.mG k hk h3 h2 (by rw[h1,Zn];exact hn) hf;exact⟨E'.sub hsb (Zy _),h s' w' (L_ h1) E'⟩
end
section
variable{α:Type}[aj α] [jy α] {b N:Nat}{w0 w:World}{bx:List Bx}{is:List It}
end
variable{B bb:Nat}{u:Value}
theorem Sl.aA.gI {α:Type}[aj α]{w:World}{N:Nat}{s:Sl α}(h:s.aA w B N){off:Nat}{x:α}(hA:s.A=some ⟨bb,off,none⟩)(hx:s.l[k]?=some x)(hu:(aj.cs x)[i]?=some u):w.cell? ⟨bb,off+k*aj.sz α+i,none⟩=some u:=by
 obtain⟨bb',off',x',hA',-,hx',hc,-⟩:=h.get (Zo.1 hx).1;rw[hA] at hA';injection hA' with hA'
 injection hA' with h1 h2
 subst h1 h2;rw[hx] at hx';injection hx' with hx'
 subst hx';exact hc i u hu
def xO (x:Bx):It where
 p:=fun _ w=>aF w x.1 x.2.1 x.2.2.toArray
 bl:=[x.1]
 mono:=fun h _=>h
 keep:=fun h hk=>(hk _ (Zp.2 rfl)).trans h
 lt:=fun h g hg=>by rw[Zp.1 hg];exact aF.lt h
section
variable{b:Nat}{w0 w w':World}{bx:List Bx}{is:List It}
theorem Env.sP {x:Bx}{i:It}(E:Env b w0 (x::bx) (i::is) w):Env b w0 bx (both (xO x) i::is) w:=by
 have h1:(comps (x::bx) (i::is)).Perm (comps bx (xO x::i::is)):=by
  unfold comps;exact(List.perm_middle (a:=(xO x).bl) (l₁:=bx.map fun x=>[x.1]) (l₂:=(i::is).map It.bl)).symm
 exact Env.join ⟨E.aD,E.sz,fun y hy=>E.at_ y (Zv _ hy),fun j hj=>by
  rcases Zu.1 hj with rfl|hj
  ·exact E.at_ x ZC
  ·exact E.it j hj,fun l hl=>E.ge l (h1.mem_iff.2 hl),h1.pairwise E.dj fun hxy g hg hm=>hxy g hm hg⟩
theorem Env.cut {i j:It}(E:Env b w0 bx (both i j::is) w)(hd:∀g∈i.bl,g ∉ j.bl):Env b w0 bx (i::j::is) w:=by
 have h1:(comps bx (i::j::is)).Perm (i.bl::j.bl::comps bx is):=by
  unfold comps;exact List.perm_middle.trans (List.Perm.cons _ List.perm_middle)
 have h2:(comps bx (both i j::is)).Perm ((i.bl++j.bl)::comps bx is):=by
  unfold comps;exact List.perm_middle
 have h3:=h2.pairwise E.dj (fun hxy g hg hm=>hxy g hm hg);obtain⟨h4,h5⟩:=List.pairwise_cons.1 h3;have hb:=E.it _ ZC;refine⟨E.aD,E.sz,E.at_,fun x hx=>?_,fun l hl g hg=>?_,?_⟩
 ·rcases Zu.1 hx with rfl|hx
  ·exact hb.1
  ·rcases Zu.1 hx with rfl|hx
   ·exact hb.2
   ·exact E.it x (Zv _ hx)
 ·rcases Zu.1 (h1.mem_iff.1 hl) with rfl|hl
  ·exact E.ge _ (h2.mem_iff.2 ZC) g (ZJ _ hg)
  ·rcases Zu.1 hl with rfl|hl
   ·exact E.ge _ (h2.mem_iff.2 ZC) g (ZL _ hg)
   ·exact E.ge l (h2.mem_iff.2 (Zv _ hl)) g hg
 ·refine h1.symm.pairwise (List.pairwise_cons.2 ⟨fun l hl g hg=>?_,List.pairwise_cons.2 ⟨fun l hl g hg=>h4 l hl g (ZL _ hg),h5⟩⟩) (fun hxy g hg hm=>hxy g hm hg)
  rcases Zu.1 hl with rfl|hl
  ·exact hd g hg
  ·exact h4 l hl g (ZJ _ hg)
theorem Env.Vw {x:Bx}{i:It}(E:Env b w0 bx (both (xO x) i::is) w)(hd:x.1 ∉ i.bl):Env b w0 (x::bx) (i::is) w:=by
 have F:=E.cut (i:=xO x) (fun g hg=>by rw[Zp.1 hg];exact hd)
 have h1:(comps (x::bx) (i::is)).Perm (comps bx (xO x::i::is)):=by
  unfold comps;exact(List.perm_middle (a:=(xO x).bl) (l₁:=bx.map fun x=>[x.1]) (l₂:=(i::is).map It.bl)).symm
 exact⟨F.aD,F.sz,fun y hy=>by
  rcases Zu.1 hy with rfl|hy
  ·exact F.it _ ZC
  ·exact F.at_ y hy,fun j hj=>F.it j (Zv _ hj),fun l hl=>F.ge l (h1.mem_iff.1 hl),h1.symm.pairwise F.dj fun hxy g hg hm=>hxy g hm hg⟩
theorem Env.I8 {α:Type}[aj α][jy α](E:Env b w0 bx is w)(q:Nat){s s':Sl α}{i:It}(hk:is[q]?=some i)(hs:s.Row w b)(hA:∀a,s.A=some a→a.block∈i.bl)(hg:dX w w' s s')(hr:s'.Row w' b)(hn:s'.l.length≤N')(hx:∀x∈s'.l,au.Own w b N' x∧∀g t,(g,t)∈au.bl x→g∈i.bl)(ht:aj.ty α ∉ jy.tys α):Env b w0 bx (is.set q (own s' N')) w':=by
 have far:∀x:α,au.Own w b N' x→au.Own w' b N' x:=fun x hx=>au.aN hx fun g t hm=>by
  obtain⟨_,cur,hh⟩:=au.dK hx g t hm;refine hg.1.block g (Z6.1 hh).1 fun e=>?_;cases hA:s.A with
  |none=>rw[hA] at e;cases e
  |some a=>
   rw[hA] at e;have e1:g=a.block:=Z4 e;subst e1;obtain⟨_,cur2,hh2⟩:=hs.iD hA;rw[hh] at hh2;injection hh2 with hh2
   injection hh2 with _ hh2
   exact ht (hh2▸jy.ok x _ t hm)
 refine E.row q hk hg.1 (fun g e=>?_) (show Sl.Own w' b N' s' from⟨hr,hn,fun x hx'=>far x (hx x hx').1⟩) fun g hm=>?_
 ·cases hB:s.A with
  |none=>rw[hB] at e;cases e
  |some a=>
   rw[hB] at e;exact(Z4 e)▸hA a hB
 ·obtain⟨⟨g',t⟩,hm2,rfl⟩:=ZA.1 hm
  rcases Zm.1 (show(g',t)∈(match s'.A with|some a=>[(a.block,aj.ty α)]|none=>[])++s'.l.flatMap au.bl from hm2) with h|h
  ·cases hC:s'.A with
   |none=>rw[hC] at h;cases h
   |some a=>
    rw[hC] at h;simp only[Zu,ZF,or_false,ZV] at h;rw[h.1]
    rcases hg.2 with h2|⟨q2,h2,h3⟩
    ·rw[hC] at h2;cases hB:s.A with
     |none=>rw[hB] at h2;cases h2
     |some c=>
      rw[hB] at h2;exact Or.inl ((show a.block=c.block from Z4 h2)▸hA c hB)
    ·rw[hC] at h2;exact Or.inr ((Z4 h2)▸h3)
  ·obtain⟨x,hx1,hx2⟩:=aau.1 h;exact Or.inl ((hx x hx1).2 g' t hx2)
theorem zn {α:Type}[aj α]{s:Sl α}{N:Nat}{x:α}(hx:x∈s.l)(h:(g,t)∈au.bl x):g∈(own s N).bl:=
 ZA.2 ⟨(g,t),ZL _ (aau.2 ⟨x,hx,h⟩),rfl⟩
theorem Env.Qp {α:Type}[aj α][jy α]{N:Nat}(E:Env b w0 bx is w)(q:Nat){s s':Sl α}(hg:dX w w' s s')(hr:s'.Row w' b)(hn:s'.l.length≤N)(hx:∀x∈s'.l,x∈s.l)(hk:is[q]?=some (own s N):=by rfl)(ht:aj.ty α ∉ jy.tys α:=by decide):Env b w0 bx (is.set q (own s' N)) w':=by
 have hO:=show Sl.Own w b N s from E.get q hk;exact E.I8 q hk hO.1 (fun a ha=>gL ha) hg hr hn (fun x h=>⟨hO.2.2 x (hx x h),fun g t hm=>zn (hx x h) hm⟩) ht
theorem Env.WW {α:Type}[aj α][jy α]{N:Nat}(E:Env b w0 bx is w)(q:Nat){s s':Sl α}{y:α}(hg:dX w w' s s')(hr:s'.Row w' b)(hn:s'.l.length≤N)(hx:∀x∈s'.l,x∈s.l∨x=y)(hk:is[q]?=some (both (own s N) (own y N)):=by rfl)(ht:aj.ty α ∉ jy.tys α:=by decide):Env b w0 bx (is.set q (own s' N)) w':=by
 have hO:=show Sl.Own w b N s∧au.Own w b N y from E.get q hk
 exact E.I8 q hk hO.1.1 (fun a ha=>ZJ _ (gL ha)) hg hr hn (fun x h=>by
  rcases hx x h with h|rfl
  ·exact⟨hO.1.2.2 x h,fun g t hm=>ZJ _ (zn h hm)⟩
  ·exact⟨hO.2,fun g t hm=>ZL _ (ZA.2 ⟨(g,t),hm,rfl⟩)⟩) ht
end
section
variable{α:Type}[aj α] [jy α] {b N:Nat}{w0 w w':World}{bx:List Bx}{is:List It}
theorem Qh (q:Nat){K:Exit→Act→World→Prop}{rest:List Oper}{s:Sl α}{z:α}(E:Env b w0 bx is w)(hA:s.A=some ⟨g,0,none⟩)(hz:s.l[k]?=some z)(z':α)
  (h:Env b w0 bx (is.set q (own (⟨s.A,s.c,s.l.set k z'⟩:Sl α) N)) (w.setCells g (k*aj.sz α+i) vs)→wpList prog ops K rest a (w.setCells g (k*aj.sz α+i) vs))
  (hq:is[q]?=some (own s N)) (hg:o.guard=none) (hd:o.dst=none) (ho:o.op=.store ty x y) (hx:a.eval x=.pointer (some ⟨g,k*aj.sz α+i,none⟩)) (hy:a.eval y=v) (hv:v.cells.toList=vs) (hs:(prog.info? ty).map (·.size)=some vs.length) (h1:vs.all (·.oneCell')=true) (hi:Nat.ble (i+vs.length) (aj.sz α)=true) (hc:aj.cs z'=Env.splice (aj.cs z) i vs)
  (hH:∀w b N,au.Own w b N z→au.Own w b N z') (hB:au.bl z'=au.bl z) (ht:aj.ty α ∉ jy.tys α):wpList prog ops K (o::rest) a w:=by
 have hi:=Nat.le_of_ble_eq_true hi;have hO:=show Sl.Own w b N s from E.get q hq;have hr:s.Row w b:=hO.1;have hk:k<s.l.length:=(Zo.1 hz).1;obtain⟨g',cur,hA',hbg,hK,c1,c2,c3,c4⟩:=hr.parts (by omega);rw[hA] at hA';injection hA' with hA'
 injection hA' with hA'
 subst hA'
 have hle:k*aj.sz α+i+vs.length≤cur.size:=by
  have h2:=ZR (aj.sz α) (show k+1≤s.l.length from hk);have h3:=ZR (aj.sz α) c1;rw[Nat.succ_mul] at h2;omega
 have hth:w.there g (k*aj.sz α+i) vs.length:=fun j hj=>⟨by rw[hK.cell,ZM (by omega)];rfl,hK.frozen _⟩;rw[←hy] at hv;refine wpList_plain hg fun K hK2=>?_;unfold Oper.wp execOp;simp only[ho,hx,aaV,eT hv hth hs h1,aaQ,aaW];refine hK2 _ _ ?_;rw[hd]
 have hgr:dX w (w.setCells g (k*aj.sz α+i) vs) s (.slice s.A (s.l.set k z').length s.c):=by
  rw[hA];exact⟨iC g vs _ w,Or.inl rfl⟩
 refine h (E.I8 (s':=⟨s.A,s.c,s.l.set k z'⟩) q hq hr (fun a ha=>gL ha) hgr (tC hr hA hz hi hc) (by rw[Z7];exact hO.2.1) (fun x hx=>?_) ht);have hzm:=Zk hz
 rcases aat hx with hx|rfl
 ·exact⟨hO.2.2 x hx,fun g t hm=>zn hx hm⟩
 ·exact⟨hH _ _ _ (hO.2.2 z hzm),fun g t hm=>zn hzm (hB▸hm)⟩
theorem Wx (q:Nat){rest:List Oper}{s:Sl α}{z:α}(E:Env b w0 bx is w)(hA:s.A=some ⟨g,0,none⟩)(hz:s.l[k]?=some z)(z':α)
  (h:∀w',Env b w0 bx (is.set q (own (⟨s.A,s.c,s.l.set k z'⟩:Sl α) N)) w'→wpList prog ops Q rest a w')
  (hq:is[q]?=some (own s N):=by rfl) (hg:o.guard=none:=by rfl) (hd:o.dst=none:=by rfl) (ho:o.op=.store ty x y:=by rfl) (hx:a.eval x=.pointer (some ⟨g,k*aj.sz α+i,none⟩):=by rfl) (hy:a.eval y=v:=by go_simp<;>with_reducible rfl) (hv:v.cells.toList=vs:=by simp only[Value.cells,aas]<;>rfl) (hs:(prog.info? ty).map (·.size)=some vs.length:=by kernel_rfl) (h1:vs.all (·.oneCell')=true:=by rfl) (hi:Nat.ble (i+vs.length) (aj.sz α)=true:=by rfl) (hc:aj.cs z'=Env.splice (aj.cs z) i vs:=by rfl)
  (hH:∀w b N,au.Own w b N z→au.Own w b N z':=by exact fun _ _ _ h=>h) (hB:au.bl z'=au.bl z:=by rfl) (ht:aj.ty α ∉ jy.tys α:=by decide):wpList prog ops Q (o::rest) a w:=
 Qh q E hA hz z' (h _) hq hg hd ho hx hy hv hs h1 hi hc hH hB ht
theorem WJ (q:Nat){i':Nat}{rest:List Oper}{n:Nat}{r:List (Nat×Bool)}{s:Sl α}{z:α}(E:Env b w0 bx is w)(hA:s.A=some ⟨g,0,none⟩)(hz:s.l[k]?=some z)(z':α)
  (h:∀w',Env b w0 bx (is.set q (own (⟨s.A,s.c,s.l.set k z'⟩:Sl α) N)) w'→aH prog ops Q (Env b w0 bx0 []) n r a w')
  (hi':ops.toList.drop i'=oi::rest:=by rfl) (hq:is[q]?=some (own s N):=by rfl) (hg:oi.guard=none:=by rfl) (hd:oi.dst=none:=by rfl) (ho:oi.op=.store ty x y:=by rfl) (hx:a.eval x=.pointer (some ⟨g,k*aj.sz α+i,none⟩):=by rfl) (hy:a.eval y=v:=by go_simp<;>with_reducible rfl) (hv:v.cells.toList=vs:=by simp only[Value.cells,aas]<;>rfl) (hs:(prog.info? ty).map (·.size)=some vs.length:=by kernel_rfl) (h1:vs.all (·.oneCell')=true:=by rfl) (hi:Nat.ble (i+vs.length) (aj.sz α)=true:=by rfl) (hc:aj.cs z'=Env.splice (aj.cs z) i vs:=by rfl)
  (hH:∀w b N,au.Own w b N z→au.Own w b N z':=by exact fun _ _ _ h=>h) (hB:au.bl z'=au.bl z:=by rfl) (ht:aj.ty α ∉ jy.tys α:=by decide) (hsb:bx0.Sublist bx:=by first|exact Zi _|exact Zj _ (Zi _)|exact Zj _ (Zj _ (Zi _))):aH prog ops Q (Env b w0 bx0 []) n ((i',true)::r) a w:=by
 refine sN (aL hi') ?_;refine Qh q E hA hz z' (fun E'=>?_) hq hg hd ho hx hy hv hs h1 hi hc hH hB ht;exact⟨E'.sub hsb (Zy _),h _ E'⟩
end
variable{fn:Func}{j1 j2:Nat}{v1 v2:Value}
def fG {α:Type}[aj α](s:Sl α)(N:Nat):It where
 p:=fun b w=>s.Row w b∧s.l.length≤N
 bl:=match s.A with|some a=>[a.block]|none=>[]
 mono:=fun h hb=>⟨aG h.1 hb,h.2⟩
 keep:=fun h hk=>⟨iF h.1 fun g hg=>hk g (by
  cases hA:s.A with
  |none=>rw[hA] at hg;cases hg
  |some a=>rw[hA] at hg;exact Zp.2 (by simpa[Value.ownBlock] using hg.symm)),h.2⟩
 lt:=fun h g hg=>by
  cases hA:s.A with
  |none=>rw[hA] at hg;cases hg
  |some a=>rw[hA] at hg;rw[Zp.1 hg];exact h.1.lt hA
def fB {α:Type}[au α](l:List α)(N:Nat):It where
 p:=fun b w=>∀x∈l,au.Own w b N x
 bl:=(l.flatMap au.bl).map (·.1)
 mono:=fun h hb x hx=>au.aG (h x hx) hb (Zh _)
 keep:=fun h hk x hx=>au.aN (h x hx) fun g t hg=>hk g (ZA.2 ⟨_,aau.2 ⟨x,hx,hg⟩,rfl⟩)
 lt:=fun h g hg=>by
  obtain⟨⟨g',t⟩,hm,rfl⟩:=ZA.1 hg;obtain⟨x,hx,hm⟩:=aau.1 hm;obtain⟨_,cur,hh⟩:=au.dK (h x hx) g' t hm;exact(Z6.1 hh).1
theorem Env.dQ {b:Nat}{w0 w:World}{bx:List Bx}{is:List It}(E:Env b w0 bx is w)(n:Nat)(l:List Nat)(hl:l.Nodup:=by decide)(hn:∀i∈l,i<n:=by decide)(h:l.filterMap (is[·]?)++is.drop n=is':=by first|(simp only[List.filterMap_cons,List.getElem?_cons_zero,List.getElem?_cons_succ,List.filterMap_nil,aax,List.drop_zero,aap,aay]<;>rfl)|rfl):Env b w0 bx is' w:=by
 subst h
 have hm:∀i∈l.filterMap (is[·]?)++is.drop n,i∈is:=fun i hi=>by
  rcases Zm.1 hi with h|h
  ·obtain⟨k,-,hk⟩:=List.mem_filterMap.1 h;exact Zk hk
  ·exact List.mem_of_mem_drop h
 have hc:∀q∈comps bx (l.filterMap (is[·]?)++is.drop n),q∈comps bx is:=fun q hq=>by
  rcases Zm.1 hq with h|h
  ·exact ZJ _ h
  ·obtain⟨i,hi,rfl⟩:=ZA.1 h;exact ZL _ (aaq (hm i hi))
 refine⟨E.aD,E.sz,E.at_,fun i hi=>E.it i (hm i hi),fun q hq=>E.ge q (hc q hq),?_⟩;obtain⟨d1,d2,d3⟩:=List.pairwise_append.1 E.dj
 refine List.pairwise_append.2 ⟨d1,?_,fun a ha c hc'=>d3 a ha c (by
  obtain⟨i,hi,rfl⟩:=ZA.1 hc';exact aaq (hm i hi))⟩
 rw[aag];refine List.pairwise_append.2 ⟨List.pairwise_map.2 (List.pairwise_filterMap.2 (hl.imp fun hne x hx y hy=>E.Yt _ _ hne hx hy)),d2.sublist ((List.drop_sublist _ _).map _),fun a ha c hc'=>?_⟩;obtain⟨x,hx,rfl⟩:=ZA.1 ha;obtain⟨y,hy,rfl⟩:=ZA.1 hc';obtain⟨k,hk,hx⟩:=List.mem_filterMap.1 hx;obtain⟨j,hj⟩:=aaF hy;rw[aaj] at hj;exact E.Yt k (n+j) (by have:=hn k hk;omega) hx hj
theorem CQ {α:Type}{is:List It}{f:α→It}{i j:It}{l:List α}{x:α}(hx:l[k]?=some x):(i::j::(l.map f++is))[k+2]?=some (f x):=by
 simp only[List.getElem?_cons_succ];rw[Z0 (by rw[Z5];exact(Zo.1 hx).1),ZU,hx];rfl
theorem Ck {α:Type}{is:List It}{f:α→It}{i j:It}{l:List α}{x:α}(hk:k<l.length):(i::j::(l.map f++is)).set (k+2) (f x)=i::j::((l.set k x).map f++is):=by
 simp only[aaK];rw[List.set_append_left _ _ (by simpa using hk),List.map_set]
section
variable{α:Type}[aj α] {b N:Nat}{w0 w w':World}{bx:List Bx}{is:List It}
theorem Env.glue {s:Sl α}(E:Env b w0 bx (fG s N::fB s.l N::is) w):Env b w0 bx (own s N::is) w:=
 Env.conv (i:=both (fG s N) (fB s.l N)) E.join 0 (own s N) (fun h=>⟨h.1.1,h.1.2,h.2⟩) fun g hg=>by
  obtain⟨⟨g',t⟩,hm,rfl⟩:=ZA.1 hg
  rcases Zm.1 (show(g',t)∈(match s.A with|some a=>[(a.block,aj.ty α)]|none=>[])++s.l.flatMap au.bl from hm) with h|h
  ·refine ZJ _ ?_;show g'∈(match s.A with|some a=>[a.block]|none=>[]);cases hA:s.A with
   |none=>rw[hA] at h;cases h
   |some a=>rw[hA] at h;simp only[Zu,ZF,or_false,ZV] at h;rw[h.1];exact Zp.2 rfl
  ·exact ZL _ (ZA.2 ⟨_,h,rfl⟩)
theorem Env.VH (E:Env b w0 bx is w):Env b w0 bx (fB ([]:List α) N::is) w:=E.gG (aaO _ _) _ (fun x hx=>by cases hx) (fun g hg=>by cases hg)
theorem Env.Tk {l:List α}{y:α}(E:Env b w0 bx (own y N::fB l N::is) w):Env b w0 bx (fB (l++[y]) N::is) w:=
 Env.conv (i:=both (own y N) (fB l N)) E.join 0 (fB (l++[y]) N) (fun h x hx=>by
  rcases Zm.1 hx with hx|hx
  ·exact h.2 x hx
  ·rw[Zp.1 hx];exact h.1) fun g hg=>by
  obtain⟨⟨g',t⟩,hm,rfl⟩:=ZA.1 hg;rw[List.flatMap_append] at hm
  rcases Zm.1 hm with h|h
  ·exact ZL _ (ZA.2 ⟨_,h,rfl⟩)
  ·rw[ZQ,List.flatMap_nil,aak] at h;exact ZJ _ (ZA.2 ⟨_,h,rfl⟩)
theorem Env.Ms {s:Sl α}(E:Env b w0 bx is w)(q:Nat){x:α}(hA:s.A=some ⟨g,0,none⟩)(hx:s.l[k]?=some x)(hu:(aj.cs x)[i]?=some u)(hq:is[q]?=some (fG s N):=by rfl):w.cell? ⟨g,k*aj.sz α+i,none⟩=some u:=by
 obtain⟨g',cur,h1,-,-,h4⟩:=(show s.Row w b∧s.l.length≤N from E.get q hq).1.at_ hx;rw[hA] at h1;injection h1 with h1
 injection h1 with h1
 subst h1;exact h4 i u hu
theorem Env.Cu (E:Env b w0 bx is w)(q:Nat){i:It}(hk:is[q]?=some i:=by rfl):Env b w0 bx (i::(is.take q++is.drop (q+1))) w:=E.perm (by
 conv=>lhs;rw[Env.oQ is q i hk]
 exact List.perm_middle)
theorem Env.J2 {q:Nat}{i:It}(E:Env b w0 bx (i::(is.take q++is.drop (q+1))) w)(h:q<is.length):Env b w0 bx (is.set q i) w:=E.perm (by
 rw[List.set_eq_take_append_cons_drop,aaS h];exact List.perm_middle.symm)
theorem Ii {rest:List Oper}{a:Act}{n:Nat}{r:List (Nat×Bool)}{s:Sl α}(N':Nat)(y:Sl α)(E:Env b w0 bx (own s N::is0) w)(hy:Reads w w (aj.sz α) y.A y.l.length y.row)(hn:s.l.length+y.l.length≤N')(hN:N'≤1000000)
  (h:∀(s':Sl α) w',Hid (s'.l=s.l++y.l)→Env b w0 bx (own s' N'::is0) w'→aH prog ops Q (Env b w0 bx0 is0) n r (a.put oi.dst (.slice s'.A s'.l.length s'.c)) w')
  (hi:ops.toList.drop i=oi::rest:=by rfl) (hgd:oi.guard=none:=by rfl) (hT:T=aj.sty α:=by rfl) (ho:oi.op=.call { callee:=.builtin .append,args:=#[sl,x],argTypes:=#[T,T] }:=by rfl) (hs:a.eval sl=s:=by rfl) (hx:a.eval x=y:=by rfl) (hf:∀(x:α) (w:World) (b N:Nat),au.Own w b N x∧au.bl x=[]:=by exact fun _ _ _ _=>⟨trivial,rfl⟩) (hsb:bx0.Sublist bx:=by first|exact Zi _|exact Zj _ (Zi _)|exact Zj _ (Zj _ (Zi _))|exact Zj _ (Zj _ (Zj _ (Zi _)))):aH prog ops Q (Env b w0 bx0 is0) n ((i,true)::r) a w:=by
 refine sN (aL hi) ?_;have hr:=(show Sl.Own w b N s from E.get 0 rfl).1;refine Sl.app hgd sl x T hT ho b s hs hr w y hx hy (by omega) E.sz fun s' w' h1 h2 h3=>?_;have E':=E.mG (s':=s') (N':=N') 0 rfl h3 h2 (by rw[h1,Zn];exact hn) hf;exact⟨E'.sub hsb (Zj _ (Zi _)),h s' w' (L_ h1) E'⟩
theorem Env.joinL:∀(l:List α) {is:List It},Env b w0 bx (l.map (fun x=>own x N)++is) w→Env b w0 bx (fB l N::is) w
 |[],_,E=>E.VH
 |x::l,is,E=>by
  have E2:Env b w0 bx (own x N::(l.map (fun x=>own x N)++is)) w:=E;have E3:=Env.joinL l (E2.perm (is':=l.map (fun x=>own x N)++(own x N::is)) List.perm_middle.symm)
  exact Env.conv (i:=both (fB l N) (own x N)) E3.join 0 (fB (x::l) N) (fun h y hy=>by
   rcases Zu.1 hy with rfl|hy
   ·exact h.2
   ·exact h.1 y hy) fun g hg=>by
   obtain⟨⟨g',t⟩,hm,rfl⟩:=ZA.1 hg;rw[ZQ] at hm
   rcases Zm.1 hm with h|h
   ·exact ZL _ (ZA.2 ⟨_,h,rfl⟩)
   ·exact ZJ _ (ZA.2 ⟨_,h,rfl⟩)
theorem Ze {P:Program}{fn:FuncId}(C:∀(s:Sl α) (w:World) (B:Nat),Reads w B (aj.sz α) s.A s.l.length s.row→B≤w.heap.size→s.l.length≤1000000000→Calls P fn #[s] w fun e w'=>∃s':Sl α,e=.returned s'∧s'.l=s.l∧s'.Row w' w.heap.size∧Below w w w')
  (E:Env b w0 bx is w) {s:Sl α} (h:Sl.aA w0 b N s) (hN:N≤1000000:=by omega):Calls P fn #[s] w fun e w'=>∃r:Sl α,e=.returned r∧Hid (r.l=s.l)∧Env b w0 bx (fG r N::is) w':=
 (C s w b (h.below E.aD).1 E.sz (by have:=h.2.2.2.1;omega)).mono fun e w' ⟨r,he,hl,hr,hb⟩=>⟨r,he,L_ hl,E.gG hb (fG r N) ⟨hr,by rw[hl];exact h.2.2.2.1⟩ fun g hg=>by
  cases hA:r.A with
  |none=>simp only[fG,hA] at hg;cases hg
  |some a=>simp only[fG,hA] at hg;rw[Zp.1 hg];exact(hr.iD hA).1⟩
theorem AA (q:Nat){rest:List Oper}{a:Act}{s:Sl α}{z:α}(E:Env b w0 bx is w)(hA:s.A=some ⟨g,0,none⟩)(hz:s.l[k]?=some z)(z':α)
  (h:∀w',Env b w0 bx (is.set q (fG (⟨s.A,s.c,s.l.set k z'⟩:Sl α) N)) w'→wpList prog ops Q rest a w')
  (hq:is[q]?=some (fG s N):=by rfl) (hg:o.guard=none:=by rfl) (hd:o.dst=none:=by rfl) (ho:o.op=.store ty x y:=by rfl) (hx:a.eval x=.pointer (some ⟨g,k*aj.sz α+i,none⟩):=by rfl) (hy:a.eval y=v:=by go_simp<;>with_reducible rfl) (hv:v.cells.toList=vs:=by simp only[Value.cells,aas]<;>rfl) (hs:(prog.info? ty).map (·.size)=some vs.length:=by kernel_rfl) (h1:vs.all (·.oneCell')=true:=by rfl) (hi:Nat.ble (i+vs.length) (aj.sz α)=true:=by rfl) (hc:aj.cs z'=Env.splice (aj.cs z) i vs:=by rfl):wpList prog ops Q (o::rest) a w:=by
 have hi:=Nat.le_of_ble_eq_true hi;have hO:=show s.Row w b∧s.l.length≤N from E.get q hq;have hr:s.Row w b:=hO.1;have hk:k<s.l.length:=(Zo.1 hz).1;obtain⟨g',cur,hA',hbg,hK,c1,c2,c3,c4⟩:=hr.parts (by omega);rw[hA] at hA';injection hA' with hA'
 injection hA' with hA'
 subst hA'
 have hle:k*aj.sz α+i+vs.length≤cur.size:=by
  have h2:=ZR (aj.sz α) (show k+1≤s.l.length from hk);have h3:=ZR (aj.sz α) c1;rw[Nat.succ_mul] at h2;omega
 have hth:w.there g (k*aj.sz α+i) vs.length:=fun j hj=>⟨by rw[hK.cell,ZM (by omega)];rfl,hK.frozen _⟩;rw[←hy] at hv;refine wpList_plain hg fun K hK2=>?_;unfold Oper.wp execOp;simp only[ho,hx,aaV,eT hv hth hs h1,aaQ,aaW];refine hK2 _ _ ?_;rw[hd];have hb:(fG s N).bl=[g]:=by simp only[fG,hA]
 refine h _ (E.row q hq (iC g vs (k*aj.sz α+i) w) (fun g' e=>by rw[hb];exact Zp.2 (Z4 e).symm) (show Sl.Row _ b _∧_ from⟨tC hr hA hz hi hc,by rw[Z7];exact hO.2⟩) fun g' hg'=>Or.inl ?_);rw[hb];simpa only[fG,hA] using hg'
end
section
variable{P:Program}{a:Act}{b:Nat}{w0 w:World}{bx:List Bx}{is:List It}
theorem QE (k:Nat){cs:List Value}(E:Env b w0 bx is w)(hk:bx[k]?=some (g,t,cs))(hu:bq P ty=false)(hs:(P.info? ty).map (·.size)=some cs.length)(hn:(P.underlying ty).isSome=true):(loadVar ty ⟨g,0,none⟩).run P w=.ok (.agg cs.toArray) w:=by
 obtain⟨d,hn⟩:=aan.1 hn;exact run_loadVar_mid w g 0 ty cs d (fun q u hq=>by rw[E.cell k hk];simpa using hq) hn (by simpa[bq,hn] using hu) hs
theorem nI (k:Nat){cs:List Value}(E:Env b w0 bx is w)(h:R (.returned (.agg cs.toArray)) w)(hr:fn.results=#[.cell i ty]:=by rfl)(hd:a.defers=[]:=by rfl)(hx:a.tmps[i]?.getD undef=.pointer (some ⟨g,0,none⟩):=by rfl)(hk:bx[k]?=some (g,t,cs):=by rfl)(hu:bq P ty=false:=by kernel_rfl)(hs:(P.info? ty).map (·.size)=some cs.length:=by kernel_rfl)(hn:(P.underlying ty).isSome=true:=by kernel_rfl):bodyPost P fn R .ret a w:=
 aaT (v:=.agg cs.toArray) (by simp[results,hr,hx,asAddr,QE k E hk hu hs hn]) hd h
theorem mQ (k:Nat){cs:List Value}(E:Env b w0 bx is w)(h:R (.returned (.tuple #[.agg cs.toArray,v1,v2])) w)(hr:fn.results=#[.cell i ty,.tmp j1,.tmp j2]:=by rfl)(hd:a.defers=[]:=by rfl)(hx:a.tmps[i]?.getD undef=.pointer (some ⟨g,0,none⟩):=by rfl)(h1:a.tmps[j1]?.getD undef=v1:=by rfl)(h2:a.tmps[j2]?.getD undef=v2:=by rfl)(hk:bx[k]?=some (g,t,cs):=by rfl)(hu:bq P ty=false:=by kernel_rfl)(hs:(P.info? ty).map (·.size)=some cs.length:=by kernel_rfl)(hn:(P.underlying ty).isSome=true:=by kernel_rfl):bodyPost P fn R .ret a w:=
 aaT (v:=.tuple #[.agg cs.toArray,v1,v2]) (by simp[results,hr,hx,h1,h2,asAddr,QE k E hk hu hs hn]) hd h
end
variable{F0:Nat}
section
attribute [local irreducible] wpList av
def Found {α:Type}(R:α→Bool→Prop)(l:List α)(y:Int):Prop:=(y=-1∧∀x∈l,R x false)∨∃(k:Nat) (x:α),y=(k:Int)∧l[k]?=some x∧R x true∧∀j z,j<k→l[j]?=some z→R z false
theorem Found.ge {R:α→Bool→Prop}{l:List α}{y:Int}(h:Found R l y):-1≤y∧y<(l.length:Int):=by
 rcases h with ⟨rfl,_⟩|⟨k,x,rfl,hk,_⟩
 ·omega
 ·have:=(Zo.1 hk).1;omega
def vM (α:Type)[aj α](V:α→Value)(F:Nat):Prop:=∀(s:Sl α) (R:α→Bool→Prop) (g:Nat) (eg:∀args w,(callFunc g args).run prog w=.ok (.enter g args) w) (C:Array Value) (w:World) (N:Nat) (h:s.aA w w N) (hN:N≤1000000000)
  (hf:∀x∈s.l,∀w',Below w.heap.size w w'→Calls prog g (#[V x]++C) w' fun e w''=>∃b,e=.returned (.bool b)∧R x b∧Below w'.heap.size w' w''),
  Calls prog F #[s,.func (.func g) #[] C] w fun e w'=>∃y:Int,e=.returned y∧Found R s.l y∧Below w w w'
theorem Hz {R:α→Bool→Prop}{l:List α}{x:α}(hx:l[k]?=some x)(hr:R x true)(hz:∀j z,j<k→l[j]?=some z→R z false):Found R l (k:Int):=Or.inr ⟨k,x,rfl,hx,hr,hz⟩
theorem Gt {R:α→Bool→Prop}{l:List α}(hk:¬k<l.length)(hz:∀j z,j<k→l[j]?=some z→R z false):Found R l (-1):=Or.inl ⟨rfl,fun x hx=>by
 obtain⟨j,hj,e⟩:=aaC hx;exact hz j x (by omega) (by rw[Zl hj,e])⟩
theorem Hf {R:α→Bool→Prop}{l:List α}{x:α}(hx:l[k]?=some x)(hr:R x false)(hz:∀j z,j<k→l[j]?=some z→R z false):∀j z,j<k+1→l[j]?=some z→R z false:=fun j z hj hz2=>by
 rcases aaA j k with h|h
 ·exact hz j z h hz2
 ·obtain rfl:j=k:=by omega
  have e:=hx.symm.trans hz2;injection e with e
  subst e;exact hr
theorem tZ [aj α](V:α→Value)(F:Nat){n:Nat}(hF:prog.funcs[F]?=some fn)(hn:fn.ntmps=n)(h:prog.funcs[F]?=some fn→fn.ntmps=n→vM α V F:=by
 intro hF hn s R g eg C w N h hN hf;obtain⟨A,c,l⟩:=s;have H:=L_ h;have HF:=L_ hf;have hnl:l.length≤1000000000:=Zt h.2.2.2.1 hN;clear h hf;have E:=Env.start w
 go_enter hF,hn
 refine G0 [5,0,4,6,5,84,4,19] ?_
 go_loopw [8] (fun y wr=>∃k:Nat,y=(k:Int)∧k≤l.length∧Env w w [] [] wr∧Hid (∀j z,j<k→l[j]?=some z→R z false)) (fun y _=>l.length - (intOf y).toNat)
 case atStart=>exact⟨0,rfl,Zq _,E,L_ (fun j z hj=>by omega)⟩
 case round=>
  clear E;obtain⟨k,rfl,hk,E,HZ⟩:=hrel;have hw:IntKind.i64.wrap ((k:Int)+1)=((k+1:Nat):Int):=by rw[aaP _ (by omega)];rfl
  by_cases hlt:k<l.length
  case pos=>
   refine G0 [5,0,4,16] ?_;obtain⟨bb,off,x,hA,hbl,hx,hcc,_⟩:=(H.below E.aD).get (k:=k) hlt;simp only at hA;subst hA;replace hx:=L_ hx;have hcf:=HF x (Zk hx) _ E.aD;replace hcf:=L_ hcf;replace hcc:=L_ hcc;refine G0 [15,18,5,0,0,4,5,84,0] ?_
   first|(refine fA (aj.cs x) (fun i u hu=>hcc i u hu) ?_;dsimp only[aj.cs])|(have hc0:=hcc 0 _ rfl;simp only[aj.sz,Nat.mul_one,Nat.add_zero] at hc0;refine bQ hc0 ?_)
   refine ah (hcf) ?_;rintro _ w2 ⟨q,rfl,hq,hb⟩;replace E:=E.up hb;clear hb;replace hq:=L_ hq;refine G0 [26] ?_;cases q
   case true=>
    refine G0 [4,7,5,0,0,4,22,24] ?_;exact ak ⟨(k:Int),rfl,Hz hx hq HZ,E.aD⟩
   case false=>
    refine G0 [4,8,21,23,0,0,25] ?_
    go_roundw
    case rel=>exact⟨k+1,by go_num,by omega,E,L_ (Hf hx hq HZ)⟩
    case measure=>simp[intOf];omega
  case neg=>
   refine G0 [5,0,4,17,27,28,5,0,4,22] ?_;exact ak ⟨-1,rfl,Gt hlt HZ,E.aD⟩
 ):vM α V F:=h hF hn
theorem Lr {R:α→Bool→Prop}{l:List α}{y:Int}(h:Found R l y)(h0:0≤y):∃x∈l,R x true:=by
 rcases h with ⟨rfl,_⟩|⟨k,x,rfl,hk,hr,_⟩
 ·omega
 ·exact⟨x,Zk hk,hr⟩
theorem Py {R:α→Bool→Prop}{l:List α}{y:Int}(h:Found R l y)(h0:¬0≤y):∀x∈l,R x false:=by
 rcases h with ⟨rfl,h⟩|⟨k,x,rfl,hk,hr,_⟩
 ·exact h
 ·omega
def DR (α:Type)[aj α](V:α→Value)(F:Nat):Prop:=∀(s:Sl α) (R:α→Bool→Prop) (g:Nat) (eg:∀args w,(callFunc g args).run prog w=.ok (.enter g args) w) (C:Array Value) (w:World) (N:Nat) (h:s.aA w w.heap.size N) (hN:N≤1000000000)
  (hf:∀x∈s.l,∀w',Below w.heap.size w w'→Calls prog g (#[V x]++C) w' fun e w''=>∃b,e=.returned (.bool b)∧R x b∧Below w'.heap.size w' w''),
  Calls prog F #[s,.func (.func g) #[] C] w fun e w'=>∃b,e=.returned (.bool b)∧(b=false→∀x∈s.l,R x false)∧(b=true→∃x∈s.l,R x true)∧Below w w w'
theorem Ao [aj α]{V:α→Value}(F:Nat)(h0:vM α V F0){n:Nat}(hF:prog.funcs[F]?=some fn)(hn:fn.ntmps=n)(h:vM α V F0→prog.funcs[F]?=some fn→fn.ntmps=n→DR α V F:=by
 intro h0 hF hn s R g eg C w N h hN hf;have HSL:=L_ (Zt h.2.2.2.1 hN);have H:=L_ (h0 s R g eg C w N h hN hf);clear h hf h0;have E:=Env.start w
 go_enter hF,hn
 refine G0 [5,0,4,5,0,0] ?_;refine ah (H) ?_;rintro _ w2 ⟨y,rfl,hy,hb⟩;replace E:=E.up hb;clear hb;replace hy:=L_ hy;have hsl:=HSL.out;have hy1:=hy.ge;refine G0 [26] ?_
 by_cases h0:(0:Int)≤y
 case pos=>
  refine G0 [0,0,4,22] ?_;exact ak ⟨true,rfl,fun h=>(by cases h),fun _=>Lr hy h0,E.aD⟩
 case neg=>
  refine G0 [0,0,4,22] ?_;exact ak ⟨false,rfl,fun _=>Py hy h0,fun h=>(by cases h),E.aD⟩
 ):DR α V F:=h h0 hF hn
theorem Aa:vM Int (fun x=>.int .i64 x) 85:=tZ _ _ func85 ntmps85
theorem mH:DR Int (fun x=>.int .i64 x) 38:=Ao _ Aa func38 ntmps38
theorem j6:vM ByteArray (fun x=>.string x) 259:=tZ _ _ func259 ntmps259
theorem nR:DR ByteArray (fun x=>.string x) 175:=Ao _ j6 func175 ntmps175
theorem zX:vM gT (fun x=>.agg #[.slice x.r.A x.r.l.length x.r.c,.slice x.m.A x.m.l.length x.m.c]) 84:=tZ _ _ func84 ntmps84
theorem uV:DR gT (fun x=>x) 36:=Ao _ zX func36 ntmps36
theorem zI:vM bS (fun x=>.agg #[.int .i64 x.f,.int .i64 x.t,.int .u8 x.k,.int .i64 x.g,.int .i64 x.s,.int .i64 x.b,.int .i64 x.p,.string x.v,.int .i64 x.i,.int .i64 x.tm]) 94:=tZ _ _ func94 ntmps94
theorem uP:DR bS (fun x=>x) 45:=Ao _ zI func45 ntmps45
theorem Ag:vM rF (fun x=>.agg #[.int .i64 x.n,.int .i64 x.b,.string x.v]) 314:=tZ _ _ func314 ntmps314
theorem uH:DR rF (fun x=>x) 286:=Ao _ Ag func286 ntmps286
theorem zU:vM zx (fun x=>.agg #[.int .i64 x.t,.int .i64 x.i]) 307:=tZ _ _ func307 ntmps307
theorem vD:DR zx (fun x=>x) 275:=Ao _ zU func275 ntmps275
theorem zF:vM dZ (fun x=>.agg #[.int .i64 x.me,.int .i64 x.num,.slice x.g.r.A x.g.r.l.length x.g.r.c,.slice x.g.m.A x.g.m.l.length x.g.m.c,.slice x.log.A x.log.l.length x.log.c,.slice x.vs.A x.vs.l.length x.vs.c,.int .u8 x.t.ph,.int .i64 x.t.b,.slice x.t.mem.A x.t.mem.l.length x.t.mem.c,.string x.t.wi,.string x.t.va,.slice x.t.pr.A x.t.pr.l.length x.t.pr.c,.slice x.t.ac.A x.t.ac.l.length x.t.ac.c,.slice x.wi.A x.wi.l.length x.wi.c,.int .i64 x.hd]) 189:=tZ _ _ func189 ntmps189
theorem Ac:vM mM (fun x=>.agg #[.int .i64 x.i,.int .i64 x.g,.int .i64 x.t]) 258:=tZ _ _ func258 ntmps258
theorem zR:vM dI (fun x=>.agg #[.int .i64 x.m.i,.slice x.m.g.A x.m.g.l.length x.m.g.c,.int .i64 x.m.t,.string x.m.key,.string x.m.body,.int .i64 x.t,.bool x.f]) 250:=tZ _ _ func250 ntmps250
end
end Go.Proofs.YtaebfkcgdmodlaaGreatDoor
