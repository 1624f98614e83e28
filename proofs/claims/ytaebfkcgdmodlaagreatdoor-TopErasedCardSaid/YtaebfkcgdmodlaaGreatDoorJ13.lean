/-
  A part of the proof that the erased node of towncrier reads nothing (TopErased).
-/
import Derived.Test.YtaebfkcgdmodlaaGreatDoorJ02
namespace Go.Proofs.YtaebfkcgdmodlaaGreatDoor
open Go.RowKit Go.Proofs.Tryz
set_option maxHeartbeats 16000000
set_option maxRecDepth 100000
set_option linter.unusedVariables false
set_option linter.unusedSimpArgs false
variable{a:Act}{ops:Array Oper}{Q:Exit→Act→World→Prop}{bx0:List Bx}{N' i:Nat}{oi:Oper}{sl x:Operand}{β γ:Type}{T:TypeId}
section
variable{α:Type}[aj α] {b N:Nat}{w0 w w':World}{bx:List Bx}{is:List It}
theorem Ew {s:Sl α}{a:Addr}(h:s.A=some a):a.block∈(fG s N).bl:=by
 show a.block∈(match s.A with|some a=>[a.block]|none=>[]);rw[h];exact Zp.2 rfl
theorem Env.V4 (E:Env b w0 bx is w)(k:Nat){s s':Sl α}(hk:is[k]?=some (fG s N))(hg:dX w w' s s')(hr:s'.Row w' b)(hn:s'.l.length≤N'):Env b w0 bx (is.set k (fG s' N')) w':=by
 refine E.row k hk hg.1 (fun g e=>?_) (show s'.Row w' b∧s'.l.length≤N' from⟨hr,hn⟩) fun g hm=>?_
 ·cases hA:s.A with
  |none=>rw[hA] at e;cases e
  |some a=>rw[hA] at e;exact(Z4 e)▸Ew hA
 ·have hm2:g∈(match s'.A with|some a=>[a.block]|none=>[]):=hm;cases hA:s'.A with
  |none=>rw[hA] at hm2;cases hm2
  |some a=>
   rw[hA] at hm2;rw[Zp.1 hm2]
   rcases hg.2 with h|⟨q,h,hq⟩
   ·rw[hA] at h;cases hB:s.A with
    |none=>rw[hB] at h;cases h
    |some c=>rw[hB] at h;exact Or.inl ((show a.block=c.block from Z4 h)▸Ew hB)
   ·rw[hA] at h;exact Or.inr ((Z4 h)▸hq)
theorem Ux (k:Nat){rest:List Oper}{n:Nat}{r:List (Nat×Bool)}{s:Sl α}(N':Nat)(y:Sl α)(E:Env b w0 bx is w)(hy:Reads w w (aj.sz α) y.A y.l.length y.row)(hn:s.l.length+y.l.length≤N')(hN:N'≤1000000)
  (h:∀(s':Sl α) w',Hid (s'.l=s.l++y.l)→Env b w0 bx (is.set k (fG s' N')) w'→aH prog ops Q (Env b w0 bx0 []) n r (a.put oi.dst (.slice s'.A s'.l.length s'.c)) w')
  (hi:ops.toList.drop i=oi::rest:=by rfl) (hk:is[k]?=some (fG s N):=by rfl) (hgd:oi.guard=none:=by rfl) (hT:T=aj.sty α:=by rfl) (ho:oi.op=.call { callee:=.builtin .append,args:=#[sl,x],argTypes:=#[T,T] }:=by rfl) (hs:a.eval sl=s:=by rfl) (hx:a.eval x=y:=by rfl) (hsb:bx0.Sublist bx:=by first|exact Zi _|exact Zj _ (Zi _)|exact Zj _ (Zj _ (Zi _))|exact Zj _ (Zj _ (Zj _ (Zi _)))):aH prog ops Q (Env b w0 bx0 []) n ((i,true)::r) a w:=by
 refine sN (aL hi) ?_;have hr:s.Row w b:=(show s.Row w b∧s.l.length≤N from E.get k hk).1;refine Sl.app hgd sl x T hT ho b s hs hr w y hx hy (by omega) E.sz fun s' w' h1 h2 h3=>?_;have E':=E.V4 k hk h3 h2 (by rw[h1,Zn];exact hn);exact⟨E'.sub hsb (Zy _),h s' w' (L_ h1) E'⟩
end
section
variable{b N V:Nat}{w0 w w':World}{bx:List Bx}{is:List It}
theorem Env.SQ [au β](f:γ→β):∀(l:List γ) {is:List It},Env b w0 bx (l.map (fun x=>own (f x) V)++is) w→Env b w0 bx (fB (l.map f) V::is) w
 |[],is,E=>E.gG (aaO _ _) (fB ([]:List β) V) (fun x hx=>by cases hx) (fun g hg=>by cases hg)
 |x::l,is,E=>by
  have E2:Env b w0 bx (own (f x) V::(l.map (fun x=>own (f x) V)++is)) w:=E;have E3:=Env.SQ f l (E2.perm (is':=l.map (fun x=>own (f x) V)++(own (f x) V::is)) List.perm_middle.symm)
  exact Env.conv (i:=both (fB (l.map f) V) (own (f x) V)) E3.join 0 (fB ((x::l).map f) V) (fun h y hy=>by
   rcases Zu.1 hy with rfl|hy
   ·exact h.2
   ·exact h.1 y hy) fun g hg=>by
   obtain⟨⟨g',t⟩,hm,rfl⟩:=ZA.1 hg;rw[List.map_cons,ZQ] at hm
   rcases Zm.1 hm with h|h
   ·exact ZL _ (ZA.2 ⟨_,h,rfl⟩)
   ·exact ZJ _ (ZA.2 ⟨_,h,rfl⟩)
end
end Go.Proofs.YtaebfkcgdmodlaaGreatDoor
