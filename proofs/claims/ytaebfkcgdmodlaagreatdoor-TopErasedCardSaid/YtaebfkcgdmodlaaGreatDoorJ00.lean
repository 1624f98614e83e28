/-
  A part of the proof that the erased node of towncrier reads nothing (TopErased).
-/
import Derived.Test.YtaebfkcgdmodlaaGreatDoorProg
import Derived.WalkKit
import Derived.WalkSpells
import Derived.WalkLawsBesides
import Derived.Below
import Derived.Laws.OwnMore
import Derived.Laws.Rows
import Derived.Deep.AppendLies
import Derived.Deep.Draws
import Derived.Deep.OwnRows
import Derived.Deep.QuietTactic
import Derived.BigQuiet
import Derived.Maps.AppendAt
import Derived.RegionTactic
import Derived.OwnWalk
import Derived.IntWalk
import Derived.Lib.Hide
import Derived.Lib.AppendStr
import Derived.Lib.ConvBytes
import Derived.Laws.BytesArg
import Derived.Lib.SmallJoins
import Derived.ProofKit
import Derived.OpenShut
import Derived.ShutString
import Derived.Orders
import Derived.StillTail
import Derived.OrdersHeld
import Derived.Deep.MidRow
namespace Go.Proofs.YtaebfkcgdmodlaaGreatDoor
open Go.RowKit Go.Proofs.Tryz
set_option maxHeartbeats 16000000
set_option maxRecDepth 100000
set_option linter.unusedVariables false
set_option linter.unusedSimpArgs false
variable{a:Act}{K:Act→World→Prop}{p:Addr}{ops:Array Oper}{Q:Exit→Act→World→Prop}{b base' cap g' k:Nat}{o:Oper}{E T dst src t':TypeId}{u v v':Value}{W w1:World}
theorem L_ {p:Prop}(h:p):Go.RowKit.Hid p:=Lib.hid h
abbrev Zh:=@Nat.le_refl
abbrev Zi:=@List.Sublist.refl
abbrev Zj:=@List.Sublist.cons
abbrev Zk:=@List.mem_of_getElem?
abbrev Zl:=@List.getElem?_eq_getElem
abbrev Zm:=@List.mem_append
abbrev Zn:=@List.length_append
abbrev Zo:=@List.getElem?_eq_some_iff
abbrev Zp:=@List.mem_singleton
abbrev Zq:=@Nat.zero_le
abbrev Zr:=@Bool.and_eq_true
abbrev Zt:=@Nat.le_trans
abbrev Zu:=@List.mem_cons
abbrev Zv:=@List.mem_cons_of_mem
abbrev Zw:=@List.length_take
abbrev Zx:=@decide_eq_true_eq
abbrev Zy:=@List.nil_sublist
abbrev Zz:=@List.take_of_length_le
abbrev ZA:=@List.mem_map
abbrev ZB:=@Nat.mul_one
abbrev ZC:=@List.mem_cons_self
abbrev ZE:=@decide_eq_false
abbrev ZF:=@List.not_mem_nil
abbrev ZG:=@decide_eq_true
abbrev ZH:=@Option.some.injEq
abbrev ZI:=@List.length_cons
abbrev ZJ:=@List.mem_append_left
abbrev ZK:=@List.length_drop
abbrev ZL:=@List.mem_append_right
abbrev ZM:=@Array.getElem?_eq_getElem
abbrev ZN:=@List.append_assoc
abbrev ZO:=@Array.length_toList
abbrev ZP:=@List.take_add_one
abbrev ZQ:=@List.flatMap_cons
abbrev ZR:=@Nat.mul_le_mul_right
abbrev ZU:=@List.getElem?_map
abbrev ZV:=@Prod.mk.injEq
abbrev ZW:=@List.Perm.swap
abbrev ZX:=@beq_eq_false_iff_ne
abbrev ZY:=@List.eq_nil_of_length_eq_zero
abbrev Z0:=@List.getElem?_append_left
abbrev Z4:=@Option.some.inj
abbrev Z5:=@List.length_map
abbrev Z6:=@Array.getElem?_eq_some_iff
abbrev Z7:=@List.length_set
abbrev Z8:=@List.getElem?_append_right
abbrev Z9:=@Int.toNat_natCast
abbrev aac:=@List.take_append_of_le_length
abbrev aad:=@Option.map_some
abbrev aae:=@of_decide_eq_true
abbrev aaf:=@Nat.min_eq_left
abbrev aag:=@List.map_append
abbrev aah:=@Nat.zero_add
abbrev aai:=@List.length_nil
abbrev aaj:=@List.getElem?_drop
abbrev aak:=@List.append_nil
abbrev aal:=@Nat.lt_of_lt_of_le
abbrev aam:=@List.all_eq_true
abbrev aan:=@Option.isSome_iff_exists
abbrev aao:=@Nat.eq_zero_or_pos
abbrev aap:=@List.cons_append
abbrev aaq:=@List.mem_map_of_mem
abbrev aar:=@beq_iff_eq
abbrev aas:=@List.toList_toArray
abbrev aat:=@List.mem_or_eq_of_mem_set
abbrev aau:=@List.mem_flatMap
abbrev aav:=@List.getElem?_take
abbrev aaw:=@List.take_succ_cons
abbrev aax:=@List.drop_succ_cons
abbrev aay:=@List.nil_append
abbrev aaz:=@Option.toList_some
abbrev aaA:=@Nat.lt_or_ge
abbrev aaB:=@List.take_append_drop
abbrev aaC:=@List.getElem_of_mem
abbrev aaD:=@Prod.mk.inj
abbrev aaE:=@List.mem_of_mem_take
abbrev aaF:=@List.getElem?_of_mem
abbrev aaG:=@List.isEmpty_iff
abbrev aaH:=@List.getElem?_set
instance:Coe Int Value:=⟨fun x=>.int .i64 x⟩
instance:Coe Bool Value:=⟨fun x=>.bool x⟩
instance:Coe ByteArray Value:=⟨fun x=>.string x⟩
instance:Coe Unit Value:=⟨fun _=>.slice none 0 0⟩
instance:Coe World Nat:=⟨fun w=>w.heap.size⟩
instance:Coe Unit Ending:=⟨fun _=>.returned (.tuple #[])⟩
instance:Coe Nat Value:=⟨fun p=>.pointer (some ⟨p,0,none⟩)⟩
abbrev aaI:=@List.setIfInBounds_toArray
theorem aaJ {α:Type}{a b:α}{l:List α}:(a::l).set 0 b=b::l:=rfl
theorem aaK {α:Type}{a b:α}{l:List α}{i:Nat}:(a::l).set (i+1) b=a::l.set i b:=rfl
abbrev aaL (l:List Nat):List (Nat×Bool):=l.map fun n=>(n,false)
abbrev aaN (l:List Nat):List (Nat×Bool):=l.map fun n=>(n,true)
abbrev aaM:Value:=undef
abbrev aaO:=@Below.refl
abbrev aaP:=@IntWalk.i64_in
abbrev aaQ:=@Result.andThen_ok
abbrev aaR:=@if_neg
abbrev aaS:=@if_pos
abbrev aaT:=@bodyPost_ret
abbrev aaU:=@World.ownsRow_nil
abbrev aaV:=@Sem.run_bind
abbrev aaW:=@Sem.run_pure
theorem kD (a:Addr)(n:Nat):(a.add n).block=a.block:=by unfold Addr.add;split<;>rfl
theorem Gy (a:Addr)(i j:Nat):(a.add i).add j=a.add (i+j):=by
 unfold Addr.add
 by_cases hi:i=0<;>by_cases hj:j=0<;>simp[hi,hj,Nat.add_assoc]
def Reads (w:World)(B size:Nat)(A:Option Addr)(n:Nat)(xs:List Value):Prop:=
 xs.length=n*size∧(0<n→∃ad,A=some ad∧ad.block<B∧∀j u,xs[j]?=some u→w.cell? (ad.add j)=some u)
section
variable{w w':World}{B B' size n:Nat}{A:Option Addr}{xs:List Value}
theorem Reads.none_:Reads w B size A 0 []:=⟨by simp,fun h=>absurd h (by omega)⟩
theorem Reads.at_ (h:Reads w B 1 A n xs)(hk:k<n):∃ad u,A=some ad∧ad.block<B∧xs[k]?=some u∧w.cell? (ad.add k)=some u:=by
 obtain⟨ad,e,hb,hc⟩:=h.2 (by omega);have hl:k<xs.length:=by have:=h.1;omega
 exact⟨ad,xs[k],e,hb,Zl hl,hc k _ (Zl hl)⟩
theorem Reads.keep (h:Reads w B size A n xs)(hk:∀p:Addr,p.block<B→w'.cell? p=w.cell? p):Reads w' B size A n xs:=
 ⟨h.1,fun hn=>by
  obtain⟨ad,e,hb,hc⟩:=h.2 hn;exact⟨ad,e,hb,fun j u hu=>(hk _ (by rw[kD];exact hb)).trans (hc j u hu)⟩⟩
theorem Reads.more (h:Reads w B size A n xs)(hB:B≤B'):Reads w B' size A n xs:=
 ⟨h.1,fun hn=>by
  obtain⟨ad,e,hb,hc⟩:=h.2 hn;exact⟨ad,e,by omega,hc⟩⟩
theorem Reads.below (h:Reads w B size A n xs)(hb:Below B w w'):Reads w' B size A n xs:=h.keep fun _ hp=>hb.cell hp
theorem Reads.drew (h:Reads w B size A n xs):Reads w.drew B size A n xs:=h
theorem Reads.drewN (h:Reads w B size A n xs)(k:Nat):Reads (w.drewN k) B size A n xs:=h
theorem Reads.alloc (h:Reads w B size A n xs)(hB:B≤w.heap.size)(o:Obj):Reads (w.alloc o) B size A n xs:=h.keep fun p hp=>World.cell?_alloc_lt w o p (by omega)
theorem Reads.setCell (h:Reads w B size A n xs)(hB:B≤p.block)(u:Value):Reads (w.setCell p u) B size A n xs:=
 h.keep fun q hq=>World.cell?_setCell_other w p q u (fun e=>by subst e;omega)
theorem Reads.cut (h:Reads w B size A n xs)(hk:k≤n)(hc:n≤cap) :
  Reads w B size (if cap=k then A else A.map (·.add (k*size))) (n - k) (xs.drop (k*size)):=by
 refine⟨by rw[ZK,h.1,Nat.sub_mul],fun hn=>?_⟩;obtain⟨ad,rfl,hb,hcell⟩:=h.2 (by omega);rw[aaR (by omega)];refine⟨ad.add (k*size),rfl,by rw[kD];exact hb,fun j u hu=>?_⟩;rw[Gy];exact hcell _ u (by rw[←hu,aaj])
theorem Reads.bO {base:Nat}{e:TypeId}{c:Nat}(h:w.ownsRow base e size (.slice A n c) n xs):Reads w w size A n xs:=by
 refine⟨h.1,fun hn=>?_⟩;obtain⟨g,cap,hv,_,hlt⟩:=h.form hn;have hA:A=some ⟨g,0,none⟩:=by injection hv
 subst hA;exact⟨_,rfl,hlt,h.cells (g:=g) rfl⟩
end
def aF (w:World)(g:Nat)(t:TypeId)(cs:Array Value):Prop:=w.heap[g]?=some (.cells cs t (0,0))
section
variable{w w':World}{g:Nat}{t:TypeId}{cs:Array Value}
theorem aF.lt (h:aF w g t cs):g<w.heap.size:=by
 rcases aaA g w with hlt|hge
 ·exact hlt
 ·unfold aF at h;rw[Array.getElem?_eq_none hge] at h;cases h
theorem aF.cell (h:aF w g t cs)(i:Nat):w.cell? ⟨g,i,none⟩=cs[i]?:=cell_of_row w g i cs t (0,0) h
theorem aF.frozen (h:aF w g t cs)(i:Nat):w.frozen? ⟨g,i,none⟩=false:=by
 unfold aF at h;simp[World.frozen?,h]
theorem aF.new (w:World)(t:TypeId)(cs:Array Value):aF (w.alloc (.cells cs t)) w t cs:=heap_alloc_new w _
theorem aF.drew (h:aF w g t cs):aF w.drew g t cs:=h
theorem aF.drewN (h:aF w g t cs)(n:Nat):aF (w.drewN n) g t cs:=h
theorem aF.alloc (h:aF w g t cs)(o:Obj):aF (w.alloc o) g t cs:=(Below.heap_alloc w o g h.lt).trans h
theorem aF.aM (h:aF w g t cs)(i:Nat)(u:Value):aF (w.setCell ⟨g,i,none⟩ u) g t (cs.setIfInBounds i u):=by
 unfold aF at h ⊢;simp[World.setCell,Array.getElem?_modify,h]
theorem aF.far (h:aF w g t cs)(hp:g≠p.block)(u:Value):aF (w.setCell p u) g t cs:=(Below.heap_setCell w p u g hp).trans h
theorem aF.below {B:Nat}(h:aF w g t cs)(hb:Below B w w')(hg:g<B):aF w' g t cs:=(hb.block g hg).trans h
theorem aF.grown {row:Option Nat}(h:aF w g t cs)(hb:w.grownBy w' row)(hg:some g≠row):aF w' g t cs:=(hb.block g h.lt hg).trans h
theorem aF.TQ {cs':Array Value}(h:aF w g t cs)(h':aF w g' t' cs')(hne:t≠t'):g≠g':=by
 rintro rfl;unfold aF at h h';rw[h] at h';injection h' with h'
 injection h' with _ ht
 exact hne ht
theorem aQ {base:Nat}{e:TypeId}{size n:Nat}{xs:List Value}(h:w.ownsRow base e size v n xs)(hg:aF w g t cs)(hne:e≠t):v.ownBlock≠some g:=by
 rcases h.2 with ⟨rfl,_⟩|⟨g',cap,cur,rfl,_,hh,_⟩
 ·simp[Value.ownBlock]
 ·intro he;have:g'=g:=by simpa[Value.ownBlock] using he
  subst this;exact aF.TQ (t:=e) hh hg hne rfl
end
section
variable{P:Program}(w:World)
theorem tQ (base:Nat)(t ty e:TypeId)(i:TypeInfo)(size:Nat)(ht:P.underlying t=some (.slice e))(hi:P.info? e=some i)
  (v:Value) (n:Nat) (xs:List Value) (hown:w.ownsRow base e size v n xs) (c:Nat):(Builtin.append_ #[t,t] ty #[v,.slice none 0 c]).run P w=.ok v w:=by
 rcases hown.2 with ⟨rfl,rfl⟩|⟨g,cap,cur,rfl,_,_,hnc,_⟩
 ·simp[Builtin.append_,run_underlying ht,sizeOf,typeInfo,hi,Builtin.lenOf,Builtin.firstCells]
 ·simp[Builtin.append_,run_underlying ht,sizeOf,typeInfo,hi,Builtin.lenOf,Builtin.firstCells,hnc,storeCells]
theorem yJ (base:Nat)(t ty e:TypeId)(i:TypeInfo)(z:Value)(size bytes:Nat)(ht:P.underlying t=some (.slice e))(hi:P.info? e=some i)(hz:i.zero=some z)
  (hsize:i.size=size) (hby:i.bytes=bytes) (hzs:z.cells.size=size) (hsz:0<size)
  (v:Value) (n:Nat) (xs:List Value) (hown:w.ownsRow base e size v n xs)
  (B:Nat) (A:Option Addr) (m c:Nat) (news:List Value) (hr:Reads w B size A m news) (h1:∀u∈news,u.oneCell'=true)
  (h63:n+m≤maxLen) (hbytes:(n+m)*bytes≤140737488355328) (hbase:base≤w.heap.size) :
  ∃v' w',(Builtin.append_ #[t,t] ty #[v,.slice A m c]).run P w=.ok v' w'∧w'.ownsRow base e size v' (n+m) (xs++news)∧w.grownBy w' v.ownBlock ∧
   (v'.ownBlock=v.ownBlock∨v'.ownBlock=some w):=by
 rcases A with _|ad
 ·have hm:m=0:=by
   rcases aao m with h0|h0
   ·exact h0
   ·obtain⟨ad,h,_⟩:=hr.2 h0;cases h
  subst hm;have hn:news=[]:=ZY (by simpa using hr.1);subst hn;exact⟨v,w,tQ w base t ty e i size ht hi v n xs hown c,by simpa using hown,World.grownBy.refl w _,.inl rfl⟩
 ·have hcells:∀j u,news[j]?=some u→w.cell? (ad.add j)=some u:=by
   intro j u hu
   rcases aao m with h0|h0
   ·subst h0;have hn:news=[]:=ZY (by simpa using hr.1);subst hn;simp at hu
   ·obtain⟨ad',h,_,hc⟩:=hr.2 h0;injection h with h
    subst h;exact hc j u hu
  obtain⟨v',w',hrun,h2,h3,_,h5⟩:=run_append_own_at (P:=P) w base t ty e i z size bytes ht hi hz hsize hby hzs hsz v n xs hown ad m c news hr.1 hcells h1 h63 hbytes hbase;exact⟨v',w',hrun,h2,h3,h5⟩
theorem zW (s x:Operand)(t:TypeId)
  (ho:o.op=.call { callee:=.builtin .append,args:=#[s,x],argTypes:=#[t,t] })
  (base:Nat) (e:TypeId) (i:TypeInfo) (z:Value) (size bytes:Nat) (ht:P.underlying t=some (.slice e)) (hi:P.info? e=some i) (hz:i.zero=some z)
  (hsize:i.size=size) (hby:i.bytes=bytes) (hzs:z.cells.size=size) (hsz:0<size)
  (v:Value) (n:Nat) (xs:List Value) (hs:a.eval s=v) (hown:w.ownsRow base e size v n xs)
  (B:Nat) (A:Option Addr) (m c:Nat) (news:List Value) (hx:a.eval x=.slice A m c) (hr:Reads w B size A m news) (h1:∀u∈news,u.oneCell'=true)
  (h63:n+m≤maxLen) (hbytes:(n+m)*bytes≤140737488355328) (hbase:base≤w.heap.size)
  (h:∀v' w',w'.ownsRow base e size v' (n+m) (xs++news)→w.grownBy w' v.ownBlock→(v'.ownBlock=v.ownBlock∨v'.ownBlock=some w.heap.size)→K (a.put o.dst v') w'):o.wp P a w K Q:=by
 obtain⟨v',w',hrun,h2,h3,h4⟩:=yJ (P:=P) w base t o.type e i z size bytes ht hi hz hsize hby hzs hsz v n xs hown B A m c news hr h1 h63 hbytes hbase;unfold Oper.wp execOp;simp only[ho,resolve,invoke,builtin,aaV,aaW,aaQ,List.map_toArray,List.map_cons,List.map_nil,hs,hx,hrun];exact h v' w' h2 h3 h4
theorem bB {rest:List Oper}(hgd:o.guard=none)(s x:Operand)(t:TypeId)
  (ho:o.op=.call { callee:=.builtin .append,args:=#[s,x],argTypes:=#[t,t] })
  (base:Nat) (e:TypeId) (i:TypeInfo) (z:Value) (size bytes:Nat) (ht:P.underlying t=some (.slice e)) (hi:P.info? e=some i) (hz:i.zero=some z)
  (hsize:i.size=size) (hby:i.bytes=bytes) (hzs:z.cells.size=size) (hsz:0<size)
  (v:Value) (n:Nat) (xs:List Value) (hs:a.eval s=v) (hown:w.ownsRow base e size v n xs)
  (B:Nat) (A:Option Addr) (m c:Nat) (news:List Value) (hx:a.eval x=.slice A m c) (hr:Reads w B size A m news) (h1:∀u∈news,u.oneCell'=true)
  (h63:n+m≤maxLen) (hbytes:(n+m)*bytes≤140737488355328) (hbase:base≤w.heap.size)
  (h:∀v' w',w'.ownsRow base e size v' (n+m) (xs++news)→w.grownBy w' v.ownBlock→(v'.ownBlock=v.ownBlock∨v'.ownBlock=some w.heap.size)→wpList P ops Q rest (a.put o.dst v') w'):wpList P ops Q (o::rest) a w:=
 wpList_plain hgd fun _ hK=>zW w s x t ho base e i z size bytes ht hi hz hsize hby hzs hsz v n xs hs hown B A m c news hx hr h1 h63 hbytes hbase fun v' w' h2 h3 h4=>hK _ _ (h v' w' h2 h3 h4)
end
theorem below_drewN {B:Nat}{a w:World}(h:Below B a w)(n:Nat):Below B a (w.drewN n):=⟨h.os,h.tape,h.output,h.size,h.block⟩
theorem kN {a w:World}{row:Option Nat}(h:a.grownBy w row):a.grownBy w.drew row:=⟨h.os,h.tape,h.output,h.size,h.block⟩
theorem jQ {a w:World}{row:Option Nat}(h:a.grownBy w row)(o:Obj):a.grownBy (w.alloc o) row:=
 ⟨h.os,h.tape,h.output,Zt h.size (by simp),fun i hi hne=>(Below.heap_alloc w o i (aal hi h.size)).trans (h.block i hi hne)⟩
theorem dx {a w:World}{g:Nat}(h:a.grownBy w (some g))(hp:p.block=g∨a.heap.size≤p.block)(u:Value):a.grownBy (w.setCell p u) (some g):=
 ⟨h.os,h.tape,h.output,by simpa[World.setCell] using h.size,fun i hi hne=>(Below.heap_setCell w p u i (by
  rintro rfl
  rcases hp with hp|hp
  ·exact hne (by rw[hp])
  ·omega)).trans (h.block i hi hne)⟩
theorem bV {a w:World}(h:Below a a w)(row:Option Nat):a.grownBy w row:=⟨h.os,h.tape,h.output,h.size,fun i hi _=>h.block i hi⟩
theorem Reads.new (w:World)(t:TypeId)(cs:Array Value):Reads (w.alloc (.cells cs t)) (w.heap.size+1) 1 (some ⟨w,0,none⟩) cs.size cs.toList:=by
 refine⟨by simp,fun _=>⟨⟨w,0,none⟩,rfl,by simp,fun j u hu=>?_⟩⟩;have hadd:(⟨w,0,none⟩:Addr).add j=⟨w,j,none⟩:=by unfold Addr.add;split<;>simp_all
 rw[hadd,(aF.new w t cs).cell j];simpa using hu
def dX (w w':World)(v v':Value):Prop:=w.grownBy w' v.ownBlock∧(v'.ownBlock=v.ownBlock∨∃g,v'.ownBlock=some g∧w.heap.size≤g)
theorem dX.refl (w:World)(v:Value):dX w w v v:=⟨World.grownBy.refl _ _,Or.inl rfl⟩
theorem dX.trans {a b c:World}{x:Value}(h:dX a b u v)(k:dX b c v x):dX a c u x:=by
 refine⟨⟨k.1.os.trans h.1.os,k.1.tape.trans h.1.tape,k.1.output.trans h.1.output,Zt h.1.size k.1.size,fun i hi hne=>?_⟩,?_⟩
 ·have hne2:some i≠v.ownBlock:=by
   intro e
   rcases h.2 with h2|⟨g,h2,h3⟩
   ·exact hne (e.trans h2)
   ·rw[h2] at e;injection e with e
    omega
  exact(k.1.block i (aal hi h.1.size) hne2).trans (h.1.block i hi hne)
 ·rcases k.2 with k2|⟨g,k2,k3⟩
  ·rcases h.2 with h2|⟨g,h2,h3⟩
   ·exact Or.inl (k2.trans h2)
   ·exact Or.inr ⟨g,k2.trans h2,h3⟩
  ·exact Or.inr ⟨g,k2,Zt h.1.size k3⟩
theorem dX.size {w w':World}(h:dX w w' v v'):w.heap.size≤w'.heap.size:=h.1.size
theorem dX.below {w w':World}(h:dX w w' v v'){B:Nat}(hB:B≤w.heap.size)(hv:∀k,v.ownBlock=some k→B≤k):Below B w w':=(aaO B w).grown h.1 hB hv
theorem dX.bW {w w':World}(h:dX w w' v v'){base n size:Nat}{e:TypeId}{xs:List Value}(hown:w.ownsRow base e size v n xs)(hB:base≤w.heap.size):Below base w w':=
 h.below hB fun k hk=>(hown.lt k hk).1
theorem jE {w w':World}{o:Obj}{row:Option Nat}(h:(w.alloc o).grownBy w' row):w.grownBy w' row:=
 ⟨h.os,h.tape,h.output,Zt (by simp) h.size,fun k hk hne=>(h.block k (by simp;omega) hne).trans (Below.heap_alloc w o k hk)⟩
theorem aR {w w':World}{o:Obj}{B:Nat}(h:Below B (w.alloc o) w')(hB:B≤w.heap.size):Below B w w':=
 ⟨h.os,h.tape,h.output,Zt (by simp) h.size,fun k hk=>(h.block k hk).trans (Below.heap_alloc w o k (by omega))⟩
theorem bH {w:World}{base n:Nat}{e:TypeId}{xs:List Value}(h:w.ownsRow base e 1 v n xs):∃A c,v=.slice A n c∧Reads w w 1 A n xs∧n≤c∧c≤maxLen:=by
 rcases h.2 with ⟨rfl,rfl⟩|⟨g,cap,cur,rfl,_,_,hc,hm,_⟩
 ·exact⟨none,0,rfl,Reads.bO h,Zh _,Zq _⟩
 ·exact⟨_,cap,rfl,Reads.bO h,hc,hm⟩
theorem kG {w:World}{base n c:Nat}{e:TypeId}{A:Option Addr}{xs:List Value}(h:w.ownsRow base e 1 (.slice A n c) n xs):n≤c∧c≤maxLen:=by
 obtain⟨A',c',h1,_,h2,h3⟩:=bH h;injection h1 with _ _ h1
 subst h1;exact⟨h2,h3⟩
theorem aG {w:World}{base n size:Nat}{e:TypeId}{xs:List Value}(h:w.ownsRow base e size v n xs)(hb:base'≤base):w.ownsRow base' e size v n xs:=by
 refine⟨h.1,?_⟩
 rcases h.2 with h2|⟨g,cap,cur,h2,h3,h4⟩
 ·exact Or.inl h2
 ·exact Or.inr ⟨g,cap,cur,h2,Zt hb h3,h4⟩
def S (l:List UInt8):ByteArray:=⟨l.toArray⟩
theorem IC (l:List UInt8):(S l).data.toList=l:=rfl
theorem kZ (l:List UInt8):(S l).size=l.length:=by simp[S,ByteArray.size]
@[go_sem] theorem um (l:List UInt8):(S l).toList=l:=by rw[ByteArray.toList_eq];rfl
theorem LJ (s:ByteArray):S s.data.toList=s:=by
 apply ByteArray.ext;apply Array.toList_inj.1;rfl
theorem size_data (s:ByteArray):s.data.toList.length=s.size:=by rw[ZO];rfl
theorem iI (s:ByteArray):s.toList=s.data.toList:=ByteArray.toList_eq s
def cb (l:List UInt8):List Value:=l.map fun b=>.int .u8 (b.toNat:Int)
def ci (l:List Int):List Value:=l.map fun n=>.int .i64 n
def ct (l:List ByteArray):List Value:=l.map fun s=>.string s
theorem uQ (l:List UInt8):(cb l).length=l.length:=by simp[cb]
theorem KO (l:List Int):(ci l).length=l.length:=by simp[ci]
theorem qM (l m:List UInt8):cb (l++m)=cb l++cb m:=by simp[cb]
theorem A9 (l m:List Int):ci (l++m)=ci l++ci m:=by simp[ci]
theorem L6 (l m:List ByteArray):ct (l++m)=ct l++ct m:=by simp[ct]
theorem OT (l:List UInt8):∀u∈cb l,u.oneCell'=true:=by
 intro u hu;simp only[cb,ZA] at hu;obtain⟨b,_,rfl⟩:=hu;rfl
theorem UZ (l:List Int):∀u∈ci l,u.oneCell'=true:=by
 intro u hu;simp only[ci,ZA] at hu;obtain⟨b,_,rfl⟩:=hu;rfl
theorem Pz (l:List UInt8)(k:Nat):(cb l)[k]?=(l[k]?).map fun b=>.int .u8 (b.toNat:Int):=by simp[cb]
theorem lZ (l:List Int)(k:Nat):(ci l)[k]?=(l[k]?).map fun n=>.int .i64 n:=by simp[ci]
theorem Df (l:List ByteArray)(k:Nat):(ct l)[k]?=(l[k]?).map fun s=>.string s:=by simp[ct]
theorem wR (l:List UInt8)(k:Nat):(cb l).take k=cb (l.take k):=by simp[cb]
theorem nK (l:List UInt8)(k:Nat):(cb l).drop k=cb (l.drop k):=by simp[cb]
section
variable{w:World}{B n:Nat}{A:Option Addr}
theorem Reads.mR {l:List UInt8}(h:Reads w B 1 A n (cb l)):l.length=n:=by have:=h.1;simpa[cb] using this
theorem Reads.jw {l:List Int}(h:Reads w B 1 A n (ci l)):l.length=n:=by have:=h.1;simpa[ci] using this
theorem Reads.Bq {l:List ByteArray}(h:Reads w B 1 A n (ct l)):l.length=n:=by have:=h.1;simpa[ct] using this
theorem Reads.first {xs:List Value}(h:Reads w B 1 A n xs)(hk:k≤n):Reads w B 1 A k (xs.take k):=by
 have h1:=h.1;refine⟨by rw[Zw];omega,fun hp=>?_⟩;obtain⟨ad,e,hb,hc⟩:=h.2 (by omega);refine⟨ad,e,hb,fun j u hu=>hc j u ?_⟩;rw[aav] at hu
 split at hu
 ·exact hu
 ·cases hu
end
def mX (A:Option Addr)(c k:Nat):Option Addr:=if c=k then A else A.map (·.add k)
theorem Reads.rest {w:World}{B n:Nat}{A:Option Addr}{xs:List Value}(h:Reads w B 1 A n xs){c:Nat}(hk:k≤n)(hc:n≤c):Reads w B 1 (mX A c k) (n - k) (xs.drop k):=by
 have:=h.cut (k:=k) (cap:=c) hk hc;simpa[mX] using this
section
variable{P:Program}
theorem nJ (ht:P.underlying T=some (.slice E))(A:Option Addr)(n c k:Nat)(hk:k≤c)(w:World)(hs:∀w,(Go.sizeOf E).run P w=.ok 1 w) :
  (Instr.slice T (.slice A n c) none (some ((k:Int))) none).run P w=.ok (.slice A k c) w:=by
 have ht':P.underlying T=some (.slice (P.elem T)):=by simp[Program.elem,ht]
 have he:P.elem T=E:=by simp[Program.elem,ht]
 rw[run_slice_h w T _ _ _ ht' .i64 _ (by omega) (by omega),he,hs]
 have h0:A.map (fun x=>x.add (0*1))=A:=by
  cases A with
  |none=>rfl
  |some a=>simp[Addr.add]
 simp only[Result.andThen,sliced,h0,Z9,Nat.sub_zero,ite_self]
theorem gu (ht:P.underlying T=some (.slice E))(A:Option Addr)(n c k:Nat)(hk:k≤n)(w:World)(hs:∀w,(Go.sizeOf E).run P w=.ok 1 w) :
  (Instr.slice T (.slice A n c) (some ((k:Int))) none none).run P w=.ok (.slice (mX A c k) (n - k) (c - k)) w:=by
 have ht':P.underlying T=some (.slice (P.elem T)):=by simp[Program.elem,ht]
 have he:P.elem T=E:=by simp[Program.elem,ht]
 rw[run_slice_l w T _ _ _ ht' .i64 _ (by omega) (by omega),he,hs];simp only[Result.andThen,sliced,Z9,mX,ZB]
theorem zS (ht:P.underlying T=some (.slice E))(A:Option Addr)(n c k m:Nat)(hk:k+m≤c)(w:World)(hs:∀w,(Go.sizeOf E).run P w=.ok 1 w) :
  (Instr.slice T (.slice A n c) (some ((k:Int))) (some (.int .i64 ((k:Int)+(m:Int)))) none).run P w=.ok (.slice (mX A c k) m (c - k)) w:=by
 have ht':P.underlying T=some (.slice (P.elem T)):=by simp[Program.elem,ht]
 have he:P.elem T=E:=by simp[Program.elem,ht]
 rw[run_slice_lh w T _ _ _ ht' .i64 .i64 _ _ (by omega) (by omega) (by omega),he,hs];simp only[Result.andThen,sliced,Z9,mX,ZB];rw[show((k:Int)+(m:Int)).toNat=k+m by omega,show k+m - k=m by omega]
theorem jA {e:TypeId}(hs:P.underlying src=some (.slice e))(he:P.underlying e=some (.int .u8))(hd:P.underlying dst=some .string){w:World}{B n c:Nat}{A:Option Addr}{l:List UInt8}(h:Reads w B 1 A n (cb l)) :
  (convert src dst (.slice A n c)).run P w=.ok (.string (S l)) w:=by
 have hl:=h.mR
 rcases A with _|a
 ·have h0:n=0:=by
   rcases aao n with h0|h0
   ·exact h0
   ·obtain⟨ad,h',_⟩:=h.2 h0;cases h'
  subst h0;have:l=[]:=ZY hl;subst this;rw[run_convert_bytes_nil w src e hs he 0 c dst hd];rfl
 ·have hl2:(loadCells a n).run P w=.ok ((l.map fun b=>(b.toNat:Int)).map (Value.int .u8)).toArray w:=by
   have:=run_loadCells_list (P:=P) w a (cb l) (fun j v hj=>by
    rcases aao n with h0|h0
    ·subst h0;have:l=[]:=ZY hl;subst this;simp[cb] at hj
    ·obtain⟨ad,h',_,hc⟩:=h.2 h0;injection h' with h'
     subst h';exact hc j v hj)
   rw[uQ,hl] at this;rw[this];simp[cb]
  rw[run_convert_bytes_string w src dst e _ n c hs he hd,run_bytesToString w _ n c _ hl2,foldl_push_bytes];simp only[List.map_map]
  congr 2
  apply ByteArray.ext;apply Array.toList_inj.1;simp[S,Function.comp_def]
end
section
open Go.ChangeShapes Go.WideShapes
variable{H:Type}{enc:TypeId×Value→H}{P:Program}{w:World}{base:Nat}{spare:Nat→Bool}{held:Bool}
end
theorem qG {w:World}{a:Addr}(h:w.cell? (a.add 0)=some v):∃b off,a=⟨b,off,none⟩∧w.cell? ⟨b,off,none⟩=some v:=by
 obtain⟨b,off,spot⟩:=a;have h2:w.cell? ⟨b,off,spot⟩=some v:=by simpa[Addr.add] using h
 have hs:=World.cell?_spot h2;simp only at hs;subst hs;exact⟨b,off,rfl,h2⟩
theorem LQ {w:World}{off:Nat}(h:w.cell? ((⟨b,off,none⟩:Addr).add k)=some v):w.cell? ⟨b,off+k,none⟩=some v:=by
 have:(⟨b,off,none⟩:Addr).add k=⟨b,off+k,none⟩:=by unfold Addr.add;split<;>simp_all
 rwa[this] at h
theorem then_ {a b c:World}(h:Below a a b)(k:Below b b c):Below a a c:=h.trans (k.mono h.size)
theorem JF {B:Nat}(hb:Below B W w1):(∀b o,b<B→w1.cell? ⟨b,o,none⟩=W.cell? ⟨b,o,none⟩)∧(∀b o,b<B→w1.frozen? ⟨b,o,none⟩=W.frozen? ⟨b,o,none⟩):=
 ⟨fun b o h=>hb.cell (p:=⟨b,o,none⟩) h,fun b o h=>hb.frozen (p:=⟨b,o,none⟩) h⟩
variable{i:Nat}{w:World}
section
variable{P:Program}{md:Region.Mode}{ops:Array Oper}
def Qn (Q:Exit→Act→World→Prop)(K:Act→World→Prop):Exit→Act→World→Prop
 |.normal,a,w=>K a w
 |.panic c,a,w=>Q (.panic c) a w
 |.exit i,a,w=>Q (.exit i) a w
 |.outgrown,a,w=>Q .outgrown a w
 |e,a,w=>Q e a w
theorem Rw {next:Act→World→Prop}{r:Result Next}(h:o.upon P a next (Qn Q K) r):o.upon P a next Q r:=by
 cases r with
 |ok n w'=>cases n<;>exact h
 |_=>exact h
theorem wO {l:List Oper}(h0:ops[i]?=some o)(h:wpList P ops (Qn Q K) (o::l) a w):wpOp P ops Q i (wpList P ops (Qn Q K) l) a w:=by
 unfold wpOp;simp only[h0];unfold wpList at h
 split
 ·rename_i hw
  rw[aaS hw] at h
  rcases h with h|⟨h1,a',w',h2⟩
  ·exact Or.inl (Rw h)
  ·exact Or.inr ⟨h1,a',w',h2⟩
 ·rename_i hw
  rw[aaR hw] at h;exact h
end
variable{listed:Array Bool}{g:Nat}{oi:Oper}
section
variable{P:Program}{md:Region.Mode}{ops:Array Oper}{Q:Exit→Act→World→Prop}{S:World→Prop}{n:Nat}{L:Array Bool→Act→World→Prop}
def av (P:Program)(md:Region.Mode)(ops:Array Oper)(Q:Exit→Act→World→Prop)(S:World→Prop)(n:Nat)(L:Array Bool→Act→World→Prop):Nat→Array Bool→Act→World→Prop
 |0,listed,a,w=>L listed a w
 |f+1,listed,a,w=>
  Region.ready md ops listed≠[]∧∀i∈Region.ready md ops listed,i<n∧wpOp P ops Q i (fun a' w'=>S w'∧av P md ops Q S n L f (listed.setIfInBounds i true) a' w') a w
theorem zf (hL:∀listed a w,L listed a w→wpAny P md ops Q g listed a w):∀(f:Nat) (listed:Array Bool) (a:Act) (w:World),av P md ops Q S n L f listed a w→wpAny P md ops Q (f+g) listed a w
 |0,listed,a,w,h=>by rw[aah];exact hL _ _ _ h
 |f+1,listed,a,w,h=>by
  rw[show f+1+g=(f+g)+1 by omega];exact⟨fun h0=>absurd h0 h.1,fun i hi=>wpOp_mono (fun a' w' h'=>zf hL f _ a' w' h'.2) (h.2 i hi).2⟩
theorem sG (hi:ops[i]?=some oi)(hsel:∀(j:Nat) (o:Oper) cs b,ops[j]?=some o→o.op≠.select cs b)
  (hQ:∀c a w,Q (.panic c) (a.put oi.dst v) w→Q (.panic c) a w)
  (hs:Region.sinkB md ops n=true) (hc:Region.chainB md ops n=true) (hn:n<ops.size) (hin:i<n)
  (hdone:∀listed a w,L listed a w→∀j∈Region.ready md ops listed,n≤j) :
  ∀(f:Nat) (listed:Array Bool) (a:Act) (w:World),HeadInv md ops n listed →
   (∀j oj,ops[j]?=some oj→j≠i→listed.getD j true=false→(∀e∈oj.after,Region.binds md e=true→e.on≠i)→oi.apart ops oj=true) →
   i∈Region.ready md ops listed→YieldsIf P ops S oi v a→S w →
   av P md ops Q S n L f (listed.setIfInBounds i true) (a.put oi.dst v) w→av P md ops Q S n L (f+1) listed a w:=by
 intro f
 induction f with
 |zero=>
  intro listed a w inv _ hr hy hS H;have hun:=(mem_ready.1 hr).1;refine⟨fun h=>(by rw[h] at hr;cases hr),fun j hj=>?_⟩
  have hjn:j<n:=by
   rcases aaA j n with h|h
   ·exact h
   ·exact absurd hj (tail_waits hs hc hn inv _ i rfl hin hun j h)
  refine⟨hjn,?_⟩
  by_cases hji:j=i
  ·subst hji;exact hy.wpOp hi hS ⟨hS,H⟩
  ·have:=hdone _ _ _ H j (ready_mono hj hji);omega
 |succ f ih=>
  intro listed a w inv hfree hr hy hS H;have hun:=(mem_ready.1 hr).1;refine⟨fun h=>(by rw[h] at hr;cases hr),fun j hj=>?_⟩
  have hjn:j<n:=by
   rcases aaA j n with h|h
   ·exact h
   ·exact absurd hj (tail_waits hs hc hn inv _ i rfl hin hun j h)
  refine⟨hjn,?_⟩
  by_cases hji:j=i
  ·subst hji;exact hy.wpOp hi hS ⟨hS,H⟩
  ·have h1:=(H.2 j (ready_mono hj hji)).2;obtain⟨hjun,oj,hoj,hall⟩:=mem_ready.1 hj
   have hnot:∀e∈oj.after,Region.binds md e=true→e.on≠i:=fun e he hb heq=>by
    have h1:=hall e he hb;rw[heq,getD_both hun] at h1;cases h1
   have h2:=wpOp_putIf hoj (hfree j oj hoj hji hjun hnot) (fun cs b=>hsel i oi cs b hi) (fun cs b=>hsel j oj cs b hoj) hQ hy h1
   have hfree':∀k ok,ops[k]?=some ok→k≠i→(listed.setIfInBounds j true).getD k true=false →
     (∀e∈ok.after,Region.binds md e=true→e.on≠i)→oi.apart ops ok=true:=fun k ok hk hki hun hno=>by
    refine hfree k ok hk hki ?_ hno
    by_cases hjk:j=k
    ·subst hjk;exact hjun
    ·rw[getD_set_ne true hjk] at hun;exact hun
   refine wpOp_mono (fun a' w' h3=>⟨h3.2.1,ih (listed.setIfInBounds j true) a' w' (inv.set hj hjn) hfree' (ready_mono hr (Ne.symm hji)) h3.1 h3.2.1 ?_⟩) h2;rw[Array.setIfInBounds_comm _ _ hji];exact h3.2.2
def lU (md:Region.Mode)(ops:Array Oper)(n:Nat)(listed:Array Bool):Bool:=
 decide (listed.size=ops.size) &&
 ((List.range ops.size).all fun j=>!listed.getD j false||(match ops[j]? with|some oj=>oj.after.all (fun e=>!Region.binds md e||listed.getD e.on false)|none=>true)) &&
 ((List.range ops.size).all fun t=>decide (t<n)||!listed.getD t true)
theorem GU (h:lU md ops n listed=true):HeadInv md ops n listed:=by
 simp only[lU,Zr,Zx] at h;obtain⟨⟨h1,h2⟩,h3⟩:=h;refine⟨h1,fun j oj hj hl e he hb=>?_,fun t ht hlt=>?_⟩
 ·have hjs:j<ops.size:=(Z6.1 hj).1;have h4:=aam.1 h2 j (List.mem_range.2 hjs);simp only[hj,hl,Bool.not_true,Bool.false_or] at h4;have h5:=Array.all_eq_true_iff_forall_mem.1 h4 e he;simpa[hb] using h5
 ·have h4:=aam.1 h3 t (List.mem_range.2 hlt);simp only[Bool.or_eq_true,Zx,Bool.not_eq_true'] at h4
  rcases h4 with h4|h4
  ·omega
  ·exact h4
def takeB (md:Region.Mode)(ops:Array Oper)(n i:Nat)(listed:Array Bool):Bool:=
 Region.noSelect ops&&decide (n<ops.size)&&Region.sinkB md ops n&&Region.chainB md ops n&&decide (i<n)&&lU md ops n listed&&Region.free md ops listed i&&(Region.ready md ops listed).contains i
def bR (P:Program)(md:Region.Mode)(ops:Array Oper)(Q:Exit→Act→World→Prop)(n:Nat)(listed:Array Bool)(a:Act)(w:World):Prop:=
 Region.seqB md ops (ops.size - n) n listed=true∧wpList P ops Q (ops.toList.drop n) a w
theorem MH (hn:n≤ops.size)(listed:Array Bool)(a:Act)(w:World)(h:bR P md ops Q n listed a w):wpAny P md ops Q (ops.size - n) listed a w:=by
 have hl:(ops.toList.drop n).length=ops.size - n:=by rw[ZK,ZO]
 have:=wpAny_of_seq (P:=P) (Q':=Q) (md:=md) (ops:=ops) (ops.toList.drop n) n listed a w (fun j=>by rw[aaj,Array.getElem?_toList]) (by rw[hl];exact h.1) h.2;rwa[hl] at this
variable{id:Nat}
theorem eH (n:Nat)(S:World→Prop)(hm:P.follows .mixedOrders=true)(hn:decide (n≤ops.size)=true)
  (h:av P .any ops Q S n (bR P .any ops Q n) n (Array.replicate ops.size false) a w.drew):(Code.region id ops true).wp P Q a w:=by
 have hn:=aae hn;refine wp_region_any hm ?_;have:=zf (g:=ops.size - n) (MH hn) n _ a _ h;rwa[show n+(ops.size - n)=ops.size by omega] at this
theorem Vp {f:Nat}(hi:ops[i]?=some oi)(hB:takeB md ops n i listed=true)
  (hQ:∀c a w,Q (.panic c) (a.put oi.dst v) w→Q (.panic c) a w) (hy:YieldsIf P ops S oi v a) (hS:S w)
  (h:av P md ops Q S n (bR P md ops Q n) f (listed.setIfInBounds i true) (a.put oi.dst v) w):av P md ops Q S n (bR P md ops Q n) (f+1) listed a w:=by
 simp only[takeB,Zr,Zx] at hB;obtain⟨⟨⟨⟨⟨⟨⟨h1,h2⟩,h3⟩,h4⟩,h5⟩,h6⟩,h7⟩,h8⟩:=hB;exact sG hi (Region.noSelect_spec h1) hQ h3 h4 h2 h5 (fun l a w hL=>seqB_ready hL.1) f listed a w (GU h6) (Region.free_spec hi h7) (by simpa using h8) hy hS h
theorem aL {rest:List Oper}(h:ops.toList.drop i=oi::rest):ops[i]?=some oi:=by
 have h1:=congrArg List.head? h;rw[List.head?_drop,List.head?_cons] at h1;rwa[←Array.getElem?_toList]
theorem bL {rest:List Oper}{f:Nat}(hi:ops.toList.drop i=oi::rest)(hB:takeB md ops n i listed=true)
  (hQ:∀c a w,Q (.panic c) (a.put oi.dst v) w→Q (.panic c) a w) (hy:YieldsIf P ops S oi v a) (hS:S w)
  (h:av P md ops Q S n (bR P md ops Q n) f (listed.setIfInBounds i true) (a.put oi.dst v) w):av P md ops Q S n (bR P md ops Q n) (f+1) listed a w:=
 Vp (aL hi) hB hQ hy hS h
def qN (md:Region.Mode)(ops:Array Oper)(n i:Nat)(listed:Array Bool):Bool:=decide (Region.ready md ops listed=[i])&&decide (i<n)
theorem qW {f:Nat}(hi:ops[i]?=some oi)(hB:qN md ops n i listed=true)
  (h:wpList P ops (Qn Q (fun a' w'=>S w'∧av P md ops Q S n L f (listed.setIfInBounds i true) a' w')) [oi] a w):av P md ops Q S n L (f+1) listed a w:=by
 simp only[qN,Zr,Zx] at hB;refine⟨by rw[hB.1];simp,fun j hj=>?_⟩;rw[hB.1] at hj;obtain rfl:j=i:=by simpa using hj
 exact⟨hB.2,wpOp_mono (fun a' w' h'=>h') (wO hi h)⟩
theorem lH (hB:Region.seqB md ops (ops.size - n) n listed=true)(h:wpList P ops Q (ops.toList.drop n) a w):av P md ops Q S n (bR P md ops Q n) 0 listed a w:=⟨hB,h⟩
end
variable{a':Act}{q:Addr}{args:Array Value}{R:Ending→World→Prop}{fn:Func}{vs:List Value}{j m:Nat}{x y:Operand}{α:Type}{elem t ty:TypeId}
structure It where
 p:Nat→World→Prop
 bl:List Nat
 mono:∀{b b':Nat} {w:World},p b w→b'≤b→p b' w
 keep:∀{b:Nat} {w w':World},p b w→(∀g∈bl,w'.heap[g]?=w.heap[g]?)→p b w'
 lt:∀{b:Nat} {w:World},p b w→∀g∈bl,g<w.heap.size
abbrev Bx:=Nat×TypeId×List Value
def comps (bx:List Bx)(is:List It):List (List Nat):=bx.map (fun x=>[x.1])++is.map It.bl
structure Env (b:Nat)(w0:World)(bx:List Bx)(is:List It)(w:World):Prop where
 aD:Below b w0 w
 sz:b≤w.heap.size
 at_:∀x∈bx,aF w x.1 x.2.1 x.2.2.toArray
 it:∀i∈is,i.p b w
 ge:∀l∈comps bx is,∀g∈l,b≤g
 dj:(comps bx is).Pairwise (fun l m=>∀g∈l,g ∉ m)
namespace Env
variable{b:Nat}{w0 w w':World}{bx bx':List Bx}{is is':List It}
theorem start (w:World):Env w w [] [] w:=⟨aaO _ _,Zh _,fun x h=>absurd h (by simp),fun x h=>absurd h (by simp),fun x h=>absurd h (by simp[comps]),List.Pairwise.nil⟩
theorem lt (E:Env b w0 bx is w):∀l∈comps bx is,∀g∈l,g<w.heap.size:=by
 intro l hl g hg
 rcases Zm.1 hl with h|h
 ·obtain⟨x,hx,rfl⟩:=ZA.1 h;rw[Zp.1 hg];exact(E.at_ x hx).lt
 ·obtain⟨i,hi,rfl⟩:=ZA.1 h;exact i.lt (E.it i hi) g hg
theorem up (E:Env b w0 bx is w)(h:Below w w w'):Env b w0 bx is w':=
 ⟨E.aD.trans (h.mono E.sz),Zt E.sz h.size,fun x hx=>(E.at_ x hx).below h (E.at_ x hx).lt,fun i hi=>i.keep (E.it i hi) fun g hg=>h.block g (i.lt (E.it i hi) g hg),E.ge,E.dj⟩
theorem drew (E:Env b w0 bx is w):Env b w0 bx is w.drew:=E.up (aaO _ w).drew
theorem sub (E:Env b w0 bx is w)(h:bx'.Sublist bx)(k:is'.Sublist is):Env b w0 bx' is' w:=by
 have hs:(comps bx' is').Sublist (comps bx is):=List.Sublist.append (h.map _) (k.map _);exact⟨E.aD,E.sz,fun x hx=>E.at_ x (h.subset hx),fun i hi=>E.it i (k.subset hi),fun l hl=>E.ge l (hs.subset hl),E.dj.sublist hs⟩
theorem weak (E:Env b w0 bx is w):Env b w0 bx [] w:=E.sub (Zi _) (Zy _)
theorem drop (E:Env b w0 bx is w)(n:Nat):Env b w0 (bx.drop n) is w:=E.sub (List.drop_sublist _ _) (Zi _)
theorem perm (E:Env b w0 bx is w)(h:is.Perm is'):Env b w0 bx is' w:=by
 have hs:(comps bx is).Perm (comps bx is'):=List.Perm.append_left _ (h.map _);exact⟨E.aD,E.sz,E.at_,fun i hi=>E.it i (h.mem_iff.2 hi),fun l hl=>E.ge l (hs.mem_iff.2 hl),hs.pairwise E.dj fun hxy g hg hm=>hxy g hm hg⟩
theorem call (E:Env b w0 bx is w)(F:Env w w bx' is' w'):Env b w0 (bx'++bx) (is'++is) w':=by
 have U:=E.up F.aD;have hd:∀l∈comps bx is,∀m∈comps bx' is',∀g∈m,g ∉ l:=fun l hl m hm g hg hg2=>Nat.lt_irrefl _ (aal (E.lt l hl g hg2) (F.ge m hm g hg))
 have hp:((comps bx' is')++(comps bx is)).Perm (comps (bx'++bx) (is'++is)):=by
  unfold comps;rw[aag,aag,ZN,ZN];refine List.Perm.append_left _ ?_;rw[←ZN,←ZN];exact List.Perm.append_right _ List.perm_append_comm
 refine⟨U.aD,U.sz,fun x hx=>?_,fun i hi=>?_,fun l hl g hg=>?_,?_⟩
 ·rcases Zm.1 hx with h|h
  ·exact F.at_ x h
  ·exact U.at_ x h
 ·rcases Zm.1 hi with h|h
  ·exact i.mono (F.it i h) E.sz
  ·exact U.it i h
 ·rcases Zm.1 (hp.mem_iff.2 hl) with h|h
  ·exact Zt E.sz (F.ge l h g hg)
  ·exact E.ge l h g hg
 ·refine hp.pairwise (List.pairwise_append.2 ⟨F.dj,E.dj,fun m hm l hl g hg=>hd l hl m hm g hg⟩) fun hxy g hg hm=>hxy g hm hg
theorem one (w:World)(t:TypeId)(cs:List Value):Env w w [(w,t,cs)] [] (w.alloc (.cells cs.toArray t)):=by
 refine⟨(aaO _ w).alloc (Zh _) _,by simp,?_,fun x h=>absurd h (by simp),?_,by simp[comps]⟩
 ·intro x hx;rw[Zp.1 hx];exact aF.new w t _
 ·intro l hl g hg;have hl2:l=[w.heap.size]:=by simpa[comps] using hl
  subst hl2;rw[Zp.1 hg];exact Zh _
theorem alloc (E:Env b w0 bx is w)(t:TypeId)(cs:List Value):Env b w0 ((w,t,cs)::bx) is (w.alloc (.cells cs.toArray t)):=E.call (one w t cs)
theorem gG (E:Env b w0 bx is w)(h:Below w w w')(i:It)(hi:i.p w w')(hf:∀g∈i.bl,w.heap.size≤g):Env b w0 bx (i::is) w':=by
 refine E.call (bx':=[]) (is':=[i]) ⟨h,h.size,fun x h=>absurd h (by simp),fun j hj=>?_,fun l hl g hg=>?_,?_⟩
 ·rw[Zp.1 hj];exact hi
 ·have hl2:l=i.bl:=by simpa[comps] using hl
  subst hl2;exact hf g hg
 ·simp[comps]
theorem blk (E:Env b w0 bx is w)(k:Nat){cs:List Value}(hk:bx[k]?=some (g,t,cs)):aF w g t cs.toArray:=E.at_ _ (Zk hk)
theorem cell (E:Env b w0 bx is w)(k:Nat){cs:List Value}(hk:bx[k]?=some (g,t,cs))(i:Nat):w.cell? ⟨g,i,none⟩=cs[i]?:=by
 rw[(E.blk k hk).cell i];simp
theorem c (E:Env b w0 bx is w)(k i:Nat){cs:List Value}(hk:bx[k]?=some (g,t,cs):=by rfl)(hv:cs[i]?=some v:=by rfl):w.cell? ⟨g,i,none⟩=some v:=(E.cell k hk i).trans hv
theorem f (E:Env b w0 bx is w)(k i:Nat){cs:List Value}(hk:bx[k]?=some (g,t,cs):=by rfl):w.frozen? ⟨g,i,none⟩=false:=(E.blk k hk).frozen i
theorem reads (E:Env b w0 bx is w)(k n sz:Nat){cs:List Value}(hk:bx[k]?=some (g,t,cs):=by rfl)(hn:cs.length=n*sz:=by rfl):Reads w w sz (some ⟨g,0,none⟩) n cs:=
 ⟨hn,fun _=>⟨_,rfl,(E.blk k hk).lt,fun j u hu=>by
  rw[Addr.add_mid,aah,E.cell k hk];exact hu⟩⟩
theorem get (E:Env b w0 bx is w)(k:Nat){i:It}(h:is[k]?=some i:=by rfl)  :i.p b w:=E.it i (Zk h)
theorem CP {R:α→α→Prop}:∀{l:List α},l.Pairwise R→∀{j k:Nat} {x y:α},l[j]?=some x→l[k]?=some y→j<k→R x y
 |_,.nil,j,k,x,y,hj,_,_=>by simp at hj
 |_,.cons h1 h2,0,k+1,x,y,hj,hk,_=>by
  simp only[List.getElem?_cons_zero,ZH] at hj;subst hj;exact h1 y (Zk (by simpa using hk))
 |_,.cons h1 h2,j+1,k+1,x,y,hj,hk,hn=>CP h2 (by simpa using hj) (by simpa using hk) (by omega)
theorem apart (E:Env b w0 bx is w){l m:List Nat}(hj:(comps bx is)[j]?=some l)(hk:(comps bx is)[k]?=some m)(hn:j≠k):∀g∈l,g ∉ m:=by
 rcases Nat.lt_or_gt_of_ne hn with h|h
 ·exact CP E.dj hj hk h
 ·exact fun g hg hm=>CP E.dj hk hj h g hm hg
variable{i':It}
theorem Yt (E:Env b w0 bx is w)(j k:Nat)(hn:j≠k){i:It}(hj:is[j]?=some i:=by rfl)(hk:is[k]?=some i':=by rfl):∀g∈i.bl,g ∉ i'.bl:=by
 have h:∀(q:Nat) (x:It),is[q]?=some x→(comps bx is)[bx.length+q]?=some x.bl:=fun q x hq=>by
  unfold comps;rw[Z8 (by simp),Z5,Nat.add_sub_cancel_left,ZU,hq];rfl
 exact E.apart (h j i hj) (h k i' hk) (by omega)
theorem Vj (E:Env b w0 bx is w)(j k:Nat){cs:List Value}{i:It}(hj:bx[j]?=some (g,t,cs):=by rfl)(hk:is[k]?=some i:=by rfl):g ∉ i.bl:=by
 have h1:(comps bx is)[j]?=some [g]:=by
  unfold comps;rw[Z0 (by simpa using (Zo.1 hj).1),ZU,hj];rfl
 have h2:(comps bx is)[bx.length+k]?=some i.bl:=by
  unfold comps;rw[Z8 (by simp),Z5,Nat.add_sub_cancel_left,ZU,hk];rfl
 exact E.apart h1 h2 (by have:=(Zo.1 hj).1;omega) g (Zp.2 rfl)
theorem turn (E:Env b w0 bx is w)(j:Nat){l l':List Nat}(hj:(comps bx is)[j]?=some l)(hos:w'.os=w.os)(htp:w'.tape=w.tape)(hou:w'.output=w.output)(hsz:w.heap.size≤w'.heap.size)(hkeep:∀g,g<w.heap.size→g ∉ l→w'.heap[g]?=w.heap[g]?)(hbl:∀g∈l',g∈l∨w.heap.size≤g)
  (hc:comps bx' is'=(comps bx is).set j l') (hat:∀x∈bx',x∈bx∧x.1 ∉ l∨aF w' x.1 x.2.1 x.2.2.toArray) (hit:∀i∈is',(i∈is∧∀g∈i.bl,g ∉ l)∨i.p b w'):Env b w0 bx' is' w':=by
 have hge:=E.ge l (Zk hj);refine⟨⟨hos.trans E.aD.os,htp.trans E.aD.tape,hou.trans E.aD.output,Zt E.aD.size hsz,fun g hg=>(hkeep g (aal hg E.sz) fun hm=>Nat.lt_irrefl _ (aal hg (hge g hm))).trans (E.aD.block g hg)⟩,Zt E.sz hsz,fun x hx=>?_,fun i hi=>?_,fun m hm g hg=>?_,?_⟩
 ·rcases hat x hx with ⟨h1,h2⟩|h
  ·have:=E.at_ x h1;exact(hkeep _ this.lt h2).trans this
  ·exact h
 ·rcases hit i hi with ⟨h1,h2⟩|h
  ·exact i.keep (E.it i h1) fun g hg=>hkeep g (i.lt (E.it i h1) g hg) (h2 g hg)
  ·exact h
 ·rw[hc] at hm
  rcases aat hm with h|rfl
  ·exact E.ge m h g hg
  ·rcases hbl g hg with h|h
   ·exact hge g h
   ·exact Zt E.sz h
 ·rw[hc]
  have hne:∀m k,(comps bx is)[k]?=some m→k≠j→∀g∈m,g ∉ l':=fun m k hk hn g hg hg2=>by
   rcases hbl g hg2 with h|h
   ·exact E.apart hk hj hn g hg h
   ·exact Nat.lt_irrefl _ (aal (E.lt m (Zk hk) g hg) h)
  refine List.pairwise_iff_getElem.2 fun p q hp hq hpq=>?_;rw[Z7] at hp hq;have gp:=Zl hp;have gq:=Zl hq;rw[List.getElem_set,List.getElem_set]
  split
  ·rename_i h1
   subst h1;rw[aaR (by omega)];exact fun g hg hm=>hne _ _ gq (by omega) g hm hg
  ·split
   ·rename_i h1 h2
    subst h2;exact hne _ _ gp (by omega)
   ·exact E.apart gp gq (by omega)
theorem set (E:Env b w0 bx is w)(k:Nat){cs:List Value}(hk:bx[k]?=some (g,t,cs))(i:Nat)(v:Value):Env b w0 (bx.set k (g,t,cs.set i v)) is (w.setCell ⟨g,i,none⟩ v):=by
 have hB:=E.blk k hk;have hlt:=(Zo.1 hk).1
 have hj:(comps bx is)[k]?=some [g]:=by
  unfold comps;rw[Z0 (by simpa using hlt),ZU,hk];rfl
 refine E.turn k (l':=[g]) hj rfl rfl rfl (by simp) (fun q hq hn=>Below.heap_setCell w ⟨g,i,none⟩ v q (fun e=>hn (by rw[e];exact Zp.2 rfl))) (fun q hq=>Or.inl hq) ?_ (fun x hx=>?_) (fun j hj2=>?_)
 ·unfold comps;rw[List.set_append_left _ _ (by simpa using hlt),List.map_set]
 ·obtain⟨q,hq⟩:=aaF hx;rw[aaH] at hq
  split at hq
  ·simp only[ZH] at hq;subst hq;exact Or.inr (by have:=hB.aM i v;simpa using this)
  ·rename_i hn
   refine Or.inl ⟨Zk hq,fun hm=>?_⟩
   have hq2:(comps bx is)[q]?=some [x.1]:=by
    have hql:=(Zo.1 hq).1;unfold comps;rw[Z0 (by simpa using hql),ZU,hq];rfl
   exact E.apart hj hq2 hn g (Zp.2 rfl) (Zp.2 (Zp.1 hm).symm)
 ·refine Or.inl ⟨hj2,fun q hq hm=>?_⟩;obtain⟨m,hm2⟩:=aaF hj2;have hml:=(Zo.1 hm2).1
  have hq2:(comps bx is)[bx.length+m]?=some j.bl:=by
   unfold comps;rw[Z8 (by simp),Z5,Nat.add_sub_cancel_left,ZU,hm2];rfl
  exact E.apart hj hq2 (by omega) q hm hq
theorem row (E:Env b w0 bx is w)(k:Nat){i:It}(hk:is[k]?=some i){q:Option Nat}(hg:w.grownBy w' q)(hq:∀g,q=some g→g∈i.bl)(hp:i'.p b w')(hbl:∀g∈i'.bl,g∈i.bl∨w.heap.size≤g):Env b w0 bx (is.set k i') w':=by
 have hlt:=(Zo.1 hk).1
 have hj:(comps bx is)[bx.length+k]?=some i.bl:=by
  unfold comps;rw[Z8 (by simp),Z5,Nat.add_sub_cancel_left,ZU,hk];rfl
 refine E.turn (bx.length+k) (l':=i'.bl) hj hg.os hg.tape hg.output hg.size (fun g h hn=>hg.block g h fun e=>hn (hq g e.symm)) hbl ?_ (fun x hx=>?_) (fun j hj2=>?_)
 ·unfold comps;rw[List.set_append_right _ _ (by simp),Z5,Nat.add_sub_cancel_left,List.map_set]
 ·refine Or.inl ⟨hx,fun hm=>?_⟩;obtain⟨m,hm2⟩:=aaF hx;have hml:=(Zo.1 hm2).1
  have hq2:(comps bx is)[m]?=some [x.1]:=by
   unfold comps;rw[Z0 (by simpa using hml),ZU,hm2];rfl
  exact E.apart hq2 hj (by omega) x.1 (Zp.2 rfl) hm
 ·obtain⟨m,hm2⟩:=aaF hj2;rw[aaH] at hm2
  split at hm2
  ·simp only[ZH] at hm2;subst hm2;exact Or.inr hp
  ·rename_i hn
   have hq2:(comps bx is)[bx.length+m]?=some j.bl:=by
    have hml:=(Zo.1 hm2).1;unfold comps;rw[Z8 (by simp),Z5,Nat.add_sub_cancel_left,ZU,hm2];rfl
   exact Or.inl ⟨Zk hm2,E.apart hq2 hj (by omega)⟩
theorem less (E:Env b w0 bx is w)(k:Nat){i:It}(h:i.p b w→i'.p b w)(hbl:i'.bl=i.bl:=by rfl)(hk:is[k]?=some i:=by rfl):Env b w0 bx (is.set k i') w:=
 E.row k hk (World.grownBy.refl w none) (fun g e=>by cases e) (h (E.get k hk)) (fun g hg=>Or.inl (hbl▸hg))
theorem oQ:∀(l:List α) (q:Nat) (i:α),l[q]?=some i→l=l.take q++i::l.drop (q+1)
 |[],q,i,h=>by simp at h
 |a::l,0,i,h=>by simpa using h
 |a::l,q+1,i,h=>by
  have:=oQ l q i (by simpa using h);simp only[aaw,aap,aax];exact congrArg _ this
theorem Ov:∀(l:List α) (q:Nat) (i i':α),l[q]?=some i→l.set q i'=l.take q++i'::l.drop (q+1)
 |[],q,i,i',h=>by simp at h
 |a::l,0,i,i',h=>by simp
 |a::l,q+1,i,i',h=>by
  simp only[aaK,aaw,aap,aax,Ov l q i i' (by simpa using h)]
theorem front (E:Env b w0 bx is w)(q:Nat){i:It}(hk:is[q]?=some i:=by rfl):Env b w0 bx (i::(is.take q++is.drop (q+1))) w:=E.perm (by
 conv=>lhs;rw[oQ is q i hk]
 exact List.perm_middle)
theorem back (q:Nat)(E:Env b w0 bx (i'::(is.take q++is.drop (q+1))) w){i:It}(hk:is[q]?=some i:=by rfl):Env b w0 bx (is.set q i') w:=E.perm (by
 rw[Ov is q i i' hk];exact List.perm_middle.symm)
def splice (cs:List Value)(i:Nat):List Value→List Value
 |[]=>cs
 |v::vs=>splice (cs.set i v) (i+1) vs
theorem Ez (k:Nat):∀(vs:List Value) {bx:List Bx} {cs:List Value} {w:World} (E:Env b w0 bx is w) (hk:bx[k]?=some (g,t,cs)) (i:Nat),Env b w0 (bx.set k (g,t,splice cs i vs)) is (w.setCells g i vs)
 |[],bx,cs,w,E,hk,i=>by
  have h1:bx.set k (g,t,cs)=bx:=by
   refine List.ext_getElem? fun j=>?_;rw[aaH]
   split
   ·rename_i h
    subst h;have:=(Zo.1 hk).1;rw[aaS this,hk]
   ·rfl
  simpa only[splice,h1,World.setCells] using E
 |v::vs,bx,cs,w,E,hk,i=>by
  have h1:=Ez k vs (E.set k hk i v) (cs:=cs.set i v) (by rw[aaH,aaS rfl,aaS (Zo.1 hk).1]) (i+1);rw[List.set_set] at h1;exact h1
end Env
section
variable{P:Program}{md:Region.Mode}{ops:Array Oper}{Q:Exit→Act→World→Prop}{b:Nat}{w0 w:World}{bx:List Bx}{is:List It}{n f:Nat}{listed:Array Bool}{a:Act}
theorem gX {d:TypeDesc}(hu:P.underlying ty=some d)(hd:d.isRow=false)(hc:w.cell? p=some v):(Instr.loadAt ty (.pointer (some p))).run P w=.ok v w:=by
 have hagg:(isAgg ty).run P w=.ok false w:=by
  unfold isAgg;rw[aaV,run_underlying hu w];cases d<;>simp_all
 simp[Instr.loadAt,Instr.sureAddr,loadVar,aaV,hagg,hc]
theorem eT (hv:v.cells.toList=vs)(ht:w.there g i vs.length)(hi:(P.info? ty).map (·.size)=some vs.length)(h1:vs.all (·.oneCell')=true):(Instr.storeAt ty (.pointer (some ⟨g,i,none⟩)) v).run P w=.ok () (w.setCells g i vs):=by
 have:=run_storeCells_cells (P:=P) g i vs 0 w (fun j hj=>by simpa using (ht j hj).1) (fun j hj=>by simpa using (ht j hj).2) (fun u hu=>(aam.1 h1) u hu);cases hq:P.info? ty with
 |none=>simp[hq] at hi
 |some inf=>
  have hs:v.cells.size=inf.size:=by
   have h2:=congrArg List.length hv;simp[hq] at hi;rw[ZO] at h2;omega
  simp only[Nat.add_zero] at this;simp[Instr.storeAt,Instr.sureAddr,storeVar,sizeOf,typeInfo,hq,hs,hv,this]
def bq (P:Program)(ty:TypeId):Bool:=match P.underlying ty with|some d=>!d.isRow|none=>false
theorem dS (h:bq P ty=true):∃d,P.underlying ty=some d∧d.isRow=false:=by
 unfold bq at h
 split at h
 ·rename_i d hd
  exact⟨d,hd,by simpa using h⟩
 ·cases h
theorem Env.there (E:Env b w0 bx is w){cs:List Value}(hk:bx[k]?=some (g,t,cs))(hl:Nat.ble (i+m) cs.length=true):w.there g i m:=by
 intro j hj;have hl:=Nat.le_of_ble_eq_true hl;refine⟨?_,(E.blk k hk).frozen _⟩;rw[E.cell k hk,Zl (by omega)];rfl
variable{bx0:List Bx}{id:Nat}
theorem fO (d n:Nat)(E:Env b w0 bx is w)(h:∀w',Env b w0 bx is w'→av P .any ops Q (Env b w0 bx0 []) n (bR P .any ops Q n) n (Array.replicate ops.size false) a w')(hd:bx.drop d=bx0:=by rfl)(hm:P.follows .mixedOrders=true:=by kernel_rfl)(hn:decide (n≤ops.size)=true:=by kernel_rfl):(Code.region id ops true).wp P Q a w:=by
 subst hd;exact eH n _ hm hn (h _ E.drew)
variable{is0:List It}
theorem aX (i k:Nat){rest:List Oper}{cs:List Value}(E:Env b w0 bx is w)(h:av P md ops Q (Env b w0 bx0 is0) n (bR P md ops Q n) f (listed.setIfInBounds i true) a' w)
  (hi:ops.toList.drop i=oi::rest:=by rfl) (hB:takeB md ops n i listed=true:=by kernel_rfl) (hQ:∀c a w,Q (.panic c) (a.put oi.dst v) w→Q (.panic c) a w:=by exact fun _ _ _ h=>h) (hg:Region.wanted oi (yielded ops a.tmps)=true:=by rfl) (ho:oi.op=.load ty x:=by rfl) (hx:a.eval x=.pointer (some ⟨g,j,none⟩):=by rfl) (hk:bx0[k]?=some (g,t,cs):=by rfl) (hv:cs[j]?=some v:=by rfl) (hu:bq P ty=true:=by kernel_rfl) (hsi:is0.Sublist is:=by first|exact Zy _|exact Zi _|exact Zj _ (Zi _)) (hsb:bx0.Sublist bx:=by first|exact Zi _|exact Zj _ (Zi _)|exact Zj _ (Zj _ (Zi _))|exact Zj _ (Zj _ (Zj _ (Zi _)))) (ha:a.put oi.dst v=a':=by first|(simp only[Act.put,aaI,aaJ,aaK]<;>rfl)|rfl):av P md ops Q (Env b w0 bx0 is0) n (bR P md ops Q n) (f+1) listed a w:=by
 subst ha;obtain⟨d,hd,hr⟩:=dS hu;refine bL hi hB hQ (Or.inl ⟨hg,fun w' hw'=>?_⟩) (E.sub hsb hsi) h;unfold execOp;simp only[ho,hx,aaV,aaW,aaQ,gX hd hr ((hw'.cell k hk j).trans hv)]
theorem oG (i k m:Nat){rest:List Oper}{cs:List Value}(E:Env b w0 bx is w)(h:av P md ops Q (Env b w0 bx0 is0) n (bR P md ops Q n) f (listed.setIfInBounds i true) a' w)
  (hi:ops.toList.drop i=oi::rest:=by rfl) (hB:takeB md ops n i listed=true:=by kernel_rfl) (hQ:∀c a w,Q (.panic c) (a.put oi.dst (.agg vs.toArray)) w→Q (.panic c) a w:=by exact fun _ _ _ h=>h) (hg:Region.wanted oi (yielded ops a.tmps)=true:=by rfl) (ho:oi.op=.load ty x:=by rfl) (hx:a.eval x=.pointer (some ⟨g,j,none⟩):=by rfl) (hk:bx0[k]?=some (g,t,cs):=by rfl) (hv:(cs.drop j).take m=vs:=by first|(dsimp only[Env.splice,List.set_cons_zero,List.set_cons_succ,List.drop_succ_cons,List.drop_zero,List.take_succ_cons,List.take_zero]<;>rfl)|rfl) (hl:Nat.ble (j+m) cs.length=true:=by rfl) (hu:bq P ty=false:=by kernel_rfl) (hs:(P.info? ty).map (·.size)=some m:=by kernel_rfl) (hd:(P.underlying ty).isSome=true:=by kernel_rfl) (hsi:is0.Sublist is:=by first|exact List.nil_sublist _|exact .refl _|exact List.Sublist.cons _ (List.Sublist.refl _)) (hsb:bx0.Sublist bx:=by first|exact .refl _|exact List.Sublist.cons _ (List.Sublist.refl _)|exact List.Sublist.cons _ (List.Sublist.cons _ (List.Sublist.refl _))|exact List.Sublist.cons _ (List.Sublist.cons _ (List.Sublist.cons _ (List.Sublist.refl _)))) (ha:a.put oi.dst (.agg vs.toArray)=a':=by first|(simp only[Act.put,List.setIfInBounds_toArray,List.set_cons_zero,List.set_cons_succ]<;>rfl)|rfl):av P md ops Q (Env b w0 bx0 is0) n (bR P md ops Q n) (f+1) listed a w:=by
 subst ha;obtain⟨d,hd⟩:=aan.1 hd;have hr:d.isRow=true:=by simpa[bq,hd] using hu
 have hl:=Nat.le_of_ble_eq_true hl;have hvl:vs.length=m:=by rw[←hv,Zw,ZK];omega
 refine bL hi hB hQ (Or.inl ⟨hg,fun w' hw'=>?_⟩) (E.sub hsb hsi) h;unfold execOp
 simp only[ho,hx,aaV,aaW,aaQ,run_loadAt_mid w' g j ty vs d (fun q u hq=>by
  rw[hw'.cell k hk];rw[←hv,aav] at hq
  split at hq
  ·rw[aaj] at hq;exact hq
  ·cases hq) hd hr (by rw[hvl];exact hs)]
theorem ay (i:Nat){rest:List Oper}(E:Env b w0 bx is w)(h:av P md ops Q (Env b w0 bx0 is0) n (bR P md ops Q n) f (listed.setIfInBounds i true) a' w)
  (hi:ops.toList.drop i=oi::rest:=by rfl) (hB:takeB md ops n i listed=true:=by kernel_rfl) (hQ:∀c a w,Q (.panic c) (a.put oi.dst v) w→Q (.panic c) a w:=by exact fun _ _ _ h=>h) (hg:Region.wanted oi (yielded ops a.tmps)=true:=by rfl) (hv:∀w,(execOp a.eval oi).run P w=.ok (.value v) w:=by(intro w;go_simp)<;>with_reducible rfl) (hsi:is0.Sublist is:=by first|exact Zy _|exact Zi _|exact Zj _ (Zi _)) (hsb:bx0.Sublist bx:=by first|exact Zi _|exact Zj _ (Zi _)|exact Zj _ (Zj _ (Zi _))|exact Zj _ (Zj _ (Zj _ (Zi _)))) (ha:a.put oi.dst v=a':=by first|(simp only[Act.put,aaI,aaJ,aaK]<;>rfl)|rfl):av P md ops Q (Env b w0 bx0 is0) n (bR P md ops Q n) (f+1) listed a w:=by
 subst ha;exact   bL hi hB hQ (Or.inl ⟨hg,fun w' _=>hv w'⟩) (E.sub hsb hsi) h
theorem cu (i:Nat){rest:List Oper}{fn:FuncId}(hc:Calls P fn args w R)(h:∀e w',R e w'→∃v,e=.returned v∧Env b w0 bx0 is0 w'∧av P md ops Q (Env b w0 bx0 is0) n (bR P md ops Q n) f (listed.setIfInBounds i true) (a.put oi.dst v) w')
  (hi:ops.toList.drop i=oi::rest:=by rfl) (hB:qN md ops n i listed=true:=by kernel_rfl) (hg:Region.wanted oi (yielded ops a.tmps)=true:=by rfl) (hr:∀w,(execOp a.eval oi).run P w=.ok (.enter fn args) w:=by(intro w;go_simp)<;>with_reducible rfl):av P md ops Q (Env b w0 bx0 is0) n (bR P md ops Q n) (f+1) listed a w:=by
 simp only[qN,Zr,Zx] at hB;refine⟨by rw[hB.1];simp,fun j hj=>?_⟩;rw[hB.1] at hj;obtain rfl:j=i:=by simpa using hj
 refine⟨hB.2,?_⟩;unfold wpOp;simp only[aL hi,hg,if_true];refine Or.inl ?_;unfold Oper.wp;rw[hr w,Oper.upon_enter];refine hc.mono fun e w' hh=>?_;obtain⟨v,rfl,E',h'⟩:=h e w' hh;exact⟨E',h'⟩
theorem uS (i k:Nat){rest:List Oper}{bx':List Bx}{cs:List Value}(E:Env b w0 bx is w)(h:∀w',Env b w0 bx' is w'→av P md ops Q (Env b w0 bx0 is0) n (bR P md ops Q n) f (listed.setIfInBounds i true) a w')
  (hi:ops.toList.drop i=oi::rest:=by rfl) (hB:qN md ops n i listed=true:=by kernel_rfl) (hg:Region.wanted oi (yielded ops a.tmps)=true:=by rfl) (hd:oi.dst=none:=by rfl) (ho:oi.op=.store ty x y:=by rfl) (hx:a.eval x=.pointer (some ⟨g,j,none⟩):=by rfl) (hy:a.eval y=v:=by go_simp<;>with_reducible rfl) (hv:v.cells.toList=vs:=by simp only[Value.cells,List.toList_toArray]<;>rfl) (hi2:(P.info? ty).map (·.size)=some vs.length:=by kernel_rfl) (h1:vs.all (·.oneCell')=true:=by rfl) (hk:bx[k]?=some (g,t,cs):=by rfl) (hl:Nat.ble (j+vs.length) cs.length=true:=by rfl) (hb:bx.set k (g,t,Env.splice cs j vs)=bx':=by first|(dsimp only[Env.splice,List.set_cons_zero,List.set_cons_succ,List.drop_succ_cons,List.drop_zero,List.take_succ_cons,List.take_zero]<;>rfl)|rfl) (hsi:is0.Sublist is:=by first|exact List.nil_sublist _|exact .refl _|exact List.Sublist.cons _ (List.Sublist.refl _)) (hsb:bx0.Sublist bx':=by first|exact .refl _|exact List.Sublist.cons _ (List.Sublist.refl _)|exact List.Sublist.cons _ (List.Sublist.cons _ (List.Sublist.refl _))|exact List.Sublist.cons _ (List.Sublist.cons _ (List.Sublist.cons _ (List.Sublist.refl _)))):av P md ops Q (Env b w0 bx0 is0) n (bR P md ops Q n) (f+1) listed a w:=by
 rw[←hy] at hv;simp only[qN,Zr,Zx] at hB;refine⟨by rw[hB.1];simp,fun q hq=>?_⟩;rw[hB.1] at hq;obtain rfl:q=i:=by simpa using hq
 refine⟨hB.2,?_⟩;unfold wpOp;simp only[aL hi,hg,if_true];refine Or.inl ?_;unfold Oper.wp execOp;simp only[ho,hx,aaV,eT hv (E.there hk hl) hi2 h1,aaQ,aaW];have E':=Env.Ez k vs E hk j;rw[hb] at E';show _∧av _ _ _ _ _ _ _ _ _ (a.put oi.dst undef) _;rw[hd];exact⟨E'.sub hsb hsi,h _ E'⟩
theorem kL (i:Nat){rest:List Oper}(E:Env b w0 bx is w)(h:av P md ops Q (Env b w0 bx0 is0) n (bR P md ops Q n) f (listed.setIfInBounds i true) a' w)
  (hi:ops.toList.drop i=oi::rest:=by rfl) (hB:takeB md ops n i listed=true:=by kernel_rfl) (hQ:∀c a w,Q (.panic c) (a.put oi.dst undef) w→Q (.panic c) a w:=by exact fun _ _ _ h=>h) (hg:Region.wanted oi (yielded ops a.tmps)=false:=by rfl) (hsi:is0.Sublist is:=by first|exact Zy _|exact Zi _|exact Zj _ (Zi _)) (hsb:bx0.Sublist bx:=by first|exact Zi _|exact Zj _ (Zi _)|exact Zj _ (Zj _ (Zi _))|exact Zj _ (Zj _ (Zj _ (Zi _)))) (ha:a.put oi.dst undef=a':=by first|(simp only[Act.put,aaI,aaJ,aaK]<;>rfl)|rfl):av P md ops Q (Env b w0 bx0 is0) n (bR P md ops Q n) (f+1) listed a w:=by
 subst ha;exact bL hi hB hQ (Or.inr ⟨hg,rfl⟩) (E.sub hsb hsi) h
theorem Ie (i:Nat){rest:List Oper}(E:Env b w0 bx is w)(hc:∀w',Env b w0 bx0 is0 w'→w'.cell? q=some v)(h:av P md ops Q (Env b w0 bx0 is0) n (bR P md ops Q n) f (listed.setIfInBounds i true) a' w)
  (hi:ops.toList.drop i=oi::rest:=by rfl) (hB:takeB md ops n i listed=true:=by kernel_rfl) (hQ:∀c a w,Q (.panic c) (a.put oi.dst v) w→Q (.panic c) a w:=by exact fun _ _ _ h=>h) (hg:Region.wanted oi (yielded ops a.tmps)=true:=by rfl) (ho:oi.op=.load ty x:=by rfl) (hx:a.eval x=.pointer (some q):=by rfl) (hu:bq P ty=true:=by kernel_rfl) (hsi:is0.Sublist is:=by first|exact Zy _|exact Zi _|exact Zj _ (Zi _)) (hsb:bx0.Sublist bx:=by first|exact Zi _|exact Zj _ (Zi _)|exact Zj _ (Zj _ (Zi _))|exact Zj _ (Zj _ (Zj _ (Zi _)))) (ha:a.put oi.dst v=a':=by first|(simp only[Act.put,aaI,aaJ,aaK]<;>rfl)|rfl):av P md ops Q (Env b w0 bx0 is0) n (bR P md ops Q n) (f+1) listed a w:=by
 subst ha;obtain⟨d,hd,hr⟩:=dS hu;refine bL hi hB hQ (Or.inl ⟨hg,fun w' hw'=>?_⟩) (E.sub hsb hsi) h;unfold execOp;simp only[ho,hx,aaV,aaW,aaQ,gX hd hr (hc w' hw')]
theorem uZ (i:Nat){rest:List Oper}{e:TypeId}(E:Env b w0 bx is w)(h:∀g w',Env b w0 ((g,e,vs)::bx) is w'→av P md ops Q (Env b w0 bx0 is0) n (bR P md ops Q n) f (listed.setIfInBounds i true) (a.put oi.dst (.slice (some ⟨g,0,none⟩) m m)) w')
  (hi:ops.toList.drop i=oi::rest:=by rfl) (hB:qN md ops n i listed=true:=by kernel_rfl) (hg:Region.wanted oi (yielded ops a.tmps)=true:=by rfl) (hr:(execOp a.eval oi).run P w=.ok (.value (.slice (some ⟨w,0,none⟩) m m)) (w.alloc (.cells vs.toArray e)):=by go_simp<;>first|with_reducible rfl|exact⟨rfl,rfl⟩) (hsi:is0.Sublist is:=by first|exact Zy _|exact Zi _|exact Zj _ (Zi _)) (hsb:bx0.Sublist bx:=by first|exact Zi _|exact Zj _ (Zi _)|exact Zj _ (Zj _ (Zi _))|exact Zj _ (Zj _ (Zj _ (Zi _)))):av P md ops Q (Env b w0 bx0 is0) n (bR P md ops Q n) (f+1) listed a w:=by
 simp only[qN,Zr,Zx] at hB;refine⟨by rw[hB.1];simp,fun j hj=>?_⟩;rw[hB.1] at hj;obtain rfl:j=i:=by simpa using hj
 refine⟨hB.2,?_⟩;unfold wpOp;simp only[aL hi,hg,if_true];refine Or.inl ?_;unfold Oper.wp;rw[hr];have E':=E.alloc e vs;exact⟨E'.sub (Zj _ hsb) hsi,h _ _ E'⟩
theorem lQ (k:Nat){rest:List Oper}{cs:List Value}{bx':List Bx}(E:Env b w0 bx is w)(h:∀w',Env b w0 bx' is w'→wpList P ops Q rest a w')
  (hg:o.guard=none:=by rfl) (hd:o.dst=none:=by rfl) (ho:o.op=.store ty x y:=by rfl) (hx:a.eval x=.pointer (some ⟨g,i,none⟩):=by rfl) (hy:a.eval y=v:=by go_simp<;>with_reducible rfl) (hv:v.cells.toList=vs:=by simp only[Value.cells,List.toList_toArray]<;>rfl) (hi:(P.info? ty).map (·.size)=some vs.length:=by kernel_rfl) (h1:vs.all (·.oneCell')=true:=by rfl) (hk:bx[k]?=some (g,t,cs):=by rfl) (hl:Nat.ble (i+vs.length) cs.length=true:=by rfl) (hb:bx.set k (g,t,Env.splice cs i vs)=bx':=by first|(dsimp only[Env.splice,List.set_cons_zero,List.set_cons_succ,List.drop_succ_cons,List.drop_zero,List.take_succ_cons,List.take_zero]<;>rfl)|rfl):wpList P ops Q (o::rest) a w:=by
 subst hb;rw[←hy] at hv;refine wpList_plain hg fun K hK=>?_;unfold Oper.wp execOp;simp only[ho,hx,aaV,eT hv (E.there hk hl) hi h1,aaQ,aaW];refine hK _ _ ?_;rw[hd];exact h _ (Env.Ez k vs E hk i)
theorem mU (k:Nat){rest:List Oper}{cs:List Value}(E:Env b w0 bx is w)(h:wpList P ops Q rest a' w)
  (hg:Region.wanted o (yielded ops a.tmps)=true:=by rfl) (ho:o.op=.load ty x:=by rfl) (hx:a.eval x=.pointer (some ⟨g,j,none⟩):=by rfl) (hk:bx[k]?=some (g,t,cs):=by rfl) (hv:cs[j]?=some v:=by rfl) (hu:bq P ty=true:=by kernel_rfl) (ha:a.put o.dst v=a':=by first|(simp only[Act.put,aaI,aaJ,aaK]<;>rfl)|rfl):wpList P ops Q (o::rest) a w:=by
 subst ha;obtain⟨d,hd,hr⟩:=dS hu;refine wpList_step fun K hK=>?_;rw[aaS hg];unfold Oper.wp execOp;simp only[ho,hx,aaV,aaW,aaQ,gX hd hr ((E.cell k hk j).trans hv)];exact hK _ _ h
theorem fV {rest:List Oper}(h:wpList P ops Q rest a' w)
  (hg:Region.wanted o (yielded ops a.tmps)=true:=by rfl) (hv:(execOp a.eval o).run P w=.ok (.value v) w:=by go_simp<;>with_reducible rfl) (ha:a.put o.dst v=a':=by first|(simp only[Act.put,aaI,aaJ,aaK]<;>rfl)|rfl):wpList P ops Q (o::rest) a w:=by
 subst ha;refine wpList_step fun K hK=>?_;rw[aaS hg];unfold Oper.wp;rw[hv];exact hK _ _ h
theorem ah {rest:List Oper}{fn:FuncId}(hc:Calls P fn args w R)(h:∀e w',R e w'→∃v,e=.returned v∧wpList P ops Q rest (a.put o.dst v) w')
  (hg:Region.wanted o (yielded ops a.tmps)=true:=by rfl) (hr:(execOp a.eval o).run P w=.ok (.enter fn args) w:=by go_simp<;>with_reducible rfl):wpList P ops Q (o::rest) a w:=by
 refine wpList_step fun K hK=>?_;rw[aaS hg];unfold Oper.wp;rw[hr,Oper.upon_enter];refine hc.mono fun e w' hh=>?_;obtain⟨v,rfl,h'⟩:=h e w' hh;exact hK _ _ h'
theorem dL {S:World→Prop}{L:Array Bool→Act→World→Prop}(h:av P md ops Q S n L f listed a' w)(ha:a=a':=by first|(simp only[Act.put,aaI,aaJ,aaK]<;>rfl)|rfl):av P md ops Q S n L f listed a w:=ha▸h
theorem zO {l:List Oper}(h:wpList P ops Q l a' w)(ha:a=a':=by first|(simp only[Act.put,aaI,aaJ,aaK]<;>rfl)|rfl):wpList P ops Q l a w:=ha▸h
theorem kg {S:World→Prop}{l:List Oper}(h:wpList P ops Q l a w)(hl:ops.toList.drop n=l:=by rfl)(hB:Region.seqB md ops (ops.size - n) n listed=true:=by kernel_rfl):av P md ops Q S n (bR P md ops Q n) 0 listed a w:=lH hB (hl▸h)
theorem PI (d n:Nat)(is0:List It)(E:Env b w0 bx is w)(h:∀w',Env b w0 bx is w'→av P .any ops Q (Env b w0 bx0 is0) n (bR P .any ops Q n) n (Array.replicate ops.size false) a w')(hd:bx.drop d=bx0:=by rfl)(hm:P.follows .mixedOrders=true:=by kernel_rfl)(hn:decide (n≤ops.size)=true:=by kernel_rfl):(Code.region id ops true).wp P Q a w:=by
 subst hd;exact eH n _ hm hn (h _ E.drew)
theorem I5 {y:Code}(d n:Nat)(is0:List It)(E:Env b w0 bx is w)(h:∀w',Env b w0 bx is w'→av P .any ops (Exit.then (y.wp P Q) Q) (Env b w0 bx0 is0) n (bR P .any ops (Exit.then (y.wp P Q) Q) n) n (Array.replicate ops.size false) a w')(hd:bx.drop d=bx0:=by rfl)(hm:P.follows .mixedOrders=true:=by kernel_rfl)(hn:decide (n≤ops.size)=true:=by kernel_rfl):(Code.seq (.region id ops true) y).wp P Q a w:=wp_seq (PI d n is0 E h hd hm hn)
theorem yw {y:Code}(d n:Nat)(E:Env b w0 bx is w)(h:∀w',Env b w0 bx is w'→av P .any ops (Exit.then (y.wp P Q) Q) (Env b w0 bx0 []) n (bR P .any ops (Exit.then (y.wp P Q) Q) n) n (Array.replicate ops.size false) a w')(hd:bx.drop d=bx0:=by rfl)(hm:P.follows .mixedOrders=true:=by kernel_rfl)(hn:decide (n≤ops.size)=true:=by kernel_rfl):(Code.seq (.region id ops true) y).wp P Q a w:=wp_seq (fO d n E h hd hm hn)
theorem dw {y:Code}(n:Nat)(E:Env b w0 bx is w)(h:∀w',Env b w0 bx is w'→av P .any ops (Exit.then (y.wp P Q) Q) (Env b w0 bx []) n (bR P .any ops (Exit.then (y.wp P Q) Q) n) n (Array.replicate ops.size false) a w')(hm:P.follows .mixedOrders=true:=by kernel_rfl)(hn:decide (n≤ops.size)=true:=by kernel_rfl):(Code.seq (.region id ops true) y).wp P Q a w:=yw 0 n E h rfl hm hn
theorem bN {y:Code}{l:List Oper}(h:wpList P ops (Exit.then (y.wp P Q) Q) l a w)(hl:ops.toList=l:=by rfl):(Code.seq (.region id ops false) y).wp P Q a w:=
 wp_seq (wp_region_list (hl▸h))
theorem aC {y:Code}(h:y.wp P Q a w):wpList P ops (Exit.then (y.wp P Q) Q) [] a w:=h
theorem GK {rest:List Oper}(h:wpList P ops Q rest a' w)(hg:Region.wanted o (yielded ops a.tmps)=false:=by rfl)(ha:a.put o.dst undef=a':=by first|(simp only[Act.put,aaI,aaJ,aaK]<;>rfl)|rfl):wpList P ops Q (o::rest) a w:=by
 subst ha;unfold wpList;rw[hg];exact h
theorem aB (k m:Nat){rest:List Oper}{cs:List Value}(E:Env b w0 bx is w)(h:wpList P ops Q rest a' w)
  (hg:o.guard=none:=by rfl) (ho:o.op=.load ty x:=by rfl) (hx:a.eval x=.pointer (some ⟨g,j,none⟩):=by rfl) (hk:bx[k]?=some (g,t,cs):=by rfl) (hv:(cs.drop j).take m=vs:=by first|(dsimp only[Env.splice,List.set_cons_zero,List.set_cons_succ,List.drop_succ_cons,List.drop_zero,List.take_succ_cons,List.take_zero]<;>rfl)|rfl) (hl:Nat.ble (j+m) cs.length=true:=by rfl) (hu:bq P ty=false:=by kernel_rfl) (hs:(P.info? ty).map (·.size)=some m:=by kernel_rfl) (hd:(P.underlying ty).isSome=true:=by kernel_rfl) (ha:a.put o.dst (.agg vs.toArray)=a':=by first|(simp only[Act.put,List.setIfInBounds_toArray,List.set_cons_zero,List.set_cons_succ]<;>rfl)|rfl):wpList P ops Q (o::rest) a w:=by
 subst ha;obtain⟨d,hd⟩:=aan.1 hd;have hr:d.isRow=true:=by simpa[bq,hd] using hu
 have hl:=Nat.le_of_ble_eq_true hl;have hvl:vs.length=m:=by rw[←hv,Zw,ZK];omega
 refine wpList_load_mid hg ty x ho g j hx vs d (fun q u hq=>?_) hd hr (by rw[hvl];exact hs) h;rw[E.cell k hk];rw[←hv,aav] at hq
 split at hq
 ·rw[aaj] at hq;exact hq
 ·cases hq
theorem ak (h:R (.returned v) w)(hr:fn.results=#[.tmp i]:=by rfl)(hd:a.defers=[]:=by rfl)(hx:a.tmps[i]?.getD undef=v:=by rfl):bodyPost P fn R .ret a w:=
 aaT (v:=v) (by simp[results,hr,hx]) hd h
theorem Iy (k:Nat){cs:List Value}(E:Env b w0 bx is w)(h:R (.returned (.agg cs.toArray)) w)(hr:fn.results=#[.cell i ty]:=by rfl)(hd:a.defers=[]:=by rfl)(hx:a.tmps[i]?.getD undef=.pointer (some ⟨g,0,none⟩):=by rfl)(hk:bx[k]?=some (g,t,cs):=by rfl)(hu:bq P ty=false:=by kernel_rfl)(hs:(P.info? ty).map (·.size)=some cs.length:=by kernel_rfl)(hn:(P.underlying ty).isSome=true:=by kernel_rfl):Code.ret.wp P (bodyPost P fn R) a w:=by
 obtain⟨d,hn⟩:=aan.1 hn;have hrow:d.isRow=true:=by simpa[bq,hn] using hu
 refine wp_ret (aaT (v:=.agg cs.toArray) ?_ hd h);simp[results,hr,hx,asAddr,run_loadVar_mid w g 0 ty cs d (fun q u hq=>by rw[E.cell k hk];simpa using hq) hn hrow hs]
theorem Uy {rest:List Oper}{e:TypeId}(E:Env b w0 bx is w)(h:∀g w',Env b w0 ((g,e,vs)::bx) is w'→wpList P ops Q rest (a.put o.dst (.slice (some ⟨g,0,none⟩) m m)) w')
  (hg:o.guard=none:=by rfl) (hr:(execOp a.eval o).run P w=.ok (.value (.slice (some ⟨w,0,none⟩) m m)) (w.alloc (.cells vs.toArray e)):=by go_simp<;>first|with_reducible rfl|exact⟨rfl,rfl⟩):wpList P ops Q (o::rest) a w:=by
 refine wpList_plain hg fun K hK=>?_;unfold Oper.wp;rw[hr];exact hK _ _ (h _ _ (E.alloc e vs))
theorem DT {rest:List Oper}(E:Env b w0 bx is w)(h:∀g w',Env b w0 ((g,elem,vs)::bx) is w'→wpList P ops Q rest (a.put o.dst (.pointer (some ⟨g,0,none⟩))) w')
  (hg:o.guard=none:=by rfl) (ho:o.op=.box elem x:=by rfl) (hy:a.eval x=v:=by go_simp<;>with_reducible rfl) (hv:v.cells.toList=vs:=by simp only[Value.cells,aas]<;>rfl):wpList P ops Q (o::rest) a w:=by
 refine wpList_plain hg fun K hK=>?_;unfold Oper.wp execOp;have hc:(a.eval x).cells=vs.toArray:=by rw[←hv,hy]
 simp only[ho,Instr.box,newVar,newRow,hc,aaV,aaW,run_newObj,aaQ];exact hK _ _ (h _ _ (E.alloc elem vs))
theorem Er {rest:List Oper}{z:Value}(E:Env b w0 bx is w)(h:∀g w',Env b w0 ((g,elem,vs)::bx) is w'→wpList P ops Q rest (a.put o.dst (.pointer (some ⟨g,0,none⟩))) w')
  (hg:o.guard=none:=by rfl) (ho:o.op=.alloc elem:=by rfl) (hz:(zeroValue elem).run P w=.ok z w:=by go_simp<;>with_reducible rfl) (hv:z.cells.toList=vs:=by simp only[Value.cells,aas]<;>rfl):wpList P ops Q (o::rest) a w:=by
 refine wpList_plain hg fun K hK=>?_;unfold Oper.wp execOp;have hc:z.cells=vs.toArray:=by rw[←hv]
 simp only[ho,Instr.alloc,newVar,newRow,hz,hc,aaV,aaW,run_newObj,aaQ];exact hK _ _ (h _ _ (E.alloc elem vs))
theorem bQ {rest:List Oper}(hc:w.cell? p=some v)(h:wpList P ops Q rest a' w)
  (hg:o.guard=none:=by rfl) (ho:o.op=.load ty x:=by rfl) (hx:a.eval x=.pointer (some p):=by rfl) (hu:bq P ty=true:=by kernel_rfl) (ha:a.put o.dst v=a':=by first|(simp only[Act.put,aaI,aaJ,aaK]<;>rfl)|rfl):wpList P ops Q (o::rest) a w:=by
 subst ha;obtain⟨d,hd,hr⟩:=dS hu;refine wpList_plain hg fun K hK=>?_;unfold Oper.wp execOp;simp only[ho,hx,aaV,aaW,aaQ,gX hd hr hc];exact hK _ _ h
theorem JN {l:List Oper}(h:wpList P ops Q l a w)(hl:ops.toList=l:=by rfl):(Code.region id ops false).wp P Q a w:=wp_region_list (hl▸h)
theorem YK {c:Operand}{x y z:Code}(h:x.wp P (Exit.then (z.wp P Q) Q) a w)(hc:a.eval c=true:=by first|rfl|go_simp):(Code.seq (.cond c x y) z).wp P Q a w:=wp_seq (wp_cond hc h)
theorem YN {c:Operand}{x y z:Code}(h:y.wp P (Exit.then (z.wp P Q) Q) a w)(hc:a.eval c=false:=by first|rfl|go_simp):(Code.seq (.cond c x y) z).wp P Q a w:=wp_seq (wp_cond hc h)
theorem Qs {c:Operand}{x y:Code}(h:x.wp P Q a w)(hc:a.eval c=true:=by first|rfl|go_simp):(Code.cond c x y).wp P Q a w:=wp_cond hc h
theorem VX {c:Operand}{x y:Code}(h:y.wp P Q a w)(hc:a.eval c=false:=by first|rfl|go_simp):(Code.cond c x y).wp P Q a w:=wp_cond hc h
theorem jI (h:K a w):wpList P ops (Exit.then K Q) [] a w:=h
theorem WU {z:Code}(h:z.wp P Q a w):Code.skip.wp P (Exit.then (z.wp P Q) Q) a w:=wp_skip h
theorem lK {x z:Code}(h:x.wp P (Exit.inBlock id (Exit.then (z.wp P Q) Q)) a w):(Code.seq (.block id x) z).wp P Q a w:=wp_seq (wp_block h)
theorem ET (h:K a w):wpList P ops (Exit.inBlock id (Exit.then K Q)) [] a w:=h
theorem GY (h:K a w):Code.skip.wp P (Exit.inBlock id (Exit.then K Q)) a w:=wp_skip h
theorem aI (k:Nat){cs:List Value}(E:Env b w0 bx is w)(h:R (.returned (.tuple #[.agg cs.toArray,v])) w)(hr:fn.results=#[.cell i ty,.tmp j]:=by rfl)(hd:a.defers=[]:=by rfl)(hx:a.tmps[i]?.getD undef=.pointer (some ⟨g,0,none⟩):=by rfl)(hv:a.tmps[j]?.getD undef=v:=by rfl)(hk:bx[k]?=some (g,t,cs):=by rfl)(hu:bq P ty=false:=by kernel_rfl)(hs:(P.info? ty).map (·.size)=some cs.length:=by kernel_rfl)(hn:(P.underlying ty).isSome=true:=by kernel_rfl):bodyPost P fn R .ret a w:=by
 obtain⟨d,hn⟩:=aan.1 hn;have hrow:d.isRow=true:=by simpa[bq,hn] using hu
 refine aaT (v:=.tuple #[.agg cs.toArray,v]) ?_ hd h;simp[results,hr,hx,hv,asAddr,run_loadVar_mid w g 0 ty cs d (fun q u hq=>by rw[E.cell k hk];simpa using hq) hn hrow hs]
end
section
variable{P:Program}{md:Region.Mode}{ops:Array Oper}{Q:Exit→Act→World→Prop}{S:World→Prop}{n:Nat}
theorem d9 (i:Nat){rest:List Oper}{f:Nat}(hS:Hid (S w))(hi:ops.toList.drop i=oi::rest:=by rfl)(hB:takeB md ops n i listed=true:=by kernel_rfl)
  (hQ:∀c a w,Q (.panic c) (a.put oi.dst v) w→Q (.panic c) a w:=by exact fun _ _ _ h=>h) (hg:Region.wanted oi (yielded ops a.tmps)=true:=by rfl) (hv:∀w,S w→(execOp a.eval oi).run P w=.ok (.value v) w:=by(intro w hSw;(try dsimp only at hSw);go_simp)<;>with_reducible rfl)
  (h:av P md ops Q S n (bR P md ops Q n) f (listed.setIfInBounds i true) (a.put oi.dst v) w):av P md ops Q S n (bR P md ops Q n) (f+1) listed a w:=
 bL hi hB hQ (Or.inl ⟨hg,hv⟩) hS h
end
theorem sF:(prog.info? 5).map (fun i=>(i.zero,i.size,i.bytes))=some (some (.int .u8 0),1,1):=by kernel_rfl
theorem jS:∀w,(Go.sizeOf 5).run prog w=.ok 1 w:=by
 obtain⟨i0,hi0,hz0,hz1,hz2⟩:=info_parts sF;intro w;simp[sizeOf,typeInfo,hi0,hz1]
theorem NZ {rest:List Oper}(hgd:o.guard=none)(s x:Operand)
  (ho:o.op=.call { callee:=.builtin .append,args:=#[s,x],argTypes:=#[46,46] })
  (base:Nat) (v:Value) (n:Nat) (l:List UInt8) (hs:a.eval s=v) (hown:w.ownsRow base 5 1 v n (cb l)) (b:Int) (hx:a.eval x=.slice (some ⟨w,0,none⟩) 1 1)
  (hb0:0≤b) (hb1:b≤255) (hn:n≤1000000000000) (hbase:base≤w.heap.size)
  (h:∀v' w',w'.ownsRow base 5 1 v' (n+1) (cb (l++[UInt8.ofNat b.toNat]))→dX w w' v v'→wpList prog ops Q rest (a.put o.dst v') w') :
  wpList prog ops Q (o::rest) a (w.alloc (.cells #[.int .u8 b] 5)):=by
 obtain⟨i0,hi0,hz0,hz1,hz2⟩:=info_parts sF;have hr:=Reads.new w 5 #[.int .u8 b];refine bB _ hgd s x 46 ho base 5 i0 _ 1 1 underlying46 hi0 hz0 hz1 hz2 rfl (by decide) v n (cb l) hs (hown.alloc _) _ _ 1 1 [.int .u8 b] hx hr (by simp;rfl) (by simp only[maxLen];omega) (by omega) (by simp;omega) ?_;intro v' w' h1 h2 h3;refine h v' w' ?_ ⟨jE h2,?_⟩
 ·have e1:((UInt8.ofNat b.toNat).toNat:Int)=b:=by
   rw[UInt8.toNat_ofNat'];have:b.toNat % 2 ^ 8=b.toNat:=Nat.mod_eq_of_lt (by omega);rw[this];omega
  have e2:cb (l++[UInt8.ofNat b.toNat])=cb l++[.int .u8 b]:=by
   rw[qM];simp only[cb,List.map_cons,List.map_nil,e1]
  rw[e2];exact h1
 ·rcases h3 with h3|h3
  ·exact Or.inl h3
  ·exact Or.inr ⟨_,h3,by simp⟩
theorem yu {rest:List Oper}(hgd:o.guard=none)(sl x:Operand)
  (ho:o.op=.call { callee:=.builtin .append,args:=#[sl,x],argTypes:=#[46,46] })
  (base:Nat) (v:Value) (n:Nat) (l:List UInt8) (hs:a.eval sl=v) (hown:w.ownsRow base 5 1 v n (cb l))
  (B:Nat) (A:Option Addr) (m c:Nat) (news:List UInt8) (hx:a.eval x=.slice A m c) (hr:Reads w B 1 A m (cb news))
  (hn:n+m≤1000000000000) (hbase:base≤w.heap.size)
  (h:∀v' w',w'.ownsRow base 5 1 v' (n+m) (cb (l++news))→dX w w' v v'→wpList prog ops Q rest (a.put o.dst v') w') :
  wpList prog ops Q (o::rest) a w:=by
 obtain⟨i0,hi0,hz0,hz1,hz2⟩:=info_parts sF;refine bB _ hgd sl x 46 ho base 5 i0 _ 1 1 underlying46 hi0 hz0 hz1 hz2 rfl (by decide) v n (cb l) hs hown B A m c (cb news) hx hr (OT _) (by simp only[maxLen];omega) (by omega) hbase ?_;intro v' w' h1 h2 h3;refine h v' w' (by rw[qM];exact h1) ⟨h2,?_⟩
 rcases h3 with h3|h3
 ·exact Or.inl h3
 ·exact Or.inr ⟨_,h3,Zh _⟩
theorem Rb {rest:List Oper}(hgd:o.guard=none)(sl x:Operand)
  (ho:o.op=.call { callee:=.builtin .append,args:=#[sl,x],argTypes:=#[46,9] })
  (base:Nat) (v:Value) (n:Nat) (l:List UInt8) (hs:a.eval sl=v) (hown:w.ownsRow base 5 1 v n (cb l)) (s:ByteArray) (hx:a.eval x=s)
  (hn:n+s.size≤1000000000000) (hbase:base≤w.heap.size)
  (h:∀v' w',w'.ownsRow base 5 1 v' (n+s.size) (cb (l++s.data.toList))→w.grownBy w' v.ownBlock→wpList prog ops Q rest (a.put o.dst v') w') :
  wpList prog ops Q (o::rest) a w:=by
 obtain⟨i0,hi0,hz0,hz1,hz2⟩:=info_parts sF;refine Lib.wpList_append_own_string _ hgd sl x 46 9 ho base 5 i0 underlying46 underlying9 hi0 hz0 hz1 hz2 v n (cb l) hs hown s hx (by simp only[maxLen];omega) (by omega) hbase ?_;intro v' w' h1 h2 _;exact h v' w' (by rw[qM];exact h1) h2
namespace Nm
def Dn:Nat→Nat→List UInt8
 |0,n=>[UInt8.ofNat n]
 |f+1,n=>if n<128 then [UInt8.ofNat n] else UInt8.ofNat (n % 128+128)::Dn f (n / 128)
def enc (n:Nat):List UInt8:=Dn n n
theorem Mr:∀(f g n:Nat),n≤f→n≤g→Dn f n=Dn g n:=by
 intro f
 induction f with
 |zero=>
  intro g n hf hg;have:n=0:=by omega
  subst this;cases g with
  |zero=>rfl
  |succ g=>simp[Dn]
 |succ f ih=>
  intro g n hf hg;cases g with
  |zero=>
   have:n=0:=by omega
   subst this;simp[Dn]
  |succ g=>
   unfold Dn
   by_cases h:n<128
   ·simp[h]
   ·simp only[h,if_false];rw[ih g (n / 128) (by omega) (by omega)]
theorem jo {n:Nat}(h:n<128):enc n=[UInt8.ofNat n]:=by
 unfold enc;cases n with
 |zero=>rfl
 |succ n=>unfold Dn;simp[h]
theorem xG {n:Nat}(h:128≤n):enc n=UInt8.ofNat (n % 128+128)::enc (n / 128):=by
 unfold enc;cases n with
 |zero=>omega
 |succ n=>
  conv=>lhs;unfold Dn
  rw[aaR (by omega)];rw[Mr n ((n+1) / 128) ((n+1) / 128) (by omega) (by omega)]
theorem vR (n:Nat):0<(enc n).length:=by
 rcases aaA n 128 with h|h
 ·rw[jo h];simp
 ·rw[xG h];simp
theorem nY:∀(k n:Nat),n<128 ^ (k+1)→(enc n).length≤k+1:=by
 intro k
 induction k with
 |zero=>intro n h;rw[jo (by omega)];simp
 |succ k ih=>
  intro n h
  rcases aaA n 128 with h1|h1
  ·rw[jo h1];simp
  ·rw[xG h1];have:=ih (n / 128) (by rw[Nat.div_lt_iff_lt_mul (by omega)];rw[Nat.pow_succ] at h;exact h);simp only[ZI];omega
theorem qH {n:Nat}(h:n≤9223372036854775807):(enc n).length≤10:=nY 9 n (by omega)
theorem dV {n:Nat}(h:n≤1099511627776):(enc n).length≤6:=nY 5 n (by omega)
def dec:List UInt8→Nat→Nat→Option (Nat×Nat)
 |[],_,_=>none
 |x::r,i,a=>
  if 5<i then none
  else if 128≤x.toNat then dec r (i+1) (a+x.toNat % 128*128 ^ i)
  else if x.toNat=0∧0<i∨1099511627776<a+x.toNat % 128*128 ^ i then none
  else some (a+x.toNat % 128*128 ^ i,i+1)
def get (l:List UInt8):Option (Nat×Nat):=dec l 0 0
theorem FY {n:Nat}(h:n<256):(UInt8.ofNat n).toNat=n:=by
 rw[UInt8.toNat_ofNat'];exact Nat.mod_eq_of_lt h
theorem QU:∀(f n i a:Nat) (b:List UInt8),n≤f→a+n*128 ^ i≤1099511627776→(0<n∨i=0)→i≤5→dec (enc n++b) i a=some (a+n*128 ^ i,i+(enc n).length):=by
 intro f
 induction f with
 |zero=>
  intro n i a b hf hm hn hi;have:n=0:=by omega
  subst this;rw[jo (by omega)];have:i=0:=by omega
  subst this;simp[dec] at hm ⊢;omega
 |succ f ih=>
  intro n i a b hf hm hn hi
  rcases aaA n 128 with h|h
  ·rw[jo h];have e:(UInt8.ofNat n).toNat=n:=FY (by omega);simp only[aap,aay,dec,e,List.length_singleton];rw[aaR (by omega),aaR (by omega),Nat.mod_eq_of_lt h,aaR (by omega)]
  ·rw[xG h];have e:(UInt8.ofNat (n % 128+128)).toNat=n % 128+128:=FY (by omega);simp only[aap,dec,e,ZI];have e2:(n % 128+128) % 128=n % 128:=by omega
   have e3:a+n % 128*128 ^ i+n / 128*128 ^ (i+1)=a+n*128 ^ i:=by
    have h1:n=128*(n / 128)+n % 128:=(Nat.div_add_mod n 128).symm;rw[Nat.pow_succ];generalize 128 ^ i=p;have h2:n / 128*(p*128)=128*(n / 128)*p:=by rw[Nat.mul_comm p 128,←Nat.mul_assoc,Nat.mul_comm (n / 128) 128]
    rw[h2,Nat.add_assoc,←Nat.add_mul,Nat.add_comm (n % 128),←h1]
   have hlt:i+1≤5:=by
    rcases aaA i 5 with h5|h5
    ·omega
    ·have:i=5:=by omega
     subst this;omega
   rw[aaR (by omega),aaS (by omega),e2,ih (n / 128) (i+1) (a+n % 128*128 ^ i) b (by omega) (by omega) (Or.inl (by omega)) hlt,e3];simp only[ZH,ZV];exact⟨trivial,by omega⟩
theorem nU {n:Nat}(h:n≤1099511627776)(b:List UInt8):get (enc n++b)=some (n,(enc n).length):=by
 have:=QU n n 0 0 b (Zh _) (by omega) (Or.inr rfl) (by omega);simpa[get] using this
theorem NR:∀(l:List UInt8) (i a m k:Nat),dec l i a=some (m,k)→∃n,m=a+n*128 ^ i∧k=i+(enc n).length∧(enc n).length≤l.length∧enc n=l.take (enc n).length∧m≤1099511627776∧(0<n∨i=0):=by
 intro l
 induction l with
 |nil=>intro i a m k h;simp[dec] at h
 |cons x r ih=>
  intro i a m k h;unfold dec at h;have hx:=x.toNat_lt
  split at h
  ·cases h
  ·split at h
   ·rename_i h5 h1
    obtain⟨n,h2,h3,h4,h6,h7,h8⟩:=ih _ _ _ _ h
    have hn:0<n:=by
     rcases h8 with h8|h8
     ·exact h8
     ·omega
    have hen:enc (128*n+x.toNat % 128)=x::enc n:=by
     rw[xG (by omega)];have e1:(128*n+x.toNat % 128) % 128+128=x.toNat:=by omega
     have e2:(128*n+x.toNat % 128) / 128=n:=by omega
     rw[e1,e2];simp
    refine⟨128*n+x.toNat % 128,?_,?_,?_,?_,h7,Or.inl (by omega)⟩
    ·rw[h2,Nat.pow_succ];generalize 128 ^ i=p;have h9:n*(p*128)=128*n*p:=by rw[Nat.mul_comm p 128,←Nat.mul_assoc,Nat.mul_comm n 128]
     rw[h9,Nat.add_mul];omega
    ·rw[hen,h3];simp only[ZI];omega
    ·rw[hen];simp only[ZI];omega
    ·rw[hen];simp only[ZI,aaw];rw[←h6]
   ·split at h
    ·cases h
    ·rename_i h5 h1 h2
     have hx2:x.toNat % 128=x.toNat:=Nat.mod_eq_of_lt (by omega);rw[hx2] at h h2;simp only[ZH,ZV] at h;have hen:enc x.toNat=[x]:=by rw[jo (by omega)];simp
     refine⟨x.toNat,by omega,by rw[hen,←h.2];rfl,by rw[hen];simp,by rw[hen];rfl,by omega,by omega⟩
theorem gD {l:List UInt8}(h:get l=some (m,k)):m≤1099511627776∧k=(enc m).length∧k≤l.length∧enc m=l.take k:=by
 obtain⟨n,h1,h2,h3,h4,h5,_⟩:=NR l 0 0 m k h;have e:m=n:=by simpa using h1
 subst e;have e2:k=(enc m).length:=by simpa using h2
 exact⟨h5,e2,by omega,by rw[e2];exact h4⟩
theorem Q6 {l:List UInt8}(h:get l=some (m,k)):0<k∧k≤6:=by
 obtain⟨h1,h2,_,_⟩:=gD h;have:=vR m;have:=dV h1;omega
end Nm
variable{d:List UInt8}{base:Nat}{x':Value}{wr:World}
theorem ql (a:Nat)(ha:a<9223372036854775808):(BitVec.ofInt 64 (a:Int)).toNat=a:=by
 rw[BitVec.ofInt_natCast,BitVec.toNat_ofNat];exact Nat.mod_eq_of_lt (by omega)
theorem vY (a b:Nat)(ha:a<9223372036854775808)(hb:b<9223372036854775808):bits .and .i64 (a:Int) (b:Int)=((a &&& b:Nat):Int):=by
 have hx:a &&& b<2 ^ 63:=Nat.and_lt_two_pow _ (by omega);show IntKind.i64.wrap ((BitVec.ofInt 64 (a:Int) &&& BitVec.ofInt 64 (b:Int)).toNat:Int)=_;rw[BitVec.toNat_and,ql a ha,ql b hb,IntKind.wrap_i64];omega
theorem yR (a b:Nat)(ha:a<9223372036854775808)(hb:b<9223372036854775808):bits .or .i64 (a:Int) (b:Int)=((a ||| b:Nat):Int):=by
 have hx:a ||| b<2 ^ 63:=Nat.or_lt_two_pow (by omega) (by omega);show IntKind.i64.wrap ((BitVec.ofInt 64 (a:Int) ||| BitVec.ofInt 64 (b:Int)).toNat:Int)=_;rw[BitVec.toNat_or,ql a ha,ql b hb,IntKind.wrap_i64];omega
theorem U7 (k:Nat)(hk:k<9223372036854775808):bits .and .i64 (k:Int) 127=(k:Int) % 128:=by
 have h:=vY k 127 hk (by omega);have e:k &&& 127=k % 128:=Nat.and_two_pow_sub_one_eq_mod k 7;rw[e] at h;exact h
theorem Wq (k:Nat):bits .or .i64 ((k:Int) % 128) 128=(k:Int) % 128+128:=by
 have h:=yR (k % 128) 128 (by omega) (by omega)
 have e:k % 128 ||| 128=128+k % 128:=by
  have:=Nat.two_pow_add_eq_or_of_lt (i:=7) (b:=k % 128) (by omega) 1;rw[Nat.or_comm];exact this.symm
 rw[e] at h;have h2:((k % 128:Nat):Int)=(k:Int) % 128:=by omega
 rw[h2] at h;rw[show((128:Nat):Int)=128 from rfl] at h;rw[h];omega
theorem BD (n:Int)(w:World)(h0:0≤n)(h1:n≤1099511627776):Calls prog 198 #[n] w fun e w'=>e=.returned true∧w=w':=by
 go_enter func198,ntmps198
 go_wp2;go_ret;exact⟨rfl,rfl⟩
theorem Nn (n:Int)(w:World)(h:¬(0≤n∧n≤1099511627776)):Calls prog 198 #[n] w fun e w'=>e=.returned false∧w=w':=by
 by_cases h0:0≤n
 ·have h2:decide (n≤1099511627776)=false:=by simp;omega
  clear h
  go_enter func198,ntmps198
  go_wp2;go_ret;exact⟨rfl,rfl⟩
 ·have h2:decide (0≤n)=false:=by simp;omega
  clear h h0
  go_enter func198,ntmps198
  go_wp2;go_ret;exact⟨rfl,rfl⟩
def PG (base:Nat)(v:Value)(m:Nat)(l:List UInt8)(n:Nat)(w:World)(x y:Value)(wr:World):Prop:=
 ∃(k m':Nat) (d:List UInt8),y=(k:Int)∧(k:Int)≤9223372036854775807∧d++Nm.enc k=Nm.enc n∧m'=m+d.length∧wr.ownsRow base 5 1 x m' (cb (l++d))∧dX w wr v x∧base≤wr.heap.size
theorem FP {n:Nat}{x:Value}{l:List UInt8}(hk:(k:Int)≤9223372036854775807)(hd:d++Nm.enc k=Nm.enc n)(hg:dX w wr v x)(hb:base≤wr.heap.size)(hlt:127<k)
  (hown:w1.ownsRow base 5 1 x' (m+d.length+1) (cb (l++(d++[UInt8.ofNat ((k:Int) % 128+128).toNat])))) (hg1:dX wr w1 x x'):PG base v m l n w x' (.int .i64 ((k:Int) / 128)) w1:=by
 refine⟨k / 128,_,d++[UInt8.ofNat (k % 128+128)],by rw[show((k / 128:Nat):Int)=(k:Int) / 128 by omega],by omega,?_,rfl,?_,hg.trans hg1,Zt hb hg1.size⟩
 ·rw[←hd,Nm.xG (n:=k) (by omega),ZN];rfl
 ·rw[show((k:Int) % 128+128).toNat=k % 128+128 by omega] at hown;rw[Zn,List.length_singleton,←Nat.add_assoc];exact hown
theorem G9 {n:Nat}{x:Value}{l:List UInt8}(hd:d++Nm.enc k=Nm.enc n)(hg:dX w wr v x)(hlt:¬127<k)
  (hown:w1.ownsRow base 5 1 x' (m+d.length+1) (cb (l++(d++[UInt8.ofNat k])))) (hg1:dX wr w1 x x') :
  w1.ownsRow base 5 1 x' (m+(Nm.enc n).length) (cb (l++Nm.enc n))∧dX w w1 v x':=by
 refine⟨?_,hg.trans hg1⟩;rw[←hd,Nm.jo (n:=k) (by omega),Zn,List.length_singleton,←Nat.add_assoc];exact hown
theorem wZ (base:Nat)(v:Value)(m:Nat)(l:List UInt8)(n:Int)(w:World)(hown:w.ownsRow base 5 1 v m (cb l))(hm:m≤1000000000)(h0:0≤n)(h1:n≤9223372036854775807)(hb:base≤w.heap.size) :
  Calls prog 199 #[v,n] w fun e w'=>∃v',e=.returned v'∧w'.ownsRow base 5 1 v' (m+(Nm.enc n.toNat).length) (cb (l++Nm.enc n.toNat))∧dX w w' v v':=by
 obtain⟨n,rfl⟩:=Int.eq_ofNat_of_zero_le h0;rw[Z9]
 go_enter func199,ntmps199
 go_wp2
 go_loopw [0,1] (fun x y wr=>PG base v m l n w x y wr) (fun _ y _=>(intOf y).toNat)
 case atStart=>exact⟨n,m,[],rfl,h1,by simp,by simp,by simpa using hown,dX.refl _ _,hb⟩
 case round=>
  obtain⟨k,m',d,rfl,hk,hd,hm',hown',hg,hbw⟩:=hrel;have hl:=Nm.qH (n:=n) (by omega);have hd1:d.length≤10:=by rw[←hd,Zn] at hl;omega
  subst hm'
  by_cases hlt:127<k
  ·have hA:bits .and .i64 (k:Int) 127=(k:Int) % 128:=U7 k (by omega);have hO:bits .or .i64 ((k:Int) % 128) 128=(k:Int) % 128+128:=Wq k;go_wp2_with (at_builtin;refine NZ rfl (.tmp 9) (.tmp 14) rfl base u0 (m+d.length) (l++d) rfl hown' ((k:Int) % 128+128) rfl ?c1 ?c2 ?c3 ?c4 ?_)
   case c1=>omega
   case c2=>omega
   case c3=>omega
   case c4=>omega
   ·intro v' w1 hown2 hg2;have HO:=L_ hown2;have HG:=L_ hg2;clear hown2 hg2;go_wp2
    go_roundw
    case rel=>exact FP hk hd hg hbw hlt HO HG
    case measure=>simp[intOf];omega
  ·have hk2:(k:Int)≤127:=by omega
   go_wp2_with (at_builtin;refine NZ rfl (.tmp 16) (.tmp 19) rfl base u0 (m+d.length) (l++d) rfl hown' (k:Int) rfl ?c1 ?c2 ?c3 ?c4 ?_)
   case c1=>omega
   case c2=>omega
   case c3=>omega
   case c4=>omega
   ·intro v' w1 hown2 hg2;have HO:=L_ hown2;have HG:=L_ hg2;clear hown2 hg2;go_wp2;go_ret;exact⟨_,rfl,G9 hd hg hlt HO HG⟩
def UO (r:Option (Nat×Nat)):Value:=match r with
 |some (m,k)=>.tuple #[(m:Int),(k:Int),.int .i64 0]
 |none=>.tuple #[.int .i64 0,.int .i64 0,.int .i64 8]
theorem ofInt_u8 (a:Nat)(ha:a<256):(BitVec.ofInt 8 (a:Int)).toNat=a:=by
 rw[BitVec.ofInt_natCast,BitVec.toNat_ofNat];exact Nat.mod_eq_of_lt (by omega)
theorem Ny (x:Nat)(h:x<256):bits .and .u8 (x:Int) 127=((x % 128:Nat):Int):=by
 have e:x &&& 127=x % 128:=Nat.and_two_pow_sub_one_eq_mod x 7;show IntKind.u8.wrap ((BitVec.ofInt 8 (x:Int) &&& BitVec.ofInt 8 ((127:Nat):Int)).toNat:Int)=_;rw[BitVec.toNat_and,ofInt_u8 x h,ofInt_u8 127 (by omega),e,IntKind.wrap_u8];omega
theorem NU (k:Nat):2 ^ (7*k)=128 ^ k:=by rw[Nat.pow_mul]
theorem Pq {a y:Nat}(h:a<128 ^ k):a ||| y*128 ^ k=a+y*128 ^ k:=by
 rw[←NU] at h ⊢;have:=Nat.two_pow_add_eq_or_of_lt h y;rw[Nat.or_comm,Nat.mul_comm y,←this];omega
theorem Oa (h:k≤5):128 ^ k≤34359738368:=Zt (Nat.pow_le_pow_right (by omega) h) (by decide)
theorem MU {a x:Nat}(h:a<128 ^ k)(hx:x<256)(hk:k≤5) :
  bits BinOp.or IntKind.i64 (a:Int) (wrap64 (wrap64 (bits BinOp.and IntKind.u8 (x:Int) 127)*2 ^ (7*k)))=((a+x % 128*128 ^ k:Nat):Int):=by
 have hp:=Oa hk;rw[Ny x hx];have e1:wrap64 (((x % 128:Nat):Int))=((x % 128:Nat):Int):=IntWalk.wrap64_in _ ⟨by omega,by omega⟩;rw[e1]
 have e2:((x % 128:Nat):Int)*2 ^ (7*k)=((x % 128*128 ^ k:Nat):Int):=by
  rw[←NU]
  push_cast
  rfl
 rw[e2];have hb:x % 128*128 ^ k≤127*34359738368:=Nat.mul_le_mul (by omega) hp;have e3:wrap64 ((x % 128*128 ^ k:Nat):Int)=((x % 128*128 ^ k:Nat):Int):=IntWalk.wrap64_in _ ⟨by omega,by omega⟩;rw[e3,yR _ _ (by omega) (by omega),Pq h]
theorem Uj {a x:Nat}(h:a<128 ^ k):a+x % 128*128 ^ k<128 ^ (k+1):=by
 rw[Nat.pow_succ];generalize 128 ^ k=p at *;have:x % 128*p≤127*p:=ZR _ (by omega);omega
def UM (l:List UInt8)(x y:Value):Prop:=∃a k:Nat,x=(a:Int)∧y=(k:Int)∧k≤l.length∧k≤6∧a<128 ^ k∧Nm.dec (l.drop k) k a=Nm.get l
theorem drop_at {l:List α}(h:k<l.length):l.drop k=l[k]::l.drop (k+1):=List.drop_eq_getElem_cons h
theorem wP (A:Option Addr)(n c B:Nat)(l:List UInt8)(w:World)(hr:Reads w B 1 A n (cb l))(hn:n≤1000000000000) :
  Calls prog 183 #[.slice A n c] w fun e w'=>e=.returned (UO (Nm.get l))∧w=w':=by
 have hl:=hr.mR
 go_enter func183,ntmps183
 go_wp2
 go_loop [2,9] (fun x y=>UM l x y) (fun _ y=>n - (intOf y).toNat)
 case atStart=>exact⟨0,0,rfl,rfl,by omega,by omega,by simp,rfl⟩
 case round=>
  obtain⟨a,k,rfl,rfl,hk,hk6,ha,hd⟩:=hrel
  by_cases hlt:k<n
  ·obtain⟨ad,u,rfl,hb,hu,hc⟩:=hr.at_ hlt;have hg:l[k]?=some (l[k]'(by omega)):=Zl (by omega);rw[Pz,hg] at hu;simp only[aad,ZH] at hu;subst hu;rw[drop_at (by omega)] at hd;clear hg;generalize l[k]'(by omega)=x at *;have hx:=x.toNat_lt;have HD:=L_ hd;clear hd
   by_cases h5:5<k
   ·go_wp2
    go_ret3
    have hd:=HD.out;unfold Nm.dec at hd;rw[aaS h5] at hd;rw[←hd];exact⟨rfl,rfl⟩
   ·have hs:=MU ha hx (by omega);have ha2:=Uj (x:=x.toNat) ha;have hp:=Oa (k:=k) (by omega);have hb2:x.toNat % 128*128 ^ k≤127*34359738368:=Nat.mul_le_mul (by omega) hp;have hb3:a+x.toNat % 128*128 ^ k≤9223372036854775807:=by omega
    have hd:Nm.dec (x::l.drop (k+1)) k a=if 128≤x.toNat then Nm.dec (l.drop (k+1)) (k+1) (a+x.toNat % 128*128 ^ k) else if x.toNat=0∧0<k∨1099511627776<a+x.toNat % 128*128 ^ k then none else some (a+x.toNat % 128*128 ^ k,k+1):=by
     conv=>lhs;unfold Nm.dec
     rw[aaR (by omega)]
    rw[HD.out] at hd;clear hb2 hp;generalize a+x.toNat % 128*128 ^ k=a2 at *;have HD2:=L_ hd;clear hd HD
    by_cases h127:127<x.toNat
    ·go_wp2
     go_round
     case rel=>exact⟨a2,k+1,rfl,by go_num,by omega,by omega,ha2,by rw[HD2.out,aaS (by omega)]⟩
     case measure=>simp[intOf];omega
    ·by_cases h0:x.toNat=0∧0<k
     ·obtain⟨h0,h0k⟩:=h0;have hz:((x.toNat:Int)==0)=true:=by simp[h0]
      have H0:=L_ h0;clear h0;go_wp2
      go_ret3
      rw[HD2.out,aaR (by omega),aaS (Or.inl ⟨H0.out,h0k⟩)];exact⟨rfl,rfl⟩
     ·have H0:=L_ h0
      by_cases hx0:x.toNat=0
      ·have hk0:¬0<k:=fun h=>h0 ⟨hx0,h⟩;have hz:((x.toNat:Int)==0)=true:=by simp[hx0]
       have hk1:decide (0<k)=false:=by simp;omega
       clear h0 hx0
       by_cases hm:1099511627776<a2
       ·have hi:=L_ (Nn (a2:Int) w (by omega));go_wp2_with (first|(with_reducible refine hi.out.mono ?_;rintro e w' ⟨rfl,rfl⟩))
        go_ret3
        rw[HD2.out,aaR (by omega),aaS (Or.inr hm)];exact⟨rfl,rfl⟩
       ·have hi:=L_ (BD (a2:Int) w (by omega) (by omega));go_wp2_with (first|(with_reducible refine hi.out.mono ?_;rintro e w' ⟨rfl,rfl⟩))
        go_ret3
        rw[HD2.out,aaR (by omega),aaR (fun h=>h.elim (fun h=>H0.out h) hm)];exact⟨rfl,rfl⟩
      ·have hz:((x.toNat:Int)==0)=false:=by simp;omega
       clear h0 hx0
       by_cases hm:1099511627776<a2
       ·have hi:=L_ (Nn (a2:Int) w (by omega));go_wp2_with (first|(with_reducible refine hi.out.mono ?_;rintro e w' ⟨rfl,rfl⟩))
        go_ret3
        rw[HD2.out,aaR (by omega),aaS (Or.inr hm)];exact⟨rfl,rfl⟩
       ·have hi:=L_ (BD (a2:Int) w (by omega) (by omega));go_wp2_with (first|(with_reducible refine hi.out.mono ?_;rintro e w' ⟨rfl,rfl⟩))
        go_ret3
        rw[HD2.out,aaR (by omega),aaR (fun h=>h.elim (fun h=>H0.out h) hm)];exact⟨rfl,rfl⟩
  ·go_wp2
   go_ret3
   have hd2:=hd;rw[List.drop_eq_nil_of_le (by omega)] at hd2;rw[←hd2];exact⟨rfl,rfl⟩
theorem Il (A:Option Addr)(n c B:Nat)(l:List UInt8)(m k:Nat)(w:World)(hr:Reads w B 1 A n (cb l))(hn:n≤1000000000000)(h:Nm.get l=some (m,k)) :
  Calls prog 183 #[.slice A n c] w fun e w'=>e=.returned (.tuple #[(m:Int),(k:Int),.int .i64 0])∧w=w':=by
 have:=wP A n c B l w hr hn;rw[h] at this;exact this
theorem Gx (A:Option Addr)(n c B:Nat)(l:List UInt8)(w:World)(hr:Reads w B 1 A n (cb l))(hn:n≤1000000000000)(h:Nm.get l=none) :
  Calls prog 183 #[.slice A n c] w fun e w'=>e=.returned (.tuple #[.int .i64 0,.int .i64 0,.int .i64 8])∧w=w':=by
 have:=wP A n c B l w hr hn;rw[h] at this;exact this
namespace Nm
def txt (s:List UInt8):List UInt8:=enc s.length++s
def bE (l:List UInt8):Option (List UInt8×Nat):=match get l with
 |some (n,k)=>if 4096<n∨l.length - k<n then none else some ((l.drop k).take n,k+n)
 |none=>none
theorem lW {s:List UInt8}(h:s.length≤4096)(b:List UInt8):bE (txt s++b)=some (s,(txt s).length):=by
 unfold bE txt;rw[ZN,nU (by omega)];simp only;rw[aaR (by simp only[Zn];omega)];simp
theorem bG {l t:List UInt8}(h:bE l=some (t,k)):t.length≤4096∧k=(txt t).length∧k≤l.length∧txt t=l.take k∧0<k:=by
 unfold bE at h;cases hg:get l with
 |none=>rw[hg] at h;cases h
 |some p=>
  obtain⟨n,j⟩:=p;rw[hg] at h;simp only at h
  split at h
  ·cases h
  ·rename_i hc
   simp only[ZH,ZV] at h;obtain⟨rfl,rfl⟩:=h;obtain⟨h1,h2,h3,h4⟩:=gD hg;have hp:=Q6 hg;have hlen:((l.drop j).take n).length=n:=by rw[Zw,ZK];omega
   refine⟨by omega,?_,by omega,?_,by omega⟩
   ·unfold txt;rw[hlen,Zn,hlen,←h2]
   ·unfold txt;rw[hlen,h4,List.take_add]
end Nm
open Go.RowKit
set_option maxHeartbeats 400000
set_option maxRecDepth 100000
set_option linter.unusedVariables false
def pF (r:Option (List UInt8×Nat)):Value:=match r with
 |some (t,k)=>.tuple #[.string (S t),(k:Int),.int .i64 0]
 |none=>.tuple #[.string ⟨#[]⟩,.int .i64 0,.int .i64 8]
theorem uy (s:ByteArray)(l:List UInt8)(k:Nat)(w:World)(h:s.size≤4096)(hl:Nm.txt s.data.toList=l)(hk:l.length=k) :
  Calls prog 132 #[s] w fun e w'=>∃A c,e=.returned (.tuple #[.slice A k c,.int .i64 0])∧w'.ownsRow w 5 1 (.slice A k c) k (cb l)∧Below w w w':=by
 have hs:=size_data s
 go_enter func132,ntmps132
 go_wp2_with fail;refine(wZ w _ 0 [] s.size w (aaU _ _ _ _) (by omega) (by omega) (by omega) (Zh _)).mono ?_;rintro e w1 ⟨v1,rfl,o1,g1⟩;have hb:=g1.below (Zh _) (by simp[Value.ownBlock]);have O1:=L_ o1;have HB:=L_ hb;have hz:=hb.size;have hle:=Nm.qH (n:=s.size) (by omega);have HL:=L_ hl;have HK:=L_ hk;have HS:=L_ hs;clear o1 g1 hb hl hk hs;go_wp2_with (at_builtin;go_loud (refine Rb rfl (.tmp 9) (.tmp 10) rfl w.heap.size v1 _ _ rfl O1 s rfl ?c1 ?c2 ?_))
 case c1=>simp;omega
 case c2=>exact hz
 ·intro v2 w2 o2 g2;have O2:=L_ o2;have B2:=L_ ((aaO w w1).grown g2 hz (fun k hk=>(O1.lt k hk).1));clear o2 g2;go_wp2
  go_ret2
  have o3:w2.ownsRow w 5 1 v2 k (cb l):=by
   have:=O2.out;rw[←HK.out,←HL.out];unfold Nm.txt;rw[Zn,HS.out];simpa using this
  obtain⟨A,c,rfl,_,_,_⟩:=bH o3;exact⟨A,c,rfl,o3,HB.trans B2⟩
theorem lX (A:Option Addr)(n c B:Nat)(l:List UInt8)(w:World)(hr:Reads w B 1 A n (cb l))(hc:n≤c)(hn:n≤1000000000000) :
  Calls prog 181 #[.slice A n c] w fun e w'=>e=.returned (pF (Nm.bE l))∧w=w':=by
 have hl:=hr.mR;have HG:=L_ (wP A n c B l w hr hn);cases hg:Nm.get l with
 |none=>
  have e:Nm.bE l=none:=by unfold Nm.bE;rw[hg]
  rw[e]
  have HG2:Hid (Calls prog 183 #[.slice A n c] w fun e w'=>e=.returned (.tuple #[.int .i64 0,.int .i64 0,.int .i64 8])∧w=w'):=by
   have:=HG.out;rw[hg] at this;exact this
  clear HG hg e
  go_enter func181,ntmps181
  go_wp2_with (first|(with_reducible refine HG2.out.mono ?_;rintro e w' ⟨rfl,rfl⟩))
  go_ret3
  exact⟨rfl,rfl⟩
 |some p=>
  obtain⟨m,k⟩:=p;obtain⟨h1,h2,h3,h4⟩:=Nm.gD hg
  have HG2:Hid (Calls prog 183 #[.slice A n c] w fun e w'=>e=.returned (.tuple #[(m:Int),(k:Int),.int .i64 0])∧w=w'):=by
   have:=HG.out;rw[hg] at this;exact this
  have hkn:k≤n:=by omega
  by_cases hbad:4096<m∨n - k<m
  ·have e:Nm.bE l=none:=by unfold Nm.bE;rw[hg,hl];simp only;rw[aaS hbad]
   rw[e];clear HG hg e h2 h4
   by_cases hb1:4096<m
   ·clear hbad hl
    go_enter func181,ntmps181
    go_wp2_with (first|(with_reducible refine HG2.out.mono ?_;rintro e w' ⟨rfl,rfl⟩))
    go_ret3
    exact⟨rfl,rfl⟩
   ·have hb2:(n:Int) - (k:Int)<(m:Int):=by omega
    clear hbad hl
    go_enter func181,ntmps181
    go_wp2_with (first|(with_reducible refine HG2.out.mono ?_;rintro e w' ⟨rfl,rfl⟩))
    go_ret3
    exact⟨rfl,rfl⟩
  ·have e:Nm.bE l=some ((l.drop k).take m,k+m):=by unfold Nm.bE;rw[hg,hl];simp only;rw[aaR hbad]
   rw[e];have hb1:¬4096<m:=by omega
   have hb2:¬(n:Int) - (k:Int)<(m:Int):=by omega
   have hs:=fun w=>zS (P:=prog) underlying46 A n c k m (by omega) w jS;have hr2:=(hr.rest (k:=k) (c:=c) (by omega) hc).first (k:=m) (by omega)
   rw[nK,wR] at hr2;have hv:=jA (P:=prog) underlying46 underlying5 underlying9 (c:=c - k) hr2;clear HG hg e h2 h4 hr2 hr hl;have H3:=L_ h3;clear hbad
   go_enter func181,ntmps181
   go_wp2_with (first|(with_reducible refine HG2.out.mono ?_;rintro e w' ⟨rfl,rfl⟩))
   go_ret3
   exact⟨rfl,rfl⟩
namespace Bal
def may (b:Int):Bool:=decide (8≤b∧b≤8388613∧b % 8<6)
theorem Kg {b:Int}(h:may b=true):8≤b∧b≤8388613∧b % 8<6:=aae h
theorem Ud {b:Int}(h:may b=false):¬(8≤b∧b≤8388613∧b % 8<6):=of_decide_eq_false h
def nx (a n:Int):Int:=if a / 8*8+n≤a∨a / 8*8+n<8 then a / 8*8+n+8 else a / 8*8+n
theorem P9 {a n:Int}(h0:0≤a)(h1:0≤n)(h2:n<6):a<nx a n∧nx a n≤a+16∧nx a n % 8=n∧8≤nx a n∧(∀b,8≤b→b % 8=n→a<b→nx a n≤b):=by
 unfold nx
 split
 ·refine⟨by omega,by omega,by omega,by omega,fun b _ _ _=>by omega⟩
 ·refine⟨by omega,by omega,by omega,by omega,fun b _ _ _=>by omega⟩
theorem tdiv_neg {b:Int}(h:b<0):b.tdiv 8≤0:=by
 have:=Int.tdiv_eq_ediv (a:=b) (b:=8);rw[this]
 split
 ·omega
 ·have:Int.sign 8=1:=rfl;omega
end Bal
open Bal
section
variable (w:World)
set_option maxHeartbeats 400000
set_option linter.unusedVariables false
theorem kX (n:Int)(h:0≤n)(h':n<6):Calls prog 291 #[n] w fun e w'=>e=.returned true∧w=w':=by
 go_enter func291,ntmps291
 go_wp2;go_ret;exact⟨rfl,rfl⟩
theorem Ki (n:Int)(h:¬(0≤n∧n<6)):Calls prog 291 #[n] w fun e w'=>e=.returned false∧w=w':=by
 by_cases h0:0≤n
 ·have h1:6≤n:=by omega
  have h2:decide (n<6)=false:=by simp;omega
  clear h
  go_enter func291,ntmps291
  go_wp2;go_ret;exact⟨rfl,rfl⟩
 ·have h1:n<0:=by omega
  clear h h0
  go_enter func291,ntmps291
  go_wp2;go_ret;exact⟨rfl,rfl⟩
theorem Td (b:Int)(h:may b=true):Calls prog 242 #[b] w fun e w'=>e=.returned (.tuple #[.int .i64 (b / 8),.int .i64 (b % 8),.int .i64 0])∧w=w':=by
 obtain⟨h1,h2,h3⟩:=Kg h;clear h;have h4:0≤b % 8:=by omega
 have h5:1≤b / 8:=by omega
 have h6:b / 8≤1048576:=by omega
 go_enter func242,ntmps242
 go_wp2_with (go_at_call 291;refine(kX _ _ (by omega) (by omega)).mono ?_;rintro e w' ⟨rfl,rfl⟩)
 go_ret3
 exact⟨rfl,rfl⟩
theorem OP (b:Int)(lo:-9223372036854775808≤b)(hi:b≤9223372036854775807)(h:may b=false):Calls prog 242 #[b] w fun e w'=>e=.returned (.tuple #[.int .i64 0,.int .i64 0,.int .i64 50])∧w=w':=by
 have h1:=Ud h;clear h
 by_cases c0:0≤b
 ·by_cases c1:b<8
  ·have h5:b / 8<1:=by omega
   clear h1
   go_enter func242,ntmps242
   go_wp2
   go_ret3
   exact⟨rfl,rfl⟩
  ·have h5:1≤b / 8:=by omega
   by_cases c2:1048576<b / 8
   ·clear h1
    go_enter func242,ntmps242
    go_wp2
    go_ret3
    exact⟨rfl,rfl⟩
   ·have h6:6≤b % 8:=by omega
    clear h1
    go_enter func242,ntmps242
    go_wp2_with (go_at_call 291;refine(Ki _ _ (by omega)).mono ?_;rintro e w' ⟨rfl,rfl⟩)
    go_ret3
    exact⟨rfl,rfl⟩
 ·have h5:=tdiv_neg (b:=b) (by omega);clear h1
  go_enter func242,ntmps242
  go_wp2
  go_ret3
  exact⟨rfl,rfl⟩
theorem gQ (b:Int)(h:may b=true):Calls prog 238 #[b] w fun e w'=>e=.returned (.int .i64 0)∧w=w':=by
 go_enter func238,ntmps238
 go_wp2_with (go_at_call 242;refine(Td _ _ h).mono ?_;rintro e w' ⟨rfl,rfl⟩);go_ret;exact⟨rfl,rfl⟩
theorem fI (b:Int)(lo:-9223372036854775808≤b)(hi:b≤9223372036854775807)(h:may b=false):Calls prog 238 #[b] w fun e w'=>e=.returned (.int .i64 50)∧w=w':=by
 go_enter func238,ntmps238
 go_wp2_with (go_at_call 242;refine(OP _ _ lo hi h).mono ?_;rintro e w' ⟨rfl,rfl⟩);go_ret;exact⟨rfl,rfl⟩
end
variable{vj vk:Bool}{l' l1 l2 l3 l4 l5:List UInt8}{n1 n2 n3 n4:Nat}
namespace Rp
open Nm
structure Rec where
 k:Int
 g:Int
 s:Int
 b:Int
 v:List UInt8
def fT (k:Int):Bool:=k==1||k==2
def value (k:Int):Bool:=k==2||k==3
def gK (k g s b:Int)(n:Nat):Bool:=(fT k||value k)&&decide (0≤g∧g<4)&&decide (1≤s∧s≤200)&&decide (n≤1024)&&(value k||n==0)&&(!fT k&&b==0||fT k&&Bal.may b)
def vw (r:Rec):Bool:=gK r.k r.g r.s r.b r.v.length
def jc (r:Rec):List UInt8:=enc r.k.toNat++(enc r.g.toNat++(enc r.s.toNat++((if fT r.k then enc r.b.toNat else [])++(if value r.k then txt r.v else []))))
theorem kY {r:Rec}(h:vw r=true):0≤r.g∧r.g<4∧1≤r.s∧r.s≤200∧r.v.length≤1024 ∧
  ((r.k=1∧r.v=[]∧8≤r.b∧r.b≤8388613∧Bal.may r.b=true)∨(r.k=2∧8≤r.b∧r.b≤8388613∧Bal.may r.b=true)∨(r.k=3∧r.b=0)):=by
 simp only[vw,gK,Zr,Bool.or_eq_true,Zx,fT,value,aar,Bool.not_eq_true',Bool.or_eq_false_iff,ZX] at h;obtain⟨⟨⟨⟨⟨h1,h2⟩,h3⟩,h4⟩,h5⟩,h6⟩:=h;refine⟨h2.1,h2.2,h3.1,h3.2,h4,?_⟩
 rcases h6 with ⟨⟨a,b⟩,c⟩|⟨a,b⟩
 ·exact .inr (.inr ⟨by omega,c⟩)
 ·have hb:=Bal.Kg b
  rcases a with a|a
  ·refine .inl ⟨a,ZY (by omega),hb.1,hb.2.1,b⟩
  ·exact .inr (.inl ⟨a,hb.1,hb.2.1,b⟩)
abbrev St:=List UInt8×Bool
def next (p:St):Nat×St:=match get p.1 with
 |some (n,k)=>(n,(p.1.drop k,p.2))
 |none=>(0,(p.1,true))
def text (p:St):List UInt8×St:=match bE p.1 with
 |some (t,k)=>(t,(p.1.drop k,false))
 |none=>([],(p.1,true))
def lG (l:List UInt8):Option Rec:=
 let a:=next (l,false)
 let b:=next a.2
 let c:=next b.2
 let k:Int:=((a.1 % 256:Nat):Int)
 let d:=if fT k then next c.2 else(0,c.2)
 let e:=if value k&&!d.2.2 then text d.2 else([],d.2)
 if e.2.2=false∧e.2.1=[]∧a.1≤255∧gK k b.1 c.1 d.1 e.1.length=true then some ⟨k,b.1,c.1,d.1,e.1⟩ else none
theorem dY {l:List UInt8}{n:Nat}{b:Bool}(hn:n≤1099511627776)(h:l=enc n++l'):next (l,b)=(n,(l',b)):=by
 subst h;simp[next,nU hn]
theorem nQ (l:List UInt8):(∃n l',n≤1099511627776∧l=enc n++l'∧next (l,false)=(n,(l',false)))∨next (l,false)=(0,(l,true)):=by
 cases h:get l with
 |none=>right;simp[next,h]
 |some p=>
  obtain⟨n,k⟩:=p;obtain⟨h1,h2,h3,h4⟩:=gD h
  left
  exact⟨n,l.drop k,h1,by rw[h4,aaB],by simp[next,h]⟩
theorem jP (l:List UInt8):∃n l',next (l,true)=(n,(l',true)):=by
 cases h:get l with
 |none=>exact⟨_,_,by simp[next,h];exact⟨rfl,rfl⟩⟩
 |some p=>exact⟨p.1,l.drop p.2,by simp[next,h]⟩
theorem Bo {l t:List UInt8}(ht:t.length≤4096)(h:l=txt t++l'):text (l,false)=(t,(l',false)):=by
 subst h;simp[text,lW ht]
theorem JY (l:List UInt8):(∃t l',t.length≤4096∧l=txt t++l'∧text (l,false)=(t,(l',false)))∨text (l,false)=([],(l,true)):=by
 cases h:bE l with
 |none=>right;simp[text,h]
 |some p=>
  obtain⟨t,k⟩:=p;obtain⟨h1,h2,h3,h4,h5⟩:=bG h
  left
  exact⟨t,l.drop k,h1,by rw[h4,aaB],by simp[text,h]⟩
theorem zh {l t:List UInt8}(h1:next (l,false)=(n1,(l1,false)))(h2:next (l1,false)=(n2,(l2,false)))(h3:next (l2,false)=(n3,(l3,false)))
  (hk:fT ((n1 % 256:Nat):Int)=vk) (hj:value ((n1 % 256:Nat):Int)=vj) (h4:(if vk then next (l3,false) else(0,(l3,false)))=(n4,(l4,false))) (h5:(if vj then text (l4,false) else([],(l4,false)))=(t,(l5,false))) :
  lG l=if l5=[]∧n1≤255∧gK ((n1 % 256:Nat):Int) n2 n3 n4 t.length=true then some ⟨((n1 % 256:Nat):Int),n2,n3,n4,t⟩ else none:=by
 simp only[lG,h1,h2,h3,hk,h4];simp only[hj,Bool.not_false,Bool.and_true,h5,true_and]
theorem FJ {r:Rec}(h:vw r=true):lG (jc r)=some r:=by
 obtain⟨g0,g1,s0,s1,hv,hk⟩:=kY h;obtain⟨k,g,s,b,v⟩:=r;simp only at g0 g1 s0 s1 hv hk;obtain⟨g,rfl⟩:=Int.eq_ofNat_of_zero_le g0;obtain⟨s,rfl⟩:=Int.eq_ofNat_of_zero_le (by omega:0≤s);simp only[vw] at h
 rcases hk with ⟨rfl,rfl,b0,b1,hb⟩|⟨rfl,b0,b1,hb⟩|⟨rfl,rfl⟩
 ·obtain⟨b,rfl⟩:=Int.eq_ofNat_of_zero_le (by omega:0≤b);have T:jc ⟨1,g,s,b,[]⟩=enc 1++(enc g++(enc s++(enc b++[]))):=by simp[jc,fT,value]
  rw[T,zh (dY (n:=1) (by omega) rfl) (dY (by omega) rfl) (dY (by omega) rfl) (vk:=true) (by decide) (vj:=false) (by decide) (by rw[aaS rfl];exact dY (by omega) rfl) (by rw[aaR (by decide)])];rw[aaS ⟨rfl,by omega,h⟩];rfl
 ·obtain⟨b,rfl⟩:=Int.eq_ofNat_of_zero_le (by omega:0≤b);have T:jc ⟨2,g,s,b,v⟩=enc 2++(enc g++(enc s++(enc b++(txt v++[])))):=by simp[jc,fT,value]
  rw[T,zh (dY (n:=2) (by omega) rfl) (dY (by omega) rfl) (dY (by omega) rfl) (vk:=true) (by decide) (vj:=true) (by decide) (by rw[aaS rfl];exact dY (by omega) rfl) (by rw[aaS rfl];exact Bo (by omega) rfl)];rw[aaS ⟨rfl,by omega,h⟩];rfl
 ·have T:jc ⟨3,g,s,0,v⟩=enc 3++(enc g++(enc s++(txt v++[]))):=by simp[jc,fT,value]
  rw[T,zh (dY (n:=3) (by omega) rfl) (dY (by omega) rfl) (dY (by omega) rfl) (vk:=false) (by decide) (vj:=true) (by decide) (by rw[aaR (by decide)]) (by rw[aaS rfl];exact Bo (by omega) rfl)];rw[aaS ⟨rfl,by omega,h⟩];rfl
theorem Gh {l:List UInt8}{r:Rec}(h:lG l=some r):vw r=true∧jc r=l:=by
 simp only[lG] at h
 rcases nQ l with ⟨n1,l1,hn1,e1,h1⟩|h1
 rotate_left
 ·rw[h1] at h;obtain⟨n2,l2,h2⟩:=jP l;simp only[h2] at h;obtain⟨n3,l3,h3⟩:=jP l2;simp only[h3] at h;simp[fT,value] at h
 rw[h1] at h;simp only at h
 rcases nQ l1 with ⟨n2,l2,hn2,e2,h2⟩|h2
 rotate_left
 ·simp only[h2] at h;obtain⟨n3,l3,h3⟩:=jP l1;simp only[h3] at h;obtain⟨n4,l4,h4⟩:=jP l3;simp only[h4] at h;generalize hk:fT ((n1 % 256:Nat):Int)=vk at h;cases vk<;>simp at h
 simp only[h2] at h
 rcases nQ l2 with ⟨n3,l3,hn3,e3,h3⟩|h3
 rotate_left
 ·simp only[h3] at h;obtain⟨n4,l4,h4⟩:=jP l2;simp only[h4] at h;generalize hk:fT ((n1 % 256:Nat):Int)=vk at h;cases vk<;>simp at h
 simp only[h3] at h;have tl:l=enc n1++(enc n2++(enc n3++l3)):=by rw[e1,e2,e3]
 generalize hk:fT ((n1 % 256:Nat):Int)=vk at h;generalize hj:value ((n1 % 256:Nat):Int)=vj at h;cases vk with
 |true=>
  simp only[if_true] at h
  rcases nQ l3 with ⟨n4,l4,hn4,e4,h4⟩|h4
  rotate_left
  ·simp[h4] at h
  simp only[h4] at h;cases vj with
  |true=>
   simp only[Bool.not_false,Bool.and_true,if_true] at h
   rcases JY l4 with ⟨t,l5,ht,e5,h5⟩|h5
   rotate_left
   ·simp[h5] at h
   simp only[h5] at h
   split at h
   ·rename_i hc
    obtain⟨_,c2,c3,c4⟩:=hc;injection h with h
    subst h;refine⟨c4,?_⟩;have hm:n1 % 256=n1:=Nat.mod_eq_of_lt (by omega);rw[hm] at hk hj;simp only[jc,hm,hk,hj,if_true,Z9];rw[tl,e4,e5];subst c2;simp
   ·cases h
  |false=>
   simp only[Bool.false_and,Bool.false_eq_true,if_false] at h
   split at h
   ·rename_i hc
    obtain⟨_,c2,c3,c4⟩:=hc;injection h with h
    subst h;refine⟨c4,?_⟩;have hm:n1 % 256=n1:=Nat.mod_eq_of_lt (by omega);rw[hm] at hk hj;simp only[jc,hm,hk,hj,if_true,Z9,Bool.false_eq_true,if_false];rw[tl,e4];subst c2;simp
   ·cases h
 |false=>
  simp only[Bool.false_eq_true,if_false] at h;cases vj with
  |true=>
   simp only[Bool.not_false,Bool.and_true,if_true] at h
   rcases JY l3 with ⟨t,l5,ht,e5,h5⟩|h5
   rotate_left
   ·simp[h5] at h
   simp only[h5] at h
   split at h
   ·rename_i hc
    obtain⟨_,c2,c3,c4⟩:=hc;injection h with h
    subst h;refine⟨c4,?_⟩;have hm:n1 % 256=n1:=Nat.mod_eq_of_lt (by omega);rw[hm] at hk hj;simp only[jc,hm,hk,hj,if_true,Z9,Bool.false_eq_true,if_false];rw[tl,e5];subst c2;simp
   ·cases h
  |false=>
   simp only[Bool.false_and,Bool.false_eq_true,if_false] at h
   split at h
   ·rename_i hc
    obtain⟨_,c2,c3,c4⟩:=hc;have hc4:=c4;simp only[gK,hk,hj,Bool.or_self,Bool.false_and] at hc4;cases hc4
   ·cases h
theorem Ig {r:Rec}(h:vw r=true):(jc r).length≤1040:=by
 obtain⟨g0,g1,s0,s1,hv,hk⟩:=kY h;have hk4:r.k.toNat<128 ^ (0+1):=by rcases hk with hk|hk|hk<;>omega
 have l1:=nY 0 r.k.toNat hk4;have l2:=nY 0 r.g.toNat (by omega);have l3:=nY 1 r.s.toNat (by omega);have l5:=nY 1 r.v.length (by omega);simp only[jc,Zn]
 have l4:(if fT r.k then enc r.b.toNat else []).length≤4:=by
  split
  ·exact nY 3 _ (by rcases hk with hk|hk|hk<;>omega)
  ·simp
 have l6:(if value r.k then txt r.v else []).length≤1026:=by
  split
  ·simp only[txt,Zn];omega
  ·simp
 omega
end Rp
namespace Wp
open Nm Rp
structure aY where
 f:Int
 t:Int
 k:Int
 g:Int
 s:Int
 b:Int
 p:Int
 v:List UInt8
 i:Int
 tm:Int
def dM (k:Int):List UInt8:=
 if k=1 then [115,98] else if k=2 then [115,98,112,118] else if k=3 then [115,98,118] else if k=4 then [115,98] else if k=5 then [115,98,112]
 else if k=6 then [115,118] else if k=7 then [115] else if k=8 then [105,116] else if k=9 then [118] else []
def aY.get (m:aY)(c:UInt8):Int:=if c=115 then m.s else if c=98 then m.b else if c=112 then m.p else if c=105 then m.i else m.tm
def aY.put (m:aY)(c:UInt8)(n:Int):aY:=
 if c=115 then{ m with s:=n } else if c=98 then{ m with b:=n } else if c=112 then{ m with p:=n } else if c=105 then{ m with i:=n } else{ m with tm:=n }
def iK (n:Int):Bool:=decide (1≤n∧n≤200)
def mY (n:Int):Bool:=decide (0≤n∧n≤6291455)
def j5 (n:Int):Bool:=decide (1≤n∧n≤1073741824)
def mI (m:aY):Bool:=
 if m.k=1∨m.k=4 then iK m.s&&Bal.may m.b&&m.p==0&&m.v.isEmpty&&m.i==0&&m.tm==0
 else if m.k=2 then iK m.s&&Bal.may m.b&&(m.p==0&&m.v.isEmpty||Bal.may m.p)&&m.i==0&&m.tm==0
 else if m.k=3 then iK m.s&&Bal.may m.b&&m.p==0&&m.i==0&&m.tm==0
 else if m.k=5 then iK m.s&&Bal.may m.b&&Bal.may m.p&&m.v.isEmpty&&m.i==0&&m.tm==0
 else if m.k=6 then iK m.s&&m.b==0&&m.p==0&&m.i==0&&m.tm==0
 else if m.k=7 then(iK m.s||m.s==201)&&m.b==0&&m.p==0&&m.v.isEmpty&&m.i==0&&m.tm==0
 else if m.k=8 then mY m.i&&j5 m.tm&&m.s==0&&m.b==0&&m.p==0&&m.v.isEmpty
 else if m.k=9 then m.s==0&&m.b==0&&m.p==0&&m.i==0&&m.tm==0
 else false
def lU (m:aY):Bool:=decide (0≤m.f∧m.f≤5)&&decide (0≤m.t∧m.t≤5)&&decide (0≤m.g∧m.g≤3)&&decide (m.v.length≤1024)
def El (m:aY):Bool:=lU m&&mI m
def gP (p:St):List UInt8×St:=match bE p.1 with
 |some (t,k)=>(t,(p.1.drop k,p.2))
 |none=>([],(p.1,true))
def jY (f t k g:Int):aY:=⟨f,t,k,g,0,0,0,[],0,0⟩
theorem rR {l t:List UInt8}{b:Bool}(ht:t.length≤4096)(h:l=txt t++l'):gP (l,b)=(t,(l',b)):=by
 subst h;simp[gP,lW ht]
theorem EY (l:List UInt8):(∃t l',t.length≤4096∧l=txt t++l'∧gP (l,false)=(t,(l',false)))∨gP (l,false)=([],(l,true)):=by
 cases h:bE l with
 |none=>right;simp[gP,h]
 |some p=>
  obtain⟨t,k⟩:=p;obtain⟨h1,h2,h3,h4,h5⟩:=bG h
  left
  exact⟨t,l.drop k,h1,by rw[h4,aaB],by simp[gP,h]⟩
theorem zo (l:List UInt8):∃t l',gP (l,true)=(t,(l',true)):=by
 cases h:bE l with
 |none=>exact⟨_,_,by simp[gP,h];exact⟨rfl,rfl⟩⟩
 |some p=>exact⟨p.1,l.drop p.2,by simp[gP,h]⟩
def letter (c:UInt8):Prop:=c=115∨c=98∨c=112∨c=105∨c=116
def vU:List UInt8→aY→aY→aY
 |[],_,m0=>m0
 |c::cs,m,m0=>if c=118 then vU cs m { m0 with v:=m.v } else vU cs m (m0.put c (m.get c))
theorem oh (k:Int):(dM k).Nodup∧∀c∈dM k,c=118∨letter c:=by
 unfold dM letter
 repeat' split
 all_goals decide
end Wp
theorem FB:(prog.info? 3).map (fun i=>(i.zero,i.size,i.bytes))=some (some (.int .i64 0),1,8):=by kernel_rfl
theorem T9 {rest:List Oper}(hgd:o.guard=none)(s x:Operand)
  (ho:o.op=.call { callee:=.builtin .append,args:=#[s,x],argTypes:=#[33,33] })
  (base:Nat) (v:Value) (n:Nat) (l:List Int) (hs:a.eval s=v) (hown:w.ownsRow base 3 1 v n (ci l)) (b:Int) (hx:a.eval x=.slice (some ⟨w,0,none⟩) 1 1)
  (hn:n≤1000000000000) (hbase:base≤w.heap.size)
  (h:∀v' w',w'.ownsRow base 3 1 v' (n+1) (ci (l++[b]))→dX w w' v v'→wpList prog ops Q rest (a.put o.dst v') w') :
  wpList prog ops Q (o::rest) a (w.alloc (.cells #[b] 3)):=by
 obtain⟨i0,hi0,hz0,hz1,hz2⟩:=info_parts FB;have hr:=Reads.new w 3 #[b];refine bB _ hgd s x 33 ho base 3 i0 _ 1 8 underlying33 hi0 hz0 hz1 hz2 rfl (by decide) v n (ci l) hs (hown.alloc _) _ _ 1 1 [b] hx hr (by simp;rfl) (by simp only[maxLen];omega) (by omega) (by simp;omega) ?_;intro v' w' h1 h2 h3;refine h v' w' (by rw[A9];exact h1) ⟨jE h2,?_⟩
 rcases h3 with h3|h3
 ·exact Or.inl h3
 ·exact Or.inr ⟨_,h3,by simp⟩
theorem Ur {rest:List Oper}(hgd:o.guard=none)(sl x:Operand)
  (ho:o.op=.call { callee:=.builtin .append,args:=#[sl,x],argTypes:=#[33,33] })
  (base:Nat) (v:Value) (n:Nat) (l:List Int) (hs:a.eval sl=v) (hown:w.ownsRow base 3 1 v n (ci l))
  (B:Nat) (A:Option Addr) (m c:Nat) (news:List Int) (hx:a.eval x=.slice A m c) (hr:Reads w B 1 A m (ci news))
  (hn:n+m≤1000000000000) (hbase:base≤w.heap.size)
  (h:∀v' w',w'.ownsRow base 3 1 v' (n+m) (ci (l++news))→dX w w' v v'→wpList prog ops Q rest (a.put o.dst v') w') :
  wpList prog ops Q (o::rest) a w:=by
 obtain⟨i0,hi0,hz0,hz1,hz2⟩:=info_parts FB;refine bB _ hgd sl x 33 ho base 3 i0 _ 1 8 underlying33 hi0 hz0 hz1 hz2 rfl (by decide) v n (ci l) hs hown B A m c (ci news) hx hr (UZ _) (by simp only[maxLen];omega) (by omega) hbase ?_;intro v' w' h1 h2 h3;refine h v' w' (by rw[A9];exact h1) ⟨h2,?_⟩
 rcases h3 with h3|h3
 ·exact Or.inl h3
 ·exact Or.inr ⟨_,h3,Zh _⟩
variable{r:List Int}{most:Nat}
namespace Nm
def jO (n:Int):Bool:=decide (0≤n∧n≤1099511627776)
theorem ku {n:Int}(h:jO n=true):0≤n∧n≤1099511627776:=aae h
theorem VL {n:Int}(h:jO n=false):¬(0≤n∧n≤1099511627776):=of_decide_eq_false h
def many (l:List Int):List UInt8:=l.flatMap fun n=>enc n.toNat
def fq (l:List Int):List UInt8:=enc l.length++many l
theorem wo (l m:List Int):many (l++m)=many l++many m:=by simp[many]
theorem EK (n:Int):many [n]=enc n.toNat:=by simp[many]
theorem oK (l:List Int)(h:∀n∈l,jO n=true):(many l).length≤6*l.length:=by
 induction l with
 |nil=>simp[many]
 |cons a l ih=>
  have h1:=ih fun n hn=>h n (Zv _ hn);have h2:=ku (h a (ZC ..));have h3:=dV (n:=a.toNat) (by omega);have:many (a::l)=enc a.toNat++many l:=rfl;rw[this,Zn,ZI];omega
def ints:Nat→List UInt8→Option (List Int×Nat)
 |0,_=>some ([],0)
 |c+1,l=>match get l with
  |none=>none
  |some (n,k)=>match ints c (l.drop k) with
   |none=>none
   |some (r,s)=>some ((n:Int)::r,k+s)
theorem pR {c:Nat}{l:List UInt8}(h:get l=none):ints (c+1) l=none:=by unfold ints;rw[h]
theorem lI {c n:Nat}{l:List UInt8}(h:get l=some (n,k)):ints (c+1) l=(ints c (l.drop k)).map fun p=>((n:Int)::p.1,k+p.2):=by
 conv=>lhs;unfold ints
 rw[h];simp only;cases ints c (l.drop k) with
 |none=>rfl
 |some p=>rfl
theorem Ml:∀(l:List Int) (b:List UInt8),(∀n∈l,jO n=true)→ints l.length (many l++b)=some (l,(many l).length):=by
 intro l
 induction l with
 |nil=>intro b _;rfl
 |cons a l ih=>
  intro b h;have h2:=ku (h a (ZC ..));have e:many (a::l)=enc a.toNat++many l:=rfl;rw[e,ZN,ZI,lI (nU (n:=a.toNat) (by omega) _),List.drop_left,ih b fun n hn=>h n (Zv _ hn)];simp only[aad,Zn,ZH,ZV,List.cons.injEq,and_true];omega
theorem MF:∀(c:Nat) (l:List UInt8) (r:List Int) (s:Nat),ints c l=some (r,s)→r.length=c∧(∀n∈r,jO n=true)∧s=(many r).length∧s≤l.length∧many r=l.take s:=by
 intro c
 induction c with
 |zero=>
  intro l r s h;simp only[ints,ZH,ZV] at h;obtain⟨rfl,rfl⟩:=h;simp[many]
 |succ c ih=>
  intro l r s h;cases hg:get l with
  |none=>rw[pR hg] at h;cases h
  |some p=>
   obtain⟨n,k⟩:=p;rw[lI hg] at h;obtain⟨h1,h2,h3,h4⟩:=gD hg;cases hi:ints c (l.drop k) with
   |none=>rw[hi] at h;cases h
   |some q=>
    obtain⟨r',s'⟩:=q;rw[hi] at h;simp only[aad,ZH,ZV] at h;obtain⟨rfl,rfl⟩:=h;obtain⟨g1,g2,g3,g4,g5⟩:=ih _ _ _ hi
    have e:many ((n:Int)::r')=enc n++many r':=by
     have:many ((n:Int)::r')=enc (n:Int).toNat++many r':=rfl;rw[this,Z9]
    rw[ZK] at g4;refine⟨by simp[g1],?_,by rw[e,Zn];omega,by omega,?_⟩
    ·intro x hx
     rcases Zu.1 hx with rfl|hx
     ·exact ZG ⟨by omega,by omega⟩
     ·exact g2 x hx
    ·rw[e,g5,h4,List.take_add]
def fD (l:List UInt8)(most:Nat):Option (List Int×Nat):=match get l with
 |none=>none
 |some (c,k)=>if most<c then none else(ints c (l.drop k)).map fun p=>(p.1,k+p.2)
theorem Cj {l:List Int}(hl:l.length≤4096)(h:∀n∈l,jO n=true)(b:List UInt8):fD (fq l++b) 4096=some (l,(fq l).length):=by
 unfold fD fq;rw[ZN,nU (by omega)];simp only;rw[aaR (by omega),List.drop_left,Ml l b h];simp
theorem nV {l:List UInt8}(h:fD l most=some (r,k)):r.length≤most∧(∀n∈r,jO n=true)∧k=(fq r).length∧k≤l.length∧fq r=l.take k:=by
 unfold fD at h;cases hg:get l with
 |none=>rw[hg] at h;cases h
 |some p=>
  obtain⟨c,j⟩:=p;rw[hg] at h;simp only at h
  split at h
  ·cases h
  ·rename_i hc
   obtain⟨h1,h2,h3,h4⟩:=gD hg;cases hi:ints c (l.drop j) with
   |none=>rw[hi] at h;cases h
   |some q=>
    obtain⟨r',s'⟩:=q;rw[hi] at h;simp only[aad,ZH,ZV] at h;obtain⟨rfl,rfl⟩:=h;obtain⟨g1,g2,g3,g4,g5⟩:=MF _ _ _ _ hi;rw[ZK] at g4;refine⟨by omega,g2,?_,by omega,?_⟩
    ·unfold fq;rw[g1,Zn,←h2,←g3]
    ·unfold fq;rw[g1,h4,g5,List.take_add]
end Nm
end Go.Proofs.YtaebfkcgdmodlaaGreatDoor
