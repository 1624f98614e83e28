/-
  TopErased: the erased node of towncrier reads nothing, whatever is said to the others.
-/
import Derived.Test.YtaebfkcgdmodlaaGreatDoorCards
import Derived.Test.YtaebfkcgdmodlaaGreatDoorTie
import Derived.Test.YtaebfkcgdmodlaaGreatDoorJ20a
import Derived.Test.YtaebfkcgdmodlaaGreatDoorJ18a
import Derived.Test.YtaebfkcgdmodlaaGreatDoorJ20b
import Derived.Test.YtaebfkcgdmodlaaGreatDoorTopFacts
import Derived.Test.YtaebfkcgdmodlaaGreatDoorTopTies
import Derived.ProofKit
import Derived.OpenShut
import Derived.ShutString
import Derived.ChangeOld
import Derived.Below
import Derived.SizedLaws
import Derived.LaidLaws
import Derived.LaidHandle
import Derived.SevenTiedAt
namespace Go.Proofs.YtaebfkcgdmodlaaGreatDoor.topErased
open Go.ChangeShapes Go.WideShapes Go.ChangeAt Go.RowKit
set_option maxRecDepth 100000
set_option linter.unusedVariables false
theorem own:ownKnob Tryz.prog.godebug=none:=by kernel_rfl
theorem laidOut:laidOutB Tryz.prog=true:=by kernel_rfl
noncomputable def AU (os:Os):World:=
 let w0:=World.holding Tryz.prog os ⟨#[],#[],[]⟩
 { w0 with heap:=w0.heap.modify 0 fun
   |.cells _ t frozen=>.cells #[.iface 277 (.agg #[.pointer (some ⟨1,96,none⟩)])] t frozen
   |o=>o }
theorem zT (os:Os)(args:Array Value):laidMetH Tryz.prog Rows.topErasedRow.laid ((AU os).forCall (fun _ _=>0) ⟨#[],args,[]⟩).memory:=
 laidMetH_of_parts (laidMet_nil _ _) (by kernel_rfl)
theorem Eh {H:Type}{enc:TypeId×Value→H}{w:World}{base:Nat}{held:Bool}{r:Reach}{b0:Nat}{v:Value}{d:DataW H}{ps:List MemPlace}
  (hv:Value.okWide Tryz.prog w r b0 22 v) (h:DataW.Trod enc Tryz.prog w base (fun _=>true) held 22 v d ps) (hw:∀n∈d.weights Tryz.prog 22,n≤reachBytes):∃s:Sl gT,v=.slice s.A s.l.length s.c∧s.aA w w.heap.size 140737488355328:=by
 obtain⟨a,len,cap,rfl⟩:=okWide_slice Tryz.underlying22 hv;obtain⟨fuel,hf⟩:=h;exact Le (y:=(d,ps)) hf hw
theorem Kn {H:Type}{enc:TypeId×Value→H}{w:World}{base:Nat}{held:Bool}{r:Reach}{b0:Nat}{v:Value}{d:DataW H}{ps:List MemPlace}
  (hv:Value.okWide Tryz.prog w r b0 23 v) (h:DataW.Trod enc Tryz.prog w base (fun _=>true) held 23 v d ps) (hw:∀n∈d.weights Tryz.prog 23,n≤reachBytes):∃s:Sl DN,v=.slice s.A s.l.length s.c∧s.aA w w.heap.size 140737488355328∧∀a∈s.l,Ng a:=by
 obtain⟨a,len,cap,rfl⟩:=okWide_slice Tryz.underlying23 hv;obtain⟨fuel,hf⟩:=h;exact Qu (y:=(d,ps)) hf hw
theorem lifted (os:Os)(started:os.Started)(H:Type)(enc:TypeId×Value→H) :
  ReturnsInHanded {} Tryz.checked os 3 .any (fun w args=>(Rows.topErasedSpec.pre enc Tryz.prog Tryz.f3 [] false w args∧laidMetH Tryz.prog Rows.topErasedRow.laid w)∧sizedMet enc Tryz.prog Tryz.f3 (OpenSpec.ofChange Rows.topErasedSpec) false w args)
   (Rows.topErasedSpec.post enc Tryz.prog Tryz.f3 false true false false):=by
 refine returnsInHanded_of_change_and (C:=Tryz.checked) (X:=fun w _=>laidMetH Tryz.prog Rows.topErasedRow.laid w) (fun _ _ _ hh h=>h.of_heap hh) own started (by kernel_rfl) Tryz.func3
  (ChangeSpec.witness_at (enc:=enc) (C:=Tryz.checked) (os:=os) (X:=fun w _=>laidMetH Tryz.prog Rows.topErasedRow.laid w) false (AU os) #[.int .i64 0,.slice none 0 0,.slice none 0 0,.int .i64 0] 8 rfl (by kernel_rfl) (by kernel_rfl) (by kernel_rfl) (by kernel_rfl) (by kernel_rfl) (zT os _)) ?_
 intro W base args ds gs before hval0 hW _ hsz hL _;have hval:∀(j:Nat) t v,Tryz.f3.params[j]?=some t→args[j]?=some v→Value.okWide Tryz.prog W .any base t v:=hval0;have hW':=hW;obtain⟨p,q,hA0,hV,rfl,hfz,hnd⟩:=hW;have hA:DataW.TrodAll enc Tryz.prog W 0 (fun _=>true) true Tryz.f3.params.toList args.toList ds p:=hA0;rw[Tryz.params3] at hA hval hsz;obtain⟨v0,vs0,d0,ds0,p0,q0,hargs,rfl,rfl,h0,r0⟩:=trodAll_cons hA;obtain⟨v1,vs1,d1,ds1,p1,q1,rfl,rfl,rfl,h1,r1⟩:=trodAll_cons r0;obtain⟨v2,vs2,d2,ds2,p2,q2,rfl,rfl,rfl,h2,r2⟩:=trodAll_cons r1;obtain⟨v3,vs3,d3,ds3,p3,q3,rfl,rfl,rfl,h3,r3⟩:=trodAll_cons r2;obtain⟨rfl,rfl,rfl⟩:=trodAll_nil r3;obtain rfl:args=#[v0,v1,v2,v3]:=by cases args;simp_all
 obtain⟨rfl,rfl⟩:=trodVars_none hV;obtain⟨a0,rfl,rfl,rfl,w0⟩:=open_int Tryz.underlying3 (hval 0 3 v0 rfl rfl) h0;have k1:=h1;have lt1:∀x∈p1,x.block<W.heap.size:=by obtain⟨m,hm⟩:=k1;exact DataW.trod_lt m _ _ _ hm
 have sz1:∀n∈d1.weights Tryz.prog 22,n≤reachBytes:=fun n hn=>by simpa using aam.1 hsz n (DataW.weights_mem_each (j:=1) (t:=22) (d:=d1) rfl rfl n hn)
 obtain⟨s1,rfl,l1⟩:=Eh (hval 1 22 v1 rfl rfl) h1 sz1;have k2:=h2;have lt2:∀x∈p2,x.block<W.heap.size:=by obtain⟨m,hm⟩:=k2;exact DataW.trod_lt m _ _ _ hm
 have sz2:∀n∈d2.weights Tryz.prog 23,n≤reachBytes:=fun n hn=>by simpa using aam.1 hsz n (DataW.weights_mem_each (j:=2) (t:=23) (d:=d2) rfl rfl n hn)
 obtain⟨s2,rfl,l2,act⟩:=Kn (hval 2 23 v2 rfl rfl) h2 sz2;obtain⟨a3,rfl,rfl,rfl,w3⟩:=open_int Tryz.underlying3 (hval 3 3 v3 rfl rfl) h3;clear hA0 hval0;refine(WM Ib a0 a3 s1 s2 W l1 l2 (Zh _) (fun a ha=>(act a ha).sz) (fun a ha=>(act a ha).wf)).mono fun e W' ⟨he,aD⟩=>?_;subst he;exact⟨_,rfl,_,_,_,[],_,[],hW',trodAll_mk1 (shut_bool Tryz.underlying4 _),(trodAll_cons_mk (shut_int Tryz.underlying3 w0) (trodAll_cons_mk (Below.trod laidOut (by kernel_rfl) (aae (by kernel_rfl)) k1 aD lt1) (trodAll_cons_mk (Below.trod laidOut (by kernel_rfl) (aae (by kernel_rfl)) k2 aD lt2) (trodAll_cons_mk (shut_int Tryz.underlying3 w3) trodAll_mk0)))),rfl,aD.frame _,fun h=>by cases h⟩
theorem over:Rows.TopErasedSaid:=
 OpenClaim.holds_of_wide 3 Tryz.f3 rfl rfl rfl rfl rfl rfl rfl ⟨rfl,rfl,rfl,rfl,rfl⟩ rfl rfl rfl rfl rfl m8 m9 closed
  (aae (by kernel_rfl)) (by unfold Func.isWrapper;first|(rw[if_pos (by decide +kernel)];kernel_rfl)|(rw[if_neg (by decide +kernel)];exact⟨rfl,rfl⟩))
  (fun os started H enc _=>lifted os started H enc)
theorem stand:∀(f:FuncId) (fn:Func),Tryz.pinned.checked.prog.funcNamed Rows.topErasedRow.func=some f→Tryz.pinned.checked.prog.funcs[f]?=some fn→true=Tryz.pinned.checked.prog.looks []∧∀(j:Nat) t,fn.params[j]?=some t→Tryz.pinned.checked.prog.wantsStandIn t=false:=fun f fn hf hfn=>by
 obtain rfl:3=f:=Z4 (m8.symm.trans hf);obtain rfl:Tryz.f3=fn:=Z4 (m9.symm.trans hfn);refine⟨m3,fun j t ht=>?_⟩;rw[Tryz.params3] at ht
 match j,ht with
 |0,ht=>cases ht;exact m5
 |1,ht=>cases ht;exact m6
 |2,ht=>cases ht;exact m7
 |3,ht=>cases ht;exact m5
 |j+4,ht=>simp at ht
theorem proved:Rows.TopErasedCardSaid:=
 Claim7.holds_tied_plain_at .later [] [.handle] true (true, "d42c619ac0b59dbdd857c1e24883a4b254b9552cdaa31ddb99f79d6e9ee53d02") true
  over (fun _ h=>by cases h) m1 (fun _ h=>by cases h) topErased_row_tie rfl ⟨rfl,rfl⟩ m2 rfl stand m4
#print axioms proved
end Go.Proofs.YtaebfkcgdmodlaaGreatDoor.topErased
