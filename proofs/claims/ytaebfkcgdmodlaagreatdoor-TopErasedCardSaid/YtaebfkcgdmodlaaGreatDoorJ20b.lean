/-
  A part of the proof that the erased node of towncrier reads nothing (TopErased).
-/
import Derived.Test.YtaebfkcgdmodlaaGreatDoorJ20
namespace Go.Proofs.YtaebfkcgdmodlaaGreatDoor
open Go.RowKit Go.Proofs.Tryz
set_option maxHeartbeats 16000000
set_option maxRecDepth 100000
set_option linter.unusedVariables false
set_option linter.unusedSimpArgs false
variable{fuel j:Nat}{α:Type}{t:TypeId}{u v:Value}
theorem Jq {p:Nat→α→Prop}:∀n,(∀i,i<n→∃x,p i x)→∃l:List α,l.length=n∧∀i x,l[i]?=some x→p i x
 |0,_=>⟨[],rfl,fun i x h=>by cases h⟩
 |n+1,h=>by
  obtain⟨l,hl,hp⟩:=Jq n (fun i hi=>h i (by omega));obtain⟨x,hx⟩:=h n (by omega);refine⟨l++[x],by rw[Zn,hl];rfl,fun i y hy=>?_⟩
  by_cases e:i<l.length
  ·rw[Z0 e] at hy;exact hp i y hy
  ·rw[Z8 (by omega)] at hy;have h1:i - l.length<1:=(Zo.1 hy).1;have h2:i - l.length=0:=by omega
   rw[h2] at hy;injection hy with hy
   obtain rfl:i=n:=by omega
   exact hy▸hx
theorem L9 [aj α]{l:List α}(h:(l.flatMap aj.cs)[j]?=some u):∃x,l[j / aj.sz α]?=some x∧(aj.cs x)[j % aj.sz α]?=some u:=by
 have hp:=aj.pos (α:=α)
 have hj:j<l.length*aj.sz α:=by
  have:=(Zo.1 h).1;rwa[Sl.dH] at this
 have hk:j / aj.sz α<l.length:=Nat.div_lt_of_lt_mul (by rwa[Nat.mul_comm]);refine⟨l[j / aj.sz α],Zl hk,?_⟩;have e:j / aj.sz α*aj.sz α+j % aj.sz α=j:=by rw[Nat.mul_comm];exact Nat.div_add_mod j _
 have h2:((l.flatMap aj.cs).drop (j / aj.sz α*aj.sz α))[j % aj.sz α]?=some u:=by rw[aaj,e];exact h
 rw[Sl.mW,List.drop_eq_getElem_cons hk,ZQ,Z0 (by rw[aj.len];exact Nat.mod_lt _ hp)] at h2;exact h2
section
open Go.Joins Go.ChangeShapes Go.WideShapes Go.Deep
variable{H:Type}{enc:TypeId×Value→H}{P:Program}{w:World}{base:Nat}{held:Bool}
theorem vZ:∀{ds:List (DataW H)} {d:DataW H} {e:TypeId},d∈ds→∀n∈d.weights P e,n∈DataW.weightsAll P e ds
 |[],_,_,h,_,_=>by cases h
 |d0::ds,d,e,h,n,hn=>by
  simp only[DataW.weightsAll,Zm]
  rcases Zu.1 h with rfl|h
  ·exact Or.inl hn
  ·exact Or.inr (vZ h n hn)
theorem Yf {fs:Array Field}{cs:List Value}{x:DataW H×List MemPlace}(ht:P.underlying t=some (.struct fs))(h:DataW.trod enc P w base (fun _=>true) held fuel t cs=some x)(hw:∀n∈x.1.weights P t,n≤reachBytes) :
  cs.length=P.cellsOf t∧∀(j:Nat) (f:Field),fs[j]?=some f→∃(n:Nat) (y:DataW H×List MemPlace),DataW.trod enc P w base (fun _=>true) held n f.type ((cs.drop f.offset).take (P.cellsOf f.type))=some y∧∀m∈y.1.weights P f.type,m≤reachBytes:=by
 obtain⟨xs,n,_,hx,hl,hlen,hg⟩:=DataW.trod_struct ht h;refine⟨hl,fun j f hj=>?_⟩;have hjl:j<fs.size:=(Z6.1 hj).1;have hy:xs[j]?=some (xs[j]'(by omega)):=Zl (by omega);refine⟨n,_,(hg j f hj).trans hy,fun m hm=>hw m ?_⟩;rw[hx];simp only[DataW.weights,ht];exact DataW.weights_mem_each (j:=j) (t:=f.type) (d:=(xs[j]'(by omega)).1) (by rw[ZU,Array.getElem?_toList,hj];rfl) (by rw[ZU,hy];rfl) m hm
theorem Ch [aj α](Q:α→Prop){e:TypeId}(ht:P.underlying t=some (.slice e))(hC:P.cellsOf e=aj.sz α)(hby:1≤P.bytesOf e){y:DataW H×List MemPlace}
  (hf:DataW.trod enc P w base (fun _=>true) held fuel t [v]=some y) (hw:∀n∈y.1.weights P t,n≤reachBytes)
  (hel:∀(n:Nat) (cs:List Value) (z:DataW H×List MemPlace),DataW.trod enc P w base (fun _=>true) held n e cs=some z→(∀m∈z.1.weights P e,m≤reachBytes)→∃x:α,cs=aj.cs x∧au.aA w w 140737488355328 x∧Q x) :
  ∃s:Sl α,v=s∧s.aA w w 140737488355328∧∀x∈s.l,Q x:=by
 rcases open_slice ht hf with ⟨hcs,_⟩|⟨a,len,cap,m,n,D,Pl,hcs,hb,hl,hm,hmm,hx,hi⟩
 ·obtain rfl:v=():=by simpa using hcs
  exact⟨⟨none,0,[]⟩,rfl,Sl.dh,fun x hx=>by cases hx⟩
 ·obtain rfl:v=.slice (some a) len cap:=by simpa using hcs
  have hml:m=cap:=by rw[hmm];simp
  subst hml
  have hW:∀i,i<len→∀n∈(D i).weights P e,n≤reachBytes:=by
   intro i hil n hn;refine hw n ?_;rw[hx];simp only[DataW.weights,ht];exact Zu.2 (Or.inr (Zm.2 (Or.inl (vZ (ZA.2 ⟨i,List.mem_range.2 hil,rfl⟩) n hn))))
  have hlen:len≤140737488355328:=by
   have h1:=hw ((len+(m - len))*P.bytesOf e) (by
    rw[hx];simp only[DataW.weights,ht,Z5,List.length_range];exact Zu.2 (Or.inl rfl))
   have h2:reachBytes=140737488351232:=by decide
   have h3:=Nat.mul_le_mul_left (len+(m - len)) hby;omega
  obtain⟨l,hll,hp⟩:=Jq (p:=fun i (x:α)=>(au.aA w w 140737488355328 x∧Q x)∧∀j u,(aj.cs x)[j]?=some u→w.cell? (a.add (i*aj.sz α+j))=some u) len (fun i hil=>by
   obtain⟨cs',hc,ht'⟩:=hi i (by omega);obtain⟨x,rfl,h1,h2⟩:=hel n cs' _ ht' (hW i hil);obtain⟨_,hcl,hat⟩:=World.cells?_some hc;refine⟨x,⟨h1,h2⟩,fun j u hu=>?_⟩;have hj:=(Zo.1 hu).1;have h3:=hat j (by omega);rw[hu,Go.Deep.add_add,hC] at h3;exact h3)
  subst hll
  have hmem:∀x∈l,au.aA w w 140737488355328 x∧Q x:=fun x hx=>by
   obtain⟨i,hi⟩:=List.mem_iff_getElem?.1 hx;exact(hp i x hi).1
  refine⟨⟨some a,m,l⟩,rfl,⟨⟨Sl.dH l,fun hp0=>⟨a,rfl,?_,fun j u hu=>?_⟩⟩,hl,hm,hlen,fun x hx=>(hmem x hx).1⟩,fun x hx=>(hmem x hx).2⟩
  ·have h0:0<l.length:=hp0;have h1:0<(aj.cs (l[0])).length:=by rw[aj.len];exact aj.pos
   have:=(hp 0 _ (Zl h0)).2 0 _ (Zl h1);have:=World.block_lt_of_cell? w _ this;rwa[kD] at this
  ·obtain⟨x,h1,h2⟩:=L9 hu;have h3:=(hp _ x h1).2 _ u h2;rwa[show j / aj.sz α*aj.sz α+j % aj.sz α=j from by rw[Nat.mul_comm];exact Nat.div_add_mod j _] at h3
theorem M9 {cs:List Value}{y:DataW H×List MemPlace}(ht:P.underlying t=some .string)(hf:DataW.trod enc P w base (fun _=>true) held fuel t cs=some y)(hw:∀n∈y.1.weights P t,n≤reachBytes):∃s:ByteArray,cs=[.string s]∧s.size≤140737488355328:=by
 obtain⟨s,rfl,rfl,-⟩:=DataW.trod_string ht hf;have h1:=hw s.data.toList.length (by simp only[DataW.weights];exact ZC);have h2:reachBytes=140737488351232:=by decide
 have h3:s.size=s.data.toList.length:=Array.length_toList.symm;exact⟨s,rfl,by omega⟩
end
open Go.ChangeShapes Go.WideShapes Go.Joins
variable{H:Type}{enc:TypeId×Value→H}{w:World}{base:Nat}{held:Bool}
theorem La:prog.cellsOf 3=1:=by kernel_rfl
theorem YV:prog.cellsOf 5=1:=by kernel_rfl
theorem YR:prog.cellsOf 9=1:=by kernel_rfl
theorem Yg:prog.cellsOf 33=1:=by kernel_rfl
theorem Zc:prog.cellsOf 35=5:=by kernel_rfl
theorem Y5:prog.cellsOf 37=12:=by kernel_rfl
theorem YX:prog.cellsOf 53=2:=by kernel_rfl
theorem YS:prog.cellsOf 39=18:=by kernel_rfl
theorem wX {y:DataW H×List MemPlace}(hf:DataW.trod enc prog w base (fun _=>true) held fuel 33 [v]=some y)(hw:∀n∈y.1.weights prog 33,n≤reachBytes) :
  ∃s:Sl Int,v=s∧s.aA w w 140737488355328∧∀x∈s.l,i64 x:=
 Ch i64 underlying33 La (aae (by kernel_rfl)) hf hw fun n cs z h _=>by
  obtain⟨x,rfl,-,wf⟩:=DataW.trod_int underlying3 h;exact⟨x,rfl,trivial,bounds_i64 wf⟩
theorem Le {y:DataW H×List MemPlace}(hf:DataW.trod enc prog w base (fun _=>true) held fuel 22 [v]=some y)(hw:∀n∈y.1.weights prog 22,n≤reachBytes) :
  ∃s:Sl gT,v=s∧s.aA w w 140737488355328:=by
 obtain⟨s,h1,h2,-⟩:=Ch (fun _:gT=>True) underlying22 YX (aae (by kernel_rfl)) hf hw fun n cs z h hz=>by
  obtain⟨hl,hg⟩:=Yf underlying53 h hz
  match cs,hl.trans YX with
  |[v0,v1],_=>
   obtain⟨na0,ya0,ta0,wa0⟩:=hg 0 _ rfl;replace wa0:∀m∈ya0.1.weights prog 33,m≤reachBytes:=wa0
   replace ta0:DataW.trod enc prog w base (fun _=>true) held na0 33 [v0]=some ya0:=by
    have e:DataW.trod enc prog w base (fun _=>true) held na0 33 (([v0,v1].drop 0).take (prog.cellsOf 33))=some ya0:=ta0;rw[Yg] at e;exact e
   obtain⟨na1,ya1,ta1,wa1⟩:=hg 1 _ rfl;replace wa1:∀m∈ya1.1.weights prog 33,m≤reachBytes:=wa1
   replace ta1:DataW.trod enc prog w base (fun _=>true) held na1 33 [v1]=some ya1:=by
    have e:DataW.trod enc prog w base (fun _=>true) held na1 33 (([v0,v1].drop 1).take (prog.cellsOf 33))=some ya1:=ta1;rw[Yg] at e;exact e
   obtain⟨r,rfl,h1,-⟩:=wX ta0 wa0;obtain⟨m,rfl,h2,-⟩:=wX ta1 wa1;exact⟨⟨r,m⟩,rfl,⟨h1,h2⟩,trivial⟩
 exact⟨s,h1,h2⟩
structure Ng (a:DN):Prop where
 sz:a.c.m.key.size≤140737488355328∧a.c.m.body.size≤140737488355328
 wf:a.c.m.key.size≤4096→a.c.m.body.size≤4096→F4 a
theorem Qu {y:DataW H×List MemPlace}(hf:DataW.trod enc prog w base (fun _=>true) held fuel 23 [v]=some y)(hw:∀n∈y.1.weights prog 23,n≤reachBytes) :
  ∃s:Sl DN,v=.slice s.A s.l.length s.c∧s.aA w w.heap.size 140737488355328∧∀a∈s.l,Ng a:=
 Ch Ng underlying23 YS (aae (by kernel_rfl)) hf hw fun n cs z h hz=>by
  obtain⟨hl,hg⟩:=Yf underlying39 h hz
  match cs,hl.trans YS with
  |[v0,v1,v2,v3,v4,v5,v6,v7,v8,v9,v10,v11,v12,v13,v14,v15,v16,v17],_=>
   obtain⟨na0,ya0,ta0,wa0⟩:=hg 0 _ rfl;replace wa0:∀m∈ya0.1.weights prog 5,m≤reachBytes:=wa0
   replace ta0:DataW.trod enc prog w base (fun _=>true) held na0 5 [v0]=some ya0:=by
    have e:DataW.trod enc prog w base (fun _=>true) held na0 5 (([v0,v1,v2,v3,v4,v5,v6,v7,v8,v9,v10,v11,v12,v13,v14,v15,v16,v17].drop 0).take (prog.cellsOf 5))=some ya0:=ta0;rw[YV] at e;exact e
   obtain⟨na1,ya1,ta1,wa1⟩:=hg 1 _ rfl;replace wa1:∀m∈ya1.1.weights prog 3,m≤reachBytes:=wa1
   replace ta1:DataW.trod enc prog w base (fun _=>true) held na1 3 [v1]=some ya1:=by
    have e:DataW.trod enc prog w base (fun _=>true) held na1 3 (([v0,v1,v2,v3,v4,v5,v6,v7,v8,v9,v10,v11,v12,v13,v14,v15,v16,v17].drop 1).take (prog.cellsOf 3))=some ya1:=ta1;rw[La] at e;exact e
   obtain⟨na2,ya2,ta2,wa2⟩:=hg 2 _ rfl;replace wa2:∀m∈ya2.1.weights prog 3,m≤reachBytes:=wa2
   replace ta2:DataW.trod enc prog w base (fun _=>true) held na2 3 [v2]=some ya2:=by
    have e:DataW.trod enc prog w base (fun _=>true) held na2 3 (([v0,v1,v2,v3,v4,v5,v6,v7,v8,v9,v10,v11,v12,v13,v14,v15,v16,v17].drop 2).take (prog.cellsOf 3))=some ya2:=ta2;rw[La] at e;exact e
   obtain⟨na3,ya3,ta3,wa3⟩:=hg 3 _ rfl;replace wa3:∀m∈ya3.1.weights prog 3,m≤reachBytes:=wa3
   replace ta3:DataW.trod enc prog w base (fun _=>true) held na3 3 [v3]=some ya3:=by
    have e:DataW.trod enc prog w base (fun _=>true) held na3 3 (([v0,v1,v2,v3,v4,v5,v6,v7,v8,v9,v10,v11,v12,v13,v14,v15,v16,v17].drop 3).take (prog.cellsOf 3))=some ya3:=ta3;rw[La] at e;exact e
   obtain⟨na4,ya4,ta4,wa4⟩:=hg 4 _ rfl;replace wa4:∀m∈ya4.1.weights prog 3,m≤reachBytes:=wa4
   replace ta4:DataW.trod enc prog w base (fun _=>true) held na4 3 [v4]=some ya4:=by
    have e:DataW.trod enc prog w base (fun _=>true) held na4 3 (([v0,v1,v2,v3,v4,v5,v6,v7,v8,v9,v10,v11,v12,v13,v14,v15,v16,v17].drop 4).take (prog.cellsOf 3))=some ya4:=ta4;rw[La] at e;exact e
   obtain⟨na5,ya5,ta5,wa5⟩:=hg 5 _ rfl;replace wa5:∀m∈ya5.1.weights prog 3,m≤reachBytes:=wa5
   replace ta5:DataW.trod enc prog w base (fun _=>true) held na5 3 [v5]=some ya5:=by
    have e:DataW.trod enc prog w base (fun _=>true) held na5 3 (([v0,v1,v2,v3,v4,v5,v6,v7,v8,v9,v10,v11,v12,v13,v14,v15,v16,v17].drop 5).take (prog.cellsOf 3))=some ya5:=ta5;rw[La] at e;exact e
   obtain⟨na6,ya6,ta6,wa6⟩:=hg 6 _ rfl;replace wa6:∀m∈ya6.1.weights prog 37,m≤reachBytes:=wa6
   replace ta6:DataW.trod enc prog w base (fun _=>true) held na6 37 [v6,v7,v8,v9,v10,v11,v12,v13,v14,v15,v16,v17]=some ya6:=by
    have e:DataW.trod enc prog w base (fun _=>true) held na6 37 (([v0,v1,v2,v3,v4,v5,v6,v7,v8,v9,v10,v11,v12,v13,v14,v15,v16,v17].drop 6).take (prog.cellsOf 37))=some ya6:=ta6;rw[Y5] at e;exact e
   obtain⟨-,hc⟩:=Yf underlying37 ta6 wa6;obtain⟨nc0,yc0,tc0,wc0⟩:=hc 0 _ rfl;replace wc0:∀m∈yc0.1.weights prog 5,m≤reachBytes:=wc0
   replace tc0:DataW.trod enc prog w base (fun _=>true) held nc0 5 [v6]=some yc0:=by
    have e:DataW.trod enc prog w base (fun _=>true) held nc0 5 (([v6,v7,v8,v9,v10,v11,v12,v13,v14,v15,v16,v17].drop 0).take (prog.cellsOf 5))=some yc0:=tc0;rw[YV] at e;exact e
   obtain⟨nc1,yc1,tc1,wc1⟩:=hc 1 _ rfl;replace wc1:∀m∈yc1.1.weights prog 35,m≤reachBytes:=wc1
   replace tc1:DataW.trod enc prog w base (fun _=>true) held nc1 35 [v7,v8,v9,v10,v11]=some yc1:=by
    have e:DataW.trod enc prog w base (fun _=>true) held nc1 35 (([v6,v7,v8,v9,v10,v11,v12,v13,v14,v15,v16,v17].drop 1).take (prog.cellsOf 35))=some yc1:=tc1;rw[Zc] at e;exact e
   obtain⟨nc2,yc2,tc2,wc2⟩:=hc 2 _ rfl;replace wc2:∀m∈yc2.1.weights prog 3,m≤reachBytes:=wc2
   replace tc2:DataW.trod enc prog w base (fun _=>true) held nc2 3 [v12]=some yc2:=by
    have e:DataW.trod enc prog w base (fun _=>true) held nc2 3 (([v6,v7,v8,v9,v10,v11,v12,v13,v14,v15,v16,v17].drop 6).take (prog.cellsOf 3))=some yc2:=tc2;rw[La] at e;exact e
   obtain⟨nc3,yc3,tc3,wc3⟩:=hc 3 _ rfl;replace wc3:∀m∈yc3.1.weights prog 3,m≤reachBytes:=wc3
   replace tc3:DataW.trod enc prog w base (fun _=>true) held nc3 3 [v13]=some yc3:=by
    have e:DataW.trod enc prog w base (fun _=>true) held nc3 3 (([v6,v7,v8,v9,v10,v11,v12,v13,v14,v15,v16,v17].drop 7).take (prog.cellsOf 3))=some yc3:=tc3;rw[La] at e;exact e
   obtain⟨nc4,yc4,tc4,wc4⟩:=hc 4 _ rfl;replace wc4:∀m∈yc4.1.weights prog 33,m≤reachBytes:=wc4
   replace tc4:DataW.trod enc prog w base (fun _=>true) held nc4 33 [v14]=some yc4:=by
    have e:DataW.trod enc prog w base (fun _=>true) held nc4 33 (([v6,v7,v8,v9,v10,v11,v12,v13,v14,v15,v16,v17].drop 8).take (prog.cellsOf 33))=some yc4:=tc4;rw[Yg] at e;exact e
   obtain⟨nc5,yc5,tc5,wc5⟩:=hc 5 _ rfl;replace wc5:∀m∈yc5.1.weights prog 3,m≤reachBytes:=wc5
   replace tc5:DataW.trod enc prog w base (fun _=>true) held nc5 3 [v15]=some yc5:=by
    have e:DataW.trod enc prog w base (fun _=>true) held nc5 3 (([v6,v7,v8,v9,v10,v11,v12,v13,v14,v15,v16,v17].drop 9).take (prog.cellsOf 3))=some yc5:=tc5;rw[La] at e;exact e
   obtain⟨nc6,yc6,tc6,wc6⟩:=hc 6 _ rfl;replace wc6:∀m∈yc6.1.weights prog 3,m≤reachBytes:=wc6
   replace tc6:DataW.trod enc prog w base (fun _=>true) held nc6 3 [v16]=some yc6:=by
    have e:DataW.trod enc prog w base (fun _=>true) held nc6 3 (([v6,v7,v8,v9,v10,v11,v12,v13,v14,v15,v16,v17].drop 10).take (prog.cellsOf 3))=some yc6:=tc6;rw[La] at e;exact e
   obtain⟨nc7,yc7,tc7,wc7⟩:=hc 7 _ rfl;replace wc7:∀m∈yc7.1.weights prog 3,m≤reachBytes:=wc7
   replace tc7:DataW.trod enc prog w base (fun _=>true) held nc7 3 [v17]=some yc7:=by
    have e:DataW.trod enc prog w base (fun _=>true) held nc7 3 (([v6,v7,v8,v9,v10,v11,v12,v13,v14,v15,v16,v17].drop 11).take (prog.cellsOf 3))=some yc7:=tc7;rw[La] at e;exact e
   obtain⟨-,hm⟩:=Yf underlying35 tc1 wc1;obtain⟨nm0,ym0,tm0,wm0⟩:=hm 0 _ rfl;replace wm0:∀m∈ym0.1.weights prog 3,m≤reachBytes:=wm0
   replace tm0:DataW.trod enc prog w base (fun _=>true) held nm0 3 [v7]=some ym0:=by
    have e:DataW.trod enc prog w base (fun _=>true) held nm0 3 (([v7,v8,v9,v10,v11].drop 0).take (prog.cellsOf 3))=some ym0:=tm0;rw[La] at e;exact e
   obtain⟨nm1,ym1,tm1,wm1⟩:=hm 1 _ rfl;replace wm1:∀m∈ym1.1.weights prog 33,m≤reachBytes:=wm1
   replace tm1:DataW.trod enc prog w base (fun _=>true) held nm1 33 [v8]=some ym1:=by
    have e:DataW.trod enc prog w base (fun _=>true) held nm1 33 (([v7,v8,v9,v10,v11].drop 1).take (prog.cellsOf 33))=some ym1:=tm1;rw[Yg] at e;exact e
   obtain⟨nm2,ym2,tm2,wm2⟩:=hm 2 _ rfl;replace wm2:∀m∈ym2.1.weights prog 3,m≤reachBytes:=wm2
   replace tm2:DataW.trod enc prog w base (fun _=>true) held nm2 3 [v9]=some ym2:=by
    have e:DataW.trod enc prog w base (fun _=>true) held nm2 3 (([v7,v8,v9,v10,v11].drop 2).take (prog.cellsOf 3))=some ym2:=tm2;rw[La] at e;exact e
   obtain⟨nm3,ym3,tm3,wm3⟩:=hm 3 _ rfl;replace wm3:∀m∈ym3.1.weights prog 9,m≤reachBytes:=wm3
   replace tm3:DataW.trod enc prog w base (fun _=>true) held nm3 9 [v10]=some ym3:=by
    have e:DataW.trod enc prog w base (fun _=>true) held nm3 9 (([v7,v8,v9,v10,v11].drop 3).take (prog.cellsOf 9))=some ym3:=tm3;rw[YR] at e;exact e
   obtain⟨nm4,ym4,tm4,wm4⟩:=hm 4 _ rfl;replace wm4:∀m∈ym4.1.weights prog 9,m≤reachBytes:=wm4
   replace tm4:DataW.trod enc prog w base (fun _=>true) held nm4 9 [v11]=some ym4:=by
    have e:DataW.trod enc prog w base (fun _=>true) held nm4 9 (([v7,v8,v9,v10,v11].drop 4).take (prog.cellsOf 9))=some ym4:=tm4;rw[YR] at e;exact e
   obtain⟨k,ea0,-,fa0⟩:=DataW.trod_int underlying5 ta0;obtain⟨node,ea1,-,fa1⟩:=DataW.trod_int underlying3 ta1;obtain⟨pl,ea2,-,fa2⟩:=DataW.trod_int underlying3 ta2;obtain⟨keep,ea3,-,fa3⟩:=DataW.trod_int underlying3 ta3;obtain⟨DL,ea4,-,fa4⟩:=DataW.trod_int underlying3 ta4;obtain⟨g,ea5,-,fa5⟩:=DataW.trod_int underlying3 ta5;obtain⟨ck,ec0,-,fc0⟩:=DataW.trod_int underlying5 tc0;obtain⟨ci,ec2,-,fc2⟩:=DataW.trod_int underlying3 tc2;obtain⟨ctm,ec3,-,fc3⟩:=DataW.trod_int underlying3 tc3;obtain⟨ctp,ec5,-,fc5⟩:=DataW.trod_int underlying3 tc5;obtain⟨cwho,ec6,-,fc6⟩:=DataW.trod_int underlying3 tc6;obtain⟨cn,ec7,-,fc7⟩:=DataW.trod_int underlying3 tc7;obtain⟨mi,em0,-,fm0⟩:=DataW.trod_int underlying3 tm0;obtain⟨mt,em2,-,fm2⟩:=DataW.trod_int underlying3 tm2;obtain⟨cme,ec4,fc4,gc4⟩:=wX tc4 wc4;obtain⟨mg,em1,fm1,gm1⟩:=wX tm1 wm1;obtain⟨key,em3,fm3⟩:=M9 underlying9 tm3 wm3;obtain⟨body,em4,fm4⟩:=M9 underlying9 tm4 wm4;simp only[List.cons.injEq,and_true] at ea0 ea1 ea2 ea3 ea4 ea5 ec0 em0 em2 em3 em4 ec2 ec3 ec5 ec6 ec7;subst ea0 ea1 ea2 ea3 ea4 ea5 ec0 em0 em2 em3 em4 ec2 ec3 ec5 ec6 ec7 ec4 em1;exact⟨⟨k,node,pl,keep,DL,g,⟨ck,⟨mi,mg,mt,key,body⟩,ci,ctm,cme,ctp,cwho,cn⟩⟩,rfl,⟨fm1,fc4⟩,⟨fm3,fm4⟩,fun h1 h2=>⟨bounds_i64 fa4,bounds_i64 fa5,⟨bounds_u8 fc0,⟨bounds_i64 fm0,bounds_i64 fm2,gm1,h1,h2⟩,bounds_i64 fc2,bounds_i64 fc3,gc4,bounds_i64 fc5,bounds_i64 fc6,bounds_i64 fc7⟩⟩⟩
end Go.Proofs.YtaebfkcgdmodlaaGreatDoor
