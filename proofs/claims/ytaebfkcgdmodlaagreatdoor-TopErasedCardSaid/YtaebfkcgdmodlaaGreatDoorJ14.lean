/-
  A part of the proof that the erased node of towncrier reads nothing (TopErased).
-/
import Derived.Test.YtaebfkcgdmodlaaGreatDoorJ13
import Derived.Test.YtaebfkcgdmodlaaGreatDoorJ08
namespace Go.Proofs.YtaebfkcgdmodlaaGreatDoor
open Go.RowKit Go.Proofs.Tryz
set_option maxHeartbeats 16000000
set_option maxRecDepth 100000
set_option linter.unusedVariables false
set_option linter.unusedSimpArgs false
instance:aj (Sl Int):=TH 33 71 underlying71 (by kernel_rfl)
instance:jy (Sl Int):=⟨[3],fun x g t h=>Sl.dA x g t h⟩
structure I9 where
 o:Int
 i:Int
 key:ByteArray
 body:ByteArray
instance:Coe I9 (List Value):=⟨fun x=>[x.o,x.i,x.key,x.body]⟩
instance:Coe I9 (Array Value):=⟨fun x=>(x:List Value).toArray⟩
instance:Coe I9 Value:=⟨fun x=>.agg (x:List Value).toArray⟩
instance:aj I9:=iE 374 4 (fun x:I9=>[.int .i64 x.o,.int .i64 x.i,.string x.key,.string x.body]) (fun _=>rfl) (by decide) (fun(x:I9) u hu=>by simp only[Zu,ZF,or_false] at hu;rcases hu with rfl|rfl|rfl|rfl<;>rfl) 259 underlying259 (.agg #[.int .i64 0,.int .i64 0,.string ⟨#[]⟩,.string ⟨#[]⟩]) 48 (by kernel_rfl) rfl (by decide)
structure Top where
 base:Int
 next:Int
 mark:Int
 es:Sl I9
instance:Coe Top (List Value):=⟨fun x=>[x.base,x.next,x.mark,x.es]⟩
instance:Coe Top (Array Value):=⟨fun x=>(x:List Value).toArray⟩
instance:Coe Top Value:=⟨fun x=>.agg (x:List Value).toArray⟩
instance:au Top where
 bl:=fun x=>(x.es.bl)
 aA:=fun w B N x=>x.es.aA w B N
 Own:=fun w b N x=>x.es.Own w b N
 bA:=fun h hk=>Sl.aA.keep (h) hk
 aS:=fun h hB hN=>Sl.aA.more (h) hB hN
 aN:=fun h hk=>Sl.Own.keep (h) (fun g t hg=>hk g t (by simp[Zm,hg]))
 aG:=fun h hb hN=>Sl.Own.mono (h) hb hN
 dK:=fun h g t hg=>by
  exact Sl.Own.iD h g t hg
 dP:=fun h=>Sl.Own.lie (h)
instance:aj Top where
 ty:=261
 sz:=4
 cs:=fun x:Top=>[.int .i64 x.base,.int .i64 x.next,.int .i64 x.mark,.slice x.es.A x.es.l.length x.es.c]
 len:=fun _=>rfl
 pos:=by decide
 one:=fun(x:Top) u hu=>by simp only[Zu,ZF,or_false] at hu;rcases hu with rfl|rfl|rfl|rfl<;>rfl
 sty:=70
 und:=underlying70
 zero:=.agg #[.int .i64 0,.int .i64 0,.int .i64 0,.slice none 0 0]
 bytes:=48
 info:=by kernel_rfl
 zc:=rfl
 Gl:=by decide
structure oN where
 ts:Sl Top
 co:Sl (Sl Int)
instance:Coe oN (List Value):=⟨fun x=>[x.ts,x.co]⟩
instance:Coe oN (Array Value):=⟨fun x=>(x:List Value).toArray⟩
instance:Coe oN Value:=⟨fun x=>.agg (x:List Value).toArray⟩
instance:au oN where
 bl:=fun x=>(x.ts.bl)++(x.co.bl)
 aA:=fun w B N x=>x.ts.aA w B N∧x.co.aA w B N
 Own:=fun w b N x=>x.ts.Own w b N∧x.co.Own w b N
 bA:=fun h hk=>⟨Sl.aA.keep (h.1) hk,Sl.aA.keep (h.2) hk⟩
 aS:=fun h hB hN=>⟨Sl.aA.more (h.1) hB hN,Sl.aA.more (h.2) hB hN⟩
 aN:=fun h hk=>⟨Sl.Own.keep (h.1) (fun g t hg=>hk g t (by simp[Zm,hg])),Sl.Own.keep (h.2) (fun g t hg=>hk g t (by simp[Zm,hg]))⟩
 aG:=fun h hb hN=>⟨Sl.Own.mono (h.1) hb hN,Sl.Own.mono (h.2) hb hN⟩
 dK:=fun h g t hg=>by
  simp only[Zm] at hg
  rcases hg with hg|hg
  ·exact Sl.Own.iD (h.1) g t hg
  ·exact Sl.Own.iD (h.2) g t hg
 dP:=fun h=>⟨Sl.Own.lie (h.1),Sl.Own.lie (h.2)⟩
structure FK where
 k:iW
 s:oN
 la:Sl Int
instance:Coe FK (List Value):=⟨fun x=>[x.k.ck,x.k.wa,x.k.dn,x.s.ts,x.s.co,x.la]⟩
instance:Coe FK (Array Value):=⟨fun x=>(x:List Value).toArray⟩
instance:Coe FK Value:=⟨fun x=>.agg (x:List Value).toArray⟩
instance:au FK where
 bl:=fun x=>(x.k.wa.bl)++(x.k.dn.bl)++(x.s.ts.bl)++(x.s.co.bl)++(x.la.bl)
 aA:=fun w B N x=>x.k.wa.aA w B N∧x.k.dn.aA w B N∧x.s.ts.aA w B N∧x.s.co.aA w B N∧x.la.aA w B N
 Own:=fun w b N x=>x.k.wa.Own w b N∧x.k.dn.Own w b N∧x.s.ts.Own w b N∧x.s.co.Own w b N∧x.la.Own w b N
 bA:=fun h hk=>⟨Sl.aA.keep (h.1) hk,Sl.aA.keep (h.2.1) hk,Sl.aA.keep (h.2.2.1) hk,Sl.aA.keep (h.2.2.2.1) hk,Sl.aA.keep (h.2.2.2.2) hk⟩
 aS:=fun h hB hN=>⟨Sl.aA.more (h.1) hB hN,Sl.aA.more (h.2.1) hB hN,Sl.aA.more (h.2.2.1) hB hN,Sl.aA.more (h.2.2.2.1) hB hN,Sl.aA.more (h.2.2.2.2) hB hN⟩
 aN:=fun h hk=>⟨Sl.Own.keep (h.1) (fun g t hg=>hk g t (by simp[Zm,hg])),Sl.Own.keep (h.2.1) (fun g t hg=>hk g t (by simp[Zm,hg])),Sl.Own.keep (h.2.2.1) (fun g t hg=>hk g t (by simp[Zm,hg])),Sl.Own.keep (h.2.2.2.1) (fun g t hg=>hk g t (by simp[Zm,hg])),Sl.Own.keep (h.2.2.2.2) (fun g t hg=>hk g t (by simp[Zm,hg]))⟩
 aG:=fun h hb hN=>⟨Sl.Own.mono (h.1) hb hN,Sl.Own.mono (h.2.1) hb hN,Sl.Own.mono (h.2.2.1) hb hN,Sl.Own.mono (h.2.2.2.1) hb hN,Sl.Own.mono (h.2.2.2.2) hb hN⟩
 dK:=fun h g t hg=>by
  simp only[Zm] at hg
  rcases hg with (((hg|hg)|hg)|hg)|hg
  ·exact Sl.Own.iD (h.1) g t hg
  ·exact Sl.Own.iD (h.2.1) g t hg
  ·exact Sl.Own.iD (h.2.2.1) g t hg
  ·exact Sl.Own.iD (h.2.2.2.1) g t hg
  ·exact Sl.Own.iD (h.2.2.2.2) g t hg
 dP:=fun h=>⟨Sl.Own.lie (h.1),Sl.Own.lie (h.2.1),Sl.Own.lie (h.2.2.1),Sl.Own.lie (h.2.2.2.1),Sl.Own.lie (h.2.2.2.2)⟩
structure Tok where
 i:Int
 t:Int
 o:Int
instance:Coe Tok (List Value):=⟨fun x=>[x.i,x.t,x.o]⟩
instance:Coe Tok (Array Value):=⟨fun x=>(x:List Value).toArray⟩
instance:Coe Tok Value:=⟨fun x=>.agg (x:List Value).toArray⟩
instance:aj Tok:=iE 80 3 (fun x:Tok=>[.int .i64 x.i,.int .i64 x.t,.int .i64 x.o]) (fun _=>rfl) (by decide) (fun(x:Tok) u hu=>by simp only[Zu,ZF,or_false] at hu;rcases hu with rfl|rfl|rfl<;>rfl) 76 underlying76 (.agg #[.int .i64 0,.int .i64 0,.int .i64 0]) 24 (by kernel_rfl) rfl (by decide)
instance:jy I9:=⟨[],iB fun _=>rfl⟩
instance:jy Tok:=⟨[],iB fun _=>rfl⟩
instance:jy Top:=⟨[374],fun x g t h=>Sl.dA x.es g t h⟩
theorem CO (s:Sl I9)(w:World)(B:Nat)(hr:Reads w B (aj.sz I9) s.A s.l.length s.row)(hB:B≤w.heap.size)(hn:s.l.length≤1000000000) :
  Calls prog 220 #[s] w fun e w'=>∃s':Sl I9,e=.returned s'∧s'.l=s.l∧s'.Row w' w.heap.size∧Below w w w':=by
 obtain⟨A,c,l⟩:=s;have q22:∀(w:World) (a:Option Addr) (n c n' c':Nat),(binOp .eql 259 (.slice a n c) (.slice none n' c')).run prog w=.ok a.isNone w:=fun w a n c n' c'=>Lib.run_eql_slice_nil w _ _ a n c n' c' underlying259;cases A with
 |none=>
  obtain rfl:=reads_nil hr;clear hr
  go_enter func220,ntmps220
  go_wp2;go_ret;exact⟨Sl.nil,rfl,rfl,Sl.xu,aaO _ _⟩
 |some ad=>
  have HR:=L_ hr;clear hr;have HO:=L_ (Eb (α:=I9) w);have HR2:=L_ (HR.keep (w':=w.alloc (.cells #[] 374)) fun p hp=>World.cell?_alloc_lt w _ p (by omega))
  go_enter func220,ntmps220
  go_wp2_with (at_builtin;refine Sl.app rfl (.tmp 5) (.tmp 6) 259 rfl rfl w.heap.size (⟨some ⟨w,0,none⟩,0,[]⟩:Sl I9) rfl HO B ⟨some ad,c,l⟩ rfl HR2 (by simp at hn ⊢;omega) (by simp) ?_);intro s' w' h0 h1 h2;have H0:=L_ h0;have H1:=L_ h1;have hb:=L_ (aR (h2.bW HO (by simp)) (Zh _));clear h0 h1 h2;go_wp2;go_ret;exact⟨s',rfl,by simpa using H0.out,H1,hb⟩
variable{a:Act}{ops:Array Oper}{Q:Exit→Act→World→Prop}{bx:List Bx}{b:Nat}{o:Oper}{x y:Operand}{w w0:World}
section
attribute [local irreducible] wpList av aH
def dN:Top:=⟨0,0,0,⟨none,0,[]⟩⟩
theorem AZ:∀n:Nat,((List.replicate n (0:Int)).flatMap aj.cs)=List.replicate n (.int .i64 0)
 |0=>rfl
 |n+1=>by rw[List.replicate_succ,ZQ,AZ n,List.replicate_succ];rfl
theorem Mq (n:Nat):(madeCells (Value.int .i64 0).cells (n*1)).toList=List.replicate n (.int .i64 0):=by
 rw[ZB];refine List.ext_getElem (by simp[madeCells]) fun i h1 h2=>?_;simp[madeCells,Value.cells,Nat.mod_one]
theorem Xm {is:List It}(E:Env b w0 bx is w)(n:Nat)(hn:n≤1000):∃w',(Instr.makeSlice 33 ((n:Int)) ((n:Int))).run prog w=.ok (.slice (some ⟨w,0,none⟩) n n) w'∧Env b w0 bx (own (⟨some ⟨w,0,none⟩,n,List.replicate n 0⟩:Sl Int) 1000::is) w':=by
 obtain⟨i0,hi0,hz0,hz1,hz2⟩:=info_parts (aj.info (α:=Int));obtain⟨w',hr,hrow,hgr⟩:=run_makeSlice_full (P:=prog) (w:=w) w 33 (aj.ty Int) i0 (aj.zero Int) 1 underlying33 hi0 hz0 hz1 .i64 .i64 n (by omega) (by rw[hz2];show 8*n≤_;omega) (by simp only[maxLen];omega) (Zh _);refine⟨w',hr,E.sH ⟨hgr.os,hgr.tape,hgr.output,hgr.size,fun g hg=>hgr.block g hg (by simp)⟩ (x:=(⟨some ⟨w,0,none⟩,n,List.replicate n 0⟩:Sl Int)) (N:=1000) ⟨?_,by simpa using hn,fun x hx=>trivial⟩⟩;unfold Sl.Row Sl.row;rw[AZ];have e:=Mq n;simp only[List.length_replicate];rw[←e];exact hrow
theorem Ti (n:Nat){is:List It}{rest:List Oper}(E:Env b w0 bx is w)(hn:n≤1000)(h:∀g w',Env b w0 bx (own (⟨some ⟨g,0,none⟩,n,List.replicate n 0⟩:Sl Int) 1000::is) w'→wpList prog ops Q rest (a.put o.dst (.slice (some ⟨g,0,none⟩) n n)) w')
  (hg:o.guard=none:=by rfl) (ho:o.op=.makeSlice 33 x y:=by rfl) (hx:a.eval x=(n:Int):=by rfl) (hy:a.eval y=(n:Int):=by rfl):wpList prog ops Q (o::rest) a w:=by
 obtain⟨w',hr,E'⟩:=Xm E n hn;refine wpList_plain hg fun K hK=>?_;unfold Oper.wp execOp;simp only[ho,hx,hy,aaV,hr,aaQ,aaW];exact hK _ _ (h _ _ E')
theorem WE (w:World):Calls prog 139 #[] w fun e w'=>e=.returned (dN)∧Below w w w':=by
 have E:=Env.start w
 go_enter func139,ntmps139
 refine G E [5,70,3,4,5,0,60,4,22,9] ?_;clear E;intro g0 w3 E;exact nI 0 E ⟨rfl,E.aD⟩
theorem RX (x:I9)(w:World)(h1:0≤x.i)(h2:x.i<6291456)(h3:x.key.size≤16)(h4:x.body.size≤64):Calls prog 279 #[x] w fun e w'=>e=.returned true∧Below w w w':=by
 have E:=Env.start w;have e3:decide ((x.key.size:Int)≤16)=true:=ZG (by omega);have e4:decide ((x.body.size:Int)≤64)=true:=ZG (by omega)
 go_enter func279,ntmps279
 refine G E [5,71,3,0,4,5,0,40,84,40,84,0,40,83,40,84,0,4,22,9] ?_;clear E;intro g1 w2 E;exact ak ⟨rfl,E.aD⟩
theorem JG (w:World):Calls prog 268 #[dN] w fun e w'=>e=.returned (.int .i64 0)∧Below w w w':=by
 have E:=Env.start w
 go_enter func268,ntmps268
 refine G E [5,71,3,0,4,6,5,0,40,84,40,84,0,40,84,0,40,0,40,84,0,40,84,0,40,0,40,84,0,40,84,4,8,15,5,9] ?_;clear E;intro g1 w2 E;refine TA 9 3 E ?_;clear E;intro g3 w3 E;refine G E [3,0,4,5,0,40,0,0,4,6,5,0,40,0,0,4,19] ?_
 go_loopw [4,52] (fun z u wr=>z=.int .i64 (-1)∧u=.int .i64 0∧Env w w ((g1,261,dN)::[]) [] wr) (fun _ u _=>0)
 case atStart=>exact⟨rfl,rfl,E.weak⟩
 case round=>
  clear E;obtain⟨rfl,rfl,E⟩:=hrel;refine G E [5,0,4,17,27,28,6,5,84,40,0,0,40,0,4,8,15,5,0,4,22] ?_;exact ak ⟨rfl,E.aD⟩
theorem OL (t:Top)(w:World)(N:Nat)(hl:au.aA w w N t)(hN:N≤1000000):Calls prog 150 #[t] w fun e w'=>∃s:Sl I9,e=.returned ((⟨t.base,t.next,t.mark,s⟩:Top))∧Hid (s.l=t.es.l)∧Env w w [] [own s N] w':=by
 have HL:=L_ hl;clear hl;have E:=Env.start w
 go_enter func150,ntmps150
 refine G E [5,71,3,70,3,4,5,0,41,9] ?_;clear E;intro g1 g2 w3 E;refine ah (qg CO E HL) ?_;clear E;rintro _ w4 ⟨s,rfl,hs,E⟩;refine G E [26,0,61,4,5,9] ?_;clear E;intro w5 E;refine aB 1 4 E ?_;refine G E [60,4,22,9] ?_;clear E;intro w6 E;exact nI 0 E ⟨s,rfl,hs,E.drop 2⟩
end
variable{ad:Addr}{N:Nat}
section
attribute [local irreducible] wpList av aH
theorem IV:∀(vs cs:List Value),vs.length≤cs.length→Env.splice cs 0 vs=vs++cs.drop vs.length:=by
 have key:∀(vs pre cs:List Value),vs.length≤cs.length→Env.splice (pre++cs) pre.length vs=pre++(vs++cs.drop vs.length):=by
  intro vs
  induction vs with
  |nil=>intro pre cs _;rfl
  |cons v vs ih=>
   intro pre cs h;cases cs with
   |nil=>simp at h
   |cons c cs=>
    unfold Env.splice;rw[List.set_append_right _ _ (Zh _),Nat.sub_self,aaJ];have:=ih (pre++[v]) cs (by simpa using h);rw[ZN,List.singleton_append,Zn,List.length_singleton] at this;rw[this];simp
 intro vs cs h;simpa using key vs [] cs h
theorem VY {is:List It}{rest:List Oper}{d s:Sl Int}(E:Env b w0 bx (own d N::is) w)(hr:Reads w w 1 s.A s.l.length s.row)(hA:s.A=some ad)(hn:s.l.length=d.l.length)(hp:0<d.l.length)
  (h:∀w',Env b w0 bx (own (⟨d.A,d.c,s.l⟩:Sl Int) N::is) w'→wpList prog ops Q rest (a.put o.dst (goInt s.l.length)) w')
  (hg:o.guard=none:=by rfl) (ho:o.op=.call { callee:=.builtin .copy,args:=#[x,y],argTypes:=#[33,33] }:=by rfl) (hx:a.eval x=d:=by rfl) (hy:a.eval y=s:=by rfl):wpList prog ops Q (o::rest) a w:=by
 have hO:Sl.Own w b N d:=E.get 0;obtain⟨g,cur,hdA,hbg,hK,c1,c2,c3,c4⟩:=hO.1.parts hp;obtain⟨cs,e1,e2,E1⟩:=E.SI hdA hp;have hB:=E1.blk 0 rfl;rw[show aj.sz Int=1 from rfl,ZB] at e1 e2;have hsl:s.row.length=s.l.length:=by rw[Sl.jM];exact ZB _
 have hcl:s.row.length≤cs.length:=by rw[hsl,hn,e1];exact hO.1.caps.1
 rw[hA] at hy;obtain⟨ad',h1,h2,h3⟩:=hr.2 (by omega);rw[hA] at h1;injection h1 with h1
 subst h1;rw[hdA] at hx;refine sS (P:=prog) w hg x y _ _ ho _ _ hx hy (mJ w 33 33 o.type 3 1 g 0 d.l.length d.c ad s.l.length s.c s.row underlying33 (by kernel_rfl) s.l.length (by rw[hn];exact Nat.min_self _) (by rw[hsl,ZB]) h3 (fun j hj=>?_) (fun j hj=>?_) s.row_one) ?_
 ·rw[aah,hB.cell j];have:j<cs.length:=by omega
  simp[this]
 ·rw[aah];exact hB.frozen j
 ·refine h _ ?_;have E2:=Env.Ez 0 s.row E1 rfl 0;rw[aaJ,IV _ _ hcl] at E2;refine Env.I7 (s:=(⟨d.A,d.c,s.l⟩:Sl Int)) E2 hdA (by rw[hn];exact hO.1.caps.1) hO.1.caps.2 (by have h9:=hcl;rw[e1] at h9;rw[Zn,ZK,e1];show _=d.c*1;omega) ?_ (by show s.l.length≤N;rw[hn];exact hO.2.1);show(s.row++cs.drop s.row.length).take (s.l.length*1)=s.row;rw[ZB,←hsl,List.take_left'];rfl
theorem U2 (w:World):Calls prog 138 #[] w fun e w'=>∃s:Sl (Sl Int),e=.returned s∧s.l.length=4∧Hid (∀x∈s.l,x.l=List.replicate 8 0)∧Env w w [] [own s 1000] w':=by
 have E:=Env.start w
 go_enter func138,ntmps138
 refine G0 [5,0,4,5,0,4,6,5,0,4,19] ?_;replace E:=E.aO (α:=Sl Int) (N:=1000)
 go_loopw [1,2] (fun z u wr=>∃(k:Nat) (s:Sl (Sl Int)),z=s∧u=(k:Int)∧k≤4∧s.l.length=k∧Hid (∀x∈s.l,x.l=List.replicate 8 0)∧Env w w [] [own s 1000] wr) (fun _ u _=>4 - (intOf u).toNat)
 case atStart=>exact⟨0,⟨none,0,[]⟩,rfl,rfl,Zq _,rfl,L_ (fun x hx=>by cases hx),E⟩
 case round=>
  clear E;obtain⟨k,s,rfl,rfl,hk,hsk,HS,E⟩:=hrel;replace hsk:=L_ hsk
  by_cases hlt:k<4
  case pos=>
   have hw:IntKind.i64.wrap ((k:Int)+1)=((k+1:Nat):Int):=by rw[aaP _ (by omega)];rfl
   have hlt0:(k:Int)<4:=by omega
   refine G0 [5,0,4,16,15,18,23,0] ?_;refine Ti 8 E (by decide) ?_;clear E;intro gy w2 E;refine zO ?_;replace E:=Env.join (E.perm (ZW ..));refine G E [72,3,9] ?_;clear E;intro g6 w3 E;refine uR 0 (s:=s) (N:=1000) 1000 (⟨some ⟨gy,0,none⟩,8,List.replicate 8 0⟩:Sl Int) g6 E (E.reads 0 1 1) (by rw[hsk.out];omega) (by omega) (by omega) ?_;clear E;intro s2 w4 h2 E;refine G0 [3,0,20,23,0,0,25] ?_
   go_roundw
   case rel=>exact⟨k+1,s2,rfl,rfl,hlt,by rw[h2.out,Zn,hsk.out];rfl,L_ (fun x hx=>by rw[h2.out] at hx;rcases Zm.1 hx with h|h;exact HS x h;rw[Zp.1 h]),E.drop 1⟩
   case measure=>simp[intOf];omega
  case neg=>
   have hlt0:¬(k:Int)<4:=by omega
   refine G0 [5,0,4,17] ?_;have hs4:Hid (s.l.length=4):=L_ (by rw[hsk.out];omega);refine G0 [27,28,5,0,0,4,22] ?_;exact ak ⟨s,rfl,hs4,HS,E⟩
theorem Cr:∀args w,(callFunc 326 args).run prog w=.ok (.enter 326 args) w:=enters_of func326 (by kernel_rfl) rfl
theorem XT (w:World):Calls prog 326 #[.int .i64 0] w fun e w'=>e=.returned false∧Below w w w':=by
 have E:=Env.start w
 go_enter func326,ntmps326
 refine G0 [5,0,4,5,83,0,0,4,22] ?_;exact ak ⟨rfl,E.aD⟩
theorem Cq:∀args w,(callFunc 328 args).run prog w=.ok (.enter 328 args) w:=enters_of func328 (by kernel_rfl) rfl
theorem X8 (g:Nat)(s:Sl Int)(w:World)(hb:aF w g 116 #[.func (.func 326) #[] #[]])(hl:s.aA w w 1000)(hs:s.l=List.replicate 8 0):Calls prog 328 #[s,g] w fun e w'=>e=.returned false∧Below w w w':=by
 obtain⟨A,c,l⟩:=s;obtain rfl:l=List.replicate 8 0:=hs;have HB:=L_ hb;have HL:=L_ hl;have hlt:=hb.lt;clear hb hl;have E:=Env.start w
 go_enter func328,ntmps328
 refine G0 [5,0,4,5,83] ?_;refine oZ ((E.aD.cell (p:=⟨g,0,none⟩) hlt).trans (HB.cell 0)) ?_;refine ah (mH (⟨A,c,List.replicate 8 0⟩:Sl Int) (fun _ q=>q=false) 326 Cr #[] _ 1000 (E.l HL) (by decide) (fun x hx w' _=>by rw[(List.mem_replicate.1 hx).2];exact(XT w').mono fun e w'' h=>⟨false,h.1,rfl,h.2⟩)) ?_;rintro _ w2 ⟨q,rfl,-,hq,hb⟩;replace E:=E.up hb;clear hb;refine G0 [26] ?_;obtain rfl:q=false:=by cases q;rfl;obtain⟨x,-,h⟩:=hq rfl;cases h
 refine G0 [0,0,4,22] ?_;exact ak ⟨rfl,E.aD⟩
theorem YP (s:Sl (Sl Int))(g:Nat)(C:Array Value)(eg:∀args w,(callFunc g args).run prog w=.ok (.enter g args) w)(w:World)(N:Nat)(hl:s.aA w w.heap.size N)(hN:N≤1000000)(hf:∀x∈s.l,∀w',Below w.heap.size w w'→Calls prog g (#[.slice x.A x.l.length x.c]++C) w' fun e w''=>e=.returned (.bool false)∧Below w'.heap.size w' w'') :
  Calls prog 340 #[s,.func (.func g) #[] C] w fun e w'=>e=.returned (.int .i64 (-1))∧Below w w w':=by
 have HL:=L_ hl;have HF:=L_ hf;have hsn:=hl.2.2.2.1;clear hl hf;have E:=Env.start w
 go_enter func340,ntmps340
 refine G0 [5,0,4,6,5,84,4,19] ?_
 go_loopw [8] (fun u wr=>∃k:Nat,u=(k:Int)∧k≤s.l.length∧Env w w [] [] wr) (fun u _=>s.l.length - (intOf u).toNat)
 case atStart=>exact⟨0,rfl,Zq _,E⟩
 case round=>
  clear E;obtain⟨k,rfl,hk,E⟩:=hrel
  by_cases hlt:k<s.l.length
  case pos=>
   have hw:IntKind.i64.wrap ((k:Int)+1)=((k+1:Nat):Int):=by rw[aaP _ (by omega)];rfl
   obtain⟨bb,off,x,hA,-,hx,hcc,-⟩:=(E.l HL).get (k:=k) hlt;have d1:wr.cell? ⟨bb,off+k,none⟩=some (.slice x.A x.l.length x.c):=by simpa[aj.sz,Sl.val] using hcc 0 _ rfl
   replace hx:=L_ hx;clear hcc;refine G0 [5,0,4,16,15,18,5,0,0,4,5,84,0] ?_;refine bQ d1 ?_;clear d1 hA;refine ah (HF.out x (Zk hx.out) _ E.aD) ?_;rintro _ w2 ⟨rfl,hb⟩;replace E:=E.up hb;clear hb;refine G0 [26,4,8,21,23,0,0,25] ?_
   go_roundw
   case rel=>exact⟨k+1,rfl,hlt,E⟩
   case measure=>simp[intOf];omega
  case neg=>
   refine G0 [5,0,4,17,27,28,5,0,4,22] ?_;exact ak ⟨rfl,E.aD⟩
theorem WC (s:Sl (Sl Int))(g:Nat)(C:Array Value)(eg:∀args w,(callFunc g args).run prog w=.ok (.enter g args) w)(w:World)(N:Nat)(hl:s.aA w w N)(hN:N≤1000000)(hf:∀x∈s.l,∀w',Below w w w'→Calls prog g (#[.slice x.A x.l.length x.c]++C) w' fun e w''=>e=.returned false∧Below w' w' w'') :
  Calls prog 327 #[s,.func (.func g) #[] C] w fun e w'=>e=.returned false∧Below w w w':=by
 have HL:=L_ hl;have HF:=L_ hf;clear hl hf;have E:=Env.start w
 go_enter func327,ntmps327
 refine G0 [5,0,4,5,0,0] ?_;refine ah (YP s g C eg _ N (E.l HL) hN (fun x hx w' hb=>HF x hx w' (E.aD.trans (hb.mono E.sz)))) ?_;rintro _ w2 ⟨rfl,hb⟩;replace E:=E.up hb;clear hb;refine G0 [26,0,0,4,22] ?_;exact ak ⟨rfl,E.aD⟩
theorem OJ (s:Sl (Sl Int))(w:World)(hl:s.aA w w 1000)(h4:s.l.length=4)(hs:∀x∈s.l,x.l=List.replicate 8 0):Calls prog 303 #[s] w fun e w'=>e=.returned (.int .i64 0)∧Below w w w':=by
 have HL:=L_ hl;have HS:=L_ hs;have e1:((s.l.length:Int) !=4)=false:=by rw[h4];rfl
 clear hl hs h4;have E:=Env.start w
 go_enter func303,ntmps303
 refine G E [5,0,4,5,70,3,60,4,6,5,83,0,9] ?_;clear E;intro g3 w3 E;refine ah (WC s 328 #[g3] Cq _ 1000 (E.l HL) (by decide) (fun x hx w' hb=>X8 g3 x w' ((E.blk 0 rfl).below hb (E.blk 0 rfl).lt) (((E.l HL).up hb).2.2.2.2 x hx) (HS x hx))) ?_;rintro _ w4 ⟨rfl,hb⟩;replace E:=E.up hb;clear hb;refine G0 [26,0,4,8,15,5,0,4,22] ?_;exact ak ⟨rfl,E.aD⟩
theorem YJ (s:Sl Int)(w:World)(hl:s.aA w w 1000)(hs:s.l=List.replicate 8 0):Calls prog 304 #[s] w fun e w'=>e=.returned (.int .i64 0)∧Below w w w':=by
 obtain⟨A,c,l⟩:=s;obtain rfl:l=List.replicate 8 0:=hs;have HL:=L_ hl;clear hl;have E:=Env.start w
 go_enter func304,ntmps304
 refine G0 [5,0,4,6,5,84,4,8,15,5] ?_;obtain⟨bb,off,x,hA,-,hx,hcc,-⟩:=(E.l HL).get (k:=0) (show 0<8 from by decide);obtain rfl:x=0:=(List.mem_replicate.1 (Zk hx)).2;have hA0:A=some ⟨bb,off,none⟩:=hA;subst hA0;have d1:=hcc 0 _ rfl;clear hcc hx hA;refine G0 [0,0] ?_;refine bQ d1 ?_;clear d1;refine G0 [0,4,6,5,0,4,19] ?_
 go_loopw [3,4] (fun z u wr=>∃k:Nat,z=.int .i64 0∧u=(k:Int)∧k≤8∧Env w w [] [] wr) (fun _ u _=>8 - (intOf u).toNat)
 case atStart=>exact⟨1,rfl,rfl,by decide,E⟩
 case round=>
  clear E;obtain⟨k,rfl,rfl,hk,E⟩:=hrel
  by_cases hlt:k<8
  case pos=>
   have hw:IntKind.i64.wrap ((k:Int)+1)=((k+1:Nat):Int):=by rw[aaP _ (by omega)];rfl
   have hlt0:(k:Int)<8:=by omega
   obtain⟨bb',off',x,hA,-,hx,hcc,-⟩:=(E.l HL).get (k:=k) (by simpa using hlt);obtain rfl:x=0:=(List.mem_replicate.1 (Zk hx)).2;injection hA with hA
   injection hA with hA1 hA2
   subst hA1 hA2;have d1:wr.cell? ⟨bb,off+k,none⟩=some (.int .i64 0):=by simpa[aj.sz] using hcc 0 _ rfl
   clear hcc hx;refine G0 [6,5,84,0,4,7,15,18,23,84,0] ?_;refine bQ d1 ?_;clear d1;refine G0 [0,0,20,23,84,25] ?_
   go_roundw
   case rel=>exact⟨k+1,rfl,rfl,hlt,E⟩
   case measure=>simp[intOf];omega
  case neg=>
   have hlt0:¬(k:Int)<8:=by omega
   refine G0 [6,5,84,0,4,8,27,28,5,0,0,4,22] ?_;exact ak ⟨rfl,E.aD⟩
theorem QB (s:Sl (Sl Int))(w:World)(hl:s.aA w w 1000)(hs:∀x∈s.l,x.l=List.replicate 8 0):Calls prog 149 #[s] w fun e w'=>∃o:Sl (Sl Int),e=.returned o∧Hid (∀x∈o.l,x.l=List.replicate 8 0)∧Env w w [] [own o 1000] w':=by
 have HL:=L_ hl;have HS:=L_ hs;have hsn:=hl.2.2.2.1;clear hl hs;have E:=Env.start w
 go_enter func149,ntmps149
 refine G0 [5,0,4,5,0,4,6,5,84,4,19] ?_;replace E:=E.aO (α:=Sl Int) (N:=1000)
 go_loopw [3,9] (fun z u wr=>∃(k:Nat) (o:Sl (Sl Int)),z=o∧u=(k:Int)∧k≤s.l.length∧o.l.length=k∧Hid (∀x∈o.l,x.l=List.replicate 8 0)∧Env w w [] [own o 1000] wr) (fun _ u _=>s.l.length - (intOf u).toNat)
 case atStart=>exact⟨0,⟨none,0,[]⟩,rfl,rfl,Zq _,rfl,L_ (fun x hx=>by cases hx),E⟩
 case round=>
  clear E;obtain⟨k,o,rfl,rfl,hk,hok,HO,E⟩:=hrel;replace hok:=L_ hok
  by_cases hlt:k<s.l.length
  case pos=>
   have hw:IntKind.i64.wrap ((k:Int)+1)=((k+1:Nat):Int):=by rw[aaP _ (by omega)];rfl
   obtain⟨bb,off,x,hA,-,hx,hcc,-⟩:=(E.l HL).get (k:=k) hlt;obtain⟨xA,xc,xl⟩:=x;obtain rfl:xl=List.replicate 8 0:=HS _ (Zk hx);have HX:Hid (Sl.aA w w 1000 (⟨xA,xc,List.replicate 8 0⟩:Sl Int)):=L_ (HL.2.2.2.2 _ (Zk hx));have d1:wr.cell? ⟨bb,off+k,none⟩=some (.slice xA 8 xc):=by simpa[aj.sz,Sl.val] using hcc 0 _ rfl
   obtain⟨ad,hxA,-,-⟩:=HX.1.2 (show 0<8 from by decide);have hxA0:xA=some ad:=hxA;subst hxA0;clear hcc hx hxA;refine G0 [5,0,4,16,15,18,5,0] ?_;refine bQ d1 ?_;clear d1 hA;refine G0 [0,4,5,0,0] ?_;refine Ti 8 E (by decide) ?_;clear E;intro gy w2 E;refine G0 [3,0,4,5,0,0] ?_;refine VY (d:=⟨some ⟨gy,0,none⟩,8,List.replicate 8 0⟩) (s:=⟨some ad,xc,List.replicate 8 0⟩) E (E.l HX).1 rfl rfl (show 0<8 from by decide) ?_;clear E;intro w3 E;refine zO ?_;replace E:=Env.join (E.perm (ZW ..));refine G E [4,23,0,0,72,3,9] ?_;clear E;intro g21 w4 E;refine uR 0 (s:=o) (N:=1000) 1000 (⟨some ⟨gy,0,none⟩,8,List.replicate 8 0⟩:Sl Int) g21 E (E.reads 0 1 1) (by rw[hok.out];omega) (by omega) (by omega) ?_;clear E;intro s2 w5 h2 E;refine G0 [3,0,20,23,0,0,25] ?_
   go_roundw
   case rel=>exact⟨k+1,s2,rfl,rfl,hlt,by rw[h2.out,Zn,hok.out];rfl,L_ (fun x hx=>by rw[h2.out] at hx;rcases Zm.1 hx with h|h;exact HO x h;rw[Zp.1 h]),E.drop 1⟩
   case measure=>simp[intOf];omega
  case neg=>
   refine G0 [5,0,4,17,27,28,5,0,0,4,22] ?_;exact ak ⟨o,rfl,HO,E⟩
structure zV (s:oN):Prop where
 ts:s.ts.l=List.replicate 4 dN
 n:s.co.l.length=4
 co:∀x∈s.co.l,x.l=List.replicate 8 0
theorem Env.YF {is:List It}(E:Env b w0 bx is w):Env b w0 bx (own dN N::is) w:=E.sH (aaO _ _) (x:=dN) Sl.eY
theorem G5 (w:World):Calls prog 72 #[] w fun e w'=>∃s:oN,e=.returned (s)∧Hid (zV s)∧Env w w [] [own s.ts 1000,own s.co 1000] w':=by
 have E:=Env.start w
 go_enter func72,ntmps72
 refine GD E [5,70,3,4,5,9] ?_;clear E;intro g0 w2 E;refine ah (U2 _) ?_;rintro _ w3 ⟨co,rfl,hc4,hco,F⟩;replace E:=E.call F;clear F;replace hc4:=L_ hc4;refine GD E [26,0,70,3,60,4,6,5,0,4,19,9] ?_;clear E;intro g1 w5 E;replace E:=E.aO (α:=Top) (N:=1000)
 go_loopw [4] (fun u wr=>∃(k:Nat) (s:Sl Top),u=(k:Int)∧k≤4∧Hid (s.l=List.replicate k dN)∧Env w w ((g1,73,(⟨s,co⟩:oN))::(g0,73,[(),()])::[]) [own s 1000,own co 1000] wr) (fun u _=>4 - (intOf u).toNat)
 case atStart=>exact⟨0,⟨none,0,[]⟩,rfl,Zq _,L_ rfl,E⟩
 case round=>
  clear E;obtain⟨k,s,rfl,hk,HS,E⟩:=hrel
  by_cases hlt:k<4
  case pos=>
   have hw:IntKind.i64.wrap ((k:Int)+1)=((k+1:Nat):Int):=by rw[aaP _ (by omega)];rfl
   have hlt0:(k:Int)<4:=by omega
   refine G0 [5,0,4,16,15,18] ?_;replace E:=Env.join ((E.YF (N:=1000)).perm (ZW ..));refine ng 0 4 [] (aaL [0,1]++aaN [2,3]) E ?_;clear E;intro w6 E;refine GD E [32,50] ?_;refine bT (WE _) ?_;rintro _ w7 ⟨rfl,hb⟩;replace E:=E.up hb;clear hb;refine⟨_,rfl,E.weak,D_n ?_⟩;refine xL E ?_;clear E;intro g9 w8 E;refine D_n ?_;refine ow ?_;refine uR 0 (s:=s) (N:=1000) 1000 dN g9 E (E.reads 0 1 4) (by rw[HS.out,List.length_replicate];omega) (by omega) (by omega) ?_;clear E;intro s2 w9 h2 E;refine GD E [3,0,61,20,23,0,0,9] ?_;clear E;intro w10 E;refine jI ?_
   go_roundw
   case rel=>exact⟨k+1,s2,rfl,hlt,L_ (by rw[h2.out,HS.out,List.replicate_succ']),E.drop 1⟩
   case measure=>simp[intOf];omega
  case neg=>
   have hlt0:¬(k:Int)<4:=by omega
   refine G0 [5,0,4,17,27,28,5] ?_;refine aB 0 2 E ?_;refine GD E [61,4,22,9] ?_;clear E;intro w11 E;exact nI 1 E ⟨⟨s,co⟩,rfl,L_ ⟨by have h:k=4:=(by omega);rw[←h];exact HS,hc4,hco⟩,E.drop 2⟩
theorem BL:∀args w,(callFunc 301 args).run prog w=.ok (.enter 301 args) w:=enters_of func301 (by kernel_rfl) rfl
theorem WH (w:World):Calls prog 301 #[dN] w fun e w'=>e=.returned false∧Below w w w':=by
 have E:=Env.start w
 go_enter func301,ntmps301
 refine GD E [5,71,3,0,4,5,9] ?_;clear E;intro g1 w2 E;refine aB 0 4 E ?_;refine ah (JG _) ?_;rintro _ w3 ⟨rfl,hb⟩;replace E:=E.up hb;clear hb;refine G0 [26,0,0,4,22] ?_;exact ak ⟨rfl,E.aD⟩
theorem YM (s:Sl Top)(g:Nat)(C:Array Value)(eg:∀args w,(callFunc g args).run prog w=.ok (.enter g args) w)(w:World)(N:Nat)(hl:s.aA w w.heap.size N)(hN:N≤1000000)(hf:∀x∈s.l,∀w',Below w.heap.size w w'→Calls prog g (#[.agg #[.int .i64 x.base,.int .i64 x.next,.int .i64 x.mark,.slice x.es.A x.es.l.length x.es.c]]++C) w' fun e w''=>e=.returned (.bool false)∧Below w'.heap.size w' w'') :
  Calls prog 325 #[s,.func (.func g) #[] C] w fun e w'=>e=.returned (.int .i64 (-1))∧Below w w w':=by
 have HL:=L_ hl;have HF:=L_ hf;have hsn:=hl.2.2.2.1;clear hl hf;have E:=Env.start w
 go_enter func325,ntmps325
 refine G0 [5,0,4,6,5,84,4,19] ?_
 go_loopw [8] (fun u wr=>∃k:Nat,u=(k:Int)∧k≤s.l.length∧Env w w [] [] wr) (fun u _=>s.l.length - (intOf u).toNat)
 case atStart=>exact⟨0,rfl,Zq _,E⟩
 case round=>
  clear E;obtain⟨k,rfl,hk,E⟩:=hrel
  by_cases hlt:k<s.l.length
  case pos=>
   have hw:IntKind.i64.wrap ((k:Int)+1)=((k+1:Nat):Int):=by rw[aaP _ (by omega)];rfl
   obtain⟨bb,off,x,hA,-,hx,hcc,-⟩:=(E.l HL).get (k:=k) hlt;replace hcc:=L_ hcc;replace hx:=L_ hx;refine G0 [5,0,4,16,15,18,5,0,0,4,5,84,0] ?_;refine fA x hcc ?_;clear hcc hA;refine ah (HF.out x (Zk hx.out) _ E.aD) ?_;rintro _ w2 ⟨rfl,hb⟩;replace E:=E.up hb;clear hb;refine G0 [26,4,8,21,23,0,0,25] ?_
   go_roundw
   case rel=>exact⟨k+1,rfl,hlt,E⟩
   case measure=>simp[intOf];omega
  case neg=>
   refine G0 [5,0,4,17,27,28,5,0,4,22] ?_;exact ak ⟨rfl,E.aD⟩
theorem XE (s:Sl Top)(g:Nat)(C:Array Value)(eg:∀args w,(callFunc g args).run prog w=.ok (.enter g args) w)(w:World)(N:Nat)(hl:s.aA w w.heap.size N)(hN:N≤1000000)(hf:∀x∈s.l,∀w',Below w.heap.size w w'→Calls prog g (#[.agg #[.int .i64 x.base,.int .i64 x.next,.int .i64 x.mark,.slice x.es.A x.es.l.length x.es.c]]++C) w' fun e w''=>e=.returned (.bool false)∧Below w'.heap.size w' w'') :
  Calls prog 302 #[s,.func (.func g) #[] C] w fun e w'=>e=.returned false∧Below w w w':=by
 have HL:=L_ hl;have HF:=L_ hf;clear hl hf;have E:=Env.start w
 go_enter func302,ntmps302
 refine G0 [5,0,4,5,0,0] ?_;refine ah (YM s g C eg _ N (E.l HL) hN (fun x hx w' hb=>HF x hx w' (E.aD.trans (hb.mono E.sz)))) ?_;rintro _ w2 ⟨rfl,hb⟩;replace E:=E.up hb;clear hb;refine G0 [26,0,0,4,22] ?_;exact ak ⟨rfl,E.aD⟩
theorem MS (s:oN)(w:World)(hl:au.aA w w 1000 s)(hz:zV s):Calls prog 266 #[s] w fun e w'=>e=.returned (.int .i64 0)∧Below w w w':=by
 obtain⟨⟨tA,tc,tl⟩,⟨cA,cc,cl⟩⟩:=s;obtain rfl:tl=List.replicate 4 dN:=hz.ts;have HL:=L_ hl;have HZ:=L_ hz;have hn4:cl.length=4:=hz.n;have e4:((cl.length:Int) !=4)=false:=by rw[hn4];rfl
 clear hl hz;replace hn4:=L_ hn4;have E:=Env.start w
 go_enter func266,ntmps266
 refine GD E [5,71,3,0,4,5,0,4,6,5,0,40,84,0,40,0,9] ?_;clear E;intro g1 w2 E;refine ah (XE (⟨tA,tc,List.replicate 4 dN⟩:Sl Top) 301 #[] BL _ 1000 (E.h HL).1 (by decide) (fun x hx w' _=>by rw[(List.mem_replicate.1 hx).2];exact WH w')) ?_;rintro _ w3 ⟨rfl,hb⟩;replace E:=E.up hb;clear hb;refine GD E [26,84,40] ?_;refine ah (OJ (⟨cA,cc,cl⟩:Sl (Sl Int)) _ (E.h HL).2 hn4 HZ.co) ?_;rintro _ w4 ⟨rfl,hb⟩;replace E:=E.up hb;clear hb;refine GD E [26,0,0,4,8,15,6,5,0,40,0,0,4,19] ?_
 go_loopw [25] (fun u wr=>∃k:Nat,u=(k:Int)∧k≤cl.length∧Env w w ((g1,73,(⟨⟨tA,tc,List.replicate 4 dN⟩,⟨cA,cc,cl⟩⟩:oN))::[]) [] wr) (fun u _=>cl.length - (intOf u).toNat)
 case atStart=>exact⟨0,rfl,Zq _,E⟩
 case round=>
  clear E;obtain⟨k,rfl,hk,E⟩:=hrel
  by_cases hlt:k<cl.length
  case pos=>
   have hk4:k<4:=by have:=hn4.out;omega
   have hw:IntKind.i64.wrap ((k:Int)+1)=((k+1:Nat):Int):=by rw[aaP _ (by omega)];rfl
   obtain⟨bb,off,x,hA,-,hx,hcc,-⟩:=(E.h HL).2.get (k:=k) hlt;have d1:wr.cell? ⟨bb,off+k,none⟩=some (.slice x.A x.l.length x.c):=by simpa[aj.sz,Sl.val] using hcc 0 _ rfl
   have hA0:cA=some ⟨bb,off,none⟩:=hA;subst hA0;have HX:Hid (Sl.aA w w 1000 x):=L_ (HL.2.2.2.2.2 x (Zk hx));have HX8:=L_ (HZ.co x (Zk hx));clear hcc hx;refine G0 [5,0,4,16,15,18,5,0,0] ?_;refine bQ d1 ?_;clear d1;refine G0 [0,0,4] ?_;obtain⟨b2,o2,y,hA2,-,hy,-,-⟩:=(E.h HL).1.get (k:=k) (show k<(List.replicate 4 dN).length by simpa using hk4);obtain rfl:y=dN:=(List.mem_replicate.1 (Zk hy)).2;have hA20:tA=some ⟨b2,o2,none⟩:=hA2;subst hA20;replace hy:=L_ hy;have hk40:(k:Int)<4:=by omega
   refine bP 0 8 [] (aaL [0,2,3,4,5,6,7]++aaN [1]) E ?_;clear E;intro w5 E;refine GD E [32,32,50,32,32,32] ?_;refine ug E (v:=.int .i64 0) (fun w' E'=>(E'.h HL).1.gI (i:=1) hA2 hy rfl) ?_;refine bT (YJ x _ (E.l HX) HX8) ?_;rintro _ w6 ⟨rfl,hb⟩;replace E:=E.up hb;clear hb;refine⟨_,rfl,E.weak,D_n ?_⟩;refine GD E [29,0,4,8,21,23,0,0,25] ?_
   go_roundw
   case rel=>exact⟨k+1,rfl,hlt,E⟩
   case measure=>simp[intOf];omega
  case neg=>
   refine G0 [5,0,4,17,27,28,5,0,4,22] ?_;exact ak ⟨rfl,E.aD⟩
theorem NT (s:oN)(k:Nat)(w:World)(hl:au.aA w w 1000 s)(hz:zV s)(hk:k<4):Calls prog 205 #[s,(k:Int)] w fun e w'=>e=.returned (.int .i64 0)∧Below w w w':=by
 have HL:=L_ hl;have HZ:=L_ hz;have c1:¬(k:Int)<0:=by omega
 have c2:¬(4:Int)≤(k:Int):=by omega
 clear hl hz;have E:=Env.start w
 go_enter func205,ntmps205
 refine GD E [5,71,3,0,4,6,5,9] ?_;clear E;intro g2 w2 E;refine aB 0 2 E ?_;refine ah (MS s _ (E.h HL) HZ) ?_;rintro _ w3 ⟨rfl,hb⟩;replace E:=E.up hb;clear hb;refine G0 [26,0,4,5,0,0,4,8,15,6,5,83,0,4,8,15,5,0,4,22] ?_;exact ak ⟨rfl,E.aD⟩
theorem TV (id:Int)(key body:ByteArray)(w:World)(h1:0≤id)(h2:id<6291456)(h3:key.size≤16)(h4:body.size≤64):Calls prog 219 #[dN,id,key,body] w fun e w'=>∃es:Sl I9,e=.returned (.tuple #[(⟨0,1,0,es⟩:Top),.int .i64 0,.int .i64 0])∧Env w w [] [own es 1000] w':=by
 have c1:¬id<0:=by omega
 have c2:¬6291456≤id:=by omega
 have E:=Env.start w
 go_enter func219,ntmps219
 refine GD E [5,71,3,70,3,0,0,4,5,0,41,84,0,70,3,60,4,18,5,9] ?_;clear E;intro g4 g8 g11 w5 E;refine aB 2 4 E ?_;refine ah (JG _) ?_;rintro _ w6 ⟨rfl,hb⟩;replace E:=E.up hb;clear hb;refine G0 [26,0,0,4,8,6,5,84,4,8,23,84,4,8,5] ?_;refine aB 0 4 E ?_;refine ah (RX ⟨dN.next,id,key,body⟩ _ h1 h2 h3 h4) ?_;rintro _ w7 ⟨rfl,hb⟩;replace E:=E.up hb;clear hb;refine GD E [26,0,0,4,8,6,5,0,42,0,0,4,8,23,0,42,84,4,8,21,5] ?_;refine aB 2 4 E ?_;refine ah (OL dN _ 1000 Sl.dh (by decide)) ?_;rintro _ w8 ⟨s,rfl,hs,F⟩;replace E:=E.call F;clear F;refine GD E [26,62,4,5,0,42,9] ?_;clear E;intro w9 E;refine aB 0 4 E ?_;refine GD E [72,3,9] ?_;clear E;intro g48 w10 E;have hs0:s.l.length=0:=by rw[hs.out];rfl
 replace hs0:=L_ hs0;refine pV 0 (s:=s) (N:=1000) 1000 (⟨some ⟨g48,0,none⟩,1,[⟨dN.next,id,key,body⟩]⟩:Sl I9) E (E.reads 0 1 4) (by rw[hs0.out];simp) (by omega) ?_;clear E;intro s2 w11 h2 E;refine GD E [3,0,63,4,5,0,43,0,0,63,4,9] ?_;clear E;intro w13 E;replace E:=E.bD 2;refine bP 1 4 [] (aaL [0,1,2]++aaN [3]) E ?_;clear E;intro w14 E;refine gZ 2 4 E ?_;refine GD E [32,51] ?_;refine lN 0 E ?_;clear E;intro w15 E;refine GD E [29,0,0,4,22] ?_;exact mQ 0 E ⟨s2,rfl,E.drop 4⟩
theorem FL (s:oN)(w:World)(hl:au.aA w w 1000 s)(hz:∀x∈s.co.l,x.l=List.replicate 8 0):Calls prog 79 #[s] w fun e w'=>∃Y:oN,e=.returned (Y)∧Hid (Y.ts.l.length=s.ts.l.length)∧Hid (∀x∈Y.co.l,x.l=List.replicate 8 0)∧Env w w [] [own Y.ts 1000,own Y.co 1000] w':=by
 have HL:=L_ hl;have HZ:=L_ hz;have hsn:=hl.1.2.2.2.1;clear hl hz;have E:=Env.start w
 go_enter func79,ntmps79
 refine GD E [5,71,3,70,3,4,5,0,41,9] ?_;clear E;intro g1 g2 w3 E;refine ah (QB s.co _ (E.h HL).2 HZ) ?_;rintro _ w4 ⟨co,rfl,hco,F⟩;replace E:=E.call F;clear F;refine GD E [26,0,70,3,60,4,6,5,0,42,0,0,4,19,9] ?_;clear E;intro g3 w6 E;replace E:=E.aO (α:=Top) (N:=1000)
 go_loopw [13] (fun u wr=>∃(k:Nat) (o:Sl Top),u=(k:Int)∧k≤s.ts.l.length∧o.l.length=k∧Env w w ((g3,73,(⟨o,co⟩:oN))::(g2,73,[(),()])::(g1,73,s)::[]) [own o 1000,own co 1000] wr) (fun u _=>s.ts.l.length - (intOf u).toNat)
 case atStart=>exact⟨0,⟨none,0,[]⟩,rfl,Zq _,rfl,E⟩
 case round=>
  clear E;obtain⟨k,o,rfl,hk,hok,E⟩:=hrel;replace hok:=L_ hok
  by_cases hlt:k<s.ts.l.length
  case pos=>
   have hw:IntKind.i64.wrap ((k:Int)+1)=((k+1:Nat):Int):=by rw[aaP _ (by omega)];rfl
   obtain⟨bb,off,x,hA,-,hx,hcc,-⟩:=(E.h HL).1.get (k:=k) hlt;replace hcc:=L_ hcc;have HX:Hid (au.aA w w 1000 x):=L_ (HL.1.2.2.2.2 x (Zk hx));clear hx;refine G0 [5,0,4,16,15,18,5,0] ?_;refine fA x hcc ?_;clear hcc hA;refine GD E [70,3,60,9] ?_;clear E;intro g5 w8 E;refine aC (ng 0 5 [] (aaL [0,1,2]++aaN [3,4]) E ?_);clear E;intro w9 E;refine GD E [32,51] ?_;refine gZ 0 4 E ?_;refine bT (OL x _ 1000 (E.h HX) (by decide)) ?_;rintro _ w10 ⟨es,rfl,-,F⟩;replace E:=E.call F;clear F;replace E:=Env.join (Env.perm (is':=own o 1000::own (⟨x.base,x.next,x.mark,es⟩:Top) 1000::own co 1000::[]) E (ZW ..));refine⟨_,rfl,E.weak,D_n ?_⟩;refine xL E ?_;clear E;intro g21 w11 E;refine D_n ?_;refine ow ?_;refine uR 0 (s:=o) (N:=1000) 1000 (⟨x.base,x.next,x.mark,es⟩:Top) g21 E (E.reads 0 1 4) (by rw[hok.out];omega) (by omega) (by omega) ?_;clear E;intro s2 w12 h2 E;refine GD E [3,0,62,20,23,0,0,9] ?_;clear E;intro w13 E;refine jI ?_
   go_roundw
   case rel=>exact⟨k+1,s2,rfl,hlt,by rw[h2.out,Zn,hok.out];rfl,E.drop 2⟩
   case measure=>simp[intOf];omega
  case neg=>
   refine G0 [5,0,4,17,27,28,5] ?_;refine aB 0 2 E ?_;refine GD E [61,4,22,9] ?_;clear E;intro w14 E;exact nI 1 E ⟨⟨o,co⟩,rfl,L_ (by show o.l.length=_;rw[hok.out];omega),hco,E.drop 3⟩
theorem Sz {is:List It}(s:oN)(k:Nat)(t:Top)(w:World)(E:Env b w0 bx (own t 1000::is) w)(hl:∀(bx:List Bx) (is:List It) (w':World),Env b w0 bx is w'→au.aA w' w' 1000 s)(hz:∀x∈s.co.l,x.l=List.replicate 8 0)(hk:k<s.ts.l.length):Calls prog 209 #[s,(k:Int),t] w fun e w'=>∃Y:oN,e=.returned (Y)∧Hid (∀x∈Y.co.l,x.l=List.replicate 8 0)∧Env b w0 bx (own Y.ts 1000::own Y.co 1000::is) w':=by
 have HL:=L_ hl;have HZ:=L_ hz;clear hl hz
 go_enter func209,ntmps209
 refine GD E [5,71,3,71,3,70,3,4,5,9] ?_;clear E;intro g3 g5 g6 w4 E;refine aB 2 2 E ?_;refine ah (FL s _ (HL _ _ _ E) HZ) ?_;rintro _ w5 ⟨Y,rfl,hY,hYc,F⟩;replace E:=E.call F;clear F;refine GD E [26,62,4,9] ?_;clear E;intro w6 E;obtain⟨z,hz⟩:∃z,Y.ts.l[k]?=some z:=⟨_,Zl (by rw[hY.out];exact hk)⟩;have hkY:k<Y.ts.l.length:=(Zo.1 hz).1;replace hz:=L_ hz;obtain⟨gl,cur,hA2,-,-,-⟩:=(show Sl.Own _ b 1000 Y.ts from E.get 0).1.at_ hz;replace E:=Env.join (E.dQ (is':=own Y.ts 1000::own t 1000::own Y.co 1000::is) 3 [0,2,1]);refine GD E [5,0,42,0] ?_;refine aB 1 4 E ?_;refine fV ?_;refine Oj (N:=1000) 0 E hA2 hz t ?_;clear E;intro w7 E;clear hA2;refine G0 [4,5] ?_;refine aB 2 2 E ?_;refine GD E [60,4,22,9] ?_;clear E;intro w8 E;exact nI 0 E ⟨⟨⟨Y.ts.A,Y.ts.c,Y.ts.l.set k t⟩,Y.co⟩,congrArg (fun n=>Ending.returned (.agg #[.slice Y.ts.A n Y.ts.c,Y.co])) (by simp:(Y.ts.l.set k t).length=Y.ts.l.length).symm,hYc,E.drop 3⟩
theorem Qe (s:oN)(mi:Int)(gv:Value)(k:Nat)(mkey mbody:ByteArray)(w:World)(hl:au.aA w w 1000 s)(hz:zV s)(hk:k<4)(h1:0≤mi)(h2:mi<6291456)(h3:mkey.size≤16)(h4:mbody.size≤64):Calls prog 146 #[s,.agg #[mi,gv,(k:Int),mkey,mbody]] w fun e w'=>∃(Y:oN) (n:Int),e=.returned (.tuple #[Y,n,.int .i64 0])∧Hid (∀x∈Y.co.l,x.l=List.replicate 8 0)∧Env w w [] [own Y.ts 1000,own Y.co 1000] w':=by
 have HL:=L_ hl;have HZ:=L_ hz;have hkt:k<s.ts.l.length:=by rw[hz.ts,List.length_replicate];exact hk
 clear hl hz;have E:=Env.start w
 go_enter func146,ntmps146
 refine GD E [5,71,3,71,3,70,3,0,0,4,6,5,9] ?_;clear E;intro g2 g3 g4 w4 E;refine aB 2 2 E ?_;refine GD E [0,41] ?_;refine ah (NT s k _ (E.h HL) HZ hk) ?_;rintro _ w5 ⟨rfl,hb⟩;replace E:=E.up hb;clear hb;refine G0 [26,0,4,5,0,0,4,8,15] ?_;obtain⟨bb,off,x,hA,-,hx,hcc,-⟩:=(E.h HL).1.get (k:=k) hkt;obtain rfl:x=dN:=by have h:=Zk hx;rw[HZ.out.ts] at h;exact(List.mem_replicate.1 h).2
 replace hx:=L_ hx;clear hcc;refine dw 20 E ?_;clear E;intro w6 E;refine ay 0 E ?_;refine aX 1 2 E ?_;refine ay 2 E ?_;refine aX 3 1 E ?_;refine ay 4 E ?_;refine VZ 5 E dN (fun w' E' q u hu=>(E'.h HL).1.gI (i:=q) hA hx hu) ?_;refine ay 6 E ?_;refine aX 7 1 E ?_;refine ay 8 E ?_;refine aX 9 1 E ?_;refine ay 10 E ?_;refine aX 11 1 E ?_;refine IJ 12 17 (cK (TV mi mkey mbody _ h1 h2 h3 h4) ?_) (jm E ?_)
 case' refine_1=>
  rintro _ w7 ⟨es,rfl,F⟩;replace E:=E.call F;clear F;refine⟨_,rfl,E.weak,dL ?_⟩;refine ay 13 E ?_;refine ay 14 E ?_;refine ay 15 E ?_;refine ay 16 E ?_;refine T_1 17 (jm E ?_);clear E;intro g8 w8 E;refine⟨(E.drop 1).weak,dL ?_⟩
 case' refine_2=>
  clear E;intro g8 w7 E;refine⟨(E.drop 1).weak,dL ?_⟩;refine T_1 12 (cK (TV mi mkey mbody _ h1 h2 h3 h4) ?_);rintro _ w8 ⟨es,rfl,F⟩;replace E:=E.call F;clear F;refine⟨_,rfl,(E.drop 1).weak,dL ?_⟩;refine ay 13 E ?_;refine ay 14 E ?_;refine ay 15 E ?_;refine ay 16 E ?_
 all_goals
  refine uS 18 0 E ?_;clear E;intro w9 E;refine ay 19 E ?_;refine G0 [30,0,4,6,5,0,0,4,8,15,5] ?_;refine aB 3 2 E ?_;refine GD E [0,42] ?_;refine aB 0 4 E ?_;replace E:Env w w _ (own (⟨0,1,0,es⟩:Top) 1000::[]) _:=E;refine ah (Sz s k ⟨0,1,0,es⟩ _ E (fun bx is w' E'=>E'.h HL) HZ.co hkt) ?_;clear E;rintro _ w10 ⟨Y,rfl,hYc,E⟩;refine GD E [26,0,61,0,0,4,22,9] ?_;clear E;intro w11 E;exact mQ 1 E ⟨Y,0,rfl,hYc,E.drop 4⟩
end
variable{K:Act→World→Prop}{i:Nat}{oi:Oper}
section
attribute [local irreducible] wpList av
def BX (p:Nat)(X:FK):Bx:=(p,105,X)
def iV (X:FK):List It:=[own X.k.wa 1000,own X.k.dn 1000,own X.s.ts 1000,own X.s.co 1000,own X.la 1000]
theorem X5 (t:TypeId)(v:Value)(w:World):Calls prog 33 #[.nilIface,.iface t v] w fun e w'=>e=.returned false∧Below w w w':=by
 have E:=Env.start w;have q:∀w:World,(binOp .eql 96 .nilIface (.iface t v)).run prog w=.ok false w:=fun w=>by kernel_rfl
 go_enter func33,ntmps33
 refine G0 [5,0,4,6,5,84,1,1,0,4,7,5,84,0,4,22,24] ?_;exact ak ⟨rfl,E.aD⟩
theorem Po (n:Nat){rest:List Oper}{is:List It}(E:Env b w0 bx is w)(hn:n≤1000)(h:∀g w',Env b w0 bx (own (⟨some ⟨g,0,none⟩,n,List.replicate n 0⟩:Sl Int) 1000::is) w'→K (a.put oi.dst (.slice (some ⟨g,0,none⟩) n n)) w')
  (hi:ops.toList.drop i=oi::rest:=by rfl) (hg:oi.guard=none:=by rfl) (ho:oi.op=.makeSlice 33 x y:=by rfl) (hx:a.eval x=(n:Int):=by rfl) (hy:a.eval y=(n:Int):=by rfl):wpOp prog ops Q i K a w:=by
 obtain⟨w',hr,E'⟩:=Xm E n hn;unfold wpOp;simp only[aL hi,show Region.wanted oi (yielded ops a.tmps)=true by unfold Region.wanted;rw[hg],if_true];refine Or.inl ?_;unfold Oper.wp execOp;simp only[ho,hx,hy,aaV,hr,aaQ,aaW];exact h _ _ E'
theorem UC (X:FK)(w:World)(hl:au.aA w w 1000 X.k∧au.aA w w 1000 X.s∧X.la.aA w w 1000)(hz:∀x∈X.s.co.l,x.l=List.replicate 8 0):Calls prog 34 #[X] w fun e w'=>∃Y:FK,e=.returned (Y)∧Hid (Y.k.dn.l=X.k.dn.l)∧Env w w [] (iV Y) w':=by
 have HL:=L_ hl;have HZ:=L_ hz;clear hl hz;have E:=Env.start w
 go_enter func34,ntmps34
 refine G E [5,71,3,70,3,9] ?_;clear E;intro g1 g2 w3 E;refine aC (dw 8 E ?_);clear E;intro w4 E;refine ay 0 E ?_;refine oG 1 1 3 E ?_;refine ay 3 E ?_;refine oG 4 1 2 E ?_;refine ay 6 E ?_;refine aX 7 1 E ?_;refine cu 2 (DK X.k _ 1000 (E.h HL.1) (by decide)) ?_;rintro _ w5 ⟨K,rfl,hK,F⟩;replace E:=E.call F;clear F;refine⟨_,rfl,E.weak,dL ?_⟩;refine cu 5 (FL X.s _ (E.h HL.2.1) HZ) ?_;rintro _ w6 ⟨S,rfl,-,-,F⟩;replace E:=E.call F;clear F;refine⟨_,rfl,E.weak,dL ?_⟩;refine kg ?_;refine ah (qg bY E HL.2.2) ?_;clear E;rintro _ w7 ⟨la,rfl,-,E⟩;refine G E [26,0,60,4,22,9] ?_;clear E;intro w8 E;exact nI 0 E ⟨⟨K,S,la⟩,rfl,L_ hK.dn,(E.drop 2).dQ (is':=iV ⟨K,S,la⟩) 5 [3,4,1,2,0]⟩
theorem Lm {is:List It}(p c:Nat)(A:Option Addr)(w:World)(E:Env b w0 bx is w):Calls prog 75 #[p,.slice A 0 c] w fun e w'=>e=.returned (())∧Env b w0 bx is w':=by
 go_enter func75,ntmps75
 refine G0 [5,0,4,5,0,4,6,5,84,4,19] ?_
 go_loopw [5,13] (fun z u wr=>z=()∧u=.int .i64 0∧Env b w0 bx is wr) (fun _ u _=>0)
 case atStart=>exact⟨rfl,rfl,E⟩
 case round=>
  clear E;obtain⟨rfl,rfl,E⟩:=hrel;refine G0 [5,0,4,17,27,28,5,0,0,4,22] ?_;exact ak ⟨rfl,E⟩
theorem X9 (w:World):Calls prog 31 #[] w fun e w'=>∃X:FK,e=.returned (X)∧Hid (X.k=⟨0,⟨none,0,[]⟩,⟨none,0,[]⟩⟩∧zV X.s)∧Env w w [] (iV X) w':=by
 have E:=Env.start w
 go_enter func31,ntmps31
 refine G E [5,70,3,9] ?_;clear E;intro g0 w2 E;refine aC (dw 3 E ?_);clear E;intro w3 E;refine IJ 0 2 (cK (Ih _) ?way1a) (Po 6 E (by decide) ?way1b)
 case' way1a=>
  rintro _ w4 ⟨rfl,hb⟩;replace E:=E.up hb;clear hb;refine⟨_,rfl,E.weak,dL ?_⟩;refine IJ 1 2 (cK (G5 _) ?way2a) (Po 6 E (by decide) ?way2b)
  case' way2a=>
   rintro _ w5 ⟨S,rfl,hS,F⟩;replace E:=E.call F;clear F;refine⟨_,rfl,E.weak,dL ?_⟩;refine T_1 2 (Po 6 E (by decide) ?_);clear E;intro g3 w6 E;refine⟨E.weak,dL ?_⟩
  case' way2b=>
   clear E;intro g3 w5 E;refine⟨E.weak,dL ?_⟩;refine T_1 1 (cK (G5 _) ?_);rintro _ w6 ⟨S,rfl,hS,F⟩;replace E:=E.call F;clear F;refine⟨_,rfl,E.weak,dL ?_⟩
 case' way1b=>
  clear E;intro g3 w4 E;refine⟨E.weak,dL ?_⟩;refine T_1 0 (cK (Ih _) ?_);rintro _ w5 ⟨rfl,hb⟩;replace E:=E.up hb;clear hb;refine⟨_,rfl,E.weak,dL ?_⟩;refine T_1 1 (cK (G5 _) ?_);rintro _ w6 ⟨S,rfl,hS,F⟩;replace E:=E.call F;clear F;refine⟨_,rfl,E.weak,dL ?_⟩
 all_goals
  refine G E [30,0,60,4,22,9] ?_;clear E;intro w7 E;exact nI 0 E ⟨⟨⟨0,⟨none,0,[]⟩,⟨none,0,[]⟩⟩,S,⟨some ⟨g3,0,none⟩,6,List.replicate 6 0⟩⟩,rfl,L_ ⟨rfl,hS⟩,by first|exact((E.drop 1).aO (α:=zx) (N:=1000)).aO (α:=dI) (N:=1000)|exact(((E.drop 1).aO (α:=zx) (N:=1000)).aO (α:=dI) (N:=1000)).dQ 5 [0,1,3,4,2]⟩
theorem LY {is:List It}(p:Nat)(X:FK)(s:Sl zw)(m:zw)(k:Nat)(w:World)(E:Env b w0 (BX p X::bx) (iV X++is) w)(hs:∀(bx:List Bx) (w':World),Env b w0 bx (iV X++is) w'→s.aA w' w' 1000)(hm:s.l=[m])(hz:zV X.s)(ht:m.t=(k:Int))(hk:k<4)(h1:0≤m.i)(h2:m.i<6291456)(h3:m.key.size≤16)(h4:m.body.size≤64) :
  Calls prog 75 #[p,s] w fun e w'=>∃(Y:oN) (o:Sl Tok) (n:Int),e=.returned o∧Hid (o.l=[⟨m.i,(k:Int),n⟩]∧∀x∈Y.co.l,x.l=List.replicate 8 0)∧Env b w0 (BX p ⟨X.k,Y,X.la⟩::bx) (own o 1000::(iV ⟨X.k,Y,X.la⟩++is)) w':=by
 obtain⟨sA,sc,sl⟩:=s;obtain rfl:sl=[m]:=hm;obtain⟨mi,mA,mn,mc,mt,mkey,mbody⟩:=m;dsimp only at ht h1 h2 h3 h4;subst ht;have HS:=L_ hs;have HZ:=L_ hz;clear hs hz
 go_enter func75,ntmps75
 refine G0 [5,0,4,5,0,4,6,5,84,4,19] ?_
 go_loopw [5,13] (fun z u wr=>z=()∧u=.int .i64 0∧Env b w0 (BX p X::bx) (iV X++is) wr∨∃(Y:oN) (o:Sl Tok) (n:Int),z=o∧u=.int .i64 1∧Hid (o.l=[⟨mi,(k:Int),n⟩]∧∀x∈Y.co.l,x.l=List.replicate 8 0)∧Env b w0 (BX p ⟨X.k,Y,X.la⟩::bx) (own o 1000::(iV ⟨X.k,Y,X.la⟩++is)) wr) (fun _ u _=>1 - (intOf u).toNat)
 case atStart=>exact(Or.inl ⟨rfl,rfl,E⟩)
 case round=>
  clear E
  rcases hrel with ⟨rfl,rfl,E⟩|⟨Y,o,n,rfl,rfl,HY,E⟩
  case inl=>
   obtain⟨bb,off,x,hA,-,hx,hcc,-⟩:=(HS _ _ E).get (k:=0) (show 0<1 from by decide);obtain rfl:x=⟨mi,mA,mn,mc,(k:Int),mkey,mbody⟩:=Zp.1 (Zk hx);have hA0:sA=some ⟨bb,off,none⟩:=hA;subst hA0;replace hcc:=L_ hcc;clear hx;refine G0 [5,0,4,16,15,18,5,0] ?_;refine fA [mi,.slice mA mn mc,(k:Int),mkey,mbody] hcc ?_;clear hcc hA;have hw1:IntKind.i64.wrap 1=1:=by decide
   refine G E [70,3,60,9] ?_;clear E;intro g7 w3 E;refine aC (dw 14 E ?_);clear E;intro w4 E;refine ay 0 E ?_;refine ay 1 E ?_;refine ay 2 E ?_;refine ay 3 E ?_;refine oG 4 1 2 E ?_;refine oG 5 0 5 E ?_;refine IJ 6 11 (cK (Qe X.s mi (.slice mA mn mc) k mkey mbody _ ⟨E.ol (s:=X.s.ts) (N:=1000) 2,E.ol (s:=X.s.co) (N:=1000) 3⟩ HZ hk h1 h2 h3 h4) ?_) (jm E ?_)
   case' refine_1=>
    rintro _ w5 ⟨Y,n,rfl,hYc,F⟩;replace E:=E.call F;clear F;refine⟨_,rfl,E.weak,dL ?_⟩;refine ay 7 E ?_;refine ay 8 E ?_;refine ay 9 E ?_;refine ay 10 E ?_;refine T_1 11 (jm E ?_);clear E;intro g8 w6 E;refine⟨(E.drop 1).weak,dL ?_⟩
   case' refine_2=>
    clear E;intro g8 w5 E;refine⟨(E.drop 1).weak,dL ?_⟩;refine T_1 6 (cK (Qe X.s mi (.slice mA mn mc) k mkey mbody _ ⟨E.ol (s:=X.s.ts) (N:=1000) 2,E.ol (s:=X.s.co) (N:=1000) 3⟩ HZ hk h1 h2 h3 h4) ?_);rintro _ w6 ⟨Y,n,rfl,hYc,F⟩;replace E:=E.call F;clear F;refine⟨_,rfl,(E.drop 1).weak,dL ?_⟩;refine ay 7 E ?_;refine ay 8 E ?_;refine ay 9 E ?_;refine ay 10 E ?_
   all_goals
    refine uS 12 0 E ?_;clear E;intro w7 E;refine ay 13 E ?_;refine G0 [30,0,4,6,5,0,0,4,8,15,5,0] ?_;refine aB 0 2 E ?_;refine G E [84,62,4,23,0,0,41,0,41,0,0,72,3,9] ?_;clear E;intro g42 w9 E;replace E:=E.aO (α:=Tok) (N:=1000);refine pV 0 (s:=(⟨none,0,[]⟩:Sl Tok)) (N:=1000) 1000 (⟨some ⟨g42,0,none⟩,1,[⟨mi,(k:Int),n⟩]⟩:Sl Tok) E (E.reads 0 1 3) (by simp) (by omega) ?_;clear E;intro s2 w10 h2 E;refine G0 [3,0,20,23,0,0,25] ?_
    go_roundw
    case rel=>exact(Or.inr ⟨Y,s2,n,rfl,rfl,L_ ⟨h2,hYc⟩,(E.drop 3).dQ (is':=own s2 1000::(iV ⟨X.k,Y,X.la⟩++is)) 8 [0,3,4,1,2,7]⟩)
    case measure=>simp[intOf]
  case inr=>
   refine G0 [5,0,4,17,27,28,5,0,0,4,22] ?_;exact ak ⟨Y,o,n,rfl,HY,E⟩
structure Y1 (X:FK)(c:lJ)(K:iW)(S:oN)(o:List Tok):Prop where
 new:Dr X.k 0 c→K.ck=1∧K.dn.l=[]∧S=X.s∧o=[]∧∃g:Sl Int,g.l=c.m.g.l∧K.wa.l=[⟨⟨c.m.i,g,c.m.t,c.m.key,c.m.body⟩,1,false⟩]
 fin:∀y,BH X.k 0 c y→K.dn.l=[⟨c.tm,y.m.i⟩]∧(∃n,o=[⟨y.m.i,y.m.t,n⟩])∧∀x∈S.co.l,x.l=List.replicate 8 0
theorem YL {is:List It}(p:Nat)(X:FK)(c:lJ)(w:World)(E:Env b w0 (BX p X::bx) (iV X++is) w)(hc:∀(bx:List Bx) (w':World),Env b w0 bx (iV X++is) w'→au.aA w' w' 1000 c)(hz:zV X.s)(hcw:ny c)(hX:Dr X.k 0 c∨∃y,BH X.k 0 c y∧(∃k:Nat,y.m.t=(k:Int)∧k<4)∧0≤y.m.i∧y.m.i<6291456∧y.m.key.size≤16∧y.m.body.size≤64)(hM:∀x∈X.k.wa.l,x.m.is F5) :
  Calls prog 32 #[p,.int .i64 0,c] w fun e w'=>∃(K:iW) (S:oN) (o:Sl Tok),e=.returned (.tuple #[o,.nilIface])∧Hid (Y1 X c K S o.l)∧Hid (∀x∈K.wa.l,x.m.is F5)∧Env b w0 (BX p ⟨K,S,X.la⟩::bx) (own o 1000::(iV ⟨K,S,X.la⟩++is)) w':=by
 have HC:=L_ hc;have HZ:=L_ hz;have HCW:=L_ hcw;have HX:=L_ hX;have HM:=L_ hM;have c4:¬(4:Int)≤c.k:=by rcases hX with h|⟨y,h,-⟩<;>(have:=h.k;omega)
 clear hc hz hcw hX hM
 go_enter func32,ntmps32
 refine G E [5,71,3,0,0,4,6,5,0,40,0,9] ?_;clear E;intro g5 w2 E;refine aC (VX (WU (dw 15 E ?_)));clear E;intro w3 E;refine ay 0 E ?_;refine ay 1 E ?_;refine ay 2 E ?_;refine ay 3 E ?_;refine oG 4 1 3 E ?_;refine ay 5 E ?_;refine oG 6 0 12 E ?_;refine IJ 7 12 (cK (yH F5 X.k 0 c _ 1000 ⟨E.ol (s:=X.k.wa) (N:=1000) 0,E.ol (s:=X.k.dn) (N:=1000) 1⟩ (HC _ _ E) (by decide) (by decide) HM (fun _ _ _ _ _ h=>h) HCW (fun _=>HCW.m)) ?_) (jm E ?_)
 case' refine_1=>
  rintro _ w4 ⟨K,lo,v,rfl,ha,F⟩;replace E:=E.call F;clear F;refine⟨_,rfl,E.weak,dL ?_⟩;refine ay 8 E ?_;refine ay 9 E ?_;refine ay 10 E ?_;refine ay 11 E ?_;refine T_1 12 (jm E ?_);clear E;intro g8 w5 E;refine⟨(E.drop 1).weak,dL ?_⟩
 case' refine_2=>
  clear E;intro g8 w4 E;refine⟨(E.drop 1).weak,dL ?_⟩;refine T_1 7 (cK (yH F5 X.k 0 c _ 1000 ⟨E.ol (s:=X.k.wa) (N:=1000) 0,E.ol (s:=X.k.dn) (N:=1000) 1⟩ (HC _ _ E) (by decide) (by decide) HM (fun _ _ _ _ _ h=>h) HCW (fun _=>HCW.m)) ?_);rintro _ w5 ⟨K,lo,v,rfl,ha,F⟩;replace E:=E.call F;clear F;refine⟨_,rfl,(E.drop 1).weak,dL ?_⟩;refine ay 8 E ?_;refine ay 9 E ?_;refine ay 10 E ?_;refine ay 11 E ?_
 all_goals
  have hv:v=0:=by rcases HX with h|⟨y,h,-⟩;exact(ha.new h).1;exact(ha.fin y h).1
  subst hv;refine uS 13 0 E ?_;clear E;intro w6 E;refine ay 14 E ?_;refine G0 [30,0,4,6,5,0,0,4,8,15,5,0] ?_;refine aB 0 3 E ?_;refine G E [84,62,4,5,0,0,9] ?_;clear E;intro w7 E;replace E:Env b w0 _ (iV ⟨K,X.s,X.la⟩++(own lo 1000::is)) _:=E.dQ (is':=iV ⟨K,X.s,X.la⟩++(own lo 1000::is)) 8 [1,2,5,6,7,0];replace E:=E.bD 2
  rcases HX with hn|⟨y,hf,⟨q,hq,hq4⟩,h1,h2,h3,h4⟩
  case inl=>
   have hlo:lo.l=[]:=(ha.new hn).2.2.2.1;obtain⟨lA,lc,ll⟩:=lo;obtain rfl:ll=[]:=hlo;refine ah (Lm p lc lA _ E) ?_;clear E;rintro _ w8 ⟨rfl,E⟩;refine G0 [26] ?_;have hN:=L_ (ha.new hn);refine G0 [0,0,4,22] ?_;exact Fu ⟨K,X.s,⟨none,0,[]⟩,rfl,L_ ⟨fun _=>⟨hN.2.1,hN.2.2.1,rfl,rfl,hN.2.2.2.2⟩,fun y hf=>(by have h:=hf.k;rw[hn.k] at h;cases h)⟩,L_ ha.m,((E.only 2).aO (α:=Tok) (N:=1000)).dQ 7 [0,1,2,3,4,5]⟩
  case inr=>
   obtain⟨hv0,hdn,x',hpl,hlo⟩:=ha.fin y hf;replace hlo:=L_ hlo;replace hdn:=L_ hdn;have hq':Hid (x'.m.i=y.m.i∧x'.m.t=y.m.t∧x'.m.key=y.m.key∧x'.m.body=y.m.body):=L_ (by have h:=hpl;unfold dI.pl at h;simp only[ZV] at h;exact⟨h.1,h.2.2.1,h.2.2.2.1,h.2.2.2.2.1⟩);clear hpl hv0;replace hq:=L_ hq;refine ah (LY p ⟨K,X.s,X.la⟩ lo x'.m.fl q _ E (fun bx w' E'=>E'.ol (s:=lo) (N:=1000) 5) hlo HZ (hq'.2.1.trans hq) hq4 (by show 0≤x'.m.i;rw[hq'.out.1];exact h1) (by show x'.m.i<_;rw[hq'.out.1];exact h2) (by show x'.m.key.size≤16;rw[hq'.out.2.2.1];exact h3) (by show x'.m.body.size≤64;rw[hq'.out.2.2.2];exact h4)) ?_;clear E;rintro _ w9 ⟨S,o,n,rfl,hS,E⟩;refine G0 [26,0,0,4,22] ?_
   exact Fu ⟨K,S,o,rfl,L_ ⟨fun h=>(by have h5:=h.k;rw[hf.k] at h5;cases h5),fun y' hf'=>by
    have e:y'=y:=by have a:=hf.x.1;rw[hf'.x.1] at a;exact(List.cons.inj a).1
    subst e;exact⟨hdn,⟨n,by rw[hS.out.1,hq.out];exact congrArg (fun z=>[(⟨z,_,_⟩:Tok)]) hq'.1⟩,hS.2⟩⟩,L_ ha.m,(E.only 2).dQ 7 [0,1,2,3,4,5]⟩
end
end Go.Proofs.YtaebfkcgdmodlaaGreatDoor
