/-
  A part of the proof that the erased node of towncrier reads nothing (TopErased).
-/
import Derived.Test.YtaebfkcgdmodlaaGreatDoorJ07
namespace Go.Proofs.YtaebfkcgdmodlaaGreatDoor
open Go.RowKit Go.Proofs.Tryz
set_option maxHeartbeats 16000000
set_option maxRecDepth 100000
set_option linter.unusedVariables false
set_option linter.unusedSimpArgs false
section
open Go.RowKit Bal
structure yF (x:dZ):Prop where
 t:Ef x.t
 log:∀v∈x.log.l,v.size≤1000000
 wi:∀v∈x.wi.l,v.size≤1000000
 vs:∀y∈x.vs.l,y.v.size≤1000000∧i64 y.p∧i64 y.b
structure yL (x:dZ):Prop where
 me:0≤x.me∧x.me<6
 num:0≤x.num∧x.num<4
 g:Qm.check x.g.r.l=0
 has:x.me∈x.g.r.l
 ll:x.log.l.length≤200
 vl:x.vs.l.length≤200
 wl:x.wi.l.length≤200
 hd:0≤x.hd∧x.hd≤8388613
 vg:∀y∈x.vs.l,y.g=x.num
theorem Za (x:Int)(w:World)(h:i64 x):Calls prog 242 #[x] w fun e w'=>∃y z v:Int,e=.returned (.tuple #[y,z,v])∧w=w':=by
 cases hb:may x
 ·exact(OP w x h.1 h.2 hb).mono fun e w' ⟨h1,h2⟩=>⟨_,_,_,h1,h2⟩
 ·exact(Td w x hb).mono fun e w' ⟨h1,h2⟩=>⟨_,_,_,h1,h2⟩
theorem OE (g:gT)(w:World)(N:Nat)(h:au.aA w w N g)(hN:N≤1000000):Calls prog 151 #[g] w fun e w'=>e=.returned ((cB g.r.l g.m.l))∧Below w w w':=
 rz g.r.A g.r.l.length g.r.c g.r.l g.m.A g.m.l.length g.m.c g.m.l w (by have:=h.1.1;rwa[fF] at this) (by have:=h.2.1;rwa[fF] at this) (by have:=h.1.2.2.2.1;omega) (by have:=h.2.2.2.2.1;omega)
theorem Yo (s:Sl ByteArray)(w:World)(N:Nat)(h:s.aA w w N)(hN:N≤1000000)(hz:∀v∈s.l,v.size≤1000000):Calls prog 239 #[s] w fun e w'=>∃v,e=.returned (.int .i64 v)∧(v=0→s.l.length≤200)∧Below w w w':=
 (GL s.A s.l.length s.c w s.l w (by have:=h.1;rwa[rA] at this) (Zh _) (by have:=h.2.2.2.1;omega) (fun v hv=>Zt (hz v hv) (by decide)) _ rfl).mono fun e w' ⟨h1,h2⟩=>⟨_,h1,fun h0=>(by
  rcases aaA 200 s.l.length with h|h
  ·rw[Lg.nE (by rw[F9];omega)] at h0;cases h0
  ·exact h),h2⟩
theorem Wh (p b:Int)(s:ByteArray)(w:World)(hs:s.size≤1000000)(hp:i64 p)(hb:i64 b):Calls prog 177 #[.agg #[p,b,s]] w fun e w'=>∃v,e=.returned (.int .i64 v)∧Below w w w':=
 (rT p b s w (by omega) hp.1 hp.2 hb.1 hb.2).mono fun e w' ⟨h1,h2⟩=>⟨_,h1,h2⟩
def pG (x:dZ)(e:Ending):Prop:=∃v,e=.returned (.int .i64 v)∧(v=0→yL x)
theorem pG.no (x:dZ):pG x (.returned (.int .i64 8)):=⟨8,rfl,fun h=>absurd h (by decide)⟩
noncomputable def Us:Code:=match f165.body with
 |some (.seq _ (.seq _ (.seq r _)))=>r
 |_=>.skip
def YD (x:dZ):Prop:=((0≤x.me∧x.me<6)∧(0≤x.num∧x.num<4)∧cB x.g.r.l x.g.m.l=0)∧x.me∈x.g.r.l∧x.log.l.length≤200∧(0≤x.hd∧x.hd≤8388613)∧x.wi.l.length≤200
attribute [local irreducible] wpList av
theorem Qz (x:dZ)(w w1:World)(N g1 g24:Nat)(v22 v23 v24:Value)(K:Act→World→Prop)(fn:Func)(R:Ending→World→Prop)(HL:Hid (au.aA w w N x))(hN:N≤100000)(hN2:1000≤N)(HW:Hid (yF x))(E:Env w w [(g24,321,[x.me,x.num,x.g.r,x.g.m,x.log,x.vs,.int .u8 x.t.ph,x.t.b,x.t.mem,x.t.wi,x.t.va,x.t.pr,x.t.ac,x.wi,x.hd,(),()]),(g1,60,x)] [] w1)
  (h:∀{q:Bool} {u25 u26 u27 u28 u29 u30 u31 u32 u33 u34 u35 u36 u37 u38 u39 u40 u41 u42 u43 u44 u45 u46 u47 u48 u49 u50 u51 u52 u53 u54 u55 u56 u57 u58 u59 u60 u61 u62 u63 u64 u65 u66 u67 u68 u69 u70 u71 u72 u73 u74 u75 u76 u77 u78 u79 u80 u81 u82 u83 u84 u85 u86 u87 u88 u89 u90 u91 u92 u93 u94 u95 u96 u97 u98 u99 u100 u101 u102 u103 u104 u105 u106 u107 u108 u109 u110 u111 u112 u113 u114 u115 u116 u117 u118 u119 u120 u121 u122 u123 u124 u125 u126 u127 u128 u129:Value} {w':World},(q=true→YD x)→Env w.heap.size w [(g24,321,[.int .i64 x.me,.int .i64 x.num,.slice x.g.r.A x.g.r.l.length x.g.r.c,.slice x.g.m.A x.g.m.l.length x.g.m.c,.slice x.log.A x.log.l.length x.log.c,.slice x.vs.A x.vs.l.length x.vs.c,.int .u8 x.t.ph,.int .i64 x.t.b,.slice x.t.mem.A x.t.mem.l.length x.t.mem.c,.string x.t.wi,.string x.t.va,.slice x.t.pr.A x.t.pr.l.length x.t.pr.c,.slice x.t.ac.A x.t.ac.l.length x.t.ac.c,.slice x.wi.A x.wi.l.length x.wi.c,.int .i64 x.hd,.slice none 0 0,.slice none 0 0]),(g1,60,[.int .i64 x.me,.int .i64 x.num,.slice x.g.r.A x.g.r.l.length x.g.r.c,.slice x.g.m.A x.g.m.l.length x.g.m.c,.slice x.log.A x.log.l.length x.log.c,.slice x.vs.A x.vs.l.length x.vs.c,.int .u8 x.t.ph,.int .i64 x.t.b,.slice x.t.mem.A x.t.mem.l.length x.t.mem.c,.string x.t.wi,.string x.t.va,.slice x.t.pr.A x.t.pr.l.length x.t.pr.c,.slice x.t.ac.A x.t.ac.l.length x.t.ac.c,.slice x.wi.A x.wi.l.length x.wi.c,.int .i64 x.hd])] [] w'→K ⟨(.agg #[.int .i64 x.me,.int .i64 x.num,.slice x.g.r.A x.g.r.l.length x.g.r.c,.slice x.g.m.A x.g.m.l.length x.g.m.c,.slice x.log.A x.log.l.length x.log.c,.slice x.vs.A x.vs.l.length x.vs.c,.int .u8 x.t.ph,.int .i64 x.t.b,.slice x.t.mem.A x.t.mem.l.length x.t.mem.c,.string x.t.wi,.string x.t.va,.slice x.t.pr.A x.t.pr.l.length x.t.pr.c,.slice x.t.ac.A x.t.ac.l.length x.t.ac.c,.slice x.wi.A x.wi.l.length x.wi.c,.int .i64 x.hd]::.pointer (some ⟨g1,0,none⟩)::.int .i64 0::.pointer (some ⟨g24,0,none⟩)::.bool q::aaM::aaM::aaM::aaM::aaM::aaM::aaM::aaM::aaM::aaM::aaM::aaM::aaM::aaM::aaM::aaM::aaM::v22::v23::v24::u25::u26::u27::u28::u29::u30::u31::u32::u33::u34::u35::u36::u37::u38::u39::u40::u41::u42::u43::u44::u45::u46::u47::u48::u49::u50::u51::u52::u53::u54::u55::u56::u57::u58::u59::u60::u61::u62::u63::u64::u65::u66::u67::u68::u69::u70::u71::u72::u73::u74::u75::u76::u77::u78::u79::u80::u81::u82::u83::u84::u85::u86::u87::u88::u89::u90::u91::u92::u93::u94::u95::u96::u97::u98::u99::u100::u101::u102::u103::u104::u105::u106::u107::u108::u109::u110::u111::u112::u113::u114::u115::u116::u117::u118::u119::u120::u121::u122::u123::u124::u125::u126::u127::u128::u129::aaM::aaM::aaM::aaM::aaM::aaM::aaM::aaM::aaM::aaM::aaM::aaM::aaM::aaM::aaM::aaM::aaM::aaM::aaM::aaM::aaM::aaM::aaM::aaM::aaM::aaM::aaM::aaM::aaM::aaM::aaM::aaM::aaM::aaM::aaM::aaM::aaM::aaM::aaM::aaM::aaM::aaM::aaM::aaM::aaM::aaM::aaM::aaM::aaM::aaM::aaM::aaM::aaM::aaM::aaM::aaM::aaM::aaM::aaM::aaM::aaM::aaM::aaM::aaM::aaM::aaM::aaM::aaM::aaM::aaM::aaM::aaM::aaM::aaM::aaM::aaM::aaM::aaM::aaM::aaM::aaM::aaM::aaM::aaM::aaM::aaM::aaM::aaM::aaM::aaM::aaM::aaM::aaM::aaM::aaM::aaM::aaM::aaM::aaM::aaM::aaM::aaM::aaM::aaM::aaM::aaM::aaM::aaM::aaM::aaM::aaM::aaM::aaM::aaM::aaM::aaM::aaM::aaM::aaM::aaM::aaM::aaM::aaM::aaM::aaM::aaM::aaM::aaM::aaM::aaM::aaM::aaM::aaM::aaM::aaM::aaM::aaM::aaM::aaM::aaM::aaM::aaM::aaM::aaM::aaM::aaM::aaM::aaM::aaM::aaM::aaM::aaM::aaM::aaM::aaM::aaM::aaM::aaM::aaM::aaM::aaM::aaM::aaM::aaM::aaM::aaM::aaM::aaM::aaM::([]:List Value)).toArray,[]⟩ w') :
  Us.wp prog (Exit.then K (bodyPost prog fn R)) ⟨(.agg #[.int .i64 x.me,.int .i64 x.num,.slice x.g.r.A x.g.r.l.length x.g.r.c,.slice x.g.m.A x.g.m.l.length x.g.m.c,.slice x.log.A x.log.l.length x.log.c,.slice x.vs.A x.vs.l.length x.vs.c,.int .u8 x.t.ph,.int .i64 x.t.b,.slice x.t.mem.A x.t.mem.l.length x.t.mem.c,.string x.t.wi,.string x.t.va,.slice x.t.pr.A x.t.pr.l.length x.t.pr.c,.slice x.t.ac.A x.t.ac.l.length x.t.ac.c,.slice x.wi.A x.wi.l.length x.wi.c,.int .i64 x.hd]::.pointer (some ⟨g1,0,none⟩)::.int .i64 0::.pointer (some ⟨g24,0,none⟩)::aaM::aaM::aaM::aaM::aaM::aaM::aaM::aaM::aaM::aaM::aaM::aaM::aaM::aaM::aaM::aaM::aaM::aaM::v22::v23::v24::aaM::aaM::aaM::aaM::aaM::aaM::aaM::aaM::aaM::aaM::aaM::aaM::aaM::aaM::aaM::aaM::aaM::aaM::aaM::aaM::aaM::aaM::aaM::aaM::aaM::aaM::aaM::aaM::aaM::aaM::aaM::aaM::aaM::aaM::aaM::aaM::aaM::aaM::aaM::aaM::aaM::aaM::aaM::aaM::aaM::aaM::aaM::aaM::aaM::aaM::aaM::aaM::aaM::aaM::aaM::aaM::aaM::aaM::aaM::aaM::aaM::aaM::aaM::aaM::aaM::aaM::aaM::aaM::aaM::aaM::aaM::aaM::aaM::aaM::aaM::aaM::aaM::aaM::aaM::aaM::aaM::aaM::aaM::aaM::aaM::aaM::aaM::aaM::aaM::aaM::aaM::aaM::aaM::aaM::aaM::aaM::aaM::aaM::aaM::aaM::aaM::aaM::aaM::aaM::aaM::aaM::aaM::aaM::aaM::aaM::aaM::aaM::aaM::aaM::aaM::aaM::aaM::aaM::aaM::aaM::aaM::aaM::aaM::aaM::aaM::aaM::aaM::aaM::aaM::aaM::aaM::aaM::aaM::aaM::aaM::aaM::aaM::aaM::aaM::aaM::aaM::aaM::aaM::aaM::aaM::aaM::aaM::aaM::aaM::aaM::aaM::aaM::aaM::aaM::aaM::aaM::aaM::aaM::aaM::aaM::aaM::aaM::aaM::aaM::aaM::aaM::aaM::aaM::aaM::aaM::aaM::aaM::aaM::aaM::aaM::aaM::aaM::aaM::aaM::aaM::aaM::aaM::aaM::aaM::aaM::aaM::aaM::aaM::aaM::aaM::aaM::aaM::aaM::aaM::aaM::aaM::aaM::aaM::aaM::aaM::aaM::aaM::aaM::aaM::aaM::aaM::aaM::aaM::aaM::aaM::aaM::aaM::aaM::aaM::aaM::aaM::aaM::aaM::aaM::aaM::aaM::aaM::aaM::aaM::aaM::aaM::aaM::aaM::aaM::aaM::aaM::aaM::aaM::aaM::aaM::aaM::aaM::aaM::aaM::aaM::aaM::aaM::aaM::aaM::aaM::aaM::aaM::aaM::aaM::aaM::aaM::aaM::aaM::aaM::aaM::aaM::aaM::aaM::aaM::aaM::aaM::aaM::aaM::aaM::aaM::aaM::aaM::aaM::aaM::aaM::aaM::aaM::aaM::aaM::([]:List Value)).toArray,[]⟩ w1:=by
 refine(show(Code.region 2 _ true).wp _ _ _ _ from ?_);refine ng 0 51 [] (aaL [0,1,2,3,4,5,6,7,8,9,10,11,12,13,14,15,16,17,18,19,20,21,22,23,24,25,26,27,28,29,30,31,32,33,34,35]++aaN [36]++aaL [37,38,39,40,41,42,43,44,45,46,47,48,49,50]) E ?_;clear E;intro w2 E;refine GD E [32,32,32,32,50] ?_
 by_cases h1:0≤x.me
 case neg=>
  refine GD E [32,32,36,33,32,32,36,33,32,32,36,33,32,32,36,34,33,32,32,36,36,33,29,82,82,81,80] ?_;refine wpList_nil ?_;exact h (fun e=>by cases e) E
 refine GD E [35,32,50] ?_
 by_cases h2:x.me<6
 case neg=>
  refine GD E [32,32,32,36,33,32,32,36,33,32,32,36,34,33,32,32,36,36,33,29,82,82,81,80] ?_;refine wpList_nil ?_;exact h (fun e=>by cases e) E
 refine GD E [35,32,32,50] ?_
 by_cases h3:0≤x.num
 case neg=>
  refine GD E [32,32,32,36,33,32,32,36,34,33,32,32,36,36,33,29,82,82,81,80] ?_;refine wpList_nil ?_;exact h (fun e=>by cases e) E
 refine GD E [35,32,32,50] ?_
 by_cases h4:x.num<4
 case neg=>
  refine GD E [32,32,32,36,34,33,32,32,36,36,33,29,82,82,81,80] ?_;refine wpList_nil ?_;exact h (fun e=>by cases e) E
 iterate 7 refine ni E ?_
 refine gZ 0 2 E ?_;refine bT (OE x.g _ N ⟨(E.h HL).1,(E.h HL).2.1⟩ (by omega)) ?_;rintro _ w3 ⟨rfl,hb⟩;replace E:=E.up hb;clear hb;refine⟨_,rfl,E.weak,D_n ?_⟩
 by_cases h5:(cB x.g.r.l x.g.m.l==0)=false
 case pos=>
  refine GD E [32,32,32,36,36,33,29,82,82,81,80] ?_;refine wpList_nil ?_;exact h (fun e=>by cases e) E
 replace h5:(cB x.g.r.l x.g.m.l==0)=true:=by simpa using h5
 iterate 4 refine ni E ?_
 have H1:Hid ((0≤x.me∧x.me<6)∧(0≤x.num∧x.num<4)∧cB x.g.r.l x.g.m.l=0):=L_ ⟨⟨h1,h2⟩,⟨h3,h4⟩,by simpa using h5⟩;clear h1 h2 h3 h4 h5;refine GD E [32,32,32,32,50,32,32,32,32,50,29] ?_;refine ah (tY x.g.r x.me _ N (E.h HL).1 (by omega)) ?_;rintro _ w4 ⟨rfl,rfl⟩;refine G0 [26] ?_
 by_cases h6:x.me∈x.g.r.l
 case neg=>
  refine G0 [0,0,1,82,82,81,2] ?_;refine wpList_nil ?_;exact h (fun e=>by cases e) E
 refine G0 [84] ?_;have H6:=L_ h6;clear h6;refine GD E [84,40] ?_;refine ah (Yo x.log _ N (E.h HL).2.2.1 (by omega) HW.log) ?_;rintro _ w5 ⟨v1,rfl,hv1,hb⟩;replace E:=E.up hb;clear hb;replace hv1:=L_ hv1;refine G0 [26] ?_
 by_cases h7:(v1==0)=false
 case pos=>
  refine G0 [84,1,82,82,2,2] ?_;refine wpList_nil ?_;exact h (fun e=>by cases e) E
 replace h7:(v1==0)=true:=by simpa using h7
 obtain rfl:v1=0:=by simpa using h7
 refine GD E [83,0,0,40] ?_
 by_cases h8:0≤x.hd
 case neg=>
  refine G0 [84,1,82,81,2,2,2,2] ?_;refine wpList_nil ?_;exact h (fun e=>by cases e) E
 refine GD E [83,0,0,40] ?_
 by_cases h9:x.hd≤8388613
 case neg=>
  refine G0 [84,1,82,80,2] ?_;refine wpList_nil ?_;exact h (fun e=>by cases e) E
 refine G0 [84,0] ?_;have H8:Hid (0≤x.hd∧x.hd≤8388613):=L_ ⟨h8,h9⟩;clear h8 h9;refine GD E [84,40,0] ?_
 by_cases h10:(x.wi.l.length:Int)≤200
 case neg=>
  refine G0 [84,1,81,80,2,2] ?_;refine wpList_nil ?_;exact h (fun e=>by cases e) E
 refine G0 [84,0] ?_;have H10:=L_ h10;clear h10;refine G0 [84] ?_;refine oC 0 7 E ?_;refine ah (rQ x.t _ N ⟨(E.h HL).2.2.2.2.1,(E.h HL).2.2.2.2.2.1,(E.h HL).2.2.2.2.2.2.1⟩ (by omega) HW.t) ?_;rintro _ w6 ⟨⟨v2,rfl,-⟩,hb⟩;replace E:=E.up hb;clear hb;refine G0 [26] ?_
 by_cases h11:(v2==0)=false
 case pos=>
  refine G0 [84,1,80,2,2,2] ?_;refine wpList_nil ?_;exact h (fun e=>by cases e) E
 replace h11:(v2==0)=true:=by simpa using h11
 obtain rfl:v2=0:=by simpa using h11
 refine GD E [83,84,40] ?_
 by_cases h12:x.t.ph<3
 case neg=>
  refine G0 [84] ?_;refine wpList_nil ?_;exact h (fun e=>by cases e) E
 refine G0 [84] ?_;refine wpList_nil ?_;exact h (fun _=>⟨H1,H6,hv1 rfl,H8,by have:=H10.out;omega⟩) E
end
end Go.Proofs.YtaebfkcgdmodlaaGreatDoor
