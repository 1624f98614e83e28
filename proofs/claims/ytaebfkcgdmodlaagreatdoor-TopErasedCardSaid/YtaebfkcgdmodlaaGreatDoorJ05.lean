/-
  A part of the proof that the erased node of towncrier reads nothing (TopErased).
-/
import Derived.Test.YtaebfkcgdmodlaaGreatDoorJ04
namespace Go.Proofs.YtaebfkcgdmodlaaGreatDoor
open Go.RowKit Go.Proofs.Tryz
set_option maxHeartbeats 16000000
set_option maxRecDepth 100000
set_option linter.unusedVariables false
set_option linter.unusedSimpArgs false
variable{a:Act}{ops:Array Oper}{U s:ByteArray}{R:Ending→World→Prop}{Q:Exit→Act→World→Prop}{fn:Func}{κ:Int}{L L':List UInt8}{vs:List Value}{b g1 g3 g9 gb gm i j m:Nat}{o:Oper}{v v2:Value}{w w' w0:World}
section
attribute [local irreducible] wpList av
namespace Cp
theorem RO {c:dD}(h:c.k=0):aV c=[UInt8.ofNat c.k.toNat]:=by
 unfold aV;rw[Nm.jo (n:=c.k.toNat) (by omega),h,JU];simp[wS,pX,Nm.many]
theorem Rf {c:dD}(h:c.k=1):aV c=((((([UInt8.ofNat c.k.toNat]++Nm.many [c.mi])++Nm.fq c.gs)++Nm.many [c.mt])++Nm.txt c.key)++Nm.txt c.body):=by
 unfold aV;rw[Nm.jo (n:=c.k.toNat) (by omega),h,fields1];simp[wS,pX,Nm.many]
theorem Sc {c:dD}(h:c.k=2):aV c=([UInt8.ofNat c.k.toNat]++Nm.many [c.i,c.tm]):=by
 unfold aV;rw[Nm.jo (n:=c.k.toNat) (by omega),h,fields2];simp[wS,pX,Nm.many]
theorem QW {c:dD}(h:c.k=3):aV c=([UInt8.ofNat c.k.toNat]++Nm.fq c.mem):=by
 unfold aV;rw[Nm.jo (n:=c.k.toNat) (by omega),h,wT];simp[wS,pX,Nm.many]
theorem Rq {c:dD}(h:c.k=4):aV c=([UInt8.ofNat c.k.toNat]++Nm.many [c.i,c.tp,c.who,c.n]):=by
 unfold aV;rw[Nm.jo (n:=c.k.toNat) (by omega),h,wN];simp[wS,pX,Nm.many]
theorem Sw {c:dD}(h:c.k=5):aV c=([UInt8.ofNat c.k.toNat]++Nm.many [c.i,c.tp,c.n]):=by
 unfold aV;rw[Nm.jo (n:=c.k.toNat) (by omega),h,wY];simp[wS,pX,Nm.many]
theorem Q7 {c:dD}(h:c.k=6):aV c=([UInt8.ofNat c.k.toNat]++Nm.many [c.i,c.tp,c.n]):=by
 unfold aV;rw[Nm.jo (n:=c.k.toNat) (by omega),h,wQ];simp[wS,pX,Nm.many]
end Cp
theorem QH {l:List UInt8}{xs:List Int}(h:l.length≤b)(hi:∀x∈xs,Nm.jO x=true)(hn:xs.length≤4):(l++Nm.many xs).length≤b+24:=by
 have:=Nm.oK xs hi;rw[Zn];omega
theorem Og {l:List UInt8}{xs:List Int}(h:l.length≤b)(hi:∀x∈xs,Nm.jO x=true)(hn:xs.length≤6):(l++Nm.fq xs).length≤b+42:=by
 have:=Cp.uW (m:=6) hn (by omega) hi;rw[Zn];omega
theorem Rn {l:List UInt8}(h:l.length≤b)(hs:s.size≤100):(l++Nm.txt s.data.toList).length≤b+106:=by
 have h2:=Nm.dV (n:=s.data.toList.length) (by rw[size_data];omega);have:=size_data s;rw[Zn];unfold Nm.txt;rw[Zn];omega
theorem RY {k:Int}(h:0≤k∧k≤255):cb [UInt8.ofNat k.toNat]=[.int .u8 k]:=by
 have e:((UInt8.ofNat k.toNat).toNat:Int)=k:=by
  rw[UInt8.toNat_ofNat'];have:k.toNat % 2 ^ 8=k.toNat:=Nat.mod_eq_of_lt (by omega);rw[this];omega
 unfold cb;rw[List.map_cons,List.map_nil,e]
theorem AQ {rest:List Oper}{e:TypeId}(h:∀g w',Below w w w'→aF w' g e vs.toArray→wpList prog ops Q rest (a.put o.dst (.slice (some ⟨g,0,none⟩) m m)) w')
  (hg:o.guard=none:=by rfl) (hr:(execOp a.eval o).run prog w=.ok (.value (.slice (some ⟨w,0,none⟩) m m)) (w.alloc (.cells vs.toArray e)):=by go_simp<;>first|with_reducible rfl|exact⟨rfl,rfl⟩):wpList prog ops Q (o::rest) a w:=
 Uy (Env.start w) (fun g w' E=>h g w' E.aD (E.blk 0 rfl)) hg hr
def JE (w0:World)(gm gb:Nat)(D:HC)(l:List UInt8)(b:Nat)(w:World):Prop:=wW w0 gm gb D l w∧l.length≤b
theorem JE.below {D:HC}{l:List UInt8}(h:JE w0 gm gb D l b w)(hb:Below w w w'):JE w0 gm gb D l b w':=⟨h.1.below hb,h.2⟩
theorem JE.start {D:HC}(E:Env w w [(g3,46,[.slice (some ⟨g9,0,none⟩) 1 1]),(g9,5,[.int .u8 κ]),(g1,37,[.int .u8 κ,D.mi,.slice D.GA D.Gn D.Gc,D.mt,D.key,D.body,D.i,D.tm,.slice D.MA D.Mn D.Mc,D.tp,D.who,D.n])] [] w')(hD:bK w w D)(hk:D.k=κ):JE w g1 g3 D [UInt8.ofNat D.k.toNat] 1 w':=by
 subst hk;refine⟨⟨.slice (some ⟨g9,0,none⟩) 1 1,E.blk 0 rfl,?_,E.blk 2 rfl,hD.below E.aD,E.aD,E.ge [g3] (by simp[comps]) g3 (by simp)⟩,Zh _⟩;rw[RY hD.kk];exact⟨rfl,Or.inr ⟨g9,1,#[.int .u8 D.k],rfl,E.ge [g9] (by simp[comps]) g9 (by simp),E.blk 1 rfl,Zh _,by unfold maxLen;omega,rfl,rfl⟩⟩
theorem WG {P:Program}(h:R (.returned (.tuple #[v,v2])) w)(hr:fn.results=#[.tmp i,.tmp j]:=by rfl)(hd:a.defers=[]:=by rfl)(hx:a.tmps[i]?.getD undef=v:=by rfl)(hy:a.tmps[j]?.getD undef=v2:=by rfl):bodyPost P fn R .ret a w:=
 aaT (v:=.tuple #[v,v2]) (by simp[results,hr,hx,hy]) hd h
theorem JE.fin {D:HC}(h:JE w0 gm gb D L b w)(e:S L'=U)(hl:L'=L:=by rfl):∃L,S L=U∧wW w0 gm gb D L w:=⟨L,hl▸e,h.1⟩
theorem AV {xs:List Int}(h:∀x∈xs,0≤x∧x≤1099511627776):∀x∈xs,Nm.jO x=true:=fun x hx=>ZG (h x hx)
theorem vF (w0:World)(gm gb:Nat)(D:HC)(l:List UInt8)(gx:Nat)(cs:Array Value)(xs:List Int)(n:Nat)(w:World)(h:JE w0 gm gb D l b w)(hx:aF w gx 3 cs)(hc:cs.toList=ci xs)(hn:xs.length=n)(hi:∀x∈xs,Nm.jO x=true)(hl:b≤1000)(hn2:n≤4) :
  Calls prog 127 #[.slice (some ⟨gx,0,none⟩) n n,gb] w fun e w'=>e=()∧JE w0 gm gb D (l++Nm.many xs) (b+24) w':=
 (Oo w0 gm gb D l gx cs xs n w h.1 hx hc hn hi (by have:=h.2;omega) (by omega)).mono fun e w' ⟨h1,h2,_⟩=>⟨h1,h2,QH h.2 hi (by omega)⟩
theorem JR (w0:World)(gm gb:Nat)(D:HC)(l:List UInt8)(A:Option Addr)(n c:Nat)(xs:List Int)(w:World)(h:JE w0 gm gb D l b w)(hr:Reads w w0 1 A n (ci xs))(hx:xs.length≤6∧∀x∈xs,Nm.jO x=true)(hl:b≤1000) :
  Calls prog 129 #[.slice A n c,gb] w fun e w'=>e=()∧JE w0 gm gb D (l++Nm.fq xs) (b+42) w':=
 (Ll w0 gm gb D l A n c w0 xs w h.1 hr h.1.aD.size hx.2 (by have:=h.2;omega) (by have:=hr.jw;omega)).mono fun e w' ⟨h1,h2,_⟩=>⟨h1,h2,Og h.2 hx.2 hx.1⟩
theorem PU (w0:World)(gm gb:Nat)(D:HC)(l:List UInt8)(s:ByteArray)(w:World)(h:JE w0 gm gb D l b w)(hs:s.size≤100)(hl:b≤1000) :
  Calls prog 131 #[s,gb] w fun e w'=>e=()∧JE w0 gm gb D (l++Nm.txt s.data.toList) (b+106) w':=
 (Qg w0 gm gb D l s w h.1 hs (by have:=h.2;omega)).mono fun e w' ⟨h1,h2,_⟩=>⟨h1,h2,Rn h.2 hs⟩
theorem Li (D:HC)(w:World)(hD:bK w w D)(hm:Cp.dU D.cmd=true)(U:ByteArray)(hU:S (Cp.aV D.cmd)=U) :
  Calls prog 67 #[.agg #[.int .u8 D.k,D.mi,.slice D.GA D.Gn D.Gc,D.mt,D.key,D.body,D.i,D.tm,.slice D.MA D.Mn D.Mc,D.tp,D.who,D.n]] w fun e w'=>e=.returned U∧Below w w w':=by
 obtain⟨hk0,hk6,hok,-,hkey,hbody⟩:=Cp.nC hm;have HKEY:Hid (D.key.size≤100):=by have:=size_data D.key;have h2:D.key.data.toList.length≤16:=hkey;rw[Hid];omega
 have HBODY:Hid (D.body.size≤100):=by have:=size_data D.body;have h2:D.body.data.toList.length≤64:=hbody;rw[Hid];omega
 have HU:=L_ hU;have HD:=L_ hD;have hk:=hD.kk;obtain⟨κ,hκ⟩:∃κ,D.k=κ:=⟨_,rfl⟩;have HK:=L_ hκ;have okf:∀f∈Cp.aK κ,Cp.okF D.cmd f:=by rw[←hκ];exact hok
 replace hk6:κ≤6:=by rw[←hκ];exact hk6
 replace hk0:0≤κ:=by rw[←hκ];exact hk0
 have hkk:0≤κ∧κ≤255:=by rw[←hκ];exact hk
 rw[hκ];clear hD hm hok hkey hbody hU hk hκ;have E:=Env.start w
 go_enter func67,ntmps67
 refine G E [5,71,3,0,4,5,0,40,72,3,70,3,60,4,9] ?_;clear E;intro g1 g9 g3 w5 E;have ST:=L_ (JE.start E HD HK);clear E;refine G0 [5,0,0,4,5,0,0,4,5,0,0,4,6,5,0] ?_;refine bQ (v:=.int .u8 κ) (by rw[←HK.out];exact ST.1.box.cell 0) ?_
 rcases(by omega:κ=0∨κ=1∨κ=2∨κ=3∨κ=4∨κ=5∨κ=6) with rfl|rfl|rfl|rfl|rfl|rfl|rfl
 ·refine aC (wp_block (bN ?_));refine G0 [0,0,4,8,5,0,0,4,8,5,0,0,4,8,5,0,0,4,8,6,5,0,0,4,8,23,0,0,4,8,21] ?_;have EB:S (Cp.aV D.cmd)=U:=HU;rw[Cp.RO (c:=D.cmd) HK.out] at EB;obtain⟨L,hL,v,q1,q2,q4,qd,q5,q6⟩:=ST.fin EB;clear ST EB;obtain⟨A,c,rfl,-,-,-⟩:=bH q2;have hcv:(convert 46 9 (.slice A _ c)).run prog _=.ok U _:=(jA underlying46 underlying5 underlying9 (Reads.bO q2)).trans (congrArg (fun t=>Result.ok (Value.string t) _) hL);replace q1:=L_ q1;clear q2 q4 qd q6 hL;refine bN ?_;refine bQ (q1.cell 0) ?_;refine G0 [0,0,4,22] ?_;exact ak ⟨rfl,q5⟩
 ·refine aC (wp_block (bN ?_));refine G0 [0,0,4,7,5,84] ?_;refine bQ (ST.1.box.cell 1) ?_;refine AQ ?_;intro gx wx hb hx;replace ST:=L_ (ST.below hb);refine zO ?_;refine ah (vF _ _ _ D _ gx _ [D.mi] 1 _ ST hx rfl rfl (AV (xs:=[D.mi]) (by simp only[Zu,ZF,or_false,forall_eq_or_imp,forall_eq];exact okf .mi (by simp[Cp.aK]))) (by decide) (by decide)) ?_;rintro _ w6 ⟨rfl,hs⟩;replace ST:=L_ hs;clear hs hx hb;refine G0 [26,4,5,84] ?_;refine bQ (ST.1.box.cell 2) ?_;refine ah (JR _ _ _ D _ D.GA D.Gn D.Gc D.gs _ ST (by exact ST.1.cmd.rg) ⟨Zt (okf .gs (by simp[Cp.aK])).1 (by decide),(okf .gs (by simp[Cp.aK])).2⟩ (by decide)) ?_;rintro _ w7 ⟨rfl,hs⟩;replace ST:=L_ hs;clear hs;refine G0 [26,4,5,84] ?_;refine bQ (ST.1.box.cell 3) ?_;refine AQ ?_;intro gx wx hb hx;replace ST:=L_ (ST.below hb);refine zO ?_;refine ah (vF _ _ _ D _ gx _ [D.mt] 1 _ ST hx rfl rfl (AV (xs:=[D.mt]) (by simp only[Zu,ZF,or_false,forall_eq_or_imp,forall_eq];exact okf .mt (by simp[Cp.aK]))) (by decide) (by decide)) ?_;rintro _ w8 ⟨rfl,hs⟩;replace ST:=L_ hs;clear hs hx hb;refine G0 [26,4,5,84] ?_;refine bQ (ST.1.box.cell 4) ?_;refine ah (PU _ _ _ D _ D.key _ ST HKEY (by decide)) ?_;rintro _ w9 ⟨rfl,hs⟩;replace ST:=L_ hs;clear hs;refine G0 [26,4,23,84] ?_;refine bQ (ST.1.box.cell 5) ?_;refine ah (PU _ _ _ D _ D.body _ ST HBODY (by decide)) ?_;rintro _ w10 ⟨rfl,hs⟩;replace ST:=L_ hs;clear hs;refine G0 [26,20] ?_;have EB:S (Cp.aV D.cmd)=U:=HU;rw[Cp.Rf (c:=D.cmd) HK.out] at EB;obtain⟨L,hL,v,q1,q2,q4,qd,q5,q6⟩:=ST.fin EB;clear ST EB
  obtain⟨A,c,rfl,-,-,-⟩:=bH q2;have hcv:(convert 46 9 (.slice A _ c)).run prog _=.ok U _:=(jA underlying46 underlying5 underlying9 (Reads.bO q2)).trans (congrArg (fun t=>Result.ok (Value.string t) _) hL);replace q1:=L_ q1;clear q2 q4 qd q6 hL;refine bN ?_;refine bQ (q1.cell 0) ?_;refine G0 [0,0,4,22] ?_;exact ak ⟨rfl,q5⟩
 ·refine aC (wp_block (bN ?_));refine G0 [0,0,4,8,5,0,0,4,7,23,0,0] ?_;refine bQ (ST.1.box.cell 6) ?_;refine fV ?_;refine bQ (ST.1.box.cell 7) ?_;refine AQ ?_;intro gx wx hb hx;replace ST:=L_ (ST.below hb);refine zO ?_;refine ah (vF _ _ _ D _ gx _ [D.i,D.tm] 2 _ ST hx rfl rfl (AV (xs:=[D.i,D.tm]) (by simp only[Zu,ZF,or_false,forall_eq_or_imp,forall_eq];exact⟨okf .i (by simp[Cp.aK]),okf .tm (by simp[Cp.aK])⟩)) (by decide) (by decide)) ?_;rintro _ w11 ⟨rfl,hs⟩;replace ST:=L_ hs;clear hs hx hb;refine G0 [26,20] ?_;have EB:S (Cp.aV D.cmd)=U:=HU;rw[Cp.Sc (c:=D.cmd) HK.out] at EB;obtain⟨L,hL,v,q1,q2,q4,qd,q5,q6⟩:=ST.fin EB;clear ST EB;obtain⟨A,c,rfl,-,-,-⟩:=bH q2;have hcv:(convert 46 9 (.slice A _ c)).run prog _=.ok U _:=(jA underlying46 underlying5 underlying9 (Reads.bO q2)).trans (congrArg (fun t=>Result.ok (Value.string t) _) hL);replace q1:=L_ q1;clear q2 q4 qd q6 hL;refine bN ?_;refine bQ (q1.cell 0) ?_;refine G0 [0,0,4,22] ?_;exact ak ⟨rfl,q5⟩
 ·refine aC (wp_block (bN ?_));refine G0 [0,0,4,8,5,0,0,4,8,5,0,0,4,7,23,0,0] ?_;refine bQ (ST.1.box.cell 8) ?_;refine ah (JR _ _ _ D _ D.MA D.Mn D.Mc D.mem _ ST (by exact ST.1.cmd.rm) (okf .mem (by simp[Cp.aK])) (by decide)) ?_;rintro _ w12 ⟨rfl,hs⟩;replace ST:=L_ hs;clear hs;refine G0 [26,20] ?_;have EB:S (Cp.aV D.cmd)=U:=HU;rw[Cp.QW (c:=D.cmd) HK.out] at EB;obtain⟨L,hL,v,q1,q2,q4,qd,q5,q6⟩:=ST.fin EB;clear ST EB;obtain⟨A,c,rfl,-,-,-⟩:=bH q2;have hcv:(convert 46 9 (.slice A _ c)).run prog _=.ok U _:=(jA underlying46 underlying5 underlying9 (Reads.bO q2)).trans (congrArg (fun t=>Result.ok (Value.string t) _) hL);replace q1:=L_ q1;clear q2 q4 qd q6 hL;refine bN ?_;refine bQ (q1.cell 0) ?_;refine G0 [0,0,4,22] ?_;exact ak ⟨rfl,q5⟩
 ·refine aC (wp_block (bN ?_));refine G0 [0,0,4,8,5,0,0,4,8,5,0,0,4,8,5,0,0,4,7,23,0,0] ?_;refine bQ (ST.1.box.cell 6) ?_;refine fV ?_;refine bQ (ST.1.box.cell 9) ?_;refine fV ?_;refine bQ (ST.1.box.cell 10) ?_;refine fV ?_;refine bQ (ST.1.box.cell 11) ?_;refine AQ ?_;intro gx wx hb hx;replace ST:=L_ (ST.below hb);refine zO ?_;refine ah (vF _ _ _ D _ gx _ [D.i,D.tp,D.who,D.n] 4 _ ST hx rfl rfl (AV (xs:=[D.i,D.tp,D.who,D.n]) (by simp only[Zu,ZF,or_false,forall_eq_or_imp,forall_eq];exact⟨okf .i (by simp[Cp.aK]),okf .tp (by simp[Cp.aK]),okf .who (by simp[Cp.aK]),okf .n (by simp[Cp.aK])⟩)) (by decide) (by decide)) ?_;rintro _ w13 ⟨rfl,hs⟩;replace ST:=L_ hs;clear hs hx hb;refine G0 [26,20] ?_;have EB:S (Cp.aV D.cmd)=U:=HU;rw[Cp.Rq (c:=D.cmd) HK.out] at EB;obtain⟨L,hL,v,q1,q2,q4,qd,q5,q6⟩:=ST.fin EB;clear ST EB;obtain⟨A,c,rfl,-,-,-⟩:=bH q2;have hcv:(convert 46 9 (.slice A _ c)).run prog _=.ok U _:=(jA underlying46 underlying5 underlying9 (Reads.bO q2)).trans (congrArg (fun t=>Result.ok (Value.string t) _) hL);replace q1:=L_ q1;clear q2 q4 qd q6 hL;refine bN ?_;refine bQ (q1.cell 0) ?_;refine G0 [0,0,4,22] ?_;exact ak ⟨rfl,q5⟩
 ·refine aC (wp_block (bN ?_));refine G0 [0,0,4,8,5,0,0,4,8,5,0,0,4,8,5,0,0,4,8,6,5,0,0,4,7,15,7,23,0,0] ?_;refine bQ (ST.1.box.cell 6) ?_;refine fV ?_;refine bQ (ST.1.box.cell 9) ?_;refine fV ?_;refine bQ (ST.1.box.cell 11) ?_;refine AQ ?_;intro gx wx hb hx;replace ST:=L_ (ST.below hb);refine zO ?_;refine ah (vF _ _ _ D _ gx _ [D.i,D.tp,D.n] 3 _ ST hx rfl rfl (AV (xs:=[D.i,D.tp,D.n]) (by simp only[Zu,ZF,or_false,forall_eq_or_imp,forall_eq];exact⟨okf .i (by simp[Cp.aK]),okf .tp (by simp[Cp.aK]),okf .n (by simp[Cp.aK])⟩)) (by decide) (by decide)) ?_;rintro _ w14 ⟨rfl,hs⟩;replace ST:=L_ hs;clear hs hx hb;refine G0 [26,20] ?_;have EB:S (Cp.aV D.cmd)=U:=HU;rw[Cp.Sw (c:=D.cmd) HK.out] at EB;obtain⟨L,hL,v,q1,q2,q4,qd,q5,q6⟩:=ST.fin EB;clear ST EB;obtain⟨A,c,rfl,-,-,-⟩:=bH q2;have hcv:(convert 46 9 (.slice A _ c)).run prog _=.ok U _:=(jA underlying46 underlying5 underlying9 (Reads.bO q2)).trans (congrArg (fun t=>Result.ok (Value.string t) _) hL);replace q1:=L_ q1;clear q2 q4 qd q6 hL;refine bN ?_;refine bQ (q1.cell 0) ?_;refine G0 [0,0,4,22] ?_;exact ak ⟨rfl,q5⟩
 ·refine aC (wp_block (bN ?_));refine G0 [0,0,4,8,5,0,0,4,8,5,0,0,4,8,5,0,0,4,8,6,5,0,0,4,8,23,0,0,4,7,23,0,0] ?_;refine bQ (ST.1.box.cell 6) ?_;refine fV ?_;refine bQ (ST.1.box.cell 9) ?_;refine fV ?_;refine bQ (ST.1.box.cell 11) ?_;refine AQ ?_;intro gx wx hb hx;replace ST:=L_ (ST.below hb);refine zO ?_;refine ah (vF _ _ _ D _ gx _ [D.i,D.tp,D.n] 3 _ ST hx rfl rfl (AV (xs:=[D.i,D.tp,D.n]) (by simp only[Zu,ZF,or_false,forall_eq_or_imp,forall_eq];exact⟨okf .i (by simp[Cp.aK]),okf .tp (by simp[Cp.aK]),okf .n (by simp[Cp.aK])⟩)) (by decide) (by decide)) ?_;rintro _ w15 ⟨rfl,hs⟩;replace ST:=L_ hs;clear hs hx hb;refine G0 [26,20] ?_;have EB:S (Cp.aV D.cmd)=U:=HU;rw[Cp.Q7 (c:=D.cmd) HK.out] at EB;obtain⟨L,hL,v,q1,q2,q4,qd,q5,q6⟩:=ST.fin EB;clear ST EB;obtain⟨A,c,rfl,-,-,-⟩:=bH q2;have hcv:(convert 46 9 (.slice A _ c)).run prog _=.ok U _:=(jA underlying46 underlying5 underlying9 (Reads.bO q2)).trans (congrArg (fun t=>Result.ok (Value.string t) _) hL);replace q1:=L_ q1;clear q2 q4 qd q6 hL;refine bN ?_;refine bQ (q1.cell 0) ?_;refine G0 [0,0,4,22] ?_;exact ak ⟨rfl,q5⟩
theorem Hy (D:HC)(w:World)(hD:bK w w D)(b:Bool)(hb:Cp.dU D.cmd=b)(U:ByteArray)(hU:(if b=true then S (Cp.aV D.cmd) else⟨#[]⟩)=U) :
  Calls prog 27 #[.agg #[.int .u8 D.k,D.mi,.slice D.GA D.Gn D.Gc,D.mt,D.key,D.body,D.i,D.tm,.slice D.MA D.Mn D.Mc,D.tp,D.who,D.n]] w fun e w'=>e=.returned (.tuple #[U,(LV b)])∧Below w w w':=by
 have HD:=L_ hD;have HB:=L_ hb;have HU:=L_ hU;clear hD hb hU;have E:=Env.start w
 go_enter func27,ntmps27
 refine G E [5,71,3,0,0,4,6,5,9] ?_;clear E;intro g1 w2 E;refine aB 0 12 E ?_;refine ah (r9 D _ ((HD.below E.aD).more E.aD.size) b HB) ?_;rintro _ w3 ⟨rfl,hb⟩;replace E:=E.up hb;clear hb;refine G0 [26] ?_;cases b
 case false=>
  refine G0 [0,4,5,0,0,4,7,5,84,4,22,24] ?_;exact WG ⟨by rw[←HU.out],E.aD⟩
 case true=>
  refine G0 [0,4,5,0,0,4,8,15,5] ?_;refine aB 0 12 E ?_;refine ah (Li D _ ((HD.below E.aD).more E.aD.size) HB U HU) ?_;rintro _ w4 ⟨rfl,hb⟩;replace E:=E.up hb;clear hb;refine G0 [26,0,0,4,22] ?_;exact WG ⟨rfl,E.aD⟩
end
theorem Qf:(prog.info? 9).map (fun i=>(i.zero,i.size,i.bytes))=some (some (.string ⟨#[]⟩),1,16):=by kernel_rfl
theorem Vk {rest:List Oper}(hgd:o.guard=none)(s x:Operand)
  (ho:o.op=.call { callee:=.builtin .append,args:=#[s,x],argTypes:=#[54,54] })
  (base:Nat) (v:Value) (n:Nat) (l:List ByteArray) (hs:a.eval s=v) (hown:w.ownsRow base 9 1 v n (ct l)) (b:ByteArray) (hx:a.eval x=.slice (some ⟨w,0,none⟩) 1 1)
  (hn:n≤1000000000000) (hbase:base≤w.heap.size)
  (h:∀v' w',w'.ownsRow base 9 1 v' (n+1) (ct (l++[b]))→dX w w' v v'→wpList prog ops Q rest (a.put o.dst v') w') :
  wpList prog ops Q (o::rest) a (w.alloc (.cells #[b] 9)):=by
 obtain⟨i0,hi0,hz0,hz1,hz2⟩:=info_parts Qf;have hr:=Reads.new w 9 #[b];refine bB _ hgd s x 54 ho base 9 i0 _ 1 16 underlying54 hi0 hz0 hz1 hz2 rfl (by decide) v n (ct l) hs (hown.alloc _) _ _ 1 1 [b] hx hr (by simp;rfl) (by simp only[maxLen];omega) (by omega) (by simp;omega) ?_;intro v' w' h1 h2 h3;refine h v' w' (by rw[L6];exact h1) ⟨jE h2,?_⟩
 rcases h3 with h3|h3
 ·exact Or.inl h3
 ·exact Or.inr ⟨_,h3,by simp⟩
variable{bx:List Bx}{k:Nat}
theorem TU (l:List ByteArray):l.flatMap aj.cs=l.map Value.string:=by
 induction l with
 |nil=>rfl
 |cons a r ih=>rw[ZQ,ih];rfl
theorem qx {z:Array Value}(h:∀u∈z,u.oneCell'=true):∀u∈(Builtin.zeroCells z k).toList,u.oneCell'=true:=by
 intro u hu;simp only[Builtin.zeroCells,Array.toList_map,ZA,Array.mem_toList_iff,Array.mem_range] at hu;obtain⟨i,hi,rfl⟩:=hu
 have hz:0<z.size:=by
  rcases aao z.size with h0|h0
  ·rw[h0] at hi;simp at hi
  ·exact h0
 have hm:=Nat.mod_lt i hz;rw[getElem!_pos z (i % z.size) hm];exact h _ (Array.getElem_mem hm)
theorem Qq {is:List It}(s:Sl ByteArray)(R:ByteArray→Bool→Prop)(g0:Nat)(eg:∀args w,(callFunc g0 args).run prog w=.ok (.enter g0 args) w)(C:Array Value)(N:Nat)(w:World)(E:Env b w0 bx (own s N::is) w)(hN:N≤1000000)
  (hf:∀x∈s.l,∀w',Env b w0 bx is w'→Calls prog g0 (#[.string x]++C) w' fun e w''=>∃q,e=.returned (.bool q)∧R x q∧Below w' w' w'') :
  Calls prog 331 #[s,.func (.func g0) #[] C] w fun e w'=>∃s':Sl ByteArray,e=.returned s'∧Hid ((∀x∈s'.l,x∈s.l∧R x false)∧s'.l.length≤s.l.length)∧Env b w0 bx (own s' N::is) w':=by
 have hO:=show Sl.Own w b N s from E.get 0;have hlN:s.l.length≤N:=hO.2.1;have hl:s.l.length≤1000000:=Zt hlN hN;have HI:=L_ (j6 s R g0 eg C w N hO.lie (by omega) (fun x hx w' hb=>hf x hx w' ((E.up hb).sub (Zi _) (List.sublist_cons_self _ _))));have HF:=L_ hf;have EG:=L_ eg;clear hf hO eg
 go_enter func331,ntmps331
 refine G0 [5,0,4,5,0,0] ?_;refine ah HI ?_;rintro _ w1 ⟨y,rfl,hy,hb⟩;replace E:=E.up hb;clear hb HI;refine G0 [26,0,4,6,5,0] ?_
 rcases hy with ⟨rfl,hall⟩|⟨k,x0,rfl,hk,hr0,hpre⟩
 ·replace hall:=L_ hall;refine G0 [0,4,7,5,0,0,4,22] ?_;simp only[Exit.then];exact ak (v:=s) ⟨s,rfl,L_ ⟨fun x hx=>⟨hx,hall x hx⟩,Zh _⟩,E⟩
 have hkl:k<s.l.length:=(Zo.1 hk).1;have hk1:((k:Int)==-1)=false:=ZX.2 (by omega);have HP:=L_ hpre;have hcap:=(show Sl.Own w1 b N s from E.get 0).1.caps;obtain⟨g,cur,hA,-⟩:=(show Sl.Own w1 b N s from E.get 0).1.parts (by omega);obtain⟨cs,hcl,hct,E2⟩:=E.SI hA (by omega);have HCT:Hid (cs.take s.l.length=s.l.map .string):=L_ (by rw[←TU];simpa[aj.sz,Sl.row] using hct);have HCL:Hid (cs.length=s.c):=L_ (by simpa[aj.sz] using hcl);clear E hk hr0 hpre hct hcl;refine G0 [0,4,8,15,6,5] ?_;have hw1:IntKind.i64.wrap ((k:Int)+1)=((k+1:Nat):Int):=by rw[aaP _ (by omega)];rfl
 refine G0 [84,4,19] ?_
 go_loopw [5,6] (fun p q wr=>∃(i j:Nat) (M:List ByteArray) (cs':List Value),p=(i:Int)∧q=(j:Int)∧i<j∧j≤s.l.length∧M.length=i∧Hid (∀x∈M,x∈s.l∧R x false)∧Hid (cs'.length=s.c)∧Hid (cs'.take i=M.map .string)∧Hid (cs'.drop j=cs.drop j)∧Env b w0 ((g,9,cs')::bx) is wr) (fun _ q _=>s.l.length - (intOf q).toNat)
 case atStart=>exact⟨k,k+1,s.l.take k,cs,rfl,rfl,by omega,by omega,by rw[Zw];omega,L_ (fun x hx=>by
  obtain⟨j,hj,e⟩:=aaC hx;have hj2:=hj;rw[Zw] at hj2;rw[List.getElem_take] at e;exact⟨aaE hx,HP j x (by omega) (by rw[Zl (by omega),e])⟩),HCL,L_ (by
  have h:=congrArg (List.take k) HCT;rw[List.take_take,aaf (by omega),←List.map_take] at h;exact h),L_ rfl,E2⟩
 case round=>
  clear E2;obtain⟨i,j,M,cs',rfl,rfl,hij,hj,hM,hMR,hcl,htk,hdr,E⟩:=hrel;replace hM:=L_ hM;refine G0 [6,5,84] ?_
  by_cases hlt:j<s.l.length
  ·obtain⟨x,hx⟩:∃x,s.l[j]?=some x:=⟨_,Zl hlt⟩
   have d0:wr.cell? ⟨g,j,none⟩=some (.string x):=by
    rw[E.cell 0 rfl];have h1:=congrArg (fun l=>l[0]?) hdr;rw[aaj,aaj,Nat.add_zero] at h1;rw[h1];have h2:=congrArg (fun l=>l[j]?) HCT;rw[aav,aaS hlt,ZU,hx] at h2;exact h2
   have HX:=L_ (Zk hx);clear hx;have hj1:IntKind.i64.wrap ((j:Int)+1)=((j+1:Nat):Int):=by rw[aaP _ (by omega)];rfl
   have hi1:IntKind.i64.wrap ((i:Int)+1)=((i+1:Nat):Int):=by rw[aaP _ (by omega)];rfl
   have hdn:Hid (cs'.drop (j+1)=cs.drop (j+1)):=L_ (by
    have h:=congrArg (List.drop 1) hdr;rw[List.drop_drop,List.drop_drop] at h;exact h)
   refine G0 [0,4,7,15,18,5,84] ?_;refine bQ d0 ?_;refine G0 [0,4,5,0,0] ?_;have eg:=EG.out;refine ah (HF x HX wr (E.drop 1)) ?_;clear eg;rintro _ w2 ⟨q,rfl,hq,hb⟩;replace hq:=L_ hq;replace E:=E.up hb;clear hb d0;refine G0 [26] ?_;cases q with
   |true=>
    refine G0 [0,4,8,21,23,84,25] ?_
    go_roundw
    case rel=>exact⟨i,j+1,M,cs',rfl,rfl,by omega,by omega,hM,hMR,hcl,htk,hdn,E⟩
    case measure=>simp[intOf];omega
   |false=>
    have hil:i<s.l.length:=by omega
    refine G0 [0,4,7,5,84,0] ?_;refine lQ 0 (hl:=Nat.ble_eq_true_of_le (by have h:=hcl.out;simp only[ZI,aai];omega)) E ?_;clear E;intro w3 E;refine G0 [4,23,84,20,23,84,25] ?_
    go_roundw
    case rel=>exact⟨i+1,j+1,M++[x],cs'.set i (.string x),rfl,rfl,by omega,by omega,by rw[Zn,hM.out];rfl,L_ (fun z hz=>by
     rcases Zm.1 hz with hz|hz
     ·exact hMR z hz
     ·rw[Zp.1 hz];exact⟨HX,hq⟩),L_ (by rw[Z7];exact hcl),L_ (by
     have h:=hcl.out;rw[List.take_set,ZP,Zl (by omega),htk.out,aag,aaz,List.set_append_right _ _ (by rw[Z5,hM.out];exact Zh _),Z5,hM.out,Nat.sub_self];rfl),L_ (by rw[List.drop_set,aaS (by omega)];exact hdn),E⟩
    case measure=>simp[intOf];omega
  ·obtain rfl:j=s.l.length:=by omega
   refine G0 [0,4,8,27,28] ?_;have hct:∀W,(Instr.slice 54 (.slice (some ⟨g,0,none⟩) s.l.length s.c) none (some ((i:Int))) none).run prog W=.ok (.slice (some ⟨g,0,none⟩) i s.c) W:=fun W=>uO ByteArray 54 rfl (some ⟨g,0,none⟩) s.l.length s.c i (by omega) W
   have hcf:∀W,(Instr.slice 54 (.slice (some ⟨g,0,none⟩) s.l.length s.c) (some ((i:Int))) none none).run prog W=.ok (.slice (some ⟨g,i,none⟩) (s.l.length - i) (s.c - i)) W:=fun W=>by
    have h:=mF ByteArray 54 rfl g s.l.length s.c i (by omega) (by omega) W;rwa[show i*aj.sz ByteArray=i from ZB i] at h
   obtain⟨zs,hzs⟩:∃zs,(Builtin.zeroCells (aj.zero ByteArray).cells (s.l.length - i)).toList=zs:=⟨_,rfl⟩;have hzl:zs.length=s.l.length - i:=by rw[←hzs,ZO,size_zeroCells,aj.zc];exact ZB _
   have hzo:∀u∈zs,u.oneCell'=true:=by
    rw[←hzs]
    exact qx (fun u hu=>by
     have e:(aj.zero ByteArray).cells=#[.string ⟨#[]⟩]:=by kernel_rfl
     rw[e] at hu;simp only[List.mem_toArray,Zu,ZF,or_false] at hu;rw[hu];rfl)
   have hcc:∀ty,(Builtin.clear_ #[54] ty #[.slice (some ⟨g,i,none⟩) (s.l.length - i) (s.c - i)]).run prog wr=.ok (.tuple #[]) (wr.setCells g i zs):=fun ty=>
    nS _ 54 9 ty (aj.zero ByteArray) (aj.und (α:=ByteArray)) (tN ByteArray) g i (s.l.length - i) (s.c - i) zs hzs hzo (by omega) (fun q hq=>by
     have h:=hcl.out;rw[E.cell 0 rfl,Zl (by omega)];rfl) (fun q hq=>E.f 0 _)
   refine G0 [5,84] ?_;refine jU _ rfl (.tmp 38) 54 rfl (.slice (some ⟨g,i,none⟩) (s.l.length - i) (s.c - i)) rfl (hcc _) ?_;replace E:=Env.Ez 0 zs E rfl i
   have hsp:Env.splice cs' i zs=cs'.take i++Env.splice (cs'.drop i) 0 zs:=by
    have h:=hcl.out;have h2:=nN zs (cs'.take i) (cs'.drop i) 0;rw[aaB,Zw,aaf (by omega)] at h2;exact h2
   have HS:=L_ hsp;clear hcf hcc hsp hzo hzs;refine G0 [4,5,84,0,4,22] ?_;refine ak (v:=.slice (some ⟨g,0,none⟩) i s.c) ?_;refine⟨⟨some ⟨g,0,none⟩,s.c,M⟩,by rw[←hM.out],L_ ⟨hMR,by rw[hM.out];omega⟩,?_⟩;refine Env.I7 (s:=⟨some ⟨g,0,none⟩,s.c,M⟩) E rfl (by dsimp only;rw[hM.out];omega) hcap.2 (by rw[iQ,hcl.out];exact(Nat.mul_one _).symm) ?_ (by dsimp only;rw[hM.out];omega);show List.take (M.length*1) _=M.flatMap aj.cs;rw[HS.out,TU,hM.out,ZB,aac (by have:=hcl.out;rw[Zw];omega),List.take_take,Nat.min_self];exact htk
def F7 (l m:List Int):Prop:=l.Pairwise (· < ·)∧∀n∈l,n∈m
theorem F7.nil (m:List Int):F7 [] m:=⟨List.Pairwise.nil,fun n hn=>by cases hn⟩
theorem F7.snoc {l m:List Int}{x:Int}(h:F7 (l.take k) m)(hx:l[k]?=some x)(hm:x∈m)(hp:∀y,0<k→l[k - 1]?=some y→y<x):F7 (l.take (k+1)) m:=by
 rw[ZP,hx];simp only[aaz];refine⟨?_,fun y hy=>?_⟩
 ·rw[List.pairwise_append];refine⟨h.1,List.pairwise_singleton _ _,fun a ha c hc=>?_⟩;rw[Zp.1 hc];obtain⟨i,hi2,rfl⟩:=aaC ha;rw[Zw] at hi2;have hkl:k<l.length:=(Zo.1 hx).1;have h1:=hp l[k - 1] (by omega) (Zl (by omega))
  rcases aaA i (k - 1) with h5|h5
  ·have:=List.pairwise_iff_getElem.1 h.1 i (k - 1) (by rw[Zw];omega) (by rw[Zw];omega) h5;rw[List.getElem_take,List.getElem_take] at this;rw[List.getElem_take];omega
  ·obtain rfl:i=k - 1:=by omega
   rw[List.getElem_take];exact h1
 ·rcases Zm.1 hy with hy|hy
  ·exact h.2 y hy
  ·rw[Zp.1 hy];exact hm
theorem J9:∀(l:List Int) (lo:Int),l.Pairwise (· < ·)→(∀n∈l,lo≤n∧n<6)→(l.length:Int)≤max 0 (6 - lo)
 |[],lo,_,_=>by simp;omega
 |a::l,lo,h,hb=>by
  rw[List.pairwise_cons] at h;have h1:=hb a ZC;have:=J9 l (a+1) h.2 (fun n hn=>⟨by have:=h.1 n hn;omega,(hb n (Zv _ hn)).2⟩);simp only[ZI];omega
def BG (l m:List Int)(e:Ending):Prop:=∃b,e=.returned (.bool b)∧(b=true→F7 l m)
theorem BG.no (l m:List Int):BG l m (.returned false):=⟨false,rfl,fun h=>by cases h⟩
theorem BG.yes {l m:List Int}(h:F7 l m):BG l m (.returned true):=⟨true,rfl,fun _=>h⟩
theorem wm (s m:Sl Int)(w:World)(N:Nat)(hs:s.aA w w N)(hm:m.aA w w N)(hN:N≤1000000):Calls prog 284 #[s,m] w fun e w'=>BG s.l m.l e∧w=w':=by
 obtain⟨A,c,l⟩:=s;have HS:=L_ hs;have hl:l.length≤N:=hs.2.2.2.1;have HR:Hid (Reads w w 1 m.A m.l.length (ci m.l)):=L_ (by have h1:=hm.1;rw[fF] at h1;exact h1);have hml:=hm.2.2.2.1;have HB:Hid (∀b,b=false→b=true→F7 l m.l):=L_ (fun b h1 h2=>by rw[h1] at h2;cases h2);clear hs hm
 go_enter func284,ntmps284
 go_wp2
 go_loopw [9] (fun y wr=>∃(k:Nat),y=(k:Int)∧k≤l.length∧F7 (l.take k) m.l∧wr=w) (fun y _=>l.length - (intOf y).toNat)
 case atStart=>exact⟨0,rfl,Zq _,F7.nil _,rfl⟩
 case round=>
  obtain⟨k,rfl,hk,hr,hww⟩:=hrel;subst hww;have RI:=L_ hr;clear hr
  by_cases hlt:k<l.length
  ·obtain⟨bb,off,x,hA,hbl,hx,hcc,-⟩:=HS.get (k:=k) hlt;dsimp only at hA;subst hA;have d0:wr.cell? ⟨bb,off+k,none⟩=some (.int .i64 x):=by simpa[aj.sz] using hcc 0 _ rfl
   have HX:=L_ hx;clear hcc hx
   by_cases hk0:k=0
   ·have RI2:x∈m.l→F7 (l.take (k+1)) m.l:=fun hm=>RI.snoc HX hm (fun y h=>by omega);have HR2:=L_ RI2;have hk1:¬(0:Int)<k:=by omega
    clear RI2 hk0;go_wp2_with fail;refine(oU m.A m.l.length m.c wr m.l x wr HR (by omega)).mono ?_;rintro e w2 ⟨rfl,rfl⟩;cases hd:decide (x∈m.l) with
    |false=>
     clear hd;go_wp2;go_ret;exact⟨BG.no _ _,by trivial⟩
    |true=>
     have HD:=L_ (HR2 (aae hd));clear hd;go_wp2
     go_roundw
     case rel=>exact⟨k+1,by go_num,by omega,HD,by trivial⟩
     case measure=>simp[intOf];omega
   ·obtain⟨j,rfl⟩:∃j,k=j+1:=⟨k - 1,by omega⟩;clear hk0;have hk1:(0:Int)<(j:Int)+1:=by omega
    obtain⟨bb2,off2,y,hA2,-,hy,hcc2,-⟩:=HS.get (k:=j) (by dsimp only;omega);simp only[ZH,Addr.mk.injEq,and_true] at hA2;obtain⟨rfl,rfl⟩:=hA2;have p0:wr.cell? ⟨bb,off+j,none⟩=some (.int .i64 y):=by simpa[aj.sz] using hcc2 0 _ rfl
    have HY:=L_ hy;clear hcc2 hy
    by_cases hxy:x≤y
    ·go_wp2;go_ret;exact⟨BG.no _ _,by trivial⟩
    have RI2:x∈m.l→F7 (l.take (j+1+1)) m.l:=fun hm=>RI.snoc HX hm (fun z _ hz=>by
     rw[Nat.add_sub_cancel,HY.out] at hz;injection hz with hz
     omega)
    have HR2:=L_ RI2;clear RI2;go_wp2_with fail;refine(oU m.A m.l.length m.c wr m.l x wr HR (by omega)).mono ?_;rintro e w2 ⟨rfl,rfl⟩;cases hd:decide (x∈m.l) with
    |false=>
     clear hd;go_wp2;go_ret;exact⟨BG.no _ _,by trivial⟩
    |true=>
     have HD:=L_ (HR2 (aae hd));clear hd;go_wp2
     go_roundw
     case rel=>exact⟨j+1+1,by go_num,by omega,HD,by trivial⟩
     case measure=>simp[intOf];omega
  ·obtain rfl:k=l.length:=by omega
   have RI2:Hid (F7 l m.l):=L_ (by have:=RI.out;rwa[List.take_length] at this);go_wp2;go_ret;exact⟨BG.yes RI2,by trivial⟩
theorem Br (s:Sl rF)(v:ByteArray)(w:World)(N:Nat)(P:ByteArray→Prop)(hs:s.aA w w N)(hN:N≤1000000)(hv:P v)(hp:∀x∈s.l,P x.v):Calls prog 290 #[s,v] w fun e w'=>(∃v',e=.returned (.string v')∧P v')∧Below w w w':=by
 obtain⟨A,c,l⟩:=s;have HS:=L_ hs;have hl:l.length≤N:=hs.2.2.2.1;have HV:=L_ hv;have HP:=L_ hp;clear hs hv hp
 go_enter func290,ntmps290
 go_wp2
 go_loopw [1,5,10] (fun z g y wr=>∃(k:Nat) (v':ByteArray) (gr:Int),y=(k:Int)∧z=.string v'∧g=gr∧k≤l.length∧P v'∧Below w w wr) (fun _ _ y _=>l.length - (intOf y).toNat)
 case atStart=>exact⟨0,v,0,rfl,rfl,rfl,Zq _,HV,aaO _ _⟩
 case round=>
  obtain⟨k,v',gr,rfl,rfl,rfl,hk,hv,hb⟩:=hrel;have HV':=L_ hv;have BW:=L_ hb;have hbs:=hb.size;clear hv hb
  by_cases hlt:k<l.length
  ·obtain⟨bb,off,x,hA,hbl,hx,hcc,-⟩:=(HS.below BW).get (k:=k) hlt;dsimp only at hA;subst hA;have d0:wr.cell? ⟨bb,off+k*3,none⟩=some (.int .i64 x.n):=hcc 0 _ rfl;have d1:wr.cell? ⟨bb,off+k*3+1,none⟩=some (.int .i64 x.b):=hcc 1 _ rfl;have d2:wr.cell? ⟨bb,off+k*3+2,none⟩=some (.string x.v):=hcc 2 _ rfl;have HX:Hid (P x.v):=L_ (HP x (Zk hx));have KX:Hid (aF (wr.alloc (.cells x 399)) wr 399 x):=L_ (aF.new _ _ _);have B1:Hid (Below w w (wr.alloc (.cells x 399))):=L_ (BW.alloc hbs _);clear hcc hx
   by_cases hg:gr<x.b
   ·go_wp2_with fail;have HS2:Hid ((wr.alloc (.cells x 399)).drew.cell? ⟨wr,1,none⟩=some (.int .i64 x.b)∧(wr.alloc (.cells x 399)).drew.cell? ⟨wr,2,none⟩=some (.string x.v)):=⟨KX.cell 1,KX.cell 2⟩;refine eH 5 (fun w'=>w'.cell? ⟨wr,1,none⟩=some (.int .i64 x.b)∧w'.cell? ⟨wr,2,none⟩=some (.string x.v)) (by kernel_rfl) (by kernel_rfl) ?_;refine d9 0 HS2 (h:=d9 1 HS2 (h:=d9 2 HS2 (h:=d9 3 HS2 (h:=?_))));try simp only[Act.put,aaI,aaJ,aaK]
    refine d9 4 HS2 (h:=?_);try simp only[Act.put,aaI,aaJ,aaK]
    refine lH (by kernel_rfl) ?_;have B2:=L_ (B1.trans ((below_drewN (aaO _ (wr.alloc (.cells x 399))) 1).mono B1.size));clear HS2;go_wp2
    go_roundw
    case rel=>exact⟨k+1,x.v,x.b,by go_num,rfl,rfl,by omega,HX,B2⟩
    case measure=>simp[intOf];omega
   ·go_wp2
    go_roundw
    case rel=>exact⟨k+1,v',gr,by go_num,rfl,rfl,by omega,HV',B1⟩
    case measure=>simp[intOf];omega
  ·obtain rfl:k=l.length:=by omega
   go_wp2;go_ret;exact⟨⟨v',rfl,HV'⟩,BW⟩
structure yZ (P:ByteArray→Prop)(t:Try):Prop where
 wi:P t.wi
 va:P t.va
 pr:∀p∈t.pr.l,P p.v∧i64 p.b∧i64 p.n
 b:i64 t.b
theorem Uv (P:ByteArray→Prop)(m:Sl Int)(b:Int)(v:ByteArray)(w:World)(N:Nat)(hm:m.aA w w N)(hN:N≤1000000)(hb:i64 b)(hv:v.size≤1000000)(hP:P v)(hP0:P ⟨#[]⟩) :
  Calls prog 256 #[m,b,v] w fun e w'=>∃(t:Try) (x:Int),e=.returned (.tuple #[t,.int .i64 x])∧Hid (yZ P t∧(∀n∈t.mem.l,n∈m.l)∧t.pr.l=[]∧t.ac.l=[]∧0≤t.ph∧t.ph≤255)∧Env w w [] (uD t N) w':=by
 have HM:=L_ hm;have hml:=hm.2.2.2.1;have HR:Hid (Reads w w 1 m.A m.l.length (ci m.l)):=L_ (by have h1:=hm.1;rw[fF] at h1;exact h1);have ZT:Hid (yZ P ⟨0,0,Sl.nil,⟨#[]⟩,⟨#[]⟩,Sl.nil,Sl.nil⟩):=L_ ⟨hP0,hP0,(fun p hp=>by cases hp),⟨by decide,by decide⟩⟩;have HPV:=L_ hP;have HP0:=L_ hP0;have FZ:Hid (∀(x:Int) (w':World) (bx:List Bx),Env w w bx [] w'→∃(t:Try) (y:Int),Ending.returned (.tuple #[.agg #[.int .u8 0,.int .i64 0,(),.string ⟨#[]⟩,.string ⟨#[]⟩,(),()],.int .i64 x])=.returned (.tuple #[t,y])∧Hid (yZ P t∧(∀n∈t.mem.l,n∈m.l)∧t.pr.l=[]∧t.ac.l=[]∧0≤t.ph∧t.ph≤255)∧Env w w [] (uD t N) w'):=L_ fun x w' bx E=>⟨⟨0,0,Sl.nil,⟨#[]⟩,⟨#[]⟩,Sl.nil,Sl.nil⟩,x,rfl,L_ ⟨ZT,(fun n hn=>by cases hn),rfl,rfl,(by decide:(0:Int)≤0),(by decide:(0:Int)≤255)⟩,((((E.sub (Zy _) (Zi _)).gG (aaO _ _) (own (Sl.nil:Sl Int) N) Sl.eY (fun g hg=>by cases hg)).gG (aaO _ _) (own (Sl.nil:Sl rF) N) Sl.eY (fun g hg=>by cases hg)).gG (aaO _ _) (own (Sl.nil:Sl Int) N) Sl.eY (fun g hg=>by cases hg))⟩;clear hm hP hP0
 go_enter func256,ntmps256
 refine bN ?_;refine Er (Env.start w) ?_;intro g6 w1 E;refine G0 [3,0,4,6,5,0] ?_;refine ah (jf m.A m.l.length m.c w m.l w1 (HR.below E.aD) (by omega)) ?_;rintro _ w2 ⟨rfl,rfl⟩;refine G0 [26,0,4,5,0] ?_;obtain⟨qc,hqc⟩:∃qc,Qm.check m.l=qc:=⟨_,rfl⟩;rw[hqc];clear hqc
 by_cases hq:qc=0
 case neg=>
  refine G E [0,4,7,5,0,0,60,9] ?_;clear E;intro w2 E;refine G0 [0,4,22] ?_;simp only[Exit.then];exact aI 0 E (FZ qc _ _ E)
 subst hq;refine G0 [0,4,8,15,6,5,0] ?_;cases hmb:Bal.may b with
 |false=>
  have HC:=L_ (fun w=>fI (w:=w) b hb.1 hb.2 hmb);clear hmb;refine ah (HC _) ?_;rintro _ w2 ⟨rfl,rfl⟩;refine G E [26,0,4,5,0,0,4,7,5,0,0,60,9] ?_;clear E;intro w2 E;refine G0 [0,4,22] ?_;simp only[Exit.then];exact aI 0 E (FZ 50 _ _ E)
 |true=>
 have HC:=L_ (fun w=>gQ (w:=w) b hmb);clear hmb;refine ah (HC _) ?_;rintro _ w2 ⟨rfl,rfl⟩;refine G0 [26,0,4,5,0,0,4,8,15,6,5,0,0] ?_
 by_cases hs:(1024:Int)<(v.size:Int)
 ·refine fV ?_;refine G E [4,7,5,0,60,0,4,22,9] ?_;clear E;intro w2 E;simp only[Exit.then];exact aI 0 E (FZ 3 _ _ E)
 replace hs:(v.size:Int)≤1024:=by omega
 refine G0 [0,4,8,15,5,0,0] ?_;refine ah (qg bY E HM) ?_;clear E;rintro _ w3 ⟨r,rfl,h,E⟩;refine G E [26,0,0,60,0,4,22,9] ?_;clear E;intro w4 E;exact aI 0 E ⟨⟨1,b,r,v,⟨#[]⟩,Sl.nil,Sl.nil⟩,0,rfl,L_ ⟨⟨HPV,HP0,(fun p hp=>by cases hp),hb⟩,fun n hn=>h.out▸hn,rfl,rfl,(by decide:(0:Int)≤1),(by decide:(1:Int)≤255)⟩,(((E.sub (Zy _) (Zi _)).gG (aaO _ _) (own (Sl.nil:Sl rF) N) Sl.eY (fun g hg=>by cases hg)).gG (aaO _ _) (own (Sl.nil:Sl Int) N) Sl.eY (fun g hg=>by cases hg))⟩
section
attribute [local irreducible] wpList av
theorem Av (t u:Try)(w:World)(N:Nat)(ht:au.aA w w N t)(hu:au.aA w w N u)(hN:N≤1000000):Calls prog 281 #[t,u] w fun e w'=>jR e∧Below w w w':=by
 have HT:=L_ ht;have HU:=L_ hu;clear ht hu;have E:=Env.start w
 go_enter func281,ntmps281
 refine G E [5,71,3,71,3,0,4,5,0,41,0,40,9] ?_;clear E;intro g2 g3 w3 E
 by_cases h1:(t.ph==u.ph)=false
 case pos=>
  refine G0 [0,0,1,82,82,2,4,22] ?_;exact ak ⟨jR.mk _,E.aD⟩
 replace h1:(t.ph==u.ph)=true:=by simpa using h1
 refine G E [84,41,0,40] ?_
 by_cases h2:(t.b==u.b)=false
 case pos=>
  refine G0 [84,1,82,81,2,2,2,2,4,22] ?_;exact ak ⟨jR.mk _,E.aD⟩
 replace h2:(t.b==u.b)=true:=by simpa using h2
 refine G E [84,0,41,0,40] ?_;refine ah (eZ t.mem u.mem _ N (E.l HT.1) (E.l HU.1) (by omega)) ?_;rintro _ w4 ⟨b,rfl,hw⟩;replace E:=E.up hw;refine G0 [26] ?_;cases b
 case false=>
  refine G0 [0,0,1,82,80,2,2,4,22] ?_;exact ak ⟨jR.mk _,E.aD⟩
 refine G E [84,41,0,40] ?_
 by_cases h4:(t.wi.toList==u.wi.toList)=false
 case pos=>
  refine G0 [84,1,82,4,22] ?_;exact ak ⟨jR.mk _,E.aD⟩
 replace h4:(t.wi.toList==u.wi.toList)=true:=by simpa using h4
 refine G E [84,0,41,0,40] ?_
 by_cases h5:(t.va.toList==u.va.toList)=false
 case pos=>
  refine G0 [84,1,81,2,2,2,4,22] ?_;exact ak ⟨jR.mk _,E.aD⟩
 replace h5:(t.va.toList==u.va.toList)=true:=by simpa using h5
 refine G E [84,0,41,0,40] ?_;refine ah (Dt t.pr u.pr _ N (E.l HT.2.1) (E.l HU.2.1) (by omega)) ?_;rintro _ w5 ⟨b,rfl,hw⟩;replace E:=E.up hw;refine G0 [26] ?_;cases b
 case false=>
  refine G0 [0,0,1,80,2,4,22] ?_;exact ak ⟨jR.mk _,E.aD⟩
 refine G E [84,41,0,40] ?_;refine ah (eZ t.ac u.ac _ N (E.l HT.2.2) (E.l HU.2.2) (by omega)) ?_;rintro _ w6 ⟨b,rfl,hw⟩;replace E:=E.up hw;refine G0 [26,0,0,4,22] ?_;exact ak ⟨jR.mk _,E.aD⟩
end
variable{g:Nat}
section
attribute [local irreducible] wpList av
def SL (t:Try):Prop:=Qm.check t.mem.l=0∧F7 (t.pr.l.map rF.n) t.mem.l∧F7 t.ac.l t.mem.l
structure Ef (t:Try):Prop where
 ph:0≤t.ph∧t.ph≤255
 b:i64 t.b
 pr:∀p∈t.pr.l,i64 p.b∧p.v.size≤1000000
 wi:t.wi.size≤1000000
def Yn (t:Try)(e:Ending):Prop:=∃v,e=.returned (.int .i64 v)∧(v=0→t.ph≠0→SL t∧t.ph≤3)
theorem xK:∀args w,(callFunc 287 args).run prog w=.ok (.enter 287 args) w:=enters_of func287 (by kernel_rfl) rfl
theorem Om {is:List It}(E:Env b w0 bx is w)(k:Nat){t:Try}(hk:bx[k]?=some (g,58,[.int .u8 t.ph,.int .i64 t.b,.slice t.mem.A t.mem.l.length t.mem.c,.string t.wi,.string t.va,.slice t.pr.A t.pr.l.length t.pr.c,.slice t.ac.A t.ac.l.length t.ac.c]))(x:rF)(hx:i64 x.b)(hv:x.v.size≤1000000):Calls prog 287 #[.agg #[.int .i64 x.n,.int .i64 x.b,.string x.v],g] w fun e w'=>∃b,e=.returned (.bool b)∧True∧Below w.heap.size w w':=by
 have d0:=E.c k 1 hk rfl;have hg:=(E.blk k hk).lt;clear E;have E:=Env.start w
 go_enter func287,ntmps287
 refine G E [5,71,3,0,4,5,9] ?_;clear E;intro g2 w2 E;refine aB 0 3 E ?_;replace d0:=(E.aD.cell hg).trans d0;refine fV ?_;refine bQ d0 ?_;clear d0;refine ah (FI x t.b _ hx hv) ?_;rintro _ w3 ⟨⟨q,rfl⟩,hw⟩;replace E:=E.up hw;refine G0 [26,0,0,4,22] ?_;exact ak ⟨_,rfl,trivial,E.aD⟩
theorem OH (w:World)(B N:Nat):au.aA w B N iZ:=⟨Sl.dh,Sl.dh,Sl.dh⟩
theorem rQ (t:Try)(w:World)(N:Nat)(ht:au.aA w w N t)(hN:N≤1000000)(hwf:Ef t):Calls prog 240 #[t] w fun e w'=>Yn t e∧Below w w w':=by
 have HT:=L_ ht;have HW:=L_ hwf;have hsz:t.wi.size≤1000000:=hwf.wi;clear ht hwf;have E:=Env.start w
 go_enter func240,ntmps240
 by_cases h0:(t.ph==0)=true
 case pos=>
  refine G E [5,71,3,0,4,5,0,4,6,5,0,40,4,19,18,18,18,18,6,6,5,0,0,4,7,27,28,5,9] ?_;clear E;intro g1 w2 E;refine aB 0 7 E ?_;refine fV ?_;refine ah (Av t iZ _ N (E.h HT) (OH _ _ _) hN) (hr:=by go_simp<;>simp[iZ]) ?_;rintro _ w3 ⟨⟨q,rfl⟩,hw⟩;replace E:=E.up hw;refine G0 [26] ?_;have H0:Hid (t.ph=0):=L_ (by simpa using h0);clear h0;cases q
  case false=>
   refine G0 [0,4,27] ?_;simp only[Exit.then,Exit.inBlock,Nat.reduceEqDiff,reduceCtorEq,if_true,if_false];refine G0 [6,5,0,0,4,7,5,0,4,22,24] ?_;exact ak ⟨⟨8,rfl,fun h=>absurd h (by decide)⟩,E.aD⟩
  refine G0 [0,4,27] ?_;simp only[Exit.then,Exit.inBlock,Nat.reduceEqDiff,reduceCtorEq,if_true,if_false];refine G0 [6,5,0,0,4,8,15,5,0,4,22] ?_;exact ak ⟨⟨0,rfl,fun _ h=>absurd H0 h⟩,E.aD⟩
 case' neg=>
  replace h0:(t.ph==0)=false:=by simpa using h0
  refine G E [5,71,3,0,4,5,0,4,6,5,0,40,4,19,18,18,18,18,6,6,5,0,0,4,8,9] ?_;clear E;intro g1 w4 E
  by_cases h1:(t.ph==1)=true
  case' pos=>
   refine G0 [15,6,5,0,0,4,7] ?_;have HL:Hid (t.ph≤3∧t.ph≠0):=L_ (by have:=(by simpa using h1:t.ph=1);omega);have h2:=L_ h1;have h3:=L_ h1;refine wp_exit ?_;simp only[Exit.then,Exit.inBlock,Nat.reduceEqDiff,reduceCtorEq,if_true,if_false];refine G E [23,0,40] ?_
   by_cases hv:(t.va.toList==[])=false
   case pos=>
    refine G0 [0,0,1,80,20,6,5,82] ?_;refine aC (dw 14 E ?_);clear E;intro w5 E;refine ay 0 E ?_;refine ay 1 E ?_;refine wL 2 E ?_;refine kC 6 E ?_;refine ay 8 E ?_;refine ay 9 E ?_;refine wL 10 E ?_;refine G0 [30,1,0,0,4,5,80,2,2,2,2] ?_;refine aC (dw 22 E ?_);clear E;intro w6 E;refine ay 0 E ?_;refine ay 1 E ?_;refine jF 2 E ?_;refine kC 10 E ?_;refine ay 12 E ?_;refine ay 13 E ?_;refine jF 14 E ?_;refine G0 [30,1,0,0] ?_;refine aC (fO 0 13 E ?_);clear E;intro w7 E;refine ay 0 E ?_;refine ay 1 E ?_;refine jF 2 E ?_;refine kC 10 E ?_;refine kL 12 E ?_;refine G0 [30,1,1,0,0,4,27] ?_;simp only[Exit.then,Exit.inBlock,Nat.reduceEqDiff,reduceCtorEq,if_true,if_false];refine G0 [6,5,0,0,4,7,5,0,4,22,24] ?_;exact ak ⟨⟨8,rfl,fun h=>absurd h (by decide)⟩,E.aD⟩
   replace hv:(t.va.toList==[])=true:=by simpa using hv
   refine G E [84,40,0] ?_
   by_cases hl:(((t.ac.l.length:Int)==0))=false
   case pos=>
    refine G0 [84,20,6,5,0,0,1,81,80,2,2] ?_;refine aC (dw 14 E ?_);clear E;intro w8 E;refine ay 0 E ?_;refine ay 1 E ?_;refine wL 2 E ?_;refine kC 6 E ?_;refine ay 8 E ?_;refine ay 9 E ?_;refine wL 10 E ?_;refine G0 [30,1,0,0,4,5,80,2,2,2,2] ?_;refine aC (dw 22 E ?_);clear E;intro w9 E;refine ay 0 E ?_;refine ay 1 E ?_;refine jF 2 E ?_;refine kC 10 E ?_;refine ay 12 E ?_;refine ay 13 E ?_;refine jF 14 E ?_;refine G0 [30,1,0,0] ?_;refine aC (fO 0 13 E ?_);clear E;intro w10 E;refine ay 0 E ?_;refine ay 1 E ?_;refine jF 2 E ?_;refine kC 10 E ?_;refine kL 12 E ?_;refine G0 [30,1,1,0,0,4,27] ?_;simp only[Exit.then,Exit.inBlock,Nat.reduceEqDiff,reduceCtorEq,if_true,if_false];refine G0 [6,5,0,0,4,7,5,0,4,22,24] ?_;exact ak ⟨⟨8,rfl,fun h=>absurd h (by decide)⟩,E.aD⟩
   replace hl:(((t.ac.l.length:Int)==0))=true:=by simpa using hl
   refine G0 [84,20,6,5] ?_
  case' neg=>
   replace h1:(t.ph==1)=false:=by simpa using h1
   refine G0 [15,6,5,0,0,4,8] ?_
   by_cases h2:(t.ph==2)=true
   case' pos=>
    refine G0 [15,6,5,0,0,4,7] ?_;have HL:Hid (t.ph≤3∧t.ph≠0):=L_ (by have:=(by simpa using h2:t.ph=2);omega);refine G0 [15,7,27] ?_;simp only[Exit.then,Exit.inBlock,Nat.reduceEqDiff,reduceCtorEq,if_true,if_false];refine G0 [6,5] ?_
   case' neg=>
    replace h2:(t.ph==2)=false:=by simpa using h2
    refine G0 [15,6,5,0,0,4,8,23] ?_
    by_cases h3:(t.ph==3)=false
    case pos=>
     refine G0 [0,0,4,8,15,27] ?_;simp only[Exit.then,Exit.inBlock,Nat.reduceEqDiff,reduceCtorEq,if_true,if_false];refine G0 [5,0,4,27,28,6,5,0,0,4,7,5,0,4,22,24] ?_;exact ak ⟨⟨8,rfl,fun h=>absurd h (by decide)⟩,E.aD⟩
    replace h3:(t.ph==3)=true:=by simpa using h3
    refine G0 [0,0,4,7] ?_;have HL:Hid (t.ph≤3∧t.ph≠0):=L_ (by have:=(by simpa using h3:t.ph=3);omega);refine wp_exit ?_;simp only[Exit.then,Exit.inBlock,Nat.reduceEqDiff,reduceCtorEq,if_true,if_false];refine G0 [6,5] ?_
 all_goals
  (try clear h3);(try clear h2);(try clear h1);(try clear h0);(try clear hv);(try clear hl)
  obtain⟨p1,hp1⟩:∃p,decide (1<t.ph)=p:=⟨_,rfl⟩;obtain⟨p3,hp3⟩:∃p,(t.ph==3)=p:=⟨_,rfl⟩;obtain⟨p0,hp0⟩:∃p,(t.ph==1)=p:=⟨_,rfl⟩;refine G0 [84] ?_;cases hmb:Bal.may t.b
  case false=>
   have hmb2:=L_ hmb;clear hmb;refine mU 0 E ?_;refine ah (fI _ t.b HW.b.1 HW.b.2 hmb2) ?_;rintro _ w11 ⟨rfl,rfl⟩;refine G0 [26,84,1,81,2] ?_;refine aC (dw 14 E ?_);clear E;intro w12 E;refine ay 0 E ?_;refine ay 1 E ?_;refine wL 2 E ?_;refine kC 6 E ?_;refine ay 8 E ?_;refine ay 9 E ?_;refine wL 10 E ?_;refine G0 [30,1,0,0,4,5,80,2,2,2,2] ?_;refine aC (dw 22 E ?_);clear E;intro w13 E;refine ay 0 E ?_;refine ay 1 E ?_;refine jF 2 E ?_;refine kC 10 E ?_;refine ay 12 E ?_;refine ay 13 E ?_;refine jF 14 E ?_;refine G0 [30,1,0,0] ?_;refine aC (fO 0 13 E ?_);clear E;intro w14 E;refine ay 0 E ?_;refine ay 1 E ?_;refine jF 2 E ?_;refine kC 10 E ?_;refine kL 12 E ?_;refine G0 [30,1,1,0,0,4,27] ?_;simp only[Exit.then,Exit.inBlock,Nat.reduceEqDiff,reduceCtorEq,if_true,if_false];refine G0 [6,5,0,0,4,7,5,0,4,22,24] ?_;exact ak ⟨⟨8,rfl,fun h=>absurd h (by decide)⟩,E.aD⟩
  case true=>
   have hmb2:=L_ hmb;clear hmb;refine mU 0 E ?_;refine ah (gQ _ t.b hmb2) ?_;rintro _ w15 ⟨rfl,rfl⟩;refine G E [26,84,0,40] ?_;refine ah (QG t.mem _ N (E.h HT).1 hN) ?_;rintro _ w16 ⟨rfl,rfl⟩;refine G0 [26] ?_
   by_cases hq:(Qm.check t.mem.l==0)=false
   case pos=>
    refine G0 [84,1,80] ?_;refine aC (dw 14 E ?_);clear E;intro w17 E;refine ay 0 E ?_;refine ay 1 E ?_;refine wL 2 E ?_;refine kC 6 E ?_;refine ay 8 E ?_;refine ay 9 E ?_;refine wL 10 E ?_;refine G0 [30,1,0,0,4,5,80,2,2,2,2] ?_;refine aC (dw 22 E ?_);clear E;intro w18 E;refine ay 0 E ?_;refine ay 1 E ?_;refine jF 2 E ?_;refine kC 10 E ?_;refine ay 12 E ?_;refine ay 13 E ?_;refine jF 14 E ?_;refine G0 [30,1,0,0] ?_;refine aC (fO 0 13 E ?_);clear E;intro w19 E;refine ay 0 E ?_;refine ay 1 E ?_;refine jF 2 E ?_;refine kC 10 E ?_;refine kL 12 E ?_;refine G0 [30,1,1,0,0,4,27] ?_;simp only[Exit.then,Exit.inBlock,Nat.reduceEqDiff,reduceCtorEq,if_true,if_false];refine G0 [6,5,0,0,4,7,5,0,4,22,24] ?_;exact ak ⟨⟨8,rfl,fun h=>absurd h (by decide)⟩,E.aD⟩
   replace hq:(Qm.check t.mem.l==0)=true:=by simpa using hq
   refine G E [84,0,40,0] ?_
   by_cases hl:(decide ((t.wi.size:Int)≤1024))=false
   case pos=>
    refine G0 [84] ?_;refine aC (dw 14 E ?_);clear E;intro w20 E;refine ay 0 E ?_;refine ay 1 E ?_;refine wL 2 E ?_;refine kC 6 E ?_;refine ay 8 E ?_;refine ay 9 E ?_;refine wL 10 E ?_;refine G0 [30,1,0,0,4,5,80,2,2,2,2] ?_;refine aC (dw 22 E ?_);clear E;intro w21 E;refine ay 0 E ?_;refine ay 1 E ?_;refine jF 2 E ?_;refine kC 10 E ?_;refine ay 12 E ?_;refine ay 13 E ?_;refine jF 14 E ?_;refine G0 [30,1,0,0] ?_;refine aC (fO 0 13 E ?_);clear E;intro w22 E;refine ay 0 E ?_;refine ay 1 E ?_;refine jF 2 E ?_;refine kC 10 E ?_;refine kL 12 E ?_;refine G0 [30,1,1,0,0,4,27] ?_;simp only[Exit.then,Exit.inBlock,Nat.reduceEqDiff,reduceCtorEq,if_true,if_false];refine G0 [6,5,0,0,4,7,5,0,4,22,24] ?_;exact ak ⟨⟨8,rfl,fun h=>absurd h (by decide)⟩,E.aD⟩
   replace hl:(decide ((t.wi.size:Int)≤1024))=true:=by simpa using hl
   have HQ:Hid (Qm.check t.mem.l=0):=L_ (by simpa using hq);refine G0 [84] ?_;refine aC (dw 14 E ?_);clear E;intro w23 E;clear hq hl;refine ay 0 E ?_;refine ay 1 E ?_;refine ay 2 E ?_;refine aX 3 0 E ?_;refine ay 5 E ?_;refine aX 6 0 E ?_;refine cu 4 (su t.pr _ N (E.h HT).2.1 hN) ?_;rintro _ w24 ⟨r,rfl,hr,hR,hw⟩;replace E:=E.sH (N:=N) (x:=r) hw ⟨hR,by rw[hr,Z5];exact HT.2.1.2.2.2.1,fun _ _=>trivial⟩;replace hr:=L_ hr;clear hR hw;refine⟨_,rfl,E.weak,dL ?_⟩;refine cu 7 (wm r t.mem _ N (E.ol 0) (E.h HT).1 hN) ?_;rintro _ w25 ⟨⟨b1,rfl,hb1⟩,rfl⟩;replace hb1:=L_ hb1;refine⟨_,rfl,E.weak,dL ?_⟩;cases b1
   case false=>
    refine ay 8 E ?_;refine ay 9 E ?_;refine wL 10 E ?_;refine G0 [30,1,0,0,4,5,80,2,2,2,2] ?_;refine aC (dw 22 E ?_);clear E;intro w26 E;refine ay 0 E ?_;refine ay 1 E ?_;refine jF 2 E ?_;refine kC 10 E ?_;refine ay 12 E ?_;refine ay 13 E ?_;refine jF 14 E ?_;refine G0 [30,1,0,0] ?_;refine aC (fO 0 13 E ?_);clear E;intro w27 E;refine ay 0 E ?_;refine ay 1 E ?_;refine jF 2 E ?_;refine kC 10 E ?_;refine kL 12 E ?_;refine G0 [30,1,1,0,0,4,27] ?_;simp only[Exit.then,Exit.inBlock,Nat.reduceEqDiff,reduceCtorEq,if_true,if_false];refine G0 [6,5,0,0,4,7,5,0,4,22,24] ?_;exact ak ⟨⟨8,rfl,fun h=>absurd h (by decide)⟩,E.aD⟩
   replace hb1:=L_ (hb1 rfl);refine ay 8 E ?_;refine ay 9 E ?_;refine ay 10 E ?_;refine aX 11 0 E ?_;refine ay 12 E ?_;refine aX 13 0 E ?_;refine kg ?_;refine ah (wm t.ac t.mem _ N (E.h HT).2.2 (E.h HT).1 hN) ?_;rintro _ w28 ⟨⟨b2,rfl,hb2⟩,rfl⟩;replace hb2:=L_ hb2;refine G0 [26] ?_;cases b2
   case false=>
    refine G0 [0,0,4,5,0,0,1,80,2] ?_;refine aC (dw 22 E ?_);clear E;intro w29 E;refine ay 0 E ?_;refine ay 1 E ?_;refine jF 2 E ?_;refine kC 10 E ?_;refine ay 12 E ?_;refine ay 13 E ?_;refine jF 14 E ?_;refine G0 [30,1,0,0] ?_;refine aC (fO 0 13 E ?_);clear E;intro w30 E;refine ay 0 E ?_;refine ay 1 E ?_;refine jF 2 E ?_;refine kC 10 E ?_;refine kL 12 E ?_;refine G0 [30,1,1,0,0,4,27] ?_;simp only[Exit.then,Exit.inBlock,Nat.reduceEqDiff,reduceCtorEq,if_true,if_false];refine G0 [6,5,0,0,4,7,5,0,4,22,24] ?_;exact ak ⟨⟨8,rfl,fun h=>absurd h (by decide)⟩,E.aD⟩
   replace hb2:=L_ (hb2 rfl);have HS:Hid (SL t):=L_ ⟨HQ,hr.out▸hb1.out,hb2⟩;clear HQ hb1 hb2 hr;refine G E [0,0,4,5,84,40,0] ?_;refine ah (uH t.pr (fun x b=>True) _ xK #[g1] _ N (E.h HT.out).2.1 (by omega) (fun x hx w' hb=>Om (E.up hb) 0 rfl x (HW.out.pr x hx).1 (HW.out.pr x hx).2)) ?_;rintro _ w31 ⟨b3,rfl,-,-,hw⟩;replace E:=E.up hw;clear hw;refine G0 [26] ?_;cases b3
   case true=>
    refine G0 [84] ?_;refine aC (dw 22 E ?_);clear E;intro w32 E;refine ay 0 E ?_;refine ay 1 E ?_;refine jF 2 E ?_;refine kC 10 E ?_;refine ay 12 E ?_;refine ay 13 E ?_;refine jF 14 E ?_;refine G0 [30,1,0,0] ?_;refine aC (fO 0 13 E ?_);clear E;intro w33 E;refine ay 0 E ?_;refine ay 1 E ?_;refine jF 2 E ?_;refine kC 10 E ?_;refine kL 12 E ?_;refine G0 [30,1,1,0,0,4,27] ?_;simp only[Exit.then,Exit.inBlock,Nat.reduceEqDiff,reduceCtorEq,if_true,if_false];refine G0 [6,5,0,0,4,7,5,0,4,22,24] ?_;exact ak ⟨⟨8,rfl,fun h=>absurd h (by decide)⟩,E.aD⟩
   case false=>
    refine G0 [84] ?_;refine aC (dw 22 E ?_);clear E;intro w34 E;refine ay 0 E ?_;refine ay 1 E ?_;refine ay 2 E ?_;refine aX 3 0 E ?_;refine ay 4 E ?_;refine aX 5 0 E ?_;refine ay 8 E ?_;refine aX 9 0 E ?_;refine ay 10 E ?_;refine cu 6 (su t.pr _ N (E.h HT).2.1 hN) ?_;rintro _ w35 ⟨r2,rfl,hr,hR,hw⟩;replace E:=E.sH (N:=N) (x:=r2) hw ⟨hR,by rw[hr,Z5];exact HT.2.1.2.2.2.1,fun _ _=>trivial⟩;clear hr hR hw;refine⟨_,rfl,E.weak,dL ?_⟩;refine cu 7 (qD t.mem r2 _ N (E.h HT).1 (E.ol 0) hN) ?_;rintro _ w36 ⟨⟨b4,rfl⟩,rfl⟩;refine⟨_,rfl,E.weak,dL ?_⟩
    by_cases h4:(b4==p1)=false
    case pos=>
     refine ay 11 E ?_;refine ay 12 E ?_;refine ay 13 E ?_;refine jF 14 E ?_;refine G0 [30,1,0,0] ?_;refine aC (fO 0 13 E ?_);clear E;intro w37 E;refine ay 0 E ?_;refine ay 1 E ?_;refine jF 2 E ?_;refine kC 10 E ?_;refine kL 12 E ?_;refine G0 [30,1,1,0,0,4,27] ?_;simp only[Exit.then,Exit.inBlock,Nat.reduceEqDiff,reduceCtorEq,if_true,if_false];refine G0 [6,5,0,0,4,7,5,0,4,22,24] ?_;exact ak ⟨⟨8,rfl,fun h=>absurd h (by decide)⟩,E.aD⟩
    replace h4:(b4==p1)=true:=by simpa using h4
    refine ay 11 E ?_;refine ay 12 E ?_;refine ay 13 E ?_;refine ay 14 E ?_;refine aX 15 0 E ?_;refine ay 16 E ?_;refine aX 17 0 E ?_;refine ay 19 E ?_;refine aX 20 0 E ?_;refine ay 21 E ?_;refine cu 18 (qD t.mem t.ac _ N (E.h HT).1 (E.h HT).2.2 hN) ?_;rintro _ w38 ⟨⟨b5,rfl⟩,rfl⟩;refine⟨_,rfl,E.weak,dL ?_⟩;refine kg ?_
    by_cases h5:(b5==p3)=false
    case pos=>
     refine G0 [84] ?_;refine aC (fO 0 13 E ?_);clear E;intro w39 E;refine ay 0 E ?_;refine ay 1 E ?_;refine jF 2 E ?_;refine kC 10 E ?_;refine kL 12 E ?_;refine G0 [30,1,1,0,0,4,27] ?_;simp only[Exit.then,Exit.inBlock,Nat.reduceEqDiff,reduceCtorEq,if_true,if_false];refine G0 [6,5,0,0,4,7,5,0,4,22,24] ?_;exact ak ⟨⟨8,rfl,fun h=>absurd h (by decide)⟩,E.aD⟩
    replace h5:(b5==p3)=true:=by simpa using h5
    refine G0 [84] ?_;refine aC (fO 0 13 E ?_);clear E;intro w40 E;refine ay 0 E ?_;refine ay 1 E ?_;refine ay 2 E ?_;refine aX 3 0 E ?_;cases p0
    case true=>
     refine ay 4 E ?_;refine ay 5 E ?_;refine wL 6 E ?_;refine kC 10 E ?_;refine kL 12 E ?_;refine G0 [30,1,84,4,27] ?_;simp only[Exit.then,Exit.inBlock,Nat.reduceEqDiff,reduceCtorEq,if_true,if_false];refine G0 [6,5,0,0,4,8,15,5,0,4,22] ?_;exact ak ⟨⟨0,rfl,fun _ _=>⟨HS,HL.1⟩⟩,E.aD⟩
    case false=>
     refine ay 4 E ?_;refine ay 5 E ?_;refine ay 6 E ?_;refine aX 7 0 E ?_;refine ay 8 E ?_;refine aX 9 0 E ?_;refine ay 10 E ?_;refine aX 11 0 E ?_;refine cu 12 (Br t.pr t.wi _ N (fun _=>True) (E.h HT).2.1 hN trivial (fun _ _=>trivial)) ?_;rintro _ w41 ⟨⟨v9,rfl,-⟩,hw⟩;replace E:=E.up hw;clear hw;refine⟨_,rfl,E.weak,dL ?_⟩;refine kg ?_
     by_cases h9:(t.va.toList==v9.toList)=false
     case pos=>
      refine G0 [84,0,4,27] ?_;simp only[Exit.then,Exit.inBlock,Nat.reduceEqDiff,reduceCtorEq,if_true,if_false];refine G0 [6,5,0,0,4,7,5,0,4,22,24] ?_;exact ak ⟨⟨8,rfl,fun h=>absurd h (by decide)⟩,E.aD⟩
     replace h9:(t.va.toList==v9.toList)=true:=by simpa using h9
     refine G0 [84,0,4,27] ?_;simp only[Exit.then,Exit.inBlock,Nat.reduceEqDiff,reduceCtorEq,if_true,if_false];refine G0 [6,5,0,0,4,8,15,5,0,4,22] ?_;exact ak ⟨⟨0,rfl,fun _ _=>⟨HS,HL.1⟩⟩,E.aD⟩
end
theorem zk:∀(l:List Int) (lo:Int),Qm.incr lo l=true→∀n∈l,lo<n∧n<6
 |[],_,_,n,hn=>by cases hn
 |a::l,lo,h,n,hn=>by
  rw[Qm.Ar] at h;simp only[Zr,Zx] at h
  rcases Zu.1 hn with rfl|hn
  ·exact⟨h.1.1,h.1.2⟩
  ·have:=zk l a h.2 n hn;omega
theorem o9 {l:List Int}(h:Qm.check l=0):∀n∈l,0≤n∧n<6:=by
 have h1:=(dz h).1;intro n hn
 have h2:Qm.incr (-1) l=true:=by
  unfold Qm.may at h1;simp only[Zr] at h1
  first
  |exact h1
  |exact h1.1
  |exact h1.2
 have:=zk l (-1) h2 n hn;omega
theorem Jr {l m:List Int}(h:F7 l m)(hm:Qm.check m=0):l.length≤6:=by
 have:=J9 l 0 h.1 (fun n hn=>o9 hm n (h.2 n hn));omega
section
open Go.RowKit Go.Sort Go.BigFrame
theorem yT (n g:Nat)(eg:∀args w,(callFunc g args).run prog w=.ok (.enter g args) w)(C:Array Value)(w:World)(hn:n≤1000000000)
  (hf:∀i:Nat,i<n→∀w',Below w.heap.size w w'→Calls prog g (#[.int .i64 (i:Int)]++C) w' fun e w''=>∃b,e=.returned (.bool b)∧Below w'.heap.size w' w'') :
  Calls prog 319 #[(n:Int),.func (.func g) #[] C] w fun e w'=>∃k:Nat,e=.returned ((k:Int))∧k≤n∧Below w w w':=by
 have HF:=L_ hf;clear hf
 go_enter func319,ntmps319
 go_wp2
 go_loopw [5,6] (fun p q wr=>∃i j:Nat,p=(i:Int)∧q=(j:Int)∧i≤j∧j≤n∧Below w w wr) (fun p q _=>(intOf q).toNat - (intOf p).toNat)
 case atStart=>exact⟨0,n,rfl,rfl,Zq _,Zh _,aaO _ _⟩
 case round=>
  obtain⟨i,j,rfl,rfl,hij,hj,hb⟩:=hrel;have HB:=L_ hb;clear hb
  by_cases hlt:i<j
  ·obtain⟨k,hk⟩:∃k,(i+j) / 2=k:=⟨_,rfl⟩;have hki:i≤k:=by omega
   have hkj:k<j:=by omega
   have hk2:((i:Int)+(j:Int)) / 2=(k:Int):=by omega
   have HC:=L_ (HF k (by omega) wr HB);have HK2:=L_ hk2;clear hk hk2;go_wp2_with fail;rw[HK2.out]
   go_at_fn g
   refine HC.mono ?_;rintro e w' ⟨b,rfl,hb⟩;have HB2:=L_ (HB.trans (hb.mono HB.size));clear hb;cases b with
   |true=>
    go_wp2
    go_roundw
    case rel=>exact⟨i,k,rfl,rfl,hki,by omega,HB2⟩
    case measure=>simp[intOf];omega
   |false=>
    go_wp2
    go_roundw
    case rel=>exact⟨k+1,j,by go_num,rfl,by omega,hj,HB2⟩
    case measure=>simp[intOf];omega
  ·go_wp2;go_ret;exact⟨i,rfl,by omega,HB⟩
theorem wJ (s:Sl Int)(x:Int)(g1 g2:Nat)(w:World)(B N:Nat)(h:s.aA w B N)(k1:aF w g1 33 #[s])(k2:aF w g2 3 #[x])(i:Nat)(hi:i<s.l.length)(hl:s.l.length≤1000000000) :
  Calls prog 345 #[(i:Int),g1,g2] w fun e w'=>∃b,e=.returned (.bool b)∧Below w w w':=by
 obtain⟨A,c,l⟩:=s;obtain⟨bb,off,y,hA,hbl,hy,hcc,_⟩:=h.get (k:=i) hi;simp only at hA hi hl;subst hA;have c0:w.cell? ⟨bb,off+i,none⟩=some (.int .i64 y):=by simpa[aj.sz] using hcc 0 _ rfl
 have d0:=k1.cell 0;have e0:=k2.cell 0;clear hcc hy h k1 k2
 go_enter func345,ntmps345
 go_wp2_with fail;have c0:=cell_regrown c0;have d0:=cell_regrown d0;have e0:=cell_regrown e0;refine wp_region_quiet_below (by kernel_rfl) (by kernel_rfl) ?_
 repeat (go_big_quiet_step ((fail)))
 refine wpQuiet_nil ?_;intro _ hw';obtain⟨⟨dq,osq⟩,hw''⟩:=hw';subst hw'';go_wp2;go_ret;exact⟨_,rfl,below_regrown w dq osq⟩
theorem rW:∀args w,(callFunc 345 args).run prog w=.ok (.enter 345 args) w:=enters_of func345 (by kernel_rfl) rfl
theorem yD (s:Sl Int)(x:Int)(w:World)(N:Nat)(h:s.aA w w N)(hN:N≤1000000000) :
  Calls prog 338 #[s,x] w fun e w'=>∃k:Nat,e=.returned ((k:Int))∧k≤s.l.length∧Below w w w':=by
 have hl:s.l.length≤1000000000:=Zt h.2.2.2.1 hN;have K1:Hid (aF ((w.alloc (.cells #[s] 33)).alloc (.cells #[x] 3)) w 33 #[s]):=L_ ((aF.new _ _ _).alloc _);have K2:Hid (aF ((w.alloc (.cells #[s] 33)).alloc (.cells #[x] 3)) (w.heap.size+1) 3 #[x]):=L_ (by have h:=aF.new (w.alloc (.cells #[s] 33)) 3 #[x];simpa using h);have B2:Hid (Below w w ((w.alloc (.cells #[s] 33)).alloc (.cells #[x] 3))):=L_ (((aaO _ _).alloc (Zh _) _).alloc (by simp) _);have H:=L_ h;clear h
 go_enter func338,ntmps338
 go_wp2_with fail;generalize (w.alloc (.cells #[s] 33)).alloc (.cells #[x] 3)=w0 at *;refine(yT s.l.length 345 rW #[w,.pointer (some ⟨w.heap.size+1,0,none⟩)] w0 hl (fun i hi w' hb=>wJ s x w (w.heap.size+1) w' w N (H.below (B2.trans (hb.mono B2.size))) (K1.below hb K1.lt) (K2.below hb K2.lt) i hi hl)).mono ?_;rintro e w1 ⟨k,rfl,hk,hb⟩;have B3:=L_ (B2.trans (hb.mono B2.size));clear hb;go_wp2;go_ret;exact⟨k,rfl,hk,B3⟩
end
theorem uX (p:Nat)(X:iW)(id:Int)(w:World)(N:Nat)(hK:aF w p 270 X)(h:X.wa.aA w w N)(hN:N≤1000000000) :
  Calls prog 215 #[p,id] w fun e w'=>∃k b,e=.returned (.tuple #[.int .i64 ((k:Nat):Int),.bool b])∧oO (fun x:dI=>wrap64 (x.m.i - id)) X.wa.l k b∧Below w w w':=by
 have H:=L_ (EH X.wa id w N h hN);have c1:=hK.cell 1;clear h hK
 go_enter func215,ntmps215
 go_wp2_with fail;refine H.mono ?_;rintro e w1 ⟨k,b,rfl,hb,hw⟩;have HB:=L_ hb;have HW:=L_ hw;clear hb hw H c1;go_wp2
 go_ret2
 exact⟨k,b,rfl,HB,HW⟩
theorem Kz (x:zx)(id:Int)(g:Nat)(w:World)(hK:aF w g 3 #[id]):Calls prog 276 #[x,g] w fun e w'=>∃b,e=.returned (.bool b)∧(b=decide (x.i=id))∧Below w w w':=by
 have hg:=hK.lt;have hg2:g≠w.heap.size:=by omega
 have c0:=(hK.alloc (.cells x 290)).cell 0;have B1:=L_ ((aaO w w).alloc (Zh _) (.cells x 290));clear hK
 go_enter func276,ntmps276
 go_wp2;go_ret;refine⟨x.i==id,rfl,?_,B1⟩;rw[Bool.eq_iff_iff];simp
theorem Dx:∀args w,(callFunc 276 args).run prog w=.ok (.enter 276 args) w:=enters_of func276 (by kernel_rfl) rfl
theorem K6 (p:Nat)(X:iW)(id:Int)(w:World)(N:Nat)(hK:aF w p 270 X)(h:X.dn.aA w w N)(hN:N≤1000000000) :
  Calls prog 216 #[p,id] w fun e w'=>∃b,e=.returned (.bool b)∧(b=true↔∃x∈X.dn.l,x.i=id)∧Below w w w':=by
 have K1:Hid (aF (w.alloc (.cells #[id] 3)) w 3 #[id]):=L_ (aF.new _ _ _);have B1:Hid (Below w w (w.alloc (.cells #[id] 3))):=L_ ((aaO _ w).alloc (Zh _) _);have H:=L_ (h.up B1);have c2:=(hK.alloc (.cells #[id] 3)).cell 2;have hp:=hK.lt;have hp2:p≠w.heap.size:=by omega
 clear h hK
 go_enter func216,ntmps216
 go_wp2_with fail;generalize w.alloc (.cells #[id] 3)=w0 at *;refine(vD X.dn (fun x b=>b=decide (x.i=id)) 276 Dx #[w] w0 N H hN (fun x hx w' hb=>Kz x id w w' (K1.below hb K1.lt))).mono ?_;rintro e w1 ⟨b,rfl,h0,h1,hb⟩;have B2:=L_ (B1.trans (hb.mono B1.size))
 have HQ:Hid (b=true↔∃x∈X.dn.l,x.i=id):=L_ (by
  constructor
  ·intro hb1;obtain⟨x,hx,e⟩:=h1 hb1;exact⟨x,hx,aae e.symm⟩
  ·rintro⟨x,hx,e⟩;cases b with
   |true=>rfl
   |false=>
    have:=h0 rfl x hx;simp[e] at this)
 clear h0 h1 hb c2;go_wp2;go_ret;exact⟨b,rfl,HQ,B2⟩
section
open Go.RowKit Go.Sort Go.BigFrame
def vV (l:List dI):Prop:=l.Pairwise (fun x y=>x.m.i<y.m.i)∧∀x∈l,0≤x.m.i∧x.m.i≤1099511627776
theorem vV.sub {l l':List dI}(h:vV l)(hs:l'.Sublist l):vV l':=⟨h.1.sublist hs,fun x hx=>h.2 x (hs.subset hx)⟩
theorem vV.lt {l:List dI}(h:vV l){x y:dI}(hij:i<j)(hx:l[i]?=some x)(hy:l[j]?=some y):x.m.i<y.m.i:=by
 obtain⟨hi,rfl⟩:=Zo.1 hx;obtain⟨hj,rfl⟩:=Zo.1 hy;exact List.pairwise_iff_getElem.1 h.1 i j hi hj hij
theorem qz {a b:Int}(ha:0≤a∧a≤1099511627776)(hb:0≤b∧b≤1099511627776):wrap64 (a - b)=a - b:=by unfold wrap64;omega
theorem vV.bin {l:List dI}(h:vV l){id:Int}(hid:0≤id∧id≤1099511627776){b:Bool}(hb:oO (fun x:dI=>wrap64 (x.m.i - id)) l k b) :
  k≤l.length∧(∀i x,i<k→l[i]?=some x→x.m.i<id)∧(∀i x,k≤i→l[i]?=some x→id≤x.m.i)∧(b=true↔∃x,l[k]?=some x∧x.m.i=id):=by
 obtain⟨h1,h2,h3,h4⟩:=hb;refine⟨h1,?_,?_,?_⟩
 ·intro i x hi hx;have hk:k - 1<l.length:=by omega
  have e1:=h2 l[k - 1] (by omega) (Zl hk);dsimp only at e1;rw[qz (h.2 _ (List.getElem_mem hk)) hid] at e1
  rcases aaA i (k - 1) with h5|h5
  ·have:=h.lt h5 hx (Zl hk);omega
  ·obtain rfl:i=k - 1:=by omega
   rw[Zl hk] at hx;injection hx with hx
   subst hx;omega
 ·intro i x hi hx;have hk:k<l.length:=by have:=(Zo.1 hx).1;omega
  have e1:=h3 l[k] (Zl hk);dsimp only at e1;rw[qz (h.2 _ (List.getElem_mem hk)) hid] at e1
  rcases aaA k i with h5|h5
  ·have:=h.lt h5 (Zl hk) hx;omega
  ·obtain rfl:i=k:=by omega
   rw[Zl hk] at hx;injection hx with hx
   subst hx;omega
 ·rw[h4]
  constructor
  ·rintro⟨x,hx,e⟩;dsimp only at e;rw[qz (h.2 _ (Zk hx)) hid] at e;exact⟨x,hx,by omega⟩
  ·rintro⟨x,hx,e⟩;exact⟨x,hx,by dsimp only;rw[qz (h.2 _ (List.mem_of_getElem? hx)) hid];omega⟩
theorem vV.found {l:List dI}(h:vV l){x:dI}(hx:x∈l){b:Bool}(hb:oO (fun y:dI=>wrap64 (y.m.i - x.m.i)) l k b):k<l.length:=by
 obtain⟨h1,h2,h3,h4⟩:=h.bin (h.2 x hx) hb;obtain⟨i,hi,rfl⟩:=aaC hx
 rcases aaA k l.length with h5|h5
 ·exact h5
 ·have:=h2 i _ (by omega) (Zl hi);omega
theorem vV.ins {l:List dI}(h:vV l){x:dI}(hid:0≤x.m.i∧x.m.i≤1099511627776){b:Bool}(hb:oO (fun y:dI=>wrap64 (y.m.i - x.m.i)) l k b)(hf:b=false):vV (l.take k++[x]++l.drop k):=by
 obtain⟨h1,h2,h3,h4⟩:=h.bin hid hb
 have ht:∀y∈l.take k,y.m.i<x.m.i:=by
  intro y hy;obtain⟨i,hi,rfl⟩:=aaC hy;rw[Zw] at hi;exact h2 i _ (by omega) (by rw[List.getElem_take];exact Zl _)
 have hd:∀y∈l.drop k,x.m.i<y.m.i:=by
  intro y hy;obtain⟨i,hi,rfl⟩:=aaC hy;rw[ZK] at hi;have e:=h3 (k+i) _ (by omega) (Zl (l:=l) (by omega));rw[List.getElem_drop]
  rcases Int.lt_or_eq_of_le e with e1|e1
  ·exact e1
  ·exfalso;have hk:k<l.length:=by omega
   have e2:=h3 k _ (Zh _) (Zl hk);have e3:¬∃y,l[k]?=some y∧y.m.i=x.m.i:=fun hh=>by rw[h4.2 hh] at hf;cases hf
   rcases aao i with h0|h0
   ·subst h0;exact e3 ⟨_,Zl hk,by simpa using e1.symm⟩
   ·have:=h.lt (i:=k) (j:=k+i) (by omega) (Zl hk) (Zl (by omega));omega
 refine⟨?_,?_⟩
 ·rw[ZN,List.pairwise_append];refine⟨h.1.sublist (List.take_sublist _ _),?_,?_⟩
  ·rw[List.singleton_append,List.pairwise_cons];exact⟨hd,h.1.sublist (List.drop_sublist _ _)⟩
  ·intro a ha c hc;rw[List.singleton_append,Zu] at hc
   rcases hc with rfl|hc
   ·exact ht a ha
   ·exact Int.lt_trans (ht a ha) (hd c hc)
 ·intro y hy;simp only[Zm,Zp] at hy
  rcases hy with (hy|rfl)|hy
  ·exact h.2 y (aaE hy)
  ·exact hid
  ·exact h.2 y (List.mem_of_mem_drop hy)
theorem vV.set {l:List dI}(h:vV l){x y:dI}(hx:l[k]?=some x)(e:y.m.i=x.m.i):vV (l.set k y):=by
 obtain⟨hk,rfl⟩:=Zo.1 hx
 have hg:∀i (hi:i<(l.set k y).length),((l.set k y)[i]).m.i=(l[i]'(by simpa using hi)).m.i:=by
  intro i hi;rw[List.getElem_set]
  split
  ·rename_i e2
   subst e2;exact e
  ·rfl
 refine⟨?_,?_⟩
 ·rw[List.pairwise_iff_getElem];intro i j hi hj hij;rw[hg,hg];exact List.pairwise_iff_getElem.1 h.1 i j _ _ hij
 ·intro z hz;obtain⟨i,hi,rfl⟩:=aaC hz;rw[hg];exact h.2 _ (List.getElem_mem _)
end
variable{α:Type}
section
attribute [local irreducible] wpList av aH
abbrev MP:=Int→List Int→Int→ByteArray→ByteArray→Prop
def sU.is (x:sU)(M:MP):Prop:=M x.i x.g.l x.t x.key x.body
structure qP (M:MP)(X:iW):Prop where
 ck:0≤X.ck∧X.ck≤1073741824
 so:vV X.wa.l
 len:X.wa.l.length≤200
 m:∀x∈X.wa.l,x.m.is M
def CV (p:Nat)(X:iW):Bx:=(p,270,X)
def pO (X:iW)(N:Nat):List It:=[own X.wa N,own X.dn N]
structure wC (X:iW)(iU:Int)(m:sU)(v:Int)(X':iW):Prop where
 dn:X'.dn=X.dn
 r:X'=X∨X'.ck=X.ck+1∧X.ck≠1073741824∧X.wa.l.length≠200∧∃(k:Nat) (g:Sl Int),g.l=m.g.l∧oO (fun x:dI=>wrap64 (x.m.i - m.i)) X.wa.l k false∧X'.wa.l=X.wa.l.take k++[⟨⟨m.i,g,m.t,m.key,m.body⟩,X.ck+1,false⟩]++X.wa.l.drop k
 new:X.wa.l=[]→X.dn.l=[]→iU∈m.g.l→X.ck=0→v=0∧X'.ck≠X.ck
theorem wC.same {X:iW}{iU:Int}{m:sU}{v:Int}(h:X.wa.l=[]→X.dn.l=[]→iU∈m.g.l→X.ck=0→False):wC X iU m v X:=⟨rfl,Or.inl rfl,fun a b c d=>(h a b c d).elim⟩
theorem wC.ok {M:MP}{X X':iW}{iU:Int}{m:sU}{v:Int}(h:wC X iU m v X')(o:qP M X)(hm:m.is M)(hi:0≤m.i∧m.i≤1099511627776):qP M X':=by
 rcases h.r with rfl|⟨h1,h2,h3,k,g,h4,h5,h6⟩
 ·exact o
 ·have:=o.ck;have:=o.len;refine⟨by omega,?_,?_,?_⟩
  ·rw[h6];exact o.so.ins (x:=⟨⟨m.i,g,m.t,m.key,m.body⟩,X.ck+1,false⟩) hi h5 rfl
  ·rw[h6];simp;omega
  ·intro x hx;rw[h6] at hx;simp only[Zm,Zp] at hx
   rcases hx with (hx|rfl)|hx
   ·exact o.m x (aaE hx)
   ·show M m.i g.l m.t m.key m.body;rw[h4];exact hm
   ·exact o.m x (List.mem_of_mem_drop hx)
theorem Cz {l:List α}{x y:α}(h:x∈l.take k++[y]++l.drop k):x∈l∨x=y:=by
 simp only[Zm,Zp] at h
 rcases h with (h|h)|h
 ·exact Or.inl (aaE h)
 ·exact Or.inr h
 ·exact Or.inl (List.mem_of_mem_drop h)
theorem CU {l:List α}{y:α}(hk:k≤l.length):(l.take k++[y]++l.drop k).length=l.length+1:=by
 simp only[Zn,Zw,ZK,ZI,aai];omega
theorem Uc (s:Sl Int)(x:Int)(w:World)(N:Nat)(h:s.aA w w N)(hN:N≤1000000):Calls prog 41 #[s,x] w fun e w'=>e=.returned (.bool (decide (x∈s.l)))∧w=w':=
 q8 s.A s.l.length s.c w s.l x w (by have:=h.1;rwa[fF] at this) (by have:=h.2.2.2.1;omega)
theorem Ob {is:List It}(p N:Nat)(X:iW)(iU:Int)(m:sU)(w:World)(E:Env b w0 (CV p X::bx) (pO X N++is) w)(hm:m.g.aA w0 b N)(hN:N≤100000)(hN2:1000≤N)(hck:0≤X.ck∧X.ck≤1073741824)(hwl:X.wa.l.length≤200) :
  Calls prog 143 #[p,iU,m] w fun e w'=>∃(v:Int) (X':iW),e=.returned (.int .i64 v)∧Hid (wC X iU m v X')∧Env b w0 (CV p X'::bx) (pO X' N++is) w':=by
 have HM:=L_ hm;clear hm
 go_enter func143,ntmps143
 refine GD E [5,71,3,0,4,5,0,0,40,9] ?_;clear E;intro g5 w2 E;refine ah (uX p X m.i _ N (E.blk 1 rfl) (E.ol 0) (by omega)) ?_;rintro _ w3 ⟨k,bf,rfl,hbin,hb⟩;replace E:=E.up hb;clear hb;have hk:=hbin.1;replace hbin:=L_ hbin;refine G0 [26,83,4,6,5] ?_;cases bf
 case true=>
  have HX:Hid (∀v,wC X iU m v X):=L_ fun v=>wC.same fun a _ _ _=>(by obtain⟨x,hx,-⟩:=hbin.2.2.2.1 rfl;rw[a] at hx;simp at hx);refine G0 [0,0,1,81,2,4,7,5,0,4,22,24] ?_;exact ak ⟨0,X,rfl,L_ (HX 0),E.drop 1⟩
 case false=>
  refine GD E [84,0,40] ?_;refine ah (K6 p X m.i _ N (E.blk 1 rfl) (E.ol 1) (by omega)) ?_;rintro _ w4 ⟨bd,rfl,hbd,hb⟩;replace E:=E.up hb;clear hb;replace hbd:=L_ hbd;refine G0 [26] ?_;cases bd
  case true=>
   have HX:Hid (∀v,wC X iU m v X):=L_ fun v=>wC.same fun _ a _ _=>(by obtain⟨x,hx,-⟩:=hbd.1 rfl;rw[a] at hx;cases hx);refine G0 [0,0,1,80,4,7,5,0,4,22,24] ?_;exact ak ⟨0,X,rfl,L_ (HX 0),E.drop 1⟩
  case false=>
   refine GD E [84,40,0] ?_;refine ah (Uc m.g iU _ N (E.l HM) (by omega)) ?_;rintro _ w5 ⟨rfl,rfl⟩;refine G0 [26] ?_
   by_cases hg:iU∈m.g.l
   case neg=>
    refine G0 [0,0,4,7,5,0,4,22,24] ?_;exact ak ⟨0,X,rfl,L_ (wC.same fun _ _ a _=>hg a),E.drop 1⟩
   refine GD E [0,0,4,8,15,6,5,84,0,41] ?_
   by_cases c1:(X.ck==1073741824)=true
   case pos=>
    refine G0 [0,0,1,80,2,2,4,7,5,0,4,22,24] ?_;exact ak ⟨9,X,rfl,L_ (wC.same fun _ _ _ a=>by rw[a] at c1;cases c1),E.drop 1⟩
   replace c1:(X.ck==1073741824)=false:=by simpa using c1
   refine GD E [83,0,41,0] ?_
   by_cases c2:((X.wa.l.length:Int)==200)=true
   case pos=>
    refine G0 [0,0,4,7,5,0,4,22,24] ?_;exact ak ⟨9,X,rfl,L_ (wC.same fun a _ _ _=>by rw[a] at c2;cases c2),E.drop 1⟩
   replace c2:((X.wa.l.length:Int)==200)=false:=by simpa using c2
   refine G0 [0,0,4,8,15,5] ?_;have hw:IntKind.i64.wrap (X.ck+1)=X.ck+1:=aaP _ (by omega);have hc2:X.wa.l.length≠200:=by intro h;rw[h] at c2;cases c2
   have HC1:Hid (X.ck≠1073741824):=L_ (by intro h;rw[h] at c1;cases c1);clear c1 c2 hg;refine GD E [84,0,41,84,0,61,4,5,9] ?_;clear E;intro w6 E;replace E:Env b w0 ((g5,35,m)::CV p ⟨X.ck+1,X.wa,X.dn⟩::bx) _ _:=E;refine GD E [0,40] ?_;refine ah (qg bY E HM) ?_;clear E;rintro _ w7 ⟨g2,rfl,hg2,E⟩;refine GD E [26,0,60,9] ?_;clear E;intro w8 E;refine aC (bP 0 16 [] (aaL [0,1,2,3,4,5,6,7,8,9,10,11,12,13]++aaN [14,15]) E ?_);clear E;intro w9 E;refine GD E [35,51,32] ?_;refine gZ 0 5 E ?_;refine GD E [32,32,32,32,51,32] ?_;replace E:=(E.conv 0 (own (⟨⟨m.i,g2,m.t,m.key,m.body⟩,X.ck+1,false⟩:dI) N) (fun h=>h) (fun g hg=>hg)).perm (ZW _ _ _);refine xL E ?_;clear E;intro g72 w10 E;refine D_n ?_;have hne:Hid (∀a,X.wa.A=some a→g72≠a.block):=L_ (fun a ha e=>E.Vj 0 0 rfl rfl (e▸gL ha));refine bT (zM X.wa b _ (show Sl.Own _ b N X.wa from E.get 0).1 (by omega) k hk (⟨⟨m.i,g2,m.t,m.key,m.body⟩,X.ck+1,false⟩:dI) g72 (E.blk 0 rfl) hne E.sz) ?_;rintro _ w11 ⟨s2,rfl,hl3,hrow,hgr⟩;replace E:=E.join.WW (N:=N) (y:=⟨⟨m.i,g2,m.t,m.key,m.body⟩,X.ck+1,false⟩) 0 hgr hrow (by rw[hl3,CU hk];omega) (fun x hx=>Cz (hl3▸hx));replace hl3:=L_ hl3;clear hgr hrow hne;refine⟨_,rfl,(E.drop 1).weak,D_n ?_⟩;refine GD E [29,84,62,4,5,0,4,22,9] ?_;clear E;intro w12 E;exact ak ⟨0,⟨X.ck+1,s2,X.dn⟩,rfl,L_ ⟨rfl,Or.inr ⟨rfl,HC1,hc2,k,g2,hg2,hbin,hl3⟩,fun _ _ _ _=>⟨rfl,by show X.ck+1≠X.ck;omega⟩⟩,E.drop 2⟩
structure Vi (X:iW)(id tm:Int)(X':iW):Prop where
 dn:X'.dn=X.dn
 r:X'=X∨X'.ck=(if X.ck<tm then tm else X.ck)∧∃(k:Nat) (x:dI),X.wa.l[k]?=some x∧x.m.i=id∧x.t≤tm∧X'.wa.l=X.wa.l.set k ⟨x.m,tm,true⟩
 one:∀x,X.wa.l=[x]→x.m.i=id→x.f=false→x.t≤tm→X'.wa.l=[⟨x.m,tm,true⟩]
theorem Vi.ok {M:MP}{X X':iW}{id tm:Int}(h:Vi X id tm X')(o:qP M X)(ht:0≤tm∧tm≤1073741824):qP M X':=by
 rcases h.r with rfl|⟨h1,k,x,h2,h3,h4,h5⟩
 ·exact o
 ·have:=o.ck;refine⟨by rw[h1];split<;>omega,by rw[h5];exact o.so.set h2 rfl,by rw[h5,Z7];exact o.len,fun y hy=>?_⟩;rw[h5] at hy
  rcases aat hy with hy|rfl
  ·exact o.m y hy
  ·exact o.m x (Zk h2)
theorem QA {is:List It}(p N:Nat)(X:iW)(id tm:Int)(w:World)(E:Env b w0 (CV p X::bx) (pO X N++is) w)(hN:N≤100000)(hs:vV X.wa.l)(hi:0≤id∧id≤1099511627776) :
  Calls prog 144 #[p,id,tm] w fun e w'=>∃X':iW,e=()∧Hid (Vi X id tm X')∧Env b w0 (CV p X'::bx) (pO X' N++is) w':=by
 have HS:=L_ hs;have HI:=L_ hi;clear hs hi
 go_enter func144,ntmps144
 refine G0 [5,0,0] ?_;refine ah (uX p X id _ N (E.blk 0 rfl) (E.ol 0) (by omega)) ?_;rintro _ w2 ⟨k,bf,rfl,hbin,hb⟩;replace E:=E.up hb;clear hb;have HB:=L_ (HS.bin HI hbin);have HF:=L_ (fun(x:dI) (hx:x∈X.wa.l) (e:x.m.i=id)=>HS.found hx (show oO (fun y:dI=>wrap64 (y.m.i - x.m.i)) X.wa.l k bf by rw[e];exact hbin));clear hbin;refine G0 [26,83,4,6,5] ?_;cases bf
 case false=>
  refine G0 [84,1,82,2,2,4,7,22,24] ?_;exact aaT (results_none rfl _ _ _) rfl ⟨X,rfl,L_ ⟨rfl,Or.inl rfl,fun x a e _ _=>(by have h1:=HF x (by rw[a];simp) e;rw[a] at h1;obtain rfl:k=0:=(by simpa using h1);exact absurd (HB.2.2.2.2 ⟨x,by rw[a];rfl,e⟩) (by decide))⟩,E⟩
 case true=>
  obtain⟨x,hx,hxi⟩:=HB.2.2.2.1 rfl;obtain⟨g,cur,hA,-,-,hcc⟩:=(show Sl.Own _ b N X.wa from E.get 0).1.at_ hx;have hlt:k<X.wa.l.length:=(Zo.1 hx).1;have HX:=L_ hx;have HXI:=L_ hxi;have d5:=hcc 5 _ rfl;have d6:=hcc 6 _ rfl;simp only[aj.sz] at d5 d6;clear hx hxi hcc HB;refine GD E [83,0,0,40,84] ?_;refine oZ d6 ?_;clear d6;cases hxf:x.f
  case true=>
   refine G0 [0,0,1,81,2,4,7,22,24] ?_;exact aaT (results_none rfl _ _ _) rfl ⟨X,rfl,L_ ⟨rfl,Or.inl rfl,fun y a e h _=>(by rw[a] at hlt HX;obtain rfl:k=0:=(by simpa using hlt);have:=HX.out;simp at this;subst this;rw[hxf] at h;cases h)⟩,E⟩
  case false=>
   refine GD E [83,0,0,40,84] ?_;refine oZ d5 ?_;clear d5
   by_cases ht:tm<x.t
   case pos=>
    refine G0 [0,0,4,7,22,24] ?_;exact aaT (results_none rfl _ _ _) rfl ⟨X,rfl,L_ ⟨rfl,Or.inl rfl,fun y a e _ h=>(by rw[a] at hlt HX;obtain rfl:k=0:=(by simpa using hlt);have:=HX.out;simp at this;subst this;omega)⟩,E⟩
   refine G0 [0,0,4,8,15] ?_;have HT:Hid (x.t≤tm):=L_ (by omega);clear ht;refine bP 0 16 [] (aaL [0,1,2,3,4,5,6,7,8,9,10,11,12,13,14]++aaN [15]) E ?_;clear E;intro w3 E;refine GD E [32,32,32,32,50,35,50,32,32,32,32] ?_;refine WJ 0 E hA HX ⟨x.m,tm,x.f⟩ ?_;clear E;intro w4 E;refine GD E [29,0,0] ?_;refine Wx (s:=⟨X.wa.A,X.wa.c,X.wa.l.set k ⟨x.m,tm,x.f⟩⟩) 0 E hA (show(X.wa.l.set k ⟨x.m,tm,x.f⟩)[k]?=some ⟨x.m,tm,x.f⟩ by rw[List.getElem?_set_self hlt]) ⟨x.m,tm,true⟩ ?_;clear E;intro w5 E;refine GD E [4,23,83,40,83,60,9] ?_;clear E;intro w6 E;refine wpList_nil ?_
   go_end0
   exact⟨⟨if X.ck<tm then tm else X.ck,⟨X.wa.A,X.wa.c,X.wa.l.set k ⟨x.m,tm,true⟩⟩,X.dn⟩,rfl,L_ ⟨rfl,Or.inr ⟨rfl,k,x,HX,HXI,HT,rfl⟩,fun y a _ _ _=>(by have h1:=HX.out;rw[a] at hlt h1;obtain rfl:k=0:=(by simpa using hlt);simp at h1;subst h1;simp[a])⟩,by simpa[CV,pO,Z7,List.set_set] using E⟩
end
section
open Go.RowKit Go.Sort Go.BigFrame
theorem vH (x:dI)(w:World):Calls prog 212 #[x] w fun e w'=>e=.returned (.agg #[x.t,x.m.i])∧Below w w w':=by
 have B2:=L_ (((aaO w w).alloc (Zh _) (.cells x 202)).alloc (by simp) (.cells #[x.t,x.m.i] 290));have KN:=aF.new (w.alloc (.cells x 202)) 290 #[x.t,x.m.i];have r0:=KN.cell 0;have r1:=KN.cell 1;have hsz:(w.alloc (.cells x 202)).heap.size=w.heap.size+1:=by simp
 rw[hsz] at r0 r1;clear KN
 go_enter func212,ntmps212
 go_wp2;refine aaT (v:=.agg #[x.t,x.m.i]) (by simp[results,results212,go_sem,r0,r1]) rfl ⟨rfl,B2⟩
def GH (x y:dI):Int:=if uF (bZ x.t y.t) (bZ x.m.i y.m.i)<0 then -1 else if uF (bZ y.t x.t) (bZ y.m.i x.m.i)<0 then 1 else 0
theorem Mw (x y:dI)(w:World):Calls prog 214 #[x,y] w fun e w'=>e=.returned ((GH x y))∧Below w w w':=by
 have KX:Hid (aF ((w.alloc (.cells x 202)).alloc (.cells y 202)) w 202 x):=L_ ((aF.new _ _ _).alloc _);have KY:Hid (aF ((w.alloc (.cells x 202)).alloc (.cells y 202)) (w.heap.size+1) 202 y):=L_ (by have h:=aF.new (w.alloc (.cells x 202)) 202 y;simpa using h);have B2:Hid (Below w w ((w.alloc (.cells x 202)).alloc (.cells y 202))):=L_ (((aaO _ _).alloc (Zh _) _).alloc (by simp) _);obtain⟨a,ha⟩:∃a,uF (bZ x.t y.t) (bZ x.m.i y.m.i)=a:=⟨_,rfl⟩;obtain⟨c,hc⟩:∃c,uF (bZ y.t x.t) (bZ y.m.i x.m.i)=c:=⟨_,rfl⟩;have HO:Hid (GH x y=if a<0 then -1 else if c<0 then 1 else 0):=L_ (by rw[GH,ha,hc]);have hl1:∀cur,Calls prog 211 #[.agg #[x.t,x.m.i],.agg #[y.t,y.m.i]] cur fun e w'=>e=.returned (.bool (decide (a<0)))∧Below cur cur w':=fun cur=>by rw[←ha];exact tV ⟨x.t,x.m.i⟩ ⟨y.t,y.m.i⟩ cur
 have hl2:∀cur,Calls prog 211 #[.agg #[y.t,y.m.i],.agg #[x.t,x.m.i]] cur fun e w'=>e=.returned (.bool (decide (c<0)))∧Below cur cur w':=fun cur=>by rw[←hc];exact tV ⟨y.t,y.m.i⟩ ⟨x.t,x.m.i⟩ cur
 have HL1:=L_ hl1;have HL2:=L_ hl2;clear ha hc hl1 hl2
 go_enter func214,ntmps214
 go_wp2_with fail;generalize (w.alloc (.cells x 202)).alloc (.cells y 202)=w0 at *;have c0:=cell_regrown (KX.cell 0);have d0:=cell_regrown (KY.cell 0);have c1:=cell_regrown (KX.cell 1);have d1:=cell_regrown (KY.cell 1);have c2:=cell_regrown (KX.cell 2);have d2:=cell_regrown (KY.cell 2);have c3:=cell_regrown (KX.cell 3);have d3:=cell_regrown (KY.cell 3);have c4:=cell_regrown (KX.cell 4);have d4:=cell_regrown (KY.cell 4);have c5:=cell_regrown (KX.cell 5);have d5:=cell_regrown (KY.cell 5);have c6:=cell_regrown (KX.cell 6);have d6:=cell_regrown (KY.cell 6);have F1:=L_ (qb (W:=w0) fun cur ht=>vH x cur);have F2:=L_ (qb (W:=w0) fun cur ht=>vH y cur);have F3:=L_ (qb (W:=w0) fun cur ht=>HL1 cur);refine wp_region_quiet_below (by kernel_rfl) (by kernel_rfl) ?_
 repeat (go_big_quiet_step ((first|with_reducible exact F1.out _ _|with_reducible exact F2.out _ _|with_reducible exact F3.out _ _)))
 refine wpQuiet_nil ?_;intro _ hw';obtain⟨⟨dq,osq⟩,hw''⟩:=hw';subst hw'';have B3:=L_ (B2.trans ((below_regrown w0 dq osq).mono B2.size));have KX3:=L_ (KX.below (below_regrown w0 dq osq) KX.lt);have KY3:=L_ (KY.below (below_regrown w0 dq osq) KY.lt);clear F1 F2 F3 KX KY B2 c0 d0 c1 d1 c2 d2 c3 d3 c4 d4 c5 d5 c6 d6
 by_cases h1:a<0
 ·have HE:Hid (GH x y=-1):=L_ (by rw[HO.out,aaS h1]);go_wp2;go_ret;rw[HE.out];exact⟨rfl,B3⟩
 ·go_wp2_with fail;generalize grow (redrawn w0 dq) osq=w3 at *;have c0:=cell_regrown (KX3.cell 0);have d0:=cell_regrown (KY3.cell 0);have c1:=cell_regrown (KX3.cell 1);have d1:=cell_regrown (KY3.cell 1);have c2:=cell_regrown (KX3.cell 2);have d2:=cell_regrown (KY3.cell 2);have c3:=cell_regrown (KX3.cell 3);have d3:=cell_regrown (KY3.cell 3);have c4:=cell_regrown (KX3.cell 4);have d4:=cell_regrown (KY3.cell 4);have c5:=cell_regrown (KX3.cell 5);have d5:=cell_regrown (KY3.cell 5);have c6:=cell_regrown (KX3.cell 6);have d6:=cell_regrown (KY3.cell 6);have F1:=L_ (qb (W:=w3) fun cur ht=>vH x cur);have F2:=L_ (qb (W:=w3) fun cur ht=>vH y cur);have F3:=L_ (qb (W:=w3) fun cur ht=>HL2 cur);refine wp_region_quiet_below (by kernel_rfl) (by kernel_rfl) ?_
  repeat (go_big_quiet_step ((first|with_reducible exact F1.out _ _|with_reducible exact F2.out _ _|with_reducible exact F3.out _ _)))
  refine wpQuiet_nil ?_;intro _ hw';obtain⟨⟨dq,osq⟩,hw''⟩:=hw';subst hw'';have B4:=L_ (B3.trans ((below_regrown w3 dq osq).mono B3.size))
  by_cases h2:c<0
  ·have HE:Hid (GH x y=1):=L_ (by rw[HO.out,aaR (by omega),aaS h2]);go_wp2;go_ret;rw[HE.out];exact⟨rfl,B4⟩
  ·have HE:Hid (GH x y=0):=L_ (by rw[HO.out,aaR (by omega),aaR (by omega)]);go_wp2;go_ret;rw[HE.out];exact⟨rfl,B4⟩
theorem Rc {G:Nat}{x:dI}(h:aF w G 202 x)(z:dI):aF (((((((w.setCell ⟨G,0,none⟩ z.m.i).setCell ⟨G,1,none⟩ z.m.g).setCell ⟨G,2,none⟩ z.m.t).setCell ⟨G,3,none⟩ z.m.key).setCell ⟨G,4,none⟩ z.m.body).setCell ⟨G,5,none⟩ z.t).setCell ⟨G,6,none⟩ z.f) G 202 z:=by
 have h2:=(aF.aM (aF.aM (aF.aM (aF.aM (aF.aM (aF.aM (aF.aM h 0 z.m.i) 1 z.m.g) 2 z.m.t) 3 z.m.key) 4 z.m.body) 5 z.t) 6 z.f);simpa using h2
theorem Qc {G:Nat}(h:aF w G 202 #[.int .i64 0,(),.int .i64 0,.string ⟨#[]⟩,.string ⟨#[]⟩,.int .i64 0,false])(z:dI):aF (((((((w.setCell ⟨G,0,none⟩ z.m.i).setCell ⟨G,1,none⟩ z.m.g).setCell ⟨G,2,none⟩ z.m.t).setCell ⟨G,3,none⟩ z.m.key).setCell ⟨G,4,none⟩ z.m.body).setCell ⟨G,5,none⟩ z.t).setCell ⟨G,6,none⟩ z.f) G 202 z:=by
 have h2:=(aF.aM (aF.aM (aF.aM (aF.aM (aF.aM (aF.aM (aF.aM h 0 z.m.i) 1 z.m.g) 2 z.m.t) 3 z.m.key) 4 z.m.body) 5 z.t) 6 z.f);simpa using h2
theorem JX (s:Sl dI)(w:World)(N:Nat)(h:s.aA w w N)(hN:N≤1000000000)(h0:0<s.l.length) :
  Calls prog 213 #[s,.func (.func 214) #[] #[]] w fun e w'=>∃x∈s.l,e=.returned (x)∧Below w w w':=by
 obtain⟨A,c,l⟩:=s;have H:=L_ h;have hnl:l.length≤1000000000:=Zt h.2.2.2.1 hN;obtain⟨bb,off,x0,hA,hbl,hx,hcc,_⟩:=h.get (k:=0) h0;simp only at hA h0;subst hA;have HX:=L_ (Zk hx);have c0:w.cell? ⟨bb,off,none⟩=some (.int .i64 x0.m.i):=by simpa using hcc 0 _ rfl
 have c1:w.cell? ⟨bb,off+1,none⟩=some (.slice x0.m.g.A x0.m.g.l.length x0.m.g.c):=by simpa using hcc 1 _ rfl
 have c2:w.cell? ⟨bb,off+2,none⟩=some (.int .i64 x0.m.t):=by simpa using hcc 2 _ rfl
 have c3:w.cell? ⟨bb,off+3,none⟩=some (.string x0.m.key):=by simpa using hcc 3 _ rfl
 have c4:w.cell? ⟨bb,off+4,none⟩=some (.string x0.m.body):=by simpa using hcc 4 _ rfl
 have c5:w.cell? ⟨bb,off+5,none⟩=some (.int .i64 x0.t):=by simpa using hcc 5 _ rfl
 have c6:w.cell? ⟨bb,off+6,none⟩=some (.bool x0.f):=by simpa using hcc 6 _ rfl
 clear h hcc hx
 go_enter func213,ntmps213
 go_wp2;have K0:Hid (aF ((w.alloc (.cells #[.int .i64 0,(),.int .i64 0,.string ⟨#[]⟩,.string ⟨#[]⟩,.int .i64 0,false] 202)).alloc (.cells x0 202)) w 202 #[.int .i64 0,(),.int .i64 0,.string ⟨#[]⟩,.string ⟨#[]⟩,.int .i64 0,false]):=L_ ((aF.new _ _ _).alloc _);have K1:Hid (aF ((w.alloc (.cells #[.int .i64 0,(),.int .i64 0,.string ⟨#[]⟩,.string ⟨#[]⟩,.int .i64 0,false] 202)).alloc (.cells x0 202)) (w.heap.size+1) 202 x0):=L_ (by have h:=aF.new (w.alloc (.cells #[.int .i64 0,(),.int .i64 0,.string ⟨#[]⟩,.string ⟨#[]⟩,.int .i64 0,false] 202)) 202 x0;simpa using h);have B1:Hid (Below w w ((w.alloc (.cells #[.int .i64 0,(),.int .i64 0,.string ⟨#[]⟩,.string ⟨#[]⟩,.int .i64 0,false] 202)).alloc (.cells x0 202))):=L_ (((aaO _ _).alloc (Zh _) _).alloc (by simp) _);generalize (w.alloc (.cells #[.int .i64 0,(),.int .i64 0,.string ⟨#[]⟩,.string ⟨#[]⟩,.int .i64 0,false] 202)).alloc (.cells x0 202)=w1 at *;obtain⟨G,hG⟩:∃G,w.heap.size+1=G:=⟨_,rfl⟩;have hge:w.heap.size≤G:=by omega
 have hg0:w.heap.size≠G:=by omega
 rw[hG] at K1 ⊢;clear hG c0 c1 c2 c3 c4 c5 c6
 go_loopw [6] (fun y wr=>∃(k:Nat) (x:dI),y=(k:Int)∧k≤l.length∧x∈l∧aF wr G 202 x∧aF wr w 202 #[.int .i64 0,(),.int .i64 0,.string ⟨#[]⟩,.string ⟨#[]⟩,.int .i64 0,false]∧Below w w wr) (fun y _=>l.length - (intOf y).toNat)
 case atStart=>exact⟨1,x0,rfl,h0,HX,K1,K0,B1⟩
 case round=>
  obtain⟨k,x,rfl,hk,hxl,hK,hK0,hb⟩:=hrel;have KX:=L_ hK;have KZ:=L_ hK0;have HB:=L_ hb;have HXL:=L_ hxl;clear hK hK0 hb hxl
  by_cases hlt:k<l.length
  ·obtain⟨bb2,off2,z,hA2,hbl2,hz,hcc,_⟩:=(H.below HB).get (k:=k) hlt;simp only[ZH,Addr.mk.injEq,and_true] at hA2;obtain⟨rfl,rfl⟩:=hA2;have HZ:=L_ (Zk hz);have d0:wr.cell? ⟨bb,off+k*7,none⟩=some (.int .i64 z.m.i):=hcc 0 _ rfl;have d1:wr.cell? ⟨bb,off+k*7+1,none⟩=some (.slice z.m.g.A z.m.g.l.length z.m.g.c):=hcc 1 _ rfl;have d2:wr.cell? ⟨bb,off+k*7+2,none⟩=some (.int .i64 z.m.t):=hcc 2 _ rfl;have d3:wr.cell? ⟨bb,off+k*7+3,none⟩=some (.string z.m.key):=hcc 3 _ rfl;have d4:wr.cell? ⟨bb,off+k*7+4,none⟩=some (.string z.m.body):=hcc 4 _ rfl;have d5:wr.cell? ⟨bb,off+k*7+5,none⟩=some (.int .i64 z.t):=hcc 5 _ rfl;have d6:wr.cell? ⟨bb,off+k*7+6,none⟩=some (.bool z.f):=hcc 6 _ rfl;clear hcc hz;obtain⟨v,hv⟩:∃v,GH z x=v:=⟨_,rfl⟩;have hcall:∀cur,Calls prog 214 #[z,x] cur fun e w'=>e=.returned (.int .i64 v)∧Below cur cur w':=fun cur=>by rw[←hv];exact Mw z x cur
   have FC:=L_ (qb (W:=wr) fun cur ht=>hcall cur);clear hv hcall;go_wp2_with fail;have c0:=cell_regrown (KX.cell 0);have d0:=cell_regrown d0;have c1:=cell_regrown (KX.cell 1);have d1:=cell_regrown d1;have c2:=cell_regrown (KX.cell 2);have d2:=cell_regrown d2;have c3:=cell_regrown (KX.cell 3);have d3:=cell_regrown d3;have c4:=cell_regrown (KX.cell 4);have d4:=cell_regrown d4;have c5:=cell_regrown (KX.cell 5);have d5:=cell_regrown d5;have c6:=cell_regrown (KX.cell 6);have d6:=cell_regrown d6;refine wp_region_quiet_below (by kernel_rfl) (by kernel_rfl) ?_
   repeat (go_big_quiet_step ((first|with_reducible exact FC.out _ _)))
   refine wpQuiet_nil ?_;intro _ hw';obtain⟨⟨dq,osq⟩,hw''⟩:=hw';subst hw'';have B2:=L_ (HB.trans ((below_regrown wr dq osq).mono HB.size));have KX2:=L_ (KX.below (below_regrown wr dq osq) KX.lt);have KZ2:=L_ (KZ.below (below_regrown wr dq osq) KZ.lt);have e0:=d0 dq osq;have e1:=d1 dq osq;have e2:=d2 dq osq;have e3:=d3 dq osq;have e4:=d4 dq osq;have e5:=d5 dq osq;have e6:=d6 dq osq;clear FC c0 d0 c1 d1 c2 d2 c3 d3 c4 d4 c5 d5 c6 d6;generalize grow (redrawn wr dq) osq=w3 at *
   by_cases hv:v<0
   ·have u0:=KX2.cell 0;have u1:=KX2.cell 1;have u2:=KX2.cell 2;have u3:=KX2.cell 3;have u4:=KX2.cell 4;have u5:=KX2.cell 5;have u6:=KX2.cell 6;have f0:=KX2.frozen;go_wp2_with fail;have KS:=L_ (Rc KX2 z);have KZ3:=L_ (aF.far (p:=⟨G,6,none⟩) (aF.far (p:=⟨G,5,none⟩) (aF.far (p:=⟨G,4,none⟩) (aF.far (p:=⟨G,3,none⟩) (aF.far (p:=⟨G,2,none⟩) (aF.far (p:=⟨G,1,none⟩) (aF.far (p:=⟨G,0,none⟩) KZ2 hg0 z.m.i) hg0 z.m.g) hg0 z.m.t) hg0 z.m.key) hg0 z.m.body) hg0 z.t) hg0 z.f);have B3:=L_ (Below.setCell (Below.setCell (Below.setCell (Below.setCell (Below.setCell (Below.setCell (Below.setCell B2 (p:=⟨G,0,none⟩) hge z.m.i) (p:=⟨G,1,none⟩) hge z.m.g) (p:=⟨G,2,none⟩) hge z.m.t) (p:=⟨G,3,none⟩) hge z.m.key) (p:=⟨G,4,none⟩) hge z.m.body) (p:=⟨G,5,none⟩) hge z.t) (p:=⟨G,6,none⟩) hge z.f)
    go_roundw
    case rel=>exact⟨k+1,z,by go_num,by omega,HZ,KS,KZ3,B3⟩
    case measure=>simp[intOf];omega
   ·clear e0 e1 e2 e3 e4 e5 e6;go_wp2
    go_roundw
    case rel=>exact⟨k+1,x,by go_num,by omega,HXL,KX2,KZ2,B2⟩
    case measure=>simp[intOf];omega
  ·obtain rfl:k=l.length:=by omega
   have u0:=KX.cell 0;have z0:=KZ.cell 0;have u1:=KX.cell 1;have z1:=KZ.cell 1;have u2:=KX.cell 2;have z2:=KZ.cell 2;have u3:=KX.cell 3;have z3:=KZ.cell 3;have u4:=KX.cell 4;have z4:=KZ.cell 4;have u5:=KX.cell 5;have z5:=KZ.cell 5;have u6:=KX.cell 6;have z6:=KZ.cell 6;have f0:=KZ.frozen;have KS:=Qc KZ x;have BE:=L_ (Below.setCell (Below.setCell (Below.setCell (Below.setCell (Below.setCell (Below.setCell (Below.setCell HB (p:=⟨w,0,none⟩) (Zh _) x.m.i) (p:=⟨w,1,none⟩) (Zh _) x.m.g) (p:=⟨w,2,none⟩) (Zh _) x.m.t) (p:=⟨w,3,none⟩) (Zh _) x.m.key) (p:=⟨w,4,none⟩) (Zh _) x.m.body) (p:=⟨w,5,none⟩) (Zh _) x.t) (p:=⟨w,6,none⟩) (Zh _) x.f);have r0:=KS.cell 0;have r1:=KS.cell 1;have r2:=KS.cell 2;have r3:=KS.cell 3;have r4:=KS.cell 4;have r5:=KS.cell 5;have r6:=KS.cell 6;clear KS;go_wp2;refine aaT (v:=x) (by simp[results,results213,go_sem,r0,r1,r2,r3,r4,r5,r6]) rfl ⟨x,HXL,rfl,BE⟩
end
section
attribute [local irreducible] wpList av aH
structure zw where
 i:Int
 A:Option Addr
 n:Nat
 c:Nat
 t:Int
 key:ByteArray
 body:ByteArray
instance:aj zw:=iE 35 5 (fun x:zw=>[.int .i64 x.i,.slice x.A x.n x.c,.int .i64 x.t,.string x.key,.string x.body]) (fun _=>rfl) (by decide) (fun(x:zw) u hu=>by simp only[Zu,ZF,or_false] at hu;rcases hu with rfl|rfl|rfl|rfl|rfl<;>rfl) 163 underlying163 (.agg #[.int .i64 0,.slice none 0 0,.int .i64 0,.string ⟨#[]⟩,.string ⟨#[]⟩]) 72 (by kernel_rfl) rfl (by decide)
def sU.fl (x:sU):zw:=⟨x.i,x.g.A,x.g.l.length,x.g.c,x.t,x.key,x.body⟩
def Xr:Value→Nat
 |.slice _ n _=>n
 |_=>0
structure FN (X Y:iW)(lo:List zw):Prop where
 ck:Y.ck=X.ck
 sub:Y.wa.l.Sublist X.wa.l
 n:Y.dn.l.length+Y.wa.l.length=X.dn.l.length+X.wa.l.length
 m:lo.length+Y.wa.l.length=X.wa.l.length
 one:∀x,X.wa.l=[x]→(Y.wa.l=[x]∧Y.dn.l=X.dn.l∧lo=[])∨(x.f=true∧Y.wa.l=[]∧Y.dn.l=X.dn.l++[⟨x.t,x.m.i⟩]∧lo=[x.m.fl])
theorem FN.nil (X:iW):FN X X []:=⟨rfl,Zi _,rfl,by simp,fun x h=>Or.inl ⟨h,rfl,rfl⟩⟩
theorem xg:∀(l:List α) (k:Nat),(l.take k++l.drop (k+1)).Sublist l
 |[],k=>by simp
 |a::l,0=>by simp
 |a::l,k+1=>by simpa using (xg l k).cons_cons a
theorem CK {l:List α}(hk:k<l.length):(l.take k++l.drop (k+1)).length+1=l.length:=by
 simp only[Zn,Zw,ZK];omega
theorem FN.step {X Y:iW}{lo:List zw}(h:FN X Y lo){x:dI}(hx:x∈Y.wa.l)(hf:x.f=true)(hk:k<Y.wa.l.length){wa:Sl dI}{dn:Sl zx}{lo2:List zw}(h1:wa.l=Y.wa.l.take k++Y.wa.l.drop (k+1))(h2:dn.l=Y.dn.l++[⟨x.t,x.m.i⟩])(h3:lo2=lo++[x.m.fl]):FN X ⟨Y.ck,wa,dn⟩ lo2:=by
 have:=h.n;have:=h.m;have:=CK hk;refine⟨h.ck,?_,?_,?_,fun y hy=>?_⟩
 ·dsimp only;rw[h1];exact(xg _ _).trans h.sub
 ·dsimp only;rw[h1,h2];simp only[List.length_append,List.length_cons,List.length_nil] at *;omega
 ·dsimp only;rw[h1,h3];simp only[List.length_append,List.length_cons,List.length_nil] at *;omega
 ·dsimp only
  rcases h.one y hy with ⟨a,b,c⟩|⟨d,a,b,c⟩
  ·rw[a] at hx hk;obtain rfl:k=0:=by simpa using hk
   rw[Zp.1 hx] at h2 h3 hf;exact Or.inr ⟨hf,by rw[h1,a];rfl,by rw[h2,b],by rw[h3,c];rfl⟩
  ·rw[a] at hx;cases hx
structure Rl (X Y:iW)(lo:List zw):Prop extends FN X Y lo where
 all:∀x,X.wa.l=[x]→x.f=true→x.f=true∧Y.wa.l=[]∧Y.dn.l=X.dn.l++[⟨x.t,x.m.i⟩]∧lo=[x.m.fl]
theorem Rl.ok {M:MP}{X Y:iW}{lo:List zw}(h:Rl X Y lo)(o:qP M X):qP M Y:=
 ⟨by rw[h.ck];exact o.ck,o.so.sub h.sub,Zt h.sub.length_le o.len,fun x hx=>o.m x (h.sub.subset hx)⟩
theorem Ky {is:List It}(p N:Nat)(X:iW)(w:World)(E:Env b w0 (CV p X::bx) (pO X N++is) w)(hN:N≤100000)(hs:vV X.wa.l)(hn:X.dn.l.length+X.wa.l.length≤N) :
  Calls prog 145 #[p] w fun e w'=>∃(X':iW) (lo:Sl zw),e=.returned lo∧Hid (Rl X X' lo.l)∧Env b w0 (CV p X'::bx) (own lo N::(pO X' N++is)) w':=by
 have HS:=L_ hs;clear hs
 go_enter func145,ntmps145
 refine G0 [5,0] ?_;refine aC (wp_scope_straight ?_);refine wp_seq (wp_label ?_);simp only[Exit.then];refine lK ?_
 go_loopw [2] (fun y wr=>∃(Y:iW) (lo:Sl zw),y=lo∧Hid (FN X Y lo.l)∧Env b w0 (CV p Y::bx) (own lo N::(pO Y N++is)) wr) (fun y _=>X.wa.l.length - Xr y)
 case atStart=>exact⟨X,⟨none,0,[]⟩,rfl,L_ (FN.nil X),E.aO⟩
 case round=>
  clear E;obtain⟨Y,lo,rfl,HI,E⟩:=hrel
  by_cases h0:0<Y.wa.l.length
  case pos=>
   refine GD E [6,5,84,0,40,0,0,4,7,15,19,5,84,0,40] ?_;refine ah (JX Y.wa _ N (E.ol 1) (by omega) h0) ?_;rintro _ w2 ⟨x,hxm,rfl,hb⟩;replace E:=E.up hb;clear hb;replace hxm:=L_ hxm;refine G0 [26] ?_;cases hxf:x.f
   case false=>
    refine GD E [70,3,60,4,6,5,0,40,0,4,7,27,9] ?_;clear E;intro g3 w4 E;simp only[Exit.then,Exit.inBlock,Exit.noGoto,if_true];refine G0 [5,0,0,4,22] ?_;simp only[Exit.then,Exit.inBlock,Exit.noGoto];exact ak ⟨Y,lo,rfl,L_ ⟨HI,fun y hy hf=>(HI.one y hy).resolve_left fun hh=>(by have h1:=hxm.out;rw[hh.1] at h1;rw[Zp.1 h1,hf] at hxf;cases hxf)⟩,E.drop 1⟩
   case true=>
    refine GD E [70,3,60,4,6,5,0,40,0,4,8,15,5,84,40,9] ?_;clear E;intro g3 w6 E;refine ah (uX p Y x.m.i _ N (E.blk 1 rfl) (E.ol 1) (by omega)) ?_;rintro _ w7 ⟨k,bf,rfl,hbin,hb⟩;replace E:=E.up hb;clear hb;have hk:k<Y.wa.l.length:=(HS.sub HI.sub).found hxm hbin;clear hbin;refine G0 [26] ?_;have hN2:=HI.n;have hN3:=HI.m;have hNw:=E.on (s:=Y.wa) (N:=N) 1;have hw:IntKind.i64.wrap ((k:Int)+1)=(k:Int)+1:=aaP _ (by omega);refine GD E [83,4,5,83,41,84] ?_;refine ah (zy Y.wa b _ (show Sl.Own _ b N Y.wa from E.get 1).1 (by omega) k hk) ?_;rintro _ w8 ⟨wa2,rfl,hw2,hrow,hgr⟩;have hdl:=CK hk;replace E:=E.Qp (N:=N) 1 hgr hrow (by rw[hw2];omega) (fun x hx=>(xg _ _).subset (hw2▸hx));replace hw2:=L_ hw2;clear hgr hrow hdl;refine GD E [26,84,61,9] ?_;clear E;intro w9 E;refine aC (bP 0 10 [] (aaL [0,1,2,3,4,5,6]++aaN [7,8,9]) E ?_);clear E;intro w10 E;refine GD E [35,51] ?_;refine gZ 0 7 E ?_;refine bT (vH x _) ?_;rintro _ w11 ⟨rfl,hb⟩;replace E:=E.up hb;clear hb;refine⟨_,rfl,E.weak,D_n ?_⟩;refine xL E ?_;clear E;intro g51 w12 E;refine D_n ?_;refine TR 2 (s:=Y.dn) N ⟨some ⟨g51,0,none⟩,1,[⟨x.t,x.m.i⟩]⟩ E (E.reads 0 1 2) (by simp;omega) (by omega) ?_;clear E;intro dn2 w13 hd2 E;refine D_n ?_;refine GD E [29,84,62,4,23,0,0,9] ?_;clear E;intro w14 E;refine aB 1 5 E ?_;refine GD E [72,3,9] ?_;clear E;intro g59 w15 E;refine pV 0 (s:=lo) N ⟨some ⟨g59,0,none⟩,1,[x.m.fl]⟩ E (E.reads 0 1 5) (by simp;omega) (by omega) ?_;clear E;intro lo2 w16 hl2 E;refine G0 [3,0,20] ?_
    go_roundw
    case rel=>exact⟨⟨Y.ck,wa2,dn2⟩,lo2,rfl,L_ (HI.step hxm hxf hk hw2 hd2 hl2),E.drop 3⟩
    case measure=>simp only[Xr];rw[hl2.out];simp;omega
  case neg=>
   refine GD E [6,5,84,0,40,0,0,4,8,27] ?_;simp only[Exit.then,Exit.inBlock,Exit.noGoto,if_true];refine G0 [5,0,0,4,22] ?_;simp only[Exit.then,Exit.inBlock,Exit.noGoto];exact ak ⟨Y,lo,rfl,L_ ⟨HI,fun y hy hf=>(HI.one y hy).resolve_left fun hh=>(by rw[hh.1] at h0;exact h0 (by simp))⟩,E⟩
end
section
open Go.RowKit Bal
def rE (k g s b:Int)(n:Nat):Int:=if Rp.gK k g s b n then 0 else 8
theorem Cn (k:Int)(w:World):Calls prog 161 #[.int .u8 k] w fun e w'=>e=.returned (.tuple #[.bool (Rp.fT k),.bool (Rp.value k)])∧w=w':=by
 by_cases h1:k=1
 ·subst h1
  go_enter func161,ntmps161
  go_wp2
  go_ret2
  exact⟨rfl,rfl⟩
 by_cases h2:k=2
 ·subst h2
  go_enter func161,ntmps161
  go_wp2
  go_ret2
  exact⟨rfl,rfl⟩
 by_cases h3:k=3
 ·subst h3
  go_enter func161,ntmps161
  go_wp2
  go_ret2
  exact⟨rfl,rfl⟩
 have hv:Rp.fT k=false:=by simp[Rp.fT,h1,h2]
 have hj:Rp.value k=false:=by simp[Rp.value,h2,h3]
 have q1:(k==1)=false:=by simpa using h1
 have q2:(k==2)=false:=by simpa using h2
 have q3:(k==3)=false:=by simpa using h3
 clear h1 h2 h3
 go_enter func161,ntmps161
 go_wp2
 go_ret2
 rw[hv,hj];exact⟨rfl,rfl⟩
theorem kK (k g s b:Int)(v:ByteArray)(w:World)(hs:v.size≤9223372036854775807)(b1:-9223372036854775808≤b)(b2:b≤9223372036854775807) :
  Calls prog 159 #[.agg #[.int .u8 k,g,s,b,v]] w fun e w'=>e=.returned ((rE k g s b v.size))∧Below w w w':=by
 have hem:v.toList.isEmpty=(v.size==0):=by
  rw[Bool.eq_iff_iff,List.isEmpty_iff_length_eq_zero,iI,size_data];simp
 have HM:=L_ hem;clear hem
 go_enter func159,ntmps159
 go_wp2_with fail;refine(Cn k _).mono ?_;rintro e w' ⟨rfl,rfl⟩;cases hv:Rp.fT k with
 |true=>
  cases hj:Rp.value k with
  |true=>
   by_cases c0:0≤g
   rotate_left
   ·have q0:decide (0≤g)=false:=ZE c0;have HE:Hid (rE k g s b v.size=8):=by simp[Hid,rE,Rp.gK,hv,hj,c0]
    go_wp2;go_ret;rw[HE.out];exact⟨rfl,(aaO _ _).alloc (Zh _) _⟩
   by_cases c1:g<4
   rotate_left
   ·have q1:decide (g<4)=false:=ZE c1;have HE:Hid (rE k g s b v.size=8):=by simp[Hid,rE,Rp.gK,hv,hj,c0,c1]
    go_wp2;go_ret;rw[HE.out];exact⟨rfl,(aaO _ _).alloc (Zh _) _⟩
   by_cases c2:1≤s
   rotate_left
   ·have q2:decide (1≤s)=false:=ZE c2;have HE:Hid (rE k g s b v.size=8):=by simp[Hid,rE,Rp.gK,hv,hj,c0,c1,c2]
    go_wp2;go_ret;rw[HE.out];exact⟨rfl,(aaO _ _).alloc (Zh _) _⟩
   by_cases c3:s≤200
   rotate_left
   ·have q3:decide (s≤200)=false:=ZE c3;have HE:Hid (rE k g s b v.size=8):=by simp[Hid,rE,Rp.gK,hv,hj,c0,c1,c2,c3]
    go_wp2;go_ret;rw[HE.out];exact⟨rfl,(aaO _ _).alloc (Zh _) _⟩
   by_cases c4:(v.size:Int)≤1024
   rotate_left
   ·have q4:decide ((v.size:Int)≤1024)=false:=ZE c4;have c5:¬v.size≤1024:=by omega
    have HE:Hid (rE k g s b v.size=8):=by simp[Hid,rE,Rp.gK,hv,hj,c0,c1,c2,c3,c5]
    go_wp2;go_ret;rw[HE.out];exact⟨rfl,(aaO _ _).alloc (Zh _) _⟩
   have c5:v.size≤1024:=by omega
   cases hb:may b with
   |true=>
    have HB:=L_ (gQ (w.alloc (.cells #[.int .u8 k,g,s,b,v] 196)) b hb);have HE:Hid (rE k g s b v.size=0):=by simp[Hid,rE,Rp.gK,hv,hj,c0,c1,c2,c3,c5,hb]
    go_wp2_with (first|(with_reducible refine HB.out.mono ?_;rintro e w' ⟨rfl,rfl⟩));go_ret;rw[HE.out];exact⟨rfl,(aaO _ _).alloc (Zh _) _⟩
   |false=>
    have HB:=L_ (fI (w.alloc (.cells #[.int .u8 k,g,s,b,v] 196)) b b1 b2 hb);have HE:Hid (rE k g s b v.size=8):=by simp[Hid,rE,Rp.gK,hv,hj,c0,c1,c2,c3,c5,hb]
    go_wp2_with (first|(with_reducible refine HB.out.mono ?_;rintro e w' ⟨rfl,rfl⟩));go_ret;rw[HE.out];exact⟨rfl,(aaO _ _).alloc (Zh _) _⟩
  |false=>
   by_cases c0:0≤g
   rotate_left
   ·have q0:decide (0≤g)=false:=ZE c0;have HE:Hid (rE k g s b v.size=8):=by simp[Hid,rE,Rp.gK,hv,hj,c0]
    go_wp2;go_ret;rw[HE.out];exact⟨rfl,(aaO _ _).alloc (Zh _) _⟩
   by_cases c1:g<4
   rotate_left
   ·have q1:decide (g<4)=false:=ZE c1;have HE:Hid (rE k g s b v.size=8):=by simp[Hid,rE,Rp.gK,hv,hj,c0,c1]
    go_wp2;go_ret;rw[HE.out];exact⟨rfl,(aaO _ _).alloc (Zh _) _⟩
   by_cases c2:1≤s
   rotate_left
   ·have q2:decide (1≤s)=false:=ZE c2;have HE:Hid (rE k g s b v.size=8):=by simp[Hid,rE,Rp.gK,hv,hj,c0,c1,c2]
    go_wp2;go_ret;rw[HE.out];exact⟨rfl,(aaO _ _).alloc (Zh _) _⟩
   by_cases c3:s≤200
   rotate_left
   ·have q3:decide (s≤200)=false:=ZE c3;have HE:Hid (rE k g s b v.size=8):=by simp[Hid,rE,Rp.gK,hv,hj,c0,c1,c2,c3]
    go_wp2;go_ret;rw[HE.out];exact⟨rfl,(aaO _ _).alloc (Zh _) _⟩
   by_cases c4:(v.size:Int)≤1024
   rotate_left
   ·have q4:decide ((v.size:Int)≤1024)=false:=ZE c4;have c5:¬v.size≤1024:=by omega
    have HE:Hid (rE k g s b v.size=8):=by simp[Hid,rE,Rp.gK,hv,hj,c0,c1,c2,c3,c5]
    go_wp2;go_ret;rw[HE.out];exact⟨rfl,(aaO _ _).alloc (Zh _) _⟩
   have c5:v.size≤1024:=by omega
   cases he:v.toList.isEmpty with
   |false=>
    have he2:(v.size==0)=false:=HM.symm.trans he;have HE:Hid (rE k g s b v.size=8):=by simp[Hid,rE,Rp.gK,hv,hj,c0,c1,c2,c3,c5,he2]
    go_wp2;go_ret;rw[HE.out];exact⟨rfl,(aaO _ _).alloc (Zh _) _⟩
   |true=>
    have he2:(v.size==0)=true:=HM.symm.trans he;cases hb:may b with
    |true=>
     have HB:=L_ (gQ (w.alloc (.cells #[.int .u8 k,g,s,b,v] 196)) b hb);have HE:Hid (rE k g s b v.size=0):=by simp[Hid,rE,Rp.gK,hv,hj,c0,c1,c2,c3,c5,he2,hb]
     go_wp2_with (first|(with_reducible refine HB.out.mono ?_;rintro e w' ⟨rfl,rfl⟩));go_ret;rw[HE.out];exact⟨rfl,(aaO _ _).alloc (Zh _) _⟩
    |false=>
     have HB:=L_ (fI (w.alloc (.cells #[.int .u8 k,g,s,b,v] 196)) b b1 b2 hb);have HE:Hid (rE k g s b v.size=8):=by simp[Hid,rE,Rp.gK,hv,hj,c0,c1,c2,c3,c5,he2,hb]
     go_wp2_with (first|(with_reducible refine HB.out.mono ?_;rintro e w' ⟨rfl,rfl⟩));go_ret;rw[HE.out];exact⟨rfl,(aaO _ _).alloc (Zh _) _⟩
 |false=>
  cases hj:Rp.value k with
  |true=>
   by_cases c0:0≤g
   rotate_left
   ·have q0:decide (0≤g)=false:=ZE c0;have HE:Hid (rE k g s b v.size=8):=by simp[Hid,rE,Rp.gK,hv,hj,c0]
    go_wp2;go_ret;rw[HE.out];exact⟨rfl,(aaO _ _).alloc (Zh _) _⟩
   by_cases c1:g<4
   rotate_left
   ·have q1:decide (g<4)=false:=ZE c1;have HE:Hid (rE k g s b v.size=8):=by simp[Hid,rE,Rp.gK,hv,hj,c0,c1]
    go_wp2;go_ret;rw[HE.out];exact⟨rfl,(aaO _ _).alloc (Zh _) _⟩
   by_cases c2:1≤s
   rotate_left
   ·have q2:decide (1≤s)=false:=ZE c2;have HE:Hid (rE k g s b v.size=8):=by simp[Hid,rE,Rp.gK,hv,hj,c0,c1,c2]
    go_wp2;go_ret;rw[HE.out];exact⟨rfl,(aaO _ _).alloc (Zh _) _⟩
   by_cases c3:s≤200
   rotate_left
   ·have q3:decide (s≤200)=false:=ZE c3;have HE:Hid (rE k g s b v.size=8):=by simp[Hid,rE,Rp.gK,hv,hj,c0,c1,c2,c3]
    go_wp2;go_ret;rw[HE.out];exact⟨rfl,(aaO _ _).alloc (Zh _) _⟩
   by_cases c4:(v.size:Int)≤1024
   rotate_left
   ·have q4:decide ((v.size:Int)≤1024)=false:=ZE c4;have c5:¬v.size≤1024:=by omega
    have HE:Hid (rE k g s b v.size=8):=by simp[Hid,rE,Rp.gK,hv,hj,c0,c1,c2,c3,c5]
    go_wp2;go_ret;rw[HE.out];exact⟨rfl,(aaO _ _).alloc (Zh _) _⟩
   have c5:v.size≤1024:=by omega
   cases hb:(b==0) with
   |true=>
    have HE:Hid (rE k g s b v.size=0):=by simp[Hid,rE,Rp.gK,hv,hj,c0,c1,c2,c3,c5,hb]
    go_wp2;go_ret;rw[HE.out];exact⟨rfl,(aaO _ _).alloc (Zh _) _⟩
   |false=>
    have HE:Hid (rE k g s b v.size=8):=by simp[Hid,rE,Rp.gK,hv,hj,c0,c1,c2,c3,c5,hb]
    go_wp2;go_ret;rw[HE.out];exact⟨rfl,(aaO _ _).alloc (Zh _) _⟩
  |false=>
   have HE:Hid (rE k g s b v.size=8):=by simp[Hid,rE,Rp.gK,hv,hj]
   go_wp2;go_ret;rw[HE.out];exact⟨rfl,(aaO _ _).alloc (Zh _) _⟩
end
variable{bx0:List Bx}{n':Nat}{x y:Operand}{t:TypeId}
section
open Go.RowKit Go.Maps
theorem U0 {n:Int}(h:i64 n):(Lit.int .i64 n).wf=true:=WalkArith.wf_i64 h
theorem Jl {n:Int}(h:i64 n):keyOf prog 3 n=some (.int .i64 n):=keyOf_int_mk underlying3 (U0 h)
def Sk (w:World)(g n:Nat):Prop:=∃D:DataW Unit,w.ownsMap prog 3 (plainElem prog 3) g n D∧(n=0→D=.map [])
def Ai (g n:Nat):It where
 p:=fun _ w=>Sk w g n
 bl:=[g]
 mono:=fun h _=>h
 keep:=fun h hk=>h.imp fun D h=>⟨by
  obtain⟨⟨es,cl,h1,h2⟩,-⟩:=h;exact⟨es,cl,(hk _ (Zp.2 rfl)).trans h1,h2⟩,h.2⟩
 lt:=fun h g hg=>by rw[Zp.1 hg];exact h.elim fun D h=>h.1.lt
theorem TG {w:World}{n:Nat}(h:Sk w g n){i:Int}(hi:i64 i):∃c:Int,Hid (n=0→c=0)∧(Instr.lookup 361 (.map (some g)) i false).run prog w=.ok c w:=by
 obtain⟨D,hD,h0⟩:=h;obtain⟨c,hrun,h1,_⟩:=hD.lookup_int (int_keyed underlying3) underlying361 underlying3 (by kernel_rfl) (Jl hi);refine⟨c,L_ fun hn=>?_,hrun⟩;rw[h0 hn] at h1;simp[DataW.atKey] at h1;exact h1.symm
section
variable{b:Nat}{w0 w:World}{bx:List Bx}{is:List It}{ops:Array Oper}{Q:Exit→Act→World→Prop}{a:Act}
theorem Uk {rest:List Oper}(E:Env b w0 bx is w)(h:∀g w',Env b w0 bx (Ai g 0::is) w'→wpList prog ops Q rest (a.put o.dst (.map (some g))) w')
  (hg:o.guard=none:=by rfl) (hr:(execOp a.eval o).run prog w=.ok (.value (.map (some w))) (w.alloc (.map #[] 0)):=by(have hmm:=@run_makeMap prog)<;>go_simp<;>with_reducible rfl):wpList prog ops Q (o::rest) a w:=by
 refine wpList_plain hg fun K hK=>?_;unfold Oper.wp;rw[hr];exact hK _ _ (h _ _ (E.gG ((aaO _ w).alloc (Zh _) _) (Ai w 0) ⟨_,World.ownsMap_made w prog _ _,fun _=>rfl⟩ (fun g hg=>by rw[Zp.1 hg];exact Zh _)))
theorem V5 (q:Nat){rest:List Oper}{m:Operand}{n:Nat}{v:Int}(E:Env b w0 bx is w)(hv:i64 v)(h:∀c:Int,Hid (n=0→c=0)→wpList prog ops Q rest (a.put o.dst c) w)
  (hq:is[q]?=some (Ai g n):=by rfl) (hg:Region.wanted o (yielded ops a.tmps)=true:=by rfl) (ho:o.op=Op.lookup t m x false:=by rfl) (ht:t=361:=by rfl) (hm:a.eval m=.map (some g):=by rfl) (hx:a.eval x=v:=by rfl):wpList prog ops Q (o::rest) a w:=by
 subst ht;obtain⟨c,h0,hrun⟩:=TG (E.get q hq) hv;refine wpList_step fun K hK=>?_;rw[aaS hg];unfold Oper.wp;simp[execOp,ho,hm,hx,hrun,Result.andThen];exact hK _ _ (h c h0)
theorem Wo (q:Nat){r:List (Nat×Bool)}{rest:List Oper}{m:Operand}{n:Nat}{v:Int}(E:Env b w0 bx is w)(hv:i64 v)(h:∀c:Int,Hid (n=0→c=0)→aH prog ops Q (Env b w0 bx0 []) n' r (a.put o.dst c) w)
  (hi:ops.toList.drop i=o::rest:=by rfl) (hq:is[q]?=some (Ai g n):=by rfl) (hg:Region.wanted o (yielded ops a.tmps)=true:=by rfl) (ho:o.op=Op.lookup t m x false:=by rfl) (ht:t=361:=by rfl) (hm:a.eval m=.map (some g):=by rfl) (hx:a.eval x=v:=by rfl) (hsb:bx0.Sublist bx:=by first|exact Zi _|exact Zj _ (Zi _)|exact Zj _ (Zj _ (Zi _))):aH prog ops Q (Env b w0 bx0 []) n' ((i,true)::r) a w:=by
 subst ht;obtain⟨c,h0,hrun⟩:=TG (E.get q hq) hv;unfold aH wpOp;simp only[aL hi,hg,if_true];refine Or.inl ?_;unfold Oper.wp;simp[execOp,ho,hm,hx,hrun,Result.andThen];exact⟨E.sub hsb (Zy _),h c h0⟩
theorem YC (q:Nat){rest:List Oper}{m:Operand}{n:Nat}{v c:Int}(E:Env b w0 bx is w)(hv:i64 v)(h:∀w',Env b w0 bx (is.set q (Ai g (n+1))) w'→wpList prog ops Q rest (a.put o.dst undef) w')
  (hq:is[q]?=some (Ai g n)) (hn:n<1000000) (hg:o.guard=none) (ho:o.op=Op.mapUpdate t m x y) (ht:t=361) (hm:a.eval m=.map (some g)) (hx:a.eval x=v) (hy:a.eval y=c) (hw:(Lit.int .i64 c).wf=true):wpList prog ops Q (o::rest) a w:=by
 obtain⟨D,hD,-⟩:=show Sk w g n from E.get q hq;refine pJ w hg m x y t ho 3 3 (int_keyed underlying3) (ht▸underlying361) g n hm ⟨D,hD⟩ (aal hn (by decide)) _ _ _ hx hy (Jl hv) _ (plainElem_int underlying3 hw) fun w' h1 h2=>?_;exact h _ (E.row q hq h2 (fun g' e=>Zp.2 (Z4 e).symm) (show Sk w' g (n+1) from h1.elim fun D h=>⟨D,h,fun h=>absurd h (by omega)⟩) fun g' hg'=>Or.inl hg')
theorem Xw (q:Nat){r:List (Nat×Bool)}{rest:List Oper}{m:Operand}{n:Nat}{v c:Int}(E:Env b w0 bx is w)(hv:i64 v)(h:∀w',Env b w0 bx (is.set q (Ai g (n+1))) w'→aH prog ops Q (Env b w0 bx0 []) n' r a w')
  (hi:ops.toList.drop i=o::rest:=by rfl) (hq:is[q]?=some (Ai g n):=by rfl) (hn:n<1000000:=by omega) (hg:o.guard=none:=by rfl) (hd:o.dst=none:=by rfl) (ho:o.op=Op.mapUpdate t m x y:=by rfl) (ht:t=361:=by rfl) (hm:a.eval m=.map (some g):=by rfl) (hx:a.eval x=v:=by rfl) (hy:a.eval y=c:=by rfl) (hw:(Lit.int .i64 c).wf=true:=by decide) (hsb:bx0.Sublist bx:=by first|exact Zi _|exact Zj _ (Zi _)|exact Zj _ (Zj _ (Zi _))):aH prog ops Q (Env b w0 bx0 []) n' ((i,true)::r) a w:=by
 refine sN (aL hi) ?_;refine YC q E hv (fun w' E'=>?_) hq hn hg ho ht hm hx hy hw;rw[hd];exact⟨E'.sub hsb (Zy _),h w' E'⟩
end
end
end Go.Proofs.YtaebfkcgdmodlaaGreatDoor
