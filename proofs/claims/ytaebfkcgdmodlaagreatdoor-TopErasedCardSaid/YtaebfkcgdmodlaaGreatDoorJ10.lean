/-
  A part of the proof that the erased node of towncrier reads nothing (TopErased).
-/
import Derived.Test.YtaebfkcgdmodlaaGreatDoorJ09c
import Derived.Test.YtaebfkcgdmodlaaGreatDoorJ07
namespace Go.Proofs.YtaebfkcgdmodlaaGreatDoor
open Go.RowKit Go.Proofs.Tryz
set_option maxHeartbeats 16000000
set_option maxRecDepth 100000
set_option linter.unusedVariables false
set_option linter.unusedSimpArgs false
variable{k:Nat}
section
open Go.RowKit Bal Go.Sort Go.BigFrame
def Xy (m:Wp.aY)(fl:List UInt8)(ok0:Bool)(gm gp:Nat)(w:World)(x5 x45:Value)(wr:World):Prop:=
 ∃(j:Nat) (o:Bool),x45=(j:Int)∧j≤fl.length∧x5=o∧o=(ok0&&F8 m (fl.take j))∧aF wr gm 62 (mA m)∧aF wr gp 62 (mA (Wp.vU (fl.take j) m (Wp.jY m.f m.t m.k m.g)))∧Below w w wr
def RL (n:Int):Prop:=-9223372036854775808≤n∧n≤9223372036854775807
def kH (m:Wp.aY):Prop:=(0≤m.k∧m.k≤255)∧m.v.length≤9223372036854775807∧RL m.f∧RL m.t∧RL m.g∧RL m.s∧RL m.b∧RL m.p∧RL m.i∧RL m.tm
theorem sK:∀(cs:List UInt8) (c:UInt8) (m m0:Wp.aY),Wp.vU (cs++[c]) m m0=if c=118 then{ Wp.vU cs m m0 with v:=m.v } else(Wp.vU cs m m0).put c (m.get c)
 |[],c,m,m0=>by
  simp only[aay,Wp.vU]
 |d::cs,c,m,m0=>by
  simp only[aap,Wp.vU]
  split
  ·exact sK cs c m _
  ·exact sK cs c m _
theorem yM (m:Wp.aY)(cs:List UInt8)(c:UInt8):F8 m (cs++[c])=(F8 m cs&&(c==118||bg m c (m.get c))):=by simp[F8]
theorem take_snoc' {l:List UInt8}(h:k<l.length):l.take (k+1)=l.take k++[l[k]]:=by
 rw[List.take_succ_eq_append_getElem h]
theorem XA (fl:List UInt8)(j:Nat)(hj:j<fl.length)(w:World):(Instr.index 9 (.string (S fl)) ((j:Int))).run prog w=.ok (.int .u8 ((fl[j]).toNat:Int)) w:=by
 have hs:=kZ fl;rw[run_index_string w 9 (S fl) .i64 (j:Int) underlying9,dif_pos (by omega)];rfl
theorem QX {m:Wp.aY}(h:kH m)(c:UInt8):RL (m.get c):=by
 obtain⟨_,_,_,_,_,h1,h2,h3,h4,h5⟩:=h;unfold Wp.aY.get
 repeat' split
 all_goals assumption
def Xi (m:Wp.aY):Int:=if XJ m then 0 else 8
theorem Vx {m:Wp.aY}{x:Bool}(h:XJ m=x):Xi m=if x then 0 else 8:=by rw[Xi,h]
theorem SB (m:Wp.aY)(w:World)(hm:kH m) :
  Calls prog 154 #[.agg (mA m)] w fun e w'=>e=.returned ((Xi m))∧Below w w w':=by
 obtain⟨fl,hfl⟩:∃fl,Wp.dM m.k=fl:=⟨_,rfl⟩;obtain⟨F,hF⟩:∃F,S fl=F:=⟨_,rfl⟩;obtain⟨U,hU⟩:∃U,S m.v=U:=⟨_,rfl⟩;have hk:=hm.1;have HFl:=L_ hfl;have HF:=L_ hF;have HU:=L_ hU;have HM:=L_ hm;have hfz:F.size=fl.length:=by rw[←hF];exact kZ fl
 have huz:U.size=m.v.length:=by rw[←hU];exact kZ _
 have hul:U.size≤9223372036854775807:=by rw[huz];exact hm.2.1
 have HUZ:=L_ huz;clear huz;have W1:=EP m.k (w.alloc (.cells (mA m) 62)) hk.1 hk.2;rw[hfl,hF] at W1;have HW1:=L_ W1;clear W1 hfl hF hm;have eA:mA m=#[.int .i64 m.f,.int .i64 m.t,.int .u8 m.k,.int .i64 m.g,.int .i64 m.s,.int .i64 m.b,.int .i64 m.p,.string U,.int .i64 m.i,.int .i64 m.tm]:=by rw[←hU];rfl
 clear hU;rw[eA] at HW1 ⊢;have EA:=L_ eA;clear eA
 go_enter func154,ntmps154
 go_wp2_with fail
 with_reducible refine HW1.out.mono ?_
 rintro e w1 ⟨rfl,hb⟩;have KM:=L_ (aF.below (aF.new w 62 #[m.f,m.t,.int .u8 m.k,m.g,m.s,m.b,m.p,.string U,m.i,m.tm]) hb (by simp));have B1:=L_ (aR (hb.mono (B':=w.heap.size) (by simp)) (Zh _));have c0:=KM.cell 0;have c1:=KM.cell 1;have c2:=KM.cell 2;have c3:=KM.cell 3;have c7:=KM.cell 7;have lt1:=KM.lt;clear hb HW1;have hemp:F.toList.isEmpty=fl.isEmpty:=by rw[←HF.out,um]
 have HEMP:=L_ hemp;clear hemp
 go_upto_region 3 with fail
 go_cut [5] (fun s5 wx=>s5=.bool (Ed m)∧wx=(w1.alloc (.cells #[m.f,m.t,.int .u8 m.k,m.g,.int .i64 0,.int .i64 0,.int .i64 0,.string ⟨#[]⟩,.int .i64 0,.int .i64 0] 62)))
 case first=>
  cases he:F.toList.isEmpty with
  |true=>
   have he2:fl.isEmpty=true:=HEMP.symm.trans he;have HE:Hid (Ed m=false):=by simp[Hid,Ed,Wp.lU,HFl.out,he2]
   go_wp2_with fail
   go_meet
   exact⟨by rw[HE.out],rfl⟩
  |false=>
   have he2:fl.isEmpty=false:=HEMP.symm.trans he
   by_cases h0:(0:Int)≤m.f∧m.f≤5
   rotate_left
   ·have HI0:=L_ (vo m.f 0 5 (w1.alloc (.cells #[m.f,m.t,.int .u8 m.k,m.g,.int .i64 0,.int .i64 0,.int .i64 0,.string ⟨#[]⟩,.int .i64 0,.int .i64 0] 62)) h0);have HE:Hid (Ed m=false):=by simp[Hid,Ed,Wp.lU,HFl.out,he2,h0]
    go_wp2_with (first|(with_reducible refine HI0.out.mono ?_;rintro e w' ⟨rfl,rfl⟩))
    go_meet
    exact⟨by rw[HE.out],rfl⟩
   have HI0:=L_ (qK m.f 0 5 (w1.alloc (.cells #[m.f,m.t,.int .u8 m.k,m.g,.int .i64 0,.int .i64 0,.int .i64 0,.string ⟨#[]⟩,.int .i64 0,.int .i64 0] 62)) h0)
   by_cases h1:(0:Int)≤m.t∧m.t≤5
   rotate_left
   ·have HI1:=L_ (vo m.t 0 5 (w1.alloc (.cells #[m.f,m.t,.int .u8 m.k,m.g,.int .i64 0,.int .i64 0,.int .i64 0,.string ⟨#[]⟩,.int .i64 0,.int .i64 0] 62)) h1);have HE:Hid (Ed m=false):=by simp[Hid,Ed,Wp.lU,HFl.out,he2,h0,h1]
    go_wp2_with (first|(with_reducible refine HI0.out.mono ?_;rintro e w' ⟨rfl,rfl⟩)|(with_reducible refine HI1.out.mono ?_;rintro e w' ⟨rfl,rfl⟩))
    go_meet
    exact⟨by rw[HE.out],rfl⟩
   have HI1:=L_ (qK m.t 0 5 (w1.alloc (.cells #[m.f,m.t,.int .u8 m.k,m.g,.int .i64 0,.int .i64 0,.int .i64 0,.string ⟨#[]⟩,.int .i64 0,.int .i64 0] 62)) h1)
   by_cases h2:(0:Int)≤m.g∧m.g≤3
   rotate_left
   ·have HI2:=L_ (vo m.g 0 3 (w1.alloc (.cells #[m.f,m.t,.int .u8 m.k,m.g,.int .i64 0,.int .i64 0,.int .i64 0,.string ⟨#[]⟩,.int .i64 0,.int .i64 0] 62)) h2);have HE:Hid (Ed m=false):=by simp[Hid,Ed,Wp.lU,HFl.out,he2,h0,h1,h2]
    go_wp2_with (first|(with_reducible refine HI0.out.mono ?_;rintro e w' ⟨rfl,rfl⟩)|(with_reducible refine HI1.out.mono ?_;rintro e w' ⟨rfl,rfl⟩)|(with_reducible refine HI2.out.mono ?_;rintro e w' ⟨rfl,rfl⟩))
    go_meet
    exact⟨by rw[HE.out],rfl⟩
   have HI2:=L_ (qK m.g 0 3 (w1.alloc (.cells #[m.f,m.t,.int .u8 m.k,m.g,.int .i64 0,.int .i64 0,.int .i64 0,.string ⟨#[]⟩,.int .i64 0,.int .i64 0] 62)) h2);cases hz:decide ((U.size:Int)≤1024) with
   |true=>
    have hz2:m.v.length≤1024:=by have:=aae hz;have:=HUZ.out;omega
    have HE:Hid (Ed m=true):=by simp[Hid,Ed,Wp.lU,HFl.out,he2,h0,h1,h2,hz2]
    go_wp2_with (first|(with_reducible refine HI0.out.mono ?_;rintro e w' ⟨rfl,rfl⟩)|(with_reducible refine HI1.out.mono ?_;rintro e w' ⟨rfl,rfl⟩)|(with_reducible refine HI2.out.mono ?_;rintro e w' ⟨rfl,rfl⟩))
    go_meet
    exact⟨by rw[HE.out],rfl⟩
   |false=>
    have hz2:¬m.v.length≤1024:=by have:=of_decide_eq_false hz;have:=HUZ.out;omega
    have HE:Hid (Ed m=false):=by simp[Hid,Ed,Wp.lU,HFl.out,he2,h0,h1,h2,hz2]
    go_wp2_with (first|(with_reducible refine HI0.out.mono ?_;rintro e w' ⟨rfl,rfl⟩)|(with_reducible refine HI1.out.mono ?_;rintro e w' ⟨rfl,rfl⟩)|(with_reducible refine HI2.out.mono ?_;rintro e w' ⟨rfl,rfl⟩))
    go_meet
    exact⟨by rw[HE.out],rfl⟩
 case rest=>
  obtain⟨rfl,rfl⟩:=hcut;have KM:=L_ (KM.alloc (.cells #[m.f,m.t,.int .u8 m.k,m.g,.int .i64 0,.int .i64 0,.int .i64 0,.string ⟨#[]⟩,.int .i64 0,.int .i64 0] 62));have KP:=L_ (aF.new w1 62 #[m.f,m.t,.int .u8 m.k,m.g,.int .i64 0,.int .i64 0,.int .i64 0,.string ⟨#[]⟩,.int .i64 0,.int .i64 0]);have BW:=L_ (B1.alloc B1.size (.cells #[m.f,m.t,.int .u8 m.k,m.g,.int .i64 0,.int .i64 0,.int .i64 0,.string ⟨#[]⟩,.int .i64 0,.int .i64 0] 62));clear c0 c1 c2 c3 c7;generalize (w1.alloc (.cells #[m.f,m.t,.int .u8 m.k,m.g,.int .i64 0,.int .i64 0,.int .i64 0,.string ⟨#[]⟩,.int .i64 0,.int .i64 0] 62))=W at *;have hgp:w.heap.size≠w1.heap.size:=by omega
  have hgp2:w1.heap.size≠w.heap.size:=by omega
  have hge:w.heap.size≤w1.heap.size:=by omega
  obtain⟨gm,hgm⟩:∃g,w.heap.size=g:=⟨_,rfl⟩;obtain⟨gp,hgpe⟩:∃g,w1.heap.size=g:=⟨_,rfl⟩;rw[hgm] at KM hgp hgp2 lt1 hge;rw[hgpe] at KP hgp hgp2 lt1 hge;rw[←EA.out] at KM;have HGM:=L_ hgm;rw[hgm,hgpe];clear hgm hgpe;go_wp2_with fail
  have hfl9:fl.length≤9223372036854775807:=by
   rw[←HFl.out];unfold Wp.dM
   repeat' split
   all_goals decide
  go_loopw [5,45] (fun x5 x45 wr=>Xy m fl (Ed m) gm gp w x5 x45 wr) (fun _ x45 _=>fl.length - (intOf x45).toNat)
  case atStart=>exact⟨0,Ed m,rfl,Zq _,rfl,by simp[F8],KM,KP,BW⟩
  case round=>
   obtain⟨j,o,rfl,hj,rfl,ho,km,kp,bw⟩:=hrel;have HO:=L_ ho;have RM:=L_ km;have RP:=L_ kp;have RB:=L_ bw;clear ho km kp bw
   by_cases hlt:j<fl.length
   ·obtain⟨c,hc⟩:∃c,fl[j]=c:=⟨_,rfl⟩;have hidx:∀w,(Instr.index 9 (.string F) ((j:Int))).run prog w=.ok (.int .u8 (c.toNat:Int)) w:=fun w=>by rw[←HF.out,XA fl j hlt w,hc]
    have hlet:c=118∨Wp.letter c:=by have:=(Wp.oh m.k).2 c;rw[HFl.out] at this;exact this (hc▸List.getElem_mem hlt)
    have hts:=take_snoc' hlt;rw[hc] at hts;have HTS:=L_ hts;have HLT:Hid ((j:Int)<(F.size:Int)):=by rw[Hid,hfz];omega
    have hjf:=HLT.out;clear hts hc
    by_cases h118:c=118
    ·subst h118;have cm7:=RM.cell 7;have cp7:=RP.cell 7;have fp7:=RP.frozen 7;have cm7':wr.cell? ⟨gm,7,none⟩=some (.string (S m.v)):=cm7;have hcp:(mA (Wp.vU (fl.take j) m (Wp.jY m.f m.t m.k m.g)))[7]?=some (.string (S (Wp.vU (fl.take j) m (Wp.jY m.f m.t m.k m.g)).v)):=rfl;rw[hcp] at cp7;clear cm7 hcp;go_wp2
     go_roundw
     case rel=>
      refine⟨j+1,o,by go_num,hlt,rfl,?_,RM.far hgp _,?_,RB.setCell (by rw[HGM.out];exact hge) _⟩
      ·rw[HO.out,HTS.out,yM];simp
      ·have:=RP.aM 7 (.string (S m.v));rw[Yq] at this;rw[HTS.out,sK,aaS rfl];exact this
     case measure=>simp[intOf];omega
    ·have hl2:=hlet.resolve_left h118
     have hne:((c.toNat:Int)==118)=false:=by
      have:c.toNat≠118:=fun e=>h118 (UInt8.toNat_inj.1 e);simpa using (show ¬(c.toNat:Int)=118 by omega)
     have cg:wr.cell? ⟨gm,off c,none⟩=some ((m.get c)):=(RM.cell (off c)).trans (OZ m c);have cp:=(RP.cell (off c)).trans (OZ (Wp.vU (fl.take j) m (Wp.jY m.f m.t m.k m.g)) c);have fp:=RP.frozen (off c);have bI:=QX HM c;obtain⟨bI1,bI2⟩:=bI;have P1:=L_ (yO gm c wr hl2);have P2:=L_ (yO gp c wr hl2);have HL2:=L_ hl2;clear hlet hl2;go_wp2_with fail
     with_reducible refine P1.out.mono ?_
     rintro e w' ⟨rfl,rfl⟩;go_wp2_with fail
     with_reducible refine P2.out.mono ?_
     rintro e w' ⟨rfl,rfl⟩;clear P1 P2;have RM2:=L_ (RM.far (p:=⟨gp,off c,none⟩) hgp ((m.get c)))
     have RP2:Hid (aF (wr.setCell ⟨gp,off c,none⟩ ((m.get c))) gp 62 (mA (Wp.vU (fl.take (j+1)) m (Wp.jY m.f m.t m.k m.g)))):=by
      have:=RP.aM (off c) ((m.get c));rw[U4] at this;rw[HTS.out,sK,aaR h118];exact this
     have RB2:=L_ (RB.setCell (p:=⟨gp,off c,none⟩) (by rw[HGM.out];exact hge) ((m.get c)));cases o with
     |false=>
      go_wp2_with fail;clear cg cp fp;generalize wr.setCell ⟨gp,off c,none⟩ ((m.get c))=W3 at *
      go_quiet (fail)
      go_wp2
      go_roundw
      case rel=>
       refine⟨j+1,false,by go_num,hlt,rfl,?_,RM2.drewN _,RP2.drewN _,below_drewN RB2 _⟩;rw[HTS.out,yM,←Bool.and_assoc,←HO.out,Bool.false_and]
      case measure=>simp[intOf];omega
     |true=>
      go_wp2_with fail;clear cg cp fp;generalize wr.setCell ⟨gp,off c,none⟩ ((m.get c))=W3 at *;have FR:=L_ (qb (W:=W3) fun cur _=>GV m c (m.get c) cur HL2 bI1 bI2);rw[EA.out] at FR;have RM3:=L_ RM2;rw[EA.out] at RM3;have x0:=cell_regrown (RM3.cell 0);have x1:=cell_regrown (RM3.cell 1);have x2:=cell_regrown (RM3.cell 2);have x3:=cell_regrown (RM3.cell 3);have x4:=cell_regrown (RM3.cell 4);have x5:=cell_regrown (RM3.cell 5);have x6:=cell_regrown (RM3.cell 6);have x7:=cell_regrown (RM3.cell 7);have x8:=cell_regrown (RM3.cell 8);have x9:=cell_regrown (RM3.cell 9);refine wp_region_quiet_below (by kernel_rfl) (by kernel_rfl) ?_
      repeat (go_big_quiet_step ((first|with_reducible exact FR.out _ _)))
      refine wpQuiet_nil ?_;intro _ hw';obtain⟨⟨dq,osq⟩,hw''⟩:=hw';subst hw'';go_wp2
      go_roundw
      case rel=>
       refine⟨j+1,bg m c (m.get c),by go_num,hlt,rfl,?_,RM2.below (below_regrown _ _ _) RM2.lt,RP2.below (below_regrown _ _ _) RP2.lt,then_ RB2 (below_regrown _ _ _)⟩;have hx:(c==118)=false:=by simpa using h118
       rw[HTS.out,yM,←Bool.and_assoc,←HO.out,Bool.true_and,hx,Bool.false_or]
      case measure=>simp[intOf];omega
   ·obtain rfl:j=fl.length:=by omega
    have hjf:¬((fl.length:Int)<(F.size:Int)):=by omega
    have hho:=HO.out;have hrp:=RP.out;rw[List.take_length] at hho hrp;obtain⟨M,hM⟩:∃M,Wp.vU fl m (Wp.jY m.f m.t m.k m.g)=M:=⟨_,rfl⟩;rw[hM] at hrp;have HOC:Hid (Xi m=if (o&&Hw M m) then 0 else 8):=Vx (by rw[XJ,HFl.out,hM,←hho]);have RM3:=L_ RM;rw[EA.out] at RM3;have heq:∀w,(Op.equalIn 10000 62 (.agg #[M.f,M.t,.int .u8 M.k,M.g,M.s,M.b,M.p,.string (S M.v),M.i,M.tm]) (.agg #[m.f,m.t,.int .u8 m.k,m.g,m.s,m.b,m.p,.string U,m.i,m.tm])).run prog w=.ok (Hw M m) w:=fun w=>by rw[←EA.out];exact GZ M m w
    have UV:Hid (∀i,wr.cell? ⟨gp,i,none⟩=(mA M)[i]?):=L_ fun i=>hrp.cell i;have x0:=RM3.cell 0;have x1:=RM3.cell 1;have x2:=RM3.cell 2;have x3:=RM3.cell 3;have x4:=RM3.cell 4;have x5:=RM3.cell 5;have x6:=RM3.cell 6;have x7:=RM3.cell 7;have x8:=RM3.cell 8;have x9:=RM3.cell 9;have y0:wr.cell? ⟨gp,0,none⟩=some (.int .i64 M.f):=UV 0;have y1:wr.cell? ⟨gp,1,none⟩=some (.int .i64 M.t):=UV 1;have y2:wr.cell? ⟨gp,2,none⟩=some (.int .u8 M.k):=UV 2;have y3:wr.cell? ⟨gp,3,none⟩=some (.int .i64 M.g):=UV 3;have y4:wr.cell? ⟨gp,4,none⟩=some (.int .i64 M.s):=UV 4;have y5:wr.cell? ⟨gp,5,none⟩=some (.int .i64 M.b):=UV 5;have y6:wr.cell? ⟨gp,6,none⟩=some (.int .i64 M.p):=UV 6;have y7:wr.cell? ⟨gp,7,none⟩=some (.string (S M.v)):=UV 7;have y8:wr.cell? ⟨gp,8,none⟩=some (.int .i64 M.i):=UV 8;have y9:wr.cell? ⟨gp,9,none⟩=some (.int .i64 M.tm):=UV 9;clear hho hrp hM;have HEQ:=L_ heq;clear heq;cases o with
    |false=>
     go_wp2;go_ret;rw[HOC.out];exact⟨rfl,RB⟩
    |true=>
     cases he:Hw M m with
     |false=>
      have heq:=HEQ.out;rw[he] at heq;have HE:=L_ he;clear he;go_wp2;go_ret;rw[HOC.out,HE.out];exact⟨rfl,RB⟩
     |true=>
      have heq:=HEQ.out;rw[he] at heq;have HE:=L_ he;clear he;go_wp2;go_ret;rw[HOC.out,HE.out];exact⟨rfl,RB⟩
theorem yx (m:Wp.aY)(w:World)(hm:kH m) :
  Calls prog 154 #[.agg (mA m)] w fun e w'=>e=.returned (.int .i64 (if Wp.El m then 0 else 8))∧Below w.heap.size w w':=by
 rw[←Q9];have:=SB m w hm;unfold Xi at this;exact this
end
structure xB (m:bS):Prop where
 f:0≤m.f∧m.f<6
 t:0≤m.t∧m.t<6
 g:0≤m.g∧m.g<4
 k:1≤m.k∧m.k≤9
 s:m.k≠8→m.k≠9→1≤m.s∧m.s≤201
 v:m.v.size≤1024
def bS.wp (m:bS):Wp.aY:=⟨m.f,m.t,m.k,m.g,m.s,m.b,m.p,m.v.data.toList,m.i,m.tm⟩
theorem TB (m:bS):mA m.wp=m:=by
 unfold mA bS.wp;rw[LJ]
theorem Jc {m:bS}(h:Wp.El m.wp=true):xB m:=by
 unfold Wp.El Wp.lU Wp.mI bS.wp at h;simp only[Zr,Zx] at h;obtain⟨h1,h2⟩:=h
 have hk:1≤m.k∧m.k≤9∧(m.k≠8→m.k≠9→1≤m.s∧m.s≤201):=by
  unfold Wp.iK at h2
  repeat' split at h2
  all_goals first
   |(cases h2;done)
   |(simp only[Zr,Bool.or_eq_true,Zx,aar] at h2;omega)
 have hv:m.v.size=m.v.data.toList.length:=by rw[ZO];rfl
 exact⟨by omega,by omega,by omega,⟨hk.1,hk.2.1⟩,hk.2.2,by omega⟩
theorem P6 (m:bS)(w:World)(hw:gN m):Calls prog 154 #[m] w fun e w'=>∃v,e=.returned (.int .i64 v)∧(v=0→xB m)∧Below w w w':=by
 rw[←TB];have hv:m.v.size=m.v.data.toList.length:=by rw[ZO];rfl
 have:=hw.v;refine(yx m.wp w ⟨hw.k,(by show m.v.data.toList.length≤_;omega),hw.f,hw.t,hw.g,hw.s,hw.b,hw.p,hw.i,hw.tm⟩).mono fun e w' ⟨h1,h2⟩=>⟨_,h1,fun h0=>Jc ?_,h2⟩;cases hq:Wp.El m.wp
 ·rw[hq] at h0;simp at h0
 ·rfl
section
attribute [local irreducible] wpList av
theorem Uz (t u:dZ)(w:World)(N:Nat)(ht:au.aA w w N t)(hu:au.aA w w N u)(hN:N≤1000000):Calls prog 233 #[t,u] w fun e w'=>jR e∧Below w w w':=by
 have HT:=L_ ht;have HU:=L_ hu;clear ht hu;have E:=Env.start w
 go_enter func233,ntmps233
 refine G E [5,71,3,71,3,0,4,5,0,41,0,40,9] ?_;clear E;intro g2 g3 w3 E
 by_cases h1:(t.me==u.me)=false
 case pos=>
  refine G0 [0,0,1,82,82,81,80,2,2,2,2,4,22] ?_;exact ak ⟨jR.mk _,E.aD⟩
 replace h1:(t.me==u.me)=true:=by simpa using h1
 refine G E [84,41,0,40] ?_
 by_cases h2:(t.num==u.num)=false
 case pos=>
  refine G0 [84,1,82,82,81,2,2,4,22] ?_;exact ak ⟨jR.mk _,E.aD⟩
 replace h2:(t.num==u.num)=true:=by simpa using h2
 refine G E [83,41,0,0,40] ?_;refine ah (eZ t.g.r u.g.r _ N (E.h HT).1 (E.h HU).1 (by omega)) ?_;rintro _ w4 ⟨b,rfl,hw⟩;replace E:=E.up hw;clear hw;refine G0 [26] ?_;cases b
 case false=>
  refine G0 [0,0,1,82,82,2,2,2,4,22] ?_;exact ak ⟨jR.mk _,E.aD⟩
 refine G E [84,0,41,0,0,40] ?_;refine ah (eZ t.g.m u.g.m _ N (E.h HT).2.1 (E.h HU).2.1 (by omega)) ?_;rintro _ w5 ⟨b,rfl,hw⟩;replace E:=E.up hw;clear hw;refine G0 [26] ?_;cases b
 case false=>
  refine G0 [0,0,1,82,81,2,2,2,2,4,22] ?_;exact ak ⟨jR.mk _,E.aD⟩
 refine G E [84,41,0,40] ?_;refine ah (je t.log u.log _ N (E.h HT).2.2.1 (E.h HU).2.2.1 (by omega)) ?_;rintro _ w6 ⟨b,rfl,hw⟩;replace E:=E.up hw;clear hw;refine G0 [26] ?_;cases b
 case false=>
  refine G0 [0,0,1,82,80,2,2,4,22] ?_;exact ak ⟨jR.mk _,E.aD⟩
 refine G E [84,41,0,40] ?_;refine ah (sQ t.vs u.vs _ N (E.h HT).2.2.2.1 (E.h HU).2.2.2.1 (by omega)) ?_;rintro _ w7 ⟨b,rfl,hw⟩;replace E:=E.up hw;clear hw;refine G0 [26] ?_;cases b
 case false=>
  refine G0 [0,0,1,82,4,22] ?_;exact ak ⟨jR.mk _,E.aD⟩
 refine G0 [84] ?_;refine oC 1 7 E ?_;refine fV ?_;refine oC 0 7 E ?_;refine ah (Av t.t u.t _ N (Dv (E.h HT)) (Dv (E.h HU)) (by omega)) ?_;rintro _ w8 ⟨⟨b,rfl⟩,hw⟩;replace E:=E.up hw;clear hw;refine G0 [26] ?_;cases b
 case false=>
  refine G0 [0,0,1,81,2,2,2,4,22] ?_;exact ak ⟨jR.mk _,E.aD⟩
 refine G E [84,41,0,40] ?_;refine ah (je t.wi u.wi _ N (E.h HT).2.2.2.2.2.2.2 (E.h HU).2.2.2.2.2.2.2 (by omega)) ?_;rintro _ w9 ⟨b,rfl,hw⟩;replace E:=E.up hw;clear hw;refine G0 [26] ?_;cases b
 case false=>
  refine G0 [0,0,1,80,2,4,22] ?_;exact ak ⟨jR.mk _,E.aD⟩
 refine G E [84,41,0,40,84,4,22] ?_;exact ak ⟨jR.mk _,E.aD⟩
end
end Go.Proofs.YtaebfkcgdmodlaaGreatDoor
