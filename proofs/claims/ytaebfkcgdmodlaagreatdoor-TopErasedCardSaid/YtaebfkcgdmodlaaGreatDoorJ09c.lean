/-
  A part of the proof that the erased node of towncrier reads nothing (TopErased).
-/
import Derived.Test.YtaebfkcgdmodlaaGreatDoorJ06
namespace Go.Proofs.YtaebfkcgdmodlaaGreatDoor
open Go.RowKit Go.Proofs.Tryz
set_option maxHeartbeats 16000000
set_option maxRecDepth 100000
set_option linter.unusedVariables false
set_option linter.unusedSimpArgs false
section
open Go.RowKit Bal
theorem qK (n low high:Int)(w:World)(h:low≤n∧n≤high):Calls prog 225 #[n,low,high] w fun e w'=>e=.returned true∧w=w':=by
 have:=Jp n low high w;rw[ZG h.1,ZG h.2] at this;exact this
theorem vo (n low high:Int)(w:World)(h:¬(low≤n∧n≤high)):Calls prog 225 #[n,low,high] w fun e w'=>e=.returned false∧w=w':=by
 have:=Jp n low high w
 by_cases h1:low≤n
 ·rw[ZE (fun h2:n≤high=>h ⟨h1,h2⟩),Bool.and_false] at this;exact this
 ·rw[ZE h1,Bool.false_and] at this;exact this
def bg (m:Wp.aY)(c:UInt8)(n:Int):Bool:=
 if c=115 then Wp.iK n||(m.k==7&&n==201) else if c=112 then(if m.k=2∧n=0 then m.v.isEmpty else may n) else if c=98 then may n else if c=105 then Wp.mY n else Wp.j5 n
theorem Q8 (v:List UInt8):(S v).toList.isEmpty=v.isEmpty:=by rw[um]
theorem GV (m:Wp.aY)(c:UInt8)(n:Int)(w:World)(hc:Wp.letter c)(n0:-9223372036854775808≤n)(n1:n≤9223372036854775807) :
  Calls prog 227 #[.agg (mA m),.int .u8 (c.toNat:Int),n] w fun e w'=>e=.returned (.bool (bg m c n))∧Below w w w':=by
 obtain⟨f,t,k,g,s,b,p,v,i,tm⟩:=m;have hem:=Q8 v;show Calls prog 227 #[.agg #[f,t,.int .u8 k,g,s,b,p,.string (S v),i,tm],.int .u8 (c.toNat:Int),n] w fun e w'=>e=.returned (.bool (bg ⟨f,t,k,g,s,b,p,v,i,tm⟩ c n))∧Below w w w'
 rcases hc with rfl|rfl|rfl|rfl|rfl
 ·show Calls prog 227 #[.agg #[f,t,.int .u8 k,g,s,b,p,.string (S v),i,tm],.int .u8 115,n] w _
  by_cases h:(1:Int)≤n∧n≤200
  ·have HI:=L_ (qK n 1 200 (w.alloc (.cells #[f,t,.int .u8 k,g,s,b,p,.string (S v),i,tm] 62)) h);have HE:Hid (bg ⟨f,t,k,g,s,b,p,v,i,tm⟩ 115 n=true):=by simp[Hid,bg,Wp.iK,Wp.mY,Wp.j5,h]
   skip
   go_enter func227,ntmps227
   go_wp2_with (first|(with_reducible refine HI.out.mono ?_;rintro e w' ⟨rfl,rfl⟩));go_ret;rw[HE.out];exact⟨rfl,(aaO _ _).alloc (Zh _) _⟩
  ·have HI:=L_ (vo n 1 200 (w.alloc (.cells #[f,t,.int .u8 k,g,s,b,p,.string (S v),i,tm] 62)) h);cases h7:(k==7) with
   |false=>
    have HE:Hid (bg ⟨f,t,k,g,s,b,p,v,i,tm⟩ 115 n=false):=by simp[Hid,bg,Wp.iK,Wp.mY,Wp.j5,h,h7]
    skip
    go_enter func227,ntmps227
    go_wp2_with (first|(with_reducible refine HI.out.mono ?_;rintro e w' ⟨rfl,rfl⟩));go_ret;rw[HE.out];exact⟨rfl,(aaO _ _).alloc (Zh _) _⟩
   |true=>
    cases h8:(n==201) with
    |false=>
     have HE:Hid (bg ⟨f,t,k,g,s,b,p,v,i,tm⟩ 115 n=false):=by simp[Hid,bg,Wp.iK,Wp.mY,Wp.j5,h,h7,h8]
     skip
     go_enter func227,ntmps227
     go_wp2_with (first|(with_reducible refine HI.out.mono ?_;rintro e w' ⟨rfl,rfl⟩));go_ret;rw[HE.out];exact⟨rfl,(aaO _ _).alloc (Zh _) _⟩
    |true=>
     have HE:Hid (bg ⟨f,t,k,g,s,b,p,v,i,tm⟩ 115 n=true):=by simp[Hid,bg,Wp.iK,Wp.mY,Wp.j5,h,h7,h8]
     skip
     go_enter func227,ntmps227
     go_wp2_with (first|(with_reducible refine HI.out.mono ?_;rintro e w' ⟨rfl,rfl⟩));go_ret;rw[HE.out];exact⟨rfl,(aaO _ _).alloc (Zh _) _⟩
 ·show Calls prog 227 #[.agg #[f,t,.int .u8 k,g,s,b,p,.string (S v),i,tm],.int .u8 98,n] w _;cases hb:may n with
  |true=>
   have HB:=L_ (gQ (w.alloc (.cells #[f,t,.int .u8 k,g,s,b,p,.string (S v),i,tm] 62)) n hb);have HE:Hid (bg ⟨f,t,k,g,s,b,p,v,i,tm⟩ 98 n=true):=by simp[Hid,bg,Wp.iK,Wp.mY,Wp.j5,hb]
   skip
   go_enter func227,ntmps227
   go_wp2_with (first|(with_reducible refine HB.out.mono ?_;rintro e w' ⟨rfl,rfl⟩));go_ret;rw[HE.out];exact⟨rfl,(aaO _ _).alloc (Zh _) _⟩
  |false=>
   have HB:=L_ (fI (w.alloc (.cells #[f,t,.int .u8 k,g,s,b,p,.string (S v),i,tm] 62)) n n0 n1 hb);have HE:Hid (bg ⟨f,t,k,g,s,b,p,v,i,tm⟩ 98 n=false):=by simp[Hid,bg,Wp.iK,Wp.mY,Wp.j5,hb]
   skip
   go_enter func227,ntmps227
   go_wp2_with (first|(with_reducible refine HB.out.mono ?_;rintro e w' ⟨rfl,rfl⟩));go_ret;rw[HE.out];exact⟨rfl,(aaO _ _).alloc (Zh _) _⟩
 ·show Calls prog 227 #[.agg #[f,t,.int .u8 k,g,s,b,p,.string (S v),i,tm],.int .u8 112,n] w _;cases h2:(k==2) with
  |false=>
   have h2n:¬k=2:=by simpa using h2
   cases hb:may n with
   |true=>
    have HB:=L_ (gQ (w.alloc (.cells #[f,t,.int .u8 k,g,s,b,p,.string (S v),i,tm] 62)) n hb);have HE:Hid (bg ⟨f,t,k,g,s,b,p,v,i,tm⟩ 112 n=true):=by simp[Hid,bg,Wp.iK,Wp.mY,Wp.j5,h2n,hb]
    skip
    go_enter func227,ntmps227
    go_wp2_with (first|(with_reducible refine HB.out.mono ?_;rintro e w' ⟨rfl,rfl⟩));go_ret;rw[HE.out];exact⟨rfl,(aaO _ _).alloc (Zh _) _⟩
   |false=>
    have HB:=L_ (fI (w.alloc (.cells #[f,t,.int .u8 k,g,s,b,p,.string (S v),i,tm] 62)) n n0 n1 hb);have HE:Hid (bg ⟨f,t,k,g,s,b,p,v,i,tm⟩ 112 n=false):=by simp[Hid,bg,Wp.iK,Wp.mY,Wp.j5,h2n,hb]
    skip
    go_enter func227,ntmps227
    go_wp2_with (first|(with_reducible refine HB.out.mono ?_;rintro e w' ⟨rfl,rfl⟩));go_ret;rw[HE.out];exact⟨rfl,(aaO _ _).alloc (Zh _) _⟩
  |true=>
   have h2y:k=2:=by simpa using h2
   cases h0:(n==0) with
   |false=>
    have h0n:¬n=0:=by simpa using h0
    have H2Y:=L_ h2y;clear h2y;cases hb:may n with
    |true=>
     have HB:=L_ (gQ (w.alloc (.cells #[f,t,.int .u8 k,g,s,b,p,.string (S v),i,tm] 62)) n hb);have HE:Hid (bg ⟨f,t,k,g,s,b,p,v,i,tm⟩ 112 n=true):=by simp[Hid,bg,Wp.iK,Wp.mY,Wp.j5,h0n,hb]
     skip
     go_enter func227,ntmps227
     go_wp2_with (first|(with_reducible refine HB.out.mono ?_;rintro e w' ⟨rfl,rfl⟩));go_ret;rw[HE.out];exact⟨rfl,(aaO _ _).alloc (Zh _) _⟩
    |false=>
     have HB:=L_ (fI (w.alloc (.cells #[f,t,.int .u8 k,g,s,b,p,.string (S v),i,tm] 62)) n n0 n1 hb);have HE:Hid (bg ⟨f,t,k,g,s,b,p,v,i,tm⟩ 112 n=false):=by simp[Hid,bg,Wp.iK,Wp.mY,Wp.j5,h0n,hb]
     skip
     go_enter func227,ntmps227
     go_wp2_with (first|(with_reducible refine HB.out.mono ?_;rintro e w' ⟨rfl,rfl⟩));go_ret;rw[HE.out];exact⟨rfl,(aaO _ _).alloc (Zh _) _⟩
   |true=>
    have h0y:n=0:=by simpa using h0
    have H2Y:=L_ h2y;have H0Y:=L_ h0y;cases he:v.isEmpty with
    |false=>
     rw[he] at hem;have HE:Hid (bg ⟨f,t,k,g,s,b,p,v,i,tm⟩ 112 n=false):=by simp only[Hid,bg,h2y,h0y,he];rfl
     clear h2y h0y he;generalize S v=u at *
     go_enter func227,ntmps227
     go_wp2;go_ret;rw[HE.out];exact⟨rfl,(aaO _ _).alloc (Zh _) _⟩
    |true=>
     rw[he] at hem;have HE:Hid (bg ⟨f,t,k,g,s,b,p,v,i,tm⟩ 112 n=true):=by simp only[Hid,bg,h2y,h0y,he];rfl
     clear h2y h0y he;generalize S v=u at *
     go_enter func227,ntmps227
     go_wp2;go_ret;rw[HE.out];exact⟨rfl,(aaO _ _).alloc (Zh _) _⟩
 ·show Calls prog 227 #[.agg #[f,t,.int .u8 k,g,s,b,p,.string (S v),i,tm],.int .u8 105,n] w _
  by_cases h:(0:Int)≤n∧n≤6291455
  ·have HI:=L_ (qK n 0 6291455 (w.alloc (.cells #[f,t,.int .u8 k,g,s,b,p,.string (S v),i,tm] 62)) h);have HE:Hid (bg ⟨f,t,k,g,s,b,p,v,i,tm⟩ 105 n=true):=by simp[Hid,bg,Wp.iK,Wp.mY,Wp.j5,h]
   skip
   go_enter func227,ntmps227
   go_wp2_with (first|(with_reducible refine HI.out.mono ?_;rintro e w' ⟨rfl,rfl⟩));go_ret;rw[HE.out];exact⟨rfl,(aaO _ _).alloc (Zh _) _⟩
  ·have HI:=L_ (vo n 0 6291455 (w.alloc (.cells #[f,t,.int .u8 k,g,s,b,p,.string (S v),i,tm] 62)) h);have HE:Hid (bg ⟨f,t,k,g,s,b,p,v,i,tm⟩ 105 n=false):=by simp[Hid,bg,Wp.iK,Wp.mY,Wp.j5,h]
   skip
   go_enter func227,ntmps227
   go_wp2_with (first|(with_reducible refine HI.out.mono ?_;rintro e w' ⟨rfl,rfl⟩));go_ret;rw[HE.out];exact⟨rfl,(aaO _ _).alloc (Zh _) _⟩
 ·show Calls prog 227 #[.agg #[f,t,.int .u8 k,g,s,b,p,.string (S v),i,tm],.int .u8 116,n] w _
  by_cases h:(1:Int)≤n∧n≤1073741824
  ·have HI:=L_ (qK n 1 1073741824 (w.alloc (.cells #[f,t,.int .u8 k,g,s,b,p,.string (S v),i,tm] 62)) h);have HE:Hid (bg ⟨f,t,k,g,s,b,p,v,i,tm⟩ 116 n=true):=by simp[Hid,bg,Wp.iK,Wp.mY,Wp.j5,h]
   skip
   go_enter func227,ntmps227
   go_wp2_with (first|(with_reducible refine HI.out.mono ?_;rintro e w' ⟨rfl,rfl⟩));go_ret;rw[HE.out];exact⟨rfl,(aaO _ _).alloc (Zh _) _⟩
  ·have HI:=L_ (vo n 1 1073741824 (w.alloc (.cells #[f,t,.int .u8 k,g,s,b,p,.string (S v),i,tm] 62)) h);have HE:Hid (bg ⟨f,t,k,g,s,b,p,v,i,tm⟩ 116 n=false):=by simp[Hid,bg,Wp.iK,Wp.mY,Wp.j5,h]
   skip
   go_enter func227,ntmps227
   go_wp2_with (first|(with_reducible refine HI.out.mono ?_;rintro e w' ⟨rfl,rfl⟩));go_ret;rw[HE.out];exact⟨rfl,(aaO _ _).alloc (Zh _) _⟩
theorem KC (f t k g s b p i tm f' t' k' g' s' b' p' i' tm':Int)(v v':ByteArray)(w:World):(Op.equalIn 10000 62 (.agg #[f,t,.int .u8 k,g,s,b,p,v,i,tm]) (.agg #[f',t',.int .u8 k',g',s',b',p',v',i',tm'])).run prog w=.ok (f==f'&&(t==t'&&(k==k'&&(g==g'&&(s==s'&&(b==b'&&(p==p'&&(v.toList==v'.toList&&(i==i'&&tm==tm'))))))))) w:=by
 have h0:prog.stoodInHeld 62=false:=by kernel_rfl
 have h1:prog.underlying 62=some (.struct (prog.fieldsOf 62)):=by kernel_rfl
 have h2:=run_equalIn_struct (P:=prog) w 9999 62 #[f,t,.int .u8 k,g,s,b,p,v,i,tm] #[f',t',.int .u8 k',g',s',b',p',v',i',tm'] h1 h0;rw[show(10000:Nat)=9999+1 from rfl,h2];clear h0 h2 h1;have p0:∀(f t k g s b p i tm:Int) (v:ByteArray) (w:World),(part 3 #[f,t,.int .u8 k,g,s,b,p,v,i,tm] 0).run prog w=.ok f w:=fun _ _ _ _ _ _ _ _ _ _ _=>by kernel_rfl
 have p1:∀(f t k g s b p i tm:Int) (v:ByteArray) (w:World),(part 3 #[f,t,.int .u8 k,g,s,b,p,v,i,tm] 1).run prog w=.ok t w:=fun _ _ _ _ _ _ _ _ _ _ _=>by kernel_rfl
 have p2:∀(f t k g s b p i tm:Int) (v:ByteArray) (w:World),(part 5 #[f,t,.int .u8 k,g,s,b,p,v,i,tm] 2).run prog w=.ok (.int .u8 k) w:=fun _ _ _ _ _ _ _ _ _ _ _=>by kernel_rfl
 have p3:∀(f t k g s b p i tm:Int) (v:ByteArray) (w:World),(part 3 #[f,t,.int .u8 k,g,s,b,p,v,i,tm] 3).run prog w=.ok g w:=fun _ _ _ _ _ _ _ _ _ _ _=>by kernel_rfl
 have p4:∀(f t k g s b p i tm:Int) (v:ByteArray) (w:World),(part 3 #[f,t,.int .u8 k,g,s,b,p,v,i,tm] 4).run prog w=.ok s w:=fun _ _ _ _ _ _ _ _ _ _ _=>by kernel_rfl
 have p5:∀(f t k g s b p i tm:Int) (v:ByteArray) (w:World),(part 3 #[f,t,.int .u8 k,g,s,b,p,v,i,tm] 5).run prog w=.ok b w:=fun _ _ _ _ _ _ _ _ _ _ _=>by kernel_rfl
 have p6:∀(f t k g s b p i tm:Int) (v:ByteArray) (w:World),(part 3 #[f,t,.int .u8 k,g,s,b,p,v,i,tm] 6).run prog w=.ok p w:=fun _ _ _ _ _ _ _ _ _ _ _=>by kernel_rfl
 have p7:∀(f t k g s b p i tm:Int) (v:ByteArray) (w:World),(part 9 #[f,t,.int .u8 k,g,s,b,p,v,i,tm] 7).run prog w=.ok v w:=fun _ _ _ _ _ _ _ _ _ _ _=>by kernel_rfl
 have p8:∀(f t k g s b p i tm:Int) (v:ByteArray) (w:World),(part 3 #[f,t,.int .u8 k,g,s,b,p,v,i,tm] 8).run prog w=.ok i w:=fun _ _ _ _ _ _ _ _ _ _ _=>by kernel_rfl
 have p9:∀(f t k g s b p i tm:Int) (v:ByteArray) (w:World),(part 3 #[f,t,.int .u8 k,g,s,b,p,v,i,tm] 9).run prog w=.ok tm w:=fun _ _ _ _ _ _ _ _ _ _ _=>by kernel_rfl
 have q0:∀(x y:Int) (w:World),(Op.equalIn 9999 5 (.int .u8 x) (.int .u8 y)).run prog w=.ok (x==y) w:=fun x y w=>run_equalIn_int w 9998 5 .u8 .u8 x y underlying5;have q1:∀(x y:Int) (w:World),(Op.equalIn 9999 3 (.int .i64 x) (.int .i64 y)).run prog w=.ok (x==y) w:=fun x y w=>run_equalIn_int w 9998 3 .i64 .i64 x y underlying3;have q2:∀(x y:ByteArray) (w:World),(Op.equalIn 9999 9 (.string x) (.string y)).run prog w=.ok (x.toList==y.toList) w:=fun x y w=>run_equalIn_string w 9998 9 x y underlying9;simp only[Program.fieldsOf,underlying62,Op.eqFields];simp only[aaV,p0,p1,p2,p3,p4,p5,p6,p7,p8,p9,q0,q1,q2,aaQ,ne_eq,Sem.run_ite,aaW];cases(f==f')
 ·simp
 cases(t==t')
 ·simp
 cases(k==k')
 ·simp
 cases(g==g')
 ·simp
 cases(s==s')
 ·simp
 cases(b==b')
 ·simp
 cases(p==p')
 ·simp
 cases(v.toList==v'.toList)
 ·simp
 cases(i==i')
 ·simp
 cases(tm==tm')
 ·simp
 ·simp
def Hw (a m:Wp.aY):Bool:=(a.f==m.f&&(a.t==m.t&&(a.k==m.k&&(a.g==m.g&&(a.s==m.s&&(a.b==m.b&&(a.p==m.p&&(a.v==m.v&&(a.i==m.i&&a.tm==m.tm)))))))))
theorem GZ (a m:Wp.aY)(w:World):(Op.equalIn 10000 62 (.agg (mA a)) (.agg (mA m))).run prog w=.ok (Hw a m) w:=by
 have:=KC a.f a.t a.k a.g a.s a.b a.p a.i a.tm m.f m.t m.k m.g m.s m.b m.p m.i m.tm (S a.v) (S m.v) w;rw[um,um] at this;exact this
def Ed (m:Wp.aY):Bool:=!(Wp.dM m.k).isEmpty&&Wp.lU m
def F8 (m:Wp.aY)(l:List UInt8):Bool:=l.all fun c=>c==118||bg m c (m.get c)
def XJ (m:Wp.aY):Bool:=Ed m&&F8 m (Wp.dM m.k)&&Hw (Wp.vU (Wp.dM m.k) m (Wp.jY m.f m.t m.k m.g)) m
theorem Q9 (m:Wp.aY):XJ m=Wp.El m:=by
 obtain⟨f,t,k,g,s,b,p,v,i,tm⟩:=m;have comm:∀x:Int,((0:Int)==x)=(x==0):=fun x=>by rw[Bool.eq_iff_iff,aar,aar];exact eq_comm
 have comv:∀x:List UInt8,(([]:List UInt8)==x)=x.isEmpty:=fun x=>by cases x<;>rfl
 unfold XJ Ed Wp.El
 by_cases h:Wp.lU ⟨f,t,k,g,s,b,p,v,i,tm⟩=true
 rotate_left
 ·simp[h]
 rw[h]
 by_cases k1:k=1
 ·subst k1;simp[Wp.dM,F8,bg,Wp.mI,Wp.vU,Wp.jY,Hw,Wp.aY.get,Wp.aY.put,comm,comv];first|done|ac_rfl
 by_cases k2:k=2
 ·subst k2
  by_cases p0:p=0
  ·subst p0;have m0:may 0=false:=by decide
   simp[Wp.dM,F8,bg,Wp.mI,Wp.vU,Wp.jY,Hw,Wp.aY.get,Wp.aY.put,comm,comv,m0];first|done|ac_rfl
  ·have p1:(p==0)=false:=by simpa using p0
   simp[Wp.dM,F8,bg,Wp.mI,Wp.vU,Wp.jY,Hw,Wp.aY.get,Wp.aY.put,comm,comv,p0,p1];first|done|ac_rfl
 by_cases k3:k=3
 ·subst k3;simp[Wp.dM,F8,bg,Wp.mI,Wp.vU,Wp.jY,Hw,Wp.aY.get,Wp.aY.put,comm,comv];first|done|ac_rfl
 by_cases k4:k=4
 ·subst k4;simp[Wp.dM,F8,bg,Wp.mI,Wp.vU,Wp.jY,Hw,Wp.aY.get,Wp.aY.put,comm,comv];first|done|ac_rfl
 by_cases k5:k=5
 ·subst k5;simp[Wp.dM,F8,bg,Wp.mI,Wp.vU,Wp.jY,Hw,Wp.aY.get,Wp.aY.put,comm,comv];first|done|ac_rfl
 by_cases k6:k=6
 ·subst k6;simp[Wp.dM,F8,bg,Wp.mI,Wp.vU,Wp.jY,Hw,Wp.aY.get,Wp.aY.put,comm,comv];first|done|ac_rfl
 by_cases k7:k=7
 ·subst k7;simp[Wp.dM,F8,bg,Wp.mI,Wp.vU,Wp.jY,Hw,Wp.aY.get,Wp.aY.put,comm,comv];first|done|ac_rfl
 by_cases k8:k=8
 ·subst k8;simp[Wp.dM,F8,bg,Wp.mI,Wp.vU,Wp.jY,Hw,Wp.aY.get,Wp.aY.put,comm,comv];first|done|ac_rfl
 by_cases k9:k=9
 ·subst k9;simp[Wp.dM,F8,bg,Wp.mI,Wp.vU,Wp.jY,Hw,Wp.aY.get,Wp.aY.put,comm,comv];first|done|ac_rfl
 ·simp[Wp.dM,Wp.mI,k1,k2,k3,k4,k5,k6,k7,k8,k9]
end
end Go.Proofs.YtaebfkcgdmodlaaGreatDoor
