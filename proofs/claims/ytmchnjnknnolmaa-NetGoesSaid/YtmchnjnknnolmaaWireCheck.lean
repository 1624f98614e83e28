/-
  Mail compared; wire.Check: what the call returns, for every mail.
-/
import Derived.Test.YtmchnjnknnolmaaWireRight
import Derived.Deep.DeepCutAuto
namespace Go.Proofs.Ytmchnjnknnolmaa
open Go.RowKit Bal
set_option maxHeartbeats 8000000
set_option maxRecDepth 100000
set_option linter.unusedVariables false
set_option linter.unusedSimpArgs false

theorem mail_eqIn (f t k g s b p i tm f' t' k' g' s' b' p' i' tm' : Int) (v v' : ByteArray) (w : World) : (Op.equalIn 10000 25 (.agg #[.int .i64 f, .int .i64 t, .int .u8 k, .int .i64 g, .int .i64 s, .int .i64 b, .int .i64 p, .string v, .int .i64 i, .int .i64 tm]) (.agg #[.int .i64 f', .int .i64 t', .int .u8 k', .int .i64 g', .int .i64 s', .int .i64 b', .int .i64 p', .string v', .int .i64 i', .int .i64 tm'])).run Try.prog w = .ok (f == f' && (t == t' && (k == k' && (g == g' && (s == s' && (b == b' && (p == p' && (v.toList == v'.toList && (i == i' && tm == tm'))))))))) w := by
  have h0 : Try.prog.stoodInHeld 25 = false := by kernel_rfl
  have h1 : Try.prog.underlying 25 = some (.struct (Try.prog.fieldsOf 25)) := by kernel_rfl
  have h2 := run_equalIn_struct (P := Try.prog) w 9999 25 #[.int .i64 f, .int .i64 t, .int .u8 k, .int .i64 g, .int .i64 s, .int .i64 b, .int .i64 p, .string v, .int .i64 i, .int .i64 tm] #[.int .i64 f', .int .i64 t', .int .u8 k', .int .i64 g', .int .i64 s', .int .i64 b', .int .i64 p', .string v', .int .i64 i', .int .i64 tm'] h1 h0
  rw [show (10000 : Nat) = 9999 + 1 from rfl, h2]
  clear h0 h2 h1
  have p0 : ∀ (f t k g s b p i tm : Int) (v : ByteArray) (w : World), (part 3 #[.int .i64 f, .int .i64 t, .int .u8 k, .int .i64 g, .int .i64 s, .int .i64 b, .int .i64 p, .string v, .int .i64 i, .int .i64 tm] 0).run Try.prog w = .ok (.int .i64 f) w := fun _ _ _ _ _ _ _ _ _ _ _ => by kernel_rfl
  have p1 : ∀ (f t k g s b p i tm : Int) (v : ByteArray) (w : World), (part 3 #[.int .i64 f, .int .i64 t, .int .u8 k, .int .i64 g, .int .i64 s, .int .i64 b, .int .i64 p, .string v, .int .i64 i, .int .i64 tm] 1).run Try.prog w = .ok (.int .i64 t) w := fun _ _ _ _ _ _ _ _ _ _ _ => by kernel_rfl
  have p2 : ∀ (f t k g s b p i tm : Int) (v : ByteArray) (w : World), (part 5 #[.int .i64 f, .int .i64 t, .int .u8 k, .int .i64 g, .int .i64 s, .int .i64 b, .int .i64 p, .string v, .int .i64 i, .int .i64 tm] 2).run Try.prog w = .ok (.int .u8 k) w := fun _ _ _ _ _ _ _ _ _ _ _ => by kernel_rfl
  have p3 : ∀ (f t k g s b p i tm : Int) (v : ByteArray) (w : World), (part 3 #[.int .i64 f, .int .i64 t, .int .u8 k, .int .i64 g, .int .i64 s, .int .i64 b, .int .i64 p, .string v, .int .i64 i, .int .i64 tm] 3).run Try.prog w = .ok (.int .i64 g) w := fun _ _ _ _ _ _ _ _ _ _ _ => by kernel_rfl
  have p4 : ∀ (f t k g s b p i tm : Int) (v : ByteArray) (w : World), (part 3 #[.int .i64 f, .int .i64 t, .int .u8 k, .int .i64 g, .int .i64 s, .int .i64 b, .int .i64 p, .string v, .int .i64 i, .int .i64 tm] 4).run Try.prog w = .ok (.int .i64 s) w := fun _ _ _ _ _ _ _ _ _ _ _ => by kernel_rfl
  have p5 : ∀ (f t k g s b p i tm : Int) (v : ByteArray) (w : World), (part 3 #[.int .i64 f, .int .i64 t, .int .u8 k, .int .i64 g, .int .i64 s, .int .i64 b, .int .i64 p, .string v, .int .i64 i, .int .i64 tm] 5).run Try.prog w = .ok (.int .i64 b) w := fun _ _ _ _ _ _ _ _ _ _ _ => by kernel_rfl
  have p6 : ∀ (f t k g s b p i tm : Int) (v : ByteArray) (w : World), (part 3 #[.int .i64 f, .int .i64 t, .int .u8 k, .int .i64 g, .int .i64 s, .int .i64 b, .int .i64 p, .string v, .int .i64 i, .int .i64 tm] 6).run Try.prog w = .ok (.int .i64 p) w := fun _ _ _ _ _ _ _ _ _ _ _ => by kernel_rfl
  have p7 : ∀ (f t k g s b p i tm : Int) (v : ByteArray) (w : World), (part 9 #[.int .i64 f, .int .i64 t, .int .u8 k, .int .i64 g, .int .i64 s, .int .i64 b, .int .i64 p, .string v, .int .i64 i, .int .i64 tm] 7).run Try.prog w = .ok (.string v) w := fun _ _ _ _ _ _ _ _ _ _ _ => by kernel_rfl
  have p8 : ∀ (f t k g s b p i tm : Int) (v : ByteArray) (w : World), (part 3 #[.int .i64 f, .int .i64 t, .int .u8 k, .int .i64 g, .int .i64 s, .int .i64 b, .int .i64 p, .string v, .int .i64 i, .int .i64 tm] 8).run Try.prog w = .ok (.int .i64 i) w := fun _ _ _ _ _ _ _ _ _ _ _ => by kernel_rfl
  have p9 : ∀ (f t k g s b p i tm : Int) (v : ByteArray) (w : World), (part 3 #[.int .i64 f, .int .i64 t, .int .u8 k, .int .i64 g, .int .i64 s, .int .i64 b, .int .i64 p, .string v, .int .i64 i, .int .i64 tm] 9).run Try.prog w = .ok (.int .i64 tm) w := fun _ _ _ _ _ _ _ _ _ _ _ => by kernel_rfl
  have q0 : ∀ (x y : Int) (w : World), (Op.equalIn 9999 5 (.int .u8 x) (.int .u8 y)).run Try.prog w = .ok (x == y) w := fun x y w => run_equalIn_int w 9998 5 .u8 .u8 x y Try.underlying5
  have q1 : ∀ (x y : Int) (w : World), (Op.equalIn 9999 3 (.int .i64 x) (.int .i64 y)).run Try.prog w = .ok (x == y) w := fun x y w => run_equalIn_int w 9998 3 .i64 .i64 x y Try.underlying3
  have q2 : ∀ (x y : ByteArray) (w : World), (Op.equalIn 9999 9 (.string x) (.string y)).run Try.prog w = .ok (x.toList == y.toList) w := fun x y w => run_equalIn_string w 9998 9 x y Try.underlying9
  simp only [Program.fieldsOf, Try.underlying25, Op.eqFields]
  simp only [Sem.run_bind, p0, p1, p2, p3, p4, p5, p6, p7, p8, p9, q0, q1, q2, Result.andThen_ok, ne_eq, Sem.run_ite, Sem.run_pure]
  cases (f == f')
  · simp
  cases (t == t')
  · simp
  cases (k == k')
  · simp
  cases (g == g')
  · simp
  cases (s == s')
  · simp
  cases (b == b')
  · simp
  cases (p == p')
  · simp
  cases (v.toList == v'.toList)
  · simp
  cases (i == i')
  · simp
  cases (tm == tm')
  · simp
  · simp
theorem mail_eq (f t k g s b p i tm f' t' k' g' s' b' p' i' tm' : Int) (v v' : ByteArray) (w : World) : (binOp .eql 25 (.agg #[.int .i64 f, .int .i64 t, .int .u8 k, .int .i64 g, .int .i64 s, .int .i64 b, .int .i64 p, .string v, .int .i64 i, .int .i64 tm]) (.agg #[.int .i64 f', .int .i64 t', .int .u8 k', .int .i64 g', .int .i64 s', .int .i64 b', .int .i64 p', .string v', .int .i64 i', .int .i64 tm'])).run Try.prog w = .ok (.bool (f == f' && (t == t' && (k == k' && (g == g' && (s == s' && (b == b' && (p == p' && (v.toList == v'.toList && (i == i' && tm == tm')))))))))) w := by
  rw [run_eql_struct, mail_eqIn]
  rfl
theorem mail_neq (f t k g s b p i tm f' t' k' g' s' b' p' i' tm' : Int) (v v' : ByteArray) (w : World) : (binOp .neq 25 (.agg #[.int .i64 f, .int .i64 t, .int .u8 k, .int .i64 g, .int .i64 s, .int .i64 b, .int .i64 p, .string v, .int .i64 i, .int .i64 tm]) (.agg #[.int .i64 f', .int .i64 t', .int .u8 k', .int .i64 g', .int .i64 s', .int .i64 b', .int .i64 p', .string v', .int .i64 i', .int .i64 tm'])).run Try.prog w = .ok (.bool (!(f == f' && (t == t' && (k == k' && (g == g' && (s == s' && (b == b' && (p == p' && (v.toList == v'.toList && (i == i' && tm == tm'))))))))))) w := by
  rw [run_neq_struct, mail_eqIn]
  rfl
theorem mail_self (f t k g s b p i tm : Int) (v : ByteArray) : (f == f && (t == t && (k == k && (g == g && (s == s && (b == b && (p == p && (v.toList == v.toList && (i == i && tm == tm))))))))) = true := by simp
def eqM (a m : Wp.Mail) : Bool := (a.f == m.f && (a.t == m.t && (a.k == m.k && (a.g == m.g && (a.s == m.s && (a.b == m.b && (a.p == m.p && (a.v == m.v && (a.i == m.i && a.tm == m.tm)))))))))
theorem mail_eqInM (a m : Wp.Mail) (w : World) : (Op.equalIn 10000 25 (.agg (mA a)) (.agg (mA m))).run Try.prog w = .ok (eqM a m) w := by
  have := mail_eqIn a.f a.t a.k a.g a.s a.b a.p a.i a.tm m.f m.t m.k m.g m.s m.b m.p m.i m.tm (S a.v) (S m.v) w
  rw [S_toList, S_toList] at this
  exact this
def okH (m : Wp.Mail) : Bool := !(Wp.fieldsL m.k).isEmpty && Wp.headB m
def okR (m : Wp.Mail) (l : List UInt8) : Bool := l.all fun c => c == 118 || rightB m c (m.get c)
def okC (m : Wp.Mail) : Bool := okH m && okR m (Wp.fieldsL m.k) && eqM (Wp.mrg (Wp.fieldsL m.k) m (Wp.zeroM m.f m.t m.k m.g)) m
theorem okC_may (m : Wp.Mail) : okC m = Wp.mayM m := by
  obtain ⟨f, t, k, g, s, b, p, v, i, tm⟩ := m
  have comm : ∀ x : Int, ((0 : Int) == x) = (x == 0) := fun x => by rw [Bool.eq_iff_iff, beq_iff_eq, beq_iff_eq]; exact eq_comm
  have comv : ∀ x : List UInt8, (([] : List UInt8) == x) = x.isEmpty := fun x => by cases x <;> rfl
  unfold okC okH Wp.mayM
  by_cases h : Wp.headB ⟨f, t, k, g, s, b, p, v, i, tm⟩ = true
  rotate_left
  · simp [h]
  rw [h]
  by_cases k1 : k = 1
  · subst k1; simp [Wp.fieldsL, okR, rightB, Wp.kindB, Wp.mrg, Wp.zeroM, eqM, Wp.Mail.get, Wp.Mail.put, comm, comv]; first | done | ac_rfl
  by_cases k2 : k = 2
  · subst k2
    by_cases p0 : p = 0
    · subst p0
      have m0 : may 0 = false := by decide
      simp [Wp.fieldsL, okR, rightB, Wp.kindB, Wp.mrg, Wp.zeroM, eqM, Wp.Mail.get, Wp.Mail.put, comm, comv, m0]; first | done | ac_rfl
    · have p1 : (p == 0) = false := by simpa using p0
      simp [Wp.fieldsL, okR, rightB, Wp.kindB, Wp.mrg, Wp.zeroM, eqM, Wp.Mail.get, Wp.Mail.put, comm, comv, p0, p1]; first | done | ac_rfl
  by_cases k3 : k = 3
  · subst k3; simp [Wp.fieldsL, okR, rightB, Wp.kindB, Wp.mrg, Wp.zeroM, eqM, Wp.Mail.get, Wp.Mail.put, comm, comv]; first | done | ac_rfl
  by_cases k4 : k = 4
  · subst k4; simp [Wp.fieldsL, okR, rightB, Wp.kindB, Wp.mrg, Wp.zeroM, eqM, Wp.Mail.get, Wp.Mail.put, comm, comv]; first | done | ac_rfl
  by_cases k5 : k = 5
  · subst k5; simp [Wp.fieldsL, okR, rightB, Wp.kindB, Wp.mrg, Wp.zeroM, eqM, Wp.Mail.get, Wp.Mail.put, comm, comv]; first | done | ac_rfl
  by_cases k6 : k = 6
  · subst k6; simp [Wp.fieldsL, okR, rightB, Wp.kindB, Wp.mrg, Wp.zeroM, eqM, Wp.Mail.get, Wp.Mail.put, comm, comv]; first | done | ac_rfl
  by_cases k7 : k = 7
  · subst k7; simp [Wp.fieldsL, okR, rightB, Wp.kindB, Wp.mrg, Wp.zeroM, eqM, Wp.Mail.get, Wp.Mail.put, comm, comv]; first | done | ac_rfl
  by_cases k8 : k = 8
  · subst k8; simp [Wp.fieldsL, okR, rightB, Wp.kindB, Wp.mrg, Wp.zeroM, eqM, Wp.Mail.get, Wp.Mail.put, comm, comv]; first | done | ac_rfl
  by_cases k9 : k = 9
  · subst k9; simp [Wp.fieldsL, okR, rightB, Wp.kindB, Wp.mrg, Wp.zeroM, eqM, Wp.Mail.get, Wp.Mail.put, comm, comv]; first | done | ac_rfl
  · simp [Wp.fieldsL, Wp.kindB, k1, k2, k3, k4, k5, k6, k7, k8, k9]
end Go.Proofs.Ytmchnjnknnolmaa
