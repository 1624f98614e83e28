/-
  The walk of LogNames.
-/
import Derived.Test.YtaoekfgeggopbaaLogPlace
namespace Go.Proofs.Ytaoekfgeggopbaa
open Go.RowKit
set_option maxHeartbeats 16000000
set_option maxRecDepth 100000
set_option linter.unusedVariables false
set_option linter.unusedSimpArgs false

theorem nop_bytes : Cp.bytesC (zeroHC 0).cmd = [0] := by decide
theorem ex_members : Lg.members [0, 1, 2, 3] [0, 1, 2] [] = ([0, 1, 2], 0) := by decide +kernel
theorem ex_zero : Lg.members [] [] [] = ([], 60) := by decide +kernel
theorem ex_two : (Lg.cmdsX [[0], Cp.bytesC (chC [2])]).1.map Cp.Cmd.k = [0, 3] ∧ (Lg.cmdsX [[0], Cp.bytesC (chC [2])]).2 = 0 := by decide +kernel
theorem ex_place : Lg.place (S (Cp.bytesC (chC [1]))) 0 [S [0], S (Cp.bytesC (chC [1]))] = 1 := by decide +kernel
theorem two_ds {ds : List HC} {x : Int} (h : (ds.map HC.cmd, x) = Lg.cmdsX [[0], Cp.bytesC (chC [2])]) : ∃ D0 D1 : HC, ds = [D0, D1] ∧ D1.k = 3 ∧ x = 0 := by
  obtain ⟨p, hp⟩ : ∃ p, Lg.cmdsX [[0], Cp.bytesC (chC [2])] = p := ⟨_, rfl⟩
  have h2 := ex_two
  rw [hp] at h h2
  subst h
  have h3 := h2.1
  have hx := h2.2
  simp only [List.map_map] at h3
  clear h2
  rcases ds with _ | ⟨D0, _ | ⟨D1, _ | ⟨D2, r⟩⟩⟩
  · simp at h3
  · simp at h3
  · simp only [List.map_cons, List.map_nil, List.cons.injEq, and_true, Function.comp] at h3
    exact ⟨D0, D1, rfl, h3.2, hx⟩
  · simp at h3
theorem tx_two (a b : List UInt8) : tx [S a, S b] = [a, b] := rfl
theorem tx_rep (n : Nat) (a : List UInt8) : tx (List.replicate n (S a)) = List.replicate n a := by simp [tx, S_data]
theorem ex_cmds : (Lg.cmdsX [[0], Cp.bytesC (chC [1])]).2 = 0 := by decide +kernel
theorem ex_what : (Lg.cmdsX [[119, 104, 97, 116]]).2 = 8 := by decide +kernel
theorem ex_201 : (Lg.cmdsX (List.replicate 201 [0])).2 = 4 := by decide +kernel
theorem ex_200 : (Lg.cmdsX (List.replicate 200 [0])).2 = 0 := by decide +kernel
theorem nop_any (w : World) : Calls Try.prog 14 #[.agg #[.int .u8 (zeroHC 0).k, .int .i64 (zeroHC 0).mi, .slice (zeroHC 0).GA (zeroHC 0).Gn (zeroHC 0).Gc, .int .i64 (zeroHC 0).mt, .string (zeroHC 0).key, .string (zeroHC 0).body, .int .i64 (zeroHC 0).i, .int .i64 (zeroHC 0).tm, .slice (zeroHC 0).MA (zeroHC 0).Mn (zeroHC 0).Mc, .int .i64 (zeroHC 0).tp, .int .i64 (zeroHC 0).who, .int .i64 (zeroHC 0).n]] w fun e w' => e = .returned (.tuple #[.string (S [0]), .int .i64 0]) ∧ Below w.heap.size w w' :=
  cwrite_any (zeroHC 0) w (zeroHC_at _ _ (by omega)) true (by decide) (S [0]) (by rw [if_pos rfl, nop_bytes])
theorem one_change (x : Int) (A : Option Addr) (w : World) (hx : i64 x) (hm : Cp.mayC (chC [x]) = true) (hr : Reads w w.heap.size 1 A 1 (ci [x])) :
    Calls Try.prog 46 #[.slice A 1 1] w fun e w' => e = .returned (.string (S (Cp.bytesC (chC [x])))) ∧ Below w.heap.size w w' :=
  change13_any A 1 1 [x] w hr (by omega) (by omega) (by intro y hy; obtain rfl := List.mem_singleton.1 hy; exact hx) true hm _ (if_pos rfl)
theorem logNames_walk (w : World) : Calls Try.prog 10 #[] w fun e w' => e = .returned (.bool true) ∧ Below w.heap.size w w' := by
  obtain ⟨T0, hT0⟩ : ∃ T, S [0] = T := ⟨_, rfl⟩
  have H0 := Lib.hid fun w => nop_any w
  rw [hT0] at H0
  have HT0 := Lib.hid hT0
  clear hT0
  have HZ0 : Hid (T0.size ≤ maxLen) := by rw [Hid, ← HT0.out]; decide
  go_enter Try.func10, Try.ntmps10
  go_wp2_with fail
  refine (H0.out w).mono ?_
  rintro e w1 ⟨rfl, hb⟩
  have B1 := Lib.hid hb
  clear hb
  go_wp2_with fail
  refine (group13_any w1).mono ?_
  rintro e w2 ⟨g1, g2, rfl, hr1, hr2, hb⟩
  have B2 := Lib.hid (B1.out.trans (hb.mono B1.out.size))
  have HR1 := Lib.hid hr1
  have HR2 := Lib.hid hr2
  clear hr1 hr2 hb
  go_wp2_with fail
  refine (lmembers_any (some ⟨g1, 0, none⟩) 4 4 [0, 1, 2, 3] (some ⟨g2, 0, none⟩) 3 3 [0, 1, 2] none 0 0 [] w2 HR1.out HR2.out Reads.none_ (by omega) (by omega) (by omega) (by simp)).mono ?_
  rintro e w3 ⟨⟨R, k, rcc, r, x, rfl, ho, hm⟩, hb⟩
  rw [show tx [] = [] from rfl, ex_members] at hm
  obtain ⟨rfl, rfl⟩ : [0, 1, 2] = r ∧ 0 = x := by simpa using hm
  obtain rfl : 3 = k := by have := (own_readsC ho).len_i; simpa using this
  have B3 := Lib.hid (B2.out.trans (hb.mono B2.out.size))
  have HO3 := Lib.hid (own_readsC ho)
  clear ho hm hb HR1 HR2
  go_wp2_with fail
  have HC1 := Lib.hid fun (w : World) A h => one_change 1 A w ⟨by omega, by omega⟩ (by decide) h
  obtain ⟨T1, hT1⟩ : ∃ T, S (Cp.bytesC (chC [1])) = T := ⟨_, rfl⟩
  rw [hT1] at HC1
  have HT1 := Lib.hid hT1
  clear hT1
  refine (HC1.out _ (some ⟨w3.heap.size, 0, none⟩) ((newI w3 [1] #[.int .i64 1] rfl).more (by simp))).mono ?_
  rintro e w4 ⟨rfl, hb⟩
  have Z4 := Lib.hid (below_of_alloc (hb.mono (by simp)) (Nat.le_refl w3.heap.size))
  have B4 := Lib.hid (B3.out.trans (Z4.out.mono B3.out.size))
  clear hb
  have HS4 := Lib.hid ((newS w4 [T0, T1] #[.string T0, .string T1] rfl).more (B' := (w4.alloc (.cells #[.string T0, .string T1] 9)).heap.size) (by simp))
  have B5 := Lib.hid (B4.out.alloc B4.out.size (.cells #[.string T0, .string T1] 9))
  have C5 := Lib.hid (Z4.out.alloc Z4.out.size (.cells #[.string T0, .string T1] 9))
  go_wp2_with fail
  have hz5 : w4.heap.size + 1 = (w4.alloc (.cells #[.string T0, .string T1] 9)).heap.size := by simp
  rw [hz5]
  obtain ⟨g5, hg5⟩ : ∃ g, w4.heap.size = g := ⟨_, rfl⟩
  rw [hg5] at HS4 ⊢
  generalize w4.alloc (.cells #[.string T0, .string T1] 9) = w5 at *
  clear hz5 hg5
  have B6 := Lib.hid (B5.out.alloc B5.out.size (.cells #[.int .i64 1] 3))
  refine (HC1.out _ (some ⟨w5.heap.size, 0, none⟩) ((newI w5 [1] #[.int .i64 1] rfl).more (by simp))).mono ?_
  rintro e w6 ⟨rfl, hb⟩
  have Z6 := Lib.hid (below_of_alloc (hb.mono (by simp)) (Nat.le_refl w5.heap.size))
  have B7 := Lib.hid (B5.out.trans (Z6.out.mono B5.out.size))
  clear hb
  have HZ1 : Hid (T1.size ≤ maxLen) := by rw [Hid, ← HT1.out, S_size]; have := (Cp.bytesC_len (c := chC [1]) (by decide)).2; unfold maxLen; omega
  have HZ01 : Hid (∀ s ∈ [T0, T1], s.size ≤ maxLen) := by
    intro s hs
    simp only [List.mem_cons, List.not_mem_nil, or_false] at hs
    rcases hs with rfl | rfl
    · exact HZ0.out
    · exact HZ1.out
  have HX01 : Hid ((Lg.cmdsX (tx [T0, T1])).2 = 0) := by rw [Hid, ← HT0.out, ← HT1.out, tx_two]; exact ex_cmds
  have HP01 : Hid (Lg.place T1 0 [T0, T1] = 1) := by rw [Hid, ← HT0.out, ← HT1.out]; exact ex_place
  go_wp2_with fail
  refine (lfind_ok (some ⟨g5, 0, none⟩) 2 2 w5.heap.size [T0, T1] T1 w6 (HS4.out.below Z6.out) Z6.out.size (by omega) HZ01.out 1 HX01.out HP01.out true rfl).mono ?_
  rintro e w7 ⟨rfl, hb⟩
  have B8 := Lib.hid (B7.out.trans (hb.mono B7.out.size))
  have C8 := Lib.hid (C5.out.trans ((Z6.out.trans (hb.mono Z6.out.size)).mono C5.out.size))
  clear hb HS4 Z6 B6 B5
  go_wp2_with fail
  refine (lfind_ok none 0 0 0 [] T0 w7 Reads.none_ (Nat.zero_le _) (by omega) (by simp) (-1) (by decide +kernel) rfl false rfl).mono ?_
  rintro e w8 ⟨rfl, hb⟩
  have B9 := Lib.hid (B8.out.trans (hb.mono B8.out.size))
  have C9 := Lib.hid (C8.out.trans (hb.mono C8.out.size))
  clear hb B8 C8
  go_wp2_with fail
  go_loopw [11, 12] (fun x y wr => ∃ k : Nat, y = .int .i64 (k : Int) ∧ k ≤ 201 ∧ wr.ownsRow w8.heap.size 9 1 x k (ct (List.replicate k T0)) ∧ Below w8.heap.size w8 wr) (fun _ y _ => 201 - (intOf y).toNat)
  case atStart => exact ⟨0, rfl, Nat.zero_le _, World.ownsRow_nil _ _ _ _, Below.refl _ _⟩
  case round =>
    obtain ⟨k, rfl, hk, ho, hb⟩ := hrel
    have HO := Lib.hid ho
    have HB := Lib.hid hb
    obtain ⟨A, c, rfl⟩ := own_shapeC ho
    clear ho hb
    by_cases hlt : k < 201
    · go_wp2_with (at_builtin; refine app_t1 rfl (.tmp 48) (.tmp 50) rfl w8.heap.size (.slice A k c) k (List.replicate k T0) rfl HO.out T0 rfl ?d1 ?d2 ?_)
      case d1 => omega
      case d2 => exact HB.out.size
      intro v' w9 ho9 hg9
      have HB9 := Lib.hid (HB.out.trans (hg9.below HB.out.size (fun k hk => (HO.out.lt k hk).1)))
      have HO9 := Lib.hid ho9
      clear ho9 hg9
      go_wp2
      go_roundw
      case rel => exact ⟨k + 1, by go_num, by omega, by rw [List.replicate_succ']; exact HO9.out, HB9.out⟩
      case measure => simp [intOf]; omega
    · obtain rfl : k = 201 := by omega
      have B10 := Lib.hid (B9.out.trans (HB.out.mono B9.out.size))
      have C10 := Lib.hid (C9.out.trans (HB.out.mono C9.out.size))
      have HL10 := Lib.hid (own_readsC HO.out)
      have hc200 : 201 ≤ c := (own_cap HO.out).1
      clear B9 C9 HB HO
      go_wp2_with fail
      refine (lmembers_any none 0 0 [] none 0 0 [] none 0 0 [] wr Reads.none_ Reads.none_ Reads.none_ (by omega) (by omega) (by omega) (by simp)).mono ?_
      rintro e w11 ⟨⟨R2, k2, c2, r2, x2, rfl, ho, hm⟩, hb⟩
      rw [show tx [] = [] from rfl, ex_zero] at hm
      obtain ⟨rfl, rfl⟩ : [] = r2 ∧ 60 = x2 := by simpa using hm
      have B11 := Lib.hid (B10.out.trans (hb.mono B10.out.size))
      have C11 := Lib.hid (C10.out.trans (hb.mono C10.out.size))
      have HL11 := Lib.hid ((HL10.out.below hb).more hb.size)
      clear ho hm hb B10 C10 HL10
      obtain ⟨T2, hT2⟩ : ∃ T, S (Cp.bytesC (chC [2])) = T := ⟨_, rfl⟩
      have HC2 := Lib.hid fun (w : World) A h => one_change 2 A w ⟨by omega, by omega⟩ (by decide) h
      rw [hT2] at HC2
      have HT2 := Lib.hid hT2
      clear hT2
      have HZ2 : Hid (∀ s ∈ [T0, T2], s.size ≤ maxLen) := by
        intro s hs
        simp only [List.mem_cons, List.not_mem_nil, or_false] at hs
        rcases hs with rfl | rfl
        · exact HZ0.out
        · rw [← HT2.out, S_size]; have := (Cp.bytesC_len (c := chC [2]) (by decide)).2; unfold maxLen; omega
      go_wp2_with fail
      refine (HC2.out _ (some ⟨w11.heap.size, 0, none⟩) ((newI w11 [2] #[.int .i64 2] rfl).more (by simp))).mono ?_
      rintro e w12 ⟨rfl, hb⟩
      have Z12 := Lib.hid (below_of_alloc (hb.mono (by simp)) (Nat.le_refl w11.heap.size))
      have Y13 := Lib.hid (Z12.out.alloc Z12.out.size (.cells #[.string T0, .string T2] 9))
      have HS13 := Lib.hid ((newS w12 [T0, T2] #[.string T0, .string T2] rfl).more (B' := (w12.alloc (.cells #[.string T0, .string T2] 9)).heap.size) (by simp))
      clear hb
      go_wp2_with fail
      obtain ⟨g13, hg13⟩ : ∃ g, w12.heap.size = g := ⟨_, rfl⟩
      rw [hg13] at HS13 ⊢
      generalize w12.alloc (.cells #[.string T0, .string T2] 9) = w13 at *
      clear Z12
      refine (lcommands_any (some ⟨g13, 0, none⟩) 2 2 w13.heap.size [T0, T2] w13 HS13.out (Nat.le_refl _) (by omega) HZ2.out).mono ?_
      rintro e w14 ⟨⟨ds, x14, A14, c14, rfl, ho, hd, he⟩, hb⟩
      rw [← HT0.out, ← HT2.out, tx_two] at he
      obtain ⟨D0, D1, rfl, hk1, rfl⟩ := two_ds he
      clear he hd
      obtain ⟨bb, off, D, hA, hbl, hDi, hcc⟩ := (own_readsC ho).cmd (k := 1) (by simp)
      subst hA
      obtain rfl : D1 = D := by simpa using hDi
      have c0 : w14.cell? ⟨bb, off + 12, none⟩ = some (.int .u8 3) := by have := hcc 0 _ rfl; rw [hk1] at this; simpa using this
      have Z14 := Lib.hid (Y13.out.trans (hb.mono Y13.out.size))
      have B14 := Lib.hid (B11.out.trans (Z14.out.mono B11.out.size))
      have C14 := Lib.hid (C11.out.trans (Z14.out.mono C11.out.size))
      have R14 := Lib.hid ((HO3.out.below C14.out).more C14.out.size)
      have HL14 := Lib.hid ((HL11.out.below Z14.out).more Z14.out.size)
      have HC0 := Lib.hid c0
      have HBL := Lib.hid hbl
      clear hcc hDi hk1 c0 hbl ho hb
      have HX201 : Hid ((Lg.cmdsX (tx (List.replicate 201 T0))).2 = 4) := by rw [Hid, ← HT0.out, tx_rep]; exact ex_201
      have HX200 : Hid ((Lg.cmdsX (tx (List.replicate 200 T0))).2 = 0) := by rw [Hid, ← HT0.out, tx_rep]; exact ex_200
      have HZR : Hid (∀ k : Nat, ∀ s ∈ List.replicate k T0, s.size ≤ maxLen) := by
        intro k s hs
        rw [(List.mem_replicate.1 hs).2]
        exact HZ0.out
      have HL2 : Hid (Reads w14 w14.heap.size 1 A 200 (ct (List.replicate 200 T0))) := by
        have h := HL14.out.first (k := 200) (by omega)
        rw [ct_take, List.take_replicate, show min 200 201 = 200 from rfl] at h
        exact h
      go_wp2_with fail
      refine (alive13_any w14).mono ?_
      rintro e w15 ⟨rfl, hb⟩
      have Z15 := Lib.hid hb
      clear hb
      have HQ := Lib.hid (rsameInts_any R 3 rcc (some ⟨w15.heap.size, 0, none⟩) 3 3 _ _ [0, 1, 2] [0, 1, 2] (w15.alloc (.cells #[.int .i64 0, .int .i64 1, .int .i64 2] 3)) ((R14.out.below Z15.out).alloc Z15.out.size _) (newI w15 [0, 1, 2] #[.int .i64 0, .int .i64 1, .int .i64 2] rfl) (by omega) (by omega) true (by decide))
      have Z16 : Hid (Below w14.heap.size w14 (w15.alloc (.cells #[.int .i64 0, .int .i64 1, .int .i64 2] 3))) := Lib.hid (Z15.out.alloc Z15.out.size _)
      go_wp2_with fail
      refine HQ.out.mono ?_
      rintro e w16 ⟨rfl, q, rfl⟩
      have Z17 := Lib.hid (below_drewN Z16.out q)
      generalize (w15.alloc (.cells #[.int .i64 0, .int .i64 1, .int .i64 2] 3)).drewN q = w17 at *
      clear HQ Z16 Z15
      go_wp2_with fail
      refine (lcheck_any A 201 _ _ (List.replicate 201 T0) w17 (HL14.out.below Z17.out) Z17.out.size (by omega) (HZR.out 201) 4 HX201.out).mono ?_
      rintro e w18 ⟨rfl, hb⟩
      have Z18 := Lib.hid (Z17.out.trans (hb.mono Z17.out.size))
      clear hb Z17
      go_wp2_with fail
      refine (lcheck_any A 200 _ _ (List.replicate 200 T0) w18 (HL2.out.below Z18.out) Z18.out.size (by omega) (HZR.out 200) 0 HX200.out).mono ?_
      rintro e w19 ⟨rfl, hb⟩
      have Z19 := Lib.hid (Z18.out.trans (hb.mono Z18.out.size))
      clear hb Z18
      go_wp2_with fail
      have B19 := Lib.hid (B14.out.trans (Z19.out.mono B14.out.size))
      have Z20 := Lib.hid (Z19.out.alloc Z19.out.size (.cells #[.string ⟨#[119, 104, 97, 116]⟩] 9))
      have B20 := Lib.hid (B19.out.alloc B19.out.size (.cells #[.string ⟨#[119, 104, 97, 116]⟩] 9))
      have HW20 := Lib.hid ((newS w19 [⟨#[119, 104, 97, 116]⟩] #[.string ⟨#[119, 104, 97, 116]⟩] rfl).more (B' := (w19.alloc (.cells #[.string ⟨#[119, 104, 97, 116]⟩] 9)).heap.size) (by simp))
      refine (lcheck_any (some ⟨w19.heap.size, 0, none⟩) 1 1 _ [⟨#[119, 104, 97, 116]⟩] _ HW20.out (Nat.le_refl _) (by omega) (by intro s hs; rw [List.mem_singleton.1 hs]; decide) 8 ex_what).mono ?_
      rintro e w21 ⟨rfl, hb⟩
      have Z21 := Lib.hid (Z20.out.trans (hb.mono Z20.out.size))
      have B21 := Lib.hid (B20.out.trans (hb.mono B20.out.size))
      have c0 := (Z21.out.cell (p := ⟨bb, off + 12, none⟩) HBL.out).trans HC0.out
      clear hb
      go_wp2
      go_ret
      exact ⟨rfl, B21.out⟩
end Go.Proofs.Ytaoekfgeggopbaa
