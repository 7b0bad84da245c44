/- AluBack's walk: what is added is taken away. -/
import Derived.Test.YthfikhfhflinfaaDoorB1
import Derived.Deep.DeepCutAuto
namespace Go.Proofs.YthfikhfhflinfaaDoor
open Go.RowKit

theorem chk_3 (op d n m : Int) (ho : op = 2 ∨ op = 3 ∨ op = 6) (h0 : 0 ≤ d) (h1 : d < 8) (h2 : 0 ≤ n) (h3 : n < 8) (h4 : 0 ≤ m) (h5 : m < 8) : chk op d n m 0 = true := by
  have r1 : ∀ k : Int, 0 ≤ k → k < 8 → reg k true = true := fun k a b => by unfold reg; simp; omega
  rcases ho with rfl | rfl | rfl <;> (show (_ && _ && reg d true && reg n true && reg m true && _ && _) = true; rw [r1 d h0 h1, r1 n h2 h3, r1 m h4 h5]; rfl)
theorem chk_7 (d n imm : Int) (h0 : 0 ≤ d) (h1 : d < 8) (h2 : 0 ≤ n) (h3 : n < 8) (h4 : -2048 ≤ imm) (h5 : imm ≤ 2047) : chk 7 d n 0 imm = true := by
  have r1 : ∀ k : Int, 0 ≤ k → k < 8 → reg k true = true := fun k a b => by unfold reg; simp; omega
  show (_ && _ && reg d true && reg n true && reg 0 false && decide (-2048 ≤ imm) && decide (imm ≤ 2047)) = true
  rw [r1 d h0 h1, r1 n h2 h3, decide_eq_true h4, decide_eq_true h5]; rfl

abbrev OkDo (op d n m imm pc : Int) (r a : Nat → Int) (pc' : Int) : Prop :=
  ∀ w, Shapes w → Calls Tryd.prog 11 #[IV op d n m imm, RV r, .int .i64 pc] w fun e w' => e = .returned (.tuple #[RV a, .int .i64 pc', .int .i64 0]) ∧ Below w.heap.size w w'

theorem add_sub (a b : Int) (h0 : 0 ≤ a) (h1 : a ≤ 18446744073709551615) : sub64 (add64 a b) b = a := by
  unfold sub64 add64; simp only [IntKind.wrap_u64]; omega
theorem add_neg (a b : Int) (h0 : 0 ≤ a) (h1 : a ≤ 18446744073709551615) : add64 (add64 a (tou64 b)) (tou64 (-b)) = a := by
  unfold tou64 add64; simp only [IntKind.wrap_u64]; omega
theorem xor_xor (a b : Int) (h0 : 0 ≤ a) (h1 : a ≤ 18446744073709551615) (h2 : 0 ≤ b) (h3 : b ≤ 18446744073709551615) : xor64 (xor64 a b) b = a := by
  obtain ⟨A, rfl⟩ := Int.eq_ofNat_of_zero_le h0
  obtain ⟨B, rfl⟩ := Int.eq_ofNat_of_zero_le h2
  have hx : A ^^^ B < 18446744073709551616 := Nat.xor_lt_two_pow (n := 64) (by omega) (by omega)
  unfold xor64
  rw [u64_xor_nat A B (by omega) (by omega), u64_xor_nat (A ^^^ B) B hx (by omega), Nat.xor_assoc, Nat.xor_self, Nat.xor_zero]

theorem shapes_drewN {w : World} (h : Shapes w) (n : Nat) : Shapes (w.drewN n) := Shapes.below (B := 1) h (by omega) (below_drewN (Below.refl 1 w) n)
/-- three pairs: what each leaves, and that the register is as it was -/
theorem pairs (d n m imm : Int) (r : Nat → Int) (hr : ∀ k, 0 ≤ r k ∧ r k ≤ 18446744073709551615) (h0 : 0 ≤ d) (h1 : d < 8) (h2 : 0 ≤ n) (h3 : n < 8) (h4 : 0 ≤ m) (h5 : m < 8)
    (hm : d ≠ m) (h6 : -2047 ≤ imm) (h7 : imm ≤ 2047) : ∃ a1 b1 a2 b2 a3 b3 : Nat → Int,
      (OkDo 2 d n m 0 5 r a1 6 ∧ OkDo 3 d d m 0 6 a1 b1 7 ∧ b1 d.toNat = r n.toNat) ∧
      (OkDo 6 d n m 0 5 r a2 6 ∧ OkDo 6 d d m 0 6 a2 b2 7 ∧ b2 d.toNat = r n.toNat) ∧
      (OkDo 7 d n 0 imm 5 r a3 6 ∧ OkDo 7 d d 0 (-imm) 6 a3 b3 7 ∧ b3 d.toNat = r n.toNat) := by
  have hdm : ¬ m.toNat = d.toNat := by omega
  let u1 := upd r d.toNat (add64 (r n.toNat) (r m.toNat))
  let u2 := upd r d.toNat (xor64 (r n.toNat) (r m.toNat))
  let u3 := upd r d.toNat (add64 (r n.toNat) (tou64 imm))
  refine ⟨u1, upd u1 d.toNat (sub64 (u1 d.toNat) (u1 m.toNat)), u2, upd u2 d.toNat (xor64 (u2 d.toNat) (u2 m.toNat)), u3, upd u3 d.toNat (add64 (u3 d.toNat) (tou64 (-imm))), ⟨fun w hS => post_of (do_2 d n m 0 5 r w hS (chk_3 2 d n m (by omega) h0 h1 h2 h3 h4 h5) h0 h1 h2 h3 h4 h5) (tup rfl (by unfold wrap64; omega) rfl), fun w hS => post_of (do_3 d d m 0 6 u1 w hS (chk_3 3 d d m (by omega) h0 h1 h0 h1 h4 h5) h0 h1 h0 h1 h4 h5) (tup rfl (by unfold wrap64; omega) rfl), ?_⟩,
    ⟨fun w hS => post_of (do_6 d n m 0 5 r w hS (chk_3 6 d n m (by omega) h0 h1 h2 h3 h4 h5) h0 h1 h2 h3 h4 h5) (tup rfl (by unfold wrap64; omega) rfl), fun w hS => post_of (do_6 d d m 0 6 u2 w hS (chk_3 6 d d m (by omega) h0 h1 h0 h1 h4 h5) h0 h1 h0 h1 h4 h5) (tup rfl (by unfold wrap64; omega) rfl), ?_⟩,
    ⟨fun w hS => post_of (do_7 d n 0 imm 5 r w hS (chk_7 d n imm h0 h1 h2 h3 (by omega) h7) h0 h1 h2 h3) (tup rfl (by unfold wrap64; omega) rfl), fun w hS => post_of (do_7 d d 0 (-imm) 6 u3 w hS (chk_7 d d (-imm) h0 h1 h0 h1 (by omega) (by omega)) h0 h1 h0 h1) (tup rfl (by unfold wrap64; omega) rfl), ?_⟩⟩
  · simp only [u1, upd, if_true, if_neg hdm]; exact add_sub _ _ (hr _).1 (hr _).2
  · simp only [u2, upd, if_true, if_neg hdm]; exact xor_xor _ _ (hr _).1 (hr _).2 (hr _).1 (hr _).2
  · simp only [u3, upd, if_true]; exact add_neg _ _ (hr _).1 (hr _).2

set_option maxRecDepth 20000 in
set_option maxHeartbeats 1000000 in
theorem back_in (d n m imm : Int) (r : Nat → Int) (w : World) (hS : Shapes w) (hr : ∀ k, 0 ≤ r k ∧ r k ≤ 18446744073709551615) (h0 : 0 ≤ d) (h1 : d < 8) (h2 : 0 ≤ n) (h3 : n < 8) (h4 : 0 ≤ m) (h5 : m < 8)
    (hm : d ≠ m) (hn : d ≠ n) (h6 : -2047 ≤ imm) (h7 : imm ≤ 2047) :
    Calls Tryd.prog 4 #[.int .i8 d, .int .i8 n, .int .i8 m, .int .i64 imm, RV r] w fun e w' => e = .returned (.bool true) ∧ Below w.heap.size w w' := by
  obtain ⟨a1, b1, a2, b2, a3, b3, ⟨P1, Q1, E1⟩, ⟨P2, Q2, E2⟩, ⟨P3, Q3, E3⟩⟩ := pairs d n m imm r hr h0 h1 h2 h3 h4 h5 hm h6 h7
  have t1 : (d == m) = false := beq_eq_false_iff_ne.2 hm
  have t2 : (d == n) = false := beq_eq_false_iff_ne.2 hn
  have R1 := RL_get b1 d.toNat (by omega)
  have R2 := RL_get b2 d.toNat (by omega)
  have R3 := RL_get b3 d.toNat (by omega)
  have R0 := RL_get r n.toNat (by omega)
  have HP1 := Lib.hid P1
  have HQ1 := Lib.hid Q1
  have HP2 := Lib.hid P2
  have HQ2 := Lib.hid Q2
  have HP3 := Lib.hid P3
  have HQ3 := Lib.hid Q3
  have HE := Lib.hid (And.intro E1 (And.intro E2 E3))
  clear P1 Q1 P2 Q2 P3 Q3 E1 E2 E3 hr hm hn
  go_enter Tryd.func4, Tryd.ntmps4
  go_wp2_with fail
  refine wp_loop_rounds 4 ?_
  rw [rounds_succ]
  go_wp2_with fail
  refine (HP1.out _ (((hS.alloc _).alloc _).alloc _)).mono ?_
  rintro e x1 ⟨rfl, hx1⟩
  have SX1 : Shapes x1 := Shapes.below (by first | exact ((hS.alloc _).alloc _).alloc _ | exact Shapes.alloc (by assumption) _) (by simp) hx1
  obtain ⟨cx1, fx1⟩ := bcell hx1
  have BX1 : Below w.heap.size w x1 := Below.trans (by go_grown) (hx1.mono (by simp; omega))
  have sx1 : w.heap.size + 1 + 1 < x1.heap.size := by have := hx1.size; simp at this; omega
  have sa1 : w.heap.size + 1 < x1.heap.size := by omega
  have sb1 : w.heap.size < x1.heap.size := by omega
  have sc1 : w.heap.size + 1 + 1 < x1.heap.size + 1 := by omega
  go_wp2_with fail
  refine (HQ1.out _ (SX1.alloc _)).mono ?_
  rintro e y1 ⟨rfl, hy1⟩
  have SY1 : Shapes y1 := Shapes.below (by exact SX1.alloc _) (by simp) hy1
  obtain ⟨cy1, fy1⟩ := bcell hy1
  have BY1 : Below w.heap.size w y1 := (BX1.alloc (by omega) _).trans (hy1.mono (by simp; omega))
  have sy1 : x1.heap.size < y1.heap.size := by have := hy1.size; simp at this; omega
  have sd1 : w.heap.size + 1 < y1.heap.size := by omega
  have se1 : w.heap.size < y1.heap.size := by omega
  have sf1 : w.heap.size + 1 < x1.heap.size + 1 := by omega
  have sg1 : w.heap.size < x1.heap.size + 1 := by omega
  have sh1 : w.heap.size < y1.heap.size + 1 := by omega
  have si1 : w.heap.size + 1 < y1.heap.size + 1 := by omega
  have hq : (b1 d.toNat != r n.toNat) = false := by rw [HE.out.1]; simp
  go_wp2_with fail
  go_quiet (fail)
  obtain ⟨z1, ez⟩ : ∃ z, z = (y1.alloc (.cells (RA b1) 26)).drewN nq := ⟨_, rfl⟩
  have SZ1 : Shapes z1 := by rw [ez]; exact shapes_drewN (SY1.alloc _) nq
  have BZ1 : Below w.heap.size w z1 := by rw [ez]; exact below_drewN (BY1.alloc (by omega) _) _
  have cz1 : ∀ o, z1.cell? ⟨w.heap.size, o, none⟩ = (RA r)[o]? := fun o => by rw [ez]; go_simp
  have dz1 : ∀ o, z1.cell? ⟨w.heap.size + 1, o, none⟩ = #[.int .i8 2, .int .i8 d, .int .i8 n, .int .i8 m, .int .i64 0, .int .i8 3, .int .i8 d, .int .i8 d, .int .i8 m, .int .i64 0, .int .i8 6, .int .i8 d, .int .i8 n, .int .i8 m, .int .i64 0, .int .i8 6, .int .i8 d, .int .i8 d, .int .i8 m, .int .i64 0, .int .i8 7, .int .i8 d, .int .i8 n, .int .i8 0, .int .i64 imm, .int .i8 7, .int .i8 d, .int .i8 d, .int .i8 0, .int .i64 (-imm)][o]? := fun o => by rw [ez]; go_simp
  have zz1 : w.heap.size + 1 < z1.heap.size := by rw [ez]; simp; omega
  have zy1 : w.heap.size < z1.heap.size := by omega
  rw [← ez]
  clear ez hq cx1 fx1 cy1 fy1 hx1 hy1 sx1 sa1 sb1 sc1 sy1 sd1 se1 sf1 sg1 sh1 si1 SX1 SY1 BX1 BY1
  go_wp2_with fail
  rw [rounds_succ]
  go_wp2_with fail
  refine (HP2.out _ (SZ1.alloc _)).mono ?_
  rintro e x2 ⟨rfl, hx2⟩
  have SX2 : Shapes x2 := Shapes.below (by first | exact ((hS.alloc _).alloc _).alloc _ | exact Shapes.alloc (by assumption) _) (by simp) hx2
  obtain ⟨cx2, fx2⟩ := bcell hx2
  have BX2 : Below w.heap.size w x2 := (BZ1.alloc (by omega) _).trans (hx2.mono (by simp; omega))
  have sx2 : z1.heap.size < x2.heap.size := by have := hx2.size; simp at this; omega
  have sa2 : w.heap.size + 1 < x2.heap.size := by omega
  have sb2 : w.heap.size < x2.heap.size := by omega
  have sc2 : z1.heap.size < x2.heap.size + 1 := by omega
  go_wp2_with fail
  refine (HQ2.out _ (SX2.alloc _)).mono ?_
  rintro e y2 ⟨rfl, hy2⟩
  have SY2 : Shapes y2 := Shapes.below (by exact SX2.alloc _) (by simp) hy2
  obtain ⟨cy2, fy2⟩ := bcell hy2
  have BY2 : Below w.heap.size w y2 := (BX2.alloc (by omega) _).trans (hy2.mono (by simp; omega))
  have sy2 : x2.heap.size < y2.heap.size := by have := hy2.size; simp at this; omega
  have sd2 : w.heap.size + 1 < y2.heap.size := by omega
  have se2 : w.heap.size < y2.heap.size := by omega
  have sf2 : w.heap.size + 1 < x2.heap.size + 1 := by omega
  have sg2 : w.heap.size < x2.heap.size + 1 := by omega
  have sh2 : w.heap.size < y2.heap.size + 1 := by omega
  have si2 : w.heap.size + 1 < y2.heap.size + 1 := by omega
  have hq : (b2 d.toNat != r n.toNat) = false := by rw [HE.out.2.1]; simp
  go_wp2_with fail
  go_quiet (fail)
  obtain ⟨z2, ez⟩ : ∃ z, z = (y2.alloc (.cells (RA b2) 26)).drewN nq := ⟨_, rfl⟩
  have SZ2 : Shapes z2 := by rw [ez]; exact shapes_drewN (SY2.alloc _) nq
  have BZ2 : Below w.heap.size w z2 := by rw [ez]; exact below_drewN (BY2.alloc (by omega) _) _
  have cz2 : ∀ o, z2.cell? ⟨w.heap.size, o, none⟩ = (RA r)[o]? := fun o => by rw [ez]; go_simp
  have dz2 : ∀ o, z2.cell? ⟨w.heap.size + 1, o, none⟩ = #[.int .i8 2, .int .i8 d, .int .i8 n, .int .i8 m, .int .i64 0, .int .i8 3, .int .i8 d, .int .i8 d, .int .i8 m, .int .i64 0, .int .i8 6, .int .i8 d, .int .i8 n, .int .i8 m, .int .i64 0, .int .i8 6, .int .i8 d, .int .i8 d, .int .i8 m, .int .i64 0, .int .i8 7, .int .i8 d, .int .i8 n, .int .i8 0, .int .i64 imm, .int .i8 7, .int .i8 d, .int .i8 d, .int .i8 0, .int .i64 (-imm)][o]? := fun o => by rw [ez]; go_simp
  have zz2 : w.heap.size + 1 < z2.heap.size := by rw [ez]; simp; omega
  have zy2 : w.heap.size < z2.heap.size := by omega
  rw [← ez]
  clear ez hq cx2 fx2 cy2 fy2 hx2 hy2 sx2 sa2 sb2 sc2 sy2 sd2 se2 sf2 sg2 sh2 si2 SX2 SY2 BX2 BY2
  go_wp2_with fail
  rw [rounds_succ]
  go_wp2_with fail
  refine (HP3.out _ (SZ2.alloc _)).mono ?_
  rintro e x3 ⟨rfl, hx3⟩
  have SX3 : Shapes x3 := Shapes.below (by first | exact ((hS.alloc _).alloc _).alloc _ | exact Shapes.alloc (by assumption) _) (by simp) hx3
  obtain ⟨cx3, fx3⟩ := bcell hx3
  have BX3 : Below w.heap.size w x3 := (BZ2.alloc (by omega) _).trans (hx3.mono (by simp; omega))
  have sx3 : z2.heap.size < x3.heap.size := by have := hx3.size; simp at this; omega
  have sa3 : w.heap.size + 1 < x3.heap.size := by omega
  have sb3 : w.heap.size < x3.heap.size := by omega
  have sc3 : z2.heap.size < x3.heap.size + 1 := by omega
  go_wp2_with fail
  refine (HQ3.out _ (SX3.alloc _)).mono ?_
  rintro e y3 ⟨rfl, hy3⟩
  have SY3 : Shapes y3 := Shapes.below (by exact SX3.alloc _) (by simp) hy3
  obtain ⟨cy3, fy3⟩ := bcell hy3
  have BY3 : Below w.heap.size w y3 := (BX3.alloc (by omega) _).trans (hy3.mono (by simp; omega))
  have sy3 : x3.heap.size < y3.heap.size := by have := hy3.size; simp at this; omega
  have sd3 : w.heap.size + 1 < y3.heap.size := by omega
  have se3 : w.heap.size < y3.heap.size := by omega
  have sf3 : w.heap.size + 1 < x3.heap.size + 1 := by omega
  have sg3 : w.heap.size < x3.heap.size + 1 := by omega
  have sh3 : w.heap.size < y3.heap.size + 1 := by omega
  have si3 : w.heap.size + 1 < y3.heap.size + 1 := by omega
  have hq : (b3 d.toNat != r n.toNat) = false := by rw [HE.out.2.2]; simp
  go_wp2_with fail
  go_quiet (fail)
  obtain ⟨z3, ez⟩ : ∃ z, z = (y3.alloc (.cells (RA b3) 26)).drewN nq := ⟨_, rfl⟩
  have SZ3 : Shapes z3 := by rw [ez]; exact shapes_drewN (SY3.alloc _) nq
  have BZ3 : Below w.heap.size w z3 := by rw [ez]; exact below_drewN (BY3.alloc (by omega) _) _
  have cz3 : ∀ o, z3.cell? ⟨w.heap.size, o, none⟩ = (RA r)[o]? := fun o => by rw [ez]; go_simp
  have dz3 : ∀ o, z3.cell? ⟨w.heap.size + 1, o, none⟩ = #[.int .i8 2, .int .i8 d, .int .i8 n, .int .i8 m, .int .i64 0, .int .i8 3, .int .i8 d, .int .i8 d, .int .i8 m, .int .i64 0, .int .i8 6, .int .i8 d, .int .i8 n, .int .i8 m, .int .i64 0, .int .i8 6, .int .i8 d, .int .i8 d, .int .i8 m, .int .i64 0, .int .i8 7, .int .i8 d, .int .i8 n, .int .i8 0, .int .i64 imm, .int .i8 7, .int .i8 d, .int .i8 d, .int .i8 0, .int .i64 (-imm)][o]? := fun o => by rw [ez]; go_simp
  have zz3 : w.heap.size + 1 < z3.heap.size := by rw [ez]; simp; omega
  have zy3 : w.heap.size < z3.heap.size := by omega
  rw [← ez]
  clear ez hq cx3 fx3 cy3 fy3 hx3 hy3 sx3 sa3 sb3 sc3 sy3 sd3 se3 sf3 sg3 sh3 si3 SX3 SY3 BX3 BY3
  go_wp2_with fail
  rw [rounds_succ]
  go_wp2_with fail
  refine (wakes_any _ SZ3).mono ?_
  rintro e w3 ⟨rfl, hb3⟩
  have B3 : Below w.heap.size w w3 := BZ3.trans (hb3.mono (by omega))
  go_wp2_with fail
  go_returns
  exact ⟨rfl, B3⟩

set_option maxRecDepth 20000 in
set_option maxHeartbeats 1000000 in
theorem back_out (d n m imm : Int) (r : Nat → Int) (w : World) (hS : Shapes w) (h : ¬ (0 ≤ d ∧ d < 8 ∧ 0 ≤ n ∧ n < 8 ∧ 0 ≤ m ∧ m < 8 ∧ d ≠ m ∧ d ≠ n ∧ -2047 ≤ imm ∧ imm ≤ 2047)) :
    Calls Tryd.prog 4 #[.int .i8 d, .int .i8 n, .int .i8 m, .int .i64 imm, RV r] w fun e w' => e = .returned (.bool true) ∧ Below w.heap.size w w' := by
  have H := Lib.hid h; clear h
  go_enter Tryd.func4, Tryd.ntmps4
  go_wp2_with (go_at_call 10; refine (wakes_any _ (hS.alloc _)).mono ?_; rintro e w1 ⟨rfl, hb1⟩)
  all_goals first
    | (go_returns; exact ⟨rfl, Below.trans (by go_grown) (hb1.mono (by simp))⟩)
    | (exfalso; apply H.out; refine ⟨?_, ?_, ?_, ?_, ?_, ?_, ?_, ?_, ?_, ?_⟩ <;> first | assumption | omega)

theorem back_any (d n m imm : Int) (r : Nat → Int) (w : World) (hS : Shapes w) (hr : ∀ k, 0 ≤ r k ∧ r k ≤ 18446744073709551615) :
    Calls Tryd.prog 4 #[.int .i8 d, .int .i8 n, .int .i8 m, .int .i64 imm, RV r] w fun e w' => e = .returned (.bool true) ∧ Below w.heap.size w w' := by
  by_cases h : 0 ≤ d ∧ d < 8 ∧ 0 ≤ n ∧ n < 8 ∧ 0 ≤ m ∧ m < 8 ∧ d ≠ m ∧ d ≠ n ∧ -2047 ≤ imm ∧ imm ≤ 2047
  · obtain ⟨h0, h1, h2, h3, h4, h5, hm, hn, h6, h7⟩ := h
    exact back_in d n m imm r w hS hr h0 h1 h2 h3 h4 h5 hm hn h6 h7
  · exact back_out d n m imm r w hS h
end Go.Proofs.YthfikhfhflinfaaDoor
