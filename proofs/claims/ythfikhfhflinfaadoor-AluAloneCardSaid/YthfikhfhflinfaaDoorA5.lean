/- tenementref06.Do by its contract, an operation a theorem. -/
import Derived.Test.YthfikhfhflinfaaDoorA4
import Derived.BigQuiet
namespace Go.Proofs.YthfikhfhflinfaaDoor
open Go.RowKit

/-- a register in a block of eight is written -/
theorem reg_set {w : World} {b : Nat} {r : Nat → Int} (h : ∀ o, w.cell? ⟨b, o, none⟩ = (RA r)[o]?) (d : Nat) (hd : d < 8) (v : Int) :
    ∀ o, (w.setCell ⟨b, d, none⟩ (.int .u64 v)).cell? ⟨b, o, none⟩ = (RA (upd r d v))[o]? := fun o => by
  by_cases e : d = o
  · subst e
    rw [World.cell?_setCell_same _ _ _ (show w.cell? ⟨b, d, none⟩ = some (.int .u64 (r d)) from by rw [h, RA_get r d hd]), RA_get _ d hd]; simp [upd]
  · rw [World.cell?_setCell_other _ _ _ _ (by intro h; apply e; cases h; rfl), h]
    by_cases ho : o < 8
    · rw [RA_get r o ho, RA_get _ o ho, upd, if_neg (fun h => e h.symm)]
    · rw [Array.getElem?_eq_none (by simpa using ho), Array.getElem?_eq_none (by simpa using ho)]
theorem there_setCell {w : World} {b o n : Nat} (h : w.there b o n) (a : Addr) (v : Value) : (w.setCell a v).there b o n := by
  cases a with | mk ab ao sp =>
  exact fun j hj => ⟨by
    obtain ⟨u, hu⟩ := Option.isSome_iff_exists.1 (h j hj).1
    by_cases e : (⟨ab, ao, sp⟩ : Addr) = ⟨b, o + j, none⟩
    · rw [e, World.cell?_setCell_same _ _ _ hu]; rfl
    · rw [World.cell?_setCell_other _ _ _ _ e, hu]; rfl, by rw [World.frozen?_setCell]; exact (h j hj).2⟩
theorem ref_yes (op d n m imm : Int) (w : World) (h : chk op d n m imm = true) :
    Calls Tryd.prog 17 #[.agg #[.int .i8 op, .int .i8 d, .int .i8 n, .int .i8 m, .int .i64 imm]] w fun e w' => e = .returned (.int .i64 0) ∧ Below w.heap.size w w' :=
  (check_ref op d n m imm w).mono fun e w' ⟨he, hw⟩ => ⟨by rw [he, h]; rfl, hw⟩
theorem ref_no (op d n m imm : Int) (w : World) (h : chk op d n m imm = false) :
    Calls Tryd.prog 17 #[.agg #[.int .i8 op, .int .i8 d, .int .i8 n, .int .i8 m, .int .i64 imm]] w fun e w' => e = .returned (.int .i64 60) ∧ Below w.heap.size w w' :=
  (check_ref op d n m imm w).mono fun e w' ⟨he, hw⟩ => ⟨by rw [he, h]; rfl, hw⟩

set_option maxRecDepth 20000 in
set_option maxHeartbeats 400000 in
theorem rdo_no (op d n m imm pc : Int) (r : Nat → Int) (w : World) (hk : chk op d n m imm = false) :
    Calls Tryd.prog 12 #[IV op d n m imm, RV r, .int .i64 pc] w fun e w' => e = .returned (.tuple #[RV r, .int .i64 pc, .int .i64 60]) ∧ Below w.heap.size w w' := by
  have Hk := Lib.hid hk; clear hk
  go_enter Tryd.func12, Tryd.ntmps12
  go_wp2_with fail
  refine (ref_no _ _ _ _ _ _ Hk.out).mono ?_
  rintro e w1 ⟨rfl, hb1⟩
  obtain ⟨hc, hf⟩ := bcell hb1
  have hz2 : w.heap.size + 1 + 1 < w1.heap.size := by have := hb1.size; simp at this; omega
  have B1 : Below w.heap.size w w1 := Below.trans (by go_grown) (hb1.mono (by simp; omega))
  have HT1 := World.there_below (there_new ((w.alloc _).alloc _) #[.int .u64 0, .int .u64 0, .int .u64 0, .int .u64 0, .int .u64 0, .int .u64 0, .int .u64 0, .int .u64 0] 26 8 rfl) hb1 (by simp)
  simp at HT1
  dsimp only
  repeat go_step
  all_goals refine bodyPost_ret (w := w1.setCells (w.heap.size + 1 + 1) 0 (RL r)) (results_mid3 (b := w.heap.size + 1 + 1) (o := 0) rfl _ _ rfl (World.rangeAt_setCells_same _ _ _ _ HT1) Tryd.underlying26 rfl size26) rfl ?_
  refine ⟨rfl, Below.setCells (by omega) _ _ B1⟩

set_option maxRecDepth 20000 in
set_option maxHeartbeats 400000 in
theorem rdo_0 (d n m imm pc : Int) (r : Nat → Int) (w : World) (hk : chk 0 d n m imm = true) (h0 : 0 ≤ d) (h1 : d < 8) (h2 : 0 ≤ n) (h3 : n < 8) (h4 : 0 ≤ m) (h5 : m < 8) :
    Calls Tryd.prog 12 #[IV 0 d n m imm, RV r, .int .i64 pc] w fun e w' => e = .returned (.tuple #[RV (r), .int .i64 (wrap64 (pc + 1)), .int .i64 0]) ∧ Below w.heap.size w w' := by
  have Hk := Lib.hid hk; clear hk
  have hs := fun v => RA_set r d.toNat v (by omega)
  have hd := RL_get r d.toNat (by omega)
  have hn := RL_get r n.toNat (by omega)
  have hm := RL_get r m.toNat (by omega)
  go_enter Tryd.func12, Tryd.ntmps12
  go_wp2_with fail
  refine (ref_yes _ _ _ _ _ _ Hk.out).mono ?_
  rintro e w1 ⟨rfl, hb1⟩
  obtain ⟨hc, hf⟩ := bcell hb1
  have hz2 : w.heap.size + 1 + 1 < w1.heap.size := by have := hb1.size; simp at this; omega
  have hz1 : w.heap.size + 1 < w1.heap.size := by omega
  have hz0 : w.heap.size < w1.heap.size := by omega
  have B1 : Below w.heap.size w w1 := Below.trans (by go_grown) (hb1.mono (by simp; omega))
  have HT1 := World.there_below (there_new ((w.alloc _).alloc _) #[.int .u64 0, .int .u64 0, .int .u64 0, .int .u64 0, .int .u64 0, .int .u64 0, .int .u64 0, .int .u64 0] 26 8 rfl) hb1 (by simp)
  simp at HT1
  go_wp2_with fail
  go_quiet (fail)
  obtain ⟨w2, e2⟩ : ∃ w2, w2 = w1.drewN nq := ⟨_, rfl⟩
  have B2 : Below w.heap.size w w2 := by rw [e2]; exact below_drewN B1 _
  have HT2 : w2.there (w.heap.size + 1 + 1) 0 8 := by rw [e2]; exact HT1
  have c2 : ∀ o, w2.cell? ⟨w.heap.size, o, none⟩ = #[Value.int .i8 0, .int .i8 d, .int .i8 n, .int .i8 m, .int .i64 imm][o]? := fun o => by rw [e2]; go_simp
  have r2 : ∀ o, w2.cell? ⟨w.heap.size + 1, o, none⟩ = (RA r)[o]? := fun o => by rw [e2]; go_simp
  have f2 : ∀ o, w2.frozen? ⟨w.heap.size + 1, o, none⟩ = false := fun o => by rw [e2]; go_simp
  have t2 : ∀ o, w2.cell? ⟨w.heap.size + 1 + 1, o, none⟩ = #[.int .u64 0, .int .u64 0, .int .u64 0, .int .u64 0, .int .u64 0, .int .u64 0, .int .u64 0, .int .u64 0][o]? := fun o => by rw [e2]; go_simp
  have g2 : ∀ o, w2.frozen? ⟨w.heap.size + 1 + 1, o, none⟩ = false := fun o => by rw [e2]; go_simp
  have z2 : w.heap.size + 1 + 1 < w2.heap.size := by rw [e2]; exact hz2
  rw [← e2]
  clear e2 hc hf hb1 HT1 hz2 hz1 hz0 B1
  repeat go_step
  all_goals refine bodyPost_ret (w := w2.setCells (w.heap.size + 1 + 1) 0 (RL r)) (results_mid3 (b := w.heap.size + 1 + 1) (o := 0) rfl _ _ rfl (World.rangeAt_setCells_same _ _ _ _ HT2) Tryd.underlying26 rfl size26) rfl ?_
  refine ⟨rfl, Below.setCells (by omega) _ _ B2⟩


set_option maxRecDepth 20000 in
set_option maxHeartbeats 400000 in
theorem rdo_1 (d n m imm pc : Int) (r : Nat → Int) (w : World) (hk : chk 1 d n m imm = true) (h0 : 0 ≤ d) (h1 : d < 8) (h2 : 0 ≤ n) (h3 : n < 8) (h4 : 0 ≤ m) (h5 : m < 8) :
    Calls Tryd.prog 12 #[IV 1 d n m imm, RV r, .int .i64 pc] w fun e w' => e = .returned (.tuple #[RV (upd r d.toNat (tou64 imm)), .int .i64 (wrap64 (pc + 1)), .int .i64 0]) ∧ Below w.heap.size w w' := by
  have Hk := Lib.hid hk; clear hk
  have hs := fun v => RA_set r d.toNat v (by omega)
  have hd := RL_get r d.toNat (by omega)
  have hn := RL_get r n.toNat (by omega)
  have hm := RL_get r m.toNat (by omega)
  go_enter Tryd.func12, Tryd.ntmps12
  go_wp2_with fail
  refine (ref_yes _ _ _ _ _ _ Hk.out).mono ?_
  rintro e w1 ⟨rfl, hb1⟩
  obtain ⟨hc, hf⟩ := bcell hb1
  have hz2 : w.heap.size + 1 + 1 < w1.heap.size := by have := hb1.size; simp at this; omega
  have hz1 : w.heap.size + 1 < w1.heap.size := by omega
  have hz0 : w.heap.size < w1.heap.size := by omega
  have B1 : Below w.heap.size w w1 := Below.trans (by go_grown) (hb1.mono (by simp; omega))
  have HT1 := World.there_below (there_new ((w.alloc _).alloc _) #[.int .u64 0, .int .u64 0, .int .u64 0, .int .u64 0, .int .u64 0, .int .u64 0, .int .u64 0, .int .u64 0] 26 8 rfl) hb1 (by simp)
  simp at HT1
  go_wp2_with fail
  go_quiet (fail)
  obtain ⟨w2, e2⟩ : ∃ w2, w2 = w1.drewN nq := ⟨_, rfl⟩
  have B2 : Below w.heap.size w w2 := by rw [e2]; exact below_drewN B1 _
  have HT2 : w2.there (w.heap.size + 1 + 1) 0 8 := by rw [e2]; exact HT1
  have c2 : ∀ o, w2.cell? ⟨w.heap.size, o, none⟩ = #[Value.int .i8 1, .int .i8 d, .int .i8 n, .int .i8 m, .int .i64 imm][o]? := fun o => by rw [e2]; go_simp
  have r2 : ∀ o, w2.cell? ⟨w.heap.size + 1, o, none⟩ = (RA r)[o]? := fun o => by rw [e2]; go_simp
  have f2 : ∀ o, w2.frozen? ⟨w.heap.size + 1, o, none⟩ = false := fun o => by rw [e2]; go_simp
  have t2 : ∀ o, w2.cell? ⟨w.heap.size + 1 + 1, o, none⟩ = #[.int .u64 0, .int .u64 0, .int .u64 0, .int .u64 0, .int .u64 0, .int .u64 0, .int .u64 0, .int .u64 0][o]? := fun o => by rw [e2]; go_simp
  have g2 : ∀ o, w2.frozen? ⟨w.heap.size + 1 + 1, o, none⟩ = false := fun o => by rw [e2]; go_simp
  have z2 : w.heap.size + 1 + 1 < w2.heap.size := by rw [e2]; exact hz2
  rw [← e2]
  clear e2 hc hf hb1 HT1 hz2 hz1 hz0 B1
  have q0 := fun v => reg_set r2 d.toNat (by omega) v 0
  have q1 := fun v => reg_set r2 d.toNat (by omega) v 1
  have q2 := fun v => reg_set r2 d.toNat (by omega) v 2
  have q3 := fun v => reg_set r2 d.toNat (by omega) v 3
  have q4 := fun v => reg_set r2 d.toNat (by omega) v 4
  have q5 := fun v => reg_set r2 d.toNat (by omega) v 5
  have q6 := fun v => reg_set r2 d.toNat (by omega) v 6
  have q7 := fun v => reg_set r2 d.toNat (by omega) v 7
  simp only [List.getElem?_toArray, List.getElem?_cons_zero, List.getElem?_cons_succ] at q0 q1 q2 q3 q4 q5 q6 q7
  repeat go_step
  refine bodyPost_ret (w := (w2.setCell ⟨w.heap.size + 1, d.toNat, none⟩ (.int .u64 ((tou64 imm)))).setCells (w.heap.size + 1 + 1) 0 (RL (upd r d.toNat (tou64 imm)))) (results_mid3 (b := w.heap.size + 1 + 1) (o := 0) rfl _ _ rfl (World.rangeAt_setCells_same _ _ _ _ (there_setCell HT2 _ _)) Tryd.underlying26 rfl size26) rfl ?_
  refine ⟨rfl, Below.setCells (by omega) _ _ (B2.setCell (by simp) _)⟩


set_option maxRecDepth 20000 in
set_option maxHeartbeats 400000 in
theorem rdo_2 (d n m imm pc : Int) (r : Nat → Int) (w : World) (hk : chk 2 d n m imm = true) (h0 : 0 ≤ d) (h1 : d < 8) (h2 : 0 ≤ n) (h3 : n < 8) (h4 : 0 ≤ m) (h5 : m < 8) :
    Calls Tryd.prog 12 #[IV 2 d n m imm, RV r, .int .i64 pc] w fun e w' => e = .returned (.tuple #[RV (upd r d.toNat (add64 (r n.toNat) (r m.toNat))), .int .i64 (wrap64 (pc + 1)), .int .i64 0]) ∧ Below w.heap.size w w' := by
  have Hk := Lib.hid hk; clear hk
  have hs := fun v => RA_set r d.toNat v (by omega)
  have hd := RL_get r d.toNat (by omega)
  have hn := RL_get r n.toNat (by omega)
  have hm := RL_get r m.toNat (by omega)
  go_enter Tryd.func12, Tryd.ntmps12
  go_wp2_with fail
  refine (ref_yes _ _ _ _ _ _ Hk.out).mono ?_
  rintro e w1 ⟨rfl, hb1⟩
  obtain ⟨hc, hf⟩ := bcell hb1
  have hz2 : w.heap.size + 1 + 1 < w1.heap.size := by have := hb1.size; simp at this; omega
  have hz1 : w.heap.size + 1 < w1.heap.size := by omega
  have hz0 : w.heap.size < w1.heap.size := by omega
  have B1 : Below w.heap.size w w1 := Below.trans (by go_grown) (hb1.mono (by simp; omega))
  have HT1 := World.there_below (there_new ((w.alloc _).alloc _) #[.int .u64 0, .int .u64 0, .int .u64 0, .int .u64 0, .int .u64 0, .int .u64 0, .int .u64 0, .int .u64 0] 26 8 rfl) hb1 (by simp)
  simp at HT1
  go_wp2_with fail
  go_quiet (fail)
  obtain ⟨w2, e2⟩ : ∃ w2, w2 = w1.drewN nq := ⟨_, rfl⟩
  have B2 : Below w.heap.size w w2 := by rw [e2]; exact below_drewN B1 _
  have HT2 : w2.there (w.heap.size + 1 + 1) 0 8 := by rw [e2]; exact HT1
  have c2 : ∀ o, w2.cell? ⟨w.heap.size, o, none⟩ = #[Value.int .i8 2, .int .i8 d, .int .i8 n, .int .i8 m, .int .i64 imm][o]? := fun o => by rw [e2]; go_simp
  have r2 : ∀ o, w2.cell? ⟨w.heap.size + 1, o, none⟩ = (RA r)[o]? := fun o => by rw [e2]; go_simp
  have f2 : ∀ o, w2.frozen? ⟨w.heap.size + 1, o, none⟩ = false := fun o => by rw [e2]; go_simp
  have t2 : ∀ o, w2.cell? ⟨w.heap.size + 1 + 1, o, none⟩ = #[.int .u64 0, .int .u64 0, .int .u64 0, .int .u64 0, .int .u64 0, .int .u64 0, .int .u64 0, .int .u64 0][o]? := fun o => by rw [e2]; go_simp
  have g2 : ∀ o, w2.frozen? ⟨w.heap.size + 1 + 1, o, none⟩ = false := fun o => by rw [e2]; go_simp
  have z2 : w.heap.size + 1 + 1 < w2.heap.size := by rw [e2]; exact hz2
  rw [← e2]
  clear e2 hc hf hb1 HT1 hz2 hz1 hz0 B1
  have q0 := fun v => reg_set r2 d.toNat (by omega) v 0
  have q1 := fun v => reg_set r2 d.toNat (by omega) v 1
  have q2 := fun v => reg_set r2 d.toNat (by omega) v 2
  have q3 := fun v => reg_set r2 d.toNat (by omega) v 3
  have q4 := fun v => reg_set r2 d.toNat (by omega) v 4
  have q5 := fun v => reg_set r2 d.toNat (by omega) v 5
  have q6 := fun v => reg_set r2 d.toNat (by omega) v 6
  have q7 := fun v => reg_set r2 d.toNat (by omega) v 7
  simp only [List.getElem?_toArray, List.getElem?_cons_zero, List.getElem?_cons_succ] at q0 q1 q2 q3 q4 q5 q6 q7
  repeat go_step
  refine bodyPost_ret (w := (w2.setCell ⟨w.heap.size + 1, d.toNat, none⟩ (.int .u64 ((add64 (r n.toNat) (r m.toNat))))).setCells (w.heap.size + 1 + 1) 0 (RL (upd r d.toNat (add64 (r n.toNat) (r m.toNat))))) (results_mid3 (b := w.heap.size + 1 + 1) (o := 0) rfl _ _ rfl (World.rangeAt_setCells_same _ _ _ _ (there_setCell HT2 _ _)) Tryd.underlying26 rfl size26) rfl ?_
  refine ⟨rfl, Below.setCells (by omega) _ _ (B2.setCell (by simp) _)⟩


set_option maxRecDepth 20000 in
set_option maxHeartbeats 400000 in
theorem rdo_3 (d n m imm pc : Int) (r : Nat → Int) (w : World) (hk : chk 3 d n m imm = true) (h0 : 0 ≤ d) (h1 : d < 8) (h2 : 0 ≤ n) (h3 : n < 8) (h4 : 0 ≤ m) (h5 : m < 8) :
    Calls Tryd.prog 12 #[IV 3 d n m imm, RV r, .int .i64 pc] w fun e w' => e = .returned (.tuple #[RV (upd r d.toNat (sub64 (r n.toNat) (r m.toNat))), .int .i64 (wrap64 (pc + 1)), .int .i64 0]) ∧ Below w.heap.size w w' := by
  have Hk := Lib.hid hk; clear hk
  have hs := fun v => RA_set r d.toNat v (by omega)
  have hd := RL_get r d.toNat (by omega)
  have hn := RL_get r n.toNat (by omega)
  have hm := RL_get r m.toNat (by omega)
  go_enter Tryd.func12, Tryd.ntmps12
  go_wp2_with fail
  refine (ref_yes _ _ _ _ _ _ Hk.out).mono ?_
  rintro e w1 ⟨rfl, hb1⟩
  obtain ⟨hc, hf⟩ := bcell hb1
  have hz2 : w.heap.size + 1 + 1 < w1.heap.size := by have := hb1.size; simp at this; omega
  have hz1 : w.heap.size + 1 < w1.heap.size := by omega
  have hz0 : w.heap.size < w1.heap.size := by omega
  have B1 : Below w.heap.size w w1 := Below.trans (by go_grown) (hb1.mono (by simp; omega))
  have HT1 := World.there_below (there_new ((w.alloc _).alloc _) #[.int .u64 0, .int .u64 0, .int .u64 0, .int .u64 0, .int .u64 0, .int .u64 0, .int .u64 0, .int .u64 0] 26 8 rfl) hb1 (by simp)
  simp at HT1
  go_wp2_with fail
  go_quiet (fail)
  obtain ⟨w2, e2⟩ : ∃ w2, w2 = w1.drewN nq := ⟨_, rfl⟩
  have B2 : Below w.heap.size w w2 := by rw [e2]; exact below_drewN B1 _
  have HT2 : w2.there (w.heap.size + 1 + 1) 0 8 := by rw [e2]; exact HT1
  have c2 : ∀ o, w2.cell? ⟨w.heap.size, o, none⟩ = #[Value.int .i8 3, .int .i8 d, .int .i8 n, .int .i8 m, .int .i64 imm][o]? := fun o => by rw [e2]; go_simp
  have r2 : ∀ o, w2.cell? ⟨w.heap.size + 1, o, none⟩ = (RA r)[o]? := fun o => by rw [e2]; go_simp
  have f2 : ∀ o, w2.frozen? ⟨w.heap.size + 1, o, none⟩ = false := fun o => by rw [e2]; go_simp
  have t2 : ∀ o, w2.cell? ⟨w.heap.size + 1 + 1, o, none⟩ = #[.int .u64 0, .int .u64 0, .int .u64 0, .int .u64 0, .int .u64 0, .int .u64 0, .int .u64 0, .int .u64 0][o]? := fun o => by rw [e2]; go_simp
  have g2 : ∀ o, w2.frozen? ⟨w.heap.size + 1 + 1, o, none⟩ = false := fun o => by rw [e2]; go_simp
  have z2 : w.heap.size + 1 + 1 < w2.heap.size := by rw [e2]; exact hz2
  rw [← e2]
  clear e2 hc hf hb1 HT1 hz2 hz1 hz0 B1
  have q0 := fun v => reg_set r2 d.toNat (by omega) v 0
  have q1 := fun v => reg_set r2 d.toNat (by omega) v 1
  have q2 := fun v => reg_set r2 d.toNat (by omega) v 2
  have q3 := fun v => reg_set r2 d.toNat (by omega) v 3
  have q4 := fun v => reg_set r2 d.toNat (by omega) v 4
  have q5 := fun v => reg_set r2 d.toNat (by omega) v 5
  have q6 := fun v => reg_set r2 d.toNat (by omega) v 6
  have q7 := fun v => reg_set r2 d.toNat (by omega) v 7
  simp only [List.getElem?_toArray, List.getElem?_cons_zero, List.getElem?_cons_succ] at q0 q1 q2 q3 q4 q5 q6 q7
  repeat go_step
  refine bodyPost_ret (w := (w2.setCell ⟨w.heap.size + 1, d.toNat, none⟩ (.int .u64 ((sub64 (r n.toNat) (r m.toNat))))).setCells (w.heap.size + 1 + 1) 0 (RL (upd r d.toNat (sub64 (r n.toNat) (r m.toNat))))) (results_mid3 (b := w.heap.size + 1 + 1) (o := 0) rfl _ _ rfl (World.rangeAt_setCells_same _ _ _ _ (there_setCell HT2 _ _)) Tryd.underlying26 rfl size26) rfl ?_
  refine ⟨rfl, Below.setCells (by omega) _ _ (B2.setCell (by simp) _)⟩


set_option maxRecDepth 20000 in
set_option maxHeartbeats 400000 in
theorem rdo_4 (d n m imm pc : Int) (r : Nat → Int) (w : World) (hk : chk 4 d n m imm = true) (h0 : 0 ≤ d) (h1 : d < 8) (h2 : 0 ≤ n) (h3 : n < 8) (h4 : 0 ≤ m) (h5 : m < 8) :
    Calls Tryd.prog 12 #[IV 4 d n m imm, RV r, .int .i64 pc] w fun e w' => e = .returned (.tuple #[RV (upd r d.toNat (and64 (r n.toNat) (r m.toNat))), .int .i64 (wrap64 (pc + 1)), .int .i64 0]) ∧ Below w.heap.size w w' := by
  have Hk := Lib.hid hk; clear hk
  have hs := fun v => RA_set r d.toNat v (by omega)
  have hd := RL_get r d.toNat (by omega)
  have hn := RL_get r n.toNat (by omega)
  have hm := RL_get r m.toNat (by omega)
  go_enter Tryd.func12, Tryd.ntmps12
  go_wp2_with fail
  refine (ref_yes _ _ _ _ _ _ Hk.out).mono ?_
  rintro e w1 ⟨rfl, hb1⟩
  obtain ⟨hc, hf⟩ := bcell hb1
  have hz2 : w.heap.size + 1 + 1 < w1.heap.size := by have := hb1.size; simp at this; omega
  have hz1 : w.heap.size + 1 < w1.heap.size := by omega
  have hz0 : w.heap.size < w1.heap.size := by omega
  have B1 : Below w.heap.size w w1 := Below.trans (by go_grown) (hb1.mono (by simp; omega))
  have HT1 := World.there_below (there_new ((w.alloc _).alloc _) #[.int .u64 0, .int .u64 0, .int .u64 0, .int .u64 0, .int .u64 0, .int .u64 0, .int .u64 0, .int .u64 0] 26 8 rfl) hb1 (by simp)
  simp at HT1
  go_wp2_with fail
  go_quiet (fail)
  obtain ⟨w2, e2⟩ : ∃ w2, w2 = w1.drewN nq := ⟨_, rfl⟩
  have B2 : Below w.heap.size w w2 := by rw [e2]; exact below_drewN B1 _
  have HT2 : w2.there (w.heap.size + 1 + 1) 0 8 := by rw [e2]; exact HT1
  have c2 : ∀ o, w2.cell? ⟨w.heap.size, o, none⟩ = #[Value.int .i8 4, .int .i8 d, .int .i8 n, .int .i8 m, .int .i64 imm][o]? := fun o => by rw [e2]; go_simp
  have r2 : ∀ o, w2.cell? ⟨w.heap.size + 1, o, none⟩ = (RA r)[o]? := fun o => by rw [e2]; go_simp
  have f2 : ∀ o, w2.frozen? ⟨w.heap.size + 1, o, none⟩ = false := fun o => by rw [e2]; go_simp
  have t2 : ∀ o, w2.cell? ⟨w.heap.size + 1 + 1, o, none⟩ = #[.int .u64 0, .int .u64 0, .int .u64 0, .int .u64 0, .int .u64 0, .int .u64 0, .int .u64 0, .int .u64 0][o]? := fun o => by rw [e2]; go_simp
  have g2 : ∀ o, w2.frozen? ⟨w.heap.size + 1 + 1, o, none⟩ = false := fun o => by rw [e2]; go_simp
  have z2 : w.heap.size + 1 + 1 < w2.heap.size := by rw [e2]; exact hz2
  rw [← e2]
  clear e2 hc hf hb1 HT1 hz2 hz1 hz0 B1
  have q0 := fun v => reg_set r2 d.toNat (by omega) v 0
  have q1 := fun v => reg_set r2 d.toNat (by omega) v 1
  have q2 := fun v => reg_set r2 d.toNat (by omega) v 2
  have q3 := fun v => reg_set r2 d.toNat (by omega) v 3
  have q4 := fun v => reg_set r2 d.toNat (by omega) v 4
  have q5 := fun v => reg_set r2 d.toNat (by omega) v 5
  have q6 := fun v => reg_set r2 d.toNat (by omega) v 6
  have q7 := fun v => reg_set r2 d.toNat (by omega) v 7
  simp only [List.getElem?_toArray, List.getElem?_cons_zero, List.getElem?_cons_succ] at q0 q1 q2 q3 q4 q5 q6 q7
  repeat go_step
  refine bodyPost_ret (w := (w2.setCell ⟨w.heap.size + 1, d.toNat, none⟩ (.int .u64 ((and64 (r n.toNat) (r m.toNat))))).setCells (w.heap.size + 1 + 1) 0 (RL (upd r d.toNat (and64 (r n.toNat) (r m.toNat))))) (results_mid3 (b := w.heap.size + 1 + 1) (o := 0) rfl _ _ rfl (World.rangeAt_setCells_same _ _ _ _ (there_setCell HT2 _ _)) Tryd.underlying26 rfl size26) rfl ?_
  refine ⟨rfl, Below.setCells (by omega) _ _ (B2.setCell (by simp) _)⟩


set_option maxRecDepth 20000 in
set_option maxHeartbeats 400000 in
theorem rdo_5 (d n m imm pc : Int) (r : Nat → Int) (w : World) (hk : chk 5 d n m imm = true) (h0 : 0 ≤ d) (h1 : d < 8) (h2 : 0 ≤ n) (h3 : n < 8) (h4 : 0 ≤ m) (h5 : m < 8) :
    Calls Tryd.prog 12 #[IV 5 d n m imm, RV r, .int .i64 pc] w fun e w' => e = .returned (.tuple #[RV (upd r d.toNat (or64 (r n.toNat) (r m.toNat))), .int .i64 (wrap64 (pc + 1)), .int .i64 0]) ∧ Below w.heap.size w w' := by
  have Hk := Lib.hid hk; clear hk
  have hs := fun v => RA_set r d.toNat v (by omega)
  have hd := RL_get r d.toNat (by omega)
  have hn := RL_get r n.toNat (by omega)
  have hm := RL_get r m.toNat (by omega)
  go_enter Tryd.func12, Tryd.ntmps12
  go_wp2_with fail
  refine (ref_yes _ _ _ _ _ _ Hk.out).mono ?_
  rintro e w1 ⟨rfl, hb1⟩
  obtain ⟨hc, hf⟩ := bcell hb1
  have hz2 : w.heap.size + 1 + 1 < w1.heap.size := by have := hb1.size; simp at this; omega
  have hz1 : w.heap.size + 1 < w1.heap.size := by omega
  have hz0 : w.heap.size < w1.heap.size := by omega
  have B1 : Below w.heap.size w w1 := Below.trans (by go_grown) (hb1.mono (by simp; omega))
  have HT1 := World.there_below (there_new ((w.alloc _).alloc _) #[.int .u64 0, .int .u64 0, .int .u64 0, .int .u64 0, .int .u64 0, .int .u64 0, .int .u64 0, .int .u64 0] 26 8 rfl) hb1 (by simp)
  simp at HT1
  go_wp2_with fail
  go_quiet (fail)
  obtain ⟨w2, e2⟩ : ∃ w2, w2 = w1.drewN nq := ⟨_, rfl⟩
  have B2 : Below w.heap.size w w2 := by rw [e2]; exact below_drewN B1 _
  have HT2 : w2.there (w.heap.size + 1 + 1) 0 8 := by rw [e2]; exact HT1
  have c2 : ∀ o, w2.cell? ⟨w.heap.size, o, none⟩ = #[Value.int .i8 5, .int .i8 d, .int .i8 n, .int .i8 m, .int .i64 imm][o]? := fun o => by rw [e2]; go_simp
  have r2 : ∀ o, w2.cell? ⟨w.heap.size + 1, o, none⟩ = (RA r)[o]? := fun o => by rw [e2]; go_simp
  have f2 : ∀ o, w2.frozen? ⟨w.heap.size + 1, o, none⟩ = false := fun o => by rw [e2]; go_simp
  have t2 : ∀ o, w2.cell? ⟨w.heap.size + 1 + 1, o, none⟩ = #[.int .u64 0, .int .u64 0, .int .u64 0, .int .u64 0, .int .u64 0, .int .u64 0, .int .u64 0, .int .u64 0][o]? := fun o => by rw [e2]; go_simp
  have g2 : ∀ o, w2.frozen? ⟨w.heap.size + 1 + 1, o, none⟩ = false := fun o => by rw [e2]; go_simp
  have z2 : w.heap.size + 1 + 1 < w2.heap.size := by rw [e2]; exact hz2
  rw [← e2]
  clear e2 hc hf hb1 HT1 hz2 hz1 hz0 B1
  have q0 := fun v => reg_set r2 d.toNat (by omega) v 0
  have q1 := fun v => reg_set r2 d.toNat (by omega) v 1
  have q2 := fun v => reg_set r2 d.toNat (by omega) v 2
  have q3 := fun v => reg_set r2 d.toNat (by omega) v 3
  have q4 := fun v => reg_set r2 d.toNat (by omega) v 4
  have q5 := fun v => reg_set r2 d.toNat (by omega) v 5
  have q6 := fun v => reg_set r2 d.toNat (by omega) v 6
  have q7 := fun v => reg_set r2 d.toNat (by omega) v 7
  simp only [List.getElem?_toArray, List.getElem?_cons_zero, List.getElem?_cons_succ] at q0 q1 q2 q3 q4 q5 q6 q7
  repeat go_step
  refine bodyPost_ret (w := (w2.setCell ⟨w.heap.size + 1, d.toNat, none⟩ (.int .u64 ((or64 (r n.toNat) (r m.toNat))))).setCells (w.heap.size + 1 + 1) 0 (RL (upd r d.toNat (or64 (r n.toNat) (r m.toNat))))) (results_mid3 (b := w.heap.size + 1 + 1) (o := 0) rfl _ _ rfl (World.rangeAt_setCells_same _ _ _ _ (there_setCell HT2 _ _)) Tryd.underlying26 rfl size26) rfl ?_
  refine ⟨rfl, Below.setCells (by omega) _ _ (B2.setCell (by simp) _)⟩


set_option maxRecDepth 20000 in
set_option maxHeartbeats 400000 in
theorem rdo_6 (d n m imm pc : Int) (r : Nat → Int) (w : World) (hk : chk 6 d n m imm = true) (h0 : 0 ≤ d) (h1 : d < 8) (h2 : 0 ≤ n) (h3 : n < 8) (h4 : 0 ≤ m) (h5 : m < 8) :
    Calls Tryd.prog 12 #[IV 6 d n m imm, RV r, .int .i64 pc] w fun e w' => e = .returned (.tuple #[RV (upd r d.toNat (xor64 (r n.toNat) (r m.toNat))), .int .i64 (wrap64 (pc + 1)), .int .i64 0]) ∧ Below w.heap.size w w' := by
  have Hk := Lib.hid hk; clear hk
  have hs := fun v => RA_set r d.toNat v (by omega)
  have hd := RL_get r d.toNat (by omega)
  have hn := RL_get r n.toNat (by omega)
  have hm := RL_get r m.toNat (by omega)
  go_enter Tryd.func12, Tryd.ntmps12
  go_wp2_with fail
  refine (ref_yes _ _ _ _ _ _ Hk.out).mono ?_
  rintro e w1 ⟨rfl, hb1⟩
  obtain ⟨hc, hf⟩ := bcell hb1
  have hz2 : w.heap.size + 1 + 1 < w1.heap.size := by have := hb1.size; simp at this; omega
  have hz1 : w.heap.size + 1 < w1.heap.size := by omega
  have hz0 : w.heap.size < w1.heap.size := by omega
  have B1 : Below w.heap.size w w1 := Below.trans (by go_grown) (hb1.mono (by simp; omega))
  have HT1 := World.there_below (there_new ((w.alloc _).alloc _) #[.int .u64 0, .int .u64 0, .int .u64 0, .int .u64 0, .int .u64 0, .int .u64 0, .int .u64 0, .int .u64 0] 26 8 rfl) hb1 (by simp)
  simp at HT1
  go_wp2_with fail
  go_quiet (fail)
  obtain ⟨w2, e2⟩ : ∃ w2, w2 = w1.drewN nq := ⟨_, rfl⟩
  have B2 : Below w.heap.size w w2 := by rw [e2]; exact below_drewN B1 _
  have HT2 : w2.there (w.heap.size + 1 + 1) 0 8 := by rw [e2]; exact HT1
  have c2 : ∀ o, w2.cell? ⟨w.heap.size, o, none⟩ = #[Value.int .i8 6, .int .i8 d, .int .i8 n, .int .i8 m, .int .i64 imm][o]? := fun o => by rw [e2]; go_simp
  have r2 : ∀ o, w2.cell? ⟨w.heap.size + 1, o, none⟩ = (RA r)[o]? := fun o => by rw [e2]; go_simp
  have f2 : ∀ o, w2.frozen? ⟨w.heap.size + 1, o, none⟩ = false := fun o => by rw [e2]; go_simp
  have t2 : ∀ o, w2.cell? ⟨w.heap.size + 1 + 1, o, none⟩ = #[.int .u64 0, .int .u64 0, .int .u64 0, .int .u64 0, .int .u64 0, .int .u64 0, .int .u64 0, .int .u64 0][o]? := fun o => by rw [e2]; go_simp
  have g2 : ∀ o, w2.frozen? ⟨w.heap.size + 1 + 1, o, none⟩ = false := fun o => by rw [e2]; go_simp
  have z2 : w.heap.size + 1 + 1 < w2.heap.size := by rw [e2]; exact hz2
  rw [← e2]
  clear e2 hc hf hb1 HT1 hz2 hz1 hz0 B1
  have q0 := fun v => reg_set r2 d.toNat (by omega) v 0
  have q1 := fun v => reg_set r2 d.toNat (by omega) v 1
  have q2 := fun v => reg_set r2 d.toNat (by omega) v 2
  have q3 := fun v => reg_set r2 d.toNat (by omega) v 3
  have q4 := fun v => reg_set r2 d.toNat (by omega) v 4
  have q5 := fun v => reg_set r2 d.toNat (by omega) v 5
  have q6 := fun v => reg_set r2 d.toNat (by omega) v 6
  have q7 := fun v => reg_set r2 d.toNat (by omega) v 7
  simp only [List.getElem?_toArray, List.getElem?_cons_zero, List.getElem?_cons_succ] at q0 q1 q2 q3 q4 q5 q6 q7
  repeat go_step
  refine bodyPost_ret (w := (w2.setCell ⟨w.heap.size + 1, d.toNat, none⟩ (.int .u64 ((xor64 (r n.toNat) (r m.toNat))))).setCells (w.heap.size + 1 + 1) 0 (RL (upd r d.toNat (xor64 (r n.toNat) (r m.toNat))))) (results_mid3 (b := w.heap.size + 1 + 1) (o := 0) rfl _ _ rfl (World.rangeAt_setCells_same _ _ _ _ (there_setCell HT2 _ _)) Tryd.underlying26 rfl size26) rfl ?_
  refine ⟨rfl, Below.setCells (by omega) _ _ (B2.setCell (by simp) _)⟩


set_option maxRecDepth 20000 in
set_option maxHeartbeats 400000 in
theorem rdo_7 (d n m imm pc : Int) (r : Nat → Int) (w : World) (hk : chk 7 d n m imm = true) (h0 : 0 ≤ d) (h1 : d < 8) (h2 : 0 ≤ n) (h3 : n < 8) (h4 : 0 ≤ m) (h5 : m < 8) :
    Calls Tryd.prog 12 #[IV 7 d n m imm, RV r, .int .i64 pc] w fun e w' => e = .returned (.tuple #[RV (upd r d.toNat (add64 (r n.toNat) (tou64 imm))), .int .i64 (wrap64 (pc + 1)), .int .i64 0]) ∧ Below w.heap.size w w' := by
  have Hk := Lib.hid hk; clear hk
  have hs := fun v => RA_set r d.toNat v (by omega)
  have hd := RL_get r d.toNat (by omega)
  have hn := RL_get r n.toNat (by omega)
  have hm := RL_get r m.toNat (by omega)
  go_enter Tryd.func12, Tryd.ntmps12
  go_wp2_with fail
  refine (ref_yes _ _ _ _ _ _ Hk.out).mono ?_
  rintro e w1 ⟨rfl, hb1⟩
  obtain ⟨hc, hf⟩ := bcell hb1
  have hz2 : w.heap.size + 1 + 1 < w1.heap.size := by have := hb1.size; simp at this; omega
  have hz1 : w.heap.size + 1 < w1.heap.size := by omega
  have hz0 : w.heap.size < w1.heap.size := by omega
  have B1 : Below w.heap.size w w1 := Below.trans (by go_grown) (hb1.mono (by simp; omega))
  have HT1 := World.there_below (there_new ((w.alloc _).alloc _) #[.int .u64 0, .int .u64 0, .int .u64 0, .int .u64 0, .int .u64 0, .int .u64 0, .int .u64 0, .int .u64 0] 26 8 rfl) hb1 (by simp)
  simp at HT1
  go_wp2_with fail
  go_quiet (fail)
  obtain ⟨w2, e2⟩ : ∃ w2, w2 = w1.drewN nq := ⟨_, rfl⟩
  have B2 : Below w.heap.size w w2 := by rw [e2]; exact below_drewN B1 _
  have HT2 : w2.there (w.heap.size + 1 + 1) 0 8 := by rw [e2]; exact HT1
  have c2 : ∀ o, w2.cell? ⟨w.heap.size, o, none⟩ = #[Value.int .i8 7, .int .i8 d, .int .i8 n, .int .i8 m, .int .i64 imm][o]? := fun o => by rw [e2]; go_simp
  have r2 : ∀ o, w2.cell? ⟨w.heap.size + 1, o, none⟩ = (RA r)[o]? := fun o => by rw [e2]; go_simp
  have f2 : ∀ o, w2.frozen? ⟨w.heap.size + 1, o, none⟩ = false := fun o => by rw [e2]; go_simp
  have t2 : ∀ o, w2.cell? ⟨w.heap.size + 1 + 1, o, none⟩ = #[.int .u64 0, .int .u64 0, .int .u64 0, .int .u64 0, .int .u64 0, .int .u64 0, .int .u64 0, .int .u64 0][o]? := fun o => by rw [e2]; go_simp
  have g2 : ∀ o, w2.frozen? ⟨w.heap.size + 1 + 1, o, none⟩ = false := fun o => by rw [e2]; go_simp
  have z2 : w.heap.size + 1 + 1 < w2.heap.size := by rw [e2]; exact hz2
  rw [← e2]
  clear e2 hc hf hb1 HT1 hz2 hz1 hz0 B1
  have q0 := fun v => reg_set r2 d.toNat (by omega) v 0
  have q1 := fun v => reg_set r2 d.toNat (by omega) v 1
  have q2 := fun v => reg_set r2 d.toNat (by omega) v 2
  have q3 := fun v => reg_set r2 d.toNat (by omega) v 3
  have q4 := fun v => reg_set r2 d.toNat (by omega) v 4
  have q5 := fun v => reg_set r2 d.toNat (by omega) v 5
  have q6 := fun v => reg_set r2 d.toNat (by omega) v 6
  have q7 := fun v => reg_set r2 d.toNat (by omega) v 7
  simp only [List.getElem?_toArray, List.getElem?_cons_zero, List.getElem?_cons_succ] at q0 q1 q2 q3 q4 q5 q6 q7
  repeat go_step
  refine bodyPost_ret (w := (w2.setCell ⟨w.heap.size + 1, d.toNat, none⟩ (.int .u64 ((add64 (r n.toNat) (tou64 imm))))).setCells (w.heap.size + 1 + 1) 0 (RL (upd r d.toNat (add64 (r n.toNat) (tou64 imm))))) (results_mid3 (b := w.heap.size + 1 + 1) (o := 0) rfl _ _ rfl (World.rangeAt_setCells_same _ _ _ _ (there_setCell HT2 _ _)) Tryd.underlying26 rfl size26) rfl ?_
  refine ⟨rfl, Below.setCells (by omega) _ _ (B2.setCell (by simp) _)⟩


set_option maxRecDepth 20000 in
set_option maxHeartbeats 400000 in
theorem rdo_14 (d n m imm pc : Int) (r : Nat → Int) (w : World) (hk : chk 14 d n m imm = true) (h0 : 0 ≤ d) (h1 : d < 8) (h2 : 0 ≤ n) (h3 : n < 8) (h4 : 0 ≤ m) (h5 : m < 8) :
    Calls Tryd.prog 12 #[IV 14 d n m imm, RV r, .int .i64 pc] w fun e w' => e = .returned (.tuple #[RV (r), .int .i64 (wrap64 (pc + imm)), .int .i64 0]) ∧ Below w.heap.size w w' := by
  have Hk := Lib.hid hk; clear hk
  have hs := fun v => RA_set r d.toNat v (by omega)
  have hd := RL_get r d.toNat (by omega)
  have hn := RL_get r n.toNat (by omega)
  have hm := RL_get r m.toNat (by omega)
  go_enter Tryd.func12, Tryd.ntmps12
  go_wp2_with fail
  refine (ref_yes _ _ _ _ _ _ Hk.out).mono ?_
  rintro e w1 ⟨rfl, hb1⟩
  obtain ⟨hc, hf⟩ := bcell hb1
  have hz2 : w.heap.size + 1 + 1 < w1.heap.size := by have := hb1.size; simp at this; omega
  have hz1 : w.heap.size + 1 < w1.heap.size := by omega
  have hz0 : w.heap.size < w1.heap.size := by omega
  have B1 : Below w.heap.size w w1 := Below.trans (by go_grown) (hb1.mono (by simp; omega))
  have HT1 := World.there_below (there_new ((w.alloc _).alloc _) #[.int .u64 0, .int .u64 0, .int .u64 0, .int .u64 0, .int .u64 0, .int .u64 0, .int .u64 0, .int .u64 0] 26 8 rfl) hb1 (by simp)
  simp at HT1
  go_wp2_with fail
  go_quiet (fail)
  obtain ⟨w2, e2⟩ : ∃ w2, w2 = w1.drewN nq := ⟨_, rfl⟩
  have B2 : Below w.heap.size w w2 := by rw [e2]; exact below_drewN B1 _
  have HT2 : w2.there (w.heap.size + 1 + 1) 0 8 := by rw [e2]; exact HT1
  have c2 : ∀ o, w2.cell? ⟨w.heap.size, o, none⟩ = #[Value.int .i8 14, .int .i8 d, .int .i8 n, .int .i8 m, .int .i64 imm][o]? := fun o => by rw [e2]; go_simp
  have r2 : ∀ o, w2.cell? ⟨w.heap.size + 1, o, none⟩ = (RA r)[o]? := fun o => by rw [e2]; go_simp
  have f2 : ∀ o, w2.frozen? ⟨w.heap.size + 1, o, none⟩ = false := fun o => by rw [e2]; go_simp
  have t2 : ∀ o, w2.cell? ⟨w.heap.size + 1 + 1, o, none⟩ = #[.int .u64 0, .int .u64 0, .int .u64 0, .int .u64 0, .int .u64 0, .int .u64 0, .int .u64 0, .int .u64 0][o]? := fun o => by rw [e2]; go_simp
  have g2 : ∀ o, w2.frozen? ⟨w.heap.size + 1 + 1, o, none⟩ = false := fun o => by rw [e2]; go_simp
  have z2 : w.heap.size + 1 + 1 < w2.heap.size := by rw [e2]; exact hz2
  rw [← e2]
  clear e2 hc hf hb1 HT1 hz2 hz1 hz0 B1
  repeat go_step
  all_goals refine bodyPost_ret (w := w2.setCells (w.heap.size + 1 + 1) 0 (RL r)) (results_mid3 (b := w.heap.size + 1 + 1) (o := 0) rfl _ _ rfl (World.rangeAt_setCells_same _ _ _ _ HT2) Tryd.underlying26 rfl size26) rfl ?_
  refine ⟨rfl, Below.setCells (by omega) _ _ B2⟩


set_option maxRecDepth 20000 in
set_option maxHeartbeats 400000 in
theorem rdo_15t (d n m imm pc : Int) (r : Nat → Int) (w : World) (hk : chk 15 d n m imm = true) (hr : (r d.toNat == 0) = true) (h0 : 0 ≤ d) (h1 : d < 8) (h2 : 0 ≤ n) (h3 : n < 8) (h4 : 0 ≤ m) (h5 : m < 8) :
    Calls Tryd.prog 12 #[IV 15 d n m imm, RV r, .int .i64 pc] w fun e w' => e = .returned (.tuple #[RV (r), .int .i64 (wrap64 (pc + imm)), .int .i64 0]) ∧ Below w.heap.size w w' := by
  have Hk := Lib.hid hk; clear hk
  have Hr := Lib.hid hr; clear hr
  have hs := fun v => RA_set r d.toNat v (by omega)
  have hd := RL_get r d.toNat (by omega)
  have hn := RL_get r n.toNat (by omega)
  have hm := RL_get r m.toNat (by omega)
  go_enter Tryd.func12, Tryd.ntmps12
  go_wp2_with fail
  refine (ref_yes _ _ _ _ _ _ Hk.out).mono ?_
  rintro e w1 ⟨rfl, hb1⟩
  obtain ⟨hc, hf⟩ := bcell hb1
  have hz2 : w.heap.size + 1 + 1 < w1.heap.size := by have := hb1.size; simp at this; omega
  have hz1 : w.heap.size + 1 < w1.heap.size := by omega
  have hz0 : w.heap.size < w1.heap.size := by omega
  have B1 : Below w.heap.size w w1 := Below.trans (by go_grown) (hb1.mono (by simp; omega))
  have HT1 := World.there_below (there_new ((w.alloc _).alloc _) #[.int .u64 0, .int .u64 0, .int .u64 0, .int .u64 0, .int .u64 0, .int .u64 0, .int .u64 0, .int .u64 0] 26 8 rfl) hb1 (by simp)
  simp at HT1
  go_wp2_with fail
  go_quiet (fail)
  obtain ⟨w2, e2⟩ : ∃ w2, w2 = w1.drewN nq := ⟨_, rfl⟩
  have B2 : Below w.heap.size w w2 := by rw [e2]; exact below_drewN B1 _
  have HT2 : w2.there (w.heap.size + 1 + 1) 0 8 := by rw [e2]; exact HT1
  have c2 : ∀ o, w2.cell? ⟨w.heap.size, o, none⟩ = #[Value.int .i8 15, .int .i8 d, .int .i8 n, .int .i8 m, .int .i64 imm][o]? := fun o => by rw [e2]; go_simp
  have r2 : ∀ o, w2.cell? ⟨w.heap.size + 1, o, none⟩ = (RA r)[o]? := fun o => by rw [e2]; go_simp
  have f2 : ∀ o, w2.frozen? ⟨w.heap.size + 1, o, none⟩ = false := fun o => by rw [e2]; go_simp
  have t2 : ∀ o, w2.cell? ⟨w.heap.size + 1 + 1, o, none⟩ = #[.int .u64 0, .int .u64 0, .int .u64 0, .int .u64 0, .int .u64 0, .int .u64 0, .int .u64 0, .int .u64 0][o]? := fun o => by rw [e2]; go_simp
  have g2 : ∀ o, w2.frozen? ⟨w.heap.size + 1 + 1, o, none⟩ = false := fun o => by rw [e2]; go_simp
  have z2 : w.heap.size + 1 + 1 < w2.heap.size := by rw [e2]; exact hz2
  rw [← e2]
  clear e2 hc hf hb1 HT1 hz2 hz1 hz0 B1
  have hr := Hr.out
  repeat go_step
  all_goals refine bodyPost_ret (w := w2.setCells (w.heap.size + 1 + 1) 0 (RL r)) (results_mid3 (b := w.heap.size + 1 + 1) (o := 0) rfl _ _ rfl (World.rangeAt_setCells_same _ _ _ _ HT2) Tryd.underlying26 rfl size26) rfl ?_
  refine ⟨rfl, Below.setCells (by omega) _ _ B2⟩


set_option maxRecDepth 20000 in
set_option maxHeartbeats 400000 in
theorem rdo_15f (d n m imm pc : Int) (r : Nat → Int) (w : World) (hk : chk 15 d n m imm = true) (hr : (r d.toNat == 0) = false) (h0 : 0 ≤ d) (h1 : d < 8) (h2 : 0 ≤ n) (h3 : n < 8) (h4 : 0 ≤ m) (h5 : m < 8) :
    Calls Tryd.prog 12 #[IV 15 d n m imm, RV r, .int .i64 pc] w fun e w' => e = .returned (.tuple #[RV (r), .int .i64 (wrap64 (pc + 1)), .int .i64 0]) ∧ Below w.heap.size w w' := by
  have Hk := Lib.hid hk; clear hk
  have Hr := Lib.hid hr; clear hr
  have hs := fun v => RA_set r d.toNat v (by omega)
  have hd := RL_get r d.toNat (by omega)
  have hn := RL_get r n.toNat (by omega)
  have hm := RL_get r m.toNat (by omega)
  go_enter Tryd.func12, Tryd.ntmps12
  go_wp2_with fail
  refine (ref_yes _ _ _ _ _ _ Hk.out).mono ?_
  rintro e w1 ⟨rfl, hb1⟩
  obtain ⟨hc, hf⟩ := bcell hb1
  have hz2 : w.heap.size + 1 + 1 < w1.heap.size := by have := hb1.size; simp at this; omega
  have hz1 : w.heap.size + 1 < w1.heap.size := by omega
  have hz0 : w.heap.size < w1.heap.size := by omega
  have B1 : Below w.heap.size w w1 := Below.trans (by go_grown) (hb1.mono (by simp; omega))
  have HT1 := World.there_below (there_new ((w.alloc _).alloc _) #[.int .u64 0, .int .u64 0, .int .u64 0, .int .u64 0, .int .u64 0, .int .u64 0, .int .u64 0, .int .u64 0] 26 8 rfl) hb1 (by simp)
  simp at HT1
  go_wp2_with fail
  go_quiet (fail)
  obtain ⟨w2, e2⟩ : ∃ w2, w2 = w1.drewN nq := ⟨_, rfl⟩
  have B2 : Below w.heap.size w w2 := by rw [e2]; exact below_drewN B1 _
  have HT2 : w2.there (w.heap.size + 1 + 1) 0 8 := by rw [e2]; exact HT1
  have c2 : ∀ o, w2.cell? ⟨w.heap.size, o, none⟩ = #[Value.int .i8 15, .int .i8 d, .int .i8 n, .int .i8 m, .int .i64 imm][o]? := fun o => by rw [e2]; go_simp
  have r2 : ∀ o, w2.cell? ⟨w.heap.size + 1, o, none⟩ = (RA r)[o]? := fun o => by rw [e2]; go_simp
  have f2 : ∀ o, w2.frozen? ⟨w.heap.size + 1, o, none⟩ = false := fun o => by rw [e2]; go_simp
  have t2 : ∀ o, w2.cell? ⟨w.heap.size + 1 + 1, o, none⟩ = #[.int .u64 0, .int .u64 0, .int .u64 0, .int .u64 0, .int .u64 0, .int .u64 0, .int .u64 0, .int .u64 0][o]? := fun o => by rw [e2]; go_simp
  have g2 : ∀ o, w2.frozen? ⟨w.heap.size + 1 + 1, o, none⟩ = false := fun o => by rw [e2]; go_simp
  have z2 : w.heap.size + 1 + 1 < w2.heap.size := by rw [e2]; exact hz2
  rw [← e2]
  clear e2 hc hf hb1 HT1 hz2 hz1 hz0 B1
  have hr := Hr.out
  repeat go_step
  all_goals refine bodyPost_ret (w := w2.setCells (w.heap.size + 1 + 1) 0 (RL r)) (results_mid3 (b := w.heap.size + 1 + 1) (o := 0) rfl _ _ rfl (World.rangeAt_setCells_same _ _ _ _ HT2) Tryd.underlying26 rfl size26) rfl ?_
  refine ⟨rfl, Below.setCells (by omega) _ _ B2⟩


set_option maxRecDepth 20000 in
set_option maxHeartbeats 400000 in
theorem rdo_16t (d n m imm pc : Int) (r : Nat → Int) (w : World) (hk : chk 16 d n m imm = true) (hr : (r d.toNat != 0) = true) (h0 : 0 ≤ d) (h1 : d < 8) (h2 : 0 ≤ n) (h3 : n < 8) (h4 : 0 ≤ m) (h5 : m < 8) :
    Calls Tryd.prog 12 #[IV 16 d n m imm, RV r, .int .i64 pc] w fun e w' => e = .returned (.tuple #[RV (r), .int .i64 (wrap64 (pc + imm)), .int .i64 0]) ∧ Below w.heap.size w w' := by
  have Hk := Lib.hid hk; clear hk
  have Hr := Lib.hid hr; clear hr
  have hs := fun v => RA_set r d.toNat v (by omega)
  have hd := RL_get r d.toNat (by omega)
  have hn := RL_get r n.toNat (by omega)
  have hm := RL_get r m.toNat (by omega)
  go_enter Tryd.func12, Tryd.ntmps12
  go_wp2_with fail
  refine (ref_yes _ _ _ _ _ _ Hk.out).mono ?_
  rintro e w1 ⟨rfl, hb1⟩
  obtain ⟨hc, hf⟩ := bcell hb1
  have hz2 : w.heap.size + 1 + 1 < w1.heap.size := by have := hb1.size; simp at this; omega
  have hz1 : w.heap.size + 1 < w1.heap.size := by omega
  have hz0 : w.heap.size < w1.heap.size := by omega
  have B1 : Below w.heap.size w w1 := Below.trans (by go_grown) (hb1.mono (by simp; omega))
  have HT1 := World.there_below (there_new ((w.alloc _).alloc _) #[.int .u64 0, .int .u64 0, .int .u64 0, .int .u64 0, .int .u64 0, .int .u64 0, .int .u64 0, .int .u64 0] 26 8 rfl) hb1 (by simp)
  simp at HT1
  go_wp2_with fail
  go_quiet (fail)
  obtain ⟨w2, e2⟩ : ∃ w2, w2 = w1.drewN nq := ⟨_, rfl⟩
  have B2 : Below w.heap.size w w2 := by rw [e2]; exact below_drewN B1 _
  have HT2 : w2.there (w.heap.size + 1 + 1) 0 8 := by rw [e2]; exact HT1
  have c2 : ∀ o, w2.cell? ⟨w.heap.size, o, none⟩ = #[Value.int .i8 16, .int .i8 d, .int .i8 n, .int .i8 m, .int .i64 imm][o]? := fun o => by rw [e2]; go_simp
  have r2 : ∀ o, w2.cell? ⟨w.heap.size + 1, o, none⟩ = (RA r)[o]? := fun o => by rw [e2]; go_simp
  have f2 : ∀ o, w2.frozen? ⟨w.heap.size + 1, o, none⟩ = false := fun o => by rw [e2]; go_simp
  have t2 : ∀ o, w2.cell? ⟨w.heap.size + 1 + 1, o, none⟩ = #[.int .u64 0, .int .u64 0, .int .u64 0, .int .u64 0, .int .u64 0, .int .u64 0, .int .u64 0, .int .u64 0][o]? := fun o => by rw [e2]; go_simp
  have g2 : ∀ o, w2.frozen? ⟨w.heap.size + 1 + 1, o, none⟩ = false := fun o => by rw [e2]; go_simp
  have z2 : w.heap.size + 1 + 1 < w2.heap.size := by rw [e2]; exact hz2
  rw [← e2]
  clear e2 hc hf hb1 HT1 hz2 hz1 hz0 B1
  have hr := Hr.out
  repeat go_step
  all_goals refine bodyPost_ret (w := w2.setCells (w.heap.size + 1 + 1) 0 (RL r)) (results_mid3 (b := w.heap.size + 1 + 1) (o := 0) rfl _ _ rfl (World.rangeAt_setCells_same _ _ _ _ HT2) Tryd.underlying26 rfl size26) rfl ?_
  refine ⟨rfl, Below.setCells (by omega) _ _ B2⟩


set_option maxRecDepth 20000 in
set_option maxHeartbeats 400000 in
theorem rdo_16f (d n m imm pc : Int) (r : Nat → Int) (w : World) (hk : chk 16 d n m imm = true) (hr : (r d.toNat != 0) = false) (h0 : 0 ≤ d) (h1 : d < 8) (h2 : 0 ≤ n) (h3 : n < 8) (h4 : 0 ≤ m) (h5 : m < 8) :
    Calls Tryd.prog 12 #[IV 16 d n m imm, RV r, .int .i64 pc] w fun e w' => e = .returned (.tuple #[RV (r), .int .i64 (wrap64 (pc + 1)), .int .i64 0]) ∧ Below w.heap.size w w' := by
  have Hk := Lib.hid hk; clear hk
  have Hr := Lib.hid hr; clear hr
  have hs := fun v => RA_set r d.toNat v (by omega)
  have hd := RL_get r d.toNat (by omega)
  have hn := RL_get r n.toNat (by omega)
  have hm := RL_get r m.toNat (by omega)
  go_enter Tryd.func12, Tryd.ntmps12
  go_wp2_with fail
  refine (ref_yes _ _ _ _ _ _ Hk.out).mono ?_
  rintro e w1 ⟨rfl, hb1⟩
  obtain ⟨hc, hf⟩ := bcell hb1
  have hz2 : w.heap.size + 1 + 1 < w1.heap.size := by have := hb1.size; simp at this; omega
  have hz1 : w.heap.size + 1 < w1.heap.size := by omega
  have hz0 : w.heap.size < w1.heap.size := by omega
  have B1 : Below w.heap.size w w1 := Below.trans (by go_grown) (hb1.mono (by simp; omega))
  have HT1 := World.there_below (there_new ((w.alloc _).alloc _) #[.int .u64 0, .int .u64 0, .int .u64 0, .int .u64 0, .int .u64 0, .int .u64 0, .int .u64 0, .int .u64 0] 26 8 rfl) hb1 (by simp)
  simp at HT1
  go_wp2_with fail
  go_quiet (fail)
  obtain ⟨w2, e2⟩ : ∃ w2, w2 = w1.drewN nq := ⟨_, rfl⟩
  have B2 : Below w.heap.size w w2 := by rw [e2]; exact below_drewN B1 _
  have HT2 : w2.there (w.heap.size + 1 + 1) 0 8 := by rw [e2]; exact HT1
  have c2 : ∀ o, w2.cell? ⟨w.heap.size, o, none⟩ = #[Value.int .i8 16, .int .i8 d, .int .i8 n, .int .i8 m, .int .i64 imm][o]? := fun o => by rw [e2]; go_simp
  have r2 : ∀ o, w2.cell? ⟨w.heap.size + 1, o, none⟩ = (RA r)[o]? := fun o => by rw [e2]; go_simp
  have f2 : ∀ o, w2.frozen? ⟨w.heap.size + 1, o, none⟩ = false := fun o => by rw [e2]; go_simp
  have t2 : ∀ o, w2.cell? ⟨w.heap.size + 1 + 1, o, none⟩ = #[.int .u64 0, .int .u64 0, .int .u64 0, .int .u64 0, .int .u64 0, .int .u64 0, .int .u64 0, .int .u64 0][o]? := fun o => by rw [e2]; go_simp
  have g2 : ∀ o, w2.frozen? ⟨w.heap.size + 1 + 1, o, none⟩ = false := fun o => by rw [e2]; go_simp
  have z2 : w.heap.size + 1 + 1 < w2.heap.size := by rw [e2]; exact hz2
  rw [← e2]
  clear e2 hc hf hb1 HT1 hz2 hz1 hz0 B1
  have hr := Hr.out
  repeat go_step
  all_goals refine bodyPost_ret (w := w2.setCells (w.heap.size + 1 + 1) 0 (RL r)) (results_mid3 (b := w.heap.size + 1 + 1) (o := 0) rfl _ _ rfl (World.rangeAt_setCells_same _ _ _ _ HT2) Tryd.underlying26 rfl size26) rfl ?_
  refine ⟨rfl, Below.setCells (by omega) _ _ B2⟩


set_option maxRecDepth 20000 in
set_option maxHeartbeats 400000 in
theorem rdo_8 (d n m imm pc : Int) (r : Nat → Int) (w : World) (hk : chk 8 d n m imm = true) (h0 : 0 ≤ d) (h1 : d < 8) (h2 : 0 ≤ n) (h3 : n < 8) (h4 : 0 ≤ m) (h5 : m < 8) :
    Calls Tryd.prog 12 #[IV 8 d n m imm, RV r, .int .i64 pc] w fun e w' => e = .returned (.tuple #[RV (r), .int .i64 (pc), .int .i64 21]) ∧ Below w.heap.size w w' := by
  have Hk := Lib.hid hk; clear hk
  have hs := fun v => RA_set r d.toNat v (by omega)
  have hd := RL_get r d.toNat (by omega)
  have hn := RL_get r n.toNat (by omega)
  have hm := RL_get r m.toNat (by omega)
  go_enter Tryd.func12, Tryd.ntmps12
  go_wp2_with fail
  refine (ref_yes _ _ _ _ _ _ Hk.out).mono ?_
  rintro e w1 ⟨rfl, hb1⟩
  obtain ⟨hc, hf⟩ := bcell hb1
  have hz2 : w.heap.size + 1 + 1 < w1.heap.size := by have := hb1.size; simp at this; omega
  have hz1 : w.heap.size + 1 < w1.heap.size := by omega
  have hz0 : w.heap.size < w1.heap.size := by omega
  have B1 : Below w.heap.size w w1 := Below.trans (by go_grown) (hb1.mono (by simp; omega))
  have HT1 := World.there_below (there_new ((w.alloc _).alloc _) #[.int .u64 0, .int .u64 0, .int .u64 0, .int .u64 0, .int .u64 0, .int .u64 0, .int .u64 0, .int .u64 0] 26 8 rfl) hb1 (by simp)
  simp at HT1
  go_wp2_with fail
  go_quiet (fail)
  obtain ⟨w2, e2⟩ : ∃ w2, w2 = w1.drewN nq := ⟨_, rfl⟩
  have B2 : Below w.heap.size w w2 := by rw [e2]; exact below_drewN B1 _
  have HT2 : w2.there (w.heap.size + 1 + 1) 0 8 := by rw [e2]; exact HT1
  have c2 : ∀ o, w2.cell? ⟨w.heap.size, o, none⟩ = #[Value.int .i8 8, .int .i8 d, .int .i8 n, .int .i8 m, .int .i64 imm][o]? := fun o => by rw [e2]; go_simp
  have r2 : ∀ o, w2.cell? ⟨w.heap.size + 1, o, none⟩ = (RA r)[o]? := fun o => by rw [e2]; go_simp
  have f2 : ∀ o, w2.frozen? ⟨w.heap.size + 1, o, none⟩ = false := fun o => by rw [e2]; go_simp
  have t2 : ∀ o, w2.cell? ⟨w.heap.size + 1 + 1, o, none⟩ = #[.int .u64 0, .int .u64 0, .int .u64 0, .int .u64 0, .int .u64 0, .int .u64 0, .int .u64 0, .int .u64 0][o]? := fun o => by rw [e2]; go_simp
  have g2 : ∀ o, w2.frozen? ⟨w.heap.size + 1 + 1, o, none⟩ = false := fun o => by rw [e2]; go_simp
  have z2 : w.heap.size + 1 + 1 < w2.heap.size := by rw [e2]; exact hz2
  rw [← e2]
  clear e2 hc hf hb1 HT1 hz2 hz1 hz0 B1
  repeat go_step
  all_goals refine bodyPost_ret (w := w2.setCells (w.heap.size + 1 + 1) 0 (RL r)) (results_mid3 (b := w.heap.size + 1 + 1) (o := 0) rfl _ _ rfl (World.rangeAt_setCells_same _ _ _ _ HT2) Tryd.underlying26 rfl size26) rfl ?_
  refine ⟨rfl, Below.setCells (by omega) _ _ B2⟩


set_option maxRecDepth 20000 in
set_option maxHeartbeats 400000 in
theorem rdo_9 (d n m imm pc : Int) (r : Nat → Int) (w : World) (hk : chk 9 d n m imm = true) (h0 : 0 ≤ d) (h1 : d < 8) (h2 : 0 ≤ n) (h3 : n < 8) (h4 : 0 ≤ m) (h5 : m < 8) :
    Calls Tryd.prog 12 #[IV 9 d n m imm, RV r, .int .i64 pc] w fun e w' => e = .returned (.tuple #[RV (r), .int .i64 (pc), .int .i64 21]) ∧ Below w.heap.size w w' := by
  have Hk := Lib.hid hk; clear hk
  have hs := fun v => RA_set r d.toNat v (by omega)
  have hd := RL_get r d.toNat (by omega)
  have hn := RL_get r n.toNat (by omega)
  have hm := RL_get r m.toNat (by omega)
  go_enter Tryd.func12, Tryd.ntmps12
  go_wp2_with fail
  refine (ref_yes _ _ _ _ _ _ Hk.out).mono ?_
  rintro e w1 ⟨rfl, hb1⟩
  obtain ⟨hc, hf⟩ := bcell hb1
  have hz2 : w.heap.size + 1 + 1 < w1.heap.size := by have := hb1.size; simp at this; omega
  have hz1 : w.heap.size + 1 < w1.heap.size := by omega
  have hz0 : w.heap.size < w1.heap.size := by omega
  have B1 : Below w.heap.size w w1 := Below.trans (by go_grown) (hb1.mono (by simp; omega))
  have HT1 := World.there_below (there_new ((w.alloc _).alloc _) #[.int .u64 0, .int .u64 0, .int .u64 0, .int .u64 0, .int .u64 0, .int .u64 0, .int .u64 0, .int .u64 0] 26 8 rfl) hb1 (by simp)
  simp at HT1
  go_wp2_with fail
  go_quiet (fail)
  obtain ⟨w2, e2⟩ : ∃ w2, w2 = w1.drewN nq := ⟨_, rfl⟩
  have B2 : Below w.heap.size w w2 := by rw [e2]; exact below_drewN B1 _
  have HT2 : w2.there (w.heap.size + 1 + 1) 0 8 := by rw [e2]; exact HT1
  have c2 : ∀ o, w2.cell? ⟨w.heap.size, o, none⟩ = #[Value.int .i8 9, .int .i8 d, .int .i8 n, .int .i8 m, .int .i64 imm][o]? := fun o => by rw [e2]; go_simp
  have r2 : ∀ o, w2.cell? ⟨w.heap.size + 1, o, none⟩ = (RA r)[o]? := fun o => by rw [e2]; go_simp
  have f2 : ∀ o, w2.frozen? ⟨w.heap.size + 1, o, none⟩ = false := fun o => by rw [e2]; go_simp
  have t2 : ∀ o, w2.cell? ⟨w.heap.size + 1 + 1, o, none⟩ = #[.int .u64 0, .int .u64 0, .int .u64 0, .int .u64 0, .int .u64 0, .int .u64 0, .int .u64 0, .int .u64 0][o]? := fun o => by rw [e2]; go_simp
  have g2 : ∀ o, w2.frozen? ⟨w.heap.size + 1 + 1, o, none⟩ = false := fun o => by rw [e2]; go_simp
  have z2 : w.heap.size + 1 + 1 < w2.heap.size := by rw [e2]; exact hz2
  rw [← e2]
  clear e2 hc hf hb1 HT1 hz2 hz1 hz0 B1
  repeat go_step
  all_goals refine bodyPost_ret (w := w2.setCells (w.heap.size + 1 + 1) 0 (RL r)) (results_mid3 (b := w.heap.size + 1 + 1) (o := 0) rfl _ _ rfl (World.rangeAt_setCells_same _ _ _ _ HT2) Tryd.underlying26 rfl size26) rfl ?_
  refine ⟨rfl, Below.setCells (by omega) _ _ B2⟩


set_option maxRecDepth 20000 in
set_option maxHeartbeats 400000 in
theorem rdo_10 (d n m imm pc : Int) (r : Nat → Int) (w : World) (hk : chk 10 d n m imm = true) (h0 : 0 ≤ d) (h1 : d < 8) (h2 : 0 ≤ n) (h3 : n < 8) (h4 : 0 ≤ m) (h5 : m < 8) :
    Calls Tryd.prog 12 #[IV 10 d n m imm, RV r, .int .i64 pc] w fun e w' => e = .returned (.tuple #[RV (r), .int .i64 (pc), .int .i64 21]) ∧ Below w.heap.size w w' := by
  have Hk := Lib.hid hk; clear hk
  have hs := fun v => RA_set r d.toNat v (by omega)
  have hd := RL_get r d.toNat (by omega)
  have hn := RL_get r n.toNat (by omega)
  have hm := RL_get r m.toNat (by omega)
  go_enter Tryd.func12, Tryd.ntmps12
  go_wp2_with fail
  refine (ref_yes _ _ _ _ _ _ Hk.out).mono ?_
  rintro e w1 ⟨rfl, hb1⟩
  obtain ⟨hc, hf⟩ := bcell hb1
  have hz2 : w.heap.size + 1 + 1 < w1.heap.size := by have := hb1.size; simp at this; omega
  have hz1 : w.heap.size + 1 < w1.heap.size := by omega
  have hz0 : w.heap.size < w1.heap.size := by omega
  have B1 : Below w.heap.size w w1 := Below.trans (by go_grown) (hb1.mono (by simp; omega))
  have HT1 := World.there_below (there_new ((w.alloc _).alloc _) #[.int .u64 0, .int .u64 0, .int .u64 0, .int .u64 0, .int .u64 0, .int .u64 0, .int .u64 0, .int .u64 0] 26 8 rfl) hb1 (by simp)
  simp at HT1
  go_wp2_with fail
  go_quiet (fail)
  obtain ⟨w2, e2⟩ : ∃ w2, w2 = w1.drewN nq := ⟨_, rfl⟩
  have B2 : Below w.heap.size w w2 := by rw [e2]; exact below_drewN B1 _
  have HT2 : w2.there (w.heap.size + 1 + 1) 0 8 := by rw [e2]; exact HT1
  have c2 : ∀ o, w2.cell? ⟨w.heap.size, o, none⟩ = #[Value.int .i8 10, .int .i8 d, .int .i8 n, .int .i8 m, .int .i64 imm][o]? := fun o => by rw [e2]; go_simp
  have r2 : ∀ o, w2.cell? ⟨w.heap.size + 1, o, none⟩ = (RA r)[o]? := fun o => by rw [e2]; go_simp
  have f2 : ∀ o, w2.frozen? ⟨w.heap.size + 1, o, none⟩ = false := fun o => by rw [e2]; go_simp
  have t2 : ∀ o, w2.cell? ⟨w.heap.size + 1 + 1, o, none⟩ = #[.int .u64 0, .int .u64 0, .int .u64 0, .int .u64 0, .int .u64 0, .int .u64 0, .int .u64 0, .int .u64 0][o]? := fun o => by rw [e2]; go_simp
  have g2 : ∀ o, w2.frozen? ⟨w.heap.size + 1 + 1, o, none⟩ = false := fun o => by rw [e2]; go_simp
  have z2 : w.heap.size + 1 + 1 < w2.heap.size := by rw [e2]; exact hz2
  rw [← e2]
  clear e2 hc hf hb1 HT1 hz2 hz1 hz0 B1
  repeat go_step
  all_goals refine bodyPost_ret (w := w2.setCells (w.heap.size + 1 + 1) 0 (RL r)) (results_mid3 (b := w.heap.size + 1 + 1) (o := 0) rfl _ _ rfl (World.rangeAt_setCells_same _ _ _ _ HT2) Tryd.underlying26 rfl size26) rfl ?_
  refine ⟨rfl, Below.setCells (by omega) _ _ B2⟩


set_option maxRecDepth 20000 in
set_option maxHeartbeats 400000 in
theorem rdo_11 (d n m imm pc : Int) (r : Nat → Int) (w : World) (hk : chk 11 d n m imm = true) (h0 : 0 ≤ d) (h1 : d < 8) (h2 : 0 ≤ n) (h3 : n < 8) (h4 : 0 ≤ m) (h5 : m < 8) :
    Calls Tryd.prog 12 #[IV 11 d n m imm, RV r, .int .i64 pc] w fun e w' => e = .returned (.tuple #[RV (r), .int .i64 (pc), .int .i64 21]) ∧ Below w.heap.size w w' := by
  have Hk := Lib.hid hk; clear hk
  have hs := fun v => RA_set r d.toNat v (by omega)
  have hd := RL_get r d.toNat (by omega)
  have hn := RL_get r n.toNat (by omega)
  have hm := RL_get r m.toNat (by omega)
  go_enter Tryd.func12, Tryd.ntmps12
  go_wp2_with fail
  refine (ref_yes _ _ _ _ _ _ Hk.out).mono ?_
  rintro e w1 ⟨rfl, hb1⟩
  obtain ⟨hc, hf⟩ := bcell hb1
  have hz2 : w.heap.size + 1 + 1 < w1.heap.size := by have := hb1.size; simp at this; omega
  have hz1 : w.heap.size + 1 < w1.heap.size := by omega
  have hz0 : w.heap.size < w1.heap.size := by omega
  have B1 : Below w.heap.size w w1 := Below.trans (by go_grown) (hb1.mono (by simp; omega))
  have HT1 := World.there_below (there_new ((w.alloc _).alloc _) #[.int .u64 0, .int .u64 0, .int .u64 0, .int .u64 0, .int .u64 0, .int .u64 0, .int .u64 0, .int .u64 0] 26 8 rfl) hb1 (by simp)
  simp at HT1
  go_wp2_with fail
  go_quiet (fail)
  obtain ⟨w2, e2⟩ : ∃ w2, w2 = w1.drewN nq := ⟨_, rfl⟩
  have B2 : Below w.heap.size w w2 := by rw [e2]; exact below_drewN B1 _
  have HT2 : w2.there (w.heap.size + 1 + 1) 0 8 := by rw [e2]; exact HT1
  have c2 : ∀ o, w2.cell? ⟨w.heap.size, o, none⟩ = #[Value.int .i8 11, .int .i8 d, .int .i8 n, .int .i8 m, .int .i64 imm][o]? := fun o => by rw [e2]; go_simp
  have r2 : ∀ o, w2.cell? ⟨w.heap.size + 1, o, none⟩ = (RA r)[o]? := fun o => by rw [e2]; go_simp
  have f2 : ∀ o, w2.frozen? ⟨w.heap.size + 1, o, none⟩ = false := fun o => by rw [e2]; go_simp
  have t2 : ∀ o, w2.cell? ⟨w.heap.size + 1 + 1, o, none⟩ = #[.int .u64 0, .int .u64 0, .int .u64 0, .int .u64 0, .int .u64 0, .int .u64 0, .int .u64 0, .int .u64 0][o]? := fun o => by rw [e2]; go_simp
  have g2 : ∀ o, w2.frozen? ⟨w.heap.size + 1 + 1, o, none⟩ = false := fun o => by rw [e2]; go_simp
  have z2 : w.heap.size + 1 + 1 < w2.heap.size := by rw [e2]; exact hz2
  rw [← e2]
  clear e2 hc hf hb1 HT1 hz2 hz1 hz0 B1
  repeat go_step
  all_goals refine bodyPost_ret (w := w2.setCells (w.heap.size + 1 + 1) 0 (RL r)) (results_mid3 (b := w.heap.size + 1 + 1) (o := 0) rfl _ _ rfl (World.rangeAt_setCells_same _ _ _ _ HT2) Tryd.underlying26 rfl size26) rfl ?_
  refine ⟨rfl, Below.setCells (by omega) _ _ B2⟩


set_option maxRecDepth 20000 in
set_option maxHeartbeats 400000 in
theorem rdo_12 (d n m imm pc : Int) (r : Nat → Int) (w : World) (hk : chk 12 d n m imm = true) (h0 : 0 ≤ d) (h1 : d < 8) (h2 : 0 ≤ n) (h3 : n < 8) (h4 : 0 ≤ m) (h5 : m < 8) :
    Calls Tryd.prog 12 #[IV 12 d n m imm, RV r, .int .i64 pc] w fun e w' => e = .returned (.tuple #[RV (r), .int .i64 (pc), .int .i64 21]) ∧ Below w.heap.size w w' := by
  have Hk := Lib.hid hk; clear hk
  have hs := fun v => RA_set r d.toNat v (by omega)
  have hd := RL_get r d.toNat (by omega)
  have hn := RL_get r n.toNat (by omega)
  have hm := RL_get r m.toNat (by omega)
  go_enter Tryd.func12, Tryd.ntmps12
  go_wp2_with fail
  refine (ref_yes _ _ _ _ _ _ Hk.out).mono ?_
  rintro e w1 ⟨rfl, hb1⟩
  obtain ⟨hc, hf⟩ := bcell hb1
  have hz2 : w.heap.size + 1 + 1 < w1.heap.size := by have := hb1.size; simp at this; omega
  have hz1 : w.heap.size + 1 < w1.heap.size := by omega
  have hz0 : w.heap.size < w1.heap.size := by omega
  have B1 : Below w.heap.size w w1 := Below.trans (by go_grown) (hb1.mono (by simp; omega))
  have HT1 := World.there_below (there_new ((w.alloc _).alloc _) #[.int .u64 0, .int .u64 0, .int .u64 0, .int .u64 0, .int .u64 0, .int .u64 0, .int .u64 0, .int .u64 0] 26 8 rfl) hb1 (by simp)
  simp at HT1
  go_wp2_with fail
  go_quiet (fail)
  obtain ⟨w2, e2⟩ : ∃ w2, w2 = w1.drewN nq := ⟨_, rfl⟩
  have B2 : Below w.heap.size w w2 := by rw [e2]; exact below_drewN B1 _
  have HT2 : w2.there (w.heap.size + 1 + 1) 0 8 := by rw [e2]; exact HT1
  have c2 : ∀ o, w2.cell? ⟨w.heap.size, o, none⟩ = #[Value.int .i8 12, .int .i8 d, .int .i8 n, .int .i8 m, .int .i64 imm][o]? := fun o => by rw [e2]; go_simp
  have r2 : ∀ o, w2.cell? ⟨w.heap.size + 1, o, none⟩ = (RA r)[o]? := fun o => by rw [e2]; go_simp
  have f2 : ∀ o, w2.frozen? ⟨w.heap.size + 1, o, none⟩ = false := fun o => by rw [e2]; go_simp
  have t2 : ∀ o, w2.cell? ⟨w.heap.size + 1 + 1, o, none⟩ = #[.int .u64 0, .int .u64 0, .int .u64 0, .int .u64 0, .int .u64 0, .int .u64 0, .int .u64 0, .int .u64 0][o]? := fun o => by rw [e2]; go_simp
  have g2 : ∀ o, w2.frozen? ⟨w.heap.size + 1 + 1, o, none⟩ = false := fun o => by rw [e2]; go_simp
  have z2 : w.heap.size + 1 + 1 < w2.heap.size := by rw [e2]; exact hz2
  rw [← e2]
  clear e2 hc hf hb1 HT1 hz2 hz1 hz0 B1
  repeat go_step
  all_goals refine bodyPost_ret (w := w2.setCells (w.heap.size + 1 + 1) 0 (RL r)) (results_mid3 (b := w.heap.size + 1 + 1) (o := 0) rfl _ _ rfl (World.rangeAt_setCells_same _ _ _ _ HT2) Tryd.underlying26 rfl size26) rfl ?_
  refine ⟨rfl, Below.setCells (by omega) _ _ B2⟩


set_option maxRecDepth 20000 in
set_option maxHeartbeats 400000 in
theorem rdo_13 (d n m imm pc : Int) (r : Nat → Int) (w : World) (hk : chk 13 d n m imm = true) (h0 : 0 ≤ d) (h1 : d < 8) (h2 : 0 ≤ n) (h3 : n < 8) (h4 : 0 ≤ m) (h5 : m < 8) :
    Calls Tryd.prog 12 #[IV 13 d n m imm, RV r, .int .i64 pc] w fun e w' => e = .returned (.tuple #[RV (r), .int .i64 (pc), .int .i64 21]) ∧ Below w.heap.size w w' := by
  have Hk := Lib.hid hk; clear hk
  have hs := fun v => RA_set r d.toNat v (by omega)
  have hd := RL_get r d.toNat (by omega)
  have hn := RL_get r n.toNat (by omega)
  have hm := RL_get r m.toNat (by omega)
  go_enter Tryd.func12, Tryd.ntmps12
  go_wp2_with fail
  refine (ref_yes _ _ _ _ _ _ Hk.out).mono ?_
  rintro e w1 ⟨rfl, hb1⟩
  obtain ⟨hc, hf⟩ := bcell hb1
  have hz2 : w.heap.size + 1 + 1 < w1.heap.size := by have := hb1.size; simp at this; omega
  have hz1 : w.heap.size + 1 < w1.heap.size := by omega
  have hz0 : w.heap.size < w1.heap.size := by omega
  have B1 : Below w.heap.size w w1 := Below.trans (by go_grown) (hb1.mono (by simp; omega))
  have HT1 := World.there_below (there_new ((w.alloc _).alloc _) #[.int .u64 0, .int .u64 0, .int .u64 0, .int .u64 0, .int .u64 0, .int .u64 0, .int .u64 0, .int .u64 0] 26 8 rfl) hb1 (by simp)
  simp at HT1
  go_wp2_with fail
  go_quiet (fail)
  obtain ⟨w2, e2⟩ : ∃ w2, w2 = w1.drewN nq := ⟨_, rfl⟩
  have B2 : Below w.heap.size w w2 := by rw [e2]; exact below_drewN B1 _
  have HT2 : w2.there (w.heap.size + 1 + 1) 0 8 := by rw [e2]; exact HT1
  have c2 : ∀ o, w2.cell? ⟨w.heap.size, o, none⟩ = #[Value.int .i8 13, .int .i8 d, .int .i8 n, .int .i8 m, .int .i64 imm][o]? := fun o => by rw [e2]; go_simp
  have r2 : ∀ o, w2.cell? ⟨w.heap.size + 1, o, none⟩ = (RA r)[o]? := fun o => by rw [e2]; go_simp
  have f2 : ∀ o, w2.frozen? ⟨w.heap.size + 1, o, none⟩ = false := fun o => by rw [e2]; go_simp
  have t2 : ∀ o, w2.cell? ⟨w.heap.size + 1 + 1, o, none⟩ = #[.int .u64 0, .int .u64 0, .int .u64 0, .int .u64 0, .int .u64 0, .int .u64 0, .int .u64 0, .int .u64 0][o]? := fun o => by rw [e2]; go_simp
  have g2 : ∀ o, w2.frozen? ⟨w.heap.size + 1 + 1, o, none⟩ = false := fun o => by rw [e2]; go_simp
  have z2 : w.heap.size + 1 + 1 < w2.heap.size := by rw [e2]; exact hz2
  rw [← e2]
  clear e2 hc hf hb1 HT1 hz2 hz1 hz0 B1
  repeat go_step
  all_goals refine bodyPost_ret (w := w2.setCells (w.heap.size + 1 + 1) 0 (RL r)) (results_mid3 (b := w.heap.size + 1 + 1) (o := 0) rfl _ _ rfl (World.rangeAt_setCells_same _ _ _ _ HT2) Tryd.underlying26 rfl size26) rfl ?_
  refine ⟨rfl, Below.setCells (by omega) _ _ B2⟩


set_option maxRecDepth 20000 in
set_option maxHeartbeats 400000 in
theorem rdo_17 (d n m imm pc : Int) (r : Nat → Int) (w : World) (hk : chk 17 d n m imm = true) (h0 : 0 ≤ d) (h1 : d < 8) (h2 : 0 ≤ n) (h3 : n < 8) (h4 : 0 ≤ m) (h5 : m < 8) :
    Calls Tryd.prog 12 #[IV 17 d n m imm, RV r, .int .i64 pc] w fun e w' => e = .returned (.tuple #[RV (r), .int .i64 (pc), .int .i64 21]) ∧ Below w.heap.size w w' := by
  have Hk := Lib.hid hk; clear hk
  have hs := fun v => RA_set r d.toNat v (by omega)
  have hd := RL_get r d.toNat (by omega)
  have hn := RL_get r n.toNat (by omega)
  have hm := RL_get r m.toNat (by omega)
  go_enter Tryd.func12, Tryd.ntmps12
  go_wp2_with fail
  refine (ref_yes _ _ _ _ _ _ Hk.out).mono ?_
  rintro e w1 ⟨rfl, hb1⟩
  obtain ⟨hc, hf⟩ := bcell hb1
  have hz2 : w.heap.size + 1 + 1 < w1.heap.size := by have := hb1.size; simp at this; omega
  have hz1 : w.heap.size + 1 < w1.heap.size := by omega
  have hz0 : w.heap.size < w1.heap.size := by omega
  have B1 : Below w.heap.size w w1 := Below.trans (by go_grown) (hb1.mono (by simp; omega))
  have HT1 := World.there_below (there_new ((w.alloc _).alloc _) #[.int .u64 0, .int .u64 0, .int .u64 0, .int .u64 0, .int .u64 0, .int .u64 0, .int .u64 0, .int .u64 0] 26 8 rfl) hb1 (by simp)
  simp at HT1
  go_wp2_with fail
  go_quiet (fail)
  obtain ⟨w2, e2⟩ : ∃ w2, w2 = w1.drewN nq := ⟨_, rfl⟩
  have B2 : Below w.heap.size w w2 := by rw [e2]; exact below_drewN B1 _
  have HT2 : w2.there (w.heap.size + 1 + 1) 0 8 := by rw [e2]; exact HT1
  have c2 : ∀ o, w2.cell? ⟨w.heap.size, o, none⟩ = #[Value.int .i8 17, .int .i8 d, .int .i8 n, .int .i8 m, .int .i64 imm][o]? := fun o => by rw [e2]; go_simp
  have r2 : ∀ o, w2.cell? ⟨w.heap.size + 1, o, none⟩ = (RA r)[o]? := fun o => by rw [e2]; go_simp
  have f2 : ∀ o, w2.frozen? ⟨w.heap.size + 1, o, none⟩ = false := fun o => by rw [e2]; go_simp
  have t2 : ∀ o, w2.cell? ⟨w.heap.size + 1 + 1, o, none⟩ = #[.int .u64 0, .int .u64 0, .int .u64 0, .int .u64 0, .int .u64 0, .int .u64 0, .int .u64 0, .int .u64 0][o]? := fun o => by rw [e2]; go_simp
  have g2 : ∀ o, w2.frozen? ⟨w.heap.size + 1 + 1, o, none⟩ = false := fun o => by rw [e2]; go_simp
  have z2 : w.heap.size + 1 + 1 < w2.heap.size := by rw [e2]; exact hz2
  rw [← e2]
  clear e2 hc hf hb1 HT1 hz2 hz1 hz0 B1
  repeat go_step
  all_goals refine bodyPost_ret (w := w2.setCells (w.heap.size + 1 + 1) 0 (RL r)) (results_mid3 (b := w.heap.size + 1 + 1) (o := 0) rfl _ _ rfl (World.rangeAt_setCells_same _ _ _ _ HT2) Tryd.underlying26 rfl size26) rfl ?_
  refine ⟨rfl, Below.setCells (by omega) _ _ B2⟩


set_option maxRecDepth 20000 in
set_option maxHeartbeats 400000 in
theorem rdo_18 (d n m imm pc : Int) (r : Nat → Int) (w : World) (hk : chk 18 d n m imm = true) (h0 : 0 ≤ d) (h1 : d < 8) (h2 : 0 ≤ n) (h3 : n < 8) (h4 : 0 ≤ m) (h5 : m < 8) :
    Calls Tryd.prog 12 #[IV 18 d n m imm, RV r, .int .i64 pc] w fun e w' => e = .returned (.tuple #[RV (r), .int .i64 (pc), .int .i64 21]) ∧ Below w.heap.size w w' := by
  have Hk := Lib.hid hk; clear hk
  have hs := fun v => RA_set r d.toNat v (by omega)
  have hd := RL_get r d.toNat (by omega)
  have hn := RL_get r n.toNat (by omega)
  have hm := RL_get r m.toNat (by omega)
  go_enter Tryd.func12, Tryd.ntmps12
  go_wp2_with fail
  refine (ref_yes _ _ _ _ _ _ Hk.out).mono ?_
  rintro e w1 ⟨rfl, hb1⟩
  obtain ⟨hc, hf⟩ := bcell hb1
  have hz2 : w.heap.size + 1 + 1 < w1.heap.size := by have := hb1.size; simp at this; omega
  have hz1 : w.heap.size + 1 < w1.heap.size := by omega
  have hz0 : w.heap.size < w1.heap.size := by omega
  have B1 : Below w.heap.size w w1 := Below.trans (by go_grown) (hb1.mono (by simp; omega))
  have HT1 := World.there_below (there_new ((w.alloc _).alloc _) #[.int .u64 0, .int .u64 0, .int .u64 0, .int .u64 0, .int .u64 0, .int .u64 0, .int .u64 0, .int .u64 0] 26 8 rfl) hb1 (by simp)
  simp at HT1
  go_wp2_with fail
  go_quiet (fail)
  obtain ⟨w2, e2⟩ : ∃ w2, w2 = w1.drewN nq := ⟨_, rfl⟩
  have B2 : Below w.heap.size w w2 := by rw [e2]; exact below_drewN B1 _
  have HT2 : w2.there (w.heap.size + 1 + 1) 0 8 := by rw [e2]; exact HT1
  have c2 : ∀ o, w2.cell? ⟨w.heap.size, o, none⟩ = #[Value.int .i8 18, .int .i8 d, .int .i8 n, .int .i8 m, .int .i64 imm][o]? := fun o => by rw [e2]; go_simp
  have r2 : ∀ o, w2.cell? ⟨w.heap.size + 1, o, none⟩ = (RA r)[o]? := fun o => by rw [e2]; go_simp
  have f2 : ∀ o, w2.frozen? ⟨w.heap.size + 1, o, none⟩ = false := fun o => by rw [e2]; go_simp
  have t2 : ∀ o, w2.cell? ⟨w.heap.size + 1 + 1, o, none⟩ = #[.int .u64 0, .int .u64 0, .int .u64 0, .int .u64 0, .int .u64 0, .int .u64 0, .int .u64 0, .int .u64 0][o]? := fun o => by rw [e2]; go_simp
  have g2 : ∀ o, w2.frozen? ⟨w.heap.size + 1 + 1, o, none⟩ = false := fun o => by rw [e2]; go_simp
  have z2 : w.heap.size + 1 + 1 < w2.heap.size := by rw [e2]; exact hz2
  rw [← e2]
  clear e2 hc hf hb1 HT1 hz2 hz1 hz0 B1
  repeat go_step
  all_goals refine bodyPost_ret (w := w2.setCells (w.heap.size + 1 + 1) 0 (RL r)) (results_mid3 (b := w.heap.size + 1 + 1) (o := 0) rfl _ _ rfl (World.rangeAt_setCells_same _ _ _ _ HT2) Tryd.underlying26 rfl size26) rfl ?_
  refine ⟨rfl, Below.setCells (by omega) _ _ B2⟩


end Go.Proofs.YthfikhfhflinfaaDoor
