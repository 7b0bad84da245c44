/- tenementlaw06.wakes is true in every world that holds the table; AluDoes' walk. -/
import Derived.Test.YthfikhfhflinfaaDoorA6
import Derived.ChangeKeysEq
namespace Go.Proofs.YthfikhfhflinfaaDoor
open Go.RowKit

def r57 : Nat → Int := fun k => if k = 1 then 5 else if k = 2 then 7 else 0
theorem do_w1 (w : World) (hS : Shapes w) :
    Calls Tryd.prog 11 #[.agg #[.int .i8 3, .int .i8 0, .int .i8 1, .int .i8 2, .int .i64 0], .agg #[.int .u64 0, .int .u64 5, .int .u64 7, .int .u64 0, .int .u64 0, .int .u64 0, .int .u64 0, .int .u64 0], .int .i64 0] w fun e w' =>
      e = .returned (.tuple #[.agg #[.int .u64 18446744073709551614, .int .u64 5, .int .u64 7, .int .u64 0, .int .u64 0, .int .u64 0, .int .u64 0, .int .u64 0], .int .i64 1, .int .i64 0]) ∧ Below w.heap.size w w' :=
  post_of (do_any 3 0 1 2 0 0 r57 w hS) (by kernel_rfl)
theorem do_w2 (w : World) (hS : Shapes w) :
    Calls Tryd.prog 11 #[.agg #[.int .i8 15, .int .i8 0, .int .i8 0, .int .i8 0, .int .i64 (-3)], .agg #[.int .u64 0, .int .u64 5, .int .u64 7, .int .u64 0, .int .u64 0, .int .u64 0, .int .u64 0, .int .u64 0], .int .i64 5] w fun e w' =>
      e = .returned (.tuple #[.agg #[.int .u64 0, .int .u64 5, .int .u64 7, .int .u64 0, .int .u64 0, .int .u64 0, .int .u64 0, .int .u64 0], .int .i64 2, .int .i64 0]) ∧ Below w.heap.size w w' :=
  post_of (do_any 15 0 0 0 (-3) 5 r57 w hS) (by kernel_rfl)
theorem do_w3 (w : World) (hS : Shapes w) :
    Calls Tryd.prog 11 #[.agg #[.int .i8 8, .int .i8 0, .int .i8 0, .int .i8 0, .int .i64 0], .agg #[.int .u64 0, .int .u64 5, .int .u64 7, .int .u64 0, .int .u64 0, .int .u64 0, .int .u64 0, .int .u64 0], .int .i64 0] w fun e w' =>
      e = .returned (.tuple #[.agg #[.int .u64 0, .int .u64 5, .int .u64 7, .int .u64 0, .int .u64 0, .int .u64 0, .int .u64 0, .int .u64 0], .int .i64 0, .int .i64 21]) ∧ Below w.heap.size w w' :=
  post_of (do_any 8 0 0 0 0 0 r57 w hS) (by kernel_rfl)

set_option maxRecDepth 20000 in
set_option maxHeartbeats 400000 in
theorem wakes_any (w : World) (hS : Shapes w) : Calls Tryd.prog 10 #[] w fun e w' => e = .returned (.bool true) ∧ Below w.heap.size w w' := by
  go_enter Tryd.func10, Tryd.ntmps10
  go_wp2_with fail
  refine (do_w1 _ (hS.alloc _)).mono ?_
  rintro e w1 ⟨rfl, hb1⟩
  have S1 := (hS.alloc (.cells #[.int .u64 0, .int .u64 5, .int .u64 7, .int .u64 0, .int .u64 0, .int .u64 0, .int .u64 0, .int .u64 0] 26)).below (by simp) hb1
  obtain ⟨hc, hf⟩ := bcell hb1
  have hz0 : w.heap.size < w1.heap.size := by have := hb1.size; simp at this; omega
  have B1 : Below w.heap.size w w1 := Below.trans (by go_grown) (hb1.mono (by simp))
  have hz1 : w.heap.size < w1.heap.size + 1 := by omega
  go_wp2_with fail
  refine (do_w2 _ (S1.alloc _)).mono ?_
  rintro e w2 ⟨rfl, hb2⟩
  have S2 := (S1.alloc (.cells #[.int .u64 18446744073709551614, .int .u64 5, .int .u64 7, .int .u64 0, .int .u64 0, .int .u64 0, .int .u64 0, .int .u64 0] 26)).below (by simp) hb2
  obtain ⟨hc2, hf2⟩ := bcell hb2
  have hz2 : w1.heap.size < w2.heap.size := by have := hb2.size; simp at this; omega
  have B2 : Below w.heap.size w w2 := (B1.alloc (by omega) _).trans (hb2.mono (by simp; omega))
  have hz3 : w.heap.size < w2.heap.size := by omega
  have hz4 : w.heap.size < w2.heap.size + 1 := by omega
  have hz5 : w1.heap.size < w2.heap.size + 1 := by omega
  go_wp2_with fail
  refine (do_w3 _ (S2.alloc _)).mono ?_
  rintro e w3 ⟨rfl, hb3⟩
  obtain ⟨hc3, hf3⟩ := bcell hb3
  have hz6 : w2.heap.size < w3.heap.size := by have := hb3.size; simp at this; omega
  have B3 : Below w.heap.size w w3 := (B2.alloc (by omega) _).trans (hb3.mono (by simp; omega))
  have hz7 : w1.heap.size < w3.heap.size := by omega
  go_wp2_with fail
  go_returns
  refine ⟨rfl, ?_⟩
  go_grown

/-- two rows of registers alike -/
def eqR (a b : Nat → Int) : Bool := (List.range 8).all fun k => a k == b k
theorem eqR_same (a : Nat → Int) : eqR a a = true := by simp [eqR]
theorem cells25 : Tryd.prog.cellsOf 25 = 1 := by kernel_rfl
theorem plain25 : Tryd.prog.plainKey 25 = true := by kernel_rfl
theorem info25 : ∃ i, Tryd.prog.info? 25 = some i := by
  cases h : Tryd.prog.info? 25 with
  | none => exact absurd (show (Tryd.prog.info? 25).isSome = true by kernel_rfl) (by rw [h]; decide)
  | some i => exact ⟨i, rfl⟩
theorem run_eq25 (d : Nat) (x y : Int) (w : World) : (Op.equalIn (d + 1) 25 (.int .u64 x) (.int .u64 y)).run Tryd.prog w = .ok (x == y) w := by simp [Op.equalIn, run_underlying Tryd.underlying25]
theorem run_eqItems_regs (a b : Nat → Int) (w : World) : ∀ (is : List Nat), (∀ i ∈ is, i < 8) → (Op.eqItems 9999 25 1 (RA a) (RA b) is).run Tryd.prog w = .ok (is.all fun k => a k == b k) w
  | [], _ => by simp [Op.eqItems]
  | i :: is, h => by
    have hi := h i (by simp)
    simp only [Op.eqItems, Sem.run_bind, Nat.mul_one, run_part_plain w plain25 (RA_get a i hi), run_part_plain w plain25 (RA_get b i hi), Result.andThen_ok]
    rw [run_eq25 9998]
    simp only [Result.andThen_ok]
    cases hc : (a i == b i) with
    | false => simp [hc]
    | true =>
      have := run_eqItems_regs a b w is (fun j hj => h j (List.mem_cons_of_mem _ hj))
      simp [hc, this]
theorem eq_regs (a b : Nat → Int) (w : World) : (binOp .eql 26 (RV a) (RV b)).run Tryd.prog w = .ok (.bool (eqR a b)) w := by
  obtain ⟨i, hi⟩ := info25
  rw [run_eql_struct, run_equalIn_array w 9999 (RA a) (RA b) Tryd.underlying26 hi, cells25, run_eqItems_regs a b w _ (fun j hj => by simpa using hj)]
  rfl

set_option maxRecDepth 20000 in
set_option maxHeartbeats 400000 in
theorem does_lo (op d n m imm pc : Int) (r : Nat → Int) (w : World) (hS : Shapes w) (h : pc < -2147483648) :
    Calls Tryd.prog 3 #[IV op d n m imm, RV r, .int .i64 pc] w fun e w' => e = .returned (.bool true) ∧ Below w.heap.size w w' := by
  go_enter Tryd.func3, Tryd.ntmps3
  go_wp2_with fail
  refine (wakes_any _ ((hS.alloc _).alloc _)).mono ?_
  rintro e w1 ⟨rfl, hb1⟩
  have B1 : Below w.heap.size w w1 := Below.trans (by go_grown) (hb1.mono (by simp; omega))
  go_wp2_with fail
  go_returns
  exact ⟨rfl, B1⟩
set_option maxRecDepth 20000 in
set_option maxHeartbeats 400000 in
theorem does_hi (op d n m imm pc : Int) (r : Nat → Int) (w : World) (hS : Shapes w) (h : 2147483648 < pc) :
    Calls Tryd.prog 3 #[IV op d n m imm, RV r, .int .i64 pc] w fun e w' => e = .returned (.bool true) ∧ Below w.heap.size w w' := by
  have h2 : -2147483648 ≤ pc := by omega
  go_enter Tryd.func3, Tryd.ntmps3
  go_wp2_with fail
  refine (wakes_any _ ((hS.alloc _).alloc _)).mono ?_
  rintro e w1 ⟨rfl, hb1⟩
  have B1 : Below w.heap.size w w1 := Below.trans (by go_grown) (hb1.mono (by simp; omega))
  go_wp2_with fail
  go_returns
  exact ⟨rfl, B1⟩
set_option maxRecDepth 20000 in
set_option maxHeartbeats 400000 in
theorem does_in (op d n m imm pc : Int) (r : Nat → Int) (w : World) (hS : Shapes w) (h1 : -2147483648 ≤ pc) (h2 : pc ≤ 2147483648) :
    Calls Tryd.prog 3 #[IV op d n m imm, RV r, .int .i64 pc] w fun e w' => e = .returned (.bool true) ∧ Below w.heap.size w w' := by
  go_enter Tryd.func3, Tryd.ntmps3
  go_wp2_with fail
  refine (do_any _ _ _ _ _ _ _ _ ((hS.alloc _).alloc _)).mono ?_
  rintro e w1 ⟨rfl, hb1⟩
  have S1 := ((hS.alloc (.cells #[.int .i8 op, .int .i8 d, .int .i8 n, .int .i8 m, .int .i64 imm] 24)).alloc (.cells (RA r) 26)).below (by simp) hb1
  obtain ⟨hc, hf⟩ := bcell hb1
  have hz0 : w.heap.size + 1 < w1.heap.size := by have := hb1.size; simp at this; omega
  have B1 : Below w.heap.size w w1 := Below.trans (by go_grown) (hb1.mono (by simp; omega))
  have hz1 : w.heap.size < w1.heap.size := by omega
  have hz2 : w.heap.size < w1.heap.size + 1 := by omega
  have hz3 : w.heap.size + 1 < w1.heap.size + 1 := by omega
  go_wp2_with fail
  refine (rdo_any _ _ _ _ _ _ _ _).mono ?_
  rintro e w2 ⟨rfl, hb2⟩
  have S2 := (S1.alloc (.cells (RA (doR op d n m imm r)) 26)).below (by simp) hb2
  obtain ⟨hc2, hf2⟩ := bcell hb2
  have hz4 : w1.heap.size < w2.heap.size := by have := hb2.size; simp at this; omega
  have B2 : Below w.heap.size w w2 := (B1.alloc (by omega) _).trans (hb2.mono (by simp; omega))
  have he : ∀ w : World, (binOp .eql 26 (.agg (RA (doR op d n m imm r))) (.agg (RA (doR op d n m imm r)))).run Tryd.prog w = .ok (.bool true) w := fun w => by rw [eq_regs, eqR_same]
  go_wp2_with fail
  refine (wakes_any _ (S2.alloc _)).mono ?_
  rintro e w3 ⟨rfl, hb3⟩
  have B3 : Below w.heap.size w w3 := (B2.alloc (by omega) _).trans (hb3.mono (by simp; omega))
  go_wp2_with fail
  go_returns
  exact ⟨rfl, B3⟩

theorem does_any (op d n m imm pc : Int) (r : Nat → Int) (w : World) (hS : Shapes w) :
    Calls Tryd.prog 3 #[IV op d n m imm, RV r, .int .i64 pc] w fun e w' => e = .returned (.bool true) ∧ Below w.heap.size w w' := by
  by_cases h1 : pc < -2147483648
  · exact does_lo op d n m imm pc r w hS h1
  · by_cases h2 : 2147483648 < pc
    · exact does_hi op d n m imm pc r w hS h2
    · exact does_in op d n m imm pc r w hS (by omega) (by omega)
end Go.Proofs.YthfikhfhflinfaaDoor
