/- The checks of an instruction: alu.Check, tenementref06.Check and what they call: both answer one number by one Bool, 'chk'. -/
import Derived.Test.YthfikhfhflinfaaDoorProg
import Derived.WalkKit
import Derived.Handy
import Derived.Lib.Hide
import Derived.Deep.QuietTactic
import Derived.BigQuiet
import Derived.WalkSmall
namespace Go.Proofs.YthfikhfhflinfaaDoor
open Go.RowKit

/-- is k a register's number, or 0 -/
def reg (k : Int) (has : Bool) : Bool := k == 0 || (has && decide (0 < k) && decide (k < 8))

theorem reg_lo {k : Int} {has : Bool} (h : reg k has = true) : 0 ≤ k ∧ k < 8 := by
  unfold reg at h; simp only [Bool.or_eq_true, beq_iff_eq, Bool.and_eq_true, decide_eq_true_eq] at h; omega

set_option maxHeartbeats 400000 in
theorem register_any (k : Int) (has : Bool) (w : World) :
    Calls Tryd.prog 33 #[.int .i8 k, .bool has] w fun e w' => e = .returned (.bool (reg k has)) ∧ w = w' := by
  go_enter Tryd.func33, Tryd.ntmps33
  go_wp2
  all_goals go_ret
  all_goals (simp only [Array.getD_eq_getD_getElem?, reg]; simp_all)
  all_goals omega

theorem reg_eq (k : Int) (has : Bool) : (decide (0 ≤ k) && decide (k < 8) && (has || k == 0)) = reg k has := by
  unfold reg; rw [Bool.eq_iff_iff]; cases has <;> simp <;> omega

set_option maxHeartbeats 400000 in
theorem register_ref (k : Int) (has : Bool) (w : World) :
    Calls Tryd.prog 35 #[.int .i8 k, .bool has] w fun e w' => e = .returned (.bool (reg k has)) ∧ w = w' := by
  go_enter Tryd.func35, Tryd.ntmps35
  go_wp2
  all_goals go_ret
  all_goals (rw [← reg_eq]; simp; try simp_all)
  all_goals omega

/-- what an instruction has: D, N, M, and from what to what Imm goes -/
def shapesL : List (Bool × Bool × Bool × Int × Int) := [
  (false, false, false, 0, 0), (true, false, false, 0, 65535), (true, true, true, 0, 0), (true, true, true, 0, 0), (true, true, true, 0, 0), (true, true, true, 0, 0), (true, true, true, 0, 0),
  (true, true, false, -2048, 2047), (true, true, false, 0, 0), (true, true, false, 0, 0), (true, true, false, 0, 0), (true, true, true, 0, 0), (true, true, false, 0, 0),
  (false, false, false, 0, 0), (false, false, false, -1024, 1023), (true, false, false, -1024, 1023), (true, false, false, -1024, 1023), (false, false, false, 0, 0), (false, false, false, 0, 0)]
def shapeOf (op : Int) : Bool × Bool × Bool × Int × Int := shapesL.getD op.toNat (false, false, false, 0, 0)
def sD (op : Int) : Bool := (shapeOf op).1
def sN (op : Int) : Bool := (shapeOf op).2.1
def sM (op : Int) : Bool := (shapeOf op).2.2.1
def sLo (op : Int) : Int := (shapeOf op).2.2.2.1
def sHi (op : Int) : Int := (shapeOf op).2.2.2.2

/-- the table of shapes lies in the first block -/
structure Shapes (w : World) : Prop where
  size : 0 < w.heap.size
  d : ∀ op : Int, 0 ≤ op → op ≤ 18 → w.cell? ⟨0, op.toNat * 5, none⟩ = some (.bool (sD op))
  n : ∀ op : Int, 0 ≤ op → op ≤ 18 → w.cell? ⟨0, op.toNat * 5 + 1, none⟩ = some (.bool (sN op))
  m : ∀ op : Int, 0 ≤ op → op ≤ 18 → w.cell? ⟨0, op.toNat * 5 + 2, none⟩ = some (.bool (sM op))
  lo : ∀ op : Int, 0 ≤ op → op ≤ 18 → w.cell? ⟨0, op.toNat * 5 + 3, none⟩ = some (.int .i64 (sLo op))
  hi : ∀ op : Int, 0 ≤ op → op ≤ 18 → w.cell? ⟨0, op.toNat * 5 + 4, none⟩ = some (.int .i64 (sHi op))

theorem Shapes.of_block {w w' : World} (h : Shapes w) (hz : 0 < w'.heap.size) (hb : w'.heap[0]? = w.heap[0]?) : Shapes w' := by
  have e : ∀ o, w'.cell? ⟨0, o, none⟩ = w.cell? ⟨0, o, none⟩ := fun o => World.cell?_of_block (w := w) hb
  exact ⟨hz, fun op a b => by rw [e]; exact h.d op a b, fun op a b => by rw [e]; exact h.n op a b, fun op a b => by rw [e]; exact h.m op a b, fun op a b => by rw [e]; exact h.lo op a b, fun op a b => by rw [e]; exact h.hi op a b⟩
theorem Shapes.below {w w' : World} {B : Nat} (h : Shapes w) (hB : 0 < B) (hb : Below B w w') : Shapes w' :=
  h.of_block (Nat.lt_of_lt_of_le h.size hb.size) (hb.block 0 hB)
theorem Shapes.alloc {w : World} (h : Shapes w) (o : Obj) : Shapes (w.alloc o) := h.below h.size ((Below.refl _ _).alloc (Nat.le_refl _) o)
theorem Shapes.drew {w : World} (h : Shapes w) : Shapes w.drew := h.below h.size (Below.refl _ _).drew

/-- may the instruction be -/
def chk (op d n m imm : Int) : Bool :=
  decide (0 ≤ op) && decide (op ≤ 18) && reg d (sD op) && reg n (sN op) && reg m (sM op) && decide (sLo op ≤ imm) && decide (imm ≤ sHi op)
/-- the answer's number -/
def eno (b : Bool) : Int := if b then 0 else 60

theorem ret_i64 {a b : Int} (h : a = b) : Ending.returned (.int .i64 a) = .returned (.int .i64 b) := by rw [h]

set_option maxHeartbeats 400000 in
theorem check_any (op d n m imm : Int) (w : World) (hS : Shapes w) :
    Calls Tryd.prog 16 #[.agg #[.int .i8 op, .int .i8 d, .int .i8 n, .int .i8 m, .int .i64 imm]] w fun e w' => e = .returned (.int .i64 (eno (chk op d n m imm))) ∧ Below w.heap.size w w' := by
  by_cases h : 0 ≤ op ∧ op ≤ 18
  · obtain ⟨h0, h1⟩ := h
    have hz := hS.size
    have c0 := hS.d op h0 h1
    have c1 := hS.n op h0 h1
    have c2 := hS.m op h0 h1
    have c3 := hS.lo op h0 h1
    have c4 := hS.hi op h0 h1
    go_enter Tryd.func16, Tryd.ntmps16
    go_wp2_with (go_at_call 33; refine (register_any _ _ _).mono ?_; rintro e w' ⟨rfl, rfl⟩)
    all_goals go_ret
    all_goals refine ⟨ret_i64 ?_, by go_grown⟩
    all_goals (clear c0 c1 c2 c3 c4 hS; unfold chk eno; simp_all)
    all_goals (try omega)
    all_goals trace_state
  · have hz := hS.size
    go_enter Tryd.func16, Tryd.ntmps16
    go_wp2
    all_goals (try (exfalso; omega))
    all_goals go_ret
    all_goals refine ⟨ret_i64 ?_, by go_grown⟩
    all_goals (unfold chk eno; simp; omega)

set_option maxHeartbeats 1000000 in
theorem has_any (op : Int) (w : World) (h0 : 0 ≤ op) (h1 : op ≤ 18) :
    Calls Tryd.prog 34 #[.int .i8 op] w fun e w' => e = .returned (.tuple #[.bool (sD op), .bool (sN op), .bool (sM op), .int .i64 (sLo op), .int .i64 (sHi op), .bool true]) ∧ w = w' := by
  have hc : op = 0 ∨ op = 1 ∨ op = 2 ∨ op = 3 ∨ op = 4 ∨ op = 5 ∨ op = 6 ∨ op = 7 ∨ op = 8 ∨ op = 9 ∨ op = 10 ∨ op = 11 ∨ op = 12 ∨ op = 13 ∨ op = 14 ∨ op = 15 ∨ op = 16 ∨ op = 17 ∨ op = 18 := by omega
  clear h0 h1
  rcases hc with rfl | rfl | rfl | rfl | rfl | rfl | rfl | rfl | rfl | rfl | rfl | rfl | rfl | rfl | rfl | rfl | rfl | rfl | rfl
  all_goals
    go_enter Tryd.func34, Tryd.ntmps34
    go_wp2
    exact bodyPost_ret (v := .tuple _) (by simp [results, Tryd.results34, go_sem]; decide) rfl ⟨rfl, rfl⟩
set_option maxHeartbeats 400000 in
theorem has_none (op : Int) (w : World) (h : ¬ (0 ≤ op ∧ op ≤ 18)) :
    Calls Tryd.prog 34 #[.int .i8 op] w fun e w' => e = .returned (.tuple #[.bool false, .bool false, .bool false, .int .i64 0, .int .i64 0, .bool false]) ∧ w = w' := by
  have h0 : (op == 0) = false := by rw [beq_eq_false_iff_ne]; omega
  have h1 : (op == 1) = false := by rw [beq_eq_false_iff_ne]; omega
  have h2 : (op == 2) = false := by rw [beq_eq_false_iff_ne]; omega
  have h3 : (op == 3) = false := by rw [beq_eq_false_iff_ne]; omega
  have h4 : (op == 4) = false := by rw [beq_eq_false_iff_ne]; omega
  have h5 : (op == 5) = false := by rw [beq_eq_false_iff_ne]; omega
  have h6 : (op == 6) = false := by rw [beq_eq_false_iff_ne]; omega
  have h7 : (op == 7) = false := by rw [beq_eq_false_iff_ne]; omega
  have h8 : (op == 8) = false := by rw [beq_eq_false_iff_ne]; omega
  have h9 : (op == 9) = false := by rw [beq_eq_false_iff_ne]; omega
  have h10 : (op == 10) = false := by rw [beq_eq_false_iff_ne]; omega
  have h11 : (op == 11) = false := by rw [beq_eq_false_iff_ne]; omega
  have h12 : (op == 12) = false := by rw [beq_eq_false_iff_ne]; omega
  have h13 : (op == 13) = false := by rw [beq_eq_false_iff_ne]; omega
  have h14 : (op == 14) = false := by rw [beq_eq_false_iff_ne]; omega
  have h15 : (op == 15) = false := by rw [beq_eq_false_iff_ne]; omega
  have h16 : (op == 16) = false := by rw [beq_eq_false_iff_ne]; omega
  have h17 : (op == 17) = false := by rw [beq_eq_false_iff_ne]; omega
  have h18 : (op == 18) = false := by rw [beq_eq_false_iff_ne]; omega
  clear h
  go_enter Tryd.func34, Tryd.ntmps34
  go_wp2
  exact bodyPost_ret (v := .tuple _) (by simp [results, Tryd.results34, go_sem]) rfl ⟨rfl, rfl⟩

set_option maxHeartbeats 400000 in
theorem check_ref (op d n m imm : Int) (w : World) :
    Calls Tryd.prog 17 #[.agg #[.int .i8 op, .int .i8 d, .int .i8 n, .int .i8 m, .int .i64 imm]] w fun e w' => e = .returned (.int .i64 (eno (chk op d n m imm))) ∧ Below w.heap.size w w' := by
  by_cases h : 0 ≤ op ∧ op ≤ 18
  · obtain ⟨h0, h1⟩ := h
    go_enter Tryd.func17, Tryd.ntmps17
    go_wp2_with (first | (go_at_call 35; refine (register_ref _ _ _).mono ?_; rintro e w' ⟨rfl, rfl⟩) | (go_at_call 34; refine (has_any _ _ h0 h1).mono ?_; rintro e w' ⟨rfl, rfl⟩))
    all_goals go_ret
    all_goals refine ⟨ret_i64 ?_, by go_grown⟩
    all_goals (unfold chk eno; simp_all)
    all_goals (try omega)
    all_goals trace_state
  · go_enter Tryd.func17, Tryd.ntmps17
    go_wp2_with (go_at_call 34; refine (has_none _ _ h).mono ?_; rintro e w' ⟨rfl, rfl⟩)
    all_goals go_ret
    all_goals refine ⟨ret_i64 ?_, by go_grown⟩
    all_goals (unfold chk eno; simp; omega)
end Go.Proofs.YthfikhfhflinfaaDoor
