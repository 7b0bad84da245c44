/- alu.read: which registers an instruction reads, as eight bools. -/
import Derived.Test.YthfikhfhflinfaaDoorA7
namespace Go.Proofs.YthfikhfhflinfaaDoor
open Go.RowKit

abbrev BA (b : Nat → Bool) : Array Value := #[.bool (b 0), .bool (b 1), .bool (b 2), .bool (b 3), .bool (b 4), .bool (b 5), .bool (b 6), .bool (b 7)]
abbrev BL (b : Nat → Bool) : List Value := [.bool (b 0), .bool (b 1), .bool (b 2), .bool (b 3), .bool (b 4), .bool (b 5), .bool (b 6), .bool (b 7)]
def zB : Nat → Bool := fun _ => false
def updB (b : Nat → Bool) (d : Nat) : Nat → Bool := fun k => if k = d then true else b k
theorem BA_get (r : Nat → Bool) (k : Nat) (h : k < 8) : (BA r)[k]? = some (.bool (r k)) := by
  match k, h with
  | 0, _ => rfl
  | 1, _ => rfl
  | 2, _ => rfl
  | 3, _ => rfl
  | 4, _ => rfl
  | 5, _ => rfl
  | 6, _ => rfl
  | 7, _ => rfl
theorem BL_get (r : Nat → Bool) (k : Nat) (h : k < 8) : (BL r)[k]'h = .bool (r k) := by
  match k, h with
  | 0, _ => rfl
  | 1, _ => rfl
  | 2, _ => rfl
  | 3, _ => rfl
  | 4, _ => rfl
  | 5, _ => rfl
  | 6, _ => rfl
  | 7, _ => rfl
theorem BA_set (r : Nat → Bool) (d : Nat) (h : d < 8) : (BA r).setIfInBounds d (.bool true) = BA (updB r d) := by
  match d, h with
  | 0, _ => rfl
  | 1, _ => rfl
  | 2, _ => rfl
  | 3, _ => rfl
  | 4, _ => rfl
  | 5, _ => rfl
  | 6, _ => rfl
  | 7, _ => rfl
theorem BA_set0 (d : Nat) (h : d < 8) : (#[.bool false, .bool false, .bool false, .bool false, .bool false, .bool false, .bool false, .bool false] : Array Value).setIfInBounds d (.bool true) = BA (updB zB d) := BA_set zB d h

/-- which registers an instruction that may be reads -/
def rdB (op d n m : Int) : Nat → Bool :=
  if 2 ≤ op ∧ op ≤ 6 then updB (updB zB n.toNat) m.toNat
  else if op = 7 ∨ op = 8 ∨ op = 10 then updB zB n.toNat
  else if op = 9 ∨ op = 11 ∨ op = 12 then updB (updB zB n.toNat) d.toNat
  else if op = 15 ∨ op = 16 then updB zB d.toNat
  else if op = 17 then fun k => decide (k < 4)
  else zB

set_option maxRecDepth 20000 in
set_option maxHeartbeats 400000 in
theorem read_0 (d n m imm : Int) (w : World) (hS : Shapes w) :
    Calls Tryd.prog 32 #[IV 0 d n m imm] w fun e w' => e = .returned (.agg (BA (zB))) ∧ Below w.heap.size w w' := by
  have hz := hS.size
  have c0 := hS.d 0 (by omega) (by omega)
  have c1 := hS.n 0 (by omega) (by omega)
  have c2 := hS.m 0 (by omega) (by omega)
  have c3 := hS.lo 0 (by omega) (by omega)
  have c4 := hS.hi 0 (by omega) (by omega)
  simp only [sD, sN, sM, sLo, sHi, shapeOf, shapesL, Int.reduceToNat, Nat.reduceMul, Nat.reduceAdd, List.getD_cons_zero] at c0 c1 c2 c3 c4
  go_enter Tryd.func32, Tryd.ntmps32
  go_wp2
  go_returns
  exact ⟨rfl, by go_grown⟩

set_option maxRecDepth 20000 in
set_option maxHeartbeats 400000 in
theorem read_1 (d n m imm : Int) (w : World) (hS : Shapes w) :
    Calls Tryd.prog 32 #[IV 1 d n m imm] w fun e w' => e = .returned (.agg (BA (zB))) ∧ Below w.heap.size w w' := by
  have hz := hS.size
  have c0 := hS.d 1 (by omega) (by omega)
  have c1 := hS.n 1 (by omega) (by omega)
  have c2 := hS.m 1 (by omega) (by omega)
  have c3 := hS.lo 1 (by omega) (by omega)
  have c4 := hS.hi 1 (by omega) (by omega)
  simp only [sD, sN, sM, sLo, sHi, shapeOf, shapesL, Int.reduceToNat, Nat.reduceMul, Nat.reduceAdd, List.getD_cons_zero, List.getD_cons_succ] at c0 c1 c2 c3 c4
  go_enter Tryd.func32, Tryd.ntmps32
  go_wp2
  go_returns
  exact ⟨rfl, by go_grown⟩

set_option maxRecDepth 20000 in
set_option maxHeartbeats 400000 in
theorem read_2 (d n m imm : Int) (w : World) (hS : Shapes w) (h2 : 0 ≤ n) (h3 : n < 8) (h4 : 0 ≤ m) (h5 : m < 8) :
    Calls Tryd.prog 32 #[IV 2 d n m imm] w fun e w' => e = .returned (.agg (BA (updB (updB zB n.toNat) m.toNat))) ∧ Below w.heap.size w w' := by
  have hz := hS.size
  have c0 := hS.d 2 (by omega) (by omega)
  have c1 := hS.n 2 (by omega) (by omega)
  have c2 := hS.m 2 (by omega) (by omega)
  have c3 := hS.lo 2 (by omega) (by omega)
  have c4 := hS.hi 2 (by omega) (by omega)
  simp only [sD, sN, sM, sLo, sHi, shapeOf, shapesL, Int.reduceToNat, Nat.reduceMul, Nat.reduceAdd, List.getD_cons_zero, List.getD_cons_succ] at c0 c1 c2 c3 c4
  have s0 := BA_set0 n.toNat (by omega)
  have s1 := BA_set (updB zB n.toNat) m.toNat (by omega)
  go_enter Tryd.func32, Tryd.ntmps32
  go_wp2
  go_returns
  exact ⟨rfl, by go_grown⟩

set_option maxRecDepth 20000 in
set_option maxHeartbeats 400000 in
theorem read_3 (d n m imm : Int) (w : World) (hS : Shapes w) (h2 : 0 ≤ n) (h3 : n < 8) (h4 : 0 ≤ m) (h5 : m < 8) :
    Calls Tryd.prog 32 #[IV 3 d n m imm] w fun e w' => e = .returned (.agg (BA (updB (updB zB n.toNat) m.toNat))) ∧ Below w.heap.size w w' := by
  have hz := hS.size
  have c0 := hS.d 3 (by omega) (by omega)
  have c1 := hS.n 3 (by omega) (by omega)
  have c2 := hS.m 3 (by omega) (by omega)
  have c3 := hS.lo 3 (by omega) (by omega)
  have c4 := hS.hi 3 (by omega) (by omega)
  simp only [sD, sN, sM, sLo, sHi, shapeOf, shapesL, Int.reduceToNat, Nat.reduceMul, Nat.reduceAdd, List.getD_cons_zero, List.getD_cons_succ] at c0 c1 c2 c3 c4
  have s0 := BA_set0 n.toNat (by omega)
  have s1 := BA_set (updB zB n.toNat) m.toNat (by omega)
  go_enter Tryd.func32, Tryd.ntmps32
  go_wp2
  go_returns
  exact ⟨rfl, by go_grown⟩

set_option maxRecDepth 20000 in
set_option maxHeartbeats 400000 in
theorem read_4 (d n m imm : Int) (w : World) (hS : Shapes w) (h2 : 0 ≤ n) (h3 : n < 8) (h4 : 0 ≤ m) (h5 : m < 8) :
    Calls Tryd.prog 32 #[IV 4 d n m imm] w fun e w' => e = .returned (.agg (BA (updB (updB zB n.toNat) m.toNat))) ∧ Below w.heap.size w w' := by
  have hz := hS.size
  have c0 := hS.d 4 (by omega) (by omega)
  have c1 := hS.n 4 (by omega) (by omega)
  have c2 := hS.m 4 (by omega) (by omega)
  have c3 := hS.lo 4 (by omega) (by omega)
  have c4 := hS.hi 4 (by omega) (by omega)
  simp only [sD, sN, sM, sLo, sHi, shapeOf, shapesL, Int.reduceToNat, Nat.reduceMul, Nat.reduceAdd, List.getD_cons_zero, List.getD_cons_succ] at c0 c1 c2 c3 c4
  have s0 := BA_set0 n.toNat (by omega)
  have s1 := BA_set (updB zB n.toNat) m.toNat (by omega)
  go_enter Tryd.func32, Tryd.ntmps32
  go_wp2
  go_returns
  exact ⟨rfl, by go_grown⟩

set_option maxRecDepth 20000 in
set_option maxHeartbeats 400000 in
theorem read_5 (d n m imm : Int) (w : World) (hS : Shapes w) (h2 : 0 ≤ n) (h3 : n < 8) (h4 : 0 ≤ m) (h5 : m < 8) :
    Calls Tryd.prog 32 #[IV 5 d n m imm] w fun e w' => e = .returned (.agg (BA (updB (updB zB n.toNat) m.toNat))) ∧ Below w.heap.size w w' := by
  have hz := hS.size
  have c0 := hS.d 5 (by omega) (by omega)
  have c1 := hS.n 5 (by omega) (by omega)
  have c2 := hS.m 5 (by omega) (by omega)
  have c3 := hS.lo 5 (by omega) (by omega)
  have c4 := hS.hi 5 (by omega) (by omega)
  simp only [sD, sN, sM, sLo, sHi, shapeOf, shapesL, Int.reduceToNat, Nat.reduceMul, Nat.reduceAdd, List.getD_cons_zero, List.getD_cons_succ] at c0 c1 c2 c3 c4
  have s0 := BA_set0 n.toNat (by omega)
  have s1 := BA_set (updB zB n.toNat) m.toNat (by omega)
  go_enter Tryd.func32, Tryd.ntmps32
  go_wp2
  go_returns
  exact ⟨rfl, by go_grown⟩

set_option maxRecDepth 20000 in
set_option maxHeartbeats 400000 in
theorem read_6 (d n m imm : Int) (w : World) (hS : Shapes w) (h2 : 0 ≤ n) (h3 : n < 8) (h4 : 0 ≤ m) (h5 : m < 8) :
    Calls Tryd.prog 32 #[IV 6 d n m imm] w fun e w' => e = .returned (.agg (BA (updB (updB zB n.toNat) m.toNat))) ∧ Below w.heap.size w w' := by
  have hz := hS.size
  have c0 := hS.d 6 (by omega) (by omega)
  have c1 := hS.n 6 (by omega) (by omega)
  have c2 := hS.m 6 (by omega) (by omega)
  have c3 := hS.lo 6 (by omega) (by omega)
  have c4 := hS.hi 6 (by omega) (by omega)
  simp only [sD, sN, sM, sLo, sHi, shapeOf, shapesL, Int.reduceToNat, Nat.reduceMul, Nat.reduceAdd, List.getD_cons_zero, List.getD_cons_succ] at c0 c1 c2 c3 c4
  have s0 := BA_set0 n.toNat (by omega)
  have s1 := BA_set (updB zB n.toNat) m.toNat (by omega)
  go_enter Tryd.func32, Tryd.ntmps32
  go_wp2
  go_returns
  exact ⟨rfl, by go_grown⟩

set_option maxRecDepth 20000 in
set_option maxHeartbeats 400000 in
theorem read_7 (d n m imm : Int) (w : World) (hS : Shapes w) (h2 : 0 ≤ n) (h3 : n < 8) :
    Calls Tryd.prog 32 #[IV 7 d n m imm] w fun e w' => e = .returned (.agg (BA (updB zB n.toNat))) ∧ Below w.heap.size w w' := by
  have hz := hS.size
  have c0 := hS.d 7 (by omega) (by omega)
  have c1 := hS.n 7 (by omega) (by omega)
  have c2 := hS.m 7 (by omega) (by omega)
  have c3 := hS.lo 7 (by omega) (by omega)
  have c4 := hS.hi 7 (by omega) (by omega)
  simp only [sD, sN, sM, sLo, sHi, shapeOf, shapesL, Int.reduceToNat, Nat.reduceMul, Nat.reduceAdd, List.getD_cons_zero, List.getD_cons_succ] at c0 c1 c2 c3 c4
  have s0 := BA_set0 n.toNat (by omega)
  go_enter Tryd.func32, Tryd.ntmps32
  go_wp2
  go_returns
  exact ⟨rfl, by go_grown⟩

set_option maxRecDepth 20000 in
set_option maxHeartbeats 400000 in
theorem read_8 (d n m imm : Int) (w : World) (hS : Shapes w) (h2 : 0 ≤ n) (h3 : n < 8) :
    Calls Tryd.prog 32 #[IV 8 d n m imm] w fun e w' => e = .returned (.agg (BA (updB zB n.toNat))) ∧ Below w.heap.size w w' := by
  have hz := hS.size
  have c0 := hS.d 8 (by omega) (by omega)
  have c1 := hS.n 8 (by omega) (by omega)
  have c2 := hS.m 8 (by omega) (by omega)
  have c3 := hS.lo 8 (by omega) (by omega)
  have c4 := hS.hi 8 (by omega) (by omega)
  simp only [sD, sN, sM, sLo, sHi, shapeOf, shapesL, Int.reduceToNat, Nat.reduceMul, Nat.reduceAdd, List.getD_cons_zero, List.getD_cons_succ] at c0 c1 c2 c3 c4
  have s0 := BA_set0 n.toNat (by omega)
  go_enter Tryd.func32, Tryd.ntmps32
  go_wp2
  go_returns
  exact ⟨rfl, by go_grown⟩

set_option maxRecDepth 20000 in
set_option maxHeartbeats 400000 in
theorem read_9 (d n m imm : Int) (w : World) (hS : Shapes w) (h0 : 0 ≤ d) (h1 : d < 8) (h2 : 0 ≤ n) (h3 : n < 8) :
    Calls Tryd.prog 32 #[IV 9 d n m imm] w fun e w' => e = .returned (.agg (BA (updB (updB zB n.toNat) d.toNat))) ∧ Below w.heap.size w w' := by
  have hz := hS.size
  have c0 := hS.d 9 (by omega) (by omega)
  have c1 := hS.n 9 (by omega) (by omega)
  have c2 := hS.m 9 (by omega) (by omega)
  have c3 := hS.lo 9 (by omega) (by omega)
  have c4 := hS.hi 9 (by omega) (by omega)
  simp only [sD, sN, sM, sLo, sHi, shapeOf, shapesL, Int.reduceToNat, Nat.reduceMul, Nat.reduceAdd, List.getD_cons_zero, List.getD_cons_succ] at c0 c1 c2 c3 c4
  have s0 := BA_set0 n.toNat (by omega)
  have s1 := BA_set (updB zB n.toNat) d.toNat (by omega)
  go_enter Tryd.func32, Tryd.ntmps32
  go_wp2
  go_returns
  exact ⟨rfl, by go_grown⟩

set_option maxRecDepth 20000 in
set_option maxHeartbeats 400000 in
theorem read_10 (d n m imm : Int) (w : World) (hS : Shapes w) (h2 : 0 ≤ n) (h3 : n < 8) :
    Calls Tryd.prog 32 #[IV 10 d n m imm] w fun e w' => e = .returned (.agg (BA (updB zB n.toNat))) ∧ Below w.heap.size w w' := by
  have hz := hS.size
  have c0 := hS.d 10 (by omega) (by omega)
  have c1 := hS.n 10 (by omega) (by omega)
  have c2 := hS.m 10 (by omega) (by omega)
  have c3 := hS.lo 10 (by omega) (by omega)
  have c4 := hS.hi 10 (by omega) (by omega)
  simp only [sD, sN, sM, sLo, sHi, shapeOf, shapesL, Int.reduceToNat, Nat.reduceMul, Nat.reduceAdd, List.getD_cons_zero, List.getD_cons_succ] at c0 c1 c2 c3 c4
  have s0 := BA_set0 n.toNat (by omega)
  go_enter Tryd.func32, Tryd.ntmps32
  go_wp2
  go_returns
  exact ⟨rfl, by go_grown⟩

set_option maxRecDepth 20000 in
set_option maxHeartbeats 400000 in
theorem read_11 (d n m imm : Int) (w : World) (hS : Shapes w) (h0 : 0 ≤ d) (h1 : d < 8) (h2 : 0 ≤ n) (h3 : n < 8) :
    Calls Tryd.prog 32 #[IV 11 d n m imm] w fun e w' => e = .returned (.agg (BA (updB (updB zB n.toNat) d.toNat))) ∧ Below w.heap.size w w' := by
  have hz := hS.size
  have c0 := hS.d 11 (by omega) (by omega)
  have c1 := hS.n 11 (by omega) (by omega)
  have c2 := hS.m 11 (by omega) (by omega)
  have c3 := hS.lo 11 (by omega) (by omega)
  have c4 := hS.hi 11 (by omega) (by omega)
  simp only [sD, sN, sM, sLo, sHi, shapeOf, shapesL, Int.reduceToNat, Nat.reduceMul, Nat.reduceAdd, List.getD_cons_zero, List.getD_cons_succ] at c0 c1 c2 c3 c4
  have s0 := BA_set0 n.toNat (by omega)
  have s1 := BA_set (updB zB n.toNat) d.toNat (by omega)
  go_enter Tryd.func32, Tryd.ntmps32
  go_wp2
  go_returns
  exact ⟨rfl, by go_grown⟩

set_option maxRecDepth 20000 in
set_option maxHeartbeats 400000 in
theorem read_12 (d n m imm : Int) (w : World) (hS : Shapes w) (h0 : 0 ≤ d) (h1 : d < 8) (h2 : 0 ≤ n) (h3 : n < 8) :
    Calls Tryd.prog 32 #[IV 12 d n m imm] w fun e w' => e = .returned (.agg (BA (updB (updB zB n.toNat) d.toNat))) ∧ Below w.heap.size w w' := by
  have hz := hS.size
  have c0 := hS.d 12 (by omega) (by omega)
  have c1 := hS.n 12 (by omega) (by omega)
  have c2 := hS.m 12 (by omega) (by omega)
  have c3 := hS.lo 12 (by omega) (by omega)
  have c4 := hS.hi 12 (by omega) (by omega)
  simp only [sD, sN, sM, sLo, sHi, shapeOf, shapesL, Int.reduceToNat, Nat.reduceMul, Nat.reduceAdd, List.getD_cons_zero, List.getD_cons_succ] at c0 c1 c2 c3 c4
  have s0 := BA_set0 n.toNat (by omega)
  have s1 := BA_set (updB zB n.toNat) d.toNat (by omega)
  go_enter Tryd.func32, Tryd.ntmps32
  go_wp2
  go_returns
  exact ⟨rfl, by go_grown⟩

set_option maxRecDepth 20000 in
set_option maxHeartbeats 400000 in
theorem read_13 (d n m imm : Int) (w : World) (hS : Shapes w) :
    Calls Tryd.prog 32 #[IV 13 d n m imm] w fun e w' => e = .returned (.agg (BA (zB))) ∧ Below w.heap.size w w' := by
  have hz := hS.size
  have c0 := hS.d 13 (by omega) (by omega)
  have c1 := hS.n 13 (by omega) (by omega)
  have c2 := hS.m 13 (by omega) (by omega)
  have c3 := hS.lo 13 (by omega) (by omega)
  have c4 := hS.hi 13 (by omega) (by omega)
  simp only [sD, sN, sM, sLo, sHi, shapeOf, shapesL, Int.reduceToNat, Nat.reduceMul, Nat.reduceAdd, List.getD_cons_zero, List.getD_cons_succ] at c0 c1 c2 c3 c4
  go_enter Tryd.func32, Tryd.ntmps32
  go_wp2
  go_returns
  exact ⟨rfl, by go_grown⟩

set_option maxRecDepth 20000 in
set_option maxHeartbeats 400000 in
theorem read_14 (d n m imm : Int) (w : World) (hS : Shapes w) :
    Calls Tryd.prog 32 #[IV 14 d n m imm] w fun e w' => e = .returned (.agg (BA (zB))) ∧ Below w.heap.size w w' := by
  have hz := hS.size
  have c0 := hS.d 14 (by omega) (by omega)
  have c1 := hS.n 14 (by omega) (by omega)
  have c2 := hS.m 14 (by omega) (by omega)
  have c3 := hS.lo 14 (by omega) (by omega)
  have c4 := hS.hi 14 (by omega) (by omega)
  simp only [sD, sN, sM, sLo, sHi, shapeOf, shapesL, Int.reduceToNat, Nat.reduceMul, Nat.reduceAdd, List.getD_cons_zero, List.getD_cons_succ] at c0 c1 c2 c3 c4
  go_enter Tryd.func32, Tryd.ntmps32
  go_wp2
  go_returns
  exact ⟨rfl, by go_grown⟩

set_option maxRecDepth 20000 in
set_option maxHeartbeats 400000 in
theorem read_15 (d n m imm : Int) (w : World) (hS : Shapes w) (h0 : 0 ≤ d) (h1 : d < 8) :
    Calls Tryd.prog 32 #[IV 15 d n m imm] w fun e w' => e = .returned (.agg (BA (updB zB d.toNat))) ∧ Below w.heap.size w w' := by
  have hz := hS.size
  have c0 := hS.d 15 (by omega) (by omega)
  have c1 := hS.n 15 (by omega) (by omega)
  have c2 := hS.m 15 (by omega) (by omega)
  have c3 := hS.lo 15 (by omega) (by omega)
  have c4 := hS.hi 15 (by omega) (by omega)
  simp only [sD, sN, sM, sLo, sHi, shapeOf, shapesL, Int.reduceToNat, Nat.reduceMul, Nat.reduceAdd, List.getD_cons_zero, List.getD_cons_succ] at c0 c1 c2 c3 c4
  have s0 := BA_set0 d.toNat (by omega)
  go_enter Tryd.func32, Tryd.ntmps32
  go_wp2
  go_returns
  exact ⟨rfl, by go_grown⟩

set_option maxRecDepth 20000 in
set_option maxHeartbeats 400000 in
theorem read_16 (d n m imm : Int) (w : World) (hS : Shapes w) (h0 : 0 ≤ d) (h1 : d < 8) :
    Calls Tryd.prog 32 #[IV 16 d n m imm] w fun e w' => e = .returned (.agg (BA (updB zB d.toNat))) ∧ Below w.heap.size w w' := by
  have hz := hS.size
  have c0 := hS.d 16 (by omega) (by omega)
  have c1 := hS.n 16 (by omega) (by omega)
  have c2 := hS.m 16 (by omega) (by omega)
  have c3 := hS.lo 16 (by omega) (by omega)
  have c4 := hS.hi 16 (by omega) (by omega)
  simp only [sD, sN, sM, sLo, sHi, shapeOf, shapesL, Int.reduceToNat, Nat.reduceMul, Nat.reduceAdd, List.getD_cons_zero, List.getD_cons_succ] at c0 c1 c2 c3 c4
  have s0 := BA_set0 d.toNat (by omega)
  go_enter Tryd.func32, Tryd.ntmps32
  go_wp2
  go_returns
  exact ⟨rfl, by go_grown⟩

set_option maxRecDepth 20000 in
set_option maxHeartbeats 400000 in
theorem read_17 (d n m imm : Int) (w : World) (hS : Shapes w) :
    Calls Tryd.prog 32 #[IV 17 d n m imm] w fun e w' => e = .returned (.agg (BA (fun k => decide (k < 4)))) ∧ Below w.heap.size w w' := by
  have hz := hS.size
  have c0 := hS.d 17 (by omega) (by omega)
  have c1 := hS.n 17 (by omega) (by omega)
  have c2 := hS.m 17 (by omega) (by omega)
  have c3 := hS.lo 17 (by omega) (by omega)
  have c4 := hS.hi 17 (by omega) (by omega)
  simp only [sD, sN, sM, sLo, sHi, shapeOf, shapesL, Int.reduceToNat, Nat.reduceMul, Nat.reduceAdd, List.getD_cons_zero, List.getD_cons_succ] at c0 c1 c2 c3 c4
  go_enter Tryd.func32, Tryd.ntmps32
  go_wp2
  go_returns
  exact ⟨rfl, by go_grown⟩

set_option maxRecDepth 20000 in
set_option maxHeartbeats 400000 in
theorem read_18 (d n m imm : Int) (w : World) (hS : Shapes w) :
    Calls Tryd.prog 32 #[IV 18 d n m imm] w fun e w' => e = .returned (.agg (BA (zB))) ∧ Below w.heap.size w w' := by
  have hz := hS.size
  have c0 := hS.d 18 (by omega) (by omega)
  have c1 := hS.n 18 (by omega) (by omega)
  have c2 := hS.m 18 (by omega) (by omega)
  have c3 := hS.lo 18 (by omega) (by omega)
  have c4 := hS.hi 18 (by omega) (by omega)
  simp only [sD, sN, sM, sLo, sHi, shapeOf, shapesL, Int.reduceToNat, Nat.reduceMul, Nat.reduceAdd, List.getD_cons_zero, List.getD_cons_succ] at c0 c1 c2 c3 c4
  go_enter Tryd.func32, Tryd.ntmps32
  go_wp2
  go_returns
  exact ⟨rfl, by go_grown⟩

theorem read_any (op d n m imm : Int) (w : World) (hS : Shapes w) (hk : chk op d n m imm = true) :
    Calls Tryd.prog 32 #[IV op d n m imm] w fun e w' => e = .returned (.agg (BA (rdB op d n m))) ∧ Below w.heap.size w w' := by
  obtain ⟨ho, ⟨h0, h1⟩, ⟨h2, h3⟩, ⟨h4, h5⟩⟩ := chk_lo hk
  rcases op_cases ho with rfl | rfl | rfl | rfl | rfl | rfl | rfl | rfl | rfl | rfl | rfl | rfl | rfl | rfl | rfl | rfl | rfl | rfl | rfl
  · exact read_0 d n m imm w hS
  · exact read_1 d n m imm w hS
  · exact read_2 d n m imm w hS h2 h3 h4 h5
  · exact read_3 d n m imm w hS h2 h3 h4 h5
  · exact read_4 d n m imm w hS h2 h3 h4 h5
  · exact read_5 d n m imm w hS h2 h3 h4 h5
  · exact read_6 d n m imm w hS h2 h3 h4 h5
  · exact read_7 d n m imm w hS h2 h3
  · exact read_8 d n m imm w hS h2 h3
  · exact read_9 d n m imm w hS h0 h1 h2 h3
  · exact read_10 d n m imm w hS h2 h3
  · exact read_11 d n m imm w hS h0 h1 h2 h3
  · exact read_12 d n m imm w hS h0 h1 h2 h3
  · exact read_13 d n m imm w hS
  · exact read_14 d n m imm w hS
  · exact read_15 d n m imm w hS h0 h1
  · exact read_16 d n m imm w hS h0 h1
  · exact read_17 d n m imm w hS
  · exact read_18 d n m imm w hS
end Go.Proofs.YthfikhfhflinfaaDoor
