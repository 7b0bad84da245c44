/- The closures of alu.operations, each walked once: what it does with an instruction, eight registers and a pc. No condition but that the registers' numbers lie in 0..7. -/
import Derived.Test.YthfikhfhflinfaaDoorProg
import Derived.WalkKit
import Derived.Handy
import Derived.Lib.Hide
import Derived.Deep.QuietTactic
import Derived.BigQuiet
import Derived.StillTailTactics
import Derived.WalkSmall
namespace Go.Proofs.YthfikhfhflinfaaDoor
open Go.RowKit

/-- eight registers as one value -/
abbrev RA (r : Nat → Int) : Array Value := #[.int .u64 (r 0), .int .u64 (r 1), .int .u64 (r 2), .int .u64 (r 3), .int .u64 (r 4), .int .u64 (r 5), .int .u64 (r 6), .int .u64 (r 7)]
abbrev RL (r : Nat → Int) : List Value := [.int .u64 (r 0), .int .u64 (r 1), .int .u64 (r 2), .int .u64 (r 3), .int .u64 (r 4), .int .u64 (r 5), .int .u64 (r 6), .int .u64 (r 7)]
abbrev RV (r : Nat → Int) : Value := .agg (RA r)
abbrev IV (op d n m imm : Int) : Value := .agg #[.int .i8 op, .int .i8 d, .int .i8 n, .int .i8 m, .int .i64 imm]
/-- one register is another number -/
def upd (r : Nat → Int) (d : Nat) (v : Int) : Nat → Int := fun k => if k = d then v else r k

theorem RA_get (r : Nat → Int) (k : Nat) (h : k < 8) : (RA r)[k]? = some (.int .u64 (r k)) := by
  match k, h with
  | 0, _ => rfl
  | 1, _ => rfl
  | 2, _ => rfl
  | 3, _ => rfl
  | 4, _ => rfl
  | 5, _ => rfl
  | 6, _ => rfl
  | 7, _ => rfl
theorem RL_get (r : Nat → Int) (k : Nat) (h : k < 8) : (RL r)[k]'h = .int .u64 (r k) := by
  match k, h with
  | 0, _ => rfl
  | 1, _ => rfl
  | 2, _ => rfl
  | 3, _ => rfl
  | 4, _ => rfl
  | 5, _ => rfl
  | 6, _ => rfl
  | 7, _ => rfl
theorem RA_set (r : Nat → Int) (d : Nat) (v : Int) (h : d < 8) : (RA r).setIfInBounds d (.int .u64 v) = RA (upd r d v) := by
  match d, h with
  | 0, _ => rfl
  | 1, _ => rfl
  | 2, _ => rfl
  | 3, _ => rfl
  | 4, _ => rfl
  | 5, _ => rfl
  | 6, _ => rfl
  | 7, _ => rfl
/-- what the operations do with two numbers -/
def add64 (a b : Int) : Int := IntKind.u64.wrap (a + b)
def sub64 (a b : Int) : Int := IntKind.u64.wrap (a - b)
def and64 (a b : Int) : Int := bits .and .u64 a b
def or64 (a b : Int) : Int := bits .or .u64 a b
def xor64 (a b : Int) : Int := bits .xor .u64 a b
/-- an int64 as a uint64 -/
def tou64 (a : Int) : Int := IntKind.u64.wrap a
theorem mixed : Tryd.prog.follows .mixedOrders = true := by kernel_rfl
/-- a region whose operations but for the last ones only read: one walk, in the order of the text -/
theorem wp_tail {P : Program} {id : Nat} {Q : Exit → Act → World → Prop} {a : Act} {w : World} {l : List Oper} (n : Nat) (hm : P.follows .mixedOrders = true) (hB : Region.lexTailB .any l.toArray n = true)
    (h : wpStill P l.toArray w.drew (fun a' => wpList P l.toArray Q (l.drop n) a' w.drew) (l.take n) a) : (Code.region id l.toArray true).wp P Q a w :=
  wp_region_still_tail n hm hB h

set_option maxHeartbeats 400000 in
theorem nop_any (op d n m imm pc : Int) (r : Nat → Int) (w : World) :
    Calls Tryd.prog 44 #[IV op d n m imm, RV r, .int .i64 pc] w fun e w' => e = .returned (.tuple #[RV r, .int .i64 (wrap64 (pc + 1))]) ∧ Below w.heap.size w w' := by
  go_enter Tryd.func44, Tryd.ntmps44
  go_wp2
  go_returns
  refine ⟨rfl, ?_⟩
  go_grown

set_option maxHeartbeats 400000 in
theorem mov_any (op d n m imm pc : Int) (r : Nat → Int) (w : World) (h0 : 0 ≤ d) (h1 : d < 8) :
    Calls Tryd.prog 45 #[IV op d n m imm, RV r, .int .i64 pc] w fun e w' => e = .returned (.tuple #[RV (upd r d.toNat (tou64 imm)), .int .i64 (wrap64 (pc + 1))]) ∧ Below w.heap.size w w' := by
  have hs := fun v => RA_set r d.toNat v (by omega)
  go_enter Tryd.func45, Tryd.ntmps45
  go_wp2
  go_returns
  refine ⟨rfl, ?_⟩
  go_grown

set_option maxHeartbeats 400000 in
theorem op47 (a b : Int) (w : World) : Calls Tryd.prog 47 #[.int .u64 a, .int .u64 b] w fun e w' => e = .returned (.int .u64 (add64 a b)) ∧ w' = w := by
  go_enter Tryd.func47, Tryd.ntmps47
  go_wp2
  go_ret
  exact ⟨rfl, rfl⟩

set_option maxRecDepth 20000 in
set_option maxHeartbeats 400000 in
theorem three47 (op d n m imm pc : Int) (r : Nat → Int) (b : Nat) (w : World) (h0 : 0 ≤ d) (h1 : d < 8) (h2 : 0 ≤ n) (h3 : n < 8) (h4 : 0 ≤ m) (h5 : m < 8)
    (hb : b < w.heap.size) (hc : w.cell? ⟨b, 0, none⟩ = some (.func (.func 47) #[] #[])) :
    Calls Tryd.prog 70 #[IV op d n m imm, RV r, .int .i64 pc, .pointer (some ⟨b, 0, none⟩)] w fun e w' => e = .returned (.tuple #[RV (upd r d.toNat (add64 (r n.toNat) (r m.toNat))), .int .i64 (wrap64 (pc + 1))]) ∧ Below w.heap.size w w' := by
  have hs := fun v => RA_set r d.toNat v (by omega)
  have hn := RL_get r n.toNat (by omega)
  have hm := RL_get r m.toNat (by omega)
  have hb1 : b < w.heap.size + 1 := by omega
  have hb2 : b < w.heap.size + 1 + 1 := by omega
  go_enter Tryd.func70, Tryd.ntmps70
  go_wp2
  refine wp_tail 13 mixed (by kernel_rfl) ?_
  simp only [List.take_succ_cons, List.take_zero, List.drop_succ_cons, List.drop_zero]
  repeat still_step
  (refine wpStill_step (fun K hK => ?_); go_simp; refine ⟨_, op47 _ _ _, hK _ ?_⟩; clear hK K)
  repeat still_step
  refine wpStill_nil ?_
  go_wp2
  go_returns
  refine ⟨rfl, ?_⟩
  go_grown

set_option maxHeartbeats 400000 in
theorem op48 (a b : Int) (w : World) : Calls Tryd.prog 48 #[.int .u64 a, .int .u64 b] w fun e w' => e = .returned (.int .u64 (sub64 a b)) ∧ w' = w := by
  go_enter Tryd.func48, Tryd.ntmps48
  go_wp2
  go_ret
  exact ⟨rfl, rfl⟩

set_option maxRecDepth 20000 in
set_option maxHeartbeats 400000 in
theorem three48 (op d n m imm pc : Int) (r : Nat → Int) (b : Nat) (w : World) (h0 : 0 ≤ d) (h1 : d < 8) (h2 : 0 ≤ n) (h3 : n < 8) (h4 : 0 ≤ m) (h5 : m < 8)
    (hb : b < w.heap.size) (hc : w.cell? ⟨b, 0, none⟩ = some (.func (.func 48) #[] #[])) :
    Calls Tryd.prog 70 #[IV op d n m imm, RV r, .int .i64 pc, .pointer (some ⟨b, 0, none⟩)] w fun e w' => e = .returned (.tuple #[RV (upd r d.toNat (sub64 (r n.toNat) (r m.toNat))), .int .i64 (wrap64 (pc + 1))]) ∧ Below w.heap.size w w' := by
  have hs := fun v => RA_set r d.toNat v (by omega)
  have hn := RL_get r n.toNat (by omega)
  have hm := RL_get r m.toNat (by omega)
  have hb1 : b < w.heap.size + 1 := by omega
  have hb2 : b < w.heap.size + 1 + 1 := by omega
  go_enter Tryd.func70, Tryd.ntmps70
  go_wp2
  refine wp_tail 13 mixed (by kernel_rfl) ?_
  simp only [List.take_succ_cons, List.take_zero, List.drop_succ_cons, List.drop_zero]
  repeat still_step
  (refine wpStill_step (fun K hK => ?_); go_simp; refine ⟨_, op48 _ _ _, hK _ ?_⟩; clear hK K)
  repeat still_step
  refine wpStill_nil ?_
  go_wp2
  go_returns
  refine ⟨rfl, ?_⟩
  go_grown

set_option maxHeartbeats 400000 in
theorem op49 (a b : Int) (w : World) : Calls Tryd.prog 49 #[.int .u64 a, .int .u64 b] w fun e w' => e = .returned (.int .u64 (and64 a b)) ∧ w' = w := by
  go_enter Tryd.func49, Tryd.ntmps49
  go_wp2
  go_ret
  exact ⟨rfl, rfl⟩

set_option maxRecDepth 20000 in
set_option maxHeartbeats 400000 in
theorem three49 (op d n m imm pc : Int) (r : Nat → Int) (b : Nat) (w : World) (h0 : 0 ≤ d) (h1 : d < 8) (h2 : 0 ≤ n) (h3 : n < 8) (h4 : 0 ≤ m) (h5 : m < 8)
    (hb : b < w.heap.size) (hc : w.cell? ⟨b, 0, none⟩ = some (.func (.func 49) #[] #[])) :
    Calls Tryd.prog 70 #[IV op d n m imm, RV r, .int .i64 pc, .pointer (some ⟨b, 0, none⟩)] w fun e w' => e = .returned (.tuple #[RV (upd r d.toNat (and64 (r n.toNat) (r m.toNat))), .int .i64 (wrap64 (pc + 1))]) ∧ Below w.heap.size w w' := by
  have hs := fun v => RA_set r d.toNat v (by omega)
  have hn := RL_get r n.toNat (by omega)
  have hm := RL_get r m.toNat (by omega)
  have hb1 : b < w.heap.size + 1 := by omega
  have hb2 : b < w.heap.size + 1 + 1 := by omega
  go_enter Tryd.func70, Tryd.ntmps70
  go_wp2
  refine wp_tail 13 mixed (by kernel_rfl) ?_
  simp only [List.take_succ_cons, List.take_zero, List.drop_succ_cons, List.drop_zero]
  repeat still_step
  (refine wpStill_step (fun K hK => ?_); go_simp; refine ⟨_, op49 _ _ _, hK _ ?_⟩; clear hK K)
  repeat still_step
  refine wpStill_nil ?_
  go_wp2
  go_returns
  refine ⟨rfl, ?_⟩
  go_grown

set_option maxHeartbeats 400000 in
theorem op50 (a b : Int) (w : World) : Calls Tryd.prog 50 #[.int .u64 a, .int .u64 b] w fun e w' => e = .returned (.int .u64 (or64 a b)) ∧ w' = w := by
  go_enter Tryd.func50, Tryd.ntmps50
  go_wp2
  go_ret
  exact ⟨rfl, rfl⟩

set_option maxRecDepth 20000 in
set_option maxHeartbeats 400000 in
theorem three50 (op d n m imm pc : Int) (r : Nat → Int) (b : Nat) (w : World) (h0 : 0 ≤ d) (h1 : d < 8) (h2 : 0 ≤ n) (h3 : n < 8) (h4 : 0 ≤ m) (h5 : m < 8)
    (hb : b < w.heap.size) (hc : w.cell? ⟨b, 0, none⟩ = some (.func (.func 50) #[] #[])) :
    Calls Tryd.prog 70 #[IV op d n m imm, RV r, .int .i64 pc, .pointer (some ⟨b, 0, none⟩)] w fun e w' => e = .returned (.tuple #[RV (upd r d.toNat (or64 (r n.toNat) (r m.toNat))), .int .i64 (wrap64 (pc + 1))]) ∧ Below w.heap.size w w' := by
  have hs := fun v => RA_set r d.toNat v (by omega)
  have hn := RL_get r n.toNat (by omega)
  have hm := RL_get r m.toNat (by omega)
  have hb1 : b < w.heap.size + 1 := by omega
  have hb2 : b < w.heap.size + 1 + 1 := by omega
  go_enter Tryd.func70, Tryd.ntmps70
  go_wp2
  refine wp_tail 13 mixed (by kernel_rfl) ?_
  simp only [List.take_succ_cons, List.take_zero, List.drop_succ_cons, List.drop_zero]
  repeat still_step
  (refine wpStill_step (fun K hK => ?_); go_simp; refine ⟨_, op50 _ _ _, hK _ ?_⟩; clear hK K)
  repeat still_step
  refine wpStill_nil ?_
  go_wp2
  go_returns
  refine ⟨rfl, ?_⟩
  go_grown

set_option maxHeartbeats 400000 in
theorem op51 (a b : Int) (w : World) : Calls Tryd.prog 51 #[.int .u64 a, .int .u64 b] w fun e w' => e = .returned (.int .u64 (xor64 a b)) ∧ w' = w := by
  go_enter Tryd.func51, Tryd.ntmps51
  go_wp2
  go_ret
  exact ⟨rfl, rfl⟩

set_option maxRecDepth 20000 in
set_option maxHeartbeats 400000 in
theorem three51 (op d n m imm pc : Int) (r : Nat → Int) (b : Nat) (w : World) (h0 : 0 ≤ d) (h1 : d < 8) (h2 : 0 ≤ n) (h3 : n < 8) (h4 : 0 ≤ m) (h5 : m < 8)
    (hb : b < w.heap.size) (hc : w.cell? ⟨b, 0, none⟩ = some (.func (.func 51) #[] #[])) :
    Calls Tryd.prog 70 #[IV op d n m imm, RV r, .int .i64 pc, .pointer (some ⟨b, 0, none⟩)] w fun e w' => e = .returned (.tuple #[RV (upd r d.toNat (xor64 (r n.toNat) (r m.toNat))), .int .i64 (wrap64 (pc + 1))]) ∧ Below w.heap.size w w' := by
  have hs := fun v => RA_set r d.toNat v (by omega)
  have hn := RL_get r n.toNat (by omega)
  have hm := RL_get r m.toNat (by omega)
  have hb1 : b < w.heap.size + 1 := by omega
  have hb2 : b < w.heap.size + 1 + 1 := by omega
  go_enter Tryd.func70, Tryd.ntmps70
  go_wp2
  refine wp_tail 13 mixed (by kernel_rfl) ?_
  simp only [List.take_succ_cons, List.take_zero, List.drop_succ_cons, List.drop_zero]
  repeat still_step
  (refine wpStill_step (fun K hK => ?_); go_simp; refine ⟨_, op51 _ _ _, hK _ ?_⟩; clear hK K)
  repeat still_step
  refine wpStill_nil ?_
  go_wp2
  go_returns
  refine ⟨rfl, ?_⟩
  go_grown

set_option maxRecDepth 20000 in
set_option maxHeartbeats 400000 in
theorem addi_any (op d n m imm pc : Int) (r : Nat → Int) (w : World) (h0 : 0 ≤ d) (h1 : d < 8) (h2 : 0 ≤ n) (h3 : n < 8) :
    Calls Tryd.prog 52 #[IV op d n m imm, RV r, .int .i64 pc] w fun e w' => e = .returned (.tuple #[RV (upd r d.toNat (add64 (r n.toNat) (tou64 imm))), .int .i64 (wrap64 (pc + 1))]) ∧ Below w.heap.size w w' := by
  have hs := fun v => RA_set r d.toNat v (by omega)
  have hn := RL_get r n.toNat (by omega)
  go_enter Tryd.func52, Tryd.ntmps52
  go_wp2
  refine wp_tail 11 mixed (by kernel_rfl) ?_
  simp only [List.take_succ_cons, List.take_zero, List.drop_succ_cons, List.drop_zero]
  repeat still_step
  refine wpStill_nil ?_
  go_wp2
  go_returns
  refine ⟨rfl, ?_⟩
  go_grown

set_option maxHeartbeats 400000 in
theorem op54 (a : Int) (w : World) : Calls Tryd.prog 54 #[.int .u64 a] w fun e w' => e = .returned (.bool true) ∧ w' = w := by
  go_enter Tryd.func54, Tryd.ntmps54
  go_wp2
  go_ret
  exact ⟨rfl, rfl⟩

set_option maxHeartbeats 400000 in
theorem op55 (a : Int) (w : World) : Calls Tryd.prog 55 #[.int .u64 a] w fun e w' => e = .returned (.bool (a == 0)) ∧ w' = w := by
  go_enter Tryd.func55, Tryd.ntmps55
  go_wp2
  go_ret
  exact ⟨rfl, rfl⟩

set_option maxHeartbeats 400000 in
theorem op56 (a : Int) (w : World) : Calls Tryd.prog 56 #[.int .u64 a] w fun e w' => e = .returned (.bool (a != 0)) ∧ w' = w := by
  go_enter Tryd.func56, Tryd.ntmps56
  go_wp2
  go_ret
  exact ⟨rfl, rfl⟩

set_option maxRecDepth 20000 in
set_option maxHeartbeats 400000 in
theorem branch_b (op d n m imm pc : Int) (r : Nat → Int) (b : Nat) (w : World) (h0 : 0 ≤ d) (h1 : d < 8) 
    (hb : b < w.heap.size) (hc : w.cell? ⟨b, 0, none⟩ = some (.func (.func 54) #[] #[])) :
    Calls Tryd.prog 71 #[IV op d n m imm, RV r, .int .i64 pc, .pointer (some ⟨b, 0, none⟩)] w fun e w' => e = .returned (.tuple #[RV r, .int .i64 (wrap64 (pc + imm))]) ∧ Below w.heap.size w w' := by
  have hn := RL_get r d.toNat (by omega)
  have hb1 : b < w.heap.size + 1 := by omega
  have hb2 : b < w.heap.size + 1 + 1 := by omega
  go_enter Tryd.func71, Tryd.ntmps71
  go_wp2
  go_quiet ((go_at_call 54; exact Calls.quiet_of_same (op54 _ _)))
  go_wp2
  go_region
  go_wp2
  go_returns
  refine ⟨rfl, ?_⟩
  repeat' (first | (with_reducible exact Below.refl _ _) | (with_reducible assumption) | (with_reducible refine below_drewN ?_ _) | (with_reducible refine Below.alloc ?_ ?_ _) | (with_reducible refine Below.drew ?_) | (with_reducible refine Below.setCell ?_ ?_ _) | go_size)

set_option maxRecDepth 20000 in
set_option maxHeartbeats 400000 in
theorem branch_z1 (op d n m imm pc : Int) (r : Nat → Int) (b : Nat) (w : World) (h0 : 0 ≤ d) (h1 : d < 8) (hz : (r d.toNat == 0) = true) 
    (hb : b < w.heap.size) (hc : w.cell? ⟨b, 0, none⟩ = some (.func (.func 55) #[] #[])) :
    Calls Tryd.prog 71 #[IV op d n m imm, RV r, .int .i64 pc, .pointer (some ⟨b, 0, none⟩)] w fun e w' => e = .returned (.tuple #[RV r, .int .i64 (wrap64 (pc + imm))]) ∧ Below w.heap.size w w' := by
  have hn := RL_get r d.toNat (by omega)
  have hb1 : b < w.heap.size + 1 := by omega
  have hb2 : b < w.heap.size + 1 + 1 := by omega
  go_enter Tryd.func71, Tryd.ntmps71
  go_wp2
  go_quiet ((go_at_call 55; exact Calls.quiet_of_same (op55 _ _)))
  go_wp2
  go_region
  go_wp2
  go_returns
  refine ⟨rfl, ?_⟩
  repeat' (first | (with_reducible exact Below.refl _ _) | (with_reducible assumption) | (with_reducible refine below_drewN ?_ _) | (with_reducible refine Below.alloc ?_ ?_ _) | (with_reducible refine Below.drew ?_) | (with_reducible refine Below.setCell ?_ ?_ _) | go_size)

set_option maxRecDepth 20000 in
set_option maxHeartbeats 400000 in
theorem branch_z0 (op d n m imm pc : Int) (r : Nat → Int) (b : Nat) (w : World) (h0 : 0 ≤ d) (h1 : d < 8) (hz : (r d.toNat == 0) = false) 
    (hb : b < w.heap.size) (hc : w.cell? ⟨b, 0, none⟩ = some (.func (.func 55) #[] #[])) :
    Calls Tryd.prog 71 #[IV op d n m imm, RV r, .int .i64 pc, .pointer (some ⟨b, 0, none⟩)] w fun e w' => e = .returned (.tuple #[RV r, .int .i64 (wrap64 (pc + 1))]) ∧ Below w.heap.size w w' := by
  have hn := RL_get r d.toNat (by omega)
  have hb1 : b < w.heap.size + 1 := by omega
  have hb2 : b < w.heap.size + 1 + 1 := by omega
  go_enter Tryd.func71, Tryd.ntmps71
  go_wp2
  go_quiet ((go_at_call 55; exact Calls.quiet_of_same (op55 _ _)))
  go_wp2
  go_returns
  refine ⟨rfl, ?_⟩
  repeat' (first | (with_reducible exact Below.refl _ _) | (with_reducible assumption) | (with_reducible refine below_drewN ?_ _) | (with_reducible refine Below.alloc ?_ ?_ _) | (with_reducible refine Below.drew ?_) | (with_reducible refine Below.setCell ?_ ?_ _) | go_size)

set_option maxRecDepth 20000 in
set_option maxHeartbeats 400000 in
theorem branch_n1 (op d n m imm pc : Int) (r : Nat → Int) (b : Nat) (w : World) (h0 : 0 ≤ d) (h1 : d < 8) (hz : (r d.toNat != 0) = true) 
    (hb : b < w.heap.size) (hc : w.cell? ⟨b, 0, none⟩ = some (.func (.func 56) #[] #[])) :
    Calls Tryd.prog 71 #[IV op d n m imm, RV r, .int .i64 pc, .pointer (some ⟨b, 0, none⟩)] w fun e w' => e = .returned (.tuple #[RV r, .int .i64 (wrap64 (pc + imm))]) ∧ Below w.heap.size w w' := by
  have hn := RL_get r d.toNat (by omega)
  have hb1 : b < w.heap.size + 1 := by omega
  have hb2 : b < w.heap.size + 1 + 1 := by omega
  go_enter Tryd.func71, Tryd.ntmps71
  go_wp2
  go_quiet ((go_at_call 56; exact Calls.quiet_of_same (op56 _ _)))
  go_wp2
  go_region
  go_wp2
  go_returns
  refine ⟨rfl, ?_⟩
  repeat' (first | (with_reducible exact Below.refl _ _) | (with_reducible assumption) | (with_reducible refine below_drewN ?_ _) | (with_reducible refine Below.alloc ?_ ?_ _) | (with_reducible refine Below.drew ?_) | (with_reducible refine Below.setCell ?_ ?_ _) | go_size)

set_option maxRecDepth 20000 in
set_option maxHeartbeats 400000 in
theorem branch_n0 (op d n m imm pc : Int) (r : Nat → Int) (b : Nat) (w : World) (h0 : 0 ≤ d) (h1 : d < 8) (hz : (r d.toNat != 0) = false) 
    (hb : b < w.heap.size) (hc : w.cell? ⟨b, 0, none⟩ = some (.func (.func 56) #[] #[])) :
    Calls Tryd.prog 71 #[IV op d n m imm, RV r, .int .i64 pc, .pointer (some ⟨b, 0, none⟩)] w fun e w' => e = .returned (.tuple #[RV r, .int .i64 (wrap64 (pc + 1))]) ∧ Below w.heap.size w w' := by
  have hn := RL_get r d.toNat (by omega)
  have hb1 : b < w.heap.size + 1 := by omega
  have hb2 : b < w.heap.size + 1 + 1 := by omega
  go_enter Tryd.func71, Tryd.ntmps71
  go_wp2
  go_quiet ((go_at_call 56; exact Calls.quiet_of_same (op56 _ _)))
  go_wp2
  go_returns
  refine ⟨rfl, ?_⟩
  repeat' (first | (with_reducible exact Below.refl _ _) | (with_reducible assumption) | (with_reducible refine below_drewN ?_ _) | (with_reducible refine Below.alloc ?_ ?_ _) | (with_reducible refine Below.drew ?_) | (with_reducible refine Below.setCell ?_ ?_ _) | go_size)

end Go.Proofs.YthfikhfhflinfaaDoor
