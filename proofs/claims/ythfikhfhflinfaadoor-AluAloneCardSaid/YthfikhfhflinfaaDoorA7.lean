/- alu.Writes, alu.Memory and their references, each by one contract. -/
import Derived.Test.YthfikhfhflinfaaDoorA6
namespace Go.Proofs.YthfikhfhflinfaaDoor
open Go.RowKit

/-- which register an instruction writes, and whether -/
def wrI (op d m : Int) : Int := if op = 11 then m else if op = 17 then 0 else d
def wrB (op : Int) : Bool := (decide (1 ≤ op) && decide (op ≤ 8)) || op == 10 || op == 11 || op == 17
def wI (op d n m imm : Int) : Int := if chk op d n m imm && wrB op then wrI op d m else 0
def wB (op d n m imm : Int) : Bool := chk op d n m imm && wrB op
/-- is it an access -/
def mB (op d n m imm : Int) : Bool := chk op d n m imm && (decide (8 ≤ op) && decide (op ≤ 12))

theorem tup2 {a b : Int} {p q : Bool} (h1 : a = b) (h2 : p = q) : Value.tuple #[.int .i64 a, .bool p] = .tuple #[.int .i64 b, .bool q] := by rw [h1, h2]

set_option maxRecDepth 20000 in
set_option maxHeartbeats 1000000 in
theorem writes_any (op d n m imm : Int) (w : World) (hS : Shapes w) :
    Calls Tryd.prog 13 #[IV op d n m imm] w fun e w' => e = .returned (.tuple #[.int .i64 (wI op d n m imm), .bool (wB op d n m imm)]) ∧ Below w.heap.size w w' := by
  cases hk : chk op d n m imm with
  | false =>
    have Hk := Lib.hid hk; clear hk
    go_enter Tryd.func13, Tryd.ntmps13
    go_wp2_with fail
    refine (check_no _ _ _ _ _ _ (hS.alloc _) Hk.out).mono ?_
    rintro e w1 ⟨rfl, hb1⟩
    go_wp2_with fail
    go_returns
    exact ⟨by rw [wI, wB, Hk.out]; rfl, Below.trans (by go_grown) (hb1.mono (by simp))⟩
  | true =>
    obtain ⟨ho, ⟨h0, h1⟩, ⟨h2, h3⟩, ⟨h4, h5⟩⟩ := chk_lo hk
    have Hk := Lib.hid hk; clear hk
    rcases op_cases ho with rfl | rfl | rfl | rfl | rfl | rfl | rfl | rfl | rfl | rfl | rfl | rfl | rfl | rfl | rfl | rfl | rfl | rfl | rfl
    all_goals
      go_enter Tryd.func13, Tryd.ntmps13
      go_wp2_with fail
      refine (check_yes _ _ _ _ _ _ (hS.alloc _) Hk.out).mono ?_
      rintro e w1 ⟨rfl, hb1⟩
      obtain ⟨hc, hf⟩ := bcell hb1
      go_wp2_with fail
      go_returns
      exact ⟨by rw [wI, wB, Hk.out]; rfl, Below.trans (by go_grown) (hb1.mono (by simp))⟩

set_option maxRecDepth 20000 in
set_option maxHeartbeats 1000000 in
theorem rwrites_any (op d n m imm : Int) (w : World) :
    Calls Tryd.prog 15 #[IV op d n m imm] w fun e w' => e = .returned (.tuple #[.int .i64 (wI op d n m imm), .bool (wB op d n m imm)]) ∧ Below w.heap.size w w' := by
  cases hk : chk op d n m imm with
  | false =>
    have Hk := Lib.hid hk; clear hk
    go_enter Tryd.func15, Tryd.ntmps15
    go_wp2_with fail
    refine (ref_no _ _ _ _ _ _ Hk.out).mono ?_
    rintro e w1 ⟨rfl, hb1⟩
    go_wp2_with fail
    go_returns
    exact ⟨by rw [wI, wB, Hk.out]; rfl, Below.trans (by go_grown) (hb1.mono (by simp))⟩
  | true =>
    obtain ⟨ho, ⟨h0, h1⟩, ⟨h2, h3⟩, ⟨h4, h5⟩⟩ := chk_lo hk
    have Hk := Lib.hid hk; clear hk
    rcases op_cases ho with rfl | rfl | rfl | rfl | rfl | rfl | rfl | rfl | rfl | rfl | rfl | rfl | rfl | rfl | rfl | rfl | rfl | rfl | rfl
    all_goals
      go_enter Tryd.func15, Tryd.ntmps15
      go_wp2_with fail
      refine (ref_yes _ _ _ _ _ _ Hk.out).mono ?_
      rintro e w1 ⟨rfl, hb1⟩
      obtain ⟨hc, hf⟩ := bcell hb1
      go_wp2_with fail
      go_returns
      exact ⟨by rw [wI, wB, Hk.out]; rfl, Below.trans (by go_grown) (hb1.mono (by simp))⟩

set_option maxRecDepth 20000 in
set_option maxHeartbeats 1000000 in
theorem memory_any (op d n m imm : Int) (w : World) (hS : Shapes w) :
    Calls Tryd.prog 18 #[IV op d n m imm] w fun e w' => e = .returned (.bool (mB op d n m imm)) ∧ Below w.heap.size w w' := by
  cases hk : chk op d n m imm with
  | false =>
    have Hk := Lib.hid hk; clear hk
    go_enter Tryd.func18, Tryd.ntmps18
    go_wp2_with fail
    refine (check_no _ _ _ _ _ _ (hS.alloc _) Hk.out).mono ?_
    rintro e w1 ⟨rfl, hb1⟩
    go_wp2_with fail
    go_returns
    exact ⟨by rw [mB, Hk.out]; rfl, Below.trans (by go_grown) (hb1.mono (by simp))⟩
  | true =>
    obtain ⟨ho, ⟨h0, h1⟩, ⟨h2, h3⟩, ⟨h4, h5⟩⟩ := chk_lo hk
    have Hk := Lib.hid hk; clear hk
    rcases op_cases ho with rfl | rfl | rfl | rfl | rfl | rfl | rfl | rfl | rfl | rfl | rfl | rfl | rfl | rfl | rfl | rfl | rfl | rfl | rfl
    all_goals
      go_enter Tryd.func18, Tryd.ntmps18
      go_wp2_with fail
      refine (check_yes _ _ _ _ _ _ (hS.alloc _) Hk.out).mono ?_
      rintro e w1 ⟨rfl, hb1⟩
      obtain ⟨hc, hf⟩ := bcell hb1
      go_wp2_with fail
      go_returns
      exact ⟨by rw [mB, Hk.out]; rfl, Below.trans (by go_grown) (hb1.mono (by simp))⟩

set_option maxRecDepth 20000 in
set_option maxHeartbeats 1000000 in
theorem rmemory_any (op d n m imm : Int) (w : World) :
    Calls Tryd.prog 19 #[IV op d n m imm] w fun e w' => e = .returned (.bool (mB op d n m imm)) ∧ Below w.heap.size w w' := by
  cases hk : chk op d n m imm with
  | false =>
    have Hk := Lib.hid hk; clear hk
    go_enter Tryd.func19, Tryd.ntmps19
    go_wp2_with fail
    refine (ref_no _ _ _ _ _ _ Hk.out).mono ?_
    rintro e w1 ⟨rfl, hb1⟩
    go_wp2_with fail
    go_returns
    exact ⟨by rw [mB, Hk.out]; rfl, Below.trans (by go_grown) (hb1.mono (by simp))⟩
  | true =>
    obtain ⟨ho, ⟨h0, h1⟩, ⟨h2, h3⟩, ⟨h4, h5⟩⟩ := chk_lo hk
    have Hk := Lib.hid hk; clear hk
    rcases op_cases ho with rfl | rfl | rfl | rfl | rfl | rfl | rfl | rfl | rfl | rfl | rfl | rfl | rfl | rfl | rfl | rfl | rfl | rfl | rfl
    all_goals
      go_enter Tryd.func19, Tryd.ntmps19
      go_wp2_with fail
      refine (ref_yes _ _ _ _ _ _ Hk.out).mono ?_
      rintro e w1 ⟨rfl, hb1⟩
      obtain ⟨hc, hf⟩ := bcell hb1
      go_wp2_with fail
      go_returns
      exact ⟨by rw [mB, Hk.out]; rfl, Below.trans (by go_grown) (hb1.mono (by simp))⟩
end Go.Proofs.YthfikhfhflinfaaDoor
