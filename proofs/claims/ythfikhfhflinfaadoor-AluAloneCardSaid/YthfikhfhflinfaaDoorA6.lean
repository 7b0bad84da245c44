/- alu.Do and tenementref06.Do, each by one contract: both hand back the same. -/
import Derived.Test.YthfikhfhflinfaaDoorS
import Derived.Test.YthfikhfhflinfaaDoorA4
import Derived.Test.YthfikhfhflinfaaDoorA5
namespace Go.Proofs.YthfikhfhflinfaaDoor
open Go.RowKit

theorem op_cases {op : Int} (h : 0 ≤ op ∧ op ≤ 18) : op = 0 ∨ op = 1 ∨ op = 2 ∨ op = 3 ∨ op = 4 ∨ op = 5 ∨ op = 6 ∨ op = 7 ∨ op = 8 ∨ op = 9 ∨ op = 10 ∨ op = 11 ∨ op = 12 ∨ op = 13 ∨ op = 14 ∨ op = 15 ∨ op = 16 ∨ op = 17 ∨ op = 18 := by omega

theorem post_of {P : Program} {f : FuncId} {args : Array Value} {w : World} {B : Nat} {v v' : Value} (h : Calls P f args w fun e w' => e = .returned v ∧ Below B w w') (e : v = v') : Calls P f args w fun e w' => e = .returned v' ∧ Below B w w' := e ▸ h

theorem tup {a b : Nat → Int} {p q e f : Int} (h1 : a = b) (h2 : p = q) (h3 : e = f) : Value.tuple #[RV a, .int .i64 p, .int .i64 e] = .tuple #[RV b, .int .i64 q, .int .i64 f] := by rw [h1, h2, h3]

theorem do_any (op d n m imm pc : Int) (r : Nat → Int) (w : World) (hS : Shapes w) :
    Calls Tryd.prog 11 #[IV op d n m imm, RV r, .int .i64 pc] w fun e w' => e = .returned (DoV op d n m imm r pc) ∧ Below w.heap.size w w' := by
  cases hk : chk op d n m imm with
  | false => exact post_of (do_no op d n m imm pc r w hS hk) (tup (by simp [doR, hk]) (by simp [doP, hk]) (by simp [doE, hk]))
  | true =>
    obtain ⟨ho, ⟨h0, h1⟩, ⟨h2, h3⟩, ⟨h4, h5⟩⟩ := chk_lo hk
    rcases op_cases ho with rfl | rfl | rfl | rfl | rfl | rfl | rfl | rfl | rfl | rfl | rfl | rfl | rfl | rfl | rfl | rfl | rfl | rfl | rfl
    · exact post_of (do_0 d n m imm pc r w hS hk) (tup (by simp [doR, aR, hk]) (by simp [doP, aP, hk, isAlu]) (by simp [doE, hk, isAlu]))
    · exact post_of (do_1 d n m imm pc r w hS hk h0 h1) (tup (by simp [doR, aR, hk, isAlu]) (by simp [doP, aP, hk, isAlu]) (by simp [doE, hk, isAlu]))
    · exact post_of (do_2 d n m imm pc r w hS hk h0 h1 h2 h3 h4 h5) (tup (by simp [doR, aR, hk, isAlu]) (by simp [doP, aP, hk, isAlu]) (by simp [doE, hk, isAlu]))
    · exact post_of (do_3 d n m imm pc r w hS hk h0 h1 h2 h3 h4 h5) (tup (by simp [doR, aR, hk, isAlu]) (by simp [doP, aP, hk, isAlu]) (by simp [doE, hk, isAlu]))
    · exact post_of (do_4 d n m imm pc r w hS hk h0 h1 h2 h3 h4 h5) (tup (by simp [doR, aR, hk, isAlu]) (by simp [doP, aP, hk, isAlu]) (by simp [doE, hk, isAlu]))
    · exact post_of (do_5 d n m imm pc r w hS hk h0 h1 h2 h3 h4 h5) (tup (by simp [doR, aR, hk, isAlu]) (by simp [doP, aP, hk, isAlu]) (by simp [doE, hk, isAlu]))
    · exact post_of (do_6 d n m imm pc r w hS hk h0 h1 h2 h3 h4 h5) (tup (by simp [doR, aR, hk, isAlu]) (by simp [doP, aP, hk, isAlu]) (by simp [doE, hk, isAlu]))
    · exact post_of (do_7 d n m imm pc r w hS hk h0 h1 h2 h3) (tup (by simp [doR, aR, hk, isAlu]) (by simp [doP, aP, hk, isAlu]) (by simp [doE, hk, isAlu]))
    · exact post_of (do_8 d n m imm pc r w hS hk) (tup (by simp [doR, isAlu]) (by simp [doP, isAlu]) (by simp [doE, hk, isAlu]))
    · exact post_of (do_9 d n m imm pc r w hS hk) (tup (by simp [doR, isAlu]) (by simp [doP, isAlu]) (by simp [doE, hk, isAlu]))
    · exact post_of (do_10 d n m imm pc r w hS hk) (tup (by simp [doR, isAlu]) (by simp [doP, isAlu]) (by simp [doE, hk, isAlu]))
    · exact post_of (do_11 d n m imm pc r w hS hk) (tup (by simp [doR, isAlu]) (by simp [doP, isAlu]) (by simp [doE, hk, isAlu]))
    · exact post_of (do_12 d n m imm pc r w hS hk) (tup (by simp [doR, isAlu]) (by simp [doP, isAlu]) (by simp [doE, hk, isAlu]))
    · exact post_of (do_13 d n m imm pc r w hS hk) (tup (by simp [doR, isAlu]) (by simp [doP, isAlu]) (by simp [doE, hk, isAlu]))
    · exact post_of (do_14 d n m imm pc r w hS hk h0 h1) (tup (by simp [doR, aR]) (by simp [doP, aP, hk, isAlu]) (by simp [doE, hk, isAlu]))
    · cases hr : (r d.toNat == 0) with
      | true => exact post_of (do_15t d n m imm pc r w hS hk h0 h1 hr) (tup (by simp [doR, aR]) (by simp [doP, aP, hk, isAlu, hr]) (by simp [doE, hk, isAlu]))
      | false => exact post_of (do_15f d n m imm pc r w hS hk h0 h1 hr) (tup (by simp [doR, aR]) (by simp [doP, aP, hk, isAlu, hr]) (by simp [doE, hk, isAlu]))
    · cases hr : (r d.toNat != 0) with
      | true => exact post_of (do_16t d n m imm pc r w hS hk h0 h1 hr) (tup (by simp [doR, aR]) (by simp [doP, aP, hk, isAlu, hr]) (by simp [doE, hk, isAlu]))
      | false => exact post_of (do_16f d n m imm pc r w hS hk h0 h1 hr) (tup (by simp [doR, aR]) (by simp [doP, aP, hk, isAlu, hr]) (by simp [doE, hk, isAlu]))
    · exact post_of (do_17 d n m imm pc r w hS hk) (tup (by simp [doR, isAlu]) (by simp [doP, isAlu]) (by simp [doE, hk, isAlu]))
    · exact post_of (do_18 d n m imm pc r w hS hk) (tup (by simp [doR, isAlu]) (by simp [doP, isAlu]) (by simp [doE, hk, isAlu]))

theorem rdo_any (op d n m imm pc : Int) (r : Nat → Int) (w : World) :
    Calls Tryd.prog 12 #[IV op d n m imm, RV r, .int .i64 pc] w fun e w' => e = .returned (DoV op d n m imm r pc) ∧ Below w.heap.size w w' := by
  cases hk : chk op d n m imm with
  | false => exact post_of (rdo_no op d n m imm pc r w hk) (tup (by simp [doR, hk]) (by simp [doP, hk]) (by simp [doE, hk]))
  | true =>
    obtain ⟨ho, ⟨h0, h1⟩, ⟨h2, h3⟩, ⟨h4, h5⟩⟩ := chk_lo hk
    rcases op_cases ho with rfl | rfl | rfl | rfl | rfl | rfl | rfl | rfl | rfl | rfl | rfl | rfl | rfl | rfl | rfl | rfl | rfl | rfl | rfl
    · exact post_of (rdo_0 d n m imm pc r w hk h0 h1 h2 h3 h4 h5) (tup (by simp [doR, aR, hk]) (by simp [doP, aP, hk, isAlu]) (by simp [doE, hk, isAlu]))
    · exact post_of (rdo_1 d n m imm pc r w hk h0 h1 h2 h3 h4 h5) (tup (by simp [doR, aR, hk, isAlu]) (by simp [doP, aP, hk, isAlu]) (by simp [doE, hk, isAlu]))
    · exact post_of (rdo_2 d n m imm pc r w hk h0 h1 h2 h3 h4 h5) (tup (by simp [doR, aR, hk, isAlu]) (by simp [doP, aP, hk, isAlu]) (by simp [doE, hk, isAlu]))
    · exact post_of (rdo_3 d n m imm pc r w hk h0 h1 h2 h3 h4 h5) (tup (by simp [doR, aR, hk, isAlu]) (by simp [doP, aP, hk, isAlu]) (by simp [doE, hk, isAlu]))
    · exact post_of (rdo_4 d n m imm pc r w hk h0 h1 h2 h3 h4 h5) (tup (by simp [doR, aR, hk, isAlu]) (by simp [doP, aP, hk, isAlu]) (by simp [doE, hk, isAlu]))
    · exact post_of (rdo_5 d n m imm pc r w hk h0 h1 h2 h3 h4 h5) (tup (by simp [doR, aR, hk, isAlu]) (by simp [doP, aP, hk, isAlu]) (by simp [doE, hk, isAlu]))
    · exact post_of (rdo_6 d n m imm pc r w hk h0 h1 h2 h3 h4 h5) (tup (by simp [doR, aR, hk, isAlu]) (by simp [doP, aP, hk, isAlu]) (by simp [doE, hk, isAlu]))
    · exact post_of (rdo_7 d n m imm pc r w hk h0 h1 h2 h3 h4 h5) (tup (by simp [doR, aR, hk, isAlu]) (by simp [doP, aP, hk, isAlu]) (by simp [doE, hk, isAlu]))
    · exact post_of (rdo_8 d n m imm pc r w hk h0 h1 h2 h3 h4 h5) (tup (by simp [doR, isAlu]) (by simp [doP, isAlu]) (by simp [doE, hk, isAlu]))
    · exact post_of (rdo_9 d n m imm pc r w hk h0 h1 h2 h3 h4 h5) (tup (by simp [doR, isAlu]) (by simp [doP, isAlu]) (by simp [doE, hk, isAlu]))
    · exact post_of (rdo_10 d n m imm pc r w hk h0 h1 h2 h3 h4 h5) (tup (by simp [doR, isAlu]) (by simp [doP, isAlu]) (by simp [doE, hk, isAlu]))
    · exact post_of (rdo_11 d n m imm pc r w hk h0 h1 h2 h3 h4 h5) (tup (by simp [doR, isAlu]) (by simp [doP, isAlu]) (by simp [doE, hk, isAlu]))
    · exact post_of (rdo_12 d n m imm pc r w hk h0 h1 h2 h3 h4 h5) (tup (by simp [doR, isAlu]) (by simp [doP, isAlu]) (by simp [doE, hk, isAlu]))
    · exact post_of (rdo_13 d n m imm pc r w hk h0 h1 h2 h3 h4 h5) (tup (by simp [doR, isAlu]) (by simp [doP, isAlu]) (by simp [doE, hk, isAlu]))
    · exact post_of (rdo_14 d n m imm pc r w hk h0 h1 h2 h3 h4 h5) (tup (by simp [doR, aR]) (by simp [doP, aP, hk, isAlu]) (by simp [doE, hk, isAlu]))
    · cases hr : (r d.toNat == 0) with
      | true => exact post_of (rdo_15t d n m imm pc r w hk hr h0 h1 h2 h3 h4 h5) (tup (by simp [doR, aR]) (by simp [doP, aP, hk, isAlu, hr]) (by simp [doE, hk, isAlu]))
      | false => exact post_of (rdo_15f d n m imm pc r w hk hr h0 h1 h2 h3 h4 h5) (tup (by simp [doR, aR]) (by simp [doP, aP, hk, isAlu, hr]) (by simp [doE, hk, isAlu]))
    · cases hr : (r d.toNat != 0) with
      | true => exact post_of (rdo_16t d n m imm pc r w hk hr h0 h1 h2 h3 h4 h5) (tup (by simp [doR, aR]) (by simp [doP, aP, hk, isAlu, hr]) (by simp [doE, hk, isAlu]))
      | false => exact post_of (rdo_16f d n m imm pc r w hk hr h0 h1 h2 h3 h4 h5) (tup (by simp [doR, aR]) (by simp [doP, aP, hk, isAlu, hr]) (by simp [doE, hk, isAlu]))
    · exact post_of (rdo_17 d n m imm pc r w hk h0 h1 h2 h3 h4 h5) (tup (by simp [doR, isAlu]) (by simp [doP, isAlu]) (by simp [doE, hk, isAlu]))
    · exact post_of (rdo_18 d n m imm pc r w hk h0 h1 h2 h3 h4 h5) (tup (by simp [doR, isAlu]) (by simp [doP, isAlu]) (by simp [doE, hk, isAlu]))
end Go.Proofs.YthfikhfhflinfaaDoor
