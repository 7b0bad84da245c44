/- What alu.Do does, in plain Lean: no program in sight. -/
import Derived.Test.YthfikhfhflinfaaDoorA2
import Derived.Test.YthfikhfhflinfaaDoorA1
namespace Go.Proofs.YthfikhfhflinfaaDoor
open Go.RowKit

theorem chk_lo {op d n m imm : Int} (h : chk op d n m imm = true) : (0 ≤ op ∧ op ≤ 18) ∧ (0 ≤ d ∧ d < 8) ∧ (0 ≤ n ∧ n < 8) ∧ (0 ≤ m ∧ m < 8) := by
  simp only [chk, Bool.and_eq_true, decide_eq_true_eq] at h
  obtain ⟨⟨⟨⟨⟨⟨h1, h2⟩, h3⟩, h4⟩, h5⟩, _⟩, _⟩ := h
  exact ⟨⟨h1, h2⟩, reg_lo h3, reg_lo h4, reg_lo h5⟩

/-- is it one that the alu does -/
def isAlu (op : Int) : Bool := decide (op ≤ 7) || (decide (14 ≤ op) && decide (op ≤ 16))
/-- the registers behind an instruction of the alu -/
def aR (op d n m imm : Int) (r : Nat → Int) : Nat → Int :=
  if op = 1 then upd r d.toNat (tou64 imm)
  else if op = 2 then upd r d.toNat (add64 (r n.toNat) (r m.toNat))
  else if op = 3 then upd r d.toNat (sub64 (r n.toNat) (r m.toNat))
  else if op = 4 then upd r d.toNat (and64 (r n.toNat) (r m.toNat))
  else if op = 5 then upd r d.toNat (or64 (r n.toNat) (r m.toNat))
  else if op = 6 then upd r d.toNat (xor64 (r n.toNat) (r m.toNat))
  else if op = 7 then upd r d.toNat (add64 (r n.toNat) (tou64 imm))
  else r
/-- the pc behind it -/
def aP (op d imm : Int) (r : Nat → Int) (pc : Int) : Int :=
  if op = 14 then wrap64 (pc + imm)
  else if op = 15 then (if (r d.toNat == 0) = true then wrap64 (pc + imm) else wrap64 (pc + 1))
  else if op = 16 then (if (r d.toNat != 0) = true then wrap64 (pc + imm) else wrap64 (pc + 1))
  else wrap64 (pc + 1)
def doR (op d n m imm : Int) (r : Nat → Int) : Nat → Int := if chk op d n m imm && isAlu op then aR op d n m imm r else r
def doP (op d n m imm : Int) (r : Nat → Int) (pc : Int) : Int := if chk op d n m imm && isAlu op then aP op d imm r pc else pc
def doE (op d n m imm : Int) : Int := if chk op d n m imm then (if isAlu op then 0 else 21) else 60

abbrev DoV (op d n m imm : Int) (r : Nat → Int) (pc : Int) : Value := .tuple #[RV (doR op d n m imm r), .int .i64 (doP op d n m imm r pc), .int .i64 (doE op d n m imm)]
end Go.Proofs.YthfikhfhflinfaaDoor
