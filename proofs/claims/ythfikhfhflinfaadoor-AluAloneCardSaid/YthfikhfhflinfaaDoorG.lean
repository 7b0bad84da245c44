/- The frame that all rows of this seat share: what the listed table gives, how an instruction and eight registers that came in are opened. -/
import Derived.Test.YthfikhfhflinfaaDoorCards
import Derived.Test.YthfikhfhflinfaaDoorTie
import Derived.Test.YthfikhfhflinfaaDoorF
import Derived.Test.YthfikhfhflinfaaDoorA6
import Derived.ProofKit
import Derived.OpenShut
import Derived.LaidMore
import Derived.Lay
import Derived.SevenTiedAt
import Derived.Stop.Joined
namespace Go.Proofs.YthfikhfhflinfaaDoor
open Go.ChangeShapes Go.WideShapes Go.ChangeAt Go.RowKit

theorem own : ownKnob Tryd.prog.godebug = none := by kernel_rfl
theorem laidOutT : laidOutB Tryd.prog = true := by kernel_rfl

abbrev laidL : List (String × DataW Unit) := [("tenement/alu.shapes", Rows.laid_tenement_alu_shapes)]
/-- the table's cells, in order -/
def tabL : List Value := shapesL.flatMap fun s => [.bool s.1, .bool s.2.1, .bool s.2.2.1, .int .i64 s.2.2.2.1, .int .i64 s.2.2.2.2]
theorem tabL_flat : flat (Rows.laid_tenement_alu_shapes : DataW Unit) = tabL := by
  simp only [Rows.laid_tenement_alu_shapes, flat_agg, List.map_cons, List.map_nil, flat]
  rfl
theorem kinds76 : (kindsOf Tryd.prog 8 76).isSome = true := by kernel_rfl

theorem shapes_of {W : World} (h : laidMetH Tryd.prog laidL W) : Shapes W := by
  rw [MakeChecks.laidMetH_plain _ _ _ (by kernel_rfl)] at h
  obtain ⟨ps, ⟨g, t, cs, fuel, p, q, hg, ht, hv, hd, _, _⟩, _, _⟩ := h
  obtain rfl := Option.some.inj ((show Tryd.prog.globalNamed "tenement/alu.shapes" = some 0 by kernel_rfl).symm.trans hg)
  obtain rfl := Option.some.inj ((show (Tryd.prog.globals[0]?).map (·.type) = some 76 by kernel_rfl).symm.trans ht)
  obtain ⟨ks, hks⟩ := Option.isSome_iff_exists.1 kinds76
  obtain ⟨_, hf, _⟩ := plain_cells 8 hks hd
  rw [tabL_flat] at hf
  have hcell : ∀ r, W.cell? ⟨0, r, none⟩ = tabL[r]? := fun r => by
    rw [World.var?_cell hg hv r, hf]; simp
  have hz : 0 < W.heap.size := by
    have h0 := hcell 0
    by_cases hlt : 0 < W.heap.size
    · exact hlt
    · have hn : W.heap[0]? = none := Array.getElem?_eq_none (by omega)
      simp [World.cell?, hn, tabL, shapesL] at h0
  refine ⟨hz, ?_, ?_, ?_, ?_, ?_⟩
  all_goals
    intro op a b
    rw [hcell]
    rcases op_cases ⟨a, b⟩ with rfl | rfl | rfl | rfl | rfl | rfl | rfl | rfl | rfl | rfl | rfl | rfl | rfl | rfl | rfl | rfl | rfl | rfl | rfl <;> rfl

theorem okWide_array {P : Program} {w : World} {r : Reach} {base : Nat} {t : TypeId} {v : Value} {n : Nat} {e : TypeId} (ht : P.underlying t = some (.array n e)) (h : Value.okWide P w r base t v) : ∃ cs, v = .agg cs ∧ cs.size = P.cellsOf t := by
  simp only [Value.okWide, ht] at h
  obtain ⟨cs, h1, h2, _⟩ := h
  exact ⟨cs, h1, h2⟩

theorem kinds24 : kindsOf Tryd.prog 8 24 = some [some .i8, some .i8, some .i8, some .i8, some .i64] := by kernel_rfl
theorem kinds26 : kindsOf Tryd.prog 8 26 = some [some .u64, some .u64, some .u64, some .u64, some .u64, some .u64, some .u64, some .u64] := by kernel_rfl

section
variable {H : Type} {enc : TypeId × Value → H} {w : World} {base : Nat} {spare : Nat → Bool} {held : Bool}
set_option maxRecDepth 20000 in
theorem open_instr {b0 : Nat} {v : Value} {d : DataW H} {p : List MemPlace} (hv : Value.okWide Tryd.prog w .any b0 24 v) (h : DataW.Trod enc Tryd.prog w base spare held 24 v d p) :
    ∃ op di n m imm : Int, v = IV op di n m imm := by
  obtain ⟨cs, rfl, _⟩ := okWide_struct Tryd.underlying24 hv
  obtain ⟨fuel, hf⟩ := h
  obtain ⟨hg, _, _⟩ := plain_cells 8 kinds24 hf
  obtain ⟨l⟩ := cs
  simp only [Value.cells] at hg
  obtain ⟨a0, l, rfl, _, hg⟩ := hg.int
  obtain ⟨a1, l, rfl, _, hg⟩ := hg.int
  obtain ⟨a2, l, rfl, _, hg⟩ := hg.int
  obtain ⟨a3, l, rfl, _, hg⟩ := hg.int
  obtain ⟨a4, l, rfl, _, hg⟩ := hg.int
  obtain rfl := hg.nil
  exact ⟨a0, a1, a2, a3, a4, rfl⟩
set_option maxRecDepth 20000 in
theorem open_regs {b0 : Nat} {v : Value} {d : DataW H} {p : List MemPlace} (hv : Value.okWide Tryd.prog w .any b0 26 v) (h : DataW.Trod enc Tryd.prog w base spare held 26 v d p) :
    ∃ r : Nat → Int, v = RV r ∧ ∀ k, 0 ≤ r k ∧ r k ≤ 18446744073709551615 := by
  obtain ⟨cs, rfl, _⟩ := okWide_array Tryd.underlying26 hv
  obtain ⟨fuel, hf⟩ := h
  obtain ⟨hg, _, _⟩ := plain_cells 8 kinds26 hf
  obtain ⟨l⟩ := cs
  simp only [Value.cells] at hg
  obtain ⟨a0, l, rfl, w0, hg⟩ := hg.int
  obtain ⟨a1, l, rfl, w1, hg⟩ := hg.int
  obtain ⟨a2, l, rfl, w2, hg⟩ := hg.int
  obtain ⟨a3, l, rfl, w3, hg⟩ := hg.int
  obtain ⟨a4, l, rfl, w4, hg⟩ := hg.int
  obtain ⟨a5, l, rfl, w5, hg⟩ := hg.int
  obtain ⟨a6, l, rfl, w6, hg⟩ := hg.int
  obtain ⟨a7, l, rfl, w7, hg⟩ := hg.int
  obtain rfl := hg.nil
  refine ⟨fun k => match k with | 0 => a0 | 1 => a1 | 2 => a2 | 3 => a3 | 4 => a4 | 5 => a5 | 6 => a6 | 7 => a7 | _ => 0, rfl, fun k => ?_⟩
  have b0 := bounds_u64 w0
  have b1 := bounds_u64 w1
  have b2 := bounds_u64 w2
  have b3 := bounds_u64 w3
  have b4 := bounds_u64 w4
  have b5 := bounds_u64 w5
  have b6 := bounds_u64 w6
  have b7 := bounds_u64 w7
  dsimp only
  split <;> first | assumption | omega
end
end Go.Proofs.YthfikhfhflinfaaDoor
