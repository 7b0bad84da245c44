/- alu.Reads and tenementref06.Reads: the registers that are read, as a list in memory of the call's own. -/
import Derived.Test.YthfikhfhflinfaaDoorA8
import Derived.WalkSpells
namespace Go.Proofs.YthfikhfhflinfaaDoor
open Go.RowKit

/-- the numbers below k whose bool is true -/
def onL (b : Nat → Bool) (k : Nat) : List Int := ((List.range k).filter b).map (fun j : Nat => (j : Int))
theorem onL_succ (b : Nat → Bool) (k : Nat) : onL b (k + 1) = if b k then onL b k ++ [(k : Int)] else onL b k := by
  unfold onL; rw [List.range_succ, List.filter_append]; cases h : b k <;> simp [h]
theorem onL_le (b : Nat → Bool) (k : Nat) : (onL b k).length ≤ k := by
  unfold onL; rw [List.length_map]; exact Nat.le_trans (List.length_filter_le _ _) (by simp)
def ints (l : List Int) : List Value := l.map (Value.int .i64)

theorem info3 : (Tryd.prog.info? 3).map (fun i => (i.zero, i.size, i.bytes)) = some (some (.int .i64 0), 1, 8) := by kernel_rfl

/-- the relation of the loops that collect -/
def Coll (w : World) (b : Nat → Bool) (k : Nat) (v : Value) (wr : World) : Prop :=
  wr.ownsRow w.heap.size 3 1 v (onL b k).length (ints (onL b k)) ∧ Below w.heap.size w wr
def ListOf (w : World) (l : List Int) (e : Ending) (w' : World) : Prop :=
  ∃ v, e = .returned v ∧ w'.ownsRow w.heap.size 3 1 v l.length (ints l) ∧ Below w.heap.size w w'

theorem idxB0 (b : Nat → Bool) (w : World) : (Instr.index 72 (.agg (BA b)) (.int .i64 0)).run Tryd.prog w = .ok (.bool (b 0)) w := by kernel_rfl
theorem idxB1 (b : Nat → Bool) (w : World) : (Instr.index 72 (.agg (BA b)) (.int .i64 1)).run Tryd.prog w = .ok (.bool (b 1)) w := by kernel_rfl
theorem idxB2 (b : Nat → Bool) (w : World) : (Instr.index 72 (.agg (BA b)) (.int .i64 2)).run Tryd.prog w = .ok (.bool (b 2)) w := by kernel_rfl
theorem idxB3 (b : Nat → Bool) (w : World) : (Instr.index 72 (.agg (BA b)) (.int .i64 3)).run Tryd.prog w = .ok (.bool (b 3)) w := by kernel_rfl
theorem idxB4 (b : Nat → Bool) (w : World) : (Instr.index 72 (.agg (BA b)) (.int .i64 4)).run Tryd.prog w = .ok (.bool (b 4)) w := by kernel_rfl
theorem idxB5 (b : Nat → Bool) (w : World) : (Instr.index 72 (.agg (BA b)) (.int .i64 5)).run Tryd.prog w = .ok (.bool (b 5)) w := by kernel_rfl
theorem idxB6 (b : Nat → Bool) (w : World) : (Instr.index 72 (.agg (BA b)) (.int .i64 6)).run Tryd.prog w = .ok (.bool (b 6)) w := by kernel_rfl
theorem idxB7 (b : Nat → Bool) (w : World) : (Instr.index 72 (.agg (BA b)) (.int .i64 7)).run Tryd.prog w = .ok (.bool (b 7)) w := by kernel_rfl
theorem idxB (b : Nat → Bool) (k : Nat) (hk : k < 8) (w : World) : (Instr.index 72 (.agg (BA b)) (.int .i64 k)).run Tryd.prog w = .ok (.bool (b k)) w := by
  have hc : k = 0 ∨ k = 1 ∨ k = 2 ∨ k = 3 ∨ k = 4 ∨ k = 5 ∨ k = 6 ∨ k = 7 := by omega
  rcases hc with rfl | rfl | rfl | rfl | rfl | rfl | rfl | rfl 
  · exact idxB0 b w
  · exact idxB1 b w
  · exact idxB2 b w
  · exact idxB3 b w
  · exact idxB4 b w
  · exact idxB5 b w
  · exact idxB6 b w
  · exact idxB7 b w

set_option maxRecDepth 20000 in
set_option maxHeartbeats 1000000 in
theorem reads_yes (op d n m imm : Int) (w : World) (hS : Shapes w) (hk : chk op d n m imm = true) :
    Calls Tryd.prog 14 #[IV op d n m imm] w (ListOf w (onL (rdB op d n m) 8)) := by
  have Hk := Lib.hid hk; clear hk
  obtain ⟨b, eb⟩ : ∃ b, b = rdB op d n m := ⟨_, rfl⟩
  have R := fun (w : World) (hS : Shapes w) => read_any op d n m imm w hS Hk.out
  rw [← eb] at R ⊢
  have HR := Lib.hid R
  clear R eb
  go_enter Tryd.func14, Tryd.ntmps14
  go_wp2_with fail
  refine (check_yes _ _ _ _ _ _ (hS.alloc _) Hk.out).mono ?_
  rintro e w1 ⟨rfl, hb1⟩
  have S1 : Shapes w1 := Shapes.below (by exact hS.alloc _) (by simp) hb1
  obtain ⟨hc, hf⟩ := bcell hb1
  have B1 : Below w.heap.size w w1 := Below.trans (by go_grown) (hb1.mono (by simp))
  go_wp2_with fail
  refine (HR.out _ S1).mono ?_
  rintro e w2 ⟨rfl, hb2⟩
  have hz1 := B1.size
  have B2 : Below w.heap.size w w2 := B1.trans (hb2.mono hz1)
  have hz2 := B2.size
  clear hc hf hb1 hb2 hz1 B1 S1
  go_wp2_with fail
  obtain ⟨i0, hi, hz0, hzs, hzb⟩ := info_parts info3
  go_loopw [3, 11] (fun v i wr => ∃ (k : Nat) (u : Value), k ≤ 8 ∧ i = .int .i64 k ∧ u = v ∧ Coll w b k u wr) (fun _ i _ => 8 - (intOf i).toNat)
  case atStart => exact ⟨0, _, by omega, rfl, rfl, World.ownsRow_nil _ _ _ _, B2⟩
  case round =>
    obtain ⟨k, v, hk, rfl, rfl, hown, hB⟩ := hrel
    by_cases hlt : k < 8
    · have hix := idxB b k hlt
      have hl := onL_le b k
      cases hbk : b k with
      | true =>
        have HS := Lib.hid (onL_succ b k)
        have hsz := hB.size
        have HB := Lib.hid hbk
        rw [hbk] at hix
        clear hbk B2 hz2
        go_wp2_with (at_builtin; refine wpList_append_own _ rfl _ _ 37 rfl w.heap.size 3 i0 (.int .i64 0) 1 8 Tryd.underlying37 hi hz0 hzs hzb rfl (by decide) _ _ _ rfl (hown.alloc _) ⟨wr.heap.size, 0, none⟩ 1 1 [.int .i64 (k : Int)] rfl rfl ?c1 ?c2 ?c3 ?c4 ?c5 ?_)
        case c1 => exact cell_one_new _ _ _
        case c2 => simp [Value.oneCell']
        case c3 => unfold maxLen; omega
        case c4 => omega
        case c5 => simp; omega
        intro v' w3 hown3 hgrow _
        have hB3 : Below w.heap.size w w3 := (hB.alloc hsz _).grown hgrow (by simp; omega) (fun g hg => (hown.lt g hg).1)
        have E1 : onL b (k + 1) = onL b k ++ [(k : Int)] := by rw [HS.out, if_pos HB.out]
        have rel : Coll w b (k + 1) v' w3 := ⟨by rw [E1]; simpa [ints] using hown3, hB3⟩
        have HR2 := Lib.hid rel
        clear hown hown3 hgrow hB hB3 E1 rel hsz hl HS HB hix
        go_wp2
        go_roundw
        case rel => exact ⟨k + 1, _, by omega, by go_num, rfl, HR2.out⟩
        case measure => simp [intOf]; omega
      | false =>
        have E1 : onL b (k + 1) = onL b k := by rw [onL_succ, if_neg (by rw [hbk]; decide)]
        have rel : Coll w b (k + 1) v wr := by unfold Coll; rw [E1]; exact ⟨hown, hB⟩
        have HR2 := Lib.hid rel
        rw [hbk] at hix
        clear hown hB E1 rel hl hbk B2 hz2
        go_wp2
        go_roundw
        case rel => exact ⟨k + 1, _, by omega, by go_num, rfl, HR2.out⟩
        case measure => simp [intOf]; omega
    · obtain rfl : k = 8 := by omega
      have HR2 := Lib.hid (show Coll w b 8 v wr from ⟨hown, hB⟩)
      clear hown hB B2 hz2
      go_wp2
      go_ret
      exact ⟨v, rfl, HR2.out⟩
end Go.Proofs.YthfikhfhflinfaaDoor
