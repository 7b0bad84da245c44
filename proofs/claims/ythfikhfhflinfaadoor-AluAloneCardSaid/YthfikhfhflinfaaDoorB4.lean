/- tenementref01.Ints over two lists of the call's own; AluTells' walk. -/
import Derived.Test.YthfikhfhflinfaaDoorA10
import Derived.Test.YthfikhfhflinfaaDoorB1
namespace Go.Proofs.YthfikhfhflinfaaDoor
open Go.RowKit

/-- a slice value that reads as these numbers -/
def Reads (w : World) (v : Value) (l : List Int) : Prop := (v = .slice none 0 0 ∧ l = []) ∨ ∃ g cap, v = .slice (some ⟨g, 0, none⟩) l.length cap ∧ g < w.heap.size ∧ ∀ j, j < l.length → w.cell? ⟨g, j, none⟩ = some (.int .i64 (l.getD j 0))
theorem Reads.of {w : World} {base : Nat} {v : Value} {l : List Int} (h : w.ownsRow base 3 1 v l.length (ints l)) : Reads w v l := by
  rcases h.2 with ⟨rfl, h0⟩ | ⟨g, cap, cur, rfl, hg, hh, _, _, _, ht⟩
  · exact .inl ⟨rfl, List.length_eq_zero_iff.1 h0⟩
  · refine .inr ⟨g, cap, rfl, ?_, fun j hj => ?_⟩
    · by_cases hlt : g < w.heap.size
      · exact hlt
      · rw [Array.getElem?_eq_none (by omega)] at hh; cases hh
    · have : w.cell? ⟨g, j, none⟩ = cur[j]? := by simp [World.cell?, hh]
      rw [this]
      have h2 : (cur.toList.take (l.length * 1))[j]? = (ints l)[j]? := by rw [ht]
      rw [List.getElem?_take_of_lt (by omega)] at h2
      rw [← Array.getElem?_toList, h2]
      simp [ints, List.getElem?_eq_getElem hj]
theorem Reads.keep {w w' : World} {B : Nat} {v : Value} {l : List Int} (h : Reads w v l) (hb : Below B w w') (hB : w.heap.size ≤ B) : Reads w' v l := by
  rcases h with h | ⟨g, cap, h1, h2, h3⟩
  · exact .inl h
  · exact .inr ⟨g, cap, h1, Nat.lt_of_lt_of_le h2 hb.size, fun j hj => by rw [hb.cell (p := ⟨g, j, none⟩) (by show g < B; omega)]; exact h3 j hj⟩
theorem Reads.drewN {w : World} {v : Value} {l : List Int} (h : Reads w v l) (n : Nat) : Reads (w.drewN n) v l := h.keep (below_drewN (Below.refl w.heap.size w) n) (Nat.le_refl _)

set_option maxRecDepth 20000 in
set_option maxHeartbeats 1000000 in
theorem ints_same (a b : Value) (l : List Int) (w : World) (ha : Reads w a l) (hb : Reads w b l) (hl : l.length ≤ 8) :
    Calls Tryd.prog 20 #[a, b] w fun e w' => e = .returned (.bool true) ∧ ∃ n, w' = w.drewN n := by
  rcases ha with ⟨rfl, rfl⟩ | ⟨g, cap, rfl, hg, hc⟩
  · rcases hb with ⟨rfl, _⟩ | ⟨g, cap, rfl, hg, hc⟩
    · go_enter Tryd.func20, Tryd.ntmps20
      go_wp2_with fail
      refine wp_loop_rounds 1 ?_
      rw [rounds_succ]
      go_wp2_with fail
      go_ret
      exact ⟨rfl, 0, rfl⟩
    · go_enter Tryd.func20, Tryd.ntmps20
      go_wp2_with fail
      refine wp_loop_rounds 1 ?_
      rw [rounds_succ]
      go_wp2_with fail
      go_ret
      exact ⟨rfl, 0, rfl⟩
  · rcases hb with ⟨rfl, rfl⟩ | ⟨g2, cap2, rfl, hg2, hc2⟩
    · go_enter Tryd.func20, Tryd.ntmps20
      go_wp2_with fail
      refine wp_loop_rounds 1 ?_
      rw [rounds_succ]
      go_wp2_with fail
      go_ret
      exact ⟨rfl, 0, rfl⟩
    · obtain ⟨n, hn⟩ : ∃ n, n = l.length := ⟨_, rfl⟩
      rw [← hn] at hl hc hc2 ⊢
      clear hn
      have HC := Lib.hid hc
      have HC2 := Lib.hid hc2
      clear hc hc2
      go_enter Tryd.func20, Tryd.ntmps20
      go_wp2_with fail
      go_loopw [5] (fun i wr => ∃ k m : Nat, k ≤ n ∧ i = .int .i64 k ∧ wr = w.drewN m) (fun i _ => n - (intOf i).toNat)
      case atStart => exact ⟨0, 0, by omega, rfl, rfl⟩
      case round =>
        obtain ⟨k, m, hk, rfl, rfl⟩ := hrel
        by_cases hlt : k < n
        · have f1 := HC.out k hlt
          have f2 := HC2.out k hlt
          have hi0 : (0 : Int) ≤ (k : Int) := by omega
          have hi1 : (k : Int) < (n : Int) := by omega
          go_wp2_with fail
          go_quiet (fail)
          go_wp2_with fail
          exact ⟨⟨k + 1, _, by omega, by go_num, rfl⟩, by simp [intOf]; omega⟩
        · go_wp2_with fail
          go_ret
          exact ⟨rfl, m, rfl⟩

theorem ints_any (a b : Value) (l : List Int) (w : World) (ha : Reads w a l) (hb : Reads w b l) (hl : l.length ≤ 8) :
    Calls Tryd.prog 20 #[a, b] w fun e w' => e = .returned (.bool true) ∧ Below w.heap.size w w' :=
  (ints_same a b l w ha hb hl).mono fun e w' ⟨he, n, hn⟩ => ⟨he, by rw [hn]; exact below_drewN (Below.refl _ _) n⟩
theorem rdL_le (op d n m imm : Int) : (rdL op d n m imm).length ≤ 8 := by
  unfold rdL; split
  · exact onL_le _ _
  · simp
theorem reads_rd (op d n m imm : Int) (w : World) (hS : Shapes w) : Calls Tryd.prog 14 #[IV op d n m imm] w fun e w' => ∃ v, e = .returned v ∧ Reads w' v (rdL op d n m imm) ∧ Below w.heap.size w w' :=
  (reads_any op d n m imm w hS).mono fun _ _ ⟨v, he, ho, hb⟩ => ⟨v, he, Reads.of ho, hb⟩
theorem rreads_rd (op d n m imm : Int) (w : World) : Calls Tryd.prog 21 #[IV op d n m imm] w fun e w' => ∃ v, e = .returned v ∧ Reads w' v (rdL op d n m imm) ∧ Below w.heap.size w w' :=
  (rreads_any op d n m imm w).mono fun _ _ ⟨v, he, ho, hb⟩ => ⟨v, he, Reads.of ho, hb⟩

set_option maxRecDepth 20000 in
set_option maxHeartbeats 1000000 in
theorem tells_any (op d n m imm : Int) (w : World) (hS : Shapes w) :
    Calls Tryd.prog 6 #[IV op d n m imm] w fun e w' => e = .returned (.bool true) ∧ Below w.heap.size w w' := by
  go_enter Tryd.func6, Tryd.ntmps6
  go_wp2_with fail
  refine (writes_any _ _ _ _ _ _ (hS.alloc _)).mono ?_
  rintro e w1 ⟨rfl, hb1⟩
  have S1 : Shapes w1 := Shapes.below (by exact hS.alloc _) (by simp) hb1
  obtain ⟨hc1, hf1⟩ := bcell hb1
  have B1 : Below w.heap.size w w1 := Below.trans (by go_grown) (hb1.mono (by simp))
  have hz1 : w.heap.size < w1.heap.size := by have := hb1.size; simp at this; omega
  go_wp2_with fail
  refine (rwrites_any _ _ _ _ _ _).mono ?_
  rintro e w2 ⟨rfl, hb2⟩
  have SH : Shapes w2.drew := (Shapes.below S1 S1.size hb2).drew
  have B2 : Below w.heap.size w w2.drew := (B1.trans (hb2.mono (by omega))).drew
  have I2 : ∀ o, w2.cell? ⟨w.heap.size, o, none⟩ = #[.int .i8 op, .int .i8 d, .int .i8 n, .int .i8 m, .int .i64 imm][o]? := fun o => by
    rw [hb2.cell (p := ⟨w.heap.size, o, none⟩) hz1]; go_simp
  have hz2 : w.heap.size < w2.drew.heap.size := by have := hb2.size; simp; omega
  clear hc1 hf1 hb1 hb2 S1 B1 hz1
  go_wp2_with fail
  go_region_held3 (fun w' => w'.cell? ⟨w.heap.size, 0, none⟩ = some (.int .i8 op) ∧ w'.cell? ⟨w.heap.size, 1, none⟩ = some (.int .i8 d) ∧ w'.cell? ⟨w.heap.size, 2, none⟩ = some (.int .i8 n) ∧ w'.cell? ⟨w.heap.size, 3, none⟩ = some (.int .i8 m) ∧ w'.cell? ⟨w.heap.size, 4, none⟩ = some (.int .i64 imm))
    (first | (go_split_ands; refine ⟨?_, ?_, ?_, ?_, ?_⟩ <;> refine (hb.cell ?_).trans ?_ <;> assumption) | go_simp)
    (first
      | (go_at_call 16; refine (check_any _ _ _ _ _ _ SH).mono ?_; rintro e wn ⟨rfl, hb⟩; have B2 := B2.trans (hb.mono B2.size); have hz2 := Nat.lt_of_lt_of_le hz2 hb.size; have SH := Shapes.below SH SH.size hb)
      | (go_at_call 17; refine (check_ref _ _ _ _ _ _).mono ?_; rintro e wn ⟨rfl, hb⟩; have B2 := B2.trans (hb.mono B2.size); have hz2 := Nat.lt_of_lt_of_le hz2 hb.size; have SH := Shapes.below SH SH.size hb)
      | (go_at_call 18; refine (memory_any _ _ _ _ _ _ SH).mono ?_; rintro e wn ⟨rfl, hb⟩; have B2 := B2.trans (hb.mono B2.size); have hz2 := Nat.lt_of_lt_of_le hz2 hb.size; have SH := Shapes.below SH SH.size hb)
      | (go_at_call 19; refine (rmemory_any _ _ _ _ _ _).mono ?_; rintro e wn ⟨rfl, hb⟩; have B2 := B2.trans (hb.mono B2.size); have hz2 := Nat.lt_of_lt_of_le hz2 hb.size; have SH := Shapes.below SH SH.size hb)
      | (go_at_call 14; refine (reads_rd _ _ _ _ _ _ SH).mono ?_; rintro e wn ⟨ra, rfl, hra, hb⟩; have B2 := B2.trans (hb.mono B2.size); have hz2 := Nat.lt_of_lt_of_le hz2 hb.size; have SH := Shapes.below SH SH.size hb)
      | (go_at_call 21; refine (rreads_rd _ _ _ _ _ _).mono ?_; rintro e wn ⟨rb, rfl, hrb, hb⟩; have hra := hra.keep hb (Nat.le_refl _); have B2 := B2.trans (hb.mono B2.size); have hz2 := Nat.lt_of_lt_of_le hz2 hb.size; have SH := Shapes.below SH SH.size hb)
      | (go_at_call 20; refine (ints_any _ _ _ _ hra hrb (rdL_le _ _ _ _ _)).mono ?_; rintro e wn ⟨rfl, hb⟩; have B2 := B2.trans (hb.mono B2.size); have hz2 := Nat.lt_of_lt_of_le hz2 hb.size; have SH := Shapes.below SH SH.size hb)
      | (go_at_call 10; refine (wakes_any _ SH).mono ?_; rintro e wn ⟨rfl, hb⟩; have B2 := B2.trans (hb.mono B2.size); have hz2 := Nat.lt_of_lt_of_le hz2 hb.size; have SH := Shapes.below SH SH.size hb))
  go_wp2_with fail
  go_ret
  exact ⟨rfl, B2⟩
end Go.Proofs.YthfikhfhflinfaaDoor
