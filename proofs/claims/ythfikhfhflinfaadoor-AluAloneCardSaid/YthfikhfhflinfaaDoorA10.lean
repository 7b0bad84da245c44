/- tenementref06.Reads: an operation a theorem; both Reads by one contract; and what Reads answers where the instruction may not be. -/
import Derived.Test.YthfikhfhflinfaaDoorA9
namespace Go.Proofs.YthfikhfhflinfaaDoor
open Go.RowKit

theorem ownsRow_le {w : World} {base base' : Nat} {e : TypeId} {size : Nat} {v : Value} {n : Nat} {xs : List Value} (h : w.ownsRow base e size v n xs) (hb : base' ≤ base) : w.ownsRow base' e size v n xs := by
  obtain ⟨h1, h2⟩ := h
  refine ⟨h1, ?_⟩
  rcases h2 with h2 | ⟨g, cap, cur, hv, hg, r⟩
  · exact .inl h2
  · exact .inr ⟨g, cap, cur, hv, by omega, r⟩

def CollB (base : Nat) (w : World) (b : Nat → Bool) (k : Nat) (v : Value) (wr : World) : Prop :=
  wr.ownsRow (base + 1) 3 1 v (onL b k).length (ints (onL b k)) ∧ Below w.heap.size w wr ∧ base < wr.heap.size ∧ ∀ j, j < 8 → wr.cell? ⟨base, j, none⟩ = some (.bool (b j))

theorem CollB.start {w w1 : World} {b : Nat → Bool} (h : Below w.heap.size w w1) : CollB w1.heap.size w b 0 (.slice none 0 0) (w1.alloc (.cells (BA b) 72)) :=
  ⟨World.ownsRow_nil _ _ _ _, h.alloc h.size _, by simp, fun j hj => by rw [World.cell?_alloc_new]; exact BA_get b j hj⟩
theorem CollB.keep {base : Nat} {w wr : World} {b : Nat → Bool} {k : Nat} {v : Value} (h : CollB base w b k v wr) (hb : b k = false) : CollB base w b (k + 1) v wr := by
  have E : onL b (k + 1) = onL b k := by rw [onL_succ, if_neg (by rw [hb]; decide)]
  unfold CollB; rw [E]; exact h
theorem CollB.put {base : Nat} {w wr w3 : World} {b : Nat → Bool} {k : Nat} {v v' : Value} (h : CollB base w b k v wr) (hw : w.heap.size ≤ base) (hb : b k = true)
    (ho : w3.ownsRow (base + 1) 3 1 v' ((onL b k).length + 1) (ints (onL b k) ++ [.int .i64 (k : Int)])) (hg : (wr.alloc (.cells #[.int .i64 (k : Int)] 3)).grownBy w3 v.ownBlock) : CollB base w b (k + 1) v' w3 := by
  obtain ⟨h1, h2, h3, h4⟩ := h
  have E : onL b (k + 1) = onL b k ++ [(k : Int)] := by rw [onL_succ, if_pos hb]
  refine ⟨by rw [E]; simpa [ints] using ho, (h2.alloc h2.size _).grown hg (by have := h2.size; simp; omega) (fun g hg' => by have := (h1.lt g hg').1; omega), ?_, fun j hj => ?_⟩
  · have := hg.size; simp at this; omega
  · refine World.grownBy.cell hg (a := ⟨base, j, none⟩) ?_ (fun e => ?_)
    · rw [World.cell?_alloc_lt _ _ _ h3]; exact h4 j hj
    · have := (h1.lt base e.symm).1; omega
theorem CollB.done {base : Nat} {w wr : World} {b : Nat → Bool} {v : Value} (h : CollB base w b 8 v wr) (hw : w.heap.size ≤ base) : ListOf w (onL b 8) (.returned v) wr :=
  ⟨v, rfl, ownsRow_le h.1 (by omega), h.2.1⟩

set_option maxRecDepth 20000 in
set_option maxHeartbeats 400000 in
theorem reads_no (op d n m imm : Int) (w : World) (hS : Shapes w) (hk : chk op d n m imm = false) :
    Calls Tryd.prog 14 #[IV op d n m imm] w (ListOf w []) := by
  have Hk := Lib.hid hk; clear hk
  go_enter Tryd.func14, Tryd.ntmps14
  go_wp2_with fail
  refine (check_no _ _ _ _ _ _ (hS.alloc _) Hk.out).mono ?_
  rintro e w1 ⟨rfl, hb1⟩
  have B1 : Below w.heap.size w w1 := Below.trans (by go_grown) (hb1.mono (by simp))
  go_wp2_with fail
  go_ret
  exact ⟨_, rfl, World.ownsRow_nil _ _ _ _, B1⟩
set_option maxRecDepth 20000 in
set_option maxHeartbeats 400000 in
theorem rreads_no (op d n m imm : Int) (w : World) (hk : chk op d n m imm = false) :
    Calls Tryd.prog 21 #[IV op d n m imm] w (ListOf w []) := by
  have Hk := Lib.hid hk; clear hk
  go_enter Tryd.func21, Tryd.ntmps21
  go_wp2_with fail
  refine (ref_no _ _ _ _ _ _ Hk.out).mono ?_
  rintro e w1 ⟨rfl, hb1⟩
  have B1 : Below w.heap.size w w1 := Below.trans (by go_grown) (hb1.mono (by simp))
  go_wp2_with fail
  go_ret
  exact ⟨_, rfl, World.ownsRow_nil _ _ _ _, B1⟩

set_option maxRecDepth 20000 in
set_option maxHeartbeats 1000000 in
theorem rreads_0 (d n m imm : Int) (w : World) (hk : chk 0 d n m imm = true) :
    Calls Tryd.prog 21 #[IV 0 d n m imm] w (ListOf w (onL (zB) 8)) := by
  have Hk := Lib.hid hk; clear hk
  go_enter Tryd.func21, Tryd.ntmps21
  go_wp2_with fail
  refine (ref_yes _ _ _ _ _ _ Hk.out).mono ?_
  rintro e w1 ⟨rfl, hb1⟩
  obtain ⟨hc, hf⟩ := bcell hb1
  have hz0 : w.heap.size < w1.heap.size := by have := hb1.size; simp at this; omega
  have hz1 : w.heap.size < w1.heap.size + 1 := by omega
  have B1 : Below w.heap.size w w1 := Below.trans (by go_grown) (hb1.mono (by simp))
  go_wp2_with fail
  obtain ⟨b, eb⟩ : ∃ b : Nat → Bool, b = zB := ⟨_, rfl⟩
  have HB := Lib.hid (show CollB w1.heap.size w b 0 (.slice none 0 0) (w1.alloc (.cells (BA (zB)) 72)) by rw [← eb]; exact CollB.start B1)
  have HG := Lib.hid (show onL (zB) 8 = onL b 8 by rw [eb])
  clear eb hc hf hb1 B1 
  obtain ⟨i0, hi, hy0, hys, hyb⟩ := info_parts info3
  go_loopw [5, 6] (fun v i wr => ∃ (k : Nat) (u : Value), k ≤ 8 ∧ i = .int .i64 k ∧ u = v ∧ CollB w1.heap.size w b k u wr) (fun _ i _ => 8 - (intOf i).toNat)
  case atStart => exact ⟨0, _, by omega, rfl, rfl, HB.out⟩
  case round =>
    obtain ⟨k, v, hk, rfl, rfl, hrel⟩ := hrel
    have HC := Lib.hid hrel
    obtain ⟨hown, hBl, hsz, hcell⟩ := hrel
    have hb8 := HC
    clear hBl HB
    by_cases hlt : k < 8
    · have hl := onL_le b k
      have hck := hcell k hlt
      clear hcell
      cases hbk : b k with
      | true =>
        have HK := Lib.hid hbk
        rw [hbk] at hck
        clear hbk
        have hsz2 := Nat.lt_succ_of_lt hsz
        go_wp2_with (at_builtin; refine wpList_append_own _ rfl _ _ 37 rfl (w1.heap.size + 1) 3 i0 (.int .i64 0) 1 8 Tryd.underlying37 hi hy0 hys hyb rfl (by decide) _ _ _ rfl (hown.alloc _) ⟨wr.heap.size, 0, none⟩ 1 1 [.int .i64 (k : Int)] rfl rfl ?c1 ?c2 ?c3 ?c4 ?c5 ?_)
        case c1 => exact cell_one_new _ _ _
        case c2 => simp [Value.oneCell']
        case c3 => unfold maxLen; omega
        case c4 => omega
        case c5 => simp; omega
        intro v' w3 hown3 hgrow _
        have HR2 := Lib.hid (HC.out.put (by omega) HK.out hown3 hgrow)
        clear hown hown3 hgrow hsz hsz2 hl HK HC hb8 hck
        go_wp2
        go_roundw
        case rel => exact ⟨k + 1, _, by omega, by go_num, rfl, HR2.out⟩
        case measure => simp [intOf]; omega
      | false =>
        rw [hbk] at hck
        have HR2 := Lib.hid (HC.out.keep hbk)
        clear hown hsz hl hbk HC hb8
        go_wp2
        go_roundw
        case rel => exact ⟨k + 1, _, by omega, by go_num, rfl, HR2.out⟩
        case measure => simp [intOf]; omega
    · obtain rfl : k = 8 := by omega
      clear hown hsz hcell hb8
      go_wp2
      go_ret
      rw [HG.out]
      exact HC.out.done (by omega)

set_option maxRecDepth 20000 in
set_option maxHeartbeats 1000000 in
theorem rreads_1 (d n m imm : Int) (w : World) (hk : chk 1 d n m imm = true) :
    Calls Tryd.prog 21 #[IV 1 d n m imm] w (ListOf w (onL (zB) 8)) := by
  have Hk := Lib.hid hk; clear hk
  go_enter Tryd.func21, Tryd.ntmps21
  go_wp2_with fail
  refine (ref_yes _ _ _ _ _ _ Hk.out).mono ?_
  rintro e w1 ⟨rfl, hb1⟩
  obtain ⟨hc, hf⟩ := bcell hb1
  have hz0 : w.heap.size < w1.heap.size := by have := hb1.size; simp at this; omega
  have hz1 : w.heap.size < w1.heap.size + 1 := by omega
  have B1 : Below w.heap.size w w1 := Below.trans (by go_grown) (hb1.mono (by simp))
  go_wp2_with fail
  obtain ⟨b, eb⟩ : ∃ b : Nat → Bool, b = zB := ⟨_, rfl⟩
  have HB := Lib.hid (show CollB w1.heap.size w b 0 (.slice none 0 0) (w1.alloc (.cells (BA (zB)) 72)) by rw [← eb]; exact CollB.start B1)
  have HG := Lib.hid (show onL (zB) 8 = onL b 8 by rw [eb])
  clear eb hc hf hb1 B1 
  obtain ⟨i0, hi, hy0, hys, hyb⟩ := info_parts info3
  go_loopw [5, 6] (fun v i wr => ∃ (k : Nat) (u : Value), k ≤ 8 ∧ i = .int .i64 k ∧ u = v ∧ CollB w1.heap.size w b k u wr) (fun _ i _ => 8 - (intOf i).toNat)
  case atStart => exact ⟨0, _, by omega, rfl, rfl, HB.out⟩
  case round =>
    obtain ⟨k, v, hk, rfl, rfl, hrel⟩ := hrel
    have HC := Lib.hid hrel
    obtain ⟨hown, hBl, hsz, hcell⟩ := hrel
    have hb8 := HC
    clear hBl HB
    by_cases hlt : k < 8
    · have hl := onL_le b k
      have hck := hcell k hlt
      clear hcell
      cases hbk : b k with
      | true =>
        have HK := Lib.hid hbk
        rw [hbk] at hck
        clear hbk
        have hsz2 := Nat.lt_succ_of_lt hsz
        go_wp2_with (at_builtin; refine wpList_append_own _ rfl _ _ 37 rfl (w1.heap.size + 1) 3 i0 (.int .i64 0) 1 8 Tryd.underlying37 hi hy0 hys hyb rfl (by decide) _ _ _ rfl (hown.alloc _) ⟨wr.heap.size, 0, none⟩ 1 1 [.int .i64 (k : Int)] rfl rfl ?c1 ?c2 ?c3 ?c4 ?c5 ?_)
        case c1 => exact cell_one_new _ _ _
        case c2 => simp [Value.oneCell']
        case c3 => unfold maxLen; omega
        case c4 => omega
        case c5 => simp; omega
        intro v' w3 hown3 hgrow _
        have HR2 := Lib.hid (HC.out.put (by omega) HK.out hown3 hgrow)
        clear hown hown3 hgrow hsz hsz2 hl HK HC hb8 hck
        go_wp2
        go_roundw
        case rel => exact ⟨k + 1, _, by omega, by go_num, rfl, HR2.out⟩
        case measure => simp [intOf]; omega
      | false =>
        rw [hbk] at hck
        have HR2 := Lib.hid (HC.out.keep hbk)
        clear hown hsz hl hbk HC hb8
        go_wp2
        go_roundw
        case rel => exact ⟨k + 1, _, by omega, by go_num, rfl, HR2.out⟩
        case measure => simp [intOf]; omega
    · obtain rfl : k = 8 := by omega
      clear hown hsz hcell hb8
      go_wp2
      go_ret
      rw [HG.out]
      exact HC.out.done (by omega)

set_option maxRecDepth 20000 in
set_option maxHeartbeats 1000000 in
theorem rreads_2 (d n m imm : Int) (w : World) (hk : chk 2 d n m imm = true) (h2 : 0 ≤ n) (h3 : n < 8) (h4 : 0 ≤ m) (h5 : m < 8) :
    Calls Tryd.prog 21 #[IV 2 d n m imm] w (ListOf w (onL (updB (updB zB n.toNat) m.toNat) 8)) := by
  have Hk := Lib.hid hk; clear hk
  have s0 := BA_set0 n.toNat (by omega)
  have s1 := BA_set (updB zB n.toNat) m.toNat (by omega)
  go_enter Tryd.func21, Tryd.ntmps21
  go_wp2_with fail
  refine (ref_yes _ _ _ _ _ _ Hk.out).mono ?_
  rintro e w1 ⟨rfl, hb1⟩
  obtain ⟨hc, hf⟩ := bcell hb1
  have hz0 : w.heap.size < w1.heap.size := by have := hb1.size; simp at this; omega
  have hz1 : w.heap.size < w1.heap.size + 1 := by omega
  have B1 : Below w.heap.size w w1 := Below.trans (by go_grown) (hb1.mono (by simp))
  go_wp2_with fail
  obtain ⟨b, eb⟩ : ∃ b : Nat → Bool, b = updB (updB zB n.toNat) m.toNat := ⟨_, rfl⟩
  have HB := Lib.hid (show CollB w1.heap.size w b 0 (.slice none 0 0) (w1.alloc (.cells (BA (updB (updB zB n.toNat) m.toNat)) 72)) by rw [← eb]; exact CollB.start B1)
  have HG := Lib.hid (show onL (updB (updB zB n.toNat) m.toNat) 8 = onL b 8 by rw [eb])
  clear eb hc hf hb1 B1 s0 s1
  obtain ⟨i0, hi, hy0, hys, hyb⟩ := info_parts info3
  go_loopw [5, 6] (fun v i wr => ∃ (k : Nat) (u : Value), k ≤ 8 ∧ i = .int .i64 k ∧ u = v ∧ CollB w1.heap.size w b k u wr) (fun _ i _ => 8 - (intOf i).toNat)
  case atStart => exact ⟨0, _, by omega, rfl, rfl, HB.out⟩
  case round =>
    obtain ⟨k, v, hk, rfl, rfl, hrel⟩ := hrel
    have HC := Lib.hid hrel
    obtain ⟨hown, hBl, hsz, hcell⟩ := hrel
    have hb8 := HC
    clear hBl HB
    by_cases hlt : k < 8
    · have hl := onL_le b k
      have hck := hcell k hlt
      clear hcell
      cases hbk : b k with
      | true =>
        have HK := Lib.hid hbk
        rw [hbk] at hck
        clear hbk
        have hsz2 := Nat.lt_succ_of_lt hsz
        go_wp2_with (at_builtin; refine wpList_append_own _ rfl _ _ 37 rfl (w1.heap.size + 1) 3 i0 (.int .i64 0) 1 8 Tryd.underlying37 hi hy0 hys hyb rfl (by decide) _ _ _ rfl (hown.alloc _) ⟨wr.heap.size, 0, none⟩ 1 1 [.int .i64 (k : Int)] rfl rfl ?c1 ?c2 ?c3 ?c4 ?c5 ?_)
        case c1 => exact cell_one_new _ _ _
        case c2 => simp [Value.oneCell']
        case c3 => unfold maxLen; omega
        case c4 => omega
        case c5 => simp; omega
        intro v' w3 hown3 hgrow _
        have HR2 := Lib.hid (HC.out.put (by omega) HK.out hown3 hgrow)
        clear hown hown3 hgrow hsz hsz2 hl HK HC hb8 hck
        go_wp2
        go_roundw
        case rel => exact ⟨k + 1, _, by omega, by go_num, rfl, HR2.out⟩
        case measure => simp [intOf]; omega
      | false =>
        rw [hbk] at hck
        have HR2 := Lib.hid (HC.out.keep hbk)
        clear hown hsz hl hbk HC hb8
        go_wp2
        go_roundw
        case rel => exact ⟨k + 1, _, by omega, by go_num, rfl, HR2.out⟩
        case measure => simp [intOf]; omega
    · obtain rfl : k = 8 := by omega
      clear hown hsz hcell hb8
      go_wp2
      go_ret
      rw [HG.out]
      exact HC.out.done (by omega)

set_option maxRecDepth 20000 in
set_option maxHeartbeats 1000000 in
theorem rreads_3 (d n m imm : Int) (w : World) (hk : chk 3 d n m imm = true) (h2 : 0 ≤ n) (h3 : n < 8) (h4 : 0 ≤ m) (h5 : m < 8) :
    Calls Tryd.prog 21 #[IV 3 d n m imm] w (ListOf w (onL (updB (updB zB n.toNat) m.toNat) 8)) := by
  have Hk := Lib.hid hk; clear hk
  have s0 := BA_set0 n.toNat (by omega)
  have s1 := BA_set (updB zB n.toNat) m.toNat (by omega)
  go_enter Tryd.func21, Tryd.ntmps21
  go_wp2_with fail
  refine (ref_yes _ _ _ _ _ _ Hk.out).mono ?_
  rintro e w1 ⟨rfl, hb1⟩
  obtain ⟨hc, hf⟩ := bcell hb1
  have hz0 : w.heap.size < w1.heap.size := by have := hb1.size; simp at this; omega
  have hz1 : w.heap.size < w1.heap.size + 1 := by omega
  have B1 : Below w.heap.size w w1 := Below.trans (by go_grown) (hb1.mono (by simp))
  go_wp2_with fail
  obtain ⟨b, eb⟩ : ∃ b : Nat → Bool, b = updB (updB zB n.toNat) m.toNat := ⟨_, rfl⟩
  have HB := Lib.hid (show CollB w1.heap.size w b 0 (.slice none 0 0) (w1.alloc (.cells (BA (updB (updB zB n.toNat) m.toNat)) 72)) by rw [← eb]; exact CollB.start B1)
  have HG := Lib.hid (show onL (updB (updB zB n.toNat) m.toNat) 8 = onL b 8 by rw [eb])
  clear eb hc hf hb1 B1 s0 s1
  obtain ⟨i0, hi, hy0, hys, hyb⟩ := info_parts info3
  go_loopw [5, 6] (fun v i wr => ∃ (k : Nat) (u : Value), k ≤ 8 ∧ i = .int .i64 k ∧ u = v ∧ CollB w1.heap.size w b k u wr) (fun _ i _ => 8 - (intOf i).toNat)
  case atStart => exact ⟨0, _, by omega, rfl, rfl, HB.out⟩
  case round =>
    obtain ⟨k, v, hk, rfl, rfl, hrel⟩ := hrel
    have HC := Lib.hid hrel
    obtain ⟨hown, hBl, hsz, hcell⟩ := hrel
    have hb8 := HC
    clear hBl HB
    by_cases hlt : k < 8
    · have hl := onL_le b k
      have hck := hcell k hlt
      clear hcell
      cases hbk : b k with
      | true =>
        have HK := Lib.hid hbk
        rw [hbk] at hck
        clear hbk
        have hsz2 := Nat.lt_succ_of_lt hsz
        go_wp2_with (at_builtin; refine wpList_append_own _ rfl _ _ 37 rfl (w1.heap.size + 1) 3 i0 (.int .i64 0) 1 8 Tryd.underlying37 hi hy0 hys hyb rfl (by decide) _ _ _ rfl (hown.alloc _) ⟨wr.heap.size, 0, none⟩ 1 1 [.int .i64 (k : Int)] rfl rfl ?c1 ?c2 ?c3 ?c4 ?c5 ?_)
        case c1 => exact cell_one_new _ _ _
        case c2 => simp [Value.oneCell']
        case c3 => unfold maxLen; omega
        case c4 => omega
        case c5 => simp; omega
        intro v' w3 hown3 hgrow _
        have HR2 := Lib.hid (HC.out.put (by omega) HK.out hown3 hgrow)
        clear hown hown3 hgrow hsz hsz2 hl HK HC hb8 hck
        go_wp2
        go_roundw
        case rel => exact ⟨k + 1, _, by omega, by go_num, rfl, HR2.out⟩
        case measure => simp [intOf]; omega
      | false =>
        rw [hbk] at hck
        have HR2 := Lib.hid (HC.out.keep hbk)
        clear hown hsz hl hbk HC hb8
        go_wp2
        go_roundw
        case rel => exact ⟨k + 1, _, by omega, by go_num, rfl, HR2.out⟩
        case measure => simp [intOf]; omega
    · obtain rfl : k = 8 := by omega
      clear hown hsz hcell hb8
      go_wp2
      go_ret
      rw [HG.out]
      exact HC.out.done (by omega)

set_option maxRecDepth 20000 in
set_option maxHeartbeats 1000000 in
theorem rreads_4 (d n m imm : Int) (w : World) (hk : chk 4 d n m imm = true) (h2 : 0 ≤ n) (h3 : n < 8) (h4 : 0 ≤ m) (h5 : m < 8) :
    Calls Tryd.prog 21 #[IV 4 d n m imm] w (ListOf w (onL (updB (updB zB n.toNat) m.toNat) 8)) := by
  have Hk := Lib.hid hk; clear hk
  have s0 := BA_set0 n.toNat (by omega)
  have s1 := BA_set (updB zB n.toNat) m.toNat (by omega)
  go_enter Tryd.func21, Tryd.ntmps21
  go_wp2_with fail
  refine (ref_yes _ _ _ _ _ _ Hk.out).mono ?_
  rintro e w1 ⟨rfl, hb1⟩
  obtain ⟨hc, hf⟩ := bcell hb1
  have hz0 : w.heap.size < w1.heap.size := by have := hb1.size; simp at this; omega
  have hz1 : w.heap.size < w1.heap.size + 1 := by omega
  have B1 : Below w.heap.size w w1 := Below.trans (by go_grown) (hb1.mono (by simp))
  go_wp2_with fail
  obtain ⟨b, eb⟩ : ∃ b : Nat → Bool, b = updB (updB zB n.toNat) m.toNat := ⟨_, rfl⟩
  have HB := Lib.hid (show CollB w1.heap.size w b 0 (.slice none 0 0) (w1.alloc (.cells (BA (updB (updB zB n.toNat) m.toNat)) 72)) by rw [← eb]; exact CollB.start B1)
  have HG := Lib.hid (show onL (updB (updB zB n.toNat) m.toNat) 8 = onL b 8 by rw [eb])
  clear eb hc hf hb1 B1 s0 s1
  obtain ⟨i0, hi, hy0, hys, hyb⟩ := info_parts info3
  go_loopw [5, 6] (fun v i wr => ∃ (k : Nat) (u : Value), k ≤ 8 ∧ i = .int .i64 k ∧ u = v ∧ CollB w1.heap.size w b k u wr) (fun _ i _ => 8 - (intOf i).toNat)
  case atStart => exact ⟨0, _, by omega, rfl, rfl, HB.out⟩
  case round =>
    obtain ⟨k, v, hk, rfl, rfl, hrel⟩ := hrel
    have HC := Lib.hid hrel
    obtain ⟨hown, hBl, hsz, hcell⟩ := hrel
    have hb8 := HC
    clear hBl HB
    by_cases hlt : k < 8
    · have hl := onL_le b k
      have hck := hcell k hlt
      clear hcell
      cases hbk : b k with
      | true =>
        have HK := Lib.hid hbk
        rw [hbk] at hck
        clear hbk
        have hsz2 := Nat.lt_succ_of_lt hsz
        go_wp2_with (at_builtin; refine wpList_append_own _ rfl _ _ 37 rfl (w1.heap.size + 1) 3 i0 (.int .i64 0) 1 8 Tryd.underlying37 hi hy0 hys hyb rfl (by decide) _ _ _ rfl (hown.alloc _) ⟨wr.heap.size, 0, none⟩ 1 1 [.int .i64 (k : Int)] rfl rfl ?c1 ?c2 ?c3 ?c4 ?c5 ?_)
        case c1 => exact cell_one_new _ _ _
        case c2 => simp [Value.oneCell']
        case c3 => unfold maxLen; omega
        case c4 => omega
        case c5 => simp; omega
        intro v' w3 hown3 hgrow _
        have HR2 := Lib.hid (HC.out.put (by omega) HK.out hown3 hgrow)
        clear hown hown3 hgrow hsz hsz2 hl HK HC hb8 hck
        go_wp2
        go_roundw
        case rel => exact ⟨k + 1, _, by omega, by go_num, rfl, HR2.out⟩
        case measure => simp [intOf]; omega
      | false =>
        rw [hbk] at hck
        have HR2 := Lib.hid (HC.out.keep hbk)
        clear hown hsz hl hbk HC hb8
        go_wp2
        go_roundw
        case rel => exact ⟨k + 1, _, by omega, by go_num, rfl, HR2.out⟩
        case measure => simp [intOf]; omega
    · obtain rfl : k = 8 := by omega
      clear hown hsz hcell hb8
      go_wp2
      go_ret
      rw [HG.out]
      exact HC.out.done (by omega)

set_option maxRecDepth 20000 in
set_option maxHeartbeats 1000000 in
theorem rreads_5 (d n m imm : Int) (w : World) (hk : chk 5 d n m imm = true) (h2 : 0 ≤ n) (h3 : n < 8) (h4 : 0 ≤ m) (h5 : m < 8) :
    Calls Tryd.prog 21 #[IV 5 d n m imm] w (ListOf w (onL (updB (updB zB n.toNat) m.toNat) 8)) := by
  have Hk := Lib.hid hk; clear hk
  have s0 := BA_set0 n.toNat (by omega)
  have s1 := BA_set (updB zB n.toNat) m.toNat (by omega)
  go_enter Tryd.func21, Tryd.ntmps21
  go_wp2_with fail
  refine (ref_yes _ _ _ _ _ _ Hk.out).mono ?_
  rintro e w1 ⟨rfl, hb1⟩
  obtain ⟨hc, hf⟩ := bcell hb1
  have hz0 : w.heap.size < w1.heap.size := by have := hb1.size; simp at this; omega
  have hz1 : w.heap.size < w1.heap.size + 1 := by omega
  have B1 : Below w.heap.size w w1 := Below.trans (by go_grown) (hb1.mono (by simp))
  go_wp2_with fail
  obtain ⟨b, eb⟩ : ∃ b : Nat → Bool, b = updB (updB zB n.toNat) m.toNat := ⟨_, rfl⟩
  have HB := Lib.hid (show CollB w1.heap.size w b 0 (.slice none 0 0) (w1.alloc (.cells (BA (updB (updB zB n.toNat) m.toNat)) 72)) by rw [← eb]; exact CollB.start B1)
  have HG := Lib.hid (show onL (updB (updB zB n.toNat) m.toNat) 8 = onL b 8 by rw [eb])
  clear eb hc hf hb1 B1 s0 s1
  obtain ⟨i0, hi, hy0, hys, hyb⟩ := info_parts info3
  go_loopw [5, 6] (fun v i wr => ∃ (k : Nat) (u : Value), k ≤ 8 ∧ i = .int .i64 k ∧ u = v ∧ CollB w1.heap.size w b k u wr) (fun _ i _ => 8 - (intOf i).toNat)
  case atStart => exact ⟨0, _, by omega, rfl, rfl, HB.out⟩
  case round =>
    obtain ⟨k, v, hk, rfl, rfl, hrel⟩ := hrel
    have HC := Lib.hid hrel
    obtain ⟨hown, hBl, hsz, hcell⟩ := hrel
    have hb8 := HC
    clear hBl HB
    by_cases hlt : k < 8
    · have hl := onL_le b k
      have hck := hcell k hlt
      clear hcell
      cases hbk : b k with
      | true =>
        have HK := Lib.hid hbk
        rw [hbk] at hck
        clear hbk
        have hsz2 := Nat.lt_succ_of_lt hsz
        go_wp2_with (at_builtin; refine wpList_append_own _ rfl _ _ 37 rfl (w1.heap.size + 1) 3 i0 (.int .i64 0) 1 8 Tryd.underlying37 hi hy0 hys hyb rfl (by decide) _ _ _ rfl (hown.alloc _) ⟨wr.heap.size, 0, none⟩ 1 1 [.int .i64 (k : Int)] rfl rfl ?c1 ?c2 ?c3 ?c4 ?c5 ?_)
        case c1 => exact cell_one_new _ _ _
        case c2 => simp [Value.oneCell']
        case c3 => unfold maxLen; omega
        case c4 => omega
        case c5 => simp; omega
        intro v' w3 hown3 hgrow _
        have HR2 := Lib.hid (HC.out.put (by omega) HK.out hown3 hgrow)
        clear hown hown3 hgrow hsz hsz2 hl HK HC hb8 hck
        go_wp2
        go_roundw
        case rel => exact ⟨k + 1, _, by omega, by go_num, rfl, HR2.out⟩
        case measure => simp [intOf]; omega
      | false =>
        rw [hbk] at hck
        have HR2 := Lib.hid (HC.out.keep hbk)
        clear hown hsz hl hbk HC hb8
        go_wp2
        go_roundw
        case rel => exact ⟨k + 1, _, by omega, by go_num, rfl, HR2.out⟩
        case measure => simp [intOf]; omega
    · obtain rfl : k = 8 := by omega
      clear hown hsz hcell hb8
      go_wp2
      go_ret
      rw [HG.out]
      exact HC.out.done (by omega)

set_option maxRecDepth 20000 in
set_option maxHeartbeats 1000000 in
theorem rreads_6 (d n m imm : Int) (w : World) (hk : chk 6 d n m imm = true) (h2 : 0 ≤ n) (h3 : n < 8) (h4 : 0 ≤ m) (h5 : m < 8) :
    Calls Tryd.prog 21 #[IV 6 d n m imm] w (ListOf w (onL (updB (updB zB n.toNat) m.toNat) 8)) := by
  have Hk := Lib.hid hk; clear hk
  have s0 := BA_set0 n.toNat (by omega)
  have s1 := BA_set (updB zB n.toNat) m.toNat (by omega)
  go_enter Tryd.func21, Tryd.ntmps21
  go_wp2_with fail
  refine (ref_yes _ _ _ _ _ _ Hk.out).mono ?_
  rintro e w1 ⟨rfl, hb1⟩
  obtain ⟨hc, hf⟩ := bcell hb1
  have hz0 : w.heap.size < w1.heap.size := by have := hb1.size; simp at this; omega
  have hz1 : w.heap.size < w1.heap.size + 1 := by omega
  have B1 : Below w.heap.size w w1 := Below.trans (by go_grown) (hb1.mono (by simp))
  go_wp2_with fail
  obtain ⟨b, eb⟩ : ∃ b : Nat → Bool, b = updB (updB zB n.toNat) m.toNat := ⟨_, rfl⟩
  have HB := Lib.hid (show CollB w1.heap.size w b 0 (.slice none 0 0) (w1.alloc (.cells (BA (updB (updB zB n.toNat) m.toNat)) 72)) by rw [← eb]; exact CollB.start B1)
  have HG := Lib.hid (show onL (updB (updB zB n.toNat) m.toNat) 8 = onL b 8 by rw [eb])
  clear eb hc hf hb1 B1 s0 s1
  obtain ⟨i0, hi, hy0, hys, hyb⟩ := info_parts info3
  go_loopw [5, 6] (fun v i wr => ∃ (k : Nat) (u : Value), k ≤ 8 ∧ i = .int .i64 k ∧ u = v ∧ CollB w1.heap.size w b k u wr) (fun _ i _ => 8 - (intOf i).toNat)
  case atStart => exact ⟨0, _, by omega, rfl, rfl, HB.out⟩
  case round =>
    obtain ⟨k, v, hk, rfl, rfl, hrel⟩ := hrel
    have HC := Lib.hid hrel
    obtain ⟨hown, hBl, hsz, hcell⟩ := hrel
    have hb8 := HC
    clear hBl HB
    by_cases hlt : k < 8
    · have hl := onL_le b k
      have hck := hcell k hlt
      clear hcell
      cases hbk : b k with
      | true =>
        have HK := Lib.hid hbk
        rw [hbk] at hck
        clear hbk
        have hsz2 := Nat.lt_succ_of_lt hsz
        go_wp2_with (at_builtin; refine wpList_append_own _ rfl _ _ 37 rfl (w1.heap.size + 1) 3 i0 (.int .i64 0) 1 8 Tryd.underlying37 hi hy0 hys hyb rfl (by decide) _ _ _ rfl (hown.alloc _) ⟨wr.heap.size, 0, none⟩ 1 1 [.int .i64 (k : Int)] rfl rfl ?c1 ?c2 ?c3 ?c4 ?c5 ?_)
        case c1 => exact cell_one_new _ _ _
        case c2 => simp [Value.oneCell']
        case c3 => unfold maxLen; omega
        case c4 => omega
        case c5 => simp; omega
        intro v' w3 hown3 hgrow _
        have HR2 := Lib.hid (HC.out.put (by omega) HK.out hown3 hgrow)
        clear hown hown3 hgrow hsz hsz2 hl HK HC hb8 hck
        go_wp2
        go_roundw
        case rel => exact ⟨k + 1, _, by omega, by go_num, rfl, HR2.out⟩
        case measure => simp [intOf]; omega
      | false =>
        rw [hbk] at hck
        have HR2 := Lib.hid (HC.out.keep hbk)
        clear hown hsz hl hbk HC hb8
        go_wp2
        go_roundw
        case rel => exact ⟨k + 1, _, by omega, by go_num, rfl, HR2.out⟩
        case measure => simp [intOf]; omega
    · obtain rfl : k = 8 := by omega
      clear hown hsz hcell hb8
      go_wp2
      go_ret
      rw [HG.out]
      exact HC.out.done (by omega)

set_option maxRecDepth 20000 in
set_option maxHeartbeats 1000000 in
theorem rreads_7 (d n m imm : Int) (w : World) (hk : chk 7 d n m imm = true) (h2 : 0 ≤ n) (h3 : n < 8) :
    Calls Tryd.prog 21 #[IV 7 d n m imm] w (ListOf w (onL (updB zB n.toNat) 8)) := by
  have Hk := Lib.hid hk; clear hk
  have s0 := BA_set0 n.toNat (by omega)
  go_enter Tryd.func21, Tryd.ntmps21
  go_wp2_with fail
  refine (ref_yes _ _ _ _ _ _ Hk.out).mono ?_
  rintro e w1 ⟨rfl, hb1⟩
  obtain ⟨hc, hf⟩ := bcell hb1
  have hz0 : w.heap.size < w1.heap.size := by have := hb1.size; simp at this; omega
  have hz1 : w.heap.size < w1.heap.size + 1 := by omega
  have B1 : Below w.heap.size w w1 := Below.trans (by go_grown) (hb1.mono (by simp))
  go_wp2_with fail
  obtain ⟨b, eb⟩ : ∃ b : Nat → Bool, b = updB zB n.toNat := ⟨_, rfl⟩
  have HB := Lib.hid (show CollB w1.heap.size w b 0 (.slice none 0 0) (w1.alloc (.cells (BA (updB zB n.toNat)) 72)) by rw [← eb]; exact CollB.start B1)
  have HG := Lib.hid (show onL (updB zB n.toNat) 8 = onL b 8 by rw [eb])
  clear eb hc hf hb1 B1 s0
  obtain ⟨i0, hi, hy0, hys, hyb⟩ := info_parts info3
  go_loopw [5, 6] (fun v i wr => ∃ (k : Nat) (u : Value), k ≤ 8 ∧ i = .int .i64 k ∧ u = v ∧ CollB w1.heap.size w b k u wr) (fun _ i _ => 8 - (intOf i).toNat)
  case atStart => exact ⟨0, _, by omega, rfl, rfl, HB.out⟩
  case round =>
    obtain ⟨k, v, hk, rfl, rfl, hrel⟩ := hrel
    have HC := Lib.hid hrel
    obtain ⟨hown, hBl, hsz, hcell⟩ := hrel
    have hb8 := HC
    clear hBl HB
    by_cases hlt : k < 8
    · have hl := onL_le b k
      have hck := hcell k hlt
      clear hcell
      cases hbk : b k with
      | true =>
        have HK := Lib.hid hbk
        rw [hbk] at hck
        clear hbk
        have hsz2 := Nat.lt_succ_of_lt hsz
        go_wp2_with (at_builtin; refine wpList_append_own _ rfl _ _ 37 rfl (w1.heap.size + 1) 3 i0 (.int .i64 0) 1 8 Tryd.underlying37 hi hy0 hys hyb rfl (by decide) _ _ _ rfl (hown.alloc _) ⟨wr.heap.size, 0, none⟩ 1 1 [.int .i64 (k : Int)] rfl rfl ?c1 ?c2 ?c3 ?c4 ?c5 ?_)
        case c1 => exact cell_one_new _ _ _
        case c2 => simp [Value.oneCell']
        case c3 => unfold maxLen; omega
        case c4 => omega
        case c5 => simp; omega
        intro v' w3 hown3 hgrow _
        have HR2 := Lib.hid (HC.out.put (by omega) HK.out hown3 hgrow)
        clear hown hown3 hgrow hsz hsz2 hl HK HC hb8 hck
        go_wp2
        go_roundw
        case rel => exact ⟨k + 1, _, by omega, by go_num, rfl, HR2.out⟩
        case measure => simp [intOf]; omega
      | false =>
        rw [hbk] at hck
        have HR2 := Lib.hid (HC.out.keep hbk)
        clear hown hsz hl hbk HC hb8
        go_wp2
        go_roundw
        case rel => exact ⟨k + 1, _, by omega, by go_num, rfl, HR2.out⟩
        case measure => simp [intOf]; omega
    · obtain rfl : k = 8 := by omega
      clear hown hsz hcell hb8
      go_wp2
      go_ret
      rw [HG.out]
      exact HC.out.done (by omega)

set_option maxRecDepth 20000 in
set_option maxHeartbeats 1000000 in
theorem rreads_8 (d n m imm : Int) (w : World) (hk : chk 8 d n m imm = true) (h2 : 0 ≤ n) (h3 : n < 8) :
    Calls Tryd.prog 21 #[IV 8 d n m imm] w (ListOf w (onL (updB zB n.toNat) 8)) := by
  have Hk := Lib.hid hk; clear hk
  have s0 := BA_set0 n.toNat (by omega)
  go_enter Tryd.func21, Tryd.ntmps21
  go_wp2_with fail
  refine (ref_yes _ _ _ _ _ _ Hk.out).mono ?_
  rintro e w1 ⟨rfl, hb1⟩
  obtain ⟨hc, hf⟩ := bcell hb1
  have hz0 : w.heap.size < w1.heap.size := by have := hb1.size; simp at this; omega
  have hz1 : w.heap.size < w1.heap.size + 1 := by omega
  have B1 : Below w.heap.size w w1 := Below.trans (by go_grown) (hb1.mono (by simp))
  go_wp2_with fail
  obtain ⟨b, eb⟩ : ∃ b : Nat → Bool, b = updB zB n.toNat := ⟨_, rfl⟩
  have HB := Lib.hid (show CollB w1.heap.size w b 0 (.slice none 0 0) (w1.alloc (.cells (BA (updB zB n.toNat)) 72)) by rw [← eb]; exact CollB.start B1)
  have HG := Lib.hid (show onL (updB zB n.toNat) 8 = onL b 8 by rw [eb])
  clear eb hc hf hb1 B1 s0
  obtain ⟨i0, hi, hy0, hys, hyb⟩ := info_parts info3
  go_loopw [5, 6] (fun v i wr => ∃ (k : Nat) (u : Value), k ≤ 8 ∧ i = .int .i64 k ∧ u = v ∧ CollB w1.heap.size w b k u wr) (fun _ i _ => 8 - (intOf i).toNat)
  case atStart => exact ⟨0, _, by omega, rfl, rfl, HB.out⟩
  case round =>
    obtain ⟨k, v, hk, rfl, rfl, hrel⟩ := hrel
    have HC := Lib.hid hrel
    obtain ⟨hown, hBl, hsz, hcell⟩ := hrel
    have hb8 := HC
    clear hBl HB
    by_cases hlt : k < 8
    · have hl := onL_le b k
      have hck := hcell k hlt
      clear hcell
      cases hbk : b k with
      | true =>
        have HK := Lib.hid hbk
        rw [hbk] at hck
        clear hbk
        have hsz2 := Nat.lt_succ_of_lt hsz
        go_wp2_with (at_builtin; refine wpList_append_own _ rfl _ _ 37 rfl (w1.heap.size + 1) 3 i0 (.int .i64 0) 1 8 Tryd.underlying37 hi hy0 hys hyb rfl (by decide) _ _ _ rfl (hown.alloc _) ⟨wr.heap.size, 0, none⟩ 1 1 [.int .i64 (k : Int)] rfl rfl ?c1 ?c2 ?c3 ?c4 ?c5 ?_)
        case c1 => exact cell_one_new _ _ _
        case c2 => simp [Value.oneCell']
        case c3 => unfold maxLen; omega
        case c4 => omega
        case c5 => simp; omega
        intro v' w3 hown3 hgrow _
        have HR2 := Lib.hid (HC.out.put (by omega) HK.out hown3 hgrow)
        clear hown hown3 hgrow hsz hsz2 hl HK HC hb8 hck
        go_wp2
        go_roundw
        case rel => exact ⟨k + 1, _, by omega, by go_num, rfl, HR2.out⟩
        case measure => simp [intOf]; omega
      | false =>
        rw [hbk] at hck
        have HR2 := Lib.hid (HC.out.keep hbk)
        clear hown hsz hl hbk HC hb8
        go_wp2
        go_roundw
        case rel => exact ⟨k + 1, _, by omega, by go_num, rfl, HR2.out⟩
        case measure => simp [intOf]; omega
    · obtain rfl : k = 8 := by omega
      clear hown hsz hcell hb8
      go_wp2
      go_ret
      rw [HG.out]
      exact HC.out.done (by omega)

set_option maxRecDepth 20000 in
set_option maxHeartbeats 1000000 in
theorem rreads_9 (d n m imm : Int) (w : World) (hk : chk 9 d n m imm = true) (h0 : 0 ≤ d) (h1 : d < 8) (h2 : 0 ≤ n) (h3 : n < 8) :
    Calls Tryd.prog 21 #[IV 9 d n m imm] w (ListOf w (onL (updB (updB zB n.toNat) d.toNat) 8)) := by
  have Hk := Lib.hid hk; clear hk
  have s0 := BA_set0 n.toNat (by omega)
  have s1 := BA_set (updB zB n.toNat) d.toNat (by omega)
  go_enter Tryd.func21, Tryd.ntmps21
  go_wp2_with fail
  refine (ref_yes _ _ _ _ _ _ Hk.out).mono ?_
  rintro e w1 ⟨rfl, hb1⟩
  obtain ⟨hc, hf⟩ := bcell hb1
  have hz0 : w.heap.size < w1.heap.size := by have := hb1.size; simp at this; omega
  have hz1 : w.heap.size < w1.heap.size + 1 := by omega
  have B1 : Below w.heap.size w w1 := Below.trans (by go_grown) (hb1.mono (by simp))
  go_wp2_with fail
  obtain ⟨b, eb⟩ : ∃ b : Nat → Bool, b = updB (updB zB n.toNat) d.toNat := ⟨_, rfl⟩
  have HB := Lib.hid (show CollB w1.heap.size w b 0 (.slice none 0 0) (w1.alloc (.cells (BA (updB (updB zB n.toNat) d.toNat)) 72)) by rw [← eb]; exact CollB.start B1)
  have HG := Lib.hid (show onL (updB (updB zB n.toNat) d.toNat) 8 = onL b 8 by rw [eb])
  clear eb hc hf hb1 B1 s0 s1
  obtain ⟨i0, hi, hy0, hys, hyb⟩ := info_parts info3
  go_loopw [5, 6] (fun v i wr => ∃ (k : Nat) (u : Value), k ≤ 8 ∧ i = .int .i64 k ∧ u = v ∧ CollB w1.heap.size w b k u wr) (fun _ i _ => 8 - (intOf i).toNat)
  case atStart => exact ⟨0, _, by omega, rfl, rfl, HB.out⟩
  case round =>
    obtain ⟨k, v, hk, rfl, rfl, hrel⟩ := hrel
    have HC := Lib.hid hrel
    obtain ⟨hown, hBl, hsz, hcell⟩ := hrel
    have hb8 := HC
    clear hBl HB
    by_cases hlt : k < 8
    · have hl := onL_le b k
      have hck := hcell k hlt
      clear hcell
      cases hbk : b k with
      | true =>
        have HK := Lib.hid hbk
        rw [hbk] at hck
        clear hbk
        have hsz2 := Nat.lt_succ_of_lt hsz
        go_wp2_with (at_builtin; refine wpList_append_own _ rfl _ _ 37 rfl (w1.heap.size + 1) 3 i0 (.int .i64 0) 1 8 Tryd.underlying37 hi hy0 hys hyb rfl (by decide) _ _ _ rfl (hown.alloc _) ⟨wr.heap.size, 0, none⟩ 1 1 [.int .i64 (k : Int)] rfl rfl ?c1 ?c2 ?c3 ?c4 ?c5 ?_)
        case c1 => exact cell_one_new _ _ _
        case c2 => simp [Value.oneCell']
        case c3 => unfold maxLen; omega
        case c4 => omega
        case c5 => simp; omega
        intro v' w3 hown3 hgrow _
        have HR2 := Lib.hid (HC.out.put (by omega) HK.out hown3 hgrow)
        clear hown hown3 hgrow hsz hsz2 hl HK HC hb8 hck
        go_wp2
        go_roundw
        case rel => exact ⟨k + 1, _, by omega, by go_num, rfl, HR2.out⟩
        case measure => simp [intOf]; omega
      | false =>
        rw [hbk] at hck
        have HR2 := Lib.hid (HC.out.keep hbk)
        clear hown hsz hl hbk HC hb8
        go_wp2
        go_roundw
        case rel => exact ⟨k + 1, _, by omega, by go_num, rfl, HR2.out⟩
        case measure => simp [intOf]; omega
    · obtain rfl : k = 8 := by omega
      clear hown hsz hcell hb8
      go_wp2
      go_ret
      rw [HG.out]
      exact HC.out.done (by omega)

set_option maxRecDepth 20000 in
set_option maxHeartbeats 1000000 in
theorem rreads_10 (d n m imm : Int) (w : World) (hk : chk 10 d n m imm = true) (h2 : 0 ≤ n) (h3 : n < 8) :
    Calls Tryd.prog 21 #[IV 10 d n m imm] w (ListOf w (onL (updB zB n.toNat) 8)) := by
  have Hk := Lib.hid hk; clear hk
  have s0 := BA_set0 n.toNat (by omega)
  go_enter Tryd.func21, Tryd.ntmps21
  go_wp2_with fail
  refine (ref_yes _ _ _ _ _ _ Hk.out).mono ?_
  rintro e w1 ⟨rfl, hb1⟩
  obtain ⟨hc, hf⟩ := bcell hb1
  have hz0 : w.heap.size < w1.heap.size := by have := hb1.size; simp at this; omega
  have hz1 : w.heap.size < w1.heap.size + 1 := by omega
  have B1 : Below w.heap.size w w1 := Below.trans (by go_grown) (hb1.mono (by simp))
  go_wp2_with fail
  obtain ⟨b, eb⟩ : ∃ b : Nat → Bool, b = updB zB n.toNat := ⟨_, rfl⟩
  have HB := Lib.hid (show CollB w1.heap.size w b 0 (.slice none 0 0) (w1.alloc (.cells (BA (updB zB n.toNat)) 72)) by rw [← eb]; exact CollB.start B1)
  have HG := Lib.hid (show onL (updB zB n.toNat) 8 = onL b 8 by rw [eb])
  clear eb hc hf hb1 B1 s0
  obtain ⟨i0, hi, hy0, hys, hyb⟩ := info_parts info3
  go_loopw [5, 6] (fun v i wr => ∃ (k : Nat) (u : Value), k ≤ 8 ∧ i = .int .i64 k ∧ u = v ∧ CollB w1.heap.size w b k u wr) (fun _ i _ => 8 - (intOf i).toNat)
  case atStart => exact ⟨0, _, by omega, rfl, rfl, HB.out⟩
  case round =>
    obtain ⟨k, v, hk, rfl, rfl, hrel⟩ := hrel
    have HC := Lib.hid hrel
    obtain ⟨hown, hBl, hsz, hcell⟩ := hrel
    have hb8 := HC
    clear hBl HB
    by_cases hlt : k < 8
    · have hl := onL_le b k
      have hck := hcell k hlt
      clear hcell
      cases hbk : b k with
      | true =>
        have HK := Lib.hid hbk
        rw [hbk] at hck
        clear hbk
        have hsz2 := Nat.lt_succ_of_lt hsz
        go_wp2_with (at_builtin; refine wpList_append_own _ rfl _ _ 37 rfl (w1.heap.size + 1) 3 i0 (.int .i64 0) 1 8 Tryd.underlying37 hi hy0 hys hyb rfl (by decide) _ _ _ rfl (hown.alloc _) ⟨wr.heap.size, 0, none⟩ 1 1 [.int .i64 (k : Int)] rfl rfl ?c1 ?c2 ?c3 ?c4 ?c5 ?_)
        case c1 => exact cell_one_new _ _ _
        case c2 => simp [Value.oneCell']
        case c3 => unfold maxLen; omega
        case c4 => omega
        case c5 => simp; omega
        intro v' w3 hown3 hgrow _
        have HR2 := Lib.hid (HC.out.put (by omega) HK.out hown3 hgrow)
        clear hown hown3 hgrow hsz hsz2 hl HK HC hb8 hck
        go_wp2
        go_roundw
        case rel => exact ⟨k + 1, _, by omega, by go_num, rfl, HR2.out⟩
        case measure => simp [intOf]; omega
      | false =>
        rw [hbk] at hck
        have HR2 := Lib.hid (HC.out.keep hbk)
        clear hown hsz hl hbk HC hb8
        go_wp2
        go_roundw
        case rel => exact ⟨k + 1, _, by omega, by go_num, rfl, HR2.out⟩
        case measure => simp [intOf]; omega
    · obtain rfl : k = 8 := by omega
      clear hown hsz hcell hb8
      go_wp2
      go_ret
      rw [HG.out]
      exact HC.out.done (by omega)

set_option maxRecDepth 20000 in
set_option maxHeartbeats 1000000 in
theorem rreads_11 (d n m imm : Int) (w : World) (hk : chk 11 d n m imm = true) (h0 : 0 ≤ d) (h1 : d < 8) (h2 : 0 ≤ n) (h3 : n < 8) :
    Calls Tryd.prog 21 #[IV 11 d n m imm] w (ListOf w (onL (updB (updB zB n.toNat) d.toNat) 8)) := by
  have Hk := Lib.hid hk; clear hk
  have s0 := BA_set0 n.toNat (by omega)
  have s1 := BA_set (updB zB n.toNat) d.toNat (by omega)
  go_enter Tryd.func21, Tryd.ntmps21
  go_wp2_with fail
  refine (ref_yes _ _ _ _ _ _ Hk.out).mono ?_
  rintro e w1 ⟨rfl, hb1⟩
  obtain ⟨hc, hf⟩ := bcell hb1
  have hz0 : w.heap.size < w1.heap.size := by have := hb1.size; simp at this; omega
  have hz1 : w.heap.size < w1.heap.size + 1 := by omega
  have B1 : Below w.heap.size w w1 := Below.trans (by go_grown) (hb1.mono (by simp))
  go_wp2_with fail
  obtain ⟨b, eb⟩ : ∃ b : Nat → Bool, b = updB (updB zB n.toNat) d.toNat := ⟨_, rfl⟩
  have HB := Lib.hid (show CollB w1.heap.size w b 0 (.slice none 0 0) (w1.alloc (.cells (BA (updB (updB zB n.toNat) d.toNat)) 72)) by rw [← eb]; exact CollB.start B1)
  have HG := Lib.hid (show onL (updB (updB zB n.toNat) d.toNat) 8 = onL b 8 by rw [eb])
  clear eb hc hf hb1 B1 s0 s1
  obtain ⟨i0, hi, hy0, hys, hyb⟩ := info_parts info3
  go_loopw [5, 6] (fun v i wr => ∃ (k : Nat) (u : Value), k ≤ 8 ∧ i = .int .i64 k ∧ u = v ∧ CollB w1.heap.size w b k u wr) (fun _ i _ => 8 - (intOf i).toNat)
  case atStart => exact ⟨0, _, by omega, rfl, rfl, HB.out⟩
  case round =>
    obtain ⟨k, v, hk, rfl, rfl, hrel⟩ := hrel
    have HC := Lib.hid hrel
    obtain ⟨hown, hBl, hsz, hcell⟩ := hrel
    have hb8 := HC
    clear hBl HB
    by_cases hlt : k < 8
    · have hl := onL_le b k
      have hck := hcell k hlt
      clear hcell
      cases hbk : b k with
      | true =>
        have HK := Lib.hid hbk
        rw [hbk] at hck
        clear hbk
        have hsz2 := Nat.lt_succ_of_lt hsz
        go_wp2_with (at_builtin; refine wpList_append_own _ rfl _ _ 37 rfl (w1.heap.size + 1) 3 i0 (.int .i64 0) 1 8 Tryd.underlying37 hi hy0 hys hyb rfl (by decide) _ _ _ rfl (hown.alloc _) ⟨wr.heap.size, 0, none⟩ 1 1 [.int .i64 (k : Int)] rfl rfl ?c1 ?c2 ?c3 ?c4 ?c5 ?_)
        case c1 => exact cell_one_new _ _ _
        case c2 => simp [Value.oneCell']
        case c3 => unfold maxLen; omega
        case c4 => omega
        case c5 => simp; omega
        intro v' w3 hown3 hgrow _
        have HR2 := Lib.hid (HC.out.put (by omega) HK.out hown3 hgrow)
        clear hown hown3 hgrow hsz hsz2 hl HK HC hb8 hck
        go_wp2
        go_roundw
        case rel => exact ⟨k + 1, _, by omega, by go_num, rfl, HR2.out⟩
        case measure => simp [intOf]; omega
      | false =>
        rw [hbk] at hck
        have HR2 := Lib.hid (HC.out.keep hbk)
        clear hown hsz hl hbk HC hb8
        go_wp2
        go_roundw
        case rel => exact ⟨k + 1, _, by omega, by go_num, rfl, HR2.out⟩
        case measure => simp [intOf]; omega
    · obtain rfl : k = 8 := by omega
      clear hown hsz hcell hb8
      go_wp2
      go_ret
      rw [HG.out]
      exact HC.out.done (by omega)

set_option maxRecDepth 20000 in
set_option maxHeartbeats 1000000 in
theorem rreads_12 (d n m imm : Int) (w : World) (hk : chk 12 d n m imm = true) (h0 : 0 ≤ d) (h1 : d < 8) (h2 : 0 ≤ n) (h3 : n < 8) :
    Calls Tryd.prog 21 #[IV 12 d n m imm] w (ListOf w (onL (updB (updB zB n.toNat) d.toNat) 8)) := by
  have Hk := Lib.hid hk; clear hk
  have s0 := BA_set0 n.toNat (by omega)
  have s1 := BA_set (updB zB n.toNat) d.toNat (by omega)
  go_enter Tryd.func21, Tryd.ntmps21
  go_wp2_with fail
  refine (ref_yes _ _ _ _ _ _ Hk.out).mono ?_
  rintro e w1 ⟨rfl, hb1⟩
  obtain ⟨hc, hf⟩ := bcell hb1
  have hz0 : w.heap.size < w1.heap.size := by have := hb1.size; simp at this; omega
  have hz1 : w.heap.size < w1.heap.size + 1 := by omega
  have B1 : Below w.heap.size w w1 := Below.trans (by go_grown) (hb1.mono (by simp))
  go_wp2_with fail
  obtain ⟨b, eb⟩ : ∃ b : Nat → Bool, b = updB (updB zB n.toNat) d.toNat := ⟨_, rfl⟩
  have HB := Lib.hid (show CollB w1.heap.size w b 0 (.slice none 0 0) (w1.alloc (.cells (BA (updB (updB zB n.toNat) d.toNat)) 72)) by rw [← eb]; exact CollB.start B1)
  have HG := Lib.hid (show onL (updB (updB zB n.toNat) d.toNat) 8 = onL b 8 by rw [eb])
  clear eb hc hf hb1 B1 s0 s1
  obtain ⟨i0, hi, hy0, hys, hyb⟩ := info_parts info3
  go_loopw [5, 6] (fun v i wr => ∃ (k : Nat) (u : Value), k ≤ 8 ∧ i = .int .i64 k ∧ u = v ∧ CollB w1.heap.size w b k u wr) (fun _ i _ => 8 - (intOf i).toNat)
  case atStart => exact ⟨0, _, by omega, rfl, rfl, HB.out⟩
  case round =>
    obtain ⟨k, v, hk, rfl, rfl, hrel⟩ := hrel
    have HC := Lib.hid hrel
    obtain ⟨hown, hBl, hsz, hcell⟩ := hrel
    have hb8 := HC
    clear hBl HB
    by_cases hlt : k < 8
    · have hl := onL_le b k
      have hck := hcell k hlt
      clear hcell
      cases hbk : b k with
      | true =>
        have HK := Lib.hid hbk
        rw [hbk] at hck
        clear hbk
        have hsz2 := Nat.lt_succ_of_lt hsz
        go_wp2_with (at_builtin; refine wpList_append_own _ rfl _ _ 37 rfl (w1.heap.size + 1) 3 i0 (.int .i64 0) 1 8 Tryd.underlying37 hi hy0 hys hyb rfl (by decide) _ _ _ rfl (hown.alloc _) ⟨wr.heap.size, 0, none⟩ 1 1 [.int .i64 (k : Int)] rfl rfl ?c1 ?c2 ?c3 ?c4 ?c5 ?_)
        case c1 => exact cell_one_new _ _ _
        case c2 => simp [Value.oneCell']
        case c3 => unfold maxLen; omega
        case c4 => omega
        case c5 => simp; omega
        intro v' w3 hown3 hgrow _
        have HR2 := Lib.hid (HC.out.put (by omega) HK.out hown3 hgrow)
        clear hown hown3 hgrow hsz hsz2 hl HK HC hb8 hck
        go_wp2
        go_roundw
        case rel => exact ⟨k + 1, _, by omega, by go_num, rfl, HR2.out⟩
        case measure => simp [intOf]; omega
      | false =>
        rw [hbk] at hck
        have HR2 := Lib.hid (HC.out.keep hbk)
        clear hown hsz hl hbk HC hb8
        go_wp2
        go_roundw
        case rel => exact ⟨k + 1, _, by omega, by go_num, rfl, HR2.out⟩
        case measure => simp [intOf]; omega
    · obtain rfl : k = 8 := by omega
      clear hown hsz hcell hb8
      go_wp2
      go_ret
      rw [HG.out]
      exact HC.out.done (by omega)

set_option maxRecDepth 20000 in
set_option maxHeartbeats 1000000 in
theorem rreads_13 (d n m imm : Int) (w : World) (hk : chk 13 d n m imm = true) :
    Calls Tryd.prog 21 #[IV 13 d n m imm] w (ListOf w (onL (zB) 8)) := by
  have Hk := Lib.hid hk; clear hk
  go_enter Tryd.func21, Tryd.ntmps21
  go_wp2_with fail
  refine (ref_yes _ _ _ _ _ _ Hk.out).mono ?_
  rintro e w1 ⟨rfl, hb1⟩
  obtain ⟨hc, hf⟩ := bcell hb1
  have hz0 : w.heap.size < w1.heap.size := by have := hb1.size; simp at this; omega
  have hz1 : w.heap.size < w1.heap.size + 1 := by omega
  have B1 : Below w.heap.size w w1 := Below.trans (by go_grown) (hb1.mono (by simp))
  go_wp2_with fail
  obtain ⟨b, eb⟩ : ∃ b : Nat → Bool, b = zB := ⟨_, rfl⟩
  have HB := Lib.hid (show CollB w1.heap.size w b 0 (.slice none 0 0) (w1.alloc (.cells (BA (zB)) 72)) by rw [← eb]; exact CollB.start B1)
  have HG := Lib.hid (show onL (zB) 8 = onL b 8 by rw [eb])
  clear eb hc hf hb1 B1 
  obtain ⟨i0, hi, hy0, hys, hyb⟩ := info_parts info3
  go_loopw [5, 6] (fun v i wr => ∃ (k : Nat) (u : Value), k ≤ 8 ∧ i = .int .i64 k ∧ u = v ∧ CollB w1.heap.size w b k u wr) (fun _ i _ => 8 - (intOf i).toNat)
  case atStart => exact ⟨0, _, by omega, rfl, rfl, HB.out⟩
  case round =>
    obtain ⟨k, v, hk, rfl, rfl, hrel⟩ := hrel
    have HC := Lib.hid hrel
    obtain ⟨hown, hBl, hsz, hcell⟩ := hrel
    have hb8 := HC
    clear hBl HB
    by_cases hlt : k < 8
    · have hl := onL_le b k
      have hck := hcell k hlt
      clear hcell
      cases hbk : b k with
      | true =>
        have HK := Lib.hid hbk
        rw [hbk] at hck
        clear hbk
        have hsz2 := Nat.lt_succ_of_lt hsz
        go_wp2_with (at_builtin; refine wpList_append_own _ rfl _ _ 37 rfl (w1.heap.size + 1) 3 i0 (.int .i64 0) 1 8 Tryd.underlying37 hi hy0 hys hyb rfl (by decide) _ _ _ rfl (hown.alloc _) ⟨wr.heap.size, 0, none⟩ 1 1 [.int .i64 (k : Int)] rfl rfl ?c1 ?c2 ?c3 ?c4 ?c5 ?_)
        case c1 => exact cell_one_new _ _ _
        case c2 => simp [Value.oneCell']
        case c3 => unfold maxLen; omega
        case c4 => omega
        case c5 => simp; omega
        intro v' w3 hown3 hgrow _
        have HR2 := Lib.hid (HC.out.put (by omega) HK.out hown3 hgrow)
        clear hown hown3 hgrow hsz hsz2 hl HK HC hb8 hck
        go_wp2
        go_roundw
        case rel => exact ⟨k + 1, _, by omega, by go_num, rfl, HR2.out⟩
        case measure => simp [intOf]; omega
      | false =>
        rw [hbk] at hck
        have HR2 := Lib.hid (HC.out.keep hbk)
        clear hown hsz hl hbk HC hb8
        go_wp2
        go_roundw
        case rel => exact ⟨k + 1, _, by omega, by go_num, rfl, HR2.out⟩
        case measure => simp [intOf]; omega
    · obtain rfl : k = 8 := by omega
      clear hown hsz hcell hb8
      go_wp2
      go_ret
      rw [HG.out]
      exact HC.out.done (by omega)

set_option maxRecDepth 20000 in
set_option maxHeartbeats 1000000 in
theorem rreads_14 (d n m imm : Int) (w : World) (hk : chk 14 d n m imm = true) :
    Calls Tryd.prog 21 #[IV 14 d n m imm] w (ListOf w (onL (zB) 8)) := by
  have Hk := Lib.hid hk; clear hk
  go_enter Tryd.func21, Tryd.ntmps21
  go_wp2_with fail
  refine (ref_yes _ _ _ _ _ _ Hk.out).mono ?_
  rintro e w1 ⟨rfl, hb1⟩
  obtain ⟨hc, hf⟩ := bcell hb1
  have hz0 : w.heap.size < w1.heap.size := by have := hb1.size; simp at this; omega
  have hz1 : w.heap.size < w1.heap.size + 1 := by omega
  have B1 : Below w.heap.size w w1 := Below.trans (by go_grown) (hb1.mono (by simp))
  go_wp2_with fail
  obtain ⟨b, eb⟩ : ∃ b : Nat → Bool, b = zB := ⟨_, rfl⟩
  have HB := Lib.hid (show CollB w1.heap.size w b 0 (.slice none 0 0) (w1.alloc (.cells (BA (zB)) 72)) by rw [← eb]; exact CollB.start B1)
  have HG := Lib.hid (show onL (zB) 8 = onL b 8 by rw [eb])
  clear eb hc hf hb1 B1 
  obtain ⟨i0, hi, hy0, hys, hyb⟩ := info_parts info3
  go_loopw [5, 6] (fun v i wr => ∃ (k : Nat) (u : Value), k ≤ 8 ∧ i = .int .i64 k ∧ u = v ∧ CollB w1.heap.size w b k u wr) (fun _ i _ => 8 - (intOf i).toNat)
  case atStart => exact ⟨0, _, by omega, rfl, rfl, HB.out⟩
  case round =>
    obtain ⟨k, v, hk, rfl, rfl, hrel⟩ := hrel
    have HC := Lib.hid hrel
    obtain ⟨hown, hBl, hsz, hcell⟩ := hrel
    have hb8 := HC
    clear hBl HB
    by_cases hlt : k < 8
    · have hl := onL_le b k
      have hck := hcell k hlt
      clear hcell
      cases hbk : b k with
      | true =>
        have HK := Lib.hid hbk
        rw [hbk] at hck
        clear hbk
        have hsz2 := Nat.lt_succ_of_lt hsz
        go_wp2_with (at_builtin; refine wpList_append_own _ rfl _ _ 37 rfl (w1.heap.size + 1) 3 i0 (.int .i64 0) 1 8 Tryd.underlying37 hi hy0 hys hyb rfl (by decide) _ _ _ rfl (hown.alloc _) ⟨wr.heap.size, 0, none⟩ 1 1 [.int .i64 (k : Int)] rfl rfl ?c1 ?c2 ?c3 ?c4 ?c5 ?_)
        case c1 => exact cell_one_new _ _ _
        case c2 => simp [Value.oneCell']
        case c3 => unfold maxLen; omega
        case c4 => omega
        case c5 => simp; omega
        intro v' w3 hown3 hgrow _
        have HR2 := Lib.hid (HC.out.put (by omega) HK.out hown3 hgrow)
        clear hown hown3 hgrow hsz hsz2 hl HK HC hb8 hck
        go_wp2
        go_roundw
        case rel => exact ⟨k + 1, _, by omega, by go_num, rfl, HR2.out⟩
        case measure => simp [intOf]; omega
      | false =>
        rw [hbk] at hck
        have HR2 := Lib.hid (HC.out.keep hbk)
        clear hown hsz hl hbk HC hb8
        go_wp2
        go_roundw
        case rel => exact ⟨k + 1, _, by omega, by go_num, rfl, HR2.out⟩
        case measure => simp [intOf]; omega
    · obtain rfl : k = 8 := by omega
      clear hown hsz hcell hb8
      go_wp2
      go_ret
      rw [HG.out]
      exact HC.out.done (by omega)

set_option maxRecDepth 20000 in
set_option maxHeartbeats 1000000 in
theorem rreads_15 (d n m imm : Int) (w : World) (hk : chk 15 d n m imm = true) (h0 : 0 ≤ d) (h1 : d < 8) :
    Calls Tryd.prog 21 #[IV 15 d n m imm] w (ListOf w (onL (updB zB d.toNat) 8)) := by
  have Hk := Lib.hid hk; clear hk
  have s0 := BA_set0 d.toNat (by omega)
  go_enter Tryd.func21, Tryd.ntmps21
  go_wp2_with fail
  refine (ref_yes _ _ _ _ _ _ Hk.out).mono ?_
  rintro e w1 ⟨rfl, hb1⟩
  obtain ⟨hc, hf⟩ := bcell hb1
  have hz0 : w.heap.size < w1.heap.size := by have := hb1.size; simp at this; omega
  have hz1 : w.heap.size < w1.heap.size + 1 := by omega
  have B1 : Below w.heap.size w w1 := Below.trans (by go_grown) (hb1.mono (by simp))
  go_wp2_with fail
  obtain ⟨b, eb⟩ : ∃ b : Nat → Bool, b = updB zB d.toNat := ⟨_, rfl⟩
  have HB := Lib.hid (show CollB w1.heap.size w b 0 (.slice none 0 0) (w1.alloc (.cells (BA (updB zB d.toNat)) 72)) by rw [← eb]; exact CollB.start B1)
  have HG := Lib.hid (show onL (updB zB d.toNat) 8 = onL b 8 by rw [eb])
  clear eb hc hf hb1 B1 s0
  obtain ⟨i0, hi, hy0, hys, hyb⟩ := info_parts info3
  go_loopw [5, 6] (fun v i wr => ∃ (k : Nat) (u : Value), k ≤ 8 ∧ i = .int .i64 k ∧ u = v ∧ CollB w1.heap.size w b k u wr) (fun _ i _ => 8 - (intOf i).toNat)
  case atStart => exact ⟨0, _, by omega, rfl, rfl, HB.out⟩
  case round =>
    obtain ⟨k, v, hk, rfl, rfl, hrel⟩ := hrel
    have HC := Lib.hid hrel
    obtain ⟨hown, hBl, hsz, hcell⟩ := hrel
    have hb8 := HC
    clear hBl HB
    by_cases hlt : k < 8
    · have hl := onL_le b k
      have hck := hcell k hlt
      clear hcell
      cases hbk : b k with
      | true =>
        have HK := Lib.hid hbk
        rw [hbk] at hck
        clear hbk
        have hsz2 := Nat.lt_succ_of_lt hsz
        go_wp2_with (at_builtin; refine wpList_append_own _ rfl _ _ 37 rfl (w1.heap.size + 1) 3 i0 (.int .i64 0) 1 8 Tryd.underlying37 hi hy0 hys hyb rfl (by decide) _ _ _ rfl (hown.alloc _) ⟨wr.heap.size, 0, none⟩ 1 1 [.int .i64 (k : Int)] rfl rfl ?c1 ?c2 ?c3 ?c4 ?c5 ?_)
        case c1 => exact cell_one_new _ _ _
        case c2 => simp [Value.oneCell']
        case c3 => unfold maxLen; omega
        case c4 => omega
        case c5 => simp; omega
        intro v' w3 hown3 hgrow _
        have HR2 := Lib.hid (HC.out.put (by omega) HK.out hown3 hgrow)
        clear hown hown3 hgrow hsz hsz2 hl HK HC hb8 hck
        go_wp2
        go_roundw
        case rel => exact ⟨k + 1, _, by omega, by go_num, rfl, HR2.out⟩
        case measure => simp [intOf]; omega
      | false =>
        rw [hbk] at hck
        have HR2 := Lib.hid (HC.out.keep hbk)
        clear hown hsz hl hbk HC hb8
        go_wp2
        go_roundw
        case rel => exact ⟨k + 1, _, by omega, by go_num, rfl, HR2.out⟩
        case measure => simp [intOf]; omega
    · obtain rfl : k = 8 := by omega
      clear hown hsz hcell hb8
      go_wp2
      go_ret
      rw [HG.out]
      exact HC.out.done (by omega)

set_option maxRecDepth 20000 in
set_option maxHeartbeats 1000000 in
theorem rreads_16 (d n m imm : Int) (w : World) (hk : chk 16 d n m imm = true) (h0 : 0 ≤ d) (h1 : d < 8) :
    Calls Tryd.prog 21 #[IV 16 d n m imm] w (ListOf w (onL (updB zB d.toNat) 8)) := by
  have Hk := Lib.hid hk; clear hk
  have s0 := BA_set0 d.toNat (by omega)
  go_enter Tryd.func21, Tryd.ntmps21
  go_wp2_with fail
  refine (ref_yes _ _ _ _ _ _ Hk.out).mono ?_
  rintro e w1 ⟨rfl, hb1⟩
  obtain ⟨hc, hf⟩ := bcell hb1
  have hz0 : w.heap.size < w1.heap.size := by have := hb1.size; simp at this; omega
  have hz1 : w.heap.size < w1.heap.size + 1 := by omega
  have B1 : Below w.heap.size w w1 := Below.trans (by go_grown) (hb1.mono (by simp))
  go_wp2_with fail
  obtain ⟨b, eb⟩ : ∃ b : Nat → Bool, b = updB zB d.toNat := ⟨_, rfl⟩
  have HB := Lib.hid (show CollB w1.heap.size w b 0 (.slice none 0 0) (w1.alloc (.cells (BA (updB zB d.toNat)) 72)) by rw [← eb]; exact CollB.start B1)
  have HG := Lib.hid (show onL (updB zB d.toNat) 8 = onL b 8 by rw [eb])
  clear eb hc hf hb1 B1 s0
  obtain ⟨i0, hi, hy0, hys, hyb⟩ := info_parts info3
  go_loopw [5, 6] (fun v i wr => ∃ (k : Nat) (u : Value), k ≤ 8 ∧ i = .int .i64 k ∧ u = v ∧ CollB w1.heap.size w b k u wr) (fun _ i _ => 8 - (intOf i).toNat)
  case atStart => exact ⟨0, _, by omega, rfl, rfl, HB.out⟩
  case round =>
    obtain ⟨k, v, hk, rfl, rfl, hrel⟩ := hrel
    have HC := Lib.hid hrel
    obtain ⟨hown, hBl, hsz, hcell⟩ := hrel
    have hb8 := HC
    clear hBl HB
    by_cases hlt : k < 8
    · have hl := onL_le b k
      have hck := hcell k hlt
      clear hcell
      cases hbk : b k with
      | true =>
        have HK := Lib.hid hbk
        rw [hbk] at hck
        clear hbk
        have hsz2 := Nat.lt_succ_of_lt hsz
        go_wp2_with (at_builtin; refine wpList_append_own _ rfl _ _ 37 rfl (w1.heap.size + 1) 3 i0 (.int .i64 0) 1 8 Tryd.underlying37 hi hy0 hys hyb rfl (by decide) _ _ _ rfl (hown.alloc _) ⟨wr.heap.size, 0, none⟩ 1 1 [.int .i64 (k : Int)] rfl rfl ?c1 ?c2 ?c3 ?c4 ?c5 ?_)
        case c1 => exact cell_one_new _ _ _
        case c2 => simp [Value.oneCell']
        case c3 => unfold maxLen; omega
        case c4 => omega
        case c5 => simp; omega
        intro v' w3 hown3 hgrow _
        have HR2 := Lib.hid (HC.out.put (by omega) HK.out hown3 hgrow)
        clear hown hown3 hgrow hsz hsz2 hl HK HC hb8 hck
        go_wp2
        go_roundw
        case rel => exact ⟨k + 1, _, by omega, by go_num, rfl, HR2.out⟩
        case measure => simp [intOf]; omega
      | false =>
        rw [hbk] at hck
        have HR2 := Lib.hid (HC.out.keep hbk)
        clear hown hsz hl hbk HC hb8
        go_wp2
        go_roundw
        case rel => exact ⟨k + 1, _, by omega, by go_num, rfl, HR2.out⟩
        case measure => simp [intOf]; omega
    · obtain rfl : k = 8 := by omega
      clear hown hsz hcell hb8
      go_wp2
      go_ret
      rw [HG.out]
      exact HC.out.done (by omega)

set_option maxRecDepth 20000 in
set_option maxHeartbeats 1000000 in
theorem rreads_17 (d n m imm : Int) (w : World) (hk : chk 17 d n m imm = true) :
    Calls Tryd.prog 21 #[IV 17 d n m imm] w (ListOf w (onL (fun k => decide (k < 4)) 8)) := by
  have Hk := Lib.hid hk; clear hk
  go_enter Tryd.func21, Tryd.ntmps21
  go_wp2_with fail
  refine (ref_yes _ _ _ _ _ _ Hk.out).mono ?_
  rintro e w1 ⟨rfl, hb1⟩
  obtain ⟨hc, hf⟩ := bcell hb1
  have hz0 : w.heap.size < w1.heap.size := by have := hb1.size; simp at this; omega
  have hz1 : w.heap.size < w1.heap.size + 1 := by omega
  have B1 : Below w.heap.size w w1 := Below.trans (by go_grown) (hb1.mono (by simp))
  go_wp2_with fail
  refine wp_loop_rounds 5 ?_
  rw [rounds_succ]
  go_wp2_with fail
  rw [rounds_succ]
  go_wp2_with fail
  rw [rounds_succ]
  go_wp2_with fail
  rw [rounds_succ]
  go_wp2_with fail
  rw [rounds_succ]
  go_wp2_with fail
  obtain ⟨b, eb⟩ : ∃ b : Nat → Bool, b = fun k => decide (k < 4) := ⟨_, rfl⟩
  have HB := Lib.hid (show CollB w1.heap.size w b 0 (.slice none 0 0) (w1.alloc (.cells (BA (fun k => decide (k < 4))) 72)) by rw [← eb]; exact CollB.start B1)
  have HG := Lib.hid (show onL (fun k => decide (k < 4)) 8 = onL b 8 by rw [eb])
  clear eb hc hf hb1 B1 
  obtain ⟨i0, hi, hy0, hys, hyb⟩ := info_parts info3
  go_loopw [5, 6] (fun v i wr => ∃ (k : Nat) (u : Value), k ≤ 8 ∧ i = .int .i64 k ∧ u = v ∧ CollB w1.heap.size w b k u wr) (fun _ i _ => 8 - (intOf i).toNat)
  case atStart => exact ⟨0, _, by omega, rfl, rfl, HB.out⟩
  case round =>
    obtain ⟨k, v, hk, rfl, rfl, hrel⟩ := hrel
    have HC := Lib.hid hrel
    obtain ⟨hown, hBl, hsz, hcell⟩ := hrel
    have hb8 := HC
    clear hBl HB
    by_cases hlt : k < 8
    · have hl := onL_le b k
      have hck := hcell k hlt
      clear hcell
      cases hbk : b k with
      | true =>
        have HK := Lib.hid hbk
        rw [hbk] at hck
        clear hbk
        have hsz2 := Nat.lt_succ_of_lt hsz
        go_wp2_with (at_builtin; refine wpList_append_own _ rfl _ _ 37 rfl (w1.heap.size + 1) 3 i0 (.int .i64 0) 1 8 Tryd.underlying37 hi hy0 hys hyb rfl (by decide) _ _ _ rfl (hown.alloc _) ⟨wr.heap.size, 0, none⟩ 1 1 [.int .i64 (k : Int)] rfl rfl ?c1 ?c2 ?c3 ?c4 ?c5 ?_)
        case c1 => exact cell_one_new _ _ _
        case c2 => simp [Value.oneCell']
        case c3 => unfold maxLen; omega
        case c4 => omega
        case c5 => simp; omega
        intro v' w3 hown3 hgrow _
        have HR2 := Lib.hid (HC.out.put (by omega) HK.out hown3 hgrow)
        clear hown hown3 hgrow hsz hsz2 hl HK HC hb8 hck
        go_wp2
        go_roundw
        case rel => exact ⟨k + 1, _, by omega, by go_num, rfl, HR2.out⟩
        case measure => simp [intOf]; omega
      | false =>
        rw [hbk] at hck
        have HR2 := Lib.hid (HC.out.keep hbk)
        clear hown hsz hl hbk HC hb8
        go_wp2
        go_roundw
        case rel => exact ⟨k + 1, _, by omega, by go_num, rfl, HR2.out⟩
        case measure => simp [intOf]; omega
    · obtain rfl : k = 8 := by omega
      clear hown hsz hcell hb8
      go_wp2
      go_ret
      rw [HG.out]
      exact HC.out.done (by omega)

set_option maxRecDepth 20000 in
set_option maxHeartbeats 1000000 in
theorem rreads_18 (d n m imm : Int) (w : World) (hk : chk 18 d n m imm = true) :
    Calls Tryd.prog 21 #[IV 18 d n m imm] w (ListOf w (onL (zB) 8)) := by
  have Hk := Lib.hid hk; clear hk
  go_enter Tryd.func21, Tryd.ntmps21
  go_wp2_with fail
  refine (ref_yes _ _ _ _ _ _ Hk.out).mono ?_
  rintro e w1 ⟨rfl, hb1⟩
  obtain ⟨hc, hf⟩ := bcell hb1
  have hz0 : w.heap.size < w1.heap.size := by have := hb1.size; simp at this; omega
  have hz1 : w.heap.size < w1.heap.size + 1 := by omega
  have B1 : Below w.heap.size w w1 := Below.trans (by go_grown) (hb1.mono (by simp))
  go_wp2_with fail
  obtain ⟨b, eb⟩ : ∃ b : Nat → Bool, b = zB := ⟨_, rfl⟩
  have HB := Lib.hid (show CollB w1.heap.size w b 0 (.slice none 0 0) (w1.alloc (.cells (BA (zB)) 72)) by rw [← eb]; exact CollB.start B1)
  have HG := Lib.hid (show onL (zB) 8 = onL b 8 by rw [eb])
  clear eb hc hf hb1 B1 
  obtain ⟨i0, hi, hy0, hys, hyb⟩ := info_parts info3
  go_loopw [5, 6] (fun v i wr => ∃ (k : Nat) (u : Value), k ≤ 8 ∧ i = .int .i64 k ∧ u = v ∧ CollB w1.heap.size w b k u wr) (fun _ i _ => 8 - (intOf i).toNat)
  case atStart => exact ⟨0, _, by omega, rfl, rfl, HB.out⟩
  case round =>
    obtain ⟨k, v, hk, rfl, rfl, hrel⟩ := hrel
    have HC := Lib.hid hrel
    obtain ⟨hown, hBl, hsz, hcell⟩ := hrel
    have hb8 := HC
    clear hBl HB
    by_cases hlt : k < 8
    · have hl := onL_le b k
      have hck := hcell k hlt
      clear hcell
      cases hbk : b k with
      | true =>
        have HK := Lib.hid hbk
        rw [hbk] at hck
        clear hbk
        have hsz2 := Nat.lt_succ_of_lt hsz
        go_wp2_with (at_builtin; refine wpList_append_own _ rfl _ _ 37 rfl (w1.heap.size + 1) 3 i0 (.int .i64 0) 1 8 Tryd.underlying37 hi hy0 hys hyb rfl (by decide) _ _ _ rfl (hown.alloc _) ⟨wr.heap.size, 0, none⟩ 1 1 [.int .i64 (k : Int)] rfl rfl ?c1 ?c2 ?c3 ?c4 ?c5 ?_)
        case c1 => exact cell_one_new _ _ _
        case c2 => simp [Value.oneCell']
        case c3 => unfold maxLen; omega
        case c4 => omega
        case c5 => simp; omega
        intro v' w3 hown3 hgrow _
        have HR2 := Lib.hid (HC.out.put (by omega) HK.out hown3 hgrow)
        clear hown hown3 hgrow hsz hsz2 hl HK HC hb8 hck
        go_wp2
        go_roundw
        case rel => exact ⟨k + 1, _, by omega, by go_num, rfl, HR2.out⟩
        case measure => simp [intOf]; omega
      | false =>
        rw [hbk] at hck
        have HR2 := Lib.hid (HC.out.keep hbk)
        clear hown hsz hl hbk HC hb8
        go_wp2
        go_roundw
        case rel => exact ⟨k + 1, _, by omega, by go_num, rfl, HR2.out⟩
        case measure => simp [intOf]; omega
    · obtain rfl : k = 8 := by omega
      clear hown hsz hcell hb8
      go_wp2
      go_ret
      rw [HG.out]
      exact HC.out.done (by omega)

theorem rreads_yes (op d n m imm : Int) (w : World) (hk : chk op d n m imm = true) :
    Calls Tryd.prog 21 #[IV op d n m imm] w (ListOf w (onL (rdB op d n m) 8)) := by
  obtain ⟨ho, ⟨h0, h1⟩, ⟨h2, h3⟩, ⟨h4, h5⟩⟩ := chk_lo hk
  rcases op_cases ho with rfl | rfl | rfl | rfl | rfl | rfl | rfl | rfl | rfl | rfl | rfl | rfl | rfl | rfl | rfl | rfl | rfl | rfl | rfl
  · exact rreads_0 d n m imm w hk
  · exact rreads_1 d n m imm w hk
  · exact rreads_2 d n m imm w hk h2 h3 h4 h5
  · exact rreads_3 d n m imm w hk h2 h3 h4 h5
  · exact rreads_4 d n m imm w hk h2 h3 h4 h5
  · exact rreads_5 d n m imm w hk h2 h3 h4 h5
  · exact rreads_6 d n m imm w hk h2 h3 h4 h5
  · exact rreads_7 d n m imm w hk h2 h3
  · exact rreads_8 d n m imm w hk h2 h3
  · exact rreads_9 d n m imm w hk h0 h1 h2 h3
  · exact rreads_10 d n m imm w hk h2 h3
  · exact rreads_11 d n m imm w hk h0 h1 h2 h3
  · exact rreads_12 d n m imm w hk h0 h1 h2 h3
  · exact rreads_13 d n m imm w hk
  · exact rreads_14 d n m imm w hk
  · exact rreads_15 d n m imm w hk h0 h1
  · exact rreads_16 d n m imm w hk h0 h1
  · exact rreads_17 d n m imm w hk
  · exact rreads_18 d n m imm w hk

/-- the registers that an instruction reads -/
def rdL (op d n m imm : Int) : List Int := if chk op d n m imm then onL (rdB op d n m) 8 else []
theorem reads_any (op d n m imm : Int) (w : World) (hS : Shapes w) : Calls Tryd.prog 14 #[IV op d n m imm] w (ListOf w (rdL op d n m imm)) := by
  unfold rdL
  cases hk : chk op d n m imm with
  | true => exact reads_yes op d n m imm w hS hk
  | false => exact reads_no op d n m imm w hS hk
theorem rreads_any (op d n m imm : Int) (w : World) : Calls Tryd.prog 21 #[IV op d n m imm] w (ListOf w (rdL op d n m imm)) := by
  unfold rdL
  cases hk : chk op d n m imm with
  | true => exact rreads_yes op d n m imm w hk
  | false => exact rreads_no op d n m imm w hk
end Go.Proofs.YthfikhfhflinfaaDoor
