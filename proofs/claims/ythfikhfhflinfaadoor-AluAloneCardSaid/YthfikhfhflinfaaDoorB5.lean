/- AluAlone: the cases joined. -/
import Derived.Test.YthfikhfhflinfaaDoorB3
namespace Go.Proofs.YthfikhfhflinfaaDoor
open Go.RowKit

set_option maxRecDepth 20000 in
set_option maxHeartbeats 400000 in
theorem alone_lo (op d n m imm pc k other : Int) (r : Nat → Int) (w : World) (hS : Shapes w) (h : pc < -2147483648) :
    Calls Tryd.prog 5 #[IV op d n m imm, RV r, .int .i64 pc, .int .i64 k, .int .u64 other] w fun e w' => e = .returned (.bool true) ∧ Below w.heap.size w w' := by
  go_enter Tryd.func5, Tryd.ntmps5
  go_wp2_with fail
  refine (wakes_any _ ((hS.alloc _).alloc _)).mono ?_
  rintro e w1 ⟨rfl, hb1⟩
  have B1 : Below w.heap.size w w1 := Below.trans (by go_grown) (hb1.mono (by simp; omega))
  go_wp2_with fail
  go_returns
  exact ⟨rfl, B1⟩
set_option maxRecDepth 20000 in
set_option maxHeartbeats 400000 in
theorem alone_hi (op d n m imm pc k other : Int) (r : Nat → Int) (w : World) (hS : Shapes w) (h : 2147483648 < pc) :
    Calls Tryd.prog 5 #[IV op d n m imm, RV r, .int .i64 pc, .int .i64 k, .int .u64 other] w fun e w' => e = .returned (.bool true) ∧ Below w.heap.size w w' := by
  have h2 : -2147483648 ≤ pc := by omega
  go_enter Tryd.func5, Tryd.ntmps5
  go_wp2_with fail
  refine (wakes_any _ ((hS.alloc _).alloc _)).mono ?_
  rintro e w1 ⟨rfl, hb1⟩
  have B1 : Below w.heap.size w w1 := Below.trans (by go_grown) (hb1.mono (by simp; omega))
  go_wp2_with fail
  go_returns
  exact ⟨rfl, B1⟩
set_option maxRecDepth 20000 in
set_option maxHeartbeats 400000 in
theorem alone_err (op d n m imm pc k other x : Int) (r : Nat → Int) (w : World) (hS : Shapes w) (h1 : -2147483648 ≤ pc) (h2 : pc ≤ 2147483648) (hx : (x != 0) = true)
    (hD : ∀ w, Shapes w → Calls Tryd.prog 11 #[IV op d n m imm, RV r, .int .i64 pc] w fun e w' => e = .returned (.tuple #[RV r, .int .i64 pc, .int .i64 x]) ∧ Below w.heap.size w w') :
    Calls Tryd.prog 5 #[IV op d n m imm, RV r, .int .i64 pc, .int .i64 k, .int .u64 other] w fun e w' => e = .returned (.bool true) ∧ Below w.heap.size w w' := by
  have HD := Lib.hid hD
  clear hD
  go_enter Tryd.func5, Tryd.ntmps5
  go_wp2_with fail
  refine (HD.out _ ((hS.alloc _).alloc _)).mono ?_
  rintro e w1 ⟨rfl, hb1⟩
  have S1 := ((hS.alloc (.cells #[.int .i8 op, .int .i8 d, .int .i8 n, .int .i8 m, .int .i64 imm] 24)).alloc (.cells (RA r) 26)).below (by simp) hb1
  obtain ⟨hc, hf⟩ := bcell hb1
  have hz0 : w.heap.size + 1 < w1.heap.size := by have := hb1.size; simp at this; omega
  have B1 : Below w.heap.size w w1 := Below.trans (by go_grown) (hb1.mono (by simp; omega))
  have hz1 : w.heap.size < w1.heap.size := by omega
  have hz2 : w.heap.size < w1.heap.size + 1 := by omega
  have hz3 : w.heap.size + 1 < w1.heap.size + 1 := by omega
  have he : ∀ w : World, (binOp .eql 26 (.agg (RA r)) (.agg (RA r))).run Tryd.prog w = .ok (.bool true) w := fun w => by rw [eq_regs, eqR_same]
  go_wp2_with fail
  refine (wakes_any _ (S1.alloc _)).mono ?_
  rintro e w3 ⟨rfl, hb3⟩
  have B3 : Below w.heap.size w w3 := (B1.alloc (by omega) _).trans (hb3.mono (by simp; omega))
  go_wp2_with fail
  go_returns
  exact ⟨rfl, B3⟩

theorem rest8 {t : Int} (h0 : -7 ≤ t) (h1 : t ≤ 7) : ∃ K : Nat, t % 8 = (K : Int) ∧ K < 8 := by
  by_cases h : 0 ≤ t
  · exact ⟨t.toNat, by omega, by omega⟩
  · exact ⟨(t + 8).toNat, by omega, by omega⟩

theorem alone_any (op d n m imm pc k other : Int) (r : Nat → Int) (w : World) (hS : Shapes w) :
    Calls Tryd.prog 5 #[IV op d n m imm, RV r, .int .i64 pc, .int .i64 k, .int .u64 other] w fun e w' => e = .returned (.bool true) ∧ Below w.heap.size w w' := by
  by_cases h1 : pc < -2147483648
  · exact alone_lo op d n m imm pc k other r w hS h1
  by_cases h2 : 2147483648 < pc
  · exact alone_hi op d n m imm pc k other r w hS h2
  cases hk : chk op d n m imm && isAlu op with
  | false =>
    refine alone_err op d n m imm pc k other (doE op d n m imm) r w hS (by omega) (by omega) ?_ fun w hS => post_of (do_any op d n m imm pc r w hS) (tup (by simp [doR, hk]) (by simp [doP, hk]) rfl)
    unfold doE
    split
    · split
      · simp_all
      · simp
    · simp
  | true =>
    obtain ⟨hc, ha⟩ := Bool.and_eq_true_iff.1 hk
    obtain ⟨ho, hd, hn, hm⟩ := chk_lo hc
    obtain ⟨t, ht, ht0, ht1⟩ := kmod k
    obtain ⟨K, hK, hK8⟩ := rest8 ht0 ht1
    have hrd : (K : Int) ∉ rdL op d n m imm → rdB op d n m K = false := by
      intro hno
      cases hb : rdB op d n m K with
      | false => rfl
      | true => exact absurd (by unfold rdL; rw [if_pos hc]; exact onL_mem _ _ _ hK8 hb) hno
    refine alone_walk op d n m imm pc k other r w hS (by omega) (by omega) (aR op d n m imm r) (aR op d n m imm (upd r K other)) (aP op d imm r pc) (wB op d n m imm) (wI op d n m imm) t K (rdL op d n m imm) (rdL_le _ _ _ _ _) ht ht0 ht1 (by omega) hK8
      (fun w hS => post_of (do_any op d n m imm pc r w hS) (tup (by simp [doR, hk]) (by simp [doP, hk]) (by simp [doE, hc, ha])))
      (fun w hS => writes_any op d n m imm w hS) (fun w hS => reads_rd op d n m imm w hS)
      (fun hno w hS => post_of (do_any op d n m imm pc (upd r K other) w hS) (tup (by simp [doR, hk]) (by rw [(aR_alone op d n m imm r K other (hrd hno) ho ha).2 pc]; simp [doP, hk]) (by simp [doE, hc, ha])))
      ?_ ?_
    · intro j hj hne
      obtain ⟨⟨o1, o2⟩, hjd⟩ := aR_stays op d n m imm r j hne
      have e1 : (op == 11) = false := by rw [beq_eq_false_iff_ne]; omega
      have n1 : ¬ op = 11 := by omega
      have n2 : ¬ op = 17 := by omega
      constructor
      · unfold wB wrB; rw [hc]; simp; omega
      · unfold wI wrI
        have : (chk op d n m imm && wrB op) = true := by unfold wrB; rw [hc]; simp; omega
        rw [if_pos this, if_neg n1, if_neg n2]; omega
    · intro hno j hj hor
      refine (aR_alone op d n m imm r K other (hrd hno) ho ha).1 j ?_
      rcases hor with h | ⟨hw, hwi⟩
      · exact .inl h
      · refine (Classical.em (j = K)).elim (fun hjK => .inr ?_) .inl
        unfold wB wrB at hw
        rw [hc] at hw
        unfold wI wrI at hwi
        unfold isAlu at ha
        simp at hw ha
        have n1 : ¬ op = 11 := by omega
        have n2 : ¬ op = 17 := by omega
        have : (chk op d n m imm && wrB op) = true := by unfold wrB; rw [hc]; simp; omega
        rw [if_pos this, if_neg n1, if_neg n2] at hwi
        omega
end Go.Proofs.YthfikhfhflinfaaDoor
