/- AluAlone's walk. -/
import Derived.Test.YthfikhfhflinfaaDoorP3
import Derived.Test.YthfikhfhflinfaaDoorB4
import Derived.Test.YthfikhfhflinfaaDoorB2
namespace Go.Proofs.YthfikhfhflinfaaDoor
open Go.RowKit

theorem kmod (k : Int) : ∃ t : Int, k.tmod 8 = t ∧ -7 ≤ t ∧ t ≤ 7 := by
  have h1 := Int.tmod_lt_of_pos k (b := 8) (by decide)
  have h2 := Int.tmod_lt_of_pos (-k) (b := 8) (by decide)
  rw [Int.neg_tmod] at h2
  exact ⟨k.tmod 8, rfl, by omega, by omega⟩

set_option maxRecDepth 20000 in
set_option maxHeartbeats 4000000 in
theorem alone_walk (op d n m imm pc k other : Int) (r : Nat → Int) (w : World) (hS : Shapes w) (h1 : -2147483648 ≤ pc) (h2 : pc ≤ 2147483648)
    (a b : Nat → Int) (p : Int) (wb : Bool) (wi t : Int) (K : Nat) (L : List Int) (hL8 : L.length ≤ 8)
    (hkt : k.tmod 8 = t) (ht0 : -7 ≤ t) (ht1 : t ≤ 7) (hK : (t + 8) % 8 = (K : Int)) (hK8 : K < 8)
    (hD : ∀ w, Shapes w → Calls Tryd.prog 11 #[IV op d n m imm, RV r, .int .i64 pc] w fun e w' => e = .returned (.tuple #[RV a, .int .i64 p, .int .i64 0]) ∧ Below w.heap.size w w')
    (hW : ∀ w, Shapes w → Calls Tryd.prog 13 #[IV op d n m imm] w fun e w' => e = .returned (.tuple #[.int .i64 wi, .bool wb]) ∧ Below w.heap.size w w')
    (hR : ∀ w, Shapes w → Calls Tryd.prog 14 #[IV op d n m imm] w fun e w' => ∃ v, e = .returned v ∧ Reads w' v L ∧ Below w.heap.size w w')
    (hD2 : (K : Int) ∉ L → ∀ w, Shapes w → Calls Tryd.prog 11 #[IV op d n m imm, RV (upd r K other), .int .i64 pc] w fun e w' => e = .returned (.tuple #[RV b, .int .i64 p, .int .i64 0]) ∧ Below w.heap.size w w')
    (hst : ∀ j : Nat, j < 8 → a j ≠ r j → wb = true ∧ wi = (j : Int))
    (hab : (K : Int) ∉ L → ∀ j : Nat, j < 8 → (j ≠ K ∨ (wb = true ∧ wi = (j : Int))) → a j = b j) :
    Calls Tryd.prog 5 #[IV op d n m imm, RV r, .int .i64 pc, .int .i64 k, .int .u64 other] w fun e w' => e = .returned (.bool true) ∧ Below w.heap.size w w' := by
  have HD := Lib.hid hD
  have HW := Lib.hid hW
  have HR := Lib.hid hR
  have HD2 := Lib.hid hD2
  have HST := Lib.hid hst
  have HAB0 := Lib.hid hab
  have HK := Lib.hid hK
  have HKT := Lib.hid hkt
  clear hD hW hR hD2 hst hab hK hkt
  go_enter Tryd.func5, Tryd.ntmps5
  go_wp2_with fail
  refine (HD.out _ ((hS.alloc _).alloc _)).mono ?_
  rintro e w1 ⟨rfl, hb1⟩
  have S1 : Shapes w1 := Shapes.below (by exact (hS.alloc _).alloc _) (by simp) hb1
  obtain ⟨hc1, hf1⟩ := bcell hb1
  have B1 : Below w.heap.size w w1 := Below.trans (by go_grown) (hb1.mono (by simp; omega))
  have hz1 : w.heap.size + 1 < w1.heap.size := by have := hb1.size; simp at this; omega
  have hz0 : w.heap.size < w1.heap.size := by omega
  have hz2 : w.heap.size < w1.heap.size + 1 := by omega
  have hz3 : w.heap.size + 1 < w1.heap.size + 1 := by omega
  go_wp2_with fail
  refine (HW.out _ (S1.alloc _)).mono ?_
  rintro e w2 ⟨rfl, hb2⟩
  have S2 : Shapes w2 := Shapes.below (by exact S1.alloc _) (by simp) hb2
  have B2 : Below w.heap.size w w2 := (B1.alloc (by omega) _).trans (hb2.mono (by simp; omega))
  have hq2 := hb2.size
  simp at hq2
  have I2 : ∀ o, w2.cell? ⟨w.heap.size, o, none⟩ = #[.int .i8 op, .int .i8 d, .int .i8 n, .int .i8 m, .int .i64 imm][o]? := fun o => by
    rw [hb2.cell (p := ⟨w.heap.size, o, none⟩) (by simp; omega)]; go_simp
  have R2 : ∀ o, w2.cell? ⟨w.heap.size + 1, o, none⟩ = (RA r)[o]? := fun o => by
    rw [hb2.cell (p := ⟨w.heap.size + 1, o, none⟩) (by simp; omega)]; go_simp
  have A2 : ∀ o, w2.cell? ⟨w1.heap.size, o, none⟩ = (RA a)[o]? := fun o => by
    rw [hb2.cell (p := ⟨w1.heap.size, o, none⟩) (by simp)]; exact World.cell?_alloc_new _ _ _ _
  clear hc1 hf1 hb1 hb2 S1 B1
  go_wp2_with fail
  go_loopw [57] (fun i wr => ∃ j q : Nat, j ≤ 8 ∧ i = .int .i64 j ∧ wr = w2.drewN q) (fun i _ => 8 - (intOf i).toNat)
  case atStart => exact ⟨0, 0, by omega, rfl, rfl⟩
  case round =>
    obtain ⟨j, q, hj, rfl, rfl⟩ := hrel
    by_cases hlt : j < 8
    · have f1 := RL_get a j hlt
      have f2 := RL_get r j hlt
      have i0 : (0 : Int) ≤ (j : Int) := by omega
      have i1 : (j : Int) < 8 := by omega
      by_cases e : a j = r j
      · have t1 : (a j != r j) = false := by rw [e]; simp
        clear e
        go_wp2_with fail
        go_quiet (fail)
        go_wp2_with fail
        exact ⟨⟨j + 1, _, by omega, by go_num, rfl⟩, by simp [intOf]; omega⟩
      · obtain ⟨e1, e2⟩ := HST.out j hlt e
        have t1 : (a j != r j) = true := by simpa using e
        have t2 : ((j : Int) != wi) = false := by rw [e2]; simp
        clear e e2
        subst e1
        go_wp2_with fail
        go_quiet (fail)
        go_wp2_with fail
        exact ⟨⟨j + 1, _, by omega, by go_num, rfl⟩, by simp [intOf]; omega⟩
    · obtain rfl : j = 8 := by omega
      have HKT2 := HKT.out
      have HK2 := HK.out
      go_wp2_with fail
      refine (HR.out _ (shapes_drewN S2 q)).mono ?_
      rintro e w3 ⟨v, rfl, hra, hb3⟩
      have S3 : Shapes w3 := Shapes.below (shapes_drewN S2 q) (shapes_drewN S2 q).size hb3
      have B3 : Below w.heap.size w w3 := (below_drewN B2 q).trans (hb3.mono (by simpa using B2.size))
      have hq3 : w2.heap.size ≤ w3.heap.size := hb3.size
      have I3 : ∀ o, w3.cell? ⟨w.heap.size, o, none⟩ = #[.int .i8 op, .int .i8 d, .int .i8 n, .int .i8 m, .int .i64 imm][o]? := fun o => (hb3.cell (p := ⟨w.heap.size, o, none⟩) (by show w.heap.size < w2.heap.size; omega)).trans (I2 o)
      have R3 : ∀ o, w3.cell? ⟨w.heap.size + 1, o, none⟩ = (RA r)[o]? := fun o => (hb3.cell (p := ⟨w.heap.size + 1, o, none⟩) (by show w.heap.size + 1 < w2.heap.size; omega)).trans (R2 o)
      have A3 : ∀ o, w3.cell? ⟨w1.heap.size, o, none⟩ = (RA a)[o]? := fun o => (hb3.cell (p := ⟨w1.heap.size, o, none⟩) (by show w1.heap.size < w2.heap.size; omega)).trans (A2 o)
      rw [HK2]
      clear HKT2 HK2 I2 R2 A2 hb3 S2 B2 HKT
      have hs := fun v => RA_set r K v hK8
      have hy0 : (0 : Int) ≤ (K : Int) := by omega
      have hy1 : (K : Int) < 8 := by omega
      have hz4 : w.heap.size < w3.heap.size := by omega
      have hz5 : w.heap.size + 1 < w3.heap.size := by omega
      have hz6 : w1.heap.size < w3.heap.size := by omega
      have hz7 : w.heap.size < w3.heap.size + 1 := by omega
      rcases hra with ⟨rfl, hL⟩ | ⟨g, cap, rfl, hg, hcells⟩
      · have hKL : (K : Int) ∉ L := by rw [hL]; simp
        have H2 := Lib.hid (HD2.out hKL)
        have HAB := Lib.hid (HAB0.out hKL)
        clear hL hKL
        go_wp2_with fail
        refine wp_loop_rounds 1 ?_
        rw [rounds_succ]

        go_wp2_with fail
        refine (H2.out _ (((S3.alloc (.cells (RA (upd r K other)) 26))))).mono ?_
        rintro e w4 ⟨rfl, hb4⟩
        have S4 : Shapes w4 := Shapes.below (by exact (((S3.alloc (.cells (RA (upd r K other)) 26))))) (by simp) hb4
        have hq4 := hb4.size
        simp at hq4
        obtain ⟨z, ez⟩ : ∃ z, z = w4.alloc (.cells (RA b) 26) := ⟨_, rfl⟩
        have B4 : Below w.heap.size w w4 := (B3.alloc (by omega) _).trans (hb4.mono (by simp; omega))
        have BZ : Below w.heap.size w z := by rw [ez]; exact B4.alloc (by omega) _
        have SZ : Shapes z := by rw [ez]; exact S4.alloc _
        have A4 : ∀ o, w4.cell? ⟨w1.heap.size, o, none⟩ = (RA a)[o]? := fun o => by rw [hb4.cell (p := ⟨w1.heap.size, o, none⟩) (by simp; omega), World.cell?_alloc_past _ _ _ (by omega)]; exact A3 o
        have zA : ∀ o, z.cell? ⟨w1.heap.size, o, none⟩ = (RA a)[o]? := fun o => by rw [ez, World.cell?_alloc_past _ _ _ (by omega)]; exact A4 o
        have zB' : ∀ o, z.cell? ⟨w4.heap.size, o, none⟩ = (RA b)[o]? := fun o => by rw [ez, World.cell?_alloc_new]
        have HZ := Lib.hid (And.intro zA zB')
        go_wp2_with fail
        rw [← ez]
        clear ez zA zB' A4 A3 hb4 B3 B4 S4 R3 hs
        go_loopw [105] (fun i wr => ∃ j q : Nat, j ≤ 8 ∧ i = .int .i64 j ∧ wr = z.drewN q) (fun i _ => 8 - (intOf i).toNat)
        case atStart => exact ⟨0, 0, by omega, rfl, rfl⟩
        case round =>
          obtain ⟨j, q, hj, rfl, rfl⟩ := hrel
          by_cases hlt : j < 8
          · have f1 := RL_get a j hlt
            have f2 := RL_get b j hlt
            have zA := HZ.out.1
            have zB2 := HZ.out.2
            have i0 : (0 : Int) ≤ (j : Int) := by omega
            have i1 : (j : Int) < 8 := by omega
            by_cases hjk : j = K
            · have t1 : ((j : Int) != (K : Int)) = false := by rw [hjk]; simp
              have t2 : ((j : Int) == (K : Int)) = true := by rw [hjk]; simp
              cases hwb : wb with
              | false =>
                clear hjk
                go_wp2_with fail
                go_quiet (fail)
                go_wp2_with fail
                exact ⟨⟨j + 1, _, by omega, by go_num, rfl⟩, by simp [intOf]; omega⟩
              | true =>
                by_cases hwk : wi = (K : Int)
                · have t3 : (wi == (K : Int)) = true := by rw [hwk]; simp
                  have t4 : (a j != b j) = false := by rw [HAB.out j (by omega) (.inr ⟨hwb, by rw [hwk, hjk]⟩)]; simp
                  clear hjk hwk
                  go_wp2_with fail
                  go_quiet (fail)
                  go_wp2_with fail
                  exact ⟨⟨j + 1, _, by omega, by go_num, rfl⟩, by simp [intOf]; omega⟩
                · have t3 : (wi == (K : Int)) = false := by rw [beq_eq_false_iff_ne]; exact hwk
                  clear hjk hwk
                  go_wp2_with fail
                  go_quiet (fail)
                  go_wp2_with fail
                  exact ⟨⟨j + 1, _, by omega, by go_num, rfl⟩, by simp [intOf]; omega⟩
            · have t1 : ((j : Int) != (K : Int)) = true := by simp; omega
              have t2 : ((j : Int) == (K : Int)) = false := by simp; omega
              have t4 : (a j != b j) = false := by rw [HAB.out j (by omega) (.inl hjk)]; simp
              clear hjk
              go_wp2_with fail
              go_quiet (fail)
              go_wp2_with fail
              exact ⟨⟨j + 1, _, by omega, by go_num, rfl⟩, by simp [intOf]; omega⟩
          · obtain rfl : j = 8 := by omega
            go_wp2_with fail
            refine (wakes_any _ (shapes_drewN SZ q)).mono ?_
            rintro e w5 ⟨rfl, hb5⟩
            have B5 : Below w.heap.size w w5 := (below_drewN BZ q).trans (hb5.mono (by simpa using BZ.size))
            go_wp2_with fail
            go_ret
            exact ⟨rfl, B5⟩

      · obtain ⟨nL, enL⟩ : ∃ nL, nL = L.length := ⟨_, rfl⟩
        rw [← enL] at hL8 hcells ⊢
        have HCL := Lib.hid hcells
        have HEN := Lib.hid enL
        clear hcells enL
        go_wp2_with fail
        go_loop [84] (fun i => ∃ x : Nat, x ≤ nL ∧ i = .int .i64 x ∧ ∀ y, y < x → L.getD y 0 ≠ (K : Int)) (fun i => nL - (intOf i).toNat)
        case atStart => exact ⟨0, by omega, rfl, fun y hy => by omega⟩
        case round =>
          obtain ⟨x, hx, rfl, hno⟩ := hrel
          have HNO := Lib.hid hno
          clear hno
          by_cases hlt : x < nL
          · have f1 := HCL.out x hlt
            by_cases e : L.getD x 0 = (K : Int)
            · rw [e] at f1
              clear e
              have t1 : ((K : Int) == (K : Int)) = true := by simp
              go_wp2_with fail
              refine (wakes_any _ S3).mono ?_
              rintro e w5 ⟨rfl, hb5⟩
              have B5 : Below w.heap.size w w5 := B3.trans (hb5.mono B3.size)
              go_wp2_with fail
              go_ret
              exact ⟨rfl, B5⟩
            · obtain ⟨y, ey⟩ : ∃ y, y = L.getD x 0 := ⟨_, rfl⟩
              rw [← ey] at f1 e
              have t1 : (y == (K : Int)) = false := by rw [beq_eq_false_iff_ne]; exact e
              have HN2 := Lib.hid (show ∀ z, z < x + 1 → L.getD z 0 ≠ (K : Int) from fun z hz => by
                by_cases hzx : z = x
                · subst hzx; rw [← ey]; exact e
                · exact HNO.out z (by omega))
              clear e ey
              go_wp2_with fail
              exact ⟨⟨x + 1, by omega, by go_num, HN2.out⟩, by simp [intOf]; omega⟩
          · have hKL : (K : Int) ∉ L := by
              intro hm
              obtain ⟨y, hy, hy2⟩ := List.mem_iff_getElem.1 hm
              refine HNO.out y (by have := HEN.out; omega) ?_
              rw [List.getD_eq_getElem?_getD, List.getElem?_eq_getElem hy, hy2]; rfl
            have H2 := Lib.hid (HD2.out hKL)
            have HAB := Lib.hid (HAB0.out hKL)
            clear hKL

            go_wp2_with fail
            refine (H2.out _ (((S3.alloc (.cells (RA (upd r K other)) 26))))).mono ?_
            rintro e w4 ⟨rfl, hb4⟩
            have S4 : Shapes w4 := Shapes.below (by exact (((S3.alloc (.cells (RA (upd r K other)) 26))))) (by simp) hb4
            have hq4 := hb4.size
            simp at hq4
            obtain ⟨z, ez⟩ : ∃ z, z = w4.alloc (.cells (RA b) 26) := ⟨_, rfl⟩
            have B4 : Below w.heap.size w w4 := (B3.alloc (by omega) _).trans (hb4.mono (by simp; omega))
            have BZ : Below w.heap.size w z := by rw [ez]; exact B4.alloc (by omega) _
            have SZ : Shapes z := by rw [ez]; exact S4.alloc _
            have A4 : ∀ o, w4.cell? ⟨w1.heap.size, o, none⟩ = (RA a)[o]? := fun o => by rw [hb4.cell (p := ⟨w1.heap.size, o, none⟩) (by simp; omega), World.cell?_alloc_past _ _ _ (by omega)]; exact A3 o
            have zA : ∀ o, z.cell? ⟨w1.heap.size, o, none⟩ = (RA a)[o]? := fun o => by rw [ez, World.cell?_alloc_past _ _ _ (by omega)]; exact A4 o
            have zB' : ∀ o, z.cell? ⟨w4.heap.size, o, none⟩ = (RA b)[o]? := fun o => by rw [ez, World.cell?_alloc_new]
            have HZ := Lib.hid (And.intro zA zB')
            go_wp2_with fail
            rw [← ez]
            clear ez zA zB' A4 A3 hb4 B3 B4 S4 R3 hs
            go_loopw [105] (fun i wr => ∃ j q : Nat, j ≤ 8 ∧ i = .int .i64 j ∧ wr = z.drewN q) (fun i _ => 8 - (intOf i).toNat)
            case atStart => exact ⟨0, 0, by omega, rfl, rfl⟩
            case round =>
              obtain ⟨j, q, hj, rfl, rfl⟩ := hrel
              by_cases hlt : j < 8
              · have f1 := RL_get a j hlt
                have f2 := RL_get b j hlt
                have zA := HZ.out.1
                have zB2 := HZ.out.2
                have i0 : (0 : Int) ≤ (j : Int) := by omega
                have i1 : (j : Int) < 8 := by omega
                by_cases hjk : j = K
                · have t1 : ((j : Int) != (K : Int)) = false := by rw [hjk]; simp
                  have t2 : ((j : Int) == (K : Int)) = true := by rw [hjk]; simp
                  cases hwb : wb with
                  | false =>
                    clear hjk
                    go_wp2_with fail
                    go_quiet (fail)
                    go_wp2_with fail
                    exact ⟨⟨j + 1, _, by omega, by go_num, rfl⟩, by simp [intOf]; omega⟩
                  | true =>
                    by_cases hwk : wi = (K : Int)
                    · have t3 : (wi == (K : Int)) = true := by rw [hwk]; simp
                      have t4 : (a j != b j) = false := by rw [HAB.out j (by omega) (.inr ⟨hwb, by rw [hwk, hjk]⟩)]; simp
                      clear hjk hwk
                      go_wp2_with fail
                      go_quiet (fail)
                      go_wp2_with fail
                      exact ⟨⟨j + 1, _, by omega, by go_num, rfl⟩, by simp [intOf]; omega⟩
                    · have t3 : (wi == (K : Int)) = false := by rw [beq_eq_false_iff_ne]; exact hwk
                      clear hjk hwk
                      go_wp2_with fail
                      go_quiet (fail)
                      go_wp2_with fail
                      exact ⟨⟨j + 1, _, by omega, by go_num, rfl⟩, by simp [intOf]; omega⟩
                · have t1 : ((j : Int) != (K : Int)) = true := by simp; omega
                  have t2 : ((j : Int) == (K : Int)) = false := by simp; omega
                  have t4 : (a j != b j) = false := by rw [HAB.out j (by omega) (.inl hjk)]; simp
                  clear hjk
                  go_wp2_with fail
                  go_quiet (fail)
                  go_wp2_with fail
                  exact ⟨⟨j + 1, _, by omega, by go_num, rfl⟩, by simp [intOf]; omega⟩
              · obtain rfl : j = 8 := by omega
                go_wp2_with fail
                refine (wakes_any _ (shapes_drewN SZ q)).mono ?_
                rintro e w5 ⟨rfl, hb5⟩
                have B5 : Below w.heap.size w w5 := (below_drewN BZ q).trans (hb5.mono (by simpa using BZ.size))
                go_wp2_with fail
                go_ret
                exact ⟨rfl, B5⟩

end Go.Proofs.YthfikhfhflinfaaDoor
