/- alu.Do by its contract, an operation a theorem. -/
import Derived.Test.YthfikhfhflinfaaDoorA3
namespace Go.Proofs.YthfikhfhflinfaaDoor
open Go.RowKit

theorem bcell {W w1 : World} (hb : Below W.heap.size W w1) : (∀ b o, b < W.heap.size → w1.cell? ⟨b, o, none⟩ = W.cell? ⟨b, o, none⟩) ∧ (∀ b o, b < W.heap.size → w1.frozen? ⟨b, o, none⟩ = W.frozen? ⟨b, o, none⟩) :=
  ⟨fun b o h => hb.cell (p := ⟨b, o, none⟩) h, fun b o h => hb.frozen (p := ⟨b, o, none⟩) h⟩
theorem bcell_drew {W w1 : World} (hb : Below W.drew.heap.size W.drew w1) : (∀ b o, b < W.heap.size → w1.cell? ⟨b, o, none⟩ = W.cell? ⟨b, o, none⟩) ∧ (∀ b o, b < W.heap.size → w1.frozen? ⟨b, o, none⟩ = W.frozen? ⟨b, o, none⟩) :=
  bcell (W := W.drew) hb
/-- Go's int, wrapped, is what it is -/
theorem below_undrew {B : Nat} {w w1 : World} (h : Below B w.drew w1) : Below B w w1 := ⟨h.os, h.tape, h.output, h.size, h.block⟩

theorem World.there_below {B b o n : Nat} {W w1 : World} (h : W.there b o n) (hb : Below B W w1) (hB : b < B) : w1.there b o n := fun j hj =>
  ⟨by rw [hb.cell (p := ⟨b, o + j, none⟩) hB]; exact (h j hj).1, by rw [hb.frozen (p := ⟨b, o + j, none⟩) hB]; exact (h j hj).2⟩
theorem size26 : (Tryd.prog.info? 26).map (·.size) = some 8 := by kernel_rfl
theorem results_mid3 {P : Program} {fn : Func} {p q s : Tmp} {ty : TypeId} (h : fn.results = #[.cell p ty, .tmp q, .tmp s]) (tmps : Array Value) (w : World) {b o : Nat} (hp : tmps.getD p undef = .pointer (some ⟨b, o, none⟩))
    {cs : List Value} {d : TypeDesc} (hc : w.rangeAt b o cs) (hu : P.underlying ty = some d) (hd : d.isRow = true) (hi : (P.info? ty).map (·.size) = some cs.length) :
    (results fn tmps).run P w = .ok (.tuple #[.agg cs.toArray, tmps.getD q undef, tmps.getD s undef]) w := by
  have hp' : tmps[p]?.getD undef = .pointer (some ⟨b, o, none⟩) := by simpa using hp
  simp [results, h, hp', asAddr, run_loadVar_mid w b o ty cs d hc hu hd hi]

theorem check_yes (op d n m imm : Int) (w : World) (hS : Shapes w) (h : chk op d n m imm = true) :
    Calls Tryd.prog 16 #[.agg #[.int .i8 op, .int .i8 d, .int .i8 n, .int .i8 m, .int .i64 imm]] w fun e w' => e = .returned (.int .i64 0) ∧ Below w.heap.size w w' :=
  (check_any op d n m imm w hS).mono fun e w' ⟨he, hw⟩ => ⟨by rw [he, h]; rfl, hw⟩
theorem check_no (op d n m imm : Int) (w : World) (hS : Shapes w) (h : chk op d n m imm = false) :
    Calls Tryd.prog 16 #[.agg #[.int .i8 op, .int .i8 d, .int .i8 n, .int .i8 m, .int .i64 imm]] w fun e w' => e = .returned (.int .i64 60) ∧ Below w.heap.size w w' :=
  (check_any op d n m imm w hS).mono fun e w' ⟨he, hw⟩ => ⟨by rw [he, h]; rfl, hw⟩

set_option maxRecDepth 20000 in
set_option maxHeartbeats 400000 in
theorem do_no (op d n m imm pc : Int) (r : Nat → Int) (w : World) (hS : Shapes w) (hk : chk op d n m imm = false) :
    Calls Tryd.prog 11 #[IV op d n m imm, RV r, .int .i64 pc] w fun e w' => e = .returned (.tuple #[RV r, .int .i64 pc, .int .i64 60]) ∧ Below w.heap.size w w' := by
  have Hk := Lib.hid hk; clear hk
  go_enter Tryd.func11, Tryd.ntmps11
  go_wp2_with fail
  refine (check_no _ _ _ _ _ _ (((hS.alloc _).alloc _).alloc _) Hk.out).mono ?_
  rintro e w1 ⟨rfl, hb1⟩
  obtain ⟨hc, hf⟩ := bcell hb1
  have hz2 : w.heap.size + 1 + 1 < w1.heap.size := by have := hb1.size; simp at this; omega
  have B1 : Below w.heap.size w w1 := Below.trans (by go_grown) (hb1.mono (by simp; omega))
  have HT1 := World.there_below (there_new ((w.alloc _).alloc _) #[.int .u64 0, .int .u64 0, .int .u64 0, .int .u64 0, .int .u64 0, .int .u64 0, .int .u64 0, .int .u64 0] 26 8 rfl) hb1 (by simp)
  simp at HT1
  go_wp2
  refine bodyPost_ret (w := w1.setCells (w.heap.size + 1 + 1) 0 (RL r)) (results_mid3 (b := w.heap.size + 1 + 1) (o := 0) rfl _ _ rfl (World.rangeAt_setCells_same _ _ _ _ HT1) Tryd.underlying26 rfl size26) rfl ?_
  refine ⟨rfl, Below.setCells (by omega) _ _ B1⟩

theorem eq_cl (k b : Nat) (w : World) : (binOp .eql 68 (cl k b) .nilFunc).run Tryd.prog w = .ok (.bool false) w := by kernel_rfl
theorem eq_fv (k : Nat) (w : World) : (binOp .eql 68 (fv k) .nilFunc).run Tryd.prog w = .ok (.bool false) w := by kernel_rfl
theorem eq_nil (w : World) : (binOp .eql 68 .nilFunc .nilFunc).run Tryd.prog w = .ok (.bool true) w := by kernel_rfl

theorem idx0 (B : Nat) (w : World) : (Instr.index 69 (opsV B) (.int .i8 0)).run Tryd.prog w = .ok (fv 44) w := by kernel_rfl

set_option maxRecDepth 20000 in
set_option maxHeartbeats 400000 in
theorem do_0 (d n m imm pc : Int) (r : Nat → Int) (w : World) (hS : Shapes w) (hk : chk 0 d n m imm = true) :
    Calls Tryd.prog 11 #[IV 0 d n m imm, RV r, .int .i64 pc] w fun e w' => e = .returned (.tuple #[RV (r), .int .i64 (wrap64 (pc + 1)), .int .i64 0]) ∧ Below w.heap.size w w' := by
  have Hk := Lib.hid hk; clear hk
  go_enter Tryd.func11, Tryd.ntmps11
  go_wp2_with fail
  refine (check_yes _ _ _ _ _ _ (((hS.alloc _).alloc _).alloc _) Hk.out).mono ?_
  rintro e w1 ⟨rfl, hb1⟩
  obtain ⟨hc, hf⟩ := bcell hb1
  have hz2 : w.heap.size + 1 + 1 < w1.heap.size := by have := hb1.size; simp at this; omega
  have hz1 : w.heap.size + 1 < w1.heap.size := by omega
  have hz0 : w.heap.size < w1.heap.size := by omega
  have B1 : Below w.heap.size w w1 := Below.trans (by go_grown) (hb1.mono (by simp; omega))
  have HT1 := World.there_below (there_new ((w.alloc _).alloc _) #[.int .u64 0, .int .u64 0, .int .u64 0, .int .u64 0, .int .u64 0, .int .u64 0, .int .u64 0, .int .u64 0] 26 8 rfl) hb1 (by simp)
  simp at HT1
  go_wp2_with fail
  have hix := idx0
  go_region_held3 (fun w' => w'.cell? ⟨w.heap.size, 0, none⟩ = some (.int .i8 0)) (first | (refine (hb2.cell (p := ⟨w.heap.size, 0, none⟩) ?_).trans ?_ <;> first | assumption | (simp; omega) | go_simp) | go_simp) (first | (go_at_call 31; refine (ops_any _).mono ?_; rintro e w2 ⟨rfl, hb2, ho⟩))
  clear hix
  have hB := hb2.size
  simp only [World.size_drew] at hB ho
  have hs := ho.size
  obtain ⟨hc2, hf2⟩ := bcell_drew hb2
  have B2 : Below w.heap.size w w2 := B1.trans (below_undrew (hb2.mono (by simp; omega)))
  have HT2 := World.there_below ((World.there_drew _ _ _ _).2 HT1) hb2 hz2
  have hz4 : w.heap.size + 1 + 1 < w2.heap.size := by omega
  have hz5 : w.heap.size + 1 < w2.heap.size := by omega
  have hz6 : w.heap.size < w2.heap.size := by omega
  have hq := eq_fv
  go_wp2_with fail
  refine (nop_any _ _ _ _ _ _ _ _).mono ?_
  rintro e w3 ⟨rfl, hb3⟩
  obtain ⟨hc3, hf3⟩ := bcell hb3
  have hB3 := hb3.size
  have hz7 : w.heap.size + 1 + 1 < w3.heap.size := by omega
  have hz8 : w.heap.size + 1 + 1 < w3.heap.size + 1 := by omega
  have B3 : Below w.heap.size w w3 := B2.trans (hb3.mono (by omega))
  have HT3 := World.there_below HT2 hb3 hz4
  dsimp only
  repeat go_step
  refine bodyPost_ret (w := (w3.setCells (w.heap.size + 1 + 1) 0 (RL (r))).alloc (.cells (RA (r)) 26)) (results_mid3 (b := w.heap.size + 1 + 1) (o := 0) rfl _ _ rfl (World.rangeAt_alloc (World.rangeAt_setCells_same _ _ _ _ HT3) _) Tryd.underlying26 rfl size26) rfl ?_
  refine ⟨rfl, Below.alloc (Below.setCells (by omega) _ _ B3) (by rw [setCells_size]; omega) _⟩

theorem idx1 (B : Nat) (w : World) : (Instr.index 69 (opsV B) (.int .i8 1)).run Tryd.prog w = .ok (fv 45) w := by kernel_rfl

set_option maxRecDepth 20000 in
set_option maxHeartbeats 400000 in
theorem do_1 (d n m imm pc : Int) (r : Nat → Int) (w : World) (hS : Shapes w) (hk : chk 1 d n m imm = true) (h0 : 0 ≤ d) (h1 : d < 8) :
    Calls Tryd.prog 11 #[IV 1 d n m imm, RV r, .int .i64 pc] w fun e w' => e = .returned (.tuple #[RV (upd r d.toNat (tou64 imm)), .int .i64 (wrap64 (pc + 1)), .int .i64 0]) ∧ Below w.heap.size w w' := by
  have Hk := Lib.hid hk; clear hk
  go_enter Tryd.func11, Tryd.ntmps11
  go_wp2_with fail
  refine (check_yes _ _ _ _ _ _ (((hS.alloc _).alloc _).alloc _) Hk.out).mono ?_
  rintro e w1 ⟨rfl, hb1⟩
  obtain ⟨hc, hf⟩ := bcell hb1
  have hz2 : w.heap.size + 1 + 1 < w1.heap.size := by have := hb1.size; simp at this; omega
  have hz1 : w.heap.size + 1 < w1.heap.size := by omega
  have hz0 : w.heap.size < w1.heap.size := by omega
  have B1 : Below w.heap.size w w1 := Below.trans (by go_grown) (hb1.mono (by simp; omega))
  have HT1 := World.there_below (there_new ((w.alloc _).alloc _) #[.int .u64 0, .int .u64 0, .int .u64 0, .int .u64 0, .int .u64 0, .int .u64 0, .int .u64 0, .int .u64 0] 26 8 rfl) hb1 (by simp)
  simp at HT1
  go_wp2_with fail
  have hix := idx1
  go_region_held3 (fun w' => w'.cell? ⟨w.heap.size, 0, none⟩ = some (.int .i8 1)) (first | (refine (hb2.cell (p := ⟨w.heap.size, 0, none⟩) ?_).trans ?_ <;> first | assumption | (simp; omega) | go_simp) | go_simp) (first | (go_at_call 31; refine (ops_any _).mono ?_; rintro e w2 ⟨rfl, hb2, ho⟩))
  clear hix
  have hB := hb2.size
  simp only [World.size_drew] at hB ho
  have hs := ho.size
  obtain ⟨hc2, hf2⟩ := bcell_drew hb2
  have B2 : Below w.heap.size w w2 := B1.trans (below_undrew (hb2.mono (by simp; omega)))
  have HT2 := World.there_below ((World.there_drew _ _ _ _).2 HT1) hb2 hz2
  have hz4 : w.heap.size + 1 + 1 < w2.heap.size := by omega
  have hz5 : w.heap.size + 1 < w2.heap.size := by omega
  have hz6 : w.heap.size < w2.heap.size := by omega
  have hq := eq_fv
  go_wp2_with fail
  refine (mov_any _ _ _ _ _ _ _ _ h0 h1).mono ?_
  rintro e w3 ⟨rfl, hb3⟩
  obtain ⟨hc3, hf3⟩ := bcell hb3
  have hB3 := hb3.size
  have hz7 : w.heap.size + 1 + 1 < w3.heap.size := by omega
  have hz8 : w.heap.size + 1 + 1 < w3.heap.size + 1 := by omega
  have B3 : Below w.heap.size w w3 := B2.trans (hb3.mono (by omega))
  have HT3 := World.there_below HT2 hb3 hz4
  dsimp only
  repeat go_step
  refine bodyPost_ret (w := (w3.setCells (w.heap.size + 1 + 1) 0 (RL (upd r d.toNat (tou64 imm)))).alloc (.cells (RA (upd r d.toNat (tou64 imm))) 26)) (results_mid3 (b := w.heap.size + 1 + 1) (o := 0) rfl _ _ rfl (World.rangeAt_alloc (World.rangeAt_setCells_same _ _ _ _ HT3) _) Tryd.underlying26 rfl size26) rfl ?_
  refine ⟨rfl, Below.alloc (Below.setCells (by omega) _ _ B3) (by rw [setCells_size]; omega) _⟩

theorem idx2 (B : Nat) (w : World) : (Instr.index 69 (opsV B) (.int .i8 2)).run Tryd.prog w = .ok (cl 70 (B + 1)) w := by kernel_rfl

set_option maxRecDepth 20000 in
set_option maxHeartbeats 400000 in
theorem do_2 (d n m imm pc : Int) (r : Nat → Int) (w : World) (hS : Shapes w) (hk : chk 2 d n m imm = true) (h0 : 0 ≤ d) (h1 : d < 8) (h2 : 0 ≤ n) (h3 : n < 8) (h4 : 0 ≤ m) (h5 : m < 8) :
    Calls Tryd.prog 11 #[IV 2 d n m imm, RV r, .int .i64 pc] w fun e w' => e = .returned (.tuple #[RV (upd r d.toNat (add64 (r n.toNat) (r m.toNat))), .int .i64 (wrap64 (pc + 1)), .int .i64 0]) ∧ Below w.heap.size w w' := by
  have Hk := Lib.hid hk; clear hk
  go_enter Tryd.func11, Tryd.ntmps11
  go_wp2_with fail
  refine (check_yes _ _ _ _ _ _ (((hS.alloc _).alloc _).alloc _) Hk.out).mono ?_
  rintro e w1 ⟨rfl, hb1⟩
  obtain ⟨hc, hf⟩ := bcell hb1
  have hz2 : w.heap.size + 1 + 1 < w1.heap.size := by have := hb1.size; simp at this; omega
  have hz1 : w.heap.size + 1 < w1.heap.size := by omega
  have hz0 : w.heap.size < w1.heap.size := by omega
  have B1 : Below w.heap.size w w1 := Below.trans (by go_grown) (hb1.mono (by simp; omega))
  have HT1 := World.there_below (there_new ((w.alloc _).alloc _) #[.int .u64 0, .int .u64 0, .int .u64 0, .int .u64 0, .int .u64 0, .int .u64 0, .int .u64 0, .int .u64 0] 26 8 rfl) hb1 (by simp)
  simp at HT1
  go_wp2_with fail
  have hix := idx2
  go_region_held3 (fun w' => w'.cell? ⟨w.heap.size, 0, none⟩ = some (.int .i8 2)) (first | (refine (hb2.cell (p := ⟨w.heap.size, 0, none⟩) ?_).trans ?_ <;> first | assumption | (simp; omega) | go_simp) | go_simp) (first | (go_at_call 31; refine (ops_any _).mono ?_; rintro e w2 ⟨rfl, hb2, ho⟩))
  clear hix
  have hB := hb2.size
  simp only [World.size_drew] at hB ho
  have hs := ho.size
  obtain ⟨hc2, hf2⟩ := bcell_drew hb2
  have B2 : Below w.heap.size w w2 := B1.trans (below_undrew (hb2.mono (by simp; omega)))
  have HT2 := World.there_below ((World.there_drew _ _ _ _).2 HT1) hb2 hz2
  have hz4 : w.heap.size + 1 + 1 < w2.heap.size := by omega
  have hz5 : w.heap.size + 1 < w2.heap.size := by omega
  have hz6 : w.heap.size < w2.heap.size := by omega
  have hq := eq_cl
  go_wp2_with fail
  refine (three47 _ _ _ _ _ _ _ _ _ h0 h1 h2 h3 h4 h5 (by omega) ho.c1).mono ?_
  rintro e w3 ⟨rfl, hb3⟩
  obtain ⟨hc3, hf3⟩ := bcell hb3
  have hB3 := hb3.size
  have hz7 : w.heap.size + 1 + 1 < w3.heap.size := by omega
  have hz8 : w.heap.size + 1 + 1 < w3.heap.size + 1 := by omega
  have B3 : Below w.heap.size w w3 := B2.trans (hb3.mono (by omega))
  have HT3 := World.there_below HT2 hb3 hz4
  dsimp only
  repeat go_step
  refine bodyPost_ret (w := (w3.setCells (w.heap.size + 1 + 1) 0 (RL (upd r d.toNat (add64 (r n.toNat) (r m.toNat))))).alloc (.cells (RA (upd r d.toNat (add64 (r n.toNat) (r m.toNat)))) 26)) (results_mid3 (b := w.heap.size + 1 + 1) (o := 0) rfl _ _ rfl (World.rangeAt_alloc (World.rangeAt_setCells_same _ _ _ _ HT3) _) Tryd.underlying26 rfl size26) rfl ?_
  refine ⟨rfl, Below.alloc (Below.setCells (by omega) _ _ B3) (by rw [setCells_size]; omega) _⟩

theorem idx3 (B : Nat) (w : World) : (Instr.index 69 (opsV B) (.int .i8 3)).run Tryd.prog w = .ok (cl 70 (B + 2)) w := by kernel_rfl

set_option maxRecDepth 20000 in
set_option maxHeartbeats 400000 in
theorem do_3 (d n m imm pc : Int) (r : Nat → Int) (w : World) (hS : Shapes w) (hk : chk 3 d n m imm = true) (h0 : 0 ≤ d) (h1 : d < 8) (h2 : 0 ≤ n) (h3 : n < 8) (h4 : 0 ≤ m) (h5 : m < 8) :
    Calls Tryd.prog 11 #[IV 3 d n m imm, RV r, .int .i64 pc] w fun e w' => e = .returned (.tuple #[RV (upd r d.toNat (sub64 (r n.toNat) (r m.toNat))), .int .i64 (wrap64 (pc + 1)), .int .i64 0]) ∧ Below w.heap.size w w' := by
  have Hk := Lib.hid hk; clear hk
  go_enter Tryd.func11, Tryd.ntmps11
  go_wp2_with fail
  refine (check_yes _ _ _ _ _ _ (((hS.alloc _).alloc _).alloc _) Hk.out).mono ?_
  rintro e w1 ⟨rfl, hb1⟩
  obtain ⟨hc, hf⟩ := bcell hb1
  have hz2 : w.heap.size + 1 + 1 < w1.heap.size := by have := hb1.size; simp at this; omega
  have hz1 : w.heap.size + 1 < w1.heap.size := by omega
  have hz0 : w.heap.size < w1.heap.size := by omega
  have B1 : Below w.heap.size w w1 := Below.trans (by go_grown) (hb1.mono (by simp; omega))
  have HT1 := World.there_below (there_new ((w.alloc _).alloc _) #[.int .u64 0, .int .u64 0, .int .u64 0, .int .u64 0, .int .u64 0, .int .u64 0, .int .u64 0, .int .u64 0] 26 8 rfl) hb1 (by simp)
  simp at HT1
  go_wp2_with fail
  have hix := idx3
  go_region_held3 (fun w' => w'.cell? ⟨w.heap.size, 0, none⟩ = some (.int .i8 3)) (first | (refine (hb2.cell (p := ⟨w.heap.size, 0, none⟩) ?_).trans ?_ <;> first | assumption | (simp; omega) | go_simp) | go_simp) (first | (go_at_call 31; refine (ops_any _).mono ?_; rintro e w2 ⟨rfl, hb2, ho⟩))
  clear hix
  have hB := hb2.size
  simp only [World.size_drew] at hB ho
  have hs := ho.size
  obtain ⟨hc2, hf2⟩ := bcell_drew hb2
  have B2 : Below w.heap.size w w2 := B1.trans (below_undrew (hb2.mono (by simp; omega)))
  have HT2 := World.there_below ((World.there_drew _ _ _ _).2 HT1) hb2 hz2
  have hz4 : w.heap.size + 1 + 1 < w2.heap.size := by omega
  have hz5 : w.heap.size + 1 < w2.heap.size := by omega
  have hz6 : w.heap.size < w2.heap.size := by omega
  have hq := eq_cl
  go_wp2_with fail
  refine (three48 _ _ _ _ _ _ _ _ _ h0 h1 h2 h3 h4 h5 (by omega) ho.c2).mono ?_
  rintro e w3 ⟨rfl, hb3⟩
  obtain ⟨hc3, hf3⟩ := bcell hb3
  have hB3 := hb3.size
  have hz7 : w.heap.size + 1 + 1 < w3.heap.size := by omega
  have hz8 : w.heap.size + 1 + 1 < w3.heap.size + 1 := by omega
  have B3 : Below w.heap.size w w3 := B2.trans (hb3.mono (by omega))
  have HT3 := World.there_below HT2 hb3 hz4
  dsimp only
  repeat go_step
  refine bodyPost_ret (w := (w3.setCells (w.heap.size + 1 + 1) 0 (RL (upd r d.toNat (sub64 (r n.toNat) (r m.toNat))))).alloc (.cells (RA (upd r d.toNat (sub64 (r n.toNat) (r m.toNat)))) 26)) (results_mid3 (b := w.heap.size + 1 + 1) (o := 0) rfl _ _ rfl (World.rangeAt_alloc (World.rangeAt_setCells_same _ _ _ _ HT3) _) Tryd.underlying26 rfl size26) rfl ?_
  refine ⟨rfl, Below.alloc (Below.setCells (by omega) _ _ B3) (by rw [setCells_size]; omega) _⟩

theorem idx4 (B : Nat) (w : World) : (Instr.index 69 (opsV B) (.int .i8 4)).run Tryd.prog w = .ok (cl 70 (B + 3)) w := by kernel_rfl

set_option maxRecDepth 20000 in
set_option maxHeartbeats 400000 in
theorem do_4 (d n m imm pc : Int) (r : Nat → Int) (w : World) (hS : Shapes w) (hk : chk 4 d n m imm = true) (h0 : 0 ≤ d) (h1 : d < 8) (h2 : 0 ≤ n) (h3 : n < 8) (h4 : 0 ≤ m) (h5 : m < 8) :
    Calls Tryd.prog 11 #[IV 4 d n m imm, RV r, .int .i64 pc] w fun e w' => e = .returned (.tuple #[RV (upd r d.toNat (and64 (r n.toNat) (r m.toNat))), .int .i64 (wrap64 (pc + 1)), .int .i64 0]) ∧ Below w.heap.size w w' := by
  have Hk := Lib.hid hk; clear hk
  go_enter Tryd.func11, Tryd.ntmps11
  go_wp2_with fail
  refine (check_yes _ _ _ _ _ _ (((hS.alloc _).alloc _).alloc _) Hk.out).mono ?_
  rintro e w1 ⟨rfl, hb1⟩
  obtain ⟨hc, hf⟩ := bcell hb1
  have hz2 : w.heap.size + 1 + 1 < w1.heap.size := by have := hb1.size; simp at this; omega
  have hz1 : w.heap.size + 1 < w1.heap.size := by omega
  have hz0 : w.heap.size < w1.heap.size := by omega
  have B1 : Below w.heap.size w w1 := Below.trans (by go_grown) (hb1.mono (by simp; omega))
  have HT1 := World.there_below (there_new ((w.alloc _).alloc _) #[.int .u64 0, .int .u64 0, .int .u64 0, .int .u64 0, .int .u64 0, .int .u64 0, .int .u64 0, .int .u64 0] 26 8 rfl) hb1 (by simp)
  simp at HT1
  go_wp2_with fail
  have hix := idx4
  go_region_held3 (fun w' => w'.cell? ⟨w.heap.size, 0, none⟩ = some (.int .i8 4)) (first | (refine (hb2.cell (p := ⟨w.heap.size, 0, none⟩) ?_).trans ?_ <;> first | assumption | (simp; omega) | go_simp) | go_simp) (first | (go_at_call 31; refine (ops_any _).mono ?_; rintro e w2 ⟨rfl, hb2, ho⟩))
  clear hix
  have hB := hb2.size
  simp only [World.size_drew] at hB ho
  have hs := ho.size
  obtain ⟨hc2, hf2⟩ := bcell_drew hb2
  have B2 : Below w.heap.size w w2 := B1.trans (below_undrew (hb2.mono (by simp; omega)))
  have HT2 := World.there_below ((World.there_drew _ _ _ _).2 HT1) hb2 hz2
  have hz4 : w.heap.size + 1 + 1 < w2.heap.size := by omega
  have hz5 : w.heap.size + 1 < w2.heap.size := by omega
  have hz6 : w.heap.size < w2.heap.size := by omega
  have hq := eq_cl
  go_wp2_with fail
  refine (three49 _ _ _ _ _ _ _ _ _ h0 h1 h2 h3 h4 h5 (by omega) ho.c3).mono ?_
  rintro e w3 ⟨rfl, hb3⟩
  obtain ⟨hc3, hf3⟩ := bcell hb3
  have hB3 := hb3.size
  have hz7 : w.heap.size + 1 + 1 < w3.heap.size := by omega
  have hz8 : w.heap.size + 1 + 1 < w3.heap.size + 1 := by omega
  have B3 : Below w.heap.size w w3 := B2.trans (hb3.mono (by omega))
  have HT3 := World.there_below HT2 hb3 hz4
  dsimp only
  repeat go_step
  refine bodyPost_ret (w := (w3.setCells (w.heap.size + 1 + 1) 0 (RL (upd r d.toNat (and64 (r n.toNat) (r m.toNat))))).alloc (.cells (RA (upd r d.toNat (and64 (r n.toNat) (r m.toNat)))) 26)) (results_mid3 (b := w.heap.size + 1 + 1) (o := 0) rfl _ _ rfl (World.rangeAt_alloc (World.rangeAt_setCells_same _ _ _ _ HT3) _) Tryd.underlying26 rfl size26) rfl ?_
  refine ⟨rfl, Below.alloc (Below.setCells (by omega) _ _ B3) (by rw [setCells_size]; omega) _⟩

theorem idx5 (B : Nat) (w : World) : (Instr.index 69 (opsV B) (.int .i8 5)).run Tryd.prog w = .ok (cl 70 (B + 4)) w := by kernel_rfl

set_option maxRecDepth 20000 in
set_option maxHeartbeats 400000 in
theorem do_5 (d n m imm pc : Int) (r : Nat → Int) (w : World) (hS : Shapes w) (hk : chk 5 d n m imm = true) (h0 : 0 ≤ d) (h1 : d < 8) (h2 : 0 ≤ n) (h3 : n < 8) (h4 : 0 ≤ m) (h5 : m < 8) :
    Calls Tryd.prog 11 #[IV 5 d n m imm, RV r, .int .i64 pc] w fun e w' => e = .returned (.tuple #[RV (upd r d.toNat (or64 (r n.toNat) (r m.toNat))), .int .i64 (wrap64 (pc + 1)), .int .i64 0]) ∧ Below w.heap.size w w' := by
  have Hk := Lib.hid hk; clear hk
  go_enter Tryd.func11, Tryd.ntmps11
  go_wp2_with fail
  refine (check_yes _ _ _ _ _ _ (((hS.alloc _).alloc _).alloc _) Hk.out).mono ?_
  rintro e w1 ⟨rfl, hb1⟩
  obtain ⟨hc, hf⟩ := bcell hb1
  have hz2 : w.heap.size + 1 + 1 < w1.heap.size := by have := hb1.size; simp at this; omega
  have hz1 : w.heap.size + 1 < w1.heap.size := by omega
  have hz0 : w.heap.size < w1.heap.size := by omega
  have B1 : Below w.heap.size w w1 := Below.trans (by go_grown) (hb1.mono (by simp; omega))
  have HT1 := World.there_below (there_new ((w.alloc _).alloc _) #[.int .u64 0, .int .u64 0, .int .u64 0, .int .u64 0, .int .u64 0, .int .u64 0, .int .u64 0, .int .u64 0] 26 8 rfl) hb1 (by simp)
  simp at HT1
  go_wp2_with fail
  have hix := idx5
  go_region_held3 (fun w' => w'.cell? ⟨w.heap.size, 0, none⟩ = some (.int .i8 5)) (first | (refine (hb2.cell (p := ⟨w.heap.size, 0, none⟩) ?_).trans ?_ <;> first | assumption | (simp; omega) | go_simp) | go_simp) (first | (go_at_call 31; refine (ops_any _).mono ?_; rintro e w2 ⟨rfl, hb2, ho⟩))
  clear hix
  have hB := hb2.size
  simp only [World.size_drew] at hB ho
  have hs := ho.size
  obtain ⟨hc2, hf2⟩ := bcell_drew hb2
  have B2 : Below w.heap.size w w2 := B1.trans (below_undrew (hb2.mono (by simp; omega)))
  have HT2 := World.there_below ((World.there_drew _ _ _ _).2 HT1) hb2 hz2
  have hz4 : w.heap.size + 1 + 1 < w2.heap.size := by omega
  have hz5 : w.heap.size + 1 < w2.heap.size := by omega
  have hz6 : w.heap.size < w2.heap.size := by omega
  have hq := eq_cl
  go_wp2_with fail
  refine (three50 _ _ _ _ _ _ _ _ _ h0 h1 h2 h3 h4 h5 (by omega) ho.c4).mono ?_
  rintro e w3 ⟨rfl, hb3⟩
  obtain ⟨hc3, hf3⟩ := bcell hb3
  have hB3 := hb3.size
  have hz7 : w.heap.size + 1 + 1 < w3.heap.size := by omega
  have hz8 : w.heap.size + 1 + 1 < w3.heap.size + 1 := by omega
  have B3 : Below w.heap.size w w3 := B2.trans (hb3.mono (by omega))
  have HT3 := World.there_below HT2 hb3 hz4
  dsimp only
  repeat go_step
  refine bodyPost_ret (w := (w3.setCells (w.heap.size + 1 + 1) 0 (RL (upd r d.toNat (or64 (r n.toNat) (r m.toNat))))).alloc (.cells (RA (upd r d.toNat (or64 (r n.toNat) (r m.toNat)))) 26)) (results_mid3 (b := w.heap.size + 1 + 1) (o := 0) rfl _ _ rfl (World.rangeAt_alloc (World.rangeAt_setCells_same _ _ _ _ HT3) _) Tryd.underlying26 rfl size26) rfl ?_
  refine ⟨rfl, Below.alloc (Below.setCells (by omega) _ _ B3) (by rw [setCells_size]; omega) _⟩

theorem idx6 (B : Nat) (w : World) : (Instr.index 69 (opsV B) (.int .i8 6)).run Tryd.prog w = .ok (cl 70 (B + 5)) w := by kernel_rfl

set_option maxRecDepth 20000 in
set_option maxHeartbeats 400000 in
theorem do_6 (d n m imm pc : Int) (r : Nat → Int) (w : World) (hS : Shapes w) (hk : chk 6 d n m imm = true) (h0 : 0 ≤ d) (h1 : d < 8) (h2 : 0 ≤ n) (h3 : n < 8) (h4 : 0 ≤ m) (h5 : m < 8) :
    Calls Tryd.prog 11 #[IV 6 d n m imm, RV r, .int .i64 pc] w fun e w' => e = .returned (.tuple #[RV (upd r d.toNat (xor64 (r n.toNat) (r m.toNat))), .int .i64 (wrap64 (pc + 1)), .int .i64 0]) ∧ Below w.heap.size w w' := by
  have Hk := Lib.hid hk; clear hk
  go_enter Tryd.func11, Tryd.ntmps11
  go_wp2_with fail
  refine (check_yes _ _ _ _ _ _ (((hS.alloc _).alloc _).alloc _) Hk.out).mono ?_
  rintro e w1 ⟨rfl, hb1⟩
  obtain ⟨hc, hf⟩ := bcell hb1
  have hz2 : w.heap.size + 1 + 1 < w1.heap.size := by have := hb1.size; simp at this; omega
  have hz1 : w.heap.size + 1 < w1.heap.size := by omega
  have hz0 : w.heap.size < w1.heap.size := by omega
  have B1 : Below w.heap.size w w1 := Below.trans (by go_grown) (hb1.mono (by simp; omega))
  have HT1 := World.there_below (there_new ((w.alloc _).alloc _) #[.int .u64 0, .int .u64 0, .int .u64 0, .int .u64 0, .int .u64 0, .int .u64 0, .int .u64 0, .int .u64 0] 26 8 rfl) hb1 (by simp)
  simp at HT1
  go_wp2_with fail
  have hix := idx6
  go_region_held3 (fun w' => w'.cell? ⟨w.heap.size, 0, none⟩ = some (.int .i8 6)) (first | (refine (hb2.cell (p := ⟨w.heap.size, 0, none⟩) ?_).trans ?_ <;> first | assumption | (simp; omega) | go_simp) | go_simp) (first | (go_at_call 31; refine (ops_any _).mono ?_; rintro e w2 ⟨rfl, hb2, ho⟩))
  clear hix
  have hB := hb2.size
  simp only [World.size_drew] at hB ho
  have hs := ho.size
  obtain ⟨hc2, hf2⟩ := bcell_drew hb2
  have B2 : Below w.heap.size w w2 := B1.trans (below_undrew (hb2.mono (by simp; omega)))
  have HT2 := World.there_below ((World.there_drew _ _ _ _).2 HT1) hb2 hz2
  have hz4 : w.heap.size + 1 + 1 < w2.heap.size := by omega
  have hz5 : w.heap.size + 1 < w2.heap.size := by omega
  have hz6 : w.heap.size < w2.heap.size := by omega
  have hq := eq_cl
  go_wp2_with fail
  refine (three51 _ _ _ _ _ _ _ _ _ h0 h1 h2 h3 h4 h5 (by omega) ho.c5).mono ?_
  rintro e w3 ⟨rfl, hb3⟩
  obtain ⟨hc3, hf3⟩ := bcell hb3
  have hB3 := hb3.size
  have hz7 : w.heap.size + 1 + 1 < w3.heap.size := by omega
  have hz8 : w.heap.size + 1 + 1 < w3.heap.size + 1 := by omega
  have B3 : Below w.heap.size w w3 := B2.trans (hb3.mono (by omega))
  have HT3 := World.there_below HT2 hb3 hz4
  dsimp only
  repeat go_step
  refine bodyPost_ret (w := (w3.setCells (w.heap.size + 1 + 1) 0 (RL (upd r d.toNat (xor64 (r n.toNat) (r m.toNat))))).alloc (.cells (RA (upd r d.toNat (xor64 (r n.toNat) (r m.toNat)))) 26)) (results_mid3 (b := w.heap.size + 1 + 1) (o := 0) rfl _ _ rfl (World.rangeAt_alloc (World.rangeAt_setCells_same _ _ _ _ HT3) _) Tryd.underlying26 rfl size26) rfl ?_
  refine ⟨rfl, Below.alloc (Below.setCells (by omega) _ _ B3) (by rw [setCells_size]; omega) _⟩

theorem idx7 (B : Nat) (w : World) : (Instr.index 69 (opsV B) (.int .i8 7)).run Tryd.prog w = .ok (fv 52) w := by kernel_rfl

set_option maxRecDepth 20000 in
set_option maxHeartbeats 400000 in
theorem do_7 (d n m imm pc : Int) (r : Nat → Int) (w : World) (hS : Shapes w) (hk : chk 7 d n m imm = true) (h0 : 0 ≤ d) (h1 : d < 8) (h2 : 0 ≤ n) (h3 : n < 8) :
    Calls Tryd.prog 11 #[IV 7 d n m imm, RV r, .int .i64 pc] w fun e w' => e = .returned (.tuple #[RV (upd r d.toNat (add64 (r n.toNat) (tou64 imm))), .int .i64 (wrap64 (pc + 1)), .int .i64 0]) ∧ Below w.heap.size w w' := by
  have Hk := Lib.hid hk; clear hk
  go_enter Tryd.func11, Tryd.ntmps11
  go_wp2_with fail
  refine (check_yes _ _ _ _ _ _ (((hS.alloc _).alloc _).alloc _) Hk.out).mono ?_
  rintro e w1 ⟨rfl, hb1⟩
  obtain ⟨hc, hf⟩ := bcell hb1
  have hz2 : w.heap.size + 1 + 1 < w1.heap.size := by have := hb1.size; simp at this; omega
  have hz1 : w.heap.size + 1 < w1.heap.size := by omega
  have hz0 : w.heap.size < w1.heap.size := by omega
  have B1 : Below w.heap.size w w1 := Below.trans (by go_grown) (hb1.mono (by simp; omega))
  have HT1 := World.there_below (there_new ((w.alloc _).alloc _) #[.int .u64 0, .int .u64 0, .int .u64 0, .int .u64 0, .int .u64 0, .int .u64 0, .int .u64 0, .int .u64 0] 26 8 rfl) hb1 (by simp)
  simp at HT1
  go_wp2_with fail
  have hix := idx7
  go_region_held3 (fun w' => w'.cell? ⟨w.heap.size, 0, none⟩ = some (.int .i8 7)) (first | (refine (hb2.cell (p := ⟨w.heap.size, 0, none⟩) ?_).trans ?_ <;> first | assumption | (simp; omega) | go_simp) | go_simp) (first | (go_at_call 31; refine (ops_any _).mono ?_; rintro e w2 ⟨rfl, hb2, ho⟩))
  clear hix
  have hB := hb2.size
  simp only [World.size_drew] at hB ho
  have hs := ho.size
  obtain ⟨hc2, hf2⟩ := bcell_drew hb2
  have B2 : Below w.heap.size w w2 := B1.trans (below_undrew (hb2.mono (by simp; omega)))
  have HT2 := World.there_below ((World.there_drew _ _ _ _).2 HT1) hb2 hz2
  have hz4 : w.heap.size + 1 + 1 < w2.heap.size := by omega
  have hz5 : w.heap.size + 1 < w2.heap.size := by omega
  have hz6 : w.heap.size < w2.heap.size := by omega
  have hq := eq_fv
  go_wp2_with fail
  refine (addi_any _ _ _ _ _ _ _ _ h0 h1 h2 h3).mono ?_
  rintro e w3 ⟨rfl, hb3⟩
  obtain ⟨hc3, hf3⟩ := bcell hb3
  have hB3 := hb3.size
  have hz7 : w.heap.size + 1 + 1 < w3.heap.size := by omega
  have hz8 : w.heap.size + 1 + 1 < w3.heap.size + 1 := by omega
  have B3 : Below w.heap.size w w3 := B2.trans (hb3.mono (by omega))
  have HT3 := World.there_below HT2 hb3 hz4
  dsimp only
  repeat go_step
  refine bodyPost_ret (w := (w3.setCells (w.heap.size + 1 + 1) 0 (RL (upd r d.toNat (add64 (r n.toNat) (tou64 imm))))).alloc (.cells (RA (upd r d.toNat (add64 (r n.toNat) (tou64 imm)))) 26)) (results_mid3 (b := w.heap.size + 1 + 1) (o := 0) rfl _ _ rfl (World.rangeAt_alloc (World.rangeAt_setCells_same _ _ _ _ HT3) _) Tryd.underlying26 rfl size26) rfl ?_
  refine ⟨rfl, Below.alloc (Below.setCells (by omega) _ _ B3) (by rw [setCells_size]; omega) _⟩

theorem idx14 (B : Nat) (w : World) : (Instr.index 69 (opsV B) (.int .i8 14)).run Tryd.prog w = .ok (cl 71 (B + 6)) w := by kernel_rfl

set_option maxRecDepth 20000 in
set_option maxHeartbeats 400000 in
theorem do_14 (d n m imm pc : Int) (r : Nat → Int) (w : World) (hS : Shapes w) (hk : chk 14 d n m imm = true) (h0 : 0 ≤ d) (h1 : d < 8) :
    Calls Tryd.prog 11 #[IV 14 d n m imm, RV r, .int .i64 pc] w fun e w' => e = .returned (.tuple #[RV (r), .int .i64 (wrap64 (pc + imm)), .int .i64 0]) ∧ Below w.heap.size w w' := by
  have Hk := Lib.hid hk; clear hk
  go_enter Tryd.func11, Tryd.ntmps11
  go_wp2_with fail
  refine (check_yes _ _ _ _ _ _ (((hS.alloc _).alloc _).alloc _) Hk.out).mono ?_
  rintro e w1 ⟨rfl, hb1⟩
  obtain ⟨hc, hf⟩ := bcell hb1
  have hz2 : w.heap.size + 1 + 1 < w1.heap.size := by have := hb1.size; simp at this; omega
  have hz1 : w.heap.size + 1 < w1.heap.size := by omega
  have hz0 : w.heap.size < w1.heap.size := by omega
  have B1 : Below w.heap.size w w1 := Below.trans (by go_grown) (hb1.mono (by simp; omega))
  have HT1 := World.there_below (there_new ((w.alloc _).alloc _) #[.int .u64 0, .int .u64 0, .int .u64 0, .int .u64 0, .int .u64 0, .int .u64 0, .int .u64 0, .int .u64 0] 26 8 rfl) hb1 (by simp)
  simp at HT1
  go_wp2_with fail
  have hix := idx14
  go_region_held3 (fun w' => w'.cell? ⟨w.heap.size, 0, none⟩ = some (.int .i8 14)) (first | (refine (hb2.cell (p := ⟨w.heap.size, 0, none⟩) ?_).trans ?_ <;> first | assumption | (simp; omega) | go_simp) | go_simp) (first | (go_at_call 31; refine (ops_any _).mono ?_; rintro e w2 ⟨rfl, hb2, ho⟩))
  clear hix
  have hB := hb2.size
  simp only [World.size_drew] at hB ho
  have hs := ho.size
  obtain ⟨hc2, hf2⟩ := bcell_drew hb2
  have B2 : Below w.heap.size w w2 := B1.trans (below_undrew (hb2.mono (by simp; omega)))
  have HT2 := World.there_below ((World.there_drew _ _ _ _).2 HT1) hb2 hz2
  have hz4 : w.heap.size + 1 + 1 < w2.heap.size := by omega
  have hz5 : w.heap.size + 1 < w2.heap.size := by omega
  have hz6 : w.heap.size < w2.heap.size := by omega
  have hq := eq_cl
  go_wp2_with fail
  refine (branch_b _ _ _ _ _ _ _ _ _ h0 h1 (by omega) ho.c6).mono ?_
  rintro e w3 ⟨rfl, hb3⟩
  obtain ⟨hc3, hf3⟩ := bcell hb3
  have hB3 := hb3.size
  have hz7 : w.heap.size + 1 + 1 < w3.heap.size := by omega
  have hz8 : w.heap.size + 1 + 1 < w3.heap.size + 1 := by omega
  have B3 : Below w.heap.size w w3 := B2.trans (hb3.mono (by omega))
  have HT3 := World.there_below HT2 hb3 hz4
  dsimp only
  repeat go_step
  refine bodyPost_ret (w := (w3.setCells (w.heap.size + 1 + 1) 0 (RL (r))).alloc (.cells (RA (r)) 26)) (results_mid3 (b := w.heap.size + 1 + 1) (o := 0) rfl _ _ rfl (World.rangeAt_alloc (World.rangeAt_setCells_same _ _ _ _ HT3) _) Tryd.underlying26 rfl size26) rfl ?_
  refine ⟨rfl, Below.alloc (Below.setCells (by omega) _ _ B3) (by rw [setCells_size]; omega) _⟩

theorem idx15 (B : Nat) (w : World) : (Instr.index 69 (opsV B) (.int .i8 15)).run Tryd.prog w = .ok (cl 71 (B + 7)) w := by kernel_rfl

set_option maxRecDepth 20000 in
set_option maxHeartbeats 400000 in
theorem do_15t (d n m imm pc : Int) (r : Nat → Int) (w : World) (hS : Shapes w) (hk : chk 15 d n m imm = true) (h0 : 0 ≤ d) (h1 : d < 8) (hr : (r d.toNat == 0) = true) :
    Calls Tryd.prog 11 #[IV 15 d n m imm, RV r, .int .i64 pc] w fun e w' => e = .returned (.tuple #[RV (r), .int .i64 (wrap64 (pc + imm)), .int .i64 0]) ∧ Below w.heap.size w w' := by
  have Hk := Lib.hid hk; clear hk
  have Hr := Lib.hid hr; clear hr
  go_enter Tryd.func11, Tryd.ntmps11
  go_wp2_with fail
  refine (check_yes _ _ _ _ _ _ (((hS.alloc _).alloc _).alloc _) Hk.out).mono ?_
  rintro e w1 ⟨rfl, hb1⟩
  obtain ⟨hc, hf⟩ := bcell hb1
  have hz2 : w.heap.size + 1 + 1 < w1.heap.size := by have := hb1.size; simp at this; omega
  have hz1 : w.heap.size + 1 < w1.heap.size := by omega
  have hz0 : w.heap.size < w1.heap.size := by omega
  have B1 : Below w.heap.size w w1 := Below.trans (by go_grown) (hb1.mono (by simp; omega))
  have HT1 := World.there_below (there_new ((w.alloc _).alloc _) #[.int .u64 0, .int .u64 0, .int .u64 0, .int .u64 0, .int .u64 0, .int .u64 0, .int .u64 0, .int .u64 0] 26 8 rfl) hb1 (by simp)
  simp at HT1
  go_wp2_with fail
  have hix := idx15
  go_region_held3 (fun w' => w'.cell? ⟨w.heap.size, 0, none⟩ = some (.int .i8 15)) (first | (refine (hb2.cell (p := ⟨w.heap.size, 0, none⟩) ?_).trans ?_ <;> first | assumption | (simp; omega) | go_simp) | go_simp) (first | (go_at_call 31; refine (ops_any _).mono ?_; rintro e w2 ⟨rfl, hb2, ho⟩))
  clear hix
  have hB := hb2.size
  simp only [World.size_drew] at hB ho
  have hs := ho.size
  obtain ⟨hc2, hf2⟩ := bcell_drew hb2
  have B2 : Below w.heap.size w w2 := B1.trans (below_undrew (hb2.mono (by simp; omega)))
  have HT2 := World.there_below ((World.there_drew _ _ _ _).2 HT1) hb2 hz2
  have hz4 : w.heap.size + 1 + 1 < w2.heap.size := by omega
  have hz5 : w.heap.size + 1 < w2.heap.size := by omega
  have hz6 : w.heap.size < w2.heap.size := by omega
  have hq := eq_cl
  go_wp2_with fail
  refine (branch_z1 _ _ _ _ _ _ _ _ _ h0 h1 Hr.out (by omega) ho.c7).mono ?_
  rintro e w3 ⟨rfl, hb3⟩
  obtain ⟨hc3, hf3⟩ := bcell hb3
  have hB3 := hb3.size
  have hz7 : w.heap.size + 1 + 1 < w3.heap.size := by omega
  have hz8 : w.heap.size + 1 + 1 < w3.heap.size + 1 := by omega
  have B3 : Below w.heap.size w w3 := B2.trans (hb3.mono (by omega))
  have HT3 := World.there_below HT2 hb3 hz4
  dsimp only
  repeat go_step
  refine bodyPost_ret (w := (w3.setCells (w.heap.size + 1 + 1) 0 (RL (r))).alloc (.cells (RA (r)) 26)) (results_mid3 (b := w.heap.size + 1 + 1) (o := 0) rfl _ _ rfl (World.rangeAt_alloc (World.rangeAt_setCells_same _ _ _ _ HT3) _) Tryd.underlying26 rfl size26) rfl ?_
  refine ⟨rfl, Below.alloc (Below.setCells (by omega) _ _ B3) (by rw [setCells_size]; omega) _⟩

set_option maxRecDepth 20000 in
set_option maxHeartbeats 400000 in
theorem do_15f (d n m imm pc : Int) (r : Nat → Int) (w : World) (hS : Shapes w) (hk : chk 15 d n m imm = true) (h0 : 0 ≤ d) (h1 : d < 8) (hr : (r d.toNat == 0) = false) :
    Calls Tryd.prog 11 #[IV 15 d n m imm, RV r, .int .i64 pc] w fun e w' => e = .returned (.tuple #[RV (r), .int .i64 (wrap64 (pc + 1)), .int .i64 0]) ∧ Below w.heap.size w w' := by
  have Hk := Lib.hid hk; clear hk
  have Hr := Lib.hid hr; clear hr
  go_enter Tryd.func11, Tryd.ntmps11
  go_wp2_with fail
  refine (check_yes _ _ _ _ _ _ (((hS.alloc _).alloc _).alloc _) Hk.out).mono ?_
  rintro e w1 ⟨rfl, hb1⟩
  obtain ⟨hc, hf⟩ := bcell hb1
  have hz2 : w.heap.size + 1 + 1 < w1.heap.size := by have := hb1.size; simp at this; omega
  have hz1 : w.heap.size + 1 < w1.heap.size := by omega
  have hz0 : w.heap.size < w1.heap.size := by omega
  have B1 : Below w.heap.size w w1 := Below.trans (by go_grown) (hb1.mono (by simp; omega))
  have HT1 := World.there_below (there_new ((w.alloc _).alloc _) #[.int .u64 0, .int .u64 0, .int .u64 0, .int .u64 0, .int .u64 0, .int .u64 0, .int .u64 0, .int .u64 0] 26 8 rfl) hb1 (by simp)
  simp at HT1
  go_wp2_with fail
  have hix := idx15
  go_region_held3 (fun w' => w'.cell? ⟨w.heap.size, 0, none⟩ = some (.int .i8 15)) (first | (refine (hb2.cell (p := ⟨w.heap.size, 0, none⟩) ?_).trans ?_ <;> first | assumption | (simp; omega) | go_simp) | go_simp) (first | (go_at_call 31; refine (ops_any _).mono ?_; rintro e w2 ⟨rfl, hb2, ho⟩))
  clear hix
  have hB := hb2.size
  simp only [World.size_drew] at hB ho
  have hs := ho.size
  obtain ⟨hc2, hf2⟩ := bcell_drew hb2
  have B2 : Below w.heap.size w w2 := B1.trans (below_undrew (hb2.mono (by simp; omega)))
  have HT2 := World.there_below ((World.there_drew _ _ _ _).2 HT1) hb2 hz2
  have hz4 : w.heap.size + 1 + 1 < w2.heap.size := by omega
  have hz5 : w.heap.size + 1 < w2.heap.size := by omega
  have hz6 : w.heap.size < w2.heap.size := by omega
  have hq := eq_cl
  go_wp2_with fail
  refine (branch_z0 _ _ _ _ _ _ _ _ _ h0 h1 Hr.out (by omega) ho.c7).mono ?_
  rintro e w3 ⟨rfl, hb3⟩
  obtain ⟨hc3, hf3⟩ := bcell hb3
  have hB3 := hb3.size
  have hz7 : w.heap.size + 1 + 1 < w3.heap.size := by omega
  have hz8 : w.heap.size + 1 + 1 < w3.heap.size + 1 := by omega
  have B3 : Below w.heap.size w w3 := B2.trans (hb3.mono (by omega))
  have HT3 := World.there_below HT2 hb3 hz4
  dsimp only
  repeat go_step
  refine bodyPost_ret (w := (w3.setCells (w.heap.size + 1 + 1) 0 (RL (r))).alloc (.cells (RA (r)) 26)) (results_mid3 (b := w.heap.size + 1 + 1) (o := 0) rfl _ _ rfl (World.rangeAt_alloc (World.rangeAt_setCells_same _ _ _ _ HT3) _) Tryd.underlying26 rfl size26) rfl ?_
  refine ⟨rfl, Below.alloc (Below.setCells (by omega) _ _ B3) (by rw [setCells_size]; omega) _⟩

theorem idx16 (B : Nat) (w : World) : (Instr.index 69 (opsV B) (.int .i8 16)).run Tryd.prog w = .ok (cl 71 (B + 8)) w := by kernel_rfl

set_option maxRecDepth 20000 in
set_option maxHeartbeats 400000 in
theorem do_16t (d n m imm pc : Int) (r : Nat → Int) (w : World) (hS : Shapes w) (hk : chk 16 d n m imm = true) (h0 : 0 ≤ d) (h1 : d < 8) (hr : (r d.toNat != 0) = true) :
    Calls Tryd.prog 11 #[IV 16 d n m imm, RV r, .int .i64 pc] w fun e w' => e = .returned (.tuple #[RV (r), .int .i64 (wrap64 (pc + imm)), .int .i64 0]) ∧ Below w.heap.size w w' := by
  have Hk := Lib.hid hk; clear hk
  have Hr := Lib.hid hr; clear hr
  go_enter Tryd.func11, Tryd.ntmps11
  go_wp2_with fail
  refine (check_yes _ _ _ _ _ _ (((hS.alloc _).alloc _).alloc _) Hk.out).mono ?_
  rintro e w1 ⟨rfl, hb1⟩
  obtain ⟨hc, hf⟩ := bcell hb1
  have hz2 : w.heap.size + 1 + 1 < w1.heap.size := by have := hb1.size; simp at this; omega
  have hz1 : w.heap.size + 1 < w1.heap.size := by omega
  have hz0 : w.heap.size < w1.heap.size := by omega
  have B1 : Below w.heap.size w w1 := Below.trans (by go_grown) (hb1.mono (by simp; omega))
  have HT1 := World.there_below (there_new ((w.alloc _).alloc _) #[.int .u64 0, .int .u64 0, .int .u64 0, .int .u64 0, .int .u64 0, .int .u64 0, .int .u64 0, .int .u64 0] 26 8 rfl) hb1 (by simp)
  simp at HT1
  go_wp2_with fail
  have hix := idx16
  go_region_held3 (fun w' => w'.cell? ⟨w.heap.size, 0, none⟩ = some (.int .i8 16)) (first | (refine (hb2.cell (p := ⟨w.heap.size, 0, none⟩) ?_).trans ?_ <;> first | assumption | (simp; omega) | go_simp) | go_simp) (first | (go_at_call 31; refine (ops_any _).mono ?_; rintro e w2 ⟨rfl, hb2, ho⟩))
  clear hix
  have hB := hb2.size
  simp only [World.size_drew] at hB ho
  have hs := ho.size
  obtain ⟨hc2, hf2⟩ := bcell_drew hb2
  have B2 : Below w.heap.size w w2 := B1.trans (below_undrew (hb2.mono (by simp; omega)))
  have HT2 := World.there_below ((World.there_drew _ _ _ _).2 HT1) hb2 hz2
  have hz4 : w.heap.size + 1 + 1 < w2.heap.size := by omega
  have hz5 : w.heap.size + 1 < w2.heap.size := by omega
  have hz6 : w.heap.size < w2.heap.size := by omega
  have hq := eq_cl
  go_wp2_with fail
  refine (branch_n1 _ _ _ _ _ _ _ _ _ h0 h1 Hr.out (by omega) ho.c8).mono ?_
  rintro e w3 ⟨rfl, hb3⟩
  obtain ⟨hc3, hf3⟩ := bcell hb3
  have hB3 := hb3.size
  have hz7 : w.heap.size + 1 + 1 < w3.heap.size := by omega
  have hz8 : w.heap.size + 1 + 1 < w3.heap.size + 1 := by omega
  have B3 : Below w.heap.size w w3 := B2.trans (hb3.mono (by omega))
  have HT3 := World.there_below HT2 hb3 hz4
  dsimp only
  repeat go_step
  refine bodyPost_ret (w := (w3.setCells (w.heap.size + 1 + 1) 0 (RL (r))).alloc (.cells (RA (r)) 26)) (results_mid3 (b := w.heap.size + 1 + 1) (o := 0) rfl _ _ rfl (World.rangeAt_alloc (World.rangeAt_setCells_same _ _ _ _ HT3) _) Tryd.underlying26 rfl size26) rfl ?_
  refine ⟨rfl, Below.alloc (Below.setCells (by omega) _ _ B3) (by rw [setCells_size]; omega) _⟩

set_option maxRecDepth 20000 in
set_option maxHeartbeats 400000 in
theorem do_16f (d n m imm pc : Int) (r : Nat → Int) (w : World) (hS : Shapes w) (hk : chk 16 d n m imm = true) (h0 : 0 ≤ d) (h1 : d < 8) (hr : (r d.toNat != 0) = false) :
    Calls Tryd.prog 11 #[IV 16 d n m imm, RV r, .int .i64 pc] w fun e w' => e = .returned (.tuple #[RV (r), .int .i64 (wrap64 (pc + 1)), .int .i64 0]) ∧ Below w.heap.size w w' := by
  have Hk := Lib.hid hk; clear hk
  have Hr := Lib.hid hr; clear hr
  go_enter Tryd.func11, Tryd.ntmps11
  go_wp2_with fail
  refine (check_yes _ _ _ _ _ _ (((hS.alloc _).alloc _).alloc _) Hk.out).mono ?_
  rintro e w1 ⟨rfl, hb1⟩
  obtain ⟨hc, hf⟩ := bcell hb1
  have hz2 : w.heap.size + 1 + 1 < w1.heap.size := by have := hb1.size; simp at this; omega
  have hz1 : w.heap.size + 1 < w1.heap.size := by omega
  have hz0 : w.heap.size < w1.heap.size := by omega
  have B1 : Below w.heap.size w w1 := Below.trans (by go_grown) (hb1.mono (by simp; omega))
  have HT1 := World.there_below (there_new ((w.alloc _).alloc _) #[.int .u64 0, .int .u64 0, .int .u64 0, .int .u64 0, .int .u64 0, .int .u64 0, .int .u64 0, .int .u64 0] 26 8 rfl) hb1 (by simp)
  simp at HT1
  go_wp2_with fail
  have hix := idx16
  go_region_held3 (fun w' => w'.cell? ⟨w.heap.size, 0, none⟩ = some (.int .i8 16)) (first | (refine (hb2.cell (p := ⟨w.heap.size, 0, none⟩) ?_).trans ?_ <;> first | assumption | (simp; omega) | go_simp) | go_simp) (first | (go_at_call 31; refine (ops_any _).mono ?_; rintro e w2 ⟨rfl, hb2, ho⟩))
  clear hix
  have hB := hb2.size
  simp only [World.size_drew] at hB ho
  have hs := ho.size
  obtain ⟨hc2, hf2⟩ := bcell_drew hb2
  have B2 : Below w.heap.size w w2 := B1.trans (below_undrew (hb2.mono (by simp; omega)))
  have HT2 := World.there_below ((World.there_drew _ _ _ _).2 HT1) hb2 hz2
  have hz4 : w.heap.size + 1 + 1 < w2.heap.size := by omega
  have hz5 : w.heap.size + 1 < w2.heap.size := by omega
  have hz6 : w.heap.size < w2.heap.size := by omega
  have hq := eq_cl
  go_wp2_with fail
  refine (branch_n0 _ _ _ _ _ _ _ _ _ h0 h1 Hr.out (by omega) ho.c8).mono ?_
  rintro e w3 ⟨rfl, hb3⟩
  obtain ⟨hc3, hf3⟩ := bcell hb3
  have hB3 := hb3.size
  have hz7 : w.heap.size + 1 + 1 < w3.heap.size := by omega
  have hz8 : w.heap.size + 1 + 1 < w3.heap.size + 1 := by omega
  have B3 : Below w.heap.size w w3 := B2.trans (hb3.mono (by omega))
  have HT3 := World.there_below HT2 hb3 hz4
  dsimp only
  repeat go_step
  refine bodyPost_ret (w := (w3.setCells (w.heap.size + 1 + 1) 0 (RL (r))).alloc (.cells (RA (r)) 26)) (results_mid3 (b := w.heap.size + 1 + 1) (o := 0) rfl _ _ rfl (World.rangeAt_alloc (World.rangeAt_setCells_same _ _ _ _ HT3) _) Tryd.underlying26 rfl size26) rfl ?_
  refine ⟨rfl, Below.alloc (Below.setCells (by omega) _ _ B3) (by rw [setCells_size]; omega) _⟩

theorem idx8 (B : Nat) (w : World) : (Instr.index 69 (opsV B) (.int .i8 8)).run Tryd.prog w = .ok (.nilFunc) w := by kernel_rfl

set_option maxRecDepth 20000 in
set_option maxHeartbeats 400000 in
theorem do_8 (d n m imm pc : Int) (r : Nat → Int) (w : World) (hS : Shapes w) (hk : chk 8 d n m imm = true) :
    Calls Tryd.prog 11 #[IV 8 d n m imm, RV r, .int .i64 pc] w fun e w' => e = .returned (.tuple #[RV (r), .int .i64 (pc), .int .i64 21]) ∧ Below w.heap.size w w' := by
  have Hk := Lib.hid hk; clear hk
  go_enter Tryd.func11, Tryd.ntmps11
  go_wp2_with fail
  refine (check_yes _ _ _ _ _ _ (((hS.alloc _).alloc _).alloc _) Hk.out).mono ?_
  rintro e w1 ⟨rfl, hb1⟩
  obtain ⟨hc, hf⟩ := bcell hb1
  have hz2 : w.heap.size + 1 + 1 < w1.heap.size := by have := hb1.size; simp at this; omega
  have hz1 : w.heap.size + 1 < w1.heap.size := by omega
  have hz0 : w.heap.size < w1.heap.size := by omega
  have B1 : Below w.heap.size w w1 := Below.trans (by go_grown) (hb1.mono (by simp; omega))
  have HT1 := World.there_below (there_new ((w.alloc _).alloc _) #[.int .u64 0, .int .u64 0, .int .u64 0, .int .u64 0, .int .u64 0, .int .u64 0, .int .u64 0, .int .u64 0] 26 8 rfl) hb1 (by simp)
  simp at HT1
  go_wp2_with fail
  have hix := idx8
  go_region_held3 (fun w' => w'.cell? ⟨w.heap.size, 0, none⟩ = some (.int .i8 8)) (first | (refine (hb2.cell (p := ⟨w.heap.size, 0, none⟩) ?_).trans ?_ <;> first | assumption | (simp; omega) | go_simp) | go_simp) (first | (go_at_call 31; refine (ops_any _).mono ?_; rintro e w2 ⟨rfl, hb2, ho⟩))
  clear hix
  have hB := hb2.size
  simp only [World.size_drew] at hB ho
  have hs := ho.size
  obtain ⟨hc2, hf2⟩ := bcell_drew hb2
  have B2 : Below w.heap.size w w2 := B1.trans (below_undrew (hb2.mono (by simp; omega)))
  have HT2 := World.there_below ((World.there_drew _ _ _ _).2 HT1) hb2 hz2
  have hz4 : w.heap.size + 1 + 1 < w2.heap.size := by omega
  have hz5 : w.heap.size + 1 < w2.heap.size := by omega
  have hz6 : w.heap.size < w2.heap.size := by omega
  have hq := eq_nil
  go_wp2
  refine bodyPost_ret (w := w2.setCells (w.heap.size + 1 + 1) 0 (RL r)) (results_mid3 (b := w.heap.size + 1 + 1) (o := 0) rfl _ _ rfl (World.rangeAt_setCells_same _ _ _ _ HT2) Tryd.underlying26 rfl size26) rfl ?_
  refine ⟨rfl, Below.setCells (by omega) _ _ B2⟩

theorem idx9 (B : Nat) (w : World) : (Instr.index 69 (opsV B) (.int .i8 9)).run Tryd.prog w = .ok (.nilFunc) w := by kernel_rfl

set_option maxRecDepth 20000 in
set_option maxHeartbeats 400000 in
theorem do_9 (d n m imm pc : Int) (r : Nat → Int) (w : World) (hS : Shapes w) (hk : chk 9 d n m imm = true) :
    Calls Tryd.prog 11 #[IV 9 d n m imm, RV r, .int .i64 pc] w fun e w' => e = .returned (.tuple #[RV (r), .int .i64 (pc), .int .i64 21]) ∧ Below w.heap.size w w' := by
  have Hk := Lib.hid hk; clear hk
  go_enter Tryd.func11, Tryd.ntmps11
  go_wp2_with fail
  refine (check_yes _ _ _ _ _ _ (((hS.alloc _).alloc _).alloc _) Hk.out).mono ?_
  rintro e w1 ⟨rfl, hb1⟩
  obtain ⟨hc, hf⟩ := bcell hb1
  have hz2 : w.heap.size + 1 + 1 < w1.heap.size := by have := hb1.size; simp at this; omega
  have hz1 : w.heap.size + 1 < w1.heap.size := by omega
  have hz0 : w.heap.size < w1.heap.size := by omega
  have B1 : Below w.heap.size w w1 := Below.trans (by go_grown) (hb1.mono (by simp; omega))
  have HT1 := World.there_below (there_new ((w.alloc _).alloc _) #[.int .u64 0, .int .u64 0, .int .u64 0, .int .u64 0, .int .u64 0, .int .u64 0, .int .u64 0, .int .u64 0] 26 8 rfl) hb1 (by simp)
  simp at HT1
  go_wp2_with fail
  have hix := idx9
  go_region_held3 (fun w' => w'.cell? ⟨w.heap.size, 0, none⟩ = some (.int .i8 9)) (first | (refine (hb2.cell (p := ⟨w.heap.size, 0, none⟩) ?_).trans ?_ <;> first | assumption | (simp; omega) | go_simp) | go_simp) (first | (go_at_call 31; refine (ops_any _).mono ?_; rintro e w2 ⟨rfl, hb2, ho⟩))
  clear hix
  have hB := hb2.size
  simp only [World.size_drew] at hB ho
  have hs := ho.size
  obtain ⟨hc2, hf2⟩ := bcell_drew hb2
  have B2 : Below w.heap.size w w2 := B1.trans (below_undrew (hb2.mono (by simp; omega)))
  have HT2 := World.there_below ((World.there_drew _ _ _ _).2 HT1) hb2 hz2
  have hz4 : w.heap.size + 1 + 1 < w2.heap.size := by omega
  have hz5 : w.heap.size + 1 < w2.heap.size := by omega
  have hz6 : w.heap.size < w2.heap.size := by omega
  have hq := eq_nil
  go_wp2
  refine bodyPost_ret (w := w2.setCells (w.heap.size + 1 + 1) 0 (RL r)) (results_mid3 (b := w.heap.size + 1 + 1) (o := 0) rfl _ _ rfl (World.rangeAt_setCells_same _ _ _ _ HT2) Tryd.underlying26 rfl size26) rfl ?_
  refine ⟨rfl, Below.setCells (by omega) _ _ B2⟩

theorem idx10 (B : Nat) (w : World) : (Instr.index 69 (opsV B) (.int .i8 10)).run Tryd.prog w = .ok (.nilFunc) w := by kernel_rfl

set_option maxRecDepth 20000 in
set_option maxHeartbeats 400000 in
theorem do_10 (d n m imm pc : Int) (r : Nat → Int) (w : World) (hS : Shapes w) (hk : chk 10 d n m imm = true) :
    Calls Tryd.prog 11 #[IV 10 d n m imm, RV r, .int .i64 pc] w fun e w' => e = .returned (.tuple #[RV (r), .int .i64 (pc), .int .i64 21]) ∧ Below w.heap.size w w' := by
  have Hk := Lib.hid hk; clear hk
  go_enter Tryd.func11, Tryd.ntmps11
  go_wp2_with fail
  refine (check_yes _ _ _ _ _ _ (((hS.alloc _).alloc _).alloc _) Hk.out).mono ?_
  rintro e w1 ⟨rfl, hb1⟩
  obtain ⟨hc, hf⟩ := bcell hb1
  have hz2 : w.heap.size + 1 + 1 < w1.heap.size := by have := hb1.size; simp at this; omega
  have hz1 : w.heap.size + 1 < w1.heap.size := by omega
  have hz0 : w.heap.size < w1.heap.size := by omega
  have B1 : Below w.heap.size w w1 := Below.trans (by go_grown) (hb1.mono (by simp; omega))
  have HT1 := World.there_below (there_new ((w.alloc _).alloc _) #[.int .u64 0, .int .u64 0, .int .u64 0, .int .u64 0, .int .u64 0, .int .u64 0, .int .u64 0, .int .u64 0] 26 8 rfl) hb1 (by simp)
  simp at HT1
  go_wp2_with fail
  have hix := idx10
  go_region_held3 (fun w' => w'.cell? ⟨w.heap.size, 0, none⟩ = some (.int .i8 10)) (first | (refine (hb2.cell (p := ⟨w.heap.size, 0, none⟩) ?_).trans ?_ <;> first | assumption | (simp; omega) | go_simp) | go_simp) (first | (go_at_call 31; refine (ops_any _).mono ?_; rintro e w2 ⟨rfl, hb2, ho⟩))
  clear hix
  have hB := hb2.size
  simp only [World.size_drew] at hB ho
  have hs := ho.size
  obtain ⟨hc2, hf2⟩ := bcell_drew hb2
  have B2 : Below w.heap.size w w2 := B1.trans (below_undrew (hb2.mono (by simp; omega)))
  have HT2 := World.there_below ((World.there_drew _ _ _ _).2 HT1) hb2 hz2
  have hz4 : w.heap.size + 1 + 1 < w2.heap.size := by omega
  have hz5 : w.heap.size + 1 < w2.heap.size := by omega
  have hz6 : w.heap.size < w2.heap.size := by omega
  have hq := eq_nil
  go_wp2
  refine bodyPost_ret (w := w2.setCells (w.heap.size + 1 + 1) 0 (RL r)) (results_mid3 (b := w.heap.size + 1 + 1) (o := 0) rfl _ _ rfl (World.rangeAt_setCells_same _ _ _ _ HT2) Tryd.underlying26 rfl size26) rfl ?_
  refine ⟨rfl, Below.setCells (by omega) _ _ B2⟩

theorem idx11 (B : Nat) (w : World) : (Instr.index 69 (opsV B) (.int .i8 11)).run Tryd.prog w = .ok (.nilFunc) w := by kernel_rfl

set_option maxRecDepth 20000 in
set_option maxHeartbeats 400000 in
theorem do_11 (d n m imm pc : Int) (r : Nat → Int) (w : World) (hS : Shapes w) (hk : chk 11 d n m imm = true) :
    Calls Tryd.prog 11 #[IV 11 d n m imm, RV r, .int .i64 pc] w fun e w' => e = .returned (.tuple #[RV (r), .int .i64 (pc), .int .i64 21]) ∧ Below w.heap.size w w' := by
  have Hk := Lib.hid hk; clear hk
  go_enter Tryd.func11, Tryd.ntmps11
  go_wp2_with fail
  refine (check_yes _ _ _ _ _ _ (((hS.alloc _).alloc _).alloc _) Hk.out).mono ?_
  rintro e w1 ⟨rfl, hb1⟩
  obtain ⟨hc, hf⟩ := bcell hb1
  have hz2 : w.heap.size + 1 + 1 < w1.heap.size := by have := hb1.size; simp at this; omega
  have hz1 : w.heap.size + 1 < w1.heap.size := by omega
  have hz0 : w.heap.size < w1.heap.size := by omega
  have B1 : Below w.heap.size w w1 := Below.trans (by go_grown) (hb1.mono (by simp; omega))
  have HT1 := World.there_below (there_new ((w.alloc _).alloc _) #[.int .u64 0, .int .u64 0, .int .u64 0, .int .u64 0, .int .u64 0, .int .u64 0, .int .u64 0, .int .u64 0] 26 8 rfl) hb1 (by simp)
  simp at HT1
  go_wp2_with fail
  have hix := idx11
  go_region_held3 (fun w' => w'.cell? ⟨w.heap.size, 0, none⟩ = some (.int .i8 11)) (first | (refine (hb2.cell (p := ⟨w.heap.size, 0, none⟩) ?_).trans ?_ <;> first | assumption | (simp; omega) | go_simp) | go_simp) (first | (go_at_call 31; refine (ops_any _).mono ?_; rintro e w2 ⟨rfl, hb2, ho⟩))
  clear hix
  have hB := hb2.size
  simp only [World.size_drew] at hB ho
  have hs := ho.size
  obtain ⟨hc2, hf2⟩ := bcell_drew hb2
  have B2 : Below w.heap.size w w2 := B1.trans (below_undrew (hb2.mono (by simp; omega)))
  have HT2 := World.there_below ((World.there_drew _ _ _ _).2 HT1) hb2 hz2
  have hz4 : w.heap.size + 1 + 1 < w2.heap.size := by omega
  have hz5 : w.heap.size + 1 < w2.heap.size := by omega
  have hz6 : w.heap.size < w2.heap.size := by omega
  have hq := eq_nil
  go_wp2
  refine bodyPost_ret (w := w2.setCells (w.heap.size + 1 + 1) 0 (RL r)) (results_mid3 (b := w.heap.size + 1 + 1) (o := 0) rfl _ _ rfl (World.rangeAt_setCells_same _ _ _ _ HT2) Tryd.underlying26 rfl size26) rfl ?_
  refine ⟨rfl, Below.setCells (by omega) _ _ B2⟩

theorem idx12 (B : Nat) (w : World) : (Instr.index 69 (opsV B) (.int .i8 12)).run Tryd.prog w = .ok (.nilFunc) w := by kernel_rfl

set_option maxRecDepth 20000 in
set_option maxHeartbeats 400000 in
theorem do_12 (d n m imm pc : Int) (r : Nat → Int) (w : World) (hS : Shapes w) (hk : chk 12 d n m imm = true) :
    Calls Tryd.prog 11 #[IV 12 d n m imm, RV r, .int .i64 pc] w fun e w' => e = .returned (.tuple #[RV (r), .int .i64 (pc), .int .i64 21]) ∧ Below w.heap.size w w' := by
  have Hk := Lib.hid hk; clear hk
  go_enter Tryd.func11, Tryd.ntmps11
  go_wp2_with fail
  refine (check_yes _ _ _ _ _ _ (((hS.alloc _).alloc _).alloc _) Hk.out).mono ?_
  rintro e w1 ⟨rfl, hb1⟩
  obtain ⟨hc, hf⟩ := bcell hb1
  have hz2 : w.heap.size + 1 + 1 < w1.heap.size := by have := hb1.size; simp at this; omega
  have hz1 : w.heap.size + 1 < w1.heap.size := by omega
  have hz0 : w.heap.size < w1.heap.size := by omega
  have B1 : Below w.heap.size w w1 := Below.trans (by go_grown) (hb1.mono (by simp; omega))
  have HT1 := World.there_below (there_new ((w.alloc _).alloc _) #[.int .u64 0, .int .u64 0, .int .u64 0, .int .u64 0, .int .u64 0, .int .u64 0, .int .u64 0, .int .u64 0] 26 8 rfl) hb1 (by simp)
  simp at HT1
  go_wp2_with fail
  have hix := idx12
  go_region_held3 (fun w' => w'.cell? ⟨w.heap.size, 0, none⟩ = some (.int .i8 12)) (first | (refine (hb2.cell (p := ⟨w.heap.size, 0, none⟩) ?_).trans ?_ <;> first | assumption | (simp; omega) | go_simp) | go_simp) (first | (go_at_call 31; refine (ops_any _).mono ?_; rintro e w2 ⟨rfl, hb2, ho⟩))
  clear hix
  have hB := hb2.size
  simp only [World.size_drew] at hB ho
  have hs := ho.size
  obtain ⟨hc2, hf2⟩ := bcell_drew hb2
  have B2 : Below w.heap.size w w2 := B1.trans (below_undrew (hb2.mono (by simp; omega)))
  have HT2 := World.there_below ((World.there_drew _ _ _ _).2 HT1) hb2 hz2
  have hz4 : w.heap.size + 1 + 1 < w2.heap.size := by omega
  have hz5 : w.heap.size + 1 < w2.heap.size := by omega
  have hz6 : w.heap.size < w2.heap.size := by omega
  have hq := eq_nil
  go_wp2
  refine bodyPost_ret (w := w2.setCells (w.heap.size + 1 + 1) 0 (RL r)) (results_mid3 (b := w.heap.size + 1 + 1) (o := 0) rfl _ _ rfl (World.rangeAt_setCells_same _ _ _ _ HT2) Tryd.underlying26 rfl size26) rfl ?_
  refine ⟨rfl, Below.setCells (by omega) _ _ B2⟩

theorem idx13 (B : Nat) (w : World) : (Instr.index 69 (opsV B) (.int .i8 13)).run Tryd.prog w = .ok (.nilFunc) w := by kernel_rfl

set_option maxRecDepth 20000 in
set_option maxHeartbeats 400000 in
theorem do_13 (d n m imm pc : Int) (r : Nat → Int) (w : World) (hS : Shapes w) (hk : chk 13 d n m imm = true) :
    Calls Tryd.prog 11 #[IV 13 d n m imm, RV r, .int .i64 pc] w fun e w' => e = .returned (.tuple #[RV (r), .int .i64 (pc), .int .i64 21]) ∧ Below w.heap.size w w' := by
  have Hk := Lib.hid hk; clear hk
  go_enter Tryd.func11, Tryd.ntmps11
  go_wp2_with fail
  refine (check_yes _ _ _ _ _ _ (((hS.alloc _).alloc _).alloc _) Hk.out).mono ?_
  rintro e w1 ⟨rfl, hb1⟩
  obtain ⟨hc, hf⟩ := bcell hb1
  have hz2 : w.heap.size + 1 + 1 < w1.heap.size := by have := hb1.size; simp at this; omega
  have hz1 : w.heap.size + 1 < w1.heap.size := by omega
  have hz0 : w.heap.size < w1.heap.size := by omega
  have B1 : Below w.heap.size w w1 := Below.trans (by go_grown) (hb1.mono (by simp; omega))
  have HT1 := World.there_below (there_new ((w.alloc _).alloc _) #[.int .u64 0, .int .u64 0, .int .u64 0, .int .u64 0, .int .u64 0, .int .u64 0, .int .u64 0, .int .u64 0] 26 8 rfl) hb1 (by simp)
  simp at HT1
  go_wp2_with fail
  have hix := idx13
  go_region_held3 (fun w' => w'.cell? ⟨w.heap.size, 0, none⟩ = some (.int .i8 13)) (first | (refine (hb2.cell (p := ⟨w.heap.size, 0, none⟩) ?_).trans ?_ <;> first | assumption | (simp; omega) | go_simp) | go_simp) (first | (go_at_call 31; refine (ops_any _).mono ?_; rintro e w2 ⟨rfl, hb2, ho⟩))
  clear hix
  have hB := hb2.size
  simp only [World.size_drew] at hB ho
  have hs := ho.size
  obtain ⟨hc2, hf2⟩ := bcell_drew hb2
  have B2 : Below w.heap.size w w2 := B1.trans (below_undrew (hb2.mono (by simp; omega)))
  have HT2 := World.there_below ((World.there_drew _ _ _ _).2 HT1) hb2 hz2
  have hz4 : w.heap.size + 1 + 1 < w2.heap.size := by omega
  have hz5 : w.heap.size + 1 < w2.heap.size := by omega
  have hz6 : w.heap.size < w2.heap.size := by omega
  have hq := eq_nil
  go_wp2
  refine bodyPost_ret (w := w2.setCells (w.heap.size + 1 + 1) 0 (RL r)) (results_mid3 (b := w.heap.size + 1 + 1) (o := 0) rfl _ _ rfl (World.rangeAt_setCells_same _ _ _ _ HT2) Tryd.underlying26 rfl size26) rfl ?_
  refine ⟨rfl, Below.setCells (by omega) _ _ B2⟩

theorem idx17 (B : Nat) (w : World) : (Instr.index 69 (opsV B) (.int .i8 17)).run Tryd.prog w = .ok (.nilFunc) w := by kernel_rfl

set_option maxRecDepth 20000 in
set_option maxHeartbeats 400000 in
theorem do_17 (d n m imm pc : Int) (r : Nat → Int) (w : World) (hS : Shapes w) (hk : chk 17 d n m imm = true) :
    Calls Tryd.prog 11 #[IV 17 d n m imm, RV r, .int .i64 pc] w fun e w' => e = .returned (.tuple #[RV (r), .int .i64 (pc), .int .i64 21]) ∧ Below w.heap.size w w' := by
  have Hk := Lib.hid hk; clear hk
  go_enter Tryd.func11, Tryd.ntmps11
  go_wp2_with fail
  refine (check_yes _ _ _ _ _ _ (((hS.alloc _).alloc _).alloc _) Hk.out).mono ?_
  rintro e w1 ⟨rfl, hb1⟩
  obtain ⟨hc, hf⟩ := bcell hb1
  have hz2 : w.heap.size + 1 + 1 < w1.heap.size := by have := hb1.size; simp at this; omega
  have hz1 : w.heap.size + 1 < w1.heap.size := by omega
  have hz0 : w.heap.size < w1.heap.size := by omega
  have B1 : Below w.heap.size w w1 := Below.trans (by go_grown) (hb1.mono (by simp; omega))
  have HT1 := World.there_below (there_new ((w.alloc _).alloc _) #[.int .u64 0, .int .u64 0, .int .u64 0, .int .u64 0, .int .u64 0, .int .u64 0, .int .u64 0, .int .u64 0] 26 8 rfl) hb1 (by simp)
  simp at HT1
  go_wp2_with fail
  have hix := idx17
  go_region_held3 (fun w' => w'.cell? ⟨w.heap.size, 0, none⟩ = some (.int .i8 17)) (first | (refine (hb2.cell (p := ⟨w.heap.size, 0, none⟩) ?_).trans ?_ <;> first | assumption | (simp; omega) | go_simp) | go_simp) (first | (go_at_call 31; refine (ops_any _).mono ?_; rintro e w2 ⟨rfl, hb2, ho⟩))
  clear hix
  have hB := hb2.size
  simp only [World.size_drew] at hB ho
  have hs := ho.size
  obtain ⟨hc2, hf2⟩ := bcell_drew hb2
  have B2 : Below w.heap.size w w2 := B1.trans (below_undrew (hb2.mono (by simp; omega)))
  have HT2 := World.there_below ((World.there_drew _ _ _ _).2 HT1) hb2 hz2
  have hz4 : w.heap.size + 1 + 1 < w2.heap.size := by omega
  have hz5 : w.heap.size + 1 < w2.heap.size := by omega
  have hz6 : w.heap.size < w2.heap.size := by omega
  have hq := eq_nil
  go_wp2
  refine bodyPost_ret (w := w2.setCells (w.heap.size + 1 + 1) 0 (RL r)) (results_mid3 (b := w.heap.size + 1 + 1) (o := 0) rfl _ _ rfl (World.rangeAt_setCells_same _ _ _ _ HT2) Tryd.underlying26 rfl size26) rfl ?_
  refine ⟨rfl, Below.setCells (by omega) _ _ B2⟩

theorem idx18 (B : Nat) (w : World) : (Instr.index 69 (opsV B) (.int .i8 18)).run Tryd.prog w = .ok (.nilFunc) w := by kernel_rfl

set_option maxRecDepth 20000 in
set_option maxHeartbeats 400000 in
theorem do_18 (d n m imm pc : Int) (r : Nat → Int) (w : World) (hS : Shapes w) (hk : chk 18 d n m imm = true) :
    Calls Tryd.prog 11 #[IV 18 d n m imm, RV r, .int .i64 pc] w fun e w' => e = .returned (.tuple #[RV (r), .int .i64 (pc), .int .i64 21]) ∧ Below w.heap.size w w' := by
  have Hk := Lib.hid hk; clear hk
  go_enter Tryd.func11, Tryd.ntmps11
  go_wp2_with fail
  refine (check_yes _ _ _ _ _ _ (((hS.alloc _).alloc _).alloc _) Hk.out).mono ?_
  rintro e w1 ⟨rfl, hb1⟩
  obtain ⟨hc, hf⟩ := bcell hb1
  have hz2 : w.heap.size + 1 + 1 < w1.heap.size := by have := hb1.size; simp at this; omega
  have hz1 : w.heap.size + 1 < w1.heap.size := by omega
  have hz0 : w.heap.size < w1.heap.size := by omega
  have B1 : Below w.heap.size w w1 := Below.trans (by go_grown) (hb1.mono (by simp; omega))
  have HT1 := World.there_below (there_new ((w.alloc _).alloc _) #[.int .u64 0, .int .u64 0, .int .u64 0, .int .u64 0, .int .u64 0, .int .u64 0, .int .u64 0, .int .u64 0] 26 8 rfl) hb1 (by simp)
  simp at HT1
  go_wp2_with fail
  have hix := idx18
  go_region_held3 (fun w' => w'.cell? ⟨w.heap.size, 0, none⟩ = some (.int .i8 18)) (first | (refine (hb2.cell (p := ⟨w.heap.size, 0, none⟩) ?_).trans ?_ <;> first | assumption | (simp; omega) | go_simp) | go_simp) (first | (go_at_call 31; refine (ops_any _).mono ?_; rintro e w2 ⟨rfl, hb2, ho⟩))
  clear hix
  have hB := hb2.size
  simp only [World.size_drew] at hB ho
  have hs := ho.size
  obtain ⟨hc2, hf2⟩ := bcell_drew hb2
  have B2 : Below w.heap.size w w2 := B1.trans (below_undrew (hb2.mono (by simp; omega)))
  have HT2 := World.there_below ((World.there_drew _ _ _ _).2 HT1) hb2 hz2
  have hz4 : w.heap.size + 1 + 1 < w2.heap.size := by omega
  have hz5 : w.heap.size + 1 < w2.heap.size := by omega
  have hz6 : w.heap.size < w2.heap.size := by omega
  have hq := eq_nil
  go_wp2
  refine bodyPost_ret (w := w2.setCells (w.heap.size + 1 + 1) 0 (RL r)) (results_mid3 (b := w.heap.size + 1 + 1) (o := 0) rfl _ _ rfl (World.rangeAt_setCells_same _ _ _ _ HT2) Tryd.underlying26 rfl size26) rfl ?_
  refine ⟨rfl, Below.setCells (by omega) _ _ B2⟩

end Go.Proofs.YthfikhfhflinfaaDoor
