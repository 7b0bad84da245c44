/- alu.operations, and alu.Do by its contract. -/
import Derived.Test.YthfikhfhflinfaaDoorA1
import Derived.Test.YthfikhfhflinfaaDoorA2
import Derived.Laws.EntriesVeiled
import Derived.Deep.RegionHeld3
import Derived.Deep.MidRow
namespace Go.Proofs.YthfikhfhflinfaaDoor
open Go.RowKit

abbrev fv (k : Nat) : Value := .func (.func k) #[] #[]
abbrev cl (k b : Nat) : Value := .func (.func k) #[] #[.pointer (some ⟨b, 0, none⟩)]

set_option maxHeartbeats 400000 in
theorem three_any (k : Nat) (w : World) :
    Calls Tryd.prog 46 #[fv k] w fun e w' => e = .returned (cl 70 w.heap.size) ∧ w.alloc (.cells #[fv k] 88) = w' := by
  go_enter Tryd.func46, Tryd.ntmps46
  go_wp2
  go_returns
  exact ⟨rfl, rfl⟩
set_option maxHeartbeats 400000 in
theorem branch_any (k : Nat) (w : World) :
    Calls Tryd.prog 53 #[fv k] w fun e w' => e = .returned (cl 71 w.heap.size) ∧ w.alloc (.cells #[fv k] 90) = w' := by
  go_enter Tryd.func53, Tryd.ntmps53
  go_wp2
  go_returns
  exact ⟨rfl, rfl⟩

/-- what operations hands back -/
abbrev opsV (B : Nat) : Value := .agg #[fv 44, fv 45, cl 70 (B + 1), cl 70 (B + 2), cl 70 (B + 3), cl 70 (B + 4), cl 70 (B + 5), fv 52, .nilFunc, .nilFunc, .nilFunc, .nilFunc, .nilFunc, .nilFunc, cl 71 (B + 6), cl 71 (B + 7), cl 71 (B + 8), .nilFunc, .nilFunc]
structure OpsIn (B : Nat) (w : World) : Prop where
  c1 : w.cell? ⟨B + 1, 0, none⟩ = some (fv 47)
  c2 : w.cell? ⟨B + 2, 0, none⟩ = some (fv 48)
  c3 : w.cell? ⟨B + 3, 0, none⟩ = some (fv 49)
  c4 : w.cell? ⟨B + 4, 0, none⟩ = some (fv 50)
  c5 : w.cell? ⟨B + 5, 0, none⟩ = some (fv 51)
  c6 : w.cell? ⟨B + 6, 0, none⟩ = some (fv 54)
  c7 : w.cell? ⟨B + 7, 0, none⟩ = some (fv 55)
  c8 : w.cell? ⟨B + 8, 0, none⟩ = some (fv 56)
  size : B + 8 < w.heap.size


theorem Below.setCells {B b : Nat} (hb : B ≤ b) : ∀ (vs : List Value) (o : Nat) {a w : World}, Below B a w → Below B a (w.setCells b o vs)
  | [], _, _, _, h => h
  | v :: r, o, _, _, h => Below.setCells hb r (o + 1) (h.setCell (p := ⟨b, o, none⟩) hb v)

theorem there_new (w : World) (c : Array Value) (t : TypeId) (n : Nat) (hn : c.size = n) : (w.alloc (.cells c t)).there w.heap.size 0 n := fun j hj => by
  constructor
  · rw [Nat.zero_add, World.cell?_alloc_new]; simp; omega
  · exact World.frozen?_alloc_new w c t _

theorem setCells_size (b : Nat) : ∀ (vs : List Value) (o : Nat) (w : World), (w.setCells b o vs).heap.size = w.heap.size
  | [], _, _ => rfl
  | v :: r, o, w => by rw [World.setCells, setCells_size b r (o + 1), World.size_setCell]
theorem results_mid {P : Program} {fn : Func} {p : Tmp} {ty : TypeId} (h : fn.results = #[.cell p ty]) (tmps : Array Value) (w : World) {b o : Nat} (hp : tmps.getD p undef = .pointer (some ⟨b, o, none⟩))
    {cs : List Value} {d : TypeDesc} (hc : w.rangeAt b o cs) (hu : P.underlying ty = some d) (hd : d.isRow = true) (hi : (P.info? ty).map (·.size) = some cs.length) :
    (results fn tmps).run P w = .ok (.agg cs.toArray) w := by
  have hp' : tmps[p]?.getD undef = .pointer (some ⟨b, o, none⟩) := by simpa using hp
  simp [results, h, hp', asAddr, run_loadVar_mid w b o ty cs d hc hu hd hi]

theorem size69 : (Tryd.prog.info? 69).map (·.size) = some 19 := by kernel_rfl

set_option maxRecDepth 20000 in
set_option maxHeartbeats 1000000 in
theorem ops_any (w : World) :
    Calls Tryd.prog 31 #[] w fun e w' => e = .returned (opsV w.heap.size) ∧ Below w.heap.size w w' ∧ OpsIn w.heap.size w' := by
  go_enter Tryd.func31, Tryd.ntmps31
  go_wp2_with fail
  iterate 4
    (refine (three_any _ _).mono ?_; rintro e w' ⟨rfl, rfl⟩; go_wp2_with fail)
  (refine (three_any _ _).mono ?_; rintro e w' ⟨rfl, rfl⟩; go_wp2_with fail)
  iterate 2
    (refine (branch_any _ _).mono ?_; rintro e w' ⟨rfl, rfl⟩; go_wp2_with fail)
  (refine (branch_any _ _).mono ?_; rintro e w' ⟨rfl, rfl⟩)
  dsimp only
  go_step
  go_step
  go_step
  go_step
  refine wpList_store_mid rfl 69 _ _ rfl w.heap.size 0 _ rfl rfl ?ht size69 ?h1 ?_
  case ht => exact World.there_alloc (World.there_alloc (World.there_alloc (World.there_alloc (World.there_alloc (World.there_alloc (World.there_alloc (World.there_alloc (there_new _ _ _ _ rfl) _) _) _) _) _) _) _) _
  case h1 => simp [Value.oneCell']
  go_step
  go_step
  go_step
  go_step
  refine bodyPost_ret (results_mid (b := w.heap.size) (o := 0) rfl _ _ rfl (World.rangeAt_setCells_same _ _ _ _ ?ht2) Tryd.underlying69 rfl size69) rfl ?_
  case ht2 => exact World.there_alloc (World.there_alloc (World.there_alloc (World.there_alloc (World.there_alloc (World.there_alloc (World.there_alloc (World.there_alloc (there_new _ _ _ _ rfl) _) _) _) _) _) _) _) _
  refine ⟨rfl, Below.setCells (Nat.le_refl _) _ _ (by go_grown), ?_⟩
  constructor
  case size => rw [setCells_size]; simp
  all_goals (rw [World.cell?_setCells_out _ _ _ _ _ (fun h => by simp at h)]; simp [go_sem])
end Go.Proofs.YthfikhfhflinfaaDoor
