/- AluAlone, the plain law: what an instruction does hangs on the registers that it reads alone. No program in sight. -/
import Derived.Test.YthfikhfhflinfaaDoorA10
namespace Go.Proofs.YthfikhfhflinfaaDoor
open Go.RowKit

theorem onL_mem (b : Nat → Bool) (k j : Nat) (hj : j < k) (hb : b j = true) : (j : Int) ∈ onL b k := by
  unfold onL
  exact List.mem_map.2 ⟨j, List.mem_filter.2 ⟨List.mem_range.2 hj, hb⟩, rfl⟩
theorem upd_ne {r : Nat → Int} {d k : Nat} {v : Int} (h : k ≠ d) : upd r d v k = r k := by unfold upd; rw [if_neg h]
theorem upd_eq {r : Nat → Int} {d : Nat} {v : Int} : upd r d v d = v := by unfold upd; rw [if_pos rfl]

/-- what is not written stays -/
theorem aR_stays (op d n m imm : Int) (r : Nat → Int) (j : Nat) (h : aR op d n m imm r j ≠ r j) : (1 ≤ op ∧ op ≤ 7) ∧ j = d.toNat := by
  by_cases hj : j = d.toNat
  · refine ⟨?_, hj⟩
    unfold aR at h
    (repeat' split at h) <;> first | omega | exact absurd rfl h
  · exfalso; apply h
    unfold aR
    (repeat' split) <;> first | exact upd_ne hj | rfl

/-- other numbers in one register that is not read: the same elsewhere, and where it is written -/
theorem aR_alone (op d n m imm : Int) (r : Nat → Int) (k : Nat) (o : Int) (hk : rdB op d n m k = false) (ho : 0 ≤ op ∧ op ≤ 18) (hop : isAlu op = true) :
    (∀ j, (j ≠ k ∨ (1 ≤ op ∧ op ≤ 7 ∧ j = d.toNat)) → aR op d n m imm r j = aR op d n m imm (upd r k o) j) ∧ ∀ pc, aP op d imm r pc = aP op d imm (upd r k o) pc := by
  have e : ∀ x : Nat, x ≠ k → upd r k o x = r x := fun x hx => upd_ne hx
  have cs := ho
  constructor
  · intro j hj
    have hN : (2 ≤ op ∧ op ≤ 7) → n.toNat ≠ k := by
      rintro ⟨a, b⟩ rfl
      by_cases h7 : op = 7
      · subst h7; simp [rdB, updB] at hk
      · have h6 : 2 ≤ op ∧ op ≤ 6 := by omega
        simp [rdB, h6.1, h6.2, updB] at hk
    have hM : (2 ≤ op ∧ op ≤ 6) → m.toNat ≠ k := by
      rintro ⟨a, b⟩ rfl
      simp [rdB, a, b, updB] at hk
    by_cases hd : j = d.toNat
    · unfold aR
      (repeat' split) <;> first
        | (subst hd; rw [upd_eq, upd_eq, e _ (hN (by omega)), e _ (hM (by omega))])
        | (subst hd; rw [upd_eq, upd_eq, e _ (hN (by omega))])
        | (subst hd; rw [upd_eq, upd_eq])
        | (rw [e]; omega)
    · have hjk : j ≠ k := by omega
      unfold aR
      (repeat' split) <;> first
        | (rw [upd_ne hd, upd_ne hd, e _ hjk])
        | (rw [e _ hjk])
  · intro pc
    have hD : (op = 15 ∨ op = 16) → d.toNat ≠ k := by
      rintro h rfl
      rcases h with rfl | rfl <;> simp [rdB, updB] at hk
    unfold aP
    by_cases h15 : op = 15
    · subst h15; rw [e _ (hD (.inl rfl))]
    · by_cases h16 : op = 16
      · subst h16; rw [e _ (hD (.inr rfl))]
      · simp [h15, h16]
end Go.Proofs.YthfikhfhflinfaaDoor
