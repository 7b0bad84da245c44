/- A value of plain make (integers, bools, structs and arrays of these), by value: what its cells are, from its reading. Of whatever program. -/
import Derived.ProofKit
import Derived.OpenShut
namespace Go.Proofs.YthfikhfhflinfaaDoor
open Go.ChangeShapes Go.WideShapes

/-- the cells of a plain datum, in order -/
def flat {H : Type} : DataW H → List Value
  | .lit (.bool b) => [.bool b]
  | .lit (.int k n) => [.int k n]
  | .agg l => (l.attach.map fun ⟨d, _⟩ => flat d).flatten
  | _ => []
theorem flat_agg {H : Type} (l : List (DataW H)) : flat (.agg l) = (l.map flat).flatten := by
  rw [flat]; congr 1; exact List.attach_map_val (l := l) (f := flat)

/-- one cell's make: a bool, or an integer of a kind -/
def Good : Option IntKind → Value → Prop
  | none, v => ∃ b, v = .bool b
  | some k, v => ∃ n, v = .int k n ∧ (Lit.int k n).wf = true
def Goods : List (Option IntKind) → List Value → Prop
  | [], [] => True
  | k :: ks, v :: vs => Good k v ∧ Goods ks vs
  | _, _ => False
theorem Goods.append : ∀ {ks : List (Option IntKind)} {vs : List Value} {ks' : List (Option IntKind)} {vs' : List Value}, Goods ks vs → Goods ks' vs' → Goods (ks ++ ks') (vs ++ vs')
  | [], [], _, _, _, h => h
  | _ :: _, _ :: _, _, _, ⟨a, b⟩, h => ⟨a, Goods.append b h⟩
theorem Goods.length : ∀ {ks : List (Option IntKind)} {vs : List Value}, Goods ks vs → vs.length = ks.length
  | [], [], _ => rfl
  | _ :: _, _ :: _, ⟨_, b⟩ => by simp [Goods.length b]

theorem Goods.int {k : IntKind} {ks : List (Option IntKind)} {l : List Value} (h : Goods (some k :: ks) l) : ∃ (n : Int) (vs : List Value), l = .int k n :: vs ∧ (Lit.int k n).wf = true ∧ Goods ks vs := by
  cases l with
  | nil => exact h.elim
  | cons v vs => obtain ⟨⟨n, rfl, hw⟩, h2⟩ := h; exact ⟨n, vs, rfl, hw, h2⟩
theorem Goods.bool {ks : List (Option IntKind)} {l : List Value} (h : Goods (none :: ks) l) : ∃ (b : Bool) (vs : List Value), l = .bool b :: vs ∧ Goods ks vs := by
  cases l with
  | nil => exact h.elim
  | cons v vs => obtain ⟨⟨n, rfl⟩, h2⟩ := h; exact ⟨n, vs, rfl, h2⟩
theorem Goods.nil {l : List Value} (h : Goods [] l) : l = [] := by
  cases l with
  | nil => rfl
  | cons v vs => exact h.elim

mutual
/-- the cells' makes of a type, where it is plain -/
def kindsOf (P : Program) : Nat → TypeId → Option (List (Option IntKind))
  | 0, _ => none
  | n + 1, t =>
    match P.underlying t with
    | some .bool => some [none]
    | some (.int k) => some [some k]
    | some (.struct fs) => (kindsFields P n fs.toList 0).bind fun ks => if ks.length = P.cellsOf t then some ks else none
    | some (.array m e) => (kindsOf P n e).bind fun ks => if ks.length = P.cellsOf e ∧ m * ks.length = P.cellsOf t then some (List.replicate m ks).flatten else none
    | _ => none
def kindsFields (P : Program) : Nat → List Field → Nat → Option (List (Option IntKind))
  | 0, _, _ => none
  | _ + 1, [], _ => some []
  | n + 1, f :: fs, o => if f.offset = o then (kindsOf P n f.type).bind fun ks => if ks.length = P.cellsOf f.type then (kindsFields P n fs (o + ks.length)).map (ks ++ ·) else none else none
end

section
variable {H : Type} {enc : TypeId × Value → H} {P : Program} {w : World} {base : Nat} {spare : Nat → Bool} {held : Bool}

theorem take_add_drop {α : Type} (l : List α) (o a b : Nat) : (l.drop o).take (a + b) = (l.drop o).take a ++ (l.drop (o + a)).take b := by
  rw [List.take_add, List.drop_drop]

theorem trod_plain : ∀ (n : Nat),
    (∀ (t : TypeId) (ks : List (Option IntKind)), kindsOf P n t = some ks → ∀ (fuel : Nat) (cs : List Value) (x : DataW H × List MemPlace), DataW.trod enc P w base spare held fuel t cs = some x → Goods ks cs ∧ flat x.1 = cs ∧ x.2 = []) ∧
    (∀ (fs : List Field) (o : Nat) (ks : List (Option IntKind)), kindsFields P n fs o = some ks → ∀ (fuel : Nat) (cs : List Value) (xs : List (DataW H × List MemPlace)), xs.length = fs.length →
      (∀ (i : Nat) (f : Field), fs[i]? = some f → DataW.trod enc P w base spare held fuel f.type ((cs.drop f.offset).take (P.cellsOf f.type)) = xs[i]?) →
      Goods ks ((cs.drop o).take ks.length) ∧ (xs.map fun x => flat x.1).flatten = (cs.drop o).take ks.length ∧ xs.flatMap (·.2) = [])
  | 0 => ⟨fun _ _ h => by simp [kindsOf] at h, fun _ _ _ h => by simp [kindsFields] at h⟩
  | n + 1 => by
    obtain ⟨ih1, ih2⟩ := trod_plain n
    constructor
    · intro t ks hk fuel cs x h
      simp only [kindsOf] at hk
      split at hk
      · rename_i ht
        obtain ⟨b, rfl, rfl⟩ := DataW.trod_bool ht h
        cases hk
        exact ⟨⟨⟨b, rfl⟩, trivial⟩, by rw [flat], rfl⟩
      · rename_i k ht
        obtain ⟨b, rfl, rfl, hw⟩ := DataW.trod_int ht h
        cases hk
        exact ⟨⟨⟨b, rfl, hw⟩, trivial⟩, by rw [flat], rfl⟩
      · rename_i fs ht
        obtain ⟨xs, m, rfl, rfl, hl, hxl, hf⟩ := DataW.trod_struct ht h
        obtain ⟨ks', hk', hk⟩ := Option.bind_eq_some_iff.1 hk
        split at hk
        · rename_i hlen
          cases hk
          obtain ⟨a, b, c⟩ := ih2 fs.toList 0 ks hk' m cs xs (by simpa using hxl) (fun i f hi => hf i f (by simpa using hi))
          have e : (cs.drop 0).take ks.length = cs := by rw [List.drop_zero, List.take_of_length_le (by omega)]
          rw [e] at a b
          exact ⟨a, by rw [flat_agg, List.map_map]; exact b, c⟩
        · cases hk
      · rename_i m e ht
        obtain ⟨xs, f, rfl, rfl, hl, hxl, hf⟩ := DataW.trod_array ht h
        obtain ⟨ke, hke, hk⟩ := Option.bind_eq_some_iff.1 hk
        split at hk
        · rename_i hlen
          obtain ⟨h1, h2⟩ := hlen
          cases hk
          have key : ∀ (j : Nat) (ys : List (DataW H × List MemPlace)), ys = xs.drop (m - j) → j ≤ m →
              Goods (List.replicate j ke).flatten ((cs.drop ((m - j) * ke.length)).take (j * ke.length)) ∧ (ys.map fun x => flat x.1).flatten = (cs.drop ((m - j) * ke.length)).take (j * ke.length) ∧ ys.flatMap (·.2) = [] := by
            intro j
            induction j with
            | zero =>
              intro ys hy _
              have : ys = [] := by rw [hy]; apply List.drop_eq_nil_of_le; omega
              subst this
              exact ⟨by simp [Goods], by simp, rfl⟩
            | succ j ih =>
              intro ys hy hj
              have hlt : m - (j + 1) < xs.length := by omega
              have hd : xs.drop (m - (j + 1)) = xs[m - (j + 1)] :: xs.drop (m - j) := by
                rw [List.drop_eq_getElem_cons hlt]; congr 2; omega
              rw [hy, hd]
              obtain ⟨a, b, c⟩ := ih _ rfl (by omega)
              have h3 := hf (m - (j + 1)) (by omega)
              rw [List.getElem?_eq_getElem hlt, ← h1] at h3
              obtain ⟨a', b', c'⟩ := ih1 e ke hke f _ _ h3
              have es : (cs.drop ((m - (j + 1)) * ke.length)).take ((j + 1) * ke.length) = (cs.drop ((m - (j + 1)) * ke.length)).take ke.length ++ (cs.drop ((m - j) * ke.length)).take (j * ke.length) := by
                rw [show (j + 1) * ke.length = ke.length + j * ke.length by rw [Nat.add_mul, Nat.one_mul, Nat.add_comm], take_add_drop]
                congr 3
                rw [show m - j = m - (j + 1) + 1 by omega, Nat.add_mul, Nat.one_mul]
              rw [es]
              refine ⟨?_, ?_, ?_⟩
              · rw [List.replicate_succ, List.flatten_cons]; exact Goods.append a' a
              · rw [List.map_cons, List.flatten_cons, b, b']
              · rw [List.flatMap_cons, c, c']; rfl
          obtain ⟨a, b, c⟩ := key m xs (by simp) (Nat.le_refl _)
          have e0 : (cs.drop ((m - m) * ke.length)).take (m * ke.length) = cs := by rw [Nat.sub_self, Nat.zero_mul, List.drop_zero, List.take_of_length_le (by omega)]
          rw [e0] at a b
          exact ⟨a, by rw [flat_agg, List.map_map]; exact b, c⟩
        · cases hk
      · cases hk
    · intro fs o ks hk fuel cs xs hxl hf
      cases fs with
      | nil =>
        have : xs = [] := List.length_eq_zero_iff.1 hxl
        subst this
        simp only [kindsFields] at hk
        cases hk
        exact ⟨by simp [Goods], by simp, rfl⟩
      | cons f fs =>
        simp only [kindsFields] at hk
        split at hk
        · rename_i ho
          obtain ⟨kf, hkf, hk⟩ := Option.bind_eq_some_iff.1 hk
          split at hk
          · rename_i hlen
            obtain ⟨kr, hkr, hk⟩ := Option.map_eq_some_iff.1 hk
            subst hk
            cases xs with
            | nil => simp at hxl
            | cons y ys =>
              have h0 := hf 0 f rfl
              rw [ho, ← hlen] at h0
              obtain ⟨a', b', c'⟩ := ih1 f.type kf hkf fuel _ y h0
              obtain ⟨a, b, c⟩ := ih2 fs (o + kf.length) kr hkr fuel cs ys (by simpa using hxl) (fun i g hi => hf (i + 1) g hi)
              rw [List.length_append, take_add_drop]
              exact ⟨Goods.append a' a, by rw [List.map_cons, List.flatten_cons, b, b'], by rw [List.flatMap_cons, c, c']; rfl⟩
          · cases hk
        · cases hk

/-- A READING OF A PLAIN VALUE: the cells' makes, and no place. -/
theorem plain_cells (n : Nat) {t : TypeId} {ks : List (Option IntKind)} (hk : kindsOf P n t = some ks) {fuel : Nat} {cs : List Value} {x : DataW H × List MemPlace} (h : DataW.trod enc P w base spare held fuel t cs = some x) : Goods ks cs ∧ flat x.1 = cs ∧ x.2 = [] :=
  (trod_plain n).1 t ks hk fuel cs x h
end
end Go.Proofs.YthfikhfhflinfaaDoor
