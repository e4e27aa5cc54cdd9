/- The first row of which a predicate holds: plain words. No program in sight. -/
import Derived.Test.YthijklidjdhkdaaFlat
namespace Go.Proofs.Ythijklidjdhkdaa
open Go.RowKit
set_option linter.unusedVariables false
set_option linter.unusedSimpArgs false

def idxF (p : List Int → Bool) : Nat → List (List Int) → Int
  | _, [] => -1
  | k, r :: rs => if p r then (k : Int) else idxF p (k + 1) rs
def idxR (p : List Int → Bool) (rows : List (List Int)) : Int := idxF p 0 rows
theorem drop_atI {α : Type} {xs : List α} {k : Nat} {x : α} (h : xs[k]? = some x) : xs.drop k = x :: xs.drop (k + 1) := by
  obtain ⟨hk, e⟩ := List.getElem?_eq_some_iff.1 h
  rw [List.drop_eq_getElem_cons hk, e]
theorem idxF_yes {p : List Int → Bool} {rows : List (List Int)} {k : Nat} {r : List Int} (h : rows[k]? = some r) (hp : p r = true) : idxF p k (rows.drop k) = k := by
  rw [drop_atI h]; simp [idxF, hp]
theorem idxF_no {p : List Int → Bool} {rows : List (List Int)} {k : Nat} {r : List Int} (h : rows[k]? = some r) (hp : p r = false) : idxF p k (rows.drop k) = idxF p (k + 1) (rows.drop (k + 1)) := by
  rw [drop_atI h]; simp [idxF, hp]
theorem idxF_end {p : List Int → Bool} {rows : List (List Int)} {n k : Nat} (h : rows.length = n) (hk : n ≤ k) : idxF p k (rows.drop k) = -1 := by
  rw [List.drop_of_length_le (by omega)]; rfl
theorem idxF_at (p : List Int → Bool) : ∀ (rows : List (List Int)) (k : Nat), idxF p k rows = -1 ∨ ∃ (j : Nat) (r : List Int), idxF p k rows = ((k + j : Nat) : Int) ∧ rows[j]? = some r ∧ p r = true
  | [], _ => .inl rfl
  | r :: rs, k => by
    unfold idxF
    split
    · rename_i h
      exact .inr ⟨0, r, by simp, by simp, h⟩
    · rcases idxF_at p rs (k + 1) with h | ⟨j, r', h1, h2, h3⟩
      · exact .inl h
      · exact .inr ⟨j + 1, r', by rw [h1]; congr 1; omega, by simpa using h2, h3⟩
theorem idxR_at (p : List Int → Bool) (rows : List (List Int)) : idxR p rows = -1 ∨ ∃ (j : Nat) (r : List Int), idxR p rows = (j : Int) ∧ rows[j]? = some r ∧ p r = true := by
  rcases idxF_at p rows 0 with h | ⟨j, r, h1, h2, h3⟩
  · exact .inl h
  · exact .inr ⟨j, r, by unfold idxR; rw [h1]; simp, h2, h3⟩
theorem idxF_any (p : List Int → Bool) : ∀ (rows : List (List Int)) (k : Nat), rows.any p = decide (0 ≤ idxF p k rows)
  | [], _ => by simp [idxF]
  | r :: rs, k => by
    unfold idxF
    split
    · rename_i h; simp [h]
    · rename_i h; rw [List.any_cons, idxF_any p rs (k + 1)]; simp [h]
theorem idx_any (p : List Int → Bool) (rows : List (List Int)) : rows.any p = decide (0 ≤ idxR p rows) := idxF_any p rows 0
end Go.Proofs.Ythijklidjdhkdaa
