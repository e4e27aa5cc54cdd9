/- A list of rows whose first numbers rise, each row valid: plain words. No program in sight. -/
import Derived.Test.YtjfmicemnoglkaaFlat
namespace Go.Proofs.Ytjfmicemnoglkaa
open Go.RowKit
set_option linter.unusedVariables false
set_option linter.unusedSimpArgs false

/-- Every row is valid, and the first numbers rise from p on. -/
def goodF (ok : List Int → Bool) : Int → List (List Int) → Bool
  | _, [] => true
  | p, r :: rs => ok r && (decide (p < fld r 0) && goodF ok (fld r 0) rs)
def prevN (rows : List (List Int)) (k : Nat) : Int := if k = 0 then 0 else fld (rows.getD (k - 1) []) 0
theorem drop_atR {α : Type} {xs : List α} {k : Nat} {x : α} (h : xs[k]? = some x) : xs.drop k = x :: xs.drop (k + 1) := by
  obtain ⟨hk, e⟩ := List.getElem?_eq_some_iff.1 h
  rw [List.drop_eq_getElem_cons hk, e]
theorem prevN_zero (rows : List (List Int)) : prevN rows 0 = 0 := by simp [prevN]
theorem prevN_next {rows : List (List Int)} {k : Nat} {r : List Int} (h : rows[k]? = some r) : prevN rows (k + 1) = fld r 0 := by simp [prevN, List.getD, h]
theorem goodF_bad {ok : List Int → Bool} {rows : List (List Int)} {k : Nat} {r : List Int} {p : Int} (h : rows[k]? = some r) (ho : ok r = false) : goodF ok p (rows.drop k) = false := by
  rw [drop_atR h]; simp [goodF, ho]
theorem goodF_low {ok : List Int → Bool} {rows : List (List Int)} {k : Nat} {r : List Int} {p : Int} (h : rows[k]? = some r) (ho : fld r 0 ≤ p) : goodF ok p (rows.drop k) = false := by
  rw [drop_atR h]
  have : decide (p < fld r 0) = false := decide_eq_false (by omega)
  unfold goodF
  rw [this, Bool.false_and, Bool.and_false]
theorem goodF_step {ok : List Int → Bool} {rows : List (List Int)} {k : Nat} {r : List Int} (h : rows[k]? = some r) (ho : ok r = true) (hp : prevN rows k < fld r 0) : goodF ok (prevN rows k) (rows.drop k) = goodF ok (prevN rows (k + 1)) (rows.drop (k + 1)) := by
  rw [drop_atR h, prevN_next h]
  have : decide (prevN rows k < fld r 0) = true := decide_eq_true hp
  conv => lhs; unfold goodF
  rw [ho, this, Bool.true_and, Bool.true_and]
theorem goodF_end {ok : List Int → Bool} {rows : List (List Int)} {n k : Nat} {p : Int} (h : rows.length = n) (hk : n ≤ k) : goodF ok p (rows.drop k) = true := by
  rw [List.drop_of_length_le (by omega)]; rfl
theorem goodF_at {ok : List Int → Bool} : ∀ {rows : List (List Int)} {p : Int}, goodF ok p rows = true → ∀ {k : Nat} {r : List Int}, rows[k]? = some r → ok r = true ∧ p < fld r 0
  | [], _, _, _, _, h => by simp at h
  | r0 :: rs, p, hg, 0, r, h => by
    simp only [goodF, Bool.and_eq_true, decide_eq_true_eq] at hg
    simp at h
    subst h
    exact ⟨hg.1, hg.2.1⟩
  | r0 :: rs, p, hg, k + 1, r, h => by
    simp only [goodF, Bool.and_eq_true, decide_eq_true_eq] at hg
    have := goodF_at hg.2.2 (k := k) (by simpa using h)
    exact ⟨this.1, by omega⟩
/-- Valid, and not too long. -/
def goodL (ok : List Int → Bool) (m : Nat) (rows : List (List Int)) : Bool := goodF ok 0 rows && decide (rows.length ≤ m)
theorem goodL_of_false {ok : List Int → Bool} {m : Nat} {rows : List (List Int)} {b : Bool} (h : b = goodF ok 0 rows) (hb : b = false) : goodL ok m rows = false := by rw [hb] at h; simp [goodL, ← h]
theorem goodL_of_true {ok : List Int → Bool} {m n : Nat} {rows : List (List Int)} {b : Bool} (h : b = goodF ok 0 rows) (hb : b = true) (hn : rows.length = n) : goodL ok m rows = decide ((n : Int) ≤ (m : Int)) := by
  rw [hb] at h
  rw [Bool.eq_iff_iff]
  simp [goodL, ← h, hn]
theorem goodL_iff {ok : List Int → Bool} {m : Nat} {rows : List (List Int)} : goodL ok m rows = true ↔ goodF ok 0 rows = true ∧ rows.length ≤ m := by simp [goodL]
theorem goodL_at {ok : List Int → Bool} {m : Nat} {rows : List (List Int)} (h : goodL ok m rows = true) {k : Nat} {r : List Int} (hr : rows[k]? = some r) : ok r = true := (goodF_at (goodL_iff.1 h).1 hr).1
end Go.Proofs.Ytjfmicemnoglkaa
