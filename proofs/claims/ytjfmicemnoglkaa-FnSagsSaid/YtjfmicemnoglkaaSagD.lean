/- The place with the greatest sag: the program's and the reference's. -/
import Derived.Test.YtjfmicemnoglkaaSagB
namespace Go.Proofs.Ytjfmicemnoglkaa
open Go.RowKit
set_option linter.unusedVariables false
set_option linter.unusedSimpArgs false

def ggOk (rows : List (List Int)) (w p : Int) : Bool := lineOk rows && ropeOk w p
def ggA (rows : List (List Int)) (w p : Int) : Int := if ggOk rows w p = true then gsAt rows else 0
def ggN (rows : List (List Int)) (w p : Int) : Int := if ggOk rows w p = true then grN rows w p else 0
def ggD (rows : List (List Int)) (w p : Int) : Int := if ggOk rows w p = true then grD rows w p else 0
theorem gg_no {rows : List (List Int)} {w p : Int} (h : ggOk rows w p = false) : ggA rows w p = 0 ∧ ggN rows w p = 0 ∧ ggD rows w p = 0 := by simp [ggA, ggN, ggD, h]
theorem gg_yes {rows : List (List Int)} {w p : Int} (h : ggOk rows w p = true) : ggA rows w p = gsAt rows ∧ ggN rows w p = grN rows w p ∧ ggD rows w p = grD rows w p := by simp [ggA, ggN, ggD, h]
theorem ggOk_iff {rows : List (List Int)} {w p : Int} : ggOk rows w p = true ↔ lineOk rows = true ∧ ropeOk w p = true := by simp [ggOk]
/-- The program's greatest so far. -/
def mwF (rows : List (List Int)) (x : Int) (k : Nat) : Int := if k = 0 then -1 else x * (gsF rows k).2
theorem mw_lt {rows : List (List Int)} (L : Line rows) {x : Int} (hx : 1 ≤ x) {k : Nat} (hk : (k : Int) ≤ endN rows) : (mwF rows x k < x * bdV rows k) ↔ (gsF rows k).2 < bdV rows k := by
  have hb := bdV_bd L (place := k) (by omega) hk
  rcases Nat.eq_zero_or_pos k with rfl | hp
  · have := Int.mul_nonneg (show 0 ≤ x by omega) hb.1
    have e : (gsF rows 0).2 = -1 := rfl
    have e2 : mwF rows x 0 = -1 := rfl
    rw [e, e2]
    generalize bdV rows ((0 : Nat) : Int) = z at *
    constructor <;> intro _ <;> omega
  · simp only [mwF]
    rw [if_neg (by omega)]
    constructor
    · intro h
      rcases Int.lt_or_le (gsF rows k).2 (bdV rows k) with h1 | h1
      · exact h1
      · have := Int.mul_le_mul_of_nonneg_left h1 (show 0 ≤ x by omega)
        omega
    · intro h; exact Int.mul_lt_mul_of_pos_left h (by omega)
theorem gs_take {rows : List (List Int)} {x : Int} {k : Nat} (h : (gsF rows k).2 < bdV rows k) : gsF rows (k + 1) = ((k : Int), bdV rows k) ∧ mwF rows x (k + 1) = x * bdV rows k := by
  have e : gsF rows (k + 1) = ((k : Int), bdV rows k) := by show (if _ then _ else _) = _; rw [if_pos h]
  exact ⟨e, by simp [mwF, e]⟩
theorem gs_keep {rows : List (List Int)} (L : Line rows) {x : Int} {k : Nat} (hk : (k : Int) ≤ endN rows) (h : ¬ (gsF rows k).2 < bdV rows k) : gsF rows (k + 1) = gsF rows k ∧ mwF rows x (k + 1) = mwF rows x k := by
  have e : gsF rows (k + 1) = gsF rows k := by show (if _ then _ else _) = _; rw [if_neg h]
  have hk0 : k ≠ 0 := by
    rintro rfl
    have := bdV_bd L (place := ((0 : Nat) : Int)) (by omega) hk
    apply h
    have e : (gsF rows 0).2 = -1 := rfl
    omega
  exact ⟨e, by simp [mwF, e, hk0]⟩
theorem mw_bd {rows : List (List Int)} (L : Line rows) {x : Int} (hx : 1 ≤ x ∧ x ≤ 200) {k : Nat} (hk : (k : Int) ≤ endN rows + 1) : -1 ≤ mwF rows x k ∧ mwF rows x k ≤ 1800000000 := by
  rcases Nat.eq_zero_or_pos k with rfl | hp
  · simp [mwF]
  · obtain ⟨⟨a, b, c, d⟩, f⟩ := gsF_facts L k hk hp
    have := bdV_bd L a (by omega)
    rw [c] at this
    simp only [mwF]
    rw [if_neg (by omega)]
    have := mulB (a := x) (b := (gsF rows k).2) (A := 200) (B := 9000000) (by omega) hx.2 this.1 this.2
    omega
end Go.Proofs.Ytjfmicemnoglkaa
