/- Fractions that are compared: plain words. No program in sight. -/
import Derived.Test.YtjfmicemnoglkaaFrcP
namespace Go.Proofs.Ytjfmicemnoglkaa
open Go.RowKit
set_option linter.unusedVariables false
set_option linter.unusedSimpArgs false

def sgnI (n : Int) : Int := min (max n (-1)) 1
theorem sgnI_bd (n : Int) : -1 ≤ sgnI n ∧ sgnI n ≤ 1 := by unfold sgnI; omega
theorem sgnI_pos {n : Int} (h : 0 < n) : sgnI n = 1 := by unfold sgnI; omega
theorem sgnI_neg {n : Int} (h : n < 0) : sgnI n = -1 := by unfold sgnI; omega
theorem sgnI_zero : sgnI 0 = 0 := by decide
/-- What comparing a / b with c / d tells. -/
def cmpV (a b c d : Int) : Int := sgnI (a * d - c * b)
theorem cmpV_gt {a b c d : Int} : decide (0 < cmpV a b c d) = decide (c * b < a * d) := by
  unfold cmpV sgnI
  rw [decide_eq_decide]
  omega
theorem cmpV_lt {a b c d : Int} : decide (cmpV a b c d < 0) = decide (a * d < c * b) := by
  unfold cmpV sgnI
  rw [decide_eq_decide]
  omega
theorem mul_sg {a d : Int} (hd : 0 < d) : (a < 0 → a * d < 0) ∧ (0 < a → 0 < a * d) :=
  ⟨fun h => Int.mul_neg_of_neg_of_pos h hd, fun h => Int.mul_pos h hd⟩
theorem cmp_diff {a b c d : Int} (hb : 0 < b) (hd : 0 < d) (h : ¬ sgnI a = sgnI c) : sgnI (sgnI a - sgnI c) = cmpV a b c d := by
  obtain ⟨p1, p2⟩ := mul_sg (a := a) hd
  obtain ⟨q1, q2⟩ := mul_sg (a := c) hb
  unfold cmpV
  rcases Int.lt_trichotomy a 0 with ha | ha | ha <;> rcases Int.lt_trichotomy c 0 with hc | hc | hc
  · exact absurd ((sgnI_neg ha).trans (sgnI_neg hc).symm) h
  · subst hc
    rw [sgnI_neg ha, sgnI_zero, sgnI_neg (n := a * d - 0 * b) (by rw [Int.zero_mul]; have := p1 ha; omega)]
    decide
  · rw [sgnI_neg ha, sgnI_pos hc, sgnI_neg (n := a * d - c * b) (by have := p1 ha; have := q2 hc; omega)]
    decide
  · subst ha
    rw [sgnI_zero, sgnI_neg hc, sgnI_pos (n := 0 * d - c * b) (by rw [Int.zero_mul]; have := q1 hc; omega)]
    decide
  · subst ha hc
    exact absurd rfl h
  · subst ha
    rw [sgnI_zero, sgnI_pos hc, sgnI_neg (n := 0 * d - c * b) (by rw [Int.zero_mul]; have := q2 hc; omega)]
    decide
  · rw [sgnI_pos ha, sgnI_neg hc, sgnI_pos (n := a * d - c * b) (by have := p2 ha; have := q1 hc; omega)]
    decide
  · subst hc
    rw [sgnI_pos ha, sgnI_zero, sgnI_pos (n := a * d - 0 * b) (by rw [Int.zero_mul]; have := p2 ha; omega)]
    decide
  · exact absurd ((sgnI_pos ha).trans (sgnI_pos hc).symm) h
/-- The products of the distances, the 128 bits in two halves. -/
def outV (x y : Nat) : Int := if x < y then -1 else if y < x then 1 else 0
theorem hl_lt (x y : Nat) : (((x / 18446744073709551616 : Nat) : Int) < ((y / 18446744073709551616 : Nat) : Int) ∨ ((x / 18446744073709551616 : Nat) : Int) = ((y / 18446744073709551616 : Nat) : Int) ∧ ((x % 18446744073709551616 : Nat) : Int) < ((y % 18446744073709551616 : Nat) : Int)) ↔ x < y := by omega
theorem hl_gt {x y : Nat} (h : ¬ x < y) : (((y / 18446744073709551616 : Nat) : Int) < ((x / 18446744073709551616 : Nat) : Int) ∨ ((y % 18446744073709551616 : Nat) : Int) < ((x % 18446744073709551616 : Nat) : Int)) ↔ y < x := by omega
theorem cmp_same {a b c d : Int} (hb : 0 < b) (hd : 0 < d) (h : sgnI a = sgnI c) : outV (a.natAbs * d.toNat) (c.natAbs * b.toNat) * sgnI a = cmpV a b c d := by
  have hd' : (d.toNat : Int) = d := by omega
  have hb' : (b.toNat : Int) = b := by omega
  have e1 : ((a.natAbs * d.toNat : Nat) : Int) = (a.natAbs : Int) * d := by rw [Int.natCast_mul, hd']
  have e2 : ((c.natAbs * b.toNat : Nat) : Int) = (c.natAbs : Int) * b := by rw [Int.natCast_mul, hb']
  generalize a.natAbs * d.toNat = x at *
  generalize c.natAbs * b.toNat = y at *
  unfold cmpV
  rcases Int.lt_trichotomy a 0 with ha | ha | ha
  · have hc : c < 0 := by unfold sgnI at h; omega
    rw [show (a.natAbs : Int) = -a by omega, Int.neg_mul] at e1
    rw [show (c.natAbs : Int) = -c by omega, Int.neg_mul] at e2
    rw [sgnI_neg ha]
    unfold outV
    split
    · rw [sgnI_pos (n := a * d - c * b) (by omega)]; decide
    · split
      · rw [sgnI_neg (n := a * d - c * b) (by omega)]; decide
      · rw [show a * d - c * b = 0 by omega]; decide
  · have hc : c = 0 := by unfold sgnI at h; omega
    subst ha hc
    simp [sgnI_zero]
  · have hc : 0 < c := by unfold sgnI at h; omega
    rw [show (a.natAbs : Int) = a by omega] at e1
    rw [show (c.natAbs : Int) = c by omega] at e2
    rw [sgnI_pos ha]
    unfold outV
    split
    · rw [sgnI_neg (n := a * d - c * b) (by omega)]; decide
    · split
      · rw [sgnI_pos (n := a * d - c * b) (by omega)]; decide
      · rw [show a * d - c * b = 0 by omega]; decide
/-- The reference's way: whole parts, then the rests the other way round. -/
theorem less_floor {a b c d : Int} (hb : 0 < b) (hd : 0 < d) (h : ¬ a / b = c / d) : decide (a * d < c * b) = decide (a / b < c / d) := by
  have e1 : a = a / b * b + a % b := by have := Int.emod_add_mul_ediv a b; rw [Int.mul_comm] at this; omega
  have e2 : c = c / d * d + c % d := by have := Int.emod_add_mul_ediv c d; rw [Int.mul_comm] at this; omega
  have r1 := Int.emod_nonneg a (show b ≠ 0 by omega)
  have r2 := Int.emod_lt_of_pos a hb
  have s1 := Int.emod_nonneg c (show d ≠ 0 by omega)
  have s2 := Int.emod_lt_of_pos c hd
  generalize a / b = p at *
  generalize c / d = q at *
  generalize a % b = r at *
  generalize c % d = s at *
  have x1 : a * d = p * (b * d) + r * d := by rw [e1, Int.add_mul, Int.mul_assoc]
  have x2 : c * b = q * (b * d) + s * b := by rw [e2, Int.add_mul, Int.mul_assoc, Int.mul_comm d b]
  have x3 : 0 < b * d := Int.mul_pos hb hd
  have x4 : 0 ≤ r * d := Int.mul_nonneg r1 (by omega)
  have x5 : r * d < b * d := Int.mul_lt_mul_of_pos_right r2 hd
  have x6 : 0 ≤ s * b := Int.mul_nonneg s1 (by omega)
  have x7 : s * b < b * d := by rw [Int.mul_comm b d]; exact Int.mul_lt_mul_of_pos_right s2 hb
  rw [decide_eq_decide, x1, x2]
  constructor
  · intro hlt
    rcases Int.lt_or_le p q with h1 | h1
    · exact h1
    · exfalso
      have : (q + 1) * (b * d) ≤ p * (b * d) := Int.mul_le_mul_of_nonneg_right (by omega) (by omega)
      rw [Int.add_mul, Int.one_mul] at this
      omega
  · intro hlt
    have : (p + 1) * (b * d) ≤ q * (b * d) := Int.mul_le_mul_of_nonneg_right (by omega) (by omega)
    rw [Int.add_mul, Int.one_mul] at this
    omega
theorem less_rest {a b c d : Int} (hb : 0 < b) (hd : 0 < d) (h : a / b = c / d) : decide (a * d < c * b) = decide ((a % b) * d < (c % d) * b) := by
  have e1 : a = a / b * b + a % b := by have := Int.emod_add_mul_ediv a b; rw [Int.mul_comm] at this; omega
  have e2 : c = c / d * d + c % d := by have := Int.emod_add_mul_ediv c d; rw [Int.mul_comm] at this; omega
  rw [h] at e1
  generalize c / d = q at *
  generalize a % b = r at *
  generalize c % d = s at *
  have x1 : a * d = q * (b * d) + r * d := by rw [e1, Int.add_mul, Int.mul_assoc]
  have x2 : c * b = q * (b * d) + s * b := by rw [e2, Int.add_mul, Int.mul_assoc, Int.mul_comm d b]
  rw [decide_eq_decide, x1, x2]
  omega
theorem less_zero {b d r s : Int} (hb : 0 < b) (hd : 0 < d) (hr : 0 ≤ r) (hs : 0 ≤ s) (h : r = 0 ∨ s = 0) : decide (r * d < s * b) = (decide (r = 0) && decide (0 < s)) := by
  rw [Bool.eq_iff_iff]
  simp only [decide_eq_true_eq, Bool.and_eq_true]
  rcases h with rfl | rfl
  · rw [Int.zero_mul]
    constructor
    · intro h1
      refine ⟨rfl, ?_⟩
      rcases Int.lt_or_le 0 s with h2 | h2
      · exact h2
      · obtain rfl : s = 0 := by omega
        simp at h1
    · intro h1
      exact Int.mul_pos h1.2 hb
  · rw [Int.zero_mul]
    have := Int.mul_nonneg hr (Int.le_of_lt hd)
    constructor
    · intro h1; omega
    · intro h1; omega
end Go.Proofs.Ytjfmicemnoglkaa
