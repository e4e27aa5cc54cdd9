/- Fractions in lowest terms: plain words. No program in sight. -/
import Derived.Test.YtjfmicemnoglkaaBase
namespace Go.Proofs.Ytjfmicemnoglkaa
open Go.RowKit
set_option linter.unusedVariables false
set_option linter.unusedSimpArgs false

/-- The greatest common divisor. -/
def gV (a b : Int) : Int := (Int.gcd a b : Int)
theorem gV_step (a b : Int) : gV b (a.tmod b) = gV a b := by
  unfold gV Int.gcd
  rw [Int.natAbs_tmod, Nat.gcd_comm a.natAbs b.natAbs, Nat.gcd_comm b.natAbs (a.natAbs % b.natAbs), ← Nat.gcd_rec]
theorem gV_zero (a : Int) : gV a 0 = max a (-a) := by
  unfold gV
  rw [Int.gcd_zero_right]
  omega
theorem gV_abs (a b : Int) : gV (max a (-a)) b = gV a b := by
  unfold gV Int.gcd
  have : (max a (-a)).natAbs = a.natAbs := by omega
  rw [this]
theorem gV_pos {a b : Int} (hb : 0 < b) : 0 < gV a b := by
  unfold gV
  have := Int.gcd_pos_of_ne_zero_right a (b := b) (by omega)
  omega
theorem gV_le {a b : Int} (hb : 0 < b) : gV a b ≤ b := by
  unfold gV
  exact Int.le_of_dvd hb (Int.gcd_dvd_right ..)
theorem gV_dvd_left (a b : Int) : gV a b ∣ a := Int.gcd_dvd_left ..
theorem gV_dvd_right (a b : Int) : gV a b ∣ b := Int.gcd_dvd_right ..
/-- A fraction in lowest terms. -/
def redN (a b : Int) : Int := a.tdiv (gV a b)
def redD (a b : Int) : Int := b.tdiv (gV a b)
theorem redN_mul (a b : Int) : redN a b * gV a b = a := Int.tdiv_mul_cancel (gV_dvd_left a b)
theorem redD_mul (a b : Int) : redD a b * gV a b = b := Int.tdiv_mul_cancel (gV_dvd_right a b)
theorem redD_pos {a b : Int} (hb : 0 < b) : 0 < redD a b := by
  have h1 := redD_mul a b
  have h2 := gV_pos (a := a) hb
  rcases Int.lt_or_le 0 (redD a b) with h | h
  · exact h
  · have := Int.mul_le_mul_of_nonneg_right h (Int.le_of_lt h2)
    omega
theorem redD_le {a b : Int} (hb : 0 < b) : redD a b ≤ b := by
  have h1 := redD_mul a b
  have h2 := gV_pos (a := a) hb
  have h3 := redD_pos (a := a) hb
  have : redD a b * 1 ≤ redD a b * gV a b := Int.mul_le_mul_of_nonneg_left (by omega) (by omega)
  omega
theorem redN_abs {a b M : Int} (hb : 0 < b) (h0 : -M ≤ a) (h1 : a ≤ M) : -M ≤ redN a b ∧ redN a b ≤ M := by
  have e := redN_mul a b
  have g := gV_pos (a := a) hb
  generalize redN a b = n at *
  generalize gV a b = k at *
  rcases Int.le_total 0 n with hn | hn
  · have : n * 1 ≤ n * k := Int.mul_le_mul_of_nonneg_left (by omega) (by omega)
    omega
  · have : (-n) * 1 ≤ (-n) * k := Int.mul_le_mul_of_nonneg_left (by omega) (by omega)
    rw [Int.neg_mul, Int.neg_mul] at this
    omega
theorem redN_nonneg {a b : Int} (hb : 0 < b) (h0 : 0 ≤ a) : 0 ≤ redN a b := by
  have e := redN_mul a b
  have g := gV_pos (a := a) hb
  rcases Int.lt_or_le (redN a b) 0 with hn | hn
  · have : redN a b * gV a b < 0 := Int.mul_neg_of_neg_of_pos hn g
    omega
  · exact hn
/-- Fractions are compared as before. -/
theorem red_le_iff {a b c d : Int} (hb : 0 < b) (hd : 0 < d) : redN a b * redD c d ≤ redN c d * redD a b ↔ a * d ≤ c * b := by
  have h1 := redN_mul a b
  have h2 := redD_mul a b
  have h3 := redN_mul c d
  have h4 := redD_mul c d
  have g1 := gV_pos (a := a) hb
  have g2 := gV_pos (a := c) hd
  generalize redN a b = n1 at *
  generalize redD a b = d1 at *
  generalize redN c d = n2 at *
  generalize redD c d = d2 at *
  generalize gV a b = s at *
  generalize gV c d = t at *
  have e1 : a * d = (n1 * d2) * (s * t) := by rw [← h1, ← h4]; simp [Int.mul_assoc, Int.mul_comm, Int.mul_left_comm]
  have e2 : c * b = (n2 * d1) * (s * t) := by rw [← h3, ← h2]; simp [Int.mul_assoc, Int.mul_comm, Int.mul_left_comm]
  rw [e1, e2]
  have hst : 0 < s * t := Int.mul_pos g1 g2
  constructor
  · intro h; exact Int.mul_le_mul_of_nonneg_right h (Int.le_of_lt hst)
  · intro h; exact Int.le_of_mul_le_mul_right h hst
/-- A fraction against a number. -/
theorem red_le_num {a b c : Int} (hb : 0 < b) : redN a b ≤ c * redD a b ↔ a ≤ c * b := by
  have h1 := redN_mul a b
  have h2 := redD_mul a b
  have g1 := gV_pos (a := a) hb
  generalize redN a b = n1 at *
  generalize redD a b = d1 at *
  generalize gV a b = s at *
  have e1 : c * b = (c * d1) * s := by rw [← h2]; simp [Int.mul_assoc]
  rw [e1, ← h1]
  constructor
  · intro h; exact Int.mul_le_mul_of_nonneg_right h (Int.le_of_lt g1)
  · intro h; exact Int.le_of_mul_le_mul_right h g1
theorem red_cross (a b : Int) : redN a b * b = a * redD a b := by
  have h1 := redN_mul a b
  have h2 := redD_mul a b
  generalize redN a b = n at *
  generalize redD a b = d at *
  generalize gV a b = g at *
  rw [← h1, ← h2, Int.mul_comm d g, ← Int.mul_assoc]
theorem gV_scale {k : Int} (hk : 0 < k) (a b : Int) : gV (k * a) (k * b) = k * gV a b := by
  unfold gV
  rw [Int.gcd_mul_left]
  have : (k.natAbs : Int) = k := by omega
  simp [this]
theorem redN_scale {k : Int} (hk : 0 < k) (a b : Int) : redN (k * a) (k * b) = redN a b := by
  unfold redN
  rw [gV_scale hk]
  exact Int.mul_tdiv_mul_of_pos _ _ hk
theorem redD_scale {k : Int} (hk : 0 < k) (a b : Int) : redD (k * a) (k * b) = redD a b := by
  unfold redD
  rw [gV_scale hk]
  exact Int.mul_tdiv_mul_of_pos _ _ hk
/-- A whole number is in lowest terms over one. -/
theorem red_whole {a b : Int} (hb : 0 < b) : redN (b * a) b = a ∧ redD (b * a) b = 1 := by
  have e : gV (b * a) b = b := by
    have := gV_scale hb a 1
    rw [Int.mul_one] at this
    rw [this]
    simp [gV]
  unfold redN redD
  rw [e]
  exact ⟨Int.mul_tdiv_cancel_left _ (by omega), Int.tdiv_self (by omega)⟩
end Go.Proofs.Ytjfmicemnoglkaa
