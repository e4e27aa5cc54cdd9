/- The next pass: plain words. No program in sight. -/
namespace Go.Proofs.Ytidjgbonlejhhaa
set_option linter.unusedVariables false

/-- The first way from y on, in steps of R, that is no shorter than T. -/
def nextW (R T y : Int) : Int := if y < T then y + (T - y + R - 1) / R * R else y
theorem nextW_bd {R T y : Int} (hR : 0 < R) (h0 : 0 ≤ y) : y ≤ nextW R T y ∧ (nextW R T y = y ∨ nextW R T y < T + R) := by
  unfold nextW
  split
  · rename_i h
    have h1 := Int.ediv_mul_le (T - y + R - 1) (by omega : R ≠ 0)
    have h2 : 0 ≤ (T - y + R - 1) / R := Int.ediv_nonneg (by omega) (by omega)
    have h3 : 0 ≤ (T - y + R - 1) / R * R := Int.mul_nonneg h2 (by omega)
    exact ⟨by omega, .inr (by omega)⟩
  · exact ⟨by omega, .inl rfl⟩
theorem nextW_step {R T y m : Int} (hR : 0 < R) (hy : y < T) (hm : m = max 1 ((T - y) / R)) : nextW R T (y + R * m) = nextW R T y := by
  have hq : (T - y + R - 1) / R = (T - y + R - 1 - R * m) / R + m := by
    have := Int.add_mul_ediv_right (T - y + R - 1 - R * m) m (by omega : R ≠ 0)
    rw [← this]
    congr 1
    rw [Int.mul_comm R m]
    omega
  have hc : m * R = R * m := Int.mul_comm _ _
  unfold nextW
  rw [if_pos hy, hq]
  by_cases h : y + R * m < T
  · rw [if_pos h, Int.add_mul, hc, show T - (y + R * m) + R - 1 = T - y + R - 1 - R * m by omega]
    omega
  · rw [if_neg h]
    have hz : (T - y + R - 1 - R * m) / R = 0 := by
      refine Int.ediv_eq_zero_of_lt ?_ (by omega)
      rcases Int.lt_or_le ((T - y) / R) 1 with h1 | h1
      · have : m = 1 := by omega
        subst this
        omega
      · have : m = (T - y) / R := by omega
        rw [this]
        have := Int.ediv_mul_le (T - y) (by omega : R ≠ 0)
        rw [Int.mul_comm] at this
        omega
    rw [hz, Int.zero_add, hc]
/-- Best and least behind k cabins. -/
def nbest (ws : List Int) : Nat → Int × Int
  | 0 => (-1, 0)
  | k + 1 => if (nbest ws k).1 < 0 ∨ ws.getD k 0 < (nbest ws k).2 then ((k : Int), ws.getD k 0) else nbest ws k
theorem nbest_bd {ws : List Int} {M : Int} (h : ∀ k, 0 ≤ ws.getD k 0 ∧ ws.getD k 0 ≤ M) (hM : 0 ≤ M) : ∀ k, (0 < k → 0 ≤ (nbest ws k).1) ∧ -1 ≤ (nbest ws k).1 ∧ (nbest ws k).1 ≤ k ∧ 0 ≤ (nbest ws k).2 ∧ (nbest ws k).2 ≤ M
  | 0 => ⟨fun h => absurd h (by omega), by simp [nbest], by simp [nbest], by simp [nbest], by simpa [nbest] using hM⟩
  | k + 1 => by
    have ih := nbest_bd h hM k
    unfold nbest
    split
    · exact ⟨fun _ => by simp <;> omega, by simp <;> omega, by simp <;> omega, (h k).1, (h k).2⟩
    · rename_i hn
      exact ⟨fun _ => by omega, ih.2.1, by omega, ih.2.2.2⟩
end Go.Proofs.Ytidjgbonlejhhaa
