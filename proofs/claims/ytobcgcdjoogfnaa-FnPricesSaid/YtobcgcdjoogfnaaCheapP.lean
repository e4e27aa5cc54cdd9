/- The cheapest tickets: the loop over all fourfold counts ends where the loop over single and both counts ends. No program in sight. -/
namespace Go.Proofs.Ytobcgcdjoogfnaa
set_option linter.unusedVariables false

/-- The best so far and its price; a price below 0 says that there is none yet. -/
def chU (s : List Int × Int) (l : List Int) (c : Int) : List Int × Int := if s.2 < 0 ∨ c < s.2 then (l, c) else s
def chOpen (ups downs both : Int) : Int := max (ups - both) 0 + max (downs - both) 0
def chMin (ups downs single both : Int) : Int := (max (chOpen ups downs both - single) 0 + 9) / 10
section
variable (p0 p1 p2 p3 ups downs : Int)
def chA (k : Nat) (s : List Int × Int) : List Int × Int :=
  chU s [(k / 21 : Nat), (k % 21 : Nat), 0, chMin ups downs (k / 21 : Nat) (k % 21 : Nat)] ((k / 21 : Nat) * p0 + (k % 21 : Nat) * p1 + chMin ups downs (k / 21 : Nat) (k % 21 : Nat) * p3)
def chB (k : Nat) (s : List Int × Int) : List Int × Int :=
  chU s [(k / 21 : Nat), (k % 21 : Nat), 1, 0] ((k / 21 : Nat) * p0 + (k % 21 : Nat) * p1 + p2)
/-- The reference's loop. -/
def chS : Nat → List Int × Int
  | 0 => ([], -1)
  | k + 1 => chB p0 p1 p2 k (chA p0 p1 p3 ups downs k (chS k))
/-- One round of the program's loop at the counts a, b, d, t. -/
def chR (a b d t : Int) (s : List Int × Int) : List Int × Int :=
  if d = 0 ∧ a + 10 * t < chOpen ups downs b then s else chU s [a, b, d, t] (a * p0 + b * p1 + d * p2 + t * p3)
/-- The program's loop. -/
def chT : Nat → List Int × Int
  | 0 => ([], -1)
  | n + 1 => chR p0 p1 p2 p3 ups downs (n / 9261 : Nat) (n / 441 % 21 : Nat) (n / 21 % 21 : Nat) (n % 21 : Nat) (chT n)
def chG (k d t : Nat) : List Int × Int :=
  if d = 0 then (if (t : Int) ≤ chMin ups downs (k / 21 : Nat) (k % 21 : Nat) then chS p0 p1 p2 p3 ups downs k else chA p0 p1 p3 ups downs k (chS p0 p1 p2 p3 ups downs k))
  else if d = 1 ∧ t = 0 then chA p0 p1 p3 ups downs k (chS p0 p1 p2 p3 ups downs k) else chS p0 p1 p2 p3 ups downs (k + 1)
end
theorem chU_keep {s : List Int × Int} {l : List Int} {c : Int} (h0 : 0 ≤ s.2) (h : s.2 ≤ c) : chU s l c = s := by unfold chU; rw [if_neg (by omega)]
theorem chU_le {s : List Int × Int} {l : List Int} {c : Int} (hc : 0 ≤ c) : 0 ≤ (chU s l c).2 ∧ (chU s l c).2 ≤ c := by
  unfold chU
  split
  · exact ⟨hc, Int.le_refl _⟩
  · exact ⟨by omega, by omega⟩
theorem chMin_bd {ups downs single both : Int} (h1 : ups ≤ 20) (h2 : downs ≤ 20) (h3 : 0 ≤ both) (h4 : 0 ≤ single) : 0 ≤ chMin ups downs single both ∧ chMin ups downs single both ≤ 4 := by
  unfold chMin chOpen; omega
theorem chMin_iff {ups downs single both t : Int} (h4 : 0 ≤ single) (ht : 0 ≤ t) : single + 10 * t < chOpen ups downs both ↔ t < chMin ups downs single both := by
  unfold chMin; omega
section
variable {p0 p1 p2 p3 ups downs : Int}
theorem chStep (h0 : 0 ≤ p0) (h1 : 0 ≤ p1) (h2 : 0 ≤ p2) (h3 : 0 ≤ p3) (hu : ups ≤ 20) (hd : downs ≤ 20) (k d t : Nat) (ht : t ≤ 20) :
    chR p0 p1 p2 p3 ups downs (k / 21 : Nat) (k % 21 : Nat) d t (chG p0 p1 p2 p3 ups downs k d t) = (if t < 20 then chG p0 p1 p2 p3 ups downs k d (t + 1) else chG p0 p1 p2 p3 ups downs k (d + 1) 0) := by
  have hm := chMin_bd (ups := ups) (downs := downs) (single := ((k / 21 : Nat) : Int)) (both := ((k % 21 : Nat) : Int)) hu hd (by omega) (by omega)
  have hi := chMin_iff (ups := ups) (downs := downs) (single := ((k / 21 : Nat) : Int)) (both := ((k % 21 : Nat) : Int)) (t := (t : Int)) (by omega) (by omega)
  have ha : 0 ≤ ((k / 21 : Nat) : Int) * p0 := Int.mul_nonneg (by omega) h0
  have hb : 0 ≤ ((k % 21 : Nat) : Int) * p1 := Int.mul_nonneg (by omega) h1
  have hA := chU_le (s := chS p0 p1 p2 p3 ups downs k) (l := [((k / 21 : Nat) : Int), ((k % 21 : Nat) : Int), 0, chMin ups downs (k / 21 : Nat) (k % 21 : Nat)])
    (c := (k / 21 : Nat) * p0 + (k % 21 : Nat) * p1 + chMin ups downs (k / 21 : Nat) (k % 21 : Nat) * p3) (by have := Int.mul_nonneg hm.1 h3; omega)
  have hB := chU_le (s := chA p0 p1 p3 ups downs k (chS p0 p1 p2 p3 ups downs k)) (l := [((k / 21 : Nat) : Int), ((k % 21 : Nat) : Int), 1, 0])
    (c := (k / 21 : Nat) * p0 + (k % 21 : Nat) * p1 + p2) (by omega)
  rw [show chU (chS p0 p1 p2 p3 ups downs k) [((k / 21 : Nat) : Int), ((k % 21 : Nat) : Int), 0, chMin ups downs (k / 21 : Nat) (k % 21 : Nat)]
    ((k / 21 : Nat) * p0 + (k % 21 : Nat) * p1 + chMin ups downs (k / 21 : Nat) (k % 21 : Nat) * p3) = chA p0 p1 p3 ups downs k (chS p0 p1 p2 p3 ups downs k) from rfl] at hA
  rw [show chU (chA p0 p1 p3 ups downs k (chS p0 p1 p2 p3 ups downs k)) [((k / 21 : Nat) : Int), ((k % 21 : Nat) : Int), 1, 0]
    ((k / 21 : Nat) * p0 + (k % 21 : Nat) * p1 + p2) = chS p0 p1 p2 p3 ups downs (k + 1) from rfl] at hB
  rcases Nat.eq_zero_or_pos d with h | hd0
  · subst h
    unfold chR
    simp only [Int.natCast_zero, true_and]
    rcases Int.lt_trichotomy (t : Int) (chMin ups downs (k / 21 : Nat) (k % 21 : Nat)) with hlt | heq | hgt
    · rw [if_pos (hi.2 hlt), if_pos (by omega)]
      unfold chG
      simp only [if_true]
      rw [if_pos (by omega), if_pos (by omega)]
    · rw [if_neg (by rw [hi]; omega), if_pos (by omega)]
      unfold chG
      simp only [if_true]
      rw [if_pos (by omega), if_neg (by omega)]
      unfold chA
      rw [heq]
      congr 1
      simp
    · rw [if_neg (by rw [hi]; omega)]
      have hg : chG p0 p1 p2 p3 ups downs k 0 t = chA p0 p1 p3 ups downs k (chS p0 p1 p2 p3 ups downs k) := by unfold chG; rw [if_pos rfl, if_neg (by omega)]
      rw [hg, chU_keep hA.1 (by
        have := Int.mul_le_mul_of_nonneg_right (a := chMin ups downs (k / 21 : Nat) (k % 21 : Nat)) (b := (t : Int)) (c := p3) (by omega) h3
        omega)]
      split
      · unfold chG; rw [if_pos rfl, if_neg (by omega)]
      · unfold chG; rw [if_neg (by omega), if_pos ⟨rfl, rfl⟩]
  · unfold chR
    rw [if_neg (by omega)]
    have hnext : (if t < 20 then chG p0 p1 p2 p3 ups downs k d (t + 1) else chG p0 p1 p2 p3 ups downs k (d + 1) 0) = chS p0 p1 p2 p3 ups downs (k + 1) := by
      split
      · unfold chG; rw [if_neg (by omega), if_neg (by omega)]
      · unfold chG; rw [if_neg (by omega), if_neg (by omega)]
    rw [hnext]
    by_cases h10 : d = 1 ∧ t = 0
    · obtain ⟨rfl, rfl⟩ := h10
      unfold chG
      rw [if_neg (by omega), if_pos ⟨rfl, rfl⟩]
      show _ = chB p0 p1 p2 k _
      unfold chB
      simp
    · have hg : chG p0 p1 p2 p3 ups downs k d t = chS p0 p1 p2 p3 ups downs (k + 1) := by unfold chG; rw [if_neg (by omega), if_neg h10]
      rw [hg]
      refine chU_keep hB.1 ?_
      have hq : p2 ≤ (d : Int) * p2 := by
        have := Int.mul_le_mul_of_nonneg_right (a := 1) (b := (d : Int)) (c := p2) (by omega) h2
        omega
      have hr : 0 ≤ (t : Int) * p3 := Int.mul_nonneg (by omega) h3
      omega
theorem chT_eq (h0 : 0 ≤ p0) (h1 : 0 ≤ p1) (h2 : 0 ≤ p2) (h3 : 0 ≤ p3) (hu : ups ≤ 20) (hd : downs ≤ 20) : ∀ n : Nat, chT p0 p1 p2 p3 ups downs n = chG p0 p1 p2 p3 ups downs (n / 441) (n / 21 % 21) (n % 21)
  | 0 => by
    have hm := chMin_bd (ups := ups) (downs := downs) (single := 0) (both := 0) hu hd (by omega) (by omega)
    unfold chG
    simp [hm.1]
    rfl
  | n + 1 => by
    have hs := chStep h0 h1 h2 h3 hu hd (n / 441) (n / 21 % 21) (n % 21) (by omega)
    show chR p0 p1 p2 p3 ups downs _ _ _ _ (chT p0 p1 p2 p3 ups downs n) = _
    rw [chT_eq h0 h1 h2 h3 hu hd n, show n / 9261 = n / 441 / 21 by omega, hs]
    split
    · rw [show (n + 1) / 441 = n / 441 by omega, show (n + 1) / 21 % 21 = n / 21 % 21 by omega, show (n + 1) % 21 = n % 21 + 1 by omega]
    · by_cases h : n / 21 % 21 = 20
      · rw [show (n + 1) / 441 = n / 441 + 1 by omega, show (n + 1) / 21 % 21 = 0 by omega, show (n + 1) % 21 = 0 by omega, h]
        have hm := chMin_bd (ups := ups) (downs := downs) (single := (((n / 441 + 1) / 21 : Nat) : Int)) (both := (((n / 441 + 1) % 21 : Nat) : Int)) hu hd (by omega) (by omega)
        unfold chG
        rw [if_neg (by omega), if_neg (by omega), if_pos rfl, if_pos (by simpa using hm.1)]
      · rw [show (n + 1) / 441 = n / 441 by omega, show (n + 1) / 21 % 21 = n / 21 % 21 + 1 by omega, show (n + 1) % 21 = 0 by omega]
theorem chT_end (h0 : 0 ≤ p0) (h1 : 0 ≤ p1) (h2 : 0 ≤ p2) (h3 : 0 ≤ p3) (hu : ups ≤ 20) (hd : downs ≤ 20) : chT p0 p1 p2 p3 ups downs 194481 = chS p0 p1 p2 p3 ups downs 441 := by
  rw [chT_eq h0 h1 h2 h3 hu hd]
  have hm := chMin_bd (ups := ups) (downs := downs) (single := ((441 / 21 : Nat) : Int)) (both := ((441 % 21 : Nat) : Int)) hu hd (by omega) (by omega)
  unfold chG
  rw [if_pos (by omega), if_pos (by simpa using hm.1)]
end
end Go.Proofs.Ytobcgcdjoogfnaa
