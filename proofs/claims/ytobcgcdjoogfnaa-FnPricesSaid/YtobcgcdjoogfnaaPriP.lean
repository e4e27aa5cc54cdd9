/- The cheapest tickets: what the law on prices asks. No program in sight. -/
import Derived.Test.YtobcgcdjoogfnaaCheapP
namespace Go.Proofs.Ytobcgcdjoogfnaa
set_option linter.unusedVariables false

/-- Four counts that cost what is told. -/
def chWell (p0 p1 p2 p3 : Int) (s : List Int × Int) : Prop :=
  ∃ a b d t : Int, s.1 = [a, b, d, t] ∧ a * p0 + b * p1 + d * p2 + t * p3 = s.2 ∧ (0 ≤ a ∧ a ≤ 20) ∧ (0 ≤ b ∧ b ≤ 20) ∧ (0 ≤ d ∧ d ≤ 1) ∧ (0 ≤ t ∧ t ≤ 4)
section
variable {p0 p1 p2 p3 ups downs : Int}
theorem chU_well {s : List Int × Int} {a b d t c : Int} (hs : s.2 < 0 ∨ chWell p0 p1 p2 p3 s) (he : a * p0 + b * p1 + d * p2 + t * p3 = c) (ha : 0 ≤ a ∧ a ≤ 20) (hb : 0 ≤ b ∧ b ≤ 20) (hd : 0 ≤ d ∧ d ≤ 1) (ht : 0 ≤ t ∧ t ≤ 4) :
    chWell p0 p1 p2 p3 (chU s [a, b, d, t] c) := by
  unfold chU
  split
  · exact ⟨a, b, d, t, rfl, he, ha, hb, hd, ht⟩
  · rcases hs with h | h
    · omega
    · exact h
theorem chU_down {s : List Int × Int} {l : List Int} {c : Int} (h : 0 ≤ s.2) : (chU s l c).2 ≤ s.2 := by
  unfold chU
  split
  · dsimp only; omega
  · omega
/-- The cost of the round k without a day ticket. -/
def chCost (p0 p1 p3 ups downs : Int) (k : Nat) : Int := (k / 21 : Nat) * p0 + (k % 21 : Nat) * p1 + chMin ups downs (k / 21 : Nat) (k % 21 : Nat) * p3
theorem chS_law (h0 : 0 ≤ p0) (h1 : 0 ≤ p1) (h2 : 0 ≤ p2) (h3 : 0 ≤ p3) (hu : ups ≤ 20) (hd : downs ≤ 20) : ∀ K : Nat, K ≤ 441 →
    (K = 0 ∧ (chS p0 p1 p2 p3 ups downs K).2 < 0) ∨ (0 < K ∧ 0 ≤ (chS p0 p1 p2 p3 ups downs K).2 ∧ chWell p0 p1 p2 p3 (chS p0 p1 p2 p3 ups downs K) ∧ ∀ k, k < K → (chS p0 p1 p2 p3 ups downs K).2 ≤ chCost p0 p1 p3 ups downs k)
  | 0, _ => .inl ⟨rfl, by simp [chS]⟩
  | K + 1, hK => by
    right
    have ih := chS_law h0 h1 h2 h3 hu hd K (by omega)
    have hm := chMin_bd (ups := ups) (downs := downs) (single := ((K / 21 : Nat) : Int)) (both := ((K % 21 : Nat) : Int)) hu hd (by omega) (by omega)
    have ha : 0 ≤ ((K / 21 : Nat) : Int) * p0 := Int.mul_nonneg (by omega) h0
    have hb : 0 ≤ ((K % 21 : Nat) : Int) * p1 := Int.mul_nonneg (by omega) h1
    have hc := Int.mul_nonneg hm.1 h3
    have hcost : 0 ≤ chCost p0 p1 p3 ups downs K := by unfold chCost; omega
    have hA := chU_le (s := chS p0 p1 p2 p3 ups downs K) (l := [((K / 21 : Nat) : Int), ((K % 21 : Nat) : Int), 0, chMin ups downs (K / 21 : Nat) (K % 21 : Nat)]) (c := chCost p0 p1 p3 ups downs K) hcost
    have eA : chU (chS p0 p1 p2 p3 ups downs K) [((K / 21 : Nat) : Int), ((K % 21 : Nat) : Int), 0, chMin ups downs (K / 21 : Nat) (K % 21 : Nat)] (chCost p0 p1 p3 ups downs K) = chA p0 p1 p3 ups downs K (chS p0 p1 p2 p3 ups downs K) := rfl
    have wA : chWell p0 p1 p2 p3 (chA p0 p1 p3 ups downs K (chS p0 p1 p2 p3 ups downs K)) := by
      rw [← eA]
      refine chU_well ?_ (by unfold chCost; rw [Int.zero_mul]; omega) (by omega) (by omega) (by omega) hm
      rcases ih with ih | ih
      · exact .inl ih.2
      · exact .inr ih.2.2.1
    rw [eA] at hA
    have eB : chS p0 p1 p2 p3 ups downs (K + 1) = chU (chA p0 p1 p3 ups downs K (chS p0 p1 p2 p3 ups downs K)) [((K / 21 : Nat) : Int), ((K % 21 : Nat) : Int), 1, 0] ((K / 21 : Nat) * p0 + (K % 21 : Nat) * p1 + p2) := rfl
    have hB := chU_le (s := chA p0 p1 p3 ups downs K (chS p0 p1 p2 p3 ups downs K)) (l := [((K / 21 : Nat) : Int), ((K % 21 : Nat) : Int), 1, 0]) (c := (K / 21 : Nat) * p0 + (K % 21 : Nat) * p1 + p2) (by omega)
    have hD := chU_down (s := chA p0 p1 p3 ups downs K (chS p0 p1 p2 p3 ups downs K)) (l := [((K / 21 : Nat) : Int), ((K % 21 : Nat) : Int), 1, 0]) (c := (K / 21 : Nat) * p0 + (K % 21 : Nat) * p1 + p2) hA.1
    have wB : chWell p0 p1 p2 p3 (chS p0 p1 p2 p3 ups downs (K + 1)) := by
      rw [eB]
      exact chU_well (.inr wA) (by rw [Int.one_mul, Int.zero_mul]; omega) (by omega) (by omega) (by omega) (by omega)
    rw [← eB] at hB hD
    refine ⟨by omega, hB.1, wB, fun k hk => ?_⟩
    rcases Nat.lt_or_ge k K with hl | hl
    · rcases ih with ih | ih
      · omega
      · have q1 := ih.2.2.2 k hl
        have q2 := chU_down (s := chS p0 p1 p2 p3 ups downs K) (l := [((K / 21 : Nat) : Int), ((K % 21 : Nat) : Int), 0, chMin ups downs (K / 21 : Nat) (K % 21 : Nat)]) (c := chCost p0 p1 p3 ups downs K) ih.2.1
        rw [eA] at q2
        omega
    · obtain rfl : k = K := by omega
      omega
/-- What the law asks of the cheapest tickets. -/
theorem ch_law (h0 : 0 ≤ p0) (h1 : 0 ≤ p1) (h2 : 0 ≤ p2) (h3 : 0 ≤ p3) (hu : 0 ≤ ups ∧ ups ≤ 20) (hd : 0 ≤ downs ∧ downs ≤ 20) :
    chWell p0 p1 p2 p3 (chS p0 p1 p2 p3 ups downs 441) ∧ (ups + downs ≤ 20 → (chS p0 p1 p2 p3 ups downs 441).2 ≤ (ups + downs) * p0) := by
  rcases chS_law h0 h1 h2 h3 hu.2 hd.2 441 (Nat.le_refl _) with h | ⟨_, _, hw, hc⟩
  · omega
  · refine ⟨hw, fun hs => ?_⟩
    obtain ⟨m, hm⟩ : ∃ m : Nat, ups + downs = (m : Int) := ⟨(ups + downs).toNat, by omega⟩
    have := hc (21 * m) (by omega)
    have e1 : 21 * m / 21 = m := by omega
    have e2 : 21 * m % 21 = 0 := by omega
    have e3 : chMin ups downs (m : Int) 0 = 0 := by unfold chMin chOpen; omega
    unfold chCost at this
    rw [e1, e2, Int.natCast_zero, Int.zero_mul, e3, Int.zero_mul] at this
    rw [hm]
    omega
end
end Go.Proofs.Ytobcgcdjoogfnaa
