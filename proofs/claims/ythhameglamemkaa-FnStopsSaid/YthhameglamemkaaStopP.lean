/- The way to a stop: the greatest speed, the shortest profile. Plain. -/
import Derived.Test.YthhameglamemkaaSpeedC
namespace Go.Proofs.Ythhameglamemkaa
open Go.RowKit
set_option linter.unusedVariables false
set_option linter.unusedSimpArgs false

theorem sfF_spec (way a : Int) : ∀ k : Nat, 0 ≤ sfF way a k ∧ sfF way a k ≤ (k : Int) ∧ (sfF way a k = 0 ∨ sfP way a (sfF way a k) = true) ∧ ∀ u : Int, sfF way a k < u → u ≤ (k : Int) → sfP way a u = false
  | 0 => ⟨by simp [sfF], by simp [sfF], .inl rfl, fun u h1 h2 => by simp [sfF] at h1; omega⟩
  | k + 1 => by
    obtain ⟨h1, h2, h3, h4⟩ := sfF_spec way a k
    unfold sfF
    split
    · rename_i h
      exact ⟨by omega, by omega, .inr h, fun u h5 h6 => by omega⟩
    · rename_i h
      refine ⟨h1, by omega, h3, fun u h5 h6 => ?_⟩
      by_cases hu : u = ((k + 1 : Nat) : Int)
      · subst hu; simpa using h
      · exact h4 u h5 (by omega)
theorem short_same (t a : Int) : short t t a = [t] := by simp [short, shF_end]
theorem stop_zero {a : Int} (h : inr a 1 20 = true) : stopOk 0 a = true ∧ stopR 0 a = 0 := by
  have h1 : stopOk 0 a = true := by simp [stopOk, shortOk, short_same, h]; decide
  exact ⟨h1, by simp [stopR, h1, short_same, dw, dwF]⟩
theorem speed_bd (way a : Int) : 0 ≤ speedR way a ∧ speedR way a ≤ 100 := by
  unfold speedR
  split
  · have := sfF_spec way a 100
    exact ⟨this.1, by have := this.2.1; omega⟩
  · omega
theorem speed_fit {way a : Int} (h : speedOk way a = true) : stopOk (speedR way a) a = true ∧ stopR (speedR way a) a ≤ way := by
  have hs : speedR way a = sfF way a 100 := by simp [speedR, h]
  simp only [speedOk, Bool.and_eq_true] at h
  obtain ⟨_, _, h3, _⟩ := sfF_spec way a 100
  rw [hs]
  rcases h3 with h3 | h3
  · rw [h3]
    have := stop_zero h.2
    have h1 := h.1
    simp only [inr, decide_eq_true_eq] at h1
    exact ⟨this.1, by rw [this.2]; exact h1.1⟩
  · simpa [sfP] using h3
theorem speed_more {way a : Int} (h : speedOk way a = true) (h2 : stopOk (speedR way a + 1) a = true) : way < stopR (speedR way a + 1) a := by
  have hs : speedR way a = sfF way a 100 := by simp [speedR, h]
  obtain ⟨h0, h1, _, h4⟩ := sfF_spec way a 100
  rw [← hs] at h0 h1 h4
  by_cases hb : speedR way a + 1 ≤ 100
  · have := h4 _ (show speedR way a < speedR way a + 1 by omega) hb
    simp only [sfP, h2, Bool.true_and, decide_eq_false_iff_not] at this
    omega
  · have hf : shortOk (speedR way a + 1) 0 a = true := h2
    simp only [shortOk, Bool.and_eq_true, inr, decide_eq_true_eq] at hf
    omega

theorem shF_keeps (f : Nat) (v to_ a : Int) (ha : 0 ≤ a) : keepsF a v (shF f v to_ a) = true := by
  induction f generalizing v with
  | zero => simp [shF, keepsF]
  | succ f ih =>
    simp only [shF]
    split
    · simp [keepsF]
    · rename_i hne
      simp only [keepsF, Bool.and_eq_true]
      refine ⟨?_, ih _⟩
      unfold stepTo
      simp only [inr, decide_eq_true_eq]
      split <;> omega
theorem shF_last (f : Nat) (v to_ a : Int) (h : (shF f v to_ a).length < f) : (v :: shF f v to_ a).getLast? = some to_ := by
  induction f generalizing v with
  | zero => omega
  | succ f ih =>
    by_cases hv : v = to_
    · subst hv; simp [shF]
    · rw [shF_next hv] at h ⊢
      rw [List.getLast?_cons_cons]
      exact ih _ (by simpa using h)
theorem short_prof {f t a : Int} (h : shortOk f t a = true) : prof (short f t a) = true := by
  have h1 := short_mem h
  have h2 := shortOk_len h
  have h3 := short_len f t a
  simp only [prof, Bool.and_eq_true, decide_eq_true_eq, List.all_eq_true, inr]
  exact ⟨⟨h3.1, h2⟩, h1⟩
theorem short_keeps {f t a : Int} (h : shortOk f t a = true) : keeps (short f t a) a = true := by
  simp only [shortOk, Bool.and_eq_true, inr, decide_eq_true_eq] at h
  exact shF_keeps 100 f t a (by omega)
theorem short_rate {f t a : Int} (h : shortOk f t a = true) : inr a 1 20 = true := by
  simp only [shortOk, Bool.and_eq_true] at h
  exact h.2.2.1
theorem short_first (f t a : Int) : (short f t a)[0]? = some f := by simp [short]
theorem short_end {f t a : Int} (h : shortOk f t a = true) {n : Nat} (hn : (short f t a).length = n + 1) : (short f t a)[n]? = some t := by
  have h2 := shortOk_len h
  have h3 : (short f t a).getLast? = some t := shF_last 100 f t a (by simp [short] at h2; omega)
  rw [List.getLast?_eq_getElem?, hn] at h3
  simpa using h3
theorem shortR_facts {f t a : Int} (h : shortOk f t a = true) : prof (shortR f t a) = true ∧ keeps (shortR f t a) a = true ∧ inr a 1 20 = true ∧ (shortR f t a)[0]? = some f ∧ ∃ n, (shortR f t a).length = n + 1 ∧ n + 1 ≤ 30 ∧ (shortR f t a)[n]? = some t := by
  have e : shortR f t a = short f t a := by simp [shortR, h]
  rw [e]
  have h1 := short_len f t a
  exact ⟨short_prof h, short_keeps h, short_rate h, short_first f t a, (short f t a).length - 1, by omega, by have := shortOk_len h; omega, short_end h (by omega)⟩
end Go.Proofs.Ythhameglamemkaa
