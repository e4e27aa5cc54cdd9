/- What the law says of grips: plain. -/
import Derived.Test.YtfnpbmndkbaodaaGripQ
import Derived.Test.YtfnpbmndkbaodaaGripL
import Derived.Test.YtfnpbmndkbaodaaGripGC
import Derived.Test.YtfnpbmndkbaodaaGripGB
namespace Go.Proofs.Ytfnpbmndkbaodaa
open Go.RowKit
set_option linter.unusedVariables false
set_option linter.unusedSimpArgs false

theorem stK_some {f s l : Int} : ∀ {n k : Nat}, stK f s l n = some k → k < n ∧ gripHolds f s l (k : Int) = true ∧ ∀ j : Nat, k < j → j < n → gripHolds f s l (j : Int) = false
  | 0, k, h => by simp [stK] at h
  | n + 1, k, h => by
    unfold stK at h
    split at h
    · rename_i hh
      injection h with h
      subst h
      exact ⟨by omega, hh, fun j a b => by omega⟩
    · rename_i hh
      obtain ⟨h1, h2, h3⟩ := stK_some h
      refine ⟨by omega, h2, fun j a b => ?_⟩
      rcases Nat.lt_or_ge j n with c | c
      · exact h3 j a c
      · obtain rfl : j = n := by omega
        simpa using hh
/-- The steepest slope: it is held, and the next is not. -/
theorem sh_facts {c f s o t l : Int} (h : shOk c f s o t l = true) :
    dhOk c f s o t l (shV c f s o t l) = true ∧ dhV c f s o t l (shV c f s o t l) = true ∧ (0 ≤ shV c f s o t l ∧ shV c f s o t l ≤ 100) ∧ (dhOk c f s o t l (shV c f s o t l + 1) = true → dhV c f s o t l (shV c f s o t l + 1) = false) := by
  unfold shOk at h
  simp only [Bool.and_eq_true] at h
  obtain ⟨⟨hg, hl⟩, hs⟩ := h
  obtain ⟨k, hk⟩ := Option.isSome_iff_exists.1 hs
  obtain ⟨h1, h2, h3⟩ := stK_some hk
  have hv : shV c f s o t l = (k : Int) := by simp [shV, hg, hl, hk]
  rw [hv]
  have hp : pullOk l (k : Int) = true := by
    simp [pullOk, hl]
    simp [inr]
    omega
  refine ⟨by simp [dhOk, hg, hp], by simp [dhV, hg, hp, h2], by omega, fun h => ?_⟩
  simp only [dhOk, Bool.and_eq_true] at h
  have hq := pullOk_iff.1 h.2
  have := h3 (k + 1) (by omega) (by omega)
  have e : ((k + 1 : Nat) : Int) = (k : Int) + 1 := by omega
  rw [e] at this
  simp [dhV, this]
theorem dh_pull {c f s o t l sl : Int} (h : dhV c f s o t l sl = true) : 3 * pullV l sl ≤ f := by
  unfold dhV at h
  simp only [Bool.and_eq_true] at h
  obtain ⟨⟨h1, h2⟩, h3⟩ := h
  simp [gripHolds] at h3
  simp [pullV, h2]
  omega
theorem pullV_bd (l s : Int) : 0 ≤ pullV l s ∧ pullV l s ≤ 4000 := by
  unfold pullV
  split
  · rename_i h
    have hb := pullOk_iff.1 h
    exact gripPull_bd (by omega) (by omega) (by omega) (by omega)
  · omega
end Go.Proofs.Ytfnpbmndkbaodaa
