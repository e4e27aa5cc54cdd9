/- Lengths for the law on lists of grips: plain. -/
import Derived.Test.YtfnpbmndkbaodaaGlawC
import Derived.Test.YtfnpbmndkbaodaaGlawD
namespace Go.Proofs.Ytfnpbmndkbaodaa
open Go.RowKit
set_option linter.unusedVariables false
set_option linter.unusedSimpArgs false

theorem ah_len {rows : List (List Int)} {loads : List Int} {slope : Int} (h : ahOk rows loads slope = true) : loads.length = rows.length ∧ good rows = true := by
  unfold ahOk at h
  simp only [Bool.and_eq_true, decide_eq_true_eq] at h
  exact ⟨h.2.1, h.1⟩
theorem ahV_le (rows : List (List Int)) (loads : List Int) (slope : Int) : (ahV rows loads slope).length ≤ rows.length := by
  unfold ahV
  split
  · unfold ahL
    rw [List.length_map]
    refine Nat.le_trans (List.length_filter_le _ _) ?_
    simp
    omega
  · simp
theorem op_len {rows : List (List Int)} {cab slip : Int} (h : opOk rows cab slip = true) : (opV rows cab slip).length = rows.length := by
  simp [opV, h, opL]
theorem op_no {rows : List (List Int)} {cab slip : Int} (h : opOk rows cab slip = false) : opV rows cab slip = [] := by simp [opV, h]
theorem op_good {rows : List (List Int)} {cab slip : Int} (h : opOk rows cab slip = true) : good rows = true := by
  unfold opOk at h
  simp only [Bool.and_eq_true] at h
  exact h.1
theorem wk_good {rows : List (List Int)} (h : wkOk rows = true) : good rows = true := by
  unfold wkOk at h
  simp only [Bool.and_eq_true] at h
  exact h.1
end Go.Proofs.Ytfnpbmndkbaodaa
