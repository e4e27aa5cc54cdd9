/- Every cabin whose grip does not hold is told; an opened grip has opened once more: plain. -/
import Derived.Test.YtfnpbmndkbaodaaGlawB
namespace Go.Proofs.Ytfnpbmndkbaodaa
open Go.RowKit
set_option linter.unusedVariables false
set_option linter.unusedSimpArgs false

theorem op_facts {rows : List (List Int)} {cab slip : Int} (h : opOk rows cab slip = true) {i : Nat} {r s : List Int} (hr : rows[i]? = some r) (hs : (opV rows cab slip)[i]? = some s) :
    (fld s 3 = fld r 3 + 1) ↔ (fld s 0 = cab) := by
  have hv : opV rows cab slip = opL rows cab slip := by simp [opV, h]
  rw [hv] at hs
  unfold opOk at h
  simp only [Bool.and_eq_true, decide_eq_true_eq] at h
  obtain ⟨h1, h2, h3, h4⟩ := h
  rcases idxR_at (numP cab) rows with he | ⟨j, q, he, hq, hp⟩
  · have : atV rows cab = -1 := he
    omega
  · have he : atV rows cab = (j : Int) := he
    have hcab : fld q 0 = cab := by simpa [numP] using hp
    have hrow : rowAt rows cab = q := by simp [rowAt, he, hq]
    unfold opL at hs
    rw [he, hrow] at hs
    simp only [Int.toNat_natCast] at hs
    rw [List.getElem?_set] at hs
    split at hs
    · rename_i hji
      subst hji
      rw [hq] at hr
      injection hr with hr
      subst hr
      split at hs
      · injection hs with hs
        subst hs
        simp [opR, fld] at hcab ⊢
        exact hcab
      · simp at hs
    · rename_i hji
      rw [hr] at hs
      injection hs with hs
      subst hs
      refine ⟨fun hh => by omega, fun hh => ?_⟩
      exact absurd (good_inj h1 hr hq (by rw [hh, hcab])).symm hji
/-- Every cabin whose grip does not hold is told. -/
theorem ah_facts {rows : List (List Int)} {loads : List Int} {slope : Int} (h : ahOk rows loads slope = true) {i : Nat} {x0 x1 x2 x3 x4 l : Int} (hr : rows[i]? = some [x0, x1, x2, x3, x4]) (hl : loads[i]? = some l) :
    dhOk x0 x1 x2 x3 x4 l slope = true ∧ decide (x0 ∈ ahV rows loads slope) = !dhV x0 x1 x2 x3 x4 l slope := by
  have hv : ahV rows loads slope = ahL rows loads slope rows.length := by simp [ahV, h]
  rw [hv]
  unfold ahOk at h
  simp only [Bool.and_eq_true, decide_eq_true_eq, List.all_eq_true] at h
  obtain ⟨h1, h2, h3, h4⟩ := h
  have hg : gripOk x0 x1 x2 x3 x4 = true := gripOk_iff.2 (goodR h1 hr)
  have hp : pullOk l slope = true := by simp [pullOk, h4, h3 l (List.mem_of_getElem? hl)]
  refine ⟨by simp [dhOk, hg, hp], ?_⟩
  have hd : dhV x0 x1 x2 x3 x4 l slope = gripHolds x1 x2 l slope := by simp [dhV, hg, hp]
  rw [hd]
  have ht : ((rows.zip loads).take rows.length) = rows.zip loads := by
    rw [List.take_of_length_le]
    simp
    omega
  rw [Bool.eq_iff_iff]
  simp only [decide_eq_true_eq, Bool.not_eq_true']
  unfold ahL
  rw [ht]
  constructor
  · intro hin
    obtain ⟨⟨r, l'⟩, hq, he⟩ := List.mem_map.1 hin
    obtain ⟨hq1, hq2⟩ := List.mem_filter.1 hq
    obtain ⟨m, hm⟩ := List.getElem?_of_mem hq1
    obtain ⟨hm1, hm2⟩ := List.getElem?_zip_eq_some.1 hm
    obtain rfl := good_inj h1 hm1 hr (by simpa [fld] using he)
    rw [hr] at hm1
    rw [hl] at hm2
    injection hm1 with hm1
    injection hm2 with hm2
    subst hm1 hm2
    simpa [weakB, fld] using hq2
  · intro hh
    refine List.mem_map.2 ⟨([x0, x1, x2, x3, x4], l), List.mem_filter.2 ⟨List.mem_of_getElem? (zip_at hr hl), by simp [weakB, fld, hh]⟩, by simp [fld]⟩
end Go.Proofs.Ytfnpbmndkbaodaa
