/- No grip is weaker than the weakest: plain. -/
import Derived.Test.YtfnpbmndkbaodaaGlawB
import Derived.Test.YtfnpbmndkbaodaaGripF
namespace Go.Proofs.Ytfnpbmndkbaodaa
open Go.RowKit
set_option linter.unusedVariables false
set_option linter.unusedSimpArgs false

theorem wk_least : ∀ (rows : List (List Int)) (b : List Int), (wk b rows = b ∨ wk b rows ∈ rows) ∧ fld (wk b rows) 1 ≤ fld b 1 ∧ ∀ s ∈ rows, fld (wk b rows) 1 ≤ fld s 1
  | [], b => by simp [wk]
  | r :: rs, b => by
    unfold wk
    by_cases hb : wkB r b = true
    · obtain ⟨h1, h2, h3⟩ := wk_least rs r
      have h5 : fld r 1 < fld b 1 ∨ fld r 1 = fld b 1 ∧ fld b 2 < fld r 2 := of_decide_eq_true hb
      have h4 : fld r 1 ≤ fld b 1 := by omega
      rw [if_pos hb]
      refine ⟨.inr ?_, by omega, ?_⟩
      · rcases h1 with h1 | h1
        · rw [h1]; simp
        · exact List.mem_cons_of_mem _ h1
      · intro s hs
        rcases List.mem_cons.1 hs with rfl | hs
        · exact h2
        · exact h3 s hs
    · obtain ⟨h1, h2, h3⟩ := wk_least rs b
      have h5 : ¬ (fld r 1 < fld b 1 ∨ fld r 1 = fld b 1 ∧ fld b 2 < fld r 2) := fun e => hb (decide_eq_true e)
      have h4 : fld b 1 ≤ fld r 1 := by omega
      rw [if_neg hb]
      refine ⟨?_, h2, ?_⟩
      · rcases h1 with h1 | h1
        · exact .inl h1
        · exact .inr (List.mem_cons_of_mem _ h1)
      · intro s hs
        rcases List.mem_cons.1 hs with rfl | hs
        · omega
        · exact h3 s hs
theorem wk_facts {rows : List (List Int)} (h : wkOk rows = true) : ∃ F : Int,
    (∀ (i : Nat) (r : List Int), rows[i]? = some r → fld r 0 = wkV rows → fld r 1 = F) ∧ (∃ (i : Nat) (r : List Int), rows[i]? = some r ∧ fld r 0 = wkV rows) ∧ ∀ (i : Nat) (r : List Int), rows[i]? = some r → F ≤ fld r 1 := by
  have hv : wkV rows = fld (wk (rows.headD []) rows) 0 := by simp [wkV, h]
  rw [hv]
  unfold wkOk at h
  simp only [Bool.and_eq_true, decide_eq_true_eq] at h
  obtain ⟨h1, h2⟩ := h
  obtain ⟨a1, a2, a3⟩ := wk_least rows (rows.headD [])
  have hin : wk (rows.headD []) rows ∈ rows := by
    rcases a1 with a1 | a1
    · rw [a1]
      cases rows with
      | nil => simp at h2
      | cons a t => simp
    · exact a1
  obtain ⟨m, hm⟩ := List.getElem?_of_mem hin
  refine ⟨fld (wk (rows.headD []) rows) 1, fun i r hr he => ?_, ⟨m, _, hm, rfl⟩, fun i r hr => a3 r (List.mem_of_getElem? hr)⟩
  obtain rfl := good_inj h1 hr hm he
  rw [hm] at hr
  injection hr with hr
  rw [hr]
end Go.Proofs.Ytfnpbmndkbaodaa
