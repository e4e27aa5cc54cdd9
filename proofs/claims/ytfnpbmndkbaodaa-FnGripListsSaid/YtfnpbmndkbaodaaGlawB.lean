/- A tested grip need not be tested on that day: plain. -/
import Derived.Test.YtfnpbmndkbaodaaGlaw
namespace Go.Proofs.Ytfnpbmndkbaodaa
open Go.RowKit
set_option linter.unusedVariables false
set_option linter.unusedSimpArgs false

theorem goodF_mono {ok : List Int → Bool} : ∀ {rows : List (List Int)} {p : Int}, goodF ok p rows = true → ∀ {j k : Nat} {r s : List Int}, rows[j]? = some r → rows[k]? = some s → j < k → fld r 0 < fld s 0
  | [], _, _, _, _, _, _, h, _, _ => by simp at h
  | r0 :: rs, p, hg, 0, 0, _, _, _, _, h => by omega
  | r0 :: rs, p, hg, 0, k + 1, r, s, hr, hs, _ => by
    simp only [goodF, Bool.and_eq_true, decide_eq_true_eq] at hg
    simp at hr
    subst hr
    exact (goodF_at hg.2.2 (k := k) (by simpa using hs)).2
  | r0 :: rs, p, hg, j + 1, 0, _, _, _, _, h => by omega
  | r0 :: rs, p, hg, j + 1, k + 1, r, s, hr, hs, h => by
    simp only [goodF, Bool.and_eq_true, decide_eq_true_eq] at hg
    exact goodF_mono hg.2.2 (j := j) (k := k) (by simpa using hr) (by simpa using hs) (by omega)
theorem good_inj {ok : List Int → Bool} {m : Nat} {rows : List (List Int)} (hg : goodL ok m rows = true) {j k : Nat} {r s : List Int} (hr : rows[j]? = some r) (hs : rows[k]? = some s) (h : fld r 0 = fld s 0) : j = k := by
  rcases Nat.lt_trichotomy j k with h1 | h1 | h1
  · have := goodF_mono (goodL_iff.1 hg).1 hr hs h1; omega
  · exact h1
  · have := goodF_mono (goodL_iff.1 hg).1 hs hr h1; omega
theorem tg_facts {rows : List (List Int)} {cab force day : Int} (h : tgOk rows cab force day = true) :
    good (tgV rows cab force day) = true ∧ cab ∉ dueV (tgV rows cab force day) day := by
  have hv : tgV rows cab force day = tgL rows cab force day := by simp [tgV, h]
  unfold tgOk at h
  simp only [Bool.and_eq_true, decide_eq_true_eq] at h
  obtain ⟨h1, h2, h3, h4⟩ := h
  rw [hv]
  refine ⟨h4, fun hin => ?_⟩
  rcases atV_at rows cab with he | ⟨j, r, he, hr, _⟩
  · omega
  · have hk : (tgL rows cab force day)[j]? = some [cab, force, 0, 0, day] := by
      have hj := (List.getElem?_eq_some_iff.1 hr).1
      unfold tgL
      rw [he]
      simp [hj]
    unfold dueV at hin
    split at hin
    · unfold dueL at hin
      obtain ⟨q, hq, he2⟩ := List.mem_map.1 hin
      obtain ⟨hq1, hq2⟩ := List.mem_filter.1 hq
      obtain ⟨m, hm⟩ := List.getElem?_of_mem hq1
      obtain rfl := good_inj h4 hm hk (by simpa using he2)
      rw [hk] at hm
      injection hm with hm
      subst hm
      simp [dueB, fld] at hq2
    · simp at hin
end Go.Proofs.Ytfnpbmndkbaodaa
