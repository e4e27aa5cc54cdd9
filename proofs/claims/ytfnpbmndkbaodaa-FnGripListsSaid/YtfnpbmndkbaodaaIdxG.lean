/- The first row of a number in a list whose numbers rise: plain words. No program in sight. -/
import Derived.Test.YtfnpbmndkbaodaaIdx
import Derived.Test.YtfnpbmndkbaodaaGood
namespace Go.Proofs.Ytfnpbmndkbaodaa
open Go.RowKit
set_option linter.unusedVariables false
set_option linter.unusedSimpArgs false

theorem goodF_lt {ok : List Int → Bool} : ∀ {rows : List (List Int)} {p : Int}, goodF ok p rows = true → ∀ {i j : Nat} {r r' : List Int}, rows[i]? = some r → rows[j]? = some r' → i < j → fld r 0 < fld r' 0
  | [], _, _, i, j, r, r', h, _, _ => by simp at h
  | a :: rs, p, hg, 0, j + 1, r, r', h, h', _ => by
    simp only [goodF, Bool.and_eq_true] at hg
    simp at h h'
    subst h
    exact (goodF_at hg.2.2 h').2
  | a :: rs, p, hg, i + 1, j + 1, r, r', h, h', hl => by
    simp only [goodF, Bool.and_eq_true] at hg
    simp at h h'
    exact goodF_lt hg.2.2 h h' (by omega)
theorem goodF_one {ok : List Int → Bool} {rows : List (List Int)} {p : Int} (hg : goodF ok p rows = true) {i j : Nat} {r r' : List Int} (h : rows[i]? = some r) (h' : rows[j]? = some r') (e : fld r 0 = fld r' 0) : i = j := by
  rcases Nat.lt_trichotomy i j with hl | hl | hl
  · have := goodF_lt hg h h' hl; omega
  · exact hl
  · have := goodF_lt hg h' h hl; omega
def numP (number : Int) (r : List Int) : Bool := fld r 0 == number
theorem idxR_none {p : List Int → Bool} {rows : List (List Int)} (h : idxR p rows = -1) : ∀ r ∈ rows, p r = false := by
  have := idx_any p rows
  rw [h] at this
  simpa [List.any_eq_false] using this
theorem idxR_of_none {p : List Int → Bool} {rows : List (List Int)} (h : ∀ r ∈ rows, p r = false) : idxR p rows = -1 := by
  rcases idxR_at p rows with e | ⟨j, r, e, hr, hp⟩
  · exact e
  · rw [h r (List.mem_of_getElem? hr)] at hp; cases hp
/-- Asking for a number and something more finds the row of the number, or none. -/
theorem idxR_and {ok : List Int → Bool} {rows : List (List Int)} {p : Int} (hg : goodF ok p rows = true) (number : Int) (c : List Int → Bool) {j : Nat} {r : List Int}
    (hj : idxR (numP number) rows = (j : Int)) (hr : rows[j]? = some r) : idxR (fun r => numP number r && c r) rows = if c r then (j : Int) else -1 := by
  have hn : fld r 0 = number := by
    rcases idxR_at (numP number) rows with e | ⟨j', r', e, hr', hp⟩
    · rw [e] at hj; omega
    · rw [e] at hj
      obtain rfl : j' = j := by omega
      rw [hr] at hr'
      injection hr' with hr'
      subst hr'
      simpa [numP] using hp
  rcases idxR_at (fun r => numP number r && c r) rows with e | ⟨j', r', e, hr', hp⟩
  · have h1 := idxR_none e r (List.mem_of_getElem? hr)
    have h2 : numP number r = true := by unfold numP; rw [hn]; simp
    simp only [h2, Bool.true_and] at h1
    rw [e, h1]
    rfl
  · simp only [Bool.and_eq_true] at hp
    have h1 : fld r' 0 = number := by simpa [numP] using hp.1
    obtain rfl := goodF_one hg hr' hr (by rw [h1, hn])
    rw [hr] at hr'
    injection hr' with hr'
    subst hr'
    rw [e, hp.2]
    rfl
theorem idxR_and_none {rows : List (List Int)} (number : Int) (c : List Int → Bool) (hj : idxR (numP number) rows = -1) : idxR (fun r => numP number r && c r) rows = -1 :=
  idxR_of_none fun r hr => by rw [idxR_none hj r hr]; rfl
theorem idxR_lt {p : List Int → Bool} {rows : List (List Int)} {n : Nat} (hl : rows.length = n) : -1 ≤ idxR p rows ∧ idxR p rows < n := by
  rcases idxR_at p rows with e | ⟨j, r, e, hr, _⟩
  · rw [e]; omega
  · have := (List.getElem?_eq_some_iff.1 hr).1
    rw [e]; omega
end Go.Proofs.Ytfnpbmndkbaodaa
