/- Limits, safety and press: plain words and laws. No program in sight. -/
import Derived.Test.YtjfmicemnoglkaaTenP
namespace Go.Proofs.Ytjfmicemnoglkaa
open Go.RowKit
set_option linter.unusedVariables false
set_option linter.unusedSimpArgs false

/-- The supports whose tension is above a limit. -/
def ovL (f : Nat → Int) (lim : Int) : Nat → List Int
  | 0 => []
  | k + 1 => if lim < f k then ovL f lim k ++ [(k : Int)] else ovL f lim k
theorem ovL_len (f : Nat → Int) (lim : Int) : ∀ k : Nat, (ovL f lim k).length ≤ k
  | 0 => Nat.le_refl _
  | k + 1 => by
    have := ovL_len f lim k
    simp only [ovL]
    split
    · simp; omega
    · omega
theorem ovL_take {f : Nat → Int} {lim : Int} {k : Nat} (h : lim < f k) : ovL f lim (k + 1) = ovL f lim k ++ [(k : Int)] := by simp [ovL, h]
theorem ovL_keep {f : Nat → Int} {lim : Int} {k : Nat} (h : ¬ lim < f k) : ovL f lim (k + 1) = ovL f lim k := by simp only [ovL]; rw [if_neg h]
theorem ovL_mem {f : Nat → Int} {lim : Int} {i : Nat} : ∀ {k : Nat}, (i : Int) ∈ ovL f lim k ↔ i < k ∧ lim < f i
  | 0 => by simp [ovL]
  | k + 1 => by
    have ih := ovL_mem (f := f) (lim := lim) (i := i) (k := k)
    by_cases h : lim < f k
    · rw [ovL_take h, List.mem_append, ih]
      simp only [List.mem_singleton]
      constructor
      · rintro (⟨h1, h2⟩ | h1)
        · exact ⟨by omega, h2⟩
        · have : i = k := by omega
          subst this
          exact ⟨by omega, h⟩
      · rintro ⟨h1, h2⟩
        rcases Nat.lt_or_ge i k with hlt | hge
        · exact .inl ⟨hlt, h2⟩
        · exact .inr (by omega)
    · rw [ovL_keep h, ih]
      constructor
      · rintro ⟨h1, h2⟩; exact ⟨by omega, h2⟩
      · rintro ⟨h1, h2⟩
        refine ⟨?_, h2⟩
        rcases Nat.lt_or_ge i k with hlt | hge
        · exact hlt
        · have : i = k := by omega
          subst this
          exact absurd h2 h
def ovOk (rows : List (List Int)) (w c r lim : Int) : Bool := upOk rows w c r && inr lim 0 1000000
def ovV (rows : List (List Int)) (w c r lim : Int) : List Int := if ovOk rows w c r lim = true then ovL (tnN rows w c r) lim rows.length else []
theorem ov_no {rows : List (List Int)} {w c r lim : Int} (h : ovOk rows w c r lim = false) : ovV rows w c r lim = [] := by simp [ovV, h]
theorem ov_yes {rows : List (List Int)} {w c r lim : Int} (h : ovOk rows w c r lim = true) : ovV rows w c r lim = ovL (tnN rows w c r) lim rows.length := by simp [ovV, h]
theorem ovV_len (rows : List (List Int)) (w c r lim : Int) : (ovV rows w c r lim).length ≤ rows.length := by
  unfold ovV
  split
  · exact ovL_len _ _ _
  · simp
/-- The breaking force over the tension. -/
def saOk (rows : List (List Int)) (w c r k br : Int) : Bool := upOk rows w c r && (inr k 0 ((rows.length : Int) - 1) && (inr br 1 1000000 && decide (tnN rows w c r k.toNat ≠ 0)))
def saN (rows : List (List Int)) (w c r k br : Int) : Int := if saOk rows w c r k br = true then redN br (tnN rows w c r k.toNat) else 0
def saD (rows : List (List Int)) (w c r k br : Int) : Int := if saOk rows w c r k br = true then redD br (tnN rows w c r k.toNat) else 0
theorem saOk_iff {rows : List (List Int)} {w c r k br : Int} : saOk rows w c r k br = true ↔ upOk rows w c r = true ∧ (0 ≤ k ∧ k ≤ (rows.length : Int) - 1) ∧ (1 ≤ br ∧ br ≤ 1000000) ∧ tnN rows w c r k.toNat ≠ 0 := by simp [saOk, inr]
theorem sa_no {rows : List (List Int)} {w c r k br : Int} (h : saOk rows w c r k br = false) : saN rows w c r k br = 0 ∧ saD rows w c r k br = 0 := by simp [saN, saD, h]
theorem sa_yes {rows : List (List Int)} {w c r k br : Int} (h : saOk rows w c r k br = true) : saN rows w c r k br = redN br (tnN rows w c r k.toNat) ∧ saD rows w c r k br = redD br (tnN rows w c r k.toNat) := by simp [saN, saD, h]
theorem up_bd {rows : List (List Int)} {w c r : Int} (h : upOk rows w c r = true) {i : Nat} (hi : i < rows.length) : 0 ≤ tnN rows w c r i ∧ tnN rows w c r i ≤ 20000000 := by
  obtain ⟨hl, hc, hu⟩ := upOk_iff.1 h
  obtain ⟨h1, h2, h3⟩ := caseOk_iff.1 hc
  exact ⟨tn_nonneg h2.1 hu hi, (tn_in (lineOk_line hl) h1 (by omega) (by omega) hi).2⟩
theorem sa_pos {rows : List (List Int)} {w c r k br : Int} (h : saOk rows w c r k br = true) : (0 < tnN rows w c r k.toNat ∧ tnN rows w c r k.toNat ≤ 20000000) ∧ k.toNat < rows.length := by
  obtain ⟨hu, hk, hb, hn⟩ := saOk_iff.1 h
  have hlt : k.toNat < rows.length := by omega
  have := up_bd hu hlt
  exact ⟨⟨by omega, this.2⟩, hlt⟩
/-- Safety times tension is the breaking force. -/
theorem sa_law {rows : List (List Int)} {w c r k br : Int} (h : saOk rows w c r k br = true) :
    saN rows w c r k br * tnN rows w c r k.toNat = br * saD rows w c r k br ∧ (0 ≤ saN rows w c r k br ∧ saN rows w c r k br ≤ 1000000) ∧ (0 ≤ saD rows w c r k br ∧ saD rows w c r k br ≤ 20000000) := by
  obtain ⟨e1, e2⟩ := sa_yes h
  obtain ⟨⟨p1, p2⟩, _⟩ := sa_pos h
  obtain ⟨_, _, hb, _⟩ := saOk_iff.1 h
  rw [e1, e2]
  refine ⟨red_cross _ _, ⟨redN_nonneg p1 (by omega), (redN_abs (M := 1000000) p1 (by omega) hb.2).2⟩, Int.le_of_lt (redD_pos p1), ?_⟩
  have := redD_le (a := br) p1
  omega
/-- How the rope presses. -/
def slN (rows : List (List Int)) (i : Nat) : Int := ((htN rows (i + 1) - htN rows i) * 1000).tdiv (atN rows (i + 1) - atN rows i)
def prOk (rows : List (List Int)) (w c r k : Int) : Bool := upOk rows w c r && inr k 1 ((rows.length : Int) - 2)
def prV (rows : List (List Int)) (w c r k : Int) : Int := if prOk rows w c r k = true then (tnN rows w c r k.toNat * (slN rows (k.toNat - 1) - slN rows k.toNat)).tdiv 1000 else 0
theorem sl_bd {rows : List (List Int)} (L : Line rows) {i : Nat} (h : i + 1 < rows.length) : -2000000 ≤ slN rows i ∧ slN rows i ≤ 2000000 := by
  have h1 := L.ht i (by omega)
  have h2 := L.ht (i + 1) h
  have h3 := L.rise i h
  unfold slN
  have ha : ((htN rows (i + 1) - htN rows i) * 1000).natAbs ≤ 2000000 := by omega
  generalize (htN rows (i + 1) - htN rows i) * 1000 = a at *
  have h4 : (a.tdiv (atN rows (i + 1) - atN rows i)).natAbs ≤ a.natAbs := by rw [Int.natAbs_tdiv]; exact Nat.div_le_self _ _
  omega
end Go.Proofs.Ytjfmicemnoglkaa
