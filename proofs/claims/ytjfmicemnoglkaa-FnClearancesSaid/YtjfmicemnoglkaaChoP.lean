/- Chords: plain words and laws. No program in sight. -/
import Derived.Test.YtjfmicemnoglkaaTenP
namespace Go.Proofs.Ytjfmicemnoglkaa
open Go.RowKit
set_option linter.unusedVariables false
set_option linter.unusedSimpArgs false

/-- The height of the chord times the length of its span. -/
def chN (rows : List (List Int)) (place : Int) : Int := htN rows (spanN rows place) * lL rows place + (htN rows (spanN rows place + 1) - htN rows (spanN rows place)) * lX rows place
def cqN (rows : List (List Int)) (place : Int) : Int := if onOk rows place = true then redN (chN rows place) (lL rows place) else 0
def cqD (rows : List (List Int)) (place : Int) : Int := if onOk rows place = true then redD (chN rows place) (lL rows place) else 0
theorem cq_no {rows : List (List Int)} {place : Int} (h : onOk rows place = false) : cqN rows place = 0 ∧ cqD rows place = 0 := by simp [cqN, cqD, h]
theorem cq_yes {rows : List (List Int)} {place : Int} (h : onOk rows place = true) : cqN rows place = redN (chN rows place) (lL rows place) ∧ cqD rows place = redD (chN rows place) (lL rows place) := by simp [cqN, cqD, h]
/-- The reference's way to it. -/
theorem ch_spec {rows : List (List Int)} (L : Line rows) {place : Int} (h0 : 0 ≤ place) (h1 : place ≤ endN rows) : htN rows (spanN rows place) * lY rows place + htN rows (spanN rows place + 1) * lX rows place = chN rows place := by
  obtain ⟨_, _, _, e⟩ := lXY L h0 h1
  unfold chN
  rw [← e, Int.mul_add, Int.sub_mul]
  omega
theorem ch_bd {rows : List (List Int)} (L : Line rows) {place : Int} (h0 : 0 ≤ place) (h1 : place ≤ endN rows) : (0 ≤ chN rows place ∧ chN rows place ≤ 12000000) ∧ (0 ≤ htN rows (spanN rows place) * lL rows place ∧ htN rows (spanN rows place) * lL rows place ≤ 6000000) ∧
    (-6000000 ≤ (htN rows (spanN rows place + 1) - htN rows (spanN rows place)) * lX rows place ∧ (htN rows (spanN rows place + 1) - htN rows (spanN rows place)) * lX rows place ≤ 6000000) ∧
    (0 ≤ htN rows (spanN rows place) * lY rows place ∧ htN rows (spanN rows place) * lY rows place ≤ 6000000) ∧ (0 ≤ htN rows (spanN rows place + 1) * lX rows place ∧ htN rows (spanN rows place + 1) * lX rows place ≤ 6000000) := by
  have S := L.span h0 h1
  obtain ⟨a, b, c, e⟩ := lXY L h0 h1
  have k0 := L.ht (spanN rows place) (by have := S.lt; omega)
  have k1 := L.ht (spanN rows place + 1) S.lt
  have m1 := mulB (a := htN rows (spanN rows place)) (b := lL rows place) (A := 2000) (B := 3000) k0.1 k0.2 (by omega) c.2
  have m2 := mulB (a := htN rows (spanN rows place)) (b := lY rows place) (A := 2000) (B := 3000) k0.1 k0.2 b.1 b.2
  have m3 := mulB (a := htN rows (spanN rows place + 1)) (b := lX rows place) (A := 2000) (B := 3000) k1.1 k1.2 a.1 a.2
  have m4 := mulS (a := lX rows place) (b := htN rows (spanN rows place + 1) - htN rows (spanN rows place)) (A := 3000) (B := 2000) a.1 a.2 (by omega) (by omega) (by omega)
  have m5 : (htN rows (spanN rows place + 1) - htN rows (spanN rows place)) * lX rows place = lX rows place * (htN rows (spanN rows place + 1) - htN rows (spanN rows place)) := Int.mul_comm _ _
  have es := ch_spec L h0 h1
  refine ⟨by omega, by omega, by omega, by omega, by omega⟩
/-- At a support the chord has its height. -/
theorem ch_at {rows : List (List Int)} (hl : lineOk rows = true) {i : Nat} (hi : i < rows.length) : onOk rows (atN rows i) = true ∧ cqD rows (atN rows i) = 1 ∧ cqN rows (atN rows i) = htN rows i := by
  have L := lineOk_line hl
  have hlo := L.lo
  have hon : onOk rows (atN rows i) = true := onOk_iff.2 ⟨hl, (L.at_ i hi).1, L.mono (rows.length - 1) i (by omega) (by omega)⟩
  obtain ⟨_, h0, h1⟩ := onOk_iff.1 hon
  have S := L.span h0 h1
  obtain ⟨e1, e2⟩ := cq_yes hon
  obtain ⟨_, _, c, _⟩ := lXY L h0 h1
  have key : chN rows (atN rows i) = lL rows (atN rows i) * htN rows i := by
    unfold chN
    have hs : spanN rows (atN rows i) = i ∨ spanN rows (atN rows i) + 1 = i := by
      rcases Nat.lt_trichotomy (spanN rows (atN rows i) + 1) i with h | h | h
      · have := L.mono (i - 1) (spanN rows (atN rows i) + 1) (by omega) (by omega)
        have := L.rise (i - 1) (by omega)
        rw [show i - 1 + 1 = i by omega] at this
        have := S.hi
        omega
      · exact .inr h
      · rcases Nat.lt_or_ge i (spanN rows (atN rows i)) with h2 | h2
        · have := S.lo
          have := L.mono (spanN rows (atN rows i)) (i + 1) (by omega) (by have := S.lt; omega)
          have := L.rise i (by have := S.lt; omega)
          omega
        · exact .inl (by omega)
    rcases hs with hs | hs
    · have hx : lX rows (atN rows i) = 0 := by unfold lX; rw [hs]; omega
      rw [hx, hs]
      simp [Int.mul_comm]
    · have hx : lX rows (atN rows i) = lL rows (atN rows i) := by unfold lX lL; rw [hs]
      rw [hx, hs, ← Int.add_mul]
      rw [show htN rows (spanN rows (atN rows i)) + (htN rows i - htN rows (spanN rows (atN rows i))) = htN rows i by omega, Int.mul_comm]
  obtain ⟨w1, w2⟩ := red_whole (a := htN rows i) (b := lL rows (atN rows i)) (by omega)
  rw [e1, e2, key]
  exact ⟨hon, w2, w1⟩
/-- The lengths of the spans. -/
def spL (rows : List (List Int)) (k : Nat) : List Int := (List.range k).map fun i => atN rows (i + 1) - atN rows i
theorem spL_len (rows : List (List Int)) (k : Nat) : (spL rows k).length = k := by simp [spL]
theorem spL_next (rows : List (List Int)) (k : Nat) : spL rows (k + 1) = spL rows k ++ [atN rows (k + 1) - atN rows k] := by simp [spL, List.range_succ]
theorem spL_at {rows : List (List Int)} {k i : Nat} (h : i < k) : (spL rows k)[i]? = some (atN rows (i + 1) - atN rows i) := by simp [spL, h]
theorem spL_sum (rows : List (List Int)) : ∀ k : Nat, (spL rows k).sum = atN rows k - atN rows 0
  | 0 => by simp [spL]
  | k + 1 => by rw [spL_next, List.sum_append, spL_sum rows k]; simp; omega
/-- The stations. -/
def stL (rows : List (List Int)) : Nat → List Int
  | 0 => []
  | k + 1 => if stN rows k = 1 then stL rows k ++ [(k : Int)] else stL rows k
theorem stL_take {rows : List (List Int)} {k : Nat} (h : stN rows k = 1) : stL rows (k + 1) = stL rows k ++ [(k : Int)] := by simp [stL, h]
theorem stL_keep {rows : List (List Int)} {k : Nat} (h : ¬ stN rows k = 1) : stL rows (k + 1) = stL rows k := by simp [stL, h]
theorem stL_len (rows : List (List Int)) : ∀ k : Nat, (stL rows k).length ≤ k
  | 0 => Nat.le_refl _
  | k + 1 => by
    have := stL_len rows k
    simp only [stL]
    split
    · simp; omega
    · omega
theorem stL_mono {rows : List (List Int)} {x : Int} : ∀ {j k : Nat}, j ≤ k → x ∈ stL rows j → x ∈ stL rows k
  | j, 0, h, hx => by have : j = 0 := by omega
                      subst this; exact hx
  | j, k + 1, h, hx => by
    rcases Nat.lt_or_ge j (k + 1) with hlt | hge
    · have := stL_mono (rows := rows) (j := j) (k := k) (by omega) hx
      simp only [stL]
      split
      · exact List.mem_append_left _ this
      · exact this
    · have : j = k + 1 := by omega
      subst this; exact hx
theorem stL_has {rows : List (List Int)} {i k : Nat} (h : i < k) (hs : stN rows i = 1) : (i : Int) ∈ stL rows k := by
  refine stL_mono (j := i + 1) h ?_
  rw [stL_take hs]
  simp
/-- The steepest span: rise and length crosswise. -/
def rsV (rows : List (List Int)) (i : Nat) : Int := max (htN rows (i + 1) - htN rows i) (-(htN rows (i + 1) - htN rows i))
def lnV (rows : List (List Int)) (i : Nat) : Int := atN rows (i + 1) - atN rows i
def stI (rows : List (List Int)) : Nat → Nat
  | 0 => 0
  | k + 1 => if rsV rows (stI rows k) * lnV rows k < rsV rows k * lnV rows (stI rows k) then k else stI rows k
theorem stI_lt (rows : List (List Int)) : ∀ k : Nat, stI rows k ≤ k - 1
  | 0 => Nat.le_refl _
  | k + 1 => by
    have := stI_lt rows k
    simp only [stI]
    split <;> omega
end Go.Proofs.Ytjfmicemnoglkaa
