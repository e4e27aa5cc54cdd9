/- Lines, spans, fractions in lowest terms: plain words. No program in sight. -/
import Derived.Test.YtjfmicemnoglkaaFlat
namespace Go.Proofs.Ytjfmicemnoglkaa
open Go.RowKit
set_option linter.unusedVariables false
set_option linter.unusedSimpArgs false

/-! ### A slice of supports: three cells a row, the third a truth -/
def SV : List (List Int) → List Value
  | [] => []
  | r :: rs => .int .i64 (fld r 0) :: .int .i64 (fld r 1) :: .bool (decide (fld r 2 = 1)) :: SV rs
theorem SV_len : ∀ (rows : List (List Int)), (SV rows).length = rows.length * 3
  | [] => rfl
  | r :: rs => by simp [SV, SV_len rs]; omega
theorem SV_append : ∀ (a b : List (List Int)), SV (a ++ b) = SV a ++ SV b
  | [], b => rfl
  | r :: rs, b => by simp [SV, SV_append rs b]
theorem SV_at : ∀ {rows : List (List Int)} {k : Nat} {r : List Int}, rows[k]? = some r → (SV rows)[k * 3]? = some (.int .i64 (fld r 0)) ∧ (SV rows)[k * 3 + 1]? = some (.int .i64 (fld r 1)) ∧ (SV rows)[k * 3 + 2]? = some (.bool (decide (fld r 2 = 1)))
  | [], _, _, h => by simp at h
  | r0 :: rs, 0, r, h => by simp at h; subst h; simp [SV]
  | r0 :: rs, k + 1, r, h => by
    have ih := SV_at (rows := rs) (k := k) (r := r) (by simpa using h)
    rw [show (k + 1) * 3 = k * 3 + 3 by omega]
    simpa [SV] using ih
theorem SV_take : ∀ (rows : List (List Int)) (k : Nat), SV (rows.take k) = (SV rows).take (k * 3)
  | [], k => by simp [SV]
  | r :: rs, 0 => by simp [SV]
  | r :: rs, k + 1 => by
    rw [show (k + 1) * 3 = k * 3 + 3 by omega]
    simp [SV, SV_take rs k]
theorem SV_drop : ∀ (rows : List (List Int)) (k : Nat), SV (rows.drop k) = (SV rows).drop (k * 3)
  | [], k => by simp [SV]
  | r :: rs, 0 => by simp [SV]
  | r :: rs, k + 1 => by
    rw [show (k + 1) * 3 = k * 3 + 3 by omega]
    simp [SV, SV_drop rs k]
/-- A slice of supports that reads as rows. -/
def RdL (w : World) (A : Option Addr) (n : Nat) (rows : List (List Int)) : Prop := Rd w 3 A n (SV rows) ∧ rows.length = n ∧ Even 3 rows
theorem RdL.below {w w' : World} {A : Option Addr} {n : Nat} {rows : List (List Int)} (h : RdL w A n rows) (hb : Below w.heap.size w w') : RdL w' A n rows := ⟨h.1.below hb, h.2⟩
theorem RdL.row {w : World} {A : Option Addr} {n k : Nat} {rows : List (List Int)} (h : RdL w A n rows) (hk : k < n) :
    ∃ b off x0 x1 x2, A = some ⟨b, off, none⟩ ∧ rows[k]? = some [x0, x1, x2] ∧ b < w.heap.size ∧ w.cell? ⟨b, off + k * 3, none⟩ = some (.int .i64 x0) ∧ w.cell? ⟨b, off + k * 3 + 1, none⟩ = some (.int .i64 x1) ∧ w.cell? ⟨b, off + k * 3 + 2, none⟩ = some (.bool (decide (x2 = 1))) := by
  obtain ⟨hr, hl, he⟩ := h
  obtain ⟨b, off, e, hc⟩ := hr.2 (by omega)
  have hkr : k < rows.length := by omega
  have hrow : rows[k]? = some rows[k] := List.getElem?_eq_getElem hkr
  have h3 := he rows[k] (List.getElem_mem hkr)
  obtain ⟨x0, x1, x2, e3⟩ := len3 h3
  rw [e3] at hrow
  obtain ⟨v0, v1, v2⟩ := SV_at hrow
  have c0 := hc _ _ v0
  have c1 := hc _ _ v1
  have c2 := hc _ _ v2
  simp only [← Nat.add_assoc] at c1 c2
  exact ⟨b, off, x0, x1, x2, e, hrow, World.block_lt_of_cell? w _ c0, by simpa [fld] using c0, by simpa [fld] using c1, by simpa [fld] using c2⟩

/-! ### A valid line -/
def atN (rows : List (List Int)) (k : Nat) : Int := fld (rows.getD k []) 0
def htN (rows : List (List Int)) (k : Nat) : Int := fld (rows.getD k []) 1
def stN (rows : List (List Int)) (k : Nat) : Int := fld (rows.getD k []) 2
theorem atN_of {rows : List (List Int)} {k : Nat} {a b c : Int} (h : rows[k]? = some [a, b, c]) : atN rows k = a ∧ htN rows k = b ∧ stN rows k = c := by simp [atN, htN, stN, List.getD, h, fld]
def supOk (p : Int) (r : List Int) : Bool := decide (0 ≤ fld r 0 ∧ fld r 0 ≤ 3000) && (decide (0 ≤ fld r 1 ∧ fld r 1 ≤ 2000) && decide (p < fld r 0))
def supsF : Int → List (List Int) → Bool
  | _, [] => true
  | p, r :: rs => supOk p r && supsF (fld r 0) rs
def prevL (rows : List (List Int)) (k : Nat) : Int := if k = 0 then -1 else atN rows (k - 1)
def lineR (n : Nat) (p0 s0 s1 : Int) : Bool := decide (2 ≤ n ∧ n ≤ 8) && (decide (p0 = 0) && (decide (s0 = 1) && decide (s1 = 1)))
def lineOk (rows : List (List Int)) : Bool := lineR rows.length (atN rows 0) (stN rows 0) (stN rows (rows.length - 1)) && supsF (-1) rows
theorem prevL_zero (rows : List (List Int)) : prevL rows 0 = -1 := rfl
theorem prevL_next {rows : List (List Int)} {k : Nat} {r : List Int} (h : rows[k]? = some r) : prevL rows (k + 1) = fld r 0 := by simp [prevL, atN, List.getD, h]
theorem drop_atL {α : Type} {xs : List α} {k : Nat} {x : α} (h : xs[k]? = some x) : xs.drop k = x :: xs.drop (k + 1) := by
  obtain ⟨hk, e⟩ := List.getElem?_eq_some_iff.1 h
  rw [List.drop_eq_getElem_cons hk, e]
theorem supsF_bad {rows : List (List Int)} {k : Nat} {r : List Int} (h : rows[k]? = some r) (ho : supOk (prevL rows k) r = false) : supsF (prevL rows k) (rows.drop k) = false := by
  rw [drop_atL h]; simp [supsF, ho]
theorem supsF_step {rows : List (List Int)} {k : Nat} {r : List Int} (h : rows[k]? = some r) (ho : supOk (prevL rows k) r = true) : supsF (prevL rows k) (rows.drop k) = supsF (prevL rows (k + 1)) (rows.drop (k + 1)) := by
  rw [drop_atL h, prevL_next h]
  conv => lhs; unfold supsF
  rw [ho, Bool.true_and]
theorem supsF_end {rows : List (List Int)} {n k : Nat} {p : Int} (h : rows.length = n) (hk : n ≤ k) : supsF p (rows.drop k) = true := by
  rw [List.drop_of_length_le (by omega)]; rfl
theorem supOk_iff {p : Int} {r : List Int} : supOk p r = true ↔ (0 ≤ fld r 0 ∧ fld r 0 ≤ 3000) ∧ (0 ≤ fld r 1 ∧ fld r 1 ≤ 2000) ∧ p < fld r 0 := by simp [supOk]
theorem supsF_at : ∀ {rows : List (List Int)} {p : Int}, supsF p rows = true → ∀ {k : Nat}, k < rows.length → (0 ≤ atN rows k ∧ atN rows k ≤ 3000) ∧ (0 ≤ htN rows k ∧ htN rows k ≤ 2000) ∧ (k = 0 → p < atN rows k) ∧ (0 < k → atN rows (k - 1) < atN rows k)
  | [], _, _, _, h => by simp at h
  | r :: rs, p, hg, 0, _ => by
    simp only [supsF, Bool.and_eq_true] at hg
    obtain ⟨h1, h2, h3⟩ := supOk_iff.1 hg.1
    exact ⟨h1, h2, fun _ => h3, fun h => absurd h (Nat.lt_irrefl 0)⟩
  | r :: rs, p, hg, k + 1, h => by
    simp only [supsF, Bool.and_eq_true] at hg
    obtain ⟨h1, h2, h3, h4⟩ := supsF_at hg.2 (k := k) (by simpa using h)
    have e1 : atN (r :: rs) (k + 1) = atN rs k := by simp [atN]
    have e2 : htN (r :: rs) (k + 1) = htN rs k := by simp [htN]
    rw [e1, e2]
    refine ⟨h1, h2, by omega, fun _ => ?_⟩
    rcases Nat.eq_zero_or_pos k with rfl | hk
    · have := h3 rfl
      simpa [atN] using this
    · have := h4 hk
      have e3 : atN (r :: rs) (k + 1 - 1) = atN rs (k - 1) := by
        obtain ⟨j, rfl⟩ : ∃ j, k = j + 1 := ⟨k - 1, by omega⟩
        simp [atN]
      rw [e3]
      exact this
/-- What is known of a valid line. -/
structure Line (rows : List (List Int)) : Prop where
  lo : 2 ≤ rows.length
  hi : rows.length ≤ 8
  zero : atN rows 0 = 0
  st0 : stN rows 0 = 1
  st1 : stN rows (rows.length - 1) = 1
  at_ : ∀ k, k < rows.length → 0 ≤ atN rows k ∧ atN rows k ≤ 3000
  ht : ∀ k, k < rows.length → 0 ≤ htN rows k ∧ htN rows k ≤ 2000
  rise : ∀ k, k + 1 < rows.length → atN rows k < atN rows (k + 1)
theorem lineOk_line {rows : List (List Int)} (h : lineOk rows = true) : Line rows := by
  simp only [lineOk, lineR, Bool.and_eq_true, decide_eq_true_eq] at h
  obtain ⟨⟨⟨a, b⟩, c, d, e⟩, f⟩ := h
  exact ⟨a, b, c, d, e, fun k hk => (supsF_at f hk).1, fun k hk => (supsF_at f hk).2.1, fun k hk => (supsF_at f hk).2.2.2 (by omega)⟩
theorem Line.mono {rows : List (List Int)} (h : Line rows) : ∀ (j i : Nat), i ≤ j → j < rows.length → atN rows i ≤ atN rows j
  | 0, i, hi, hj => by have : i = 0 := by omega
                       subst this; omega
  | j + 1, i, hi, hj => by
    rcases Nat.lt_or_ge i (j + 1) with hlt | hge
    · have := h.mono j i (by omega) (by omega)
      have := h.rise j hj
      omega
    · have : i = j + 1 := by omega
      subst this; omega
/-- The last place. -/
def endN (rows : List (List Int)) : Int := atN rows (rows.length - 1)
theorem Line.end_pos {rows : List (List Int)} (h : Line rows) : 0 < endN rows ∧ endN rows ≤ 3000 := by
  have h1 : atN rows 0 < atN rows 1 := h.rise 0 (by have := h.lo; omega)
  have h2 := h.mono (rows.length - 1) 1 (by have := h.lo; omega) (by have := h.lo; omega)
  have h3 := (h.at_ (rows.length - 1) (by have := h.lo; omega)).2
  have := h.zero
  unfold endN
  exact ⟨by omega, h3⟩
/-! ### The span with a place -/
def spF (place : Int) : List (List Int) → Nat
  | [] => 0
  | r :: rs => if place ≤ fld r 0 then 0 else spF place rs + 1
def spanN (rows : List (List Int)) (place : Int) : Nat := spF place rows.tail
theorem spF_le (place : Int) : ∀ (rs : List (List Int)), spF place rs ≤ rs.length
  | [] => Nat.le_refl _
  | r :: rs => by simp only [spF]; split <;> simp [spF_le place rs]
theorem spF_lt (place : Int) : ∀ {rs : List (List Int)} {k : Nat}, k < spF place rs → atN rs k < place
  | [], _, h => by simp [spF] at h
  | r :: rs, 0, h => by
    simp only [spF] at h
    split at h
    · omega
    · show fld r 0 < place
      omega
  | r :: rs, k + 1, h => by
    simp only [spF] at h
    split at h
    · omega
    · have := spF_lt place (rs := rs) (k := k) (by omega)
      simpa [atN] using this
theorem spF_at (place : Int) : ∀ {rs : List (List Int)}, spF place rs < rs.length → place ≤ atN rs (spF place rs)
  | [], h => by simp [spF] at h
  | r :: rs, h => by
    simp only [spF] at h ⊢
    split at h
    · rw [if_pos ‹_›]; simpa [atN]
    · rw [if_neg ‹_›]
      have := spF_at place (rs := rs) (by simpa using h)
      simpa [atN] using this
theorem atN_tail (rows : List (List Int)) (k : Nat) : atN rows.tail k = atN rows (k + 1) := by
  cases rows <;> simp [atN]
/-- What is known of the span with a place. -/
structure Span (rows : List (List Int)) (place : Int) : Prop where
  lt : spanN rows place + 1 < rows.length
  lo : atN rows (spanN rows place) ≤ place
  hi : place ≤ atN rows (spanN rows place + 1)
  below : ∀ k, k < spanN rows place → atN rows (k + 1) < place
theorem Line.span {rows : List (List Int)} (h : Line rows) {place : Int} (h0 : 0 ≤ place) (h1 : place ≤ endN rows) : Span rows place := by
  have hlo := h.lo
  have hle := spF_le place rows.tail
  have hlt : spF place rows.tail < rows.tail.length := by
    rcases Nat.lt_or_ge (spF place rows.tail) rows.tail.length with hl | hl
    · exact hl
    · have : atN rows.tail (rows.length - 2) < place := spF_lt place (by simp at hl; omega)
      rw [atN_tail, show rows.length - 2 + 1 = rows.length - 1 by omega] at this
      unfold endN at h1
      omega
  have h3 := spF_at place hlt
  rw [atN_tail] at h3
  simp at hlt
  have hb : ∀ k, k < spanN rows place → atN rows (k + 1) < place := fun k hk => by
    have := spF_lt place (rs := rows.tail) hk
    rwa [atN_tail] at this
  refine ⟨by unfold spanN; omega, ?_, h3, hb⟩
  rcases Nat.eq_zero_or_pos (spanN rows place) with e | e
  · rw [e, h.zero]; exact h0
  · have := hb (spanN rows place - 1) (by omega)
    rw [show spanN rows place - 1 + 1 = spanN rows place by omega] at this
    omega
end Go.Proofs.Ytjfmicemnoglkaa
