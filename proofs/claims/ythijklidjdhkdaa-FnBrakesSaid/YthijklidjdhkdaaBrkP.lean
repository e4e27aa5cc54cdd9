/- The brakes: plain words. No program in sight. -/
import Derived.Test.YthijklidjdhkdaaIdx
namespace Go.Proofs.Ythijklidjdhkdaa
open Go.RowKit
set_option linter.unusedVariables false
set_option linter.unusedSimpArgs false

def brkOk (r : List Int) : Bool := decide (0 ≤ fld r 0 ∧ fld r 0 ≤ 100000) && decide (0 ≤ fld r 1 ∧ fld r 1 ≤ 10)
theorem brkOk_iff {a b : Int} : brkOk [a, b] = true ↔ (0 ≤ a ∧ a ≤ 100000) ∧ (0 ≤ b ∧ b ≤ 10) := by simp [brkOk, fld]
def drvR (m p : Int) (n : Nat) : Bool := decide (1 ≤ m ∧ m ≤ 100000) && (decide (-100000 ≤ p ∧ p ≤ 100000) && decide (n ≤ 4))
def drvOk (m p : Int) (rows : List (List Int)) : Bool := drvR m p rows.length && rows.all brkOk
theorem drvR_iff {m p : Int} {n : Nat} : drvR m p n = true ↔ (1 ≤ m ∧ m ≤ 100000) ∧ (-100000 ≤ p ∧ p ≤ 100000) ∧ n ≤ 4 := by simp [drvR]
theorem drvOk_iff {m p : Int} {rows : List (List Int)} : drvOk m p rows = true ↔ ((1 ≤ m ∧ m ≤ 100000) ∧ (-100000 ≤ p ∧ p ≤ 100000) ∧ rows.length ≤ 4) ∧ rows.all brkOk = true := by
  unfold drvOk; rw [Bool.and_eq_true, drvR_iff]
theorem brk_at {rows : List (List Int)} (h : rows.all brkOk = true) {k : Nat} {a b : Int} (hr : rows[k]? = some [a, b]) : (0 ≤ a ∧ a ≤ 100000) ∧ (0 ≤ b ∧ b ≤ 10) :=
  brkOk_iff.1 (List.all_eq_true.1 h _ (List.mem_of_getElem? hr))
/-- The force in second k. -/
def frcF (k : Int) : Int → List (List Int) → Int
  | z, [] => z
  | z, r :: rs => frcF k (if fld r 1 ≤ k then z - fld r 0 else z) rs
theorem frcF_yes {k z a b : Int} {rs : List (List Int)} (h : b ≤ k) : frcF k z ([a, b] :: rs) = frcF k (z - a) rs := by simp [frcF, fld, h]
theorem frcF_no {k z a b : Int} {rs : List (List Int)} (h : ¬ b ≤ k) : frcF k z ([a, b] :: rs) = frcF k z rs := by simp [frcF, fld, h]
theorem frcF_bd {k : Int} : ∀ (rs : List (List Int)) (z : Int), (∀ r ∈ rs, 0 ≤ fld r 0 ∧ fld r 0 ≤ 100000) → frcF k z rs ≤ z ∧ z - 100000 * rs.length ≤ frcF k z rs
  | [], z, _ => by simp [frcF]
  | r :: rs, z, h => by
    have h1 := h r (by simp)
    have h2 := frcF_bd (k := k) rs (if fld r 1 ≤ k then z - fld r 0 else z) fun x hx => h x (by simp [hx])
    simp only [frcF, List.length_cons]
    generalize frcF k (if fld r 1 ≤ k then z - fld r 0 else z) rs = y at h2 ⊢
    split at h2 <;> omega
/-- The speed one second later. -/
def brkN (m p : Int) (rows : List (List Int)) (k v : Int) : Int := max 0 (v + 10 * frcF k p rows / m)
def brkF (m p : Int) (rows : List (List Int)) : Nat → Int → Int → List Int
  | 0, _, _ => []
  | f + 1, k, v => if v ≤ 0 then [] else brkN m p rows k v :: brkF m p rows f (k + 1) (brkN m p rows k v)
def brkL (m p : Int) (rows : List (List Int)) : Nat → Int → Int → Int
  | 0, _, v => v
  | f + 1, k, v => if v ≤ 0 then v else brkL m p rows f (k + 1) (brkN m p rows k v)
/-- The speeds, and whether the rope stops in time. -/
def brkS (m p : Int) (rows : List (List Int)) (v : Int) : List Int := v :: brkF m p rows 60 0 v
def brkK (m p : Int) (rows : List (List Int)) (v : Int) : Bool := decide (brkL m p rows 60 0 v ≤ 0)
theorem brkF_len (m p : Int) (rows : List (List Int)) : ∀ (f : Nat) (k v : Int), (brkF m p rows f k v).length ≤ f
  | 0, _, _ => by simp [brkF]
  | f + 1, k, v => by
    unfold brkF
    split
    · simp
    · have := brkF_len m p rows f (k + 1) (brkN m p rows k v)
      simp; omega
theorem brkS_len (m p : Int) (rows : List (List Int)) (v : Int) : (brkS m p rows v).length ≤ 61 := by
  have := brkF_len m p rows 60 0 v
  simp [brkS]; omega
theorem div_le_10 {x m : Int} (hm : 1 ≤ m) (h0 : x ≤ 1000000) : x / m ≤ 1000000 := by
  rcases Int.lt_or_le x 0 with h | h
  · have := Int.ediv_neg_of_neg_of_pos h (show 0 < m by omega); omega
  · have := Int.ediv_le_self m h; omega
theorem div_ge_10 {x m : Int} (hm : 1 ≤ m) (h0 : -5000000 ≤ x) : -5000000 ≤ x / m := by
  rcases Int.lt_or_le x 0 with h | h
  · have : -5000000 * m ≤ x := by
      have := Int.mul_le_mul_of_nonneg_left hm (show (0 : Int) ≤ 5000000 by omega)
      omega
    exact Int.le_ediv_of_mul_le (by omega) this
  · have := Int.ediv_nonneg h (show 0 ≤ m by omega); omega
theorem brkN_bd {m p k v : Int} {rows : List (List Int)} (h : drvOk m p rows = true) (hv : 0 ≤ v) : 0 ≤ brkN m p rows k v ∧ brkN m p rows k v ≤ v + 1000000 := by
  obtain ⟨⟨hm, hp, hn⟩, hb⟩ := drvOk_iff.1 h
  have hf := frcF_bd (k := k) rows p fun r hr => by
    have := List.all_eq_true.1 hb r hr
    simp only [brkOk, Bool.and_eq_true, decide_eq_true_eq] at this
    exact this.1
  have := div_le_10 (m := m) (x := 10 * frcF k p rows) hm.1 (by omega)
  unfold brkN
  generalize 10 * frcF k p rows / m = q at this ⊢
  omega
theorem brkF_mem {m p : Int} {rows : List (List Int)} (h : drvOk m p rows = true) : ∀ (f : Nat) (k v : Int), 0 ≤ v → ∀ z ∈ brkF m p rows f k v, 0 ≤ z ∧ z ≤ v + 1000000 * f
  | 0, _, _, _, z, hz => by simp [brkF] at hz
  | f + 1, k, v, hv, z, hz => by
    have hb := brkN_bd (k := k) h hv
    unfold brkF at hz
    split at hz
    · simp at hz
    · rcases List.mem_cons.1 hz with rfl | hz
      · omega
      · have := brkF_mem h f (k + 1) (brkN m p rows k v) hb.1 z hz
        omega
theorem brkS_mem {m p v : Int} {rows : List (List Int)} (h : drvOk m p rows = true) (hv : 0 ≤ v) (hv' : v ≤ 100) : ∀ z ∈ brkS m p rows v, 0 ≤ z ∧ z ≤ 1000000000 := by
  intro z hz
  rcases List.mem_cons.1 hz with rfl | hz
  · omega
  · have := brkF_mem h 60 0 v hv z hz
    omega
/-- The rows of a set. -/
def sel (set : Nat) : Nat → List (List Int) → List (List Int)
  | _, [] => []
  | i, r :: rs => if set / 2 ^ i % 2 = 1 then r :: sel set (i + 1) rs else sel set (i + 1) rs
theorem sel_sub (set : Nat) : ∀ (i : Nat) (rows : List (List Int)), ∀ r ∈ sel set i rows, r ∈ rows
  | _, [], r, h => by simp [sel] at h
  | i, a :: rs, r, h => by
    unfold sel at h
    split at h
    · rcases List.mem_cons.1 h with rfl | h
      · simp
      · exact List.mem_cons_of_mem _ (sel_sub set (i + 1) rs r h)
    · exact List.mem_cons_of_mem _ (sel_sub set (i + 1) rs r h)
theorem sel_len (set : Nat) : ∀ (i : Nat) (rows : List (List Int)), (sel set i rows).length ≤ rows.length
  | _, [] => by simp [sel]
  | i, a :: rs => by
    have := sel_len set (i + 1) rs
    unfold sel
    split <;> simp <;> omega
theorem sel_ok {m p : Int} {rows : List (List Int)} (set i : Nat) (h : drvOk m p rows = true) : drvOk m p (sel set i rows) = true := by
  obtain ⟨⟨hm, hp, hn⟩, hb⟩ := drvOk_iff.1 h
  have := sel_len set i rows
  refine drvOk_iff.2 ⟨⟨hm, hp, by omega⟩, List.all_eq_true.2 fun r hr => List.all_eq_true.1 hb r (sel_sub set i rows r hr)⟩
theorem sel_all : ∀ (rows : List (List Int)), rows.length ≤ 4 → sel (2 ^ rows.length - 1) 0 rows = rows
  | [], _ => rfl
  | [a], _ => by simp [sel]
  | [a, b], _ => by simp [sel]
  | [a, b, c], _ => by simp [sel]
  | [a, b, c, d], _ => by simp [sel]
  | _ :: _ :: _ :: _ :: _ :: _, h => by exfalso; simp only [List.length_cons] at h; omega
theorem sel_but : ∀ (rows : List (List Int)) (j : Nat), rows.length ≤ 4 → j < rows.length → sel (2 ^ rows.length - 1 - 2 ^ j) 0 rows = rows.take j ++ rows.drop (j + 1)
  | [], _, _, h => by simp at h
  | [a], j, _, h => by
    obtain rfl : j = 0 := by simp at h; omega
    simp [sel]
  | [a, b], j, _, h => by
    simp at h
    rcases (by omega : j = 0 ∨ j = 1) with rfl | rfl <;> simp [sel]
  | [a, b, c], j, _, h => by
    simp at h
    rcases (by omega : j = 0 ∨ j = 1 ∨ j = 2) with rfl | rfl | rfl <;> simp [sel]
  | [a, b, c, d], j, _, h => by
    simp at h
    rcases (by omega : j = 0 ∨ j = 1 ∨ j = 2 ∨ j = 3) with rfl | rfl | rfl | rfl <;> simp [sel]
  | _ :: _ :: _ :: _ :: _ :: _, _, h, _ => by exfalso; simp only [List.length_cons] at h; omega
end Go.Proofs.Ythijklidjdhkdaa
