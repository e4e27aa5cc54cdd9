/- Tensions: plain words and laws. No program in sight. -/
import Derived.Test.YtjfmicemnoglkaaSupP
import Derived.Test.YtjfmicemnoglkaaSagP
namespace Go.Proofs.Ytjfmicemnoglkaa
open Go.RowKit
set_option linter.unusedVariables false
set_option linter.unusedSimpArgs false

def caseOk (w c r : Int) : Bool := inr w 1 1000 && (inr c 1 1000000 && inr r 0 1000)
theorem caseOk_iff {w c r : Int} : caseOk w c r = true ↔ (1 ≤ w ∧ w ≤ 1000) ∧ (1 ≤ c ∧ c ≤ 1000000) ∧ (0 ≤ r ∧ r ≤ 1000) := by simp [caseOk, inr]
/-- The tension at support k, with a friction R. -/
def tnN (rows : List (List Int)) (w c R : Int) : Nat → Int
  | 0 => c
  | k + 1 => tnN rows w c R k + w * (htN rows (k + 1) - htN rows k) + R
def tnL (rows : List (List Int)) (w c R : Int) (k : Nat) : List Int := (List.range k).map (tnN rows w c R)
def tnB (rows : List (List Int)) (w c R : Int) : Nat → Bool
  | 0 => true
  | k + 1 => tnB rows w c R k && decide (0 ≤ tnN rows w c R (k + 1))
theorem tnL_len (rows : List (List Int)) (w c R : Int) (k : Nat) : (tnL rows w c R k).length = k := by simp [tnL]
theorem tnL_next (rows : List (List Int)) (w c R : Int) (k : Nat) : tnL rows w c R (k + 1) = tnL rows w c R k ++ [tnN rows w c R k] := by simp [tnL, List.range_succ]
theorem tnL_at {rows : List (List Int)} {w c R : Int} {k i : Nat} (h : i < k) : (tnL rows w c R k)[i]? = some (tnN rows w c R i) := by simp [tnL, h]
theorem tnB_iff {rows : List (List Int)} {w c R : Int} : ∀ {k : Nat}, tnB rows w c R k = true ↔ ∀ i, 1 ≤ i → i ≤ k → 0 ≤ tnN rows w c R i
  | 0 => by simp [tnB]; intro i h1 h2; omega
  | k + 1 => by
    simp only [tnB, Bool.and_eq_true, decide_eq_true_eq, tnB_iff (k := k)]
    constructor
    · rintro ⟨h1, h2⟩ i hi hk
      rcases Nat.lt_or_ge i (k + 1) with hlt | hge
      · exact h1 i hi (by omega)
      · have : i = k + 1 := by omega
        subst this
        exact h2
    · intro h
      exact ⟨fun i h1 h2 => h i h1 (by omega), h (k + 1) (by omega) (Nat.le_refl _)⟩
theorem mulS {a b A B : Int} (ha0 : 0 ≤ a) (ha : a ≤ A) (hb0 : -B ≤ b) (hb : b ≤ B) (hB : 0 ≤ B) : -(A * B) ≤ a * b ∧ a * b ≤ A * B := by
  have h1 : a * b ≤ A * B := by
    have h2 : a * b ≤ a * B := Int.mul_le_mul_of_nonneg_left hb ha0
    have h3 : a * B ≤ A * B := Int.mul_le_mul_of_nonneg_right ha hB
    omega
  have h4 : a * (-b) ≤ A * B := by
    have h2 : a * (-b) ≤ a * B := Int.mul_le_mul_of_nonneg_left (by omega) ha0
    have h3 : a * B ≤ A * B := Int.mul_le_mul_of_nonneg_right ha hB
    omega
  rw [Int.mul_neg] at h4
  omega
theorem dh_bd {rows : List (List Int)} (L : Line rows) {w : Int} (hw : 1 ≤ w ∧ w ≤ 1000) {k : Nat} (hk : k + 1 < rows.length) : -2000000 ≤ w * (htN rows (k + 1) - htN rows k) ∧ w * (htN rows (k + 1) - htN rows k) ≤ 2000000 := by
  have h1 := L.ht (k + 1) hk
  have h2 := L.ht k (by omega)
  have := mulS (a := w) (b := htN rows (k + 1) - htN rows k) (A := 1000) (B := 2000) (by omega) hw.2 (by omega) (by omega) (by omega)
  omega
theorem tn_bd' {rows : List (List Int)} (L : Line rows) {w c R : Int} (hw : 1 ≤ w ∧ w ≤ 1000) (hc : -1 ≤ c ∧ c ≤ 1000000) (hR : -1000 ≤ R ∧ R ≤ 1000) : ∀ k : Nat, k < rows.length → -1 - 2001000 * (k : Int) ≤ tnN rows w c R k ∧ tnN rows w c R k ≤ 1000000 + 2001000 * (k : Int)
  | 0, _ => by simp [tnN]; omega
  | k + 1, h => by
    have ih := tn_bd' L hw hc hR k (by omega)
    have := dh_bd L hw (k := k) h
    simp only [tnN]
    omega
theorem tn_in {rows : List (List Int)} (L : Line rows) {w c R : Int} (hw : 1 ≤ w ∧ w ≤ 1000) (hc : -1 ≤ c ∧ c ≤ 1000000) (hR : -1000 ≤ R ∧ R ≤ 1000) {k : Nat} (h : k < rows.length) : -20000000 ≤ tnN rows w c R k ∧ tnN rows w c R k ≤ 20000000 := by
  have := tn_bd' L hw hc hR k h
  have := L.hi
  omega
/-- The tension without its start and its friction. -/
def rsN (rows : List (List Int)) (w : Int) : Nat → Int
  | 0 => 0
  | k + 1 => rsN rows w k + w * (htN rows (k + 1) - htN rows k)
theorem tn_eq (rows : List (List Int)) (w c R : Int) : ∀ k : Nat, tnN rows w c R k = c + rsN rows w k + R * (k : Int)
  | 0 => by simp [tnN, rsN]
  | k + 1 => by
    have ih := tn_eq rows w c R k
    simp only [tnN, rsN]
    rw [ih]
    have : R * ((k + 1 : Nat) : Int) = R * (k : Int) + R := by rw [Int.natCast_add, Int.mul_add]; simp
    rw [this]
    omega
/-! ### The lists and what is told of them -/
def upOk (rows : List (List Int)) (w c r : Int) : Bool := lineOk rows && (caseOk w c r && tnB rows w c r (rows.length - 1))
def upV (rows : List (List Int)) (w c r : Int) : List Int := if upOk rows w c r = true then tnL rows w c r rows.length else []
def dnOk (rows : List (List Int)) (w c r : Int) : Bool := lineOk rows && (caseOk w c r && tnB rows w c (-r) (rows.length - 1))
def dnV (rows : List (List Int)) (w c r : Int) : List Int := if dnOk rows w c r = true then tnL rows w c (-r) rows.length else []
theorem upOk_iff {rows : List (List Int)} {w c r : Int} : upOk rows w c r = true ↔ lineOk rows = true ∧ caseOk w c r = true ∧ tnB rows w c r (rows.length - 1) = true := by simp [upOk]
theorem dnOk_iff {rows : List (List Int)} {w c r : Int} : dnOk rows w c r = true ↔ lineOk rows = true ∧ caseOk w c r = true ∧ tnB rows w c (-r) (rows.length - 1) = true := by simp [dnOk]
theorem upV_len (rows : List (List Int)) (w c r : Int) : (upV rows w c r).length ≤ rows.length := by unfold upV; split <;> simp [tnL_len]
theorem dnV_len (rows : List (List Int)) (w c r : Int) : (dnV rows w c r).length ≤ rows.length := by unfold dnV; split <;> simp [tnL_len]
def dfOk (rows : List (List Int)) (w c r : Int) : Bool := upOk rows w c r && dnOk rows w c r
def dfV (rows : List (List Int)) (w c r : Int) : Int := if dfOk rows w c r = true then tnN rows w c r (rows.length - 1) - tnN rows w c (-r) (rows.length - 1) else 0
/-- The index of the greatest, the first one. -/
def gtI (f : Nat → Int) : Nat → Nat
  | 0 => 0
  | k + 1 => if f (gtI f k) < f k then k else gtI f k
theorem gtI_lt (f : Nat → Int) : ∀ k : Nat, gtI f k ≤ k - 1
  | 0 => Nat.le_refl _
  | k + 1 => by
    have := gtI_lt f k
    simp only [gtI]
    split <;> omega
theorem gtI_most (f : Nat → Int) : ∀ (k j : Nat), j < k → f j ≤ f (gtI f k)
  | 0, j, h => by omega
  | k + 1, j, h => by
    simp only [gtI]
    rcases Nat.lt_or_ge j k with hlt | hge
    · have := gtI_most f k j hlt
      split <;> omega
    · have : j = k := by omega
      subst this
      split <;> omega
def gtA (rows : List (List Int)) (w c r : Int) : Int := if upOk rows w c r = true then (gtI (tnN rows w c r) rows.length : Int) else 0
def gtV (rows : List (List Int)) (w c r : Int) : Int := if upOk rows w c r = true then tnN rows w c r (gtI (tnN rows w c r) rows.length) else 0
def mxF (s : Int) (f : Nat → Int) : Nat → Int
  | 0 => s
  | k + 1 => max (mxF s f k) (f k)
def mnF (s : Int) (f : Nat → Int) : Nat → Int
  | 0 => s
  | k + 1 => min (mnF s f k) (f k)
theorem mxF_le {s z : Int} {f : Nat → Int} : ∀ {k : Nat}, mxF s f k ≤ z ↔ s ≤ z ∧ ∀ i, i < k → f i ≤ z
  | 0 => by simp [mxF]
  | k + 1 => by
    simp only [mxF]
    have ih := mxF_le (s := s) (z := z) (f := f) (k := k)
    constructor
    · intro h
      have h1 := ih.1 (by omega)
      refine ⟨h1.1, fun i hi => ?_⟩
      rcases Nat.lt_or_ge i k with hlt | hge
      · exact h1.2 i hlt
      · have : i = k := by omega
        subst this
        omega
    · rintro ⟨h1, h2⟩
      have := ih.2 ⟨h1, fun i hi => h2 i (by omega)⟩
      have := h2 k (by omega)
      omega
theorem le_mnF {s z : Int} {f : Nat → Int} : ∀ {k : Nat}, z ≤ mnF s f k ↔ z ≤ s ∧ ∀ i, i < k → z ≤ f i
  | 0 => by simp [mnF]
  | k + 1 => by
    simp only [mnF]
    have ih := le_mnF (s := s) (z := z) (f := f) (k := k)
    constructor
    · intro h
      have h1 := ih.1 (by omega)
      refine ⟨h1.1, fun i hi => ?_⟩
      rcases Nat.lt_or_ge i k with hlt | hge
      · exact h1.2 i hlt
      · have : i = k := by omega
        subst this
        omega
    · rintro ⟨h1, h2⟩
      have := ih.2 ⟨h1, fun i hi => h2 i (by omega)⟩
      have := h2 k (by omega)
      omega
def lcN (rows : List (List Int)) (w c r : Int) : Int := mxF (mxF 1 (fun i => c - tnN rows w c r i) rows.length) (fun i => c - tnN rows w c (-r) i) rows.length
theorem lcN_le {rows : List (List Int)} {w c r z : Int} : lcN rows w c r ≤ z ↔ 1 ≤ z ∧ (∀ i, i < rows.length → c - tnN rows w c r i ≤ z) ∧ ∀ i, i < rows.length → c - tnN rows w c (-r) i ≤ z := by
  unfold lcN
  rw [mxF_le, mxF_le, and_assoc]
theorem lc_spec (rows : List (List Int)) (w c r : Int) : max 1 (-(mnF (mnF 0 (fun i => tnN rows w c (-r) i - c) rows.length) (fun i => tnN rows w c r i - c) rows.length)) = lcN rows w c r := by
  have key : ∀ z : Int, max 1 (-(mnF (mnF 0 (fun i => tnN rows w c (-r) i - c) rows.length) (fun i => tnN rows w c r i - c) rows.length)) ≤ z ↔ lcN rows w c r ≤ z := by
    intro z
    rw [lcN_le]
    have e : ∀ m : Int, max 1 (-m) ≤ z ↔ 1 ≤ z ∧ -z ≤ m := fun m => by omega
    rw [e, le_mnF, le_mnF]
    constructor
    · rintro ⟨h1, ⟨h2, h3⟩, h4⟩
      exact ⟨h1, fun i hi => by have := h4 i hi; omega, fun i hi => by have := h3 i hi; omega⟩
    · rintro ⟨h1, h2, h3⟩
      exact ⟨h1, ⟨by omega, fun i hi => by have := h3 i hi; omega⟩, fun i hi => by have := h2 i hi; omega⟩
  have a := (key _).2 (Int.le_refl _)
  have b := (key _).1 (Int.le_refl _)
  omega
def lcOk (rows : List (List Int)) (w c r : Int) : Bool := lineOk rows && (caseOk w c r && decide (lcN rows w c r ≤ 1000000))
def lcV (rows : List (List Int)) (w c r : Int) : Int := if lcOk rows w c r = true then lcN rows w c r else 0
theorem lcOk_iff {rows : List (List Int)} {w c r : Int} : lcOk rows w c r = true ↔ lineOk rows = true ∧ caseOk w c r = true ∧ lcN rows w c r ≤ 1000000 := by simp [lcOk]
theorem lc_bd {rows : List (List Int)} {w c r : Int} (hl : lineOk rows = true) (hc : caseOk w c r = true) : 1 ≤ lcN rows w c r ∧ lcN rows w c r ≤ 40000000 := by
  have L := lineOk_line hl
  obtain ⟨h1, h2, h3⟩ := caseOk_iff.1 hc
  constructor
  · exact ((lcN_le (z := lcN rows w c r)).1 (Int.le_refl _)).1
  · refine lcN_le.2 ⟨by omega, fun i hi => ?_, fun i hi => ?_⟩
    · have := tn_in L h1 (c := c) (by omega) (R := r) (by omega) hi; omega
    · have := tn_in L h1 (c := c) (by omega) (R := -r) (by omega) hi; omega
/-! ### The laws -/
theorem tn_nonneg {rows : List (List Int)} {w c R : Int} (hc : 1 ≤ c) (h : tnB rows w c R (rows.length - 1) = true) {i : Nat} (hi : i < rows.length) : 0 ≤ tnN rows w c R i := by
  rcases Nat.eq_zero_or_pos i with rfl | hp
  · simp [tnN]; omega
  · exact tnB_iff.1 h i hp (by omega)
theorem df_facts {rows : List (List Int)} {w c r : Int} (h : dfOk rows w c r = true) :
    tnN rows w c r (rows.length - 1) - tnN rows w c (-r) (rows.length - 1) = 2 * r * ((rows.length : Int) - 1) ∧ lcN rows w c r ≤ c ∧ lcOk rows w c r = true ∧
    (∀ i, i < rows.length → 0 ≤ tnN rows w c (-r) i ∧ tnN rows w c (-r) i ≤ tnN rows w c r i) := by
  simp only [dfOk, Bool.and_eq_true] at h
  obtain ⟨hl, hc, hu⟩ := upOk_iff.1 h.1
  obtain ⟨_, _, hd⟩ := dnOk_iff.1 h.2
  obtain ⟨h1, h2, h3⟩ := caseOk_iff.1 hc
  have L := lineOk_line hl
  have hlo := L.lo
  have hle : lcN rows w c r ≤ c := lcN_le.2 ⟨by omega, fun i hi => by have := tn_nonneg (by omega) hu hi; omega, fun i hi => by have := tn_nonneg (by omega) hd hi; omega⟩
  refine ⟨?_, hle, lcOk_iff.2 ⟨hl, hc, by omega⟩, fun i hi => ⟨tn_nonneg (by omega) hd hi, ?_⟩⟩
  · rw [tn_eq, tn_eq]
    have e : ((rows.length - 1 : Nat) : Int) = (rows.length : Int) - 1 := by omega
    rw [e, Int.neg_mul, Int.mul_assoc]
    generalize r * ((rows.length : Int) - 1) = z
    omega
  · rw [tn_eq, tn_eq, Int.neg_mul]
    have := Int.mul_nonneg h3.1 (show (0 : Int) ≤ (i : Int) by omega)
    generalize r * (i : Int) = z at *
    omega
/-- With the least counterweight all is valid; with one less it is not. -/
theorem lc_facts {rows : List (List Int)} {w c r : Int} (h : lcOk rows w c r = true) :
    dfOk rows w (lcN rows w c r) r = true ∧ dfOk rows w (lcN rows w c r - 1) r = false := by
  obtain ⟨hl, hc, hm⟩ := lcOk_iff.1 h
  obtain ⟨h1, h2, h3⟩ := caseOk_iff.1 hc
  have L := lineOk_line hl
  have hlo := L.lo
  have hlc := (lcN_le (z := lcN rows w c r)).1 (Int.le_refl _)
  have hcase : caseOk w (lcN rows w c r) r = true := caseOk_iff.2 ⟨h1, ⟨hlc.1, hm⟩, h3⟩
  have hpos : ∀ (R : Int) (i : Nat), c - tnN rows w c R i ≤ lcN rows w c r → 0 ≤ tnN rows w (lcN rows w c r) R i := by
    intro R i hh
    rw [tn_eq] at hh ⊢
    omega
  refine ⟨?_, ?_⟩
  · simp only [dfOk, Bool.and_eq_true]
    exact ⟨upOk_iff.2 ⟨hl, hcase, tnB_iff.2 fun i h4 h5 => hpos _ i (hlc.2.1 i (by omega))⟩, dnOk_iff.2 ⟨hl, hcase, tnB_iff.2 fun i h4 h5 => hpos _ i (hlc.2.2 i (by omega))⟩⟩
  · rcases hq : dfOk rows w (lcN rows w c r - 1) r with _ | _
    · rfl
    · exfalso
      simp only [dfOk, Bool.and_eq_true] at hq
      obtain ⟨_, hc2, hu⟩ := upOk_iff.1 hq.1
      obtain ⟨_, _, hd⟩ := dnOk_iff.1 hq.2
      obtain ⟨_, k2, _⟩ := caseOk_iff.1 hc2
      have : lcN rows w c r ≤ lcN rows w c r - 1 := by
        refine lcN_le.2 ⟨k2.1, fun i hi => ?_, fun i hi => ?_⟩
        · have h6 := tn_nonneg k2.1 hu hi
          rw [tn_eq] at h6 ⊢
          omega
        · have h6 := tn_nonneg k2.1 hd hi
          rw [tn_eq] at h6 ⊢
          omega
      omega
end Go.Proofs.Ytjfmicemnoglkaa
