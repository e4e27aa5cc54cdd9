/- Sags: plain words and laws. No program in sight. -/
import Derived.Test.YtjfmicemnoglkaaSupP
import Derived.Test.YtjfmicemnoglkaaFrcP
namespace Go.Proofs.Ytjfmicemnoglkaa
open Go.RowKit
set_option linter.unusedVariables false
set_option linter.unusedSimpArgs false

theorem mulB {a b A B : Int} (ha0 : 0 ≤ a) (ha : a ≤ A) (hb0 : 0 ≤ b) (hb : b ≤ B) : 0 ≤ a * b ∧ a * b ≤ A * B :=
  ⟨Int.mul_nonneg ha0 hb0, Int.mul_le_mul ha hb hb0 (by omega)⟩
/-- The distances of a place from both ends of its span. -/
def lX (rows : List (List Int)) (place : Int) : Int := place - atN rows (spanN rows place)
def lY (rows : List (List Int)) (place : Int) : Int := atN rows (spanN rows place + 1) - place
def lL (rows : List (List Int)) (place : Int) : Int := atN rows (spanN rows place + 1) - atN rows (spanN rows place)
def bdV (rows : List (List Int)) (place : Int) : Int := lX rows place * lY rows place
theorem lXY {rows : List (List Int)} (h : Line rows) {place : Int} (h0 : 0 ≤ place) (h1 : place ≤ endN rows) :
    (0 ≤ lX rows place ∧ lX rows place ≤ 3000) ∧ (0 ≤ lY rows place ∧ lY rows place ≤ 3000) ∧ (1 ≤ lL rows place ∧ lL rows place ≤ 3000) ∧ lX rows place + lY rows place = lL rows place := by
  obtain ⟨a, b, c, _⟩ := h.span h0 h1
  have d := h.at_ _ a
  have e := h.at_ (spanN rows place) (by omega)
  have f := h.rise _ a
  unfold lX lY lL
  omega
theorem bdV_bd {rows : List (List Int)} (h : Line rows) {place : Int} (h0 : 0 ≤ place) (h1 : place ≤ endN rows) : 0 ≤ bdV rows place ∧ bdV rows place ≤ 9000000 := by
  obtain ⟨a, b, c, d⟩ := lXY h h0 h1
  have := mulB a.1 a.2 b.1 b.2
  unfold bdV
  omega
def ropeOk (w p : Int) : Bool := decide (1 ≤ w ∧ w ≤ 200) && decide (1 ≤ p ∧ p ≤ 100000)
theorem ropeOk_iff {w p : Int} : ropeOk w p = true ↔ (1 ≤ w ∧ w ≤ 200) ∧ (1 ≤ p ∧ p ≤ 100000) := by simp [ropeOk]
/-- A line with a place. -/
def onOk (rows : List (List Int)) (place : Int) : Bool := lineOk rows && decide (0 ≤ place ∧ place ≤ endN rows)
theorem onOk_iff {rows : List (List Int)} {place : Int} : onOk rows place = true ↔ lineOk rows = true ∧ 0 ≤ place ∧ place ≤ endN rows := by simp [onOk]
/-- The sag, its load, in lowest terms. -/
def sagOk (rows : List (List Int)) (w p place : Int) : Bool := onOk rows place && ropeOk w p
def sagN (rows : List (List Int)) (w p place : Int) : Int := redN (w * bdV rows place) (2 * p)
def sagD (rows : List (List Int)) (w p place : Int) : Int := redD (w * bdV rows place) (2 * p)
def ldNum (rows : List (List Int)) (w p place ld : Int) : Int := bdV rows place * (w * lL rows place + 2 * ld)
def ldDen (rows : List (List Int)) (w p place : Int) : Int := 2 * lL rows place * p
def ldOk (rows : List (List Int)) (w p place ld : Int) : Bool := sagOk rows w p place && decide (0 ≤ ld ∧ ld ≤ 20000)
def ldN (rows : List (List Int)) (w p place ld : Int) : Int := redN (ldNum rows w p place ld) (ldDen rows w p place)
def ldD (rows : List (List Int)) (w p place ld : Int) : Int := redD (ldNum rows w p place ld) (ldDen rows w p place)
theorem sagOk_iff {rows : List (List Int)} {w p place : Int} : sagOk rows w p place = true ↔ (lineOk rows = true ∧ 0 ≤ place ∧ place ≤ endN rows) ∧ ropeOk w p = true := by
  unfold sagOk; rw [Bool.and_eq_true, onOk_iff]
/-- The best place among the first k ones. -/
def gsF (rows : List (List Int)) : Nat → Int × Int
  | 0 => (0, -1)
  | k + 1 => if (gsF rows k).2 < bdV rows k then ((k : Int), bdV rows k) else gsF rows k
theorem gsF_facts {rows : List (List Int)} (h : Line rows) : ∀ (k : Nat), (k : Int) ≤ endN rows + 1 → 0 < k →
    (0 ≤ (gsF rows k).1 ∧ (gsF rows k).1 < k ∧ bdV rows (gsF rows k).1 = (gsF rows k).2 ∧ 0 ≤ (gsF rows k).2) ∧ ∀ j : Nat, j < k → bdV rows j ≤ (gsF rows k).2
  | 0, _, h0 => by omega
  | k + 1, hk, _ => by
    have hb := bdV_bd h (place := k) (by omega) (by omega)
    rcases Nat.eq_zero_or_pos k with rfl | hp
    · have e : gsF rows (0 + 1) = (0, bdV rows 0) := by
        have : (gsF rows 0).2 < bdV rows ((0 : Nat) : Int) := by simp [gsF]; simp at hb; omega
        show (if (gsF rows 0).2 < bdV rows ((0 : Nat) : Int) then (((0 : Nat) : Int), bdV rows ((0 : Nat) : Int)) else gsF rows 0) = _
        rw [if_pos this]; simp
      rw [e]
      refine ⟨⟨by simp, by simp, by simp, by simpa using hb.1⟩, fun j hj => ?_⟩
      have : j = 0 := by omega
      subst this
      simp
    · obtain ⟨⟨a, b, c, d⟩, f⟩ := gsF_facts h k (by omega) hp
      simp only [gsF]
      split
      · refine ⟨⟨by simp, by simp; omega, by simp, by simp; omega⟩, fun j hj => ?_⟩
        rcases Nat.lt_or_ge j k with hlt | hge
        · have := f j hlt
          simp
          omega
        · have : j = k := by omega
          subst this
          simp
      · refine ⟨⟨a, by omega, c, d⟩, fun j hj => ?_⟩
        rcases Nat.lt_or_ge j k with hlt | hge
        · exact f j hlt
        · have : j = k := by omega
          subst this
          omega
def gsAt (rows : List (List Int)) : Int := (gsF rows ((endN rows).toNat + 1)).1
def gsMost (rows : List (List Int)) : Int := (gsF rows ((endN rows).toNat + 1)).2
theorem gs_facts {rows : List (List Int)} (h : Line rows) : 0 ≤ gsAt rows ∧ gsAt rows ≤ endN rows ∧ bdV rows (gsAt rows) = gsMost rows ∧ (0 ≤ gsMost rows ∧ gsMost rows ≤ 9000000) ∧ ∀ place, 0 ≤ place → place ≤ endN rows → bdV rows place ≤ gsMost rows := by
  have he := h.end_pos
  obtain ⟨⟨a, b, c, d⟩, f⟩ := gsF_facts h ((endN rows).toNat + 1) (by omega) (by omega)
  refine ⟨a, by unfold gsAt; omega, c, ⟨d, ?_⟩, fun place h0 h1 => ?_⟩
  · have := bdV_bd h (place := gsAt rows) a (by unfold gsAt; omega)
    unfold gsMost
    unfold gsAt at this
    omega
  · have := f place.toNat (by omega)
    rwa [Int.toNat_of_nonneg h0] at this
def grN (rows : List (List Int)) (w p : Int) : Int := redN (w * gsMost rows) (2 * p)
def grD (rows : List (List Int)) (w p : Int) : Int := redD (w * gsMost rows) (2 * p)
/-- The smallest pull for a sag. -/
def pfOk (rows : List (List Int)) (w place s : Int) : Bool := onOk rows place && (decide (1 ≤ w ∧ w ≤ 200) && (decide (0 ≤ s ∧ s ≤ 100) && (decide (bdV rows place = 0) || (decide (s ≠ 0) && decide ((w * bdV rows place + 2 * s - 1) / (2 * s) ≤ 100000)))))
def pfV (rows : List (List Int)) (w place s : Int) : Int := if pfOk rows w place s = true then (if bdV rows place = 0 then 1 else (w * bdV rows place + 2 * s - 1) / (2 * s)) else 0

/-! ### The laws -/
theorem wb {rows : List (List Int)} (h : Line rows) {place w p : Int} (hr : ropeOk w p = true) (h0 : 0 ≤ place) (h1 : place ≤ endN rows) : 0 ≤ w * bdV rows place ∧ w * bdV rows place ≤ 1800000000 := by
  obtain ⟨a, b⟩ := ropeOk_iff.1 hr
  have c := bdV_bd h h0 h1
  have := mulB (a := w) (b := bdV rows place) (A := 200) (B := 9000000) (by omega) a.2 c.1 c.2
  omega
theorem ld_bd {rows : List (List Int)} {w p place ld : Int} (hk : ldOk rows w p place ld = true) : (0 ≤ ldNum rows w p place ld ∧ ldNum rows w p place ld ≤ 5760000000000) ∧ (0 < ldDen rows w p place ∧ ldDen rows w p place ≤ 600000000) := by
  simp only [ldOk, Bool.and_eq_true, decide_eq_true_eq] at hk
  obtain ⟨⟨hl, h0, h1⟩, hr⟩ := sagOk_iff.1 hk.1
  have L := lineOk_line hl
  obtain ⟨a, b⟩ := ropeOk_iff.1 hr
  have c := bdV_bd L h0 h1
  obtain ⟨_, _, d, _⟩ := lXY L h0 h1
  have e := mulB (a := w) (b := lL rows place) (A := 200) (B := 3000) (by omega) a.2 (by omega) d.2
  have f := mulB (a := bdV rows place) (b := w * lL rows place + 2 * ld) (A := 9000000) (B := 640000) c.1 c.2 (by omega) (by omega)
  have g := mulB (a := 2 * lL rows place) (b := p) (A := 6000) (B := 100000) (by omega) (by omega) (by omega) b.2
  have g2 : 0 < 2 * lL rows place * p := Int.mul_pos (by omega) (by omega)
  unfold ldNum ldDen
  omega
/-- A load only adds. -/
theorem sag_load {rows : List (List Int)} {w p place ld : Int} (hk : ldOk rows w p place ld = true) : sagN rows w p place * ldD rows w p place ld ≤ ldN rows w p place ld * sagD rows w p place := by
  have hb := ld_bd hk
  simp only [ldOk, Bool.and_eq_true, decide_eq_true_eq] at hk
  obtain ⟨⟨hl, h0, h1⟩, hr⟩ := sagOk_iff.1 hk.1
  have L := lineOk_line hl
  obtain ⟨a, b⟩ := ropeOk_iff.1 hr
  refine (red_le_iff (by omega) (by omega)).2 ?_
  unfold ldNum ldDen
  have c := bdV_bd L h0 h1
  generalize bdV rows place = x at *
  generalize lL rows place = l at *
  have e1 : w * x * (2 * l * p) = x * (w * l) * (2 * p) := by simp [Int.mul_assoc, Int.mul_comm, Int.mul_left_comm]
  rw [e1]
  refine Int.mul_le_mul_of_nonneg_right ?_ (by omega)
  exact Int.mul_le_mul_of_nonneg_left (by omega) c.1
/-- No load adds nothing. -/
theorem sag_none {rows : List (List Int)} {w p place : Int} (hk : sagOk rows w p place = true) : ldN rows w p place 0 = sagN rows w p place ∧ ldD rows w p place 0 = sagD rows w p place := by
  obtain ⟨⟨hl, h0, h1⟩, hr⟩ := sagOk_iff.1 hk
  have L := lineOk_line hl
  obtain ⟨_, _, d, _⟩ := lXY L h0 h1
  have e1 : ldNum rows w p place 0 = lL rows place * (w * bdV rows place) := by unfold ldNum; simp [Int.mul_assoc, Int.mul_comm, Int.mul_left_comm]
  have e2 : ldDen rows w p place = lL rows place * (2 * p) := by unfold ldDen; simp [Int.mul_assoc, Int.mul_comm, Int.mul_left_comm]
  unfold ldN ldD sagN sagD
  rw [e1, e2]
  exact ⟨redN_scale (by omega) _ _, redD_scale (by omega) _ _⟩
/-- A greater pull makes no greater sag. -/
theorem sag_pull {rows : List (List Int)} {w p place : Int} (hk : sagOk rows w p place = true) : sagN rows w (p + 1) place * sagD rows w p place ≤ sagN rows w p place * sagD rows w (p + 1) place := by
  obtain ⟨⟨hl, h0, h1⟩, hr⟩ := sagOk_iff.1 hk
  have L := lineOk_line hl
  have c := wb L hr h0 h1
  obtain ⟨a, b⟩ := ropeOk_iff.1 hr
  refine (red_le_iff (by omega) (by omega)).2 ?_
  exact Int.mul_le_mul_of_nonneg_left (by omega) c.1
/-- No sag is greater than the greatest. -/
theorem sag_most {rows : List (List Int)} {w p place : Int} (hk : sagOk rows w p place = true) : sagN rows w p place * grD rows w p ≤ grN rows w p * sagD rows w p place := by
  obtain ⟨⟨hl, h0, h1⟩, hr⟩ := sagOk_iff.1 hk
  have L := lineOk_line hl
  obtain ⟨a, b⟩ := ropeOk_iff.1 hr
  obtain ⟨_, _, _, _, f⟩ := gs_facts L
  have := f place h0 h1
  refine (red_le_iff (by omega) (by omega)).2 ?_
  refine Int.mul_le_mul_of_nonneg_right ?_ (by omega)
  exact Int.mul_le_mul_of_nonneg_left this (by omega)
theorem sag_at {rows : List (List Int)} (hl : lineOk rows = true) (w p : Int) : onOk rows (gsAt rows) = true ∧ sagN rows w p (gsAt rows) = grN rows w p ∧ sagD rows w p (gsAt rows) = grD rows w p := by
  obtain ⟨a, b, c, _⟩ := gs_facts (lineOk_line hl)
  exact ⟨onOk_iff.2 ⟨hl, a, b⟩, by unfold sagN grN; rw [c], by unfold sagD grD; rw [c]⟩
theorem sag_bd {rows : List (List Int)} {w p place : Int} (hk : sagOk rows w p place = true) : (0 ≤ sagN rows w p place ∧ sagN rows w p place ≤ 1800000000) ∧ (0 < sagD rows w p place ∧ sagD rows w p place ≤ 200000) := by
  obtain ⟨⟨hl, h0, h1⟩, hr⟩ := sagOk_iff.1 hk
  have L := lineOk_line hl
  have c := wb L hr h0 h1
  obtain ⟨a, b⟩ := ropeOk_iff.1 hr
  have d := redN_abs (a := w * bdV rows place) (b := 2 * p) (M := 1800000000) (by omega) (by omega) c.2
  have e := redN_nonneg (a := w * bdV rows place) (b := 2 * p) (by omega) c.1
  have f := redD_pos (a := w * bdV rows place) (b := 2 * p) (by omega)
  have g := redD_le (a := w * bdV rows place) (b := 2 * p) (by omega)
  exact ⟨⟨e, d.2⟩, f, by unfold sagD; omega⟩
theorem ldr_bd {rows : List (List Int)} {w p place ld : Int} (hk : ldOk rows w p place ld = true) : (0 ≤ ldN rows w p place ld ∧ ldN rows w p place ld ≤ 5760000000000) ∧ (0 < ldD rows w p place ld ∧ ldD rows w p place ld ≤ 600000000) := by
  obtain ⟨a, b⟩ := ld_bd hk
  have d := redN_abs (M := 5760000000000) b.1 (by omega) a.2
  have e := redN_nonneg b.1 a.1
  have f := redD_pos (a := ldNum rows w p place ld) b.1
  have g := redD_le (a := ldNum rows w p place ld) b.1
  exact ⟨⟨e, d.2⟩, f, by unfold ldD; omega⟩
theorem pfOk_iff {rows : List (List Int)} {w place s : Int} : pfOk rows w place s = true ↔ onOk rows place = true ∧ (1 ≤ w ∧ w ≤ 200) ∧ (0 ≤ s ∧ s ≤ 100) ∧ (bdV rows place = 0 ∨ (s ≠ 0 ∧ (w * bdV rows place + 2 * s - 1) / (2 * s) ≤ 100000)) := by
  simp [pfOk]
/-- The pull that is told is enough, and one less is not. -/
theorem pf_facts {rows : List (List Int)} {w place s : Int} (h : pfOk rows w place s = true) :
    sagOk rows w (pfV rows w place s) place = true ∧ sagN rows w (pfV rows w place s) place ≤ s * sagD rows w (pfV rows w place s) place ∧
    (sagOk rows w (pfV rows w place s - 1) place = true → s * sagD rows w (pfV rows w place s - 1) place < sagN rows w (pfV rows w place s - 1) place) ∧ (1 ≤ pfV rows w place s ∧ pfV rows w place s ≤ 100000) := by
  obtain ⟨ho, hw, hs, hx⟩ := pfOk_iff.1 h
  obtain ⟨hl, h0, h1⟩ := onOk_iff.1 ho
  have L := lineOk_line hl
  have hb := bdV_bd L h0 h1
  unfold pfV
  rw [if_pos h]
  have key : ∀ p : Int, 0 < p → (sagN rows w p place ≤ s * sagD rows w p place ↔ w * bdV rows place ≤ s * (2 * p)) := fun p hp => red_le_num (by omega)
  by_cases hz : bdV rows place = 0
  · rw [if_pos hz]
    have ok1 : ropeOk w 1 = true := ropeOk_iff.2 ⟨hw, by omega⟩
    refine ⟨sagOk_iff.2 ⟨onOk_iff.1 ho, ok1⟩, (key 1 (by omega)).2 (by rw [hz]; simp; omega), fun hk => ?_, by omega, by omega⟩
    have := (ropeOk_iff.1 (sagOk_iff.1 hk).2).2.1
    omega
  · rw [if_neg hz]
    obtain ⟨hs0, hq⟩ := hx.resolve_left hz
    have hm : 0 < w * bdV rows place := Int.mul_pos (by omega) (by omega)
    generalize hn : w * bdV rows place = m at *
    have hd : 0 < 2 * s := by omega
    generalize hqq : (m + 2 * s - 1) / (2 * s) = q at *
    have hmod := Int.mul_ediv_add_emod (m + 2 * s - 1) (2 * s)
    have hr0 := Int.emod_nonneg (m + 2 * s - 1) (b := 2 * s) (by omega)
    have hr1 := Int.emod_lt_of_pos (m + 2 * s - 1) hd
    rw [hqq] at hmod
    have hq1 : 1 ≤ q := by
      rcases Int.lt_or_le 0 q with hlt | hge
      · omega
      · have : 2 * s * q ≤ 0 := Int.mul_nonpos_of_nonneg_of_nonpos (by omega) hge
        omega
    have e1 : s * (2 * q) = 2 * s * q := by simp [Int.mul_assoc, Int.mul_comm, Int.mul_left_comm]
    refine ⟨sagOk_iff.2 ⟨onOk_iff.1 ho, ropeOk_iff.2 ⟨hw, by omega⟩⟩, (key q (by omega)).2 (by rw [e1]; omega), fun hk => ?_, hq1, hq⟩
    have hq2 := (ropeOk_iff.1 (sagOk_iff.1 hk).2).2.1
    rcases Int.lt_or_le (s * sagD rows w (q - 1) place) (sagN rows w (q - 1) place) with hlt | hge
    · exact hlt
    · have h2 := (key (q - 1) (by omega)).1 hge
      have e2 : s * (2 * (q - 1)) = 2 * s * q - 2 * s := by rw [Int.mul_sub, Int.mul_sub, e1]; omega
      rw [e2] at h2
      omega
end Go.Proofs.Ytjfmicemnoglkaa
