/- The wind laws: the law's functions return true. -/
import Derived.Test.YtphhklfpgmhfkaaWind
import Derived.Deep.RegionHeld3
import Derived.Deep.DeepCutAuto
import Derived.Deep.RegionWith
namespace Go.Proofs.Ytphhklfpgmhfkaa
open Go.RowKit
set_option linter.unusedVariables false
set_option linter.unusedSimpArgs false

theorem cell_alloc_lt (w : World) (o : Obj) (b off : Nat) (h : b < w.heap.size) : (w.alloc o).cell? ⟨b, off, none⟩ = w.cell? ⟨b, off, none⟩ := ((Below.refl w.heap.size w).alloc (Nat.le_refl _) o).cell (p := ⟨b, off, none⟩) h
theorem two_set {w : World} {g : Nat} {u0 u1 x y : Value} (h0 : w.cell? ⟨g, 0, none⟩ = some u0) (h1 : w.cell? ⟨g, 1, none⟩ = some u1) :
    ((w.setCell ⟨g, 0, none⟩ x).setCell ⟨g, 1, none⟩ y).cell? ⟨g, 0, none⟩ = some x ∧ ((w.setCell ⟨g, 0, none⟩ x).setCell ⟨g, 1, none⟩ y).cell? ⟨g, 1, none⟩ = some y := by
  have e : (⟨g, 1, none⟩ : Addr) ≠ ⟨g, 0, none⟩ := by simp
  refine ⟨?_, ?_⟩
  · rw [World.cell?_setCell_other _ _ _ _ e]
    exact World.cell?_setCell_same _ _ _ h0
  · refine World.cell?_setCell_same _ _ _ (u := u1) ?_
    rw [World.cell?_setCell_other _ _ _ _ e.symm]
    exact h1
abbrev ruleV (a b c d : Int) : Value := .agg #[.int .i64 a, .int .i64 b, .int .i64 c, .int .i64 d]
theorem toWindRule_any (a b c d : Int) (w : World) : Calls Try.prog 8 #[.agg #[.int .i64 a, .int .i64 b, .int .i64 c, .int .i64 d]] w (Ret w (.agg #[.int .i64 a, .int .i64 b, .int .i64 c, .int .i64 d])) := by
  go_enter Try.func8, Try.ntmps8
  go_wp2
  all_goals (go_light; refine bodyPost_ret ?_ rfl ⟨rfl, (by repeat (first | exact Below.refl _ _ | assumption | apply Below.drew | apply below_drewN | (refine Below.alloc ?_ (by first | omega | (simp; done) | (simp; omega)) _) | (refine Below.setCell ?_ (by first | omega | (simp; done) | (simp; omega)) _)))⟩; simp [results, Try.results8, go_sem, *])
theorem toWindState_any (l k : Int) (w : World) : Calls Try.prog 13 #[.agg #[.int .i64 l, .int .i64 k]] w (Ret w (.agg #[.int .i64 l, .int .i64 k])) := by
  go_enter Try.func13, Try.ntmps13
  go_wp2
  all_goals (go_light; refine bodyPost_ret ?_ rfl ⟨rfl, (by repeat (first | exact Below.refl _ _ | assumption | apply Below.drew | apply below_drewN | (refine Below.alloc ?_ (by first | omega | (simp; done) | (simp; omega)) _) | (refine Below.setCell ?_ (by first | omega | (simp; done) | (simp; omega)) _)))⟩; simp [results, Try.results13, go_sem, *])
theorem eqWindState_any (l k l' k' : Int) (w : World) : Calls Try.prog 17 #[.agg #[.int .i64 l, .int .i64 k], .agg #[.int .i64 l', .int .i64 k']] w (Ret w (.bool (decide (l = l' ∧ k = k')))) := by
  go_enter Try.func17, Try.ntmps17
  go_wp2
  all_goals (go_ret; exact ⟨ret_bool (by (rw [Bool.eq_iff_iff]; simp [*] at *; omega)), (by repeat (first | exact Below.refl _ _ | assumption | apply Below.drew | apply below_drewN | (refine Below.alloc ?_ (by first | omega | (simp; done) | (simp; omega)) _) | (refine Below.setCell ?_ (by first | omega | (simp; done) | (simp; omega)) _)))⟩)
theorem spec_IsWindRule (a b c d : Int) (w : World) : Calls Try.prog 7 #[.agg #[.int .i64 a, .int .i64 b, .int .i64 c, .int .i64 d]] w (Ret w (.bool (rule a b c d))) := by
  go_enter Try.func7, Try.ntmps7
  go_wp2_with (first | (go_at_call 18; refine (spec_l12Rule _ _ _ _ _).mono ?_; rintro e w' ⟨rfl, hb⟩; have hB : Below w.heap.size w w' := Below.thenn (by repeat (first | exact Below.refl _ _ | assumption | apply Below.drew | apply below_drewN | (refine Below.alloc ?_ (by first | omega | (simp; done) | (simp; omega)) _) | (refine Below.setCell ?_ (by first | omega | (simp; done) | (simp; omega)) _))) hb (by first | omega | (simp; done) | (simp; omega)); have hz : w.heap.size ≤ w'.heap.size := hB.size; obtain ⟨hc, hf⟩ := bcell hb; clear hb))
  all_goals (go_ret; exact ⟨rfl, (by repeat (first | exact Below.refl _ _ | assumption | apply Below.drew | apply below_drewN | (refine Below.alloc ?_ (by first | omega | (simp; done) | (simp; omega)) _) | (refine Below.setCell ?_ (by first | omega | (simp; done) | (simp; omega)) _)))⟩)
theorem law_FnExactIsWindRule (a b c d : Int) (w : World) : Calls Try.prog 3 #[.agg #[.int .i64 a, .int .i64 b, .int .i64 c, .int .i64 d]] w (Ret w (.bool true)) := by
  go_enter Try.func3, Try.ntmps3
  go_wp2_with (first | (go_at_call 8; refine (toWindRule_any _ _ _ _ _).mono ?_; rintro e w' ⟨rfl, hb⟩; have hB : Below w.heap.size w w' := Below.thenn (by repeat (first | exact Below.refl _ _ | assumption | apply Below.drew | apply below_drewN | (refine Below.alloc ?_ (by first | omega | (simp; done) | (simp; omega)) _) | (refine Below.setCell ?_ (by first | omega | (simp; done) | (simp; omega)) _))) hb (by first | omega | (simp; done) | (simp; omega)); have hz : w.heap.size < w'.heap.size := (by have h := hb.size; (try simp at h); omega); obtain ⟨hc, hf⟩ := bcell hb; clear hb) | (go_at_call 7; refine (spec_IsWindRule _ _ _ _ _).mono ?_; rintro e w' ⟨rfl, hb⟩; have hB : Below w.heap.size w w' := Below.thenn (by repeat (first | exact Below.refl _ _ | assumption | apply Below.drew | apply below_drewN | (refine Below.alloc ?_ (by first | omega | (simp; done) | (simp; omega)) _) | (refine Below.setCell ?_ (by first | omega | (simp; done) | (simp; omega)) _))) hb (by first | omega | (simp; done) | (simp; omega)); have hz : w.heap.size < w'.heap.size := (by have h := hb.size; (try simp at h); omega); obtain ⟨hc, hf⟩ := bcell hb; clear hb) | (go_at_call 9; refine (impl_IsWindRule _ _ _ _ _).mono ?_; rintro e w' ⟨rfl, hb⟩; have hB : Below w.heap.size w w' := Below.thenn (by repeat (first | exact Below.refl _ _ | assumption | apply Below.drew | apply below_drewN | (refine Below.alloc ?_ (by first | omega | (simp; done) | (simp; omega)) _) | (refine Below.setCell ?_ (by first | omega | (simp; done) | (simp; omega)) _))) hb (by first | omega | (simp; done) | (simp; omega)); have hz : w.heap.size < w'.heap.size := (by have h := hb.size; (try simp at h); omega); obtain ⟨hc, hf⟩ := bcell hb; clear hb))
  all_goals (go_ret; exact ⟨rfl, (by repeat (first | exact Below.refl _ _ | assumption | apply Below.drew | apply below_drewN | (refine Below.alloc ?_ (by first | omega | (simp; done) | (simp; omega)) _) | (refine Below.setCell ?_ (by first | omega | (simp; done) | (simp; omega)) _)))⟩)
theorem impl_GreatestFree (a b c d : Int) (w : World) : Calls Try.prog 11 #[.agg #[.int .i64 a, .int .i64 b, .int .i64 c, .int .i64 d]] w
    (Ret w (.tuple #[.int .i64 (if rule a b c d then a - 1 else 0), .bool (rule a b c d)])) := by
  go_enter Try.func11, Try.ntmps11
  go_wp2_with (first | (go_at_call 9; refine (impl_IsWindRule _ _ _ _ _).mono ?_; rintro e w' ⟨rfl, hb⟩; have hB : Below w.heap.size w w' := Below.thenn (by repeat (first | exact Below.refl _ _ | assumption | apply Below.drew | apply below_drewN | (refine Below.alloc ?_ (by first | omega | (simp; done) | (simp; omega)) _) | (refine Below.setCell ?_ (by first | omega | (simp; done) | (simp; omega)) _))) hb (by first | omega | (simp; done) | (simp; omega)); have hz : w.heap.size < w'.heap.size := (by have h := hb.size; (try simp at h); omega); obtain ⟨hc, hf⟩ := bcell hb; clear hb))
  all_goals (go_ret2; exact ⟨ret_ib (by (first | rfl | (simp_all [rule, wrap64]; done) | (simp [rule, wrap64] at *; omega) | (simp_all [rule, wrap64]; omega))) (by (first | rfl | (simp_all [rule, wrap64]; done) | (simp [rule, wrap64] at *; omega) | (simp_all [rule, wrap64]; omega))), (by repeat (first | exact Below.refl _ _ | assumption | apply Below.drew | apply below_drewN | (refine Below.alloc ?_ (by first | omega | (simp; done) | (simp; omega)) _) | (refine Below.setCell ?_ (by first | omega | (simp; done) | (simp; omega)) _)))⟩)
theorem spec_GreatestFree (a b c d : Int) (w : World) : Calls Try.prog 10 #[.agg #[.int .i64 a, .int .i64 b, .int .i64 c, .int .i64 d]] w
    (Ret w (.tuple #[.int .i64 (if rule a b c d then a - 1 else 0), .bool (rule a b c d)])) := by
  go_enter Try.func10, Try.ntmps10
  go_wp2_with (first | (go_at_call 18; refine (spec_l12Rule _ _ _ _ _).mono ?_; rintro e w' ⟨rfl, hb⟩; have hB : Below w.heap.size w w' := Below.thenn (by repeat (first | exact Below.refl _ _ | assumption | apply Below.drew | apply below_drewN | (refine Below.alloc ?_ (by first | omega | (simp; done) | (simp; omega)) _) | (refine Below.setCell ?_ (by first | omega | (simp; done) | (simp; omega)) _))) hb (by first | omega | (simp; done) | (simp; omega)); have hz : w.heap.size < w'.heap.size := (by have h := hb.size; (try simp at h); omega); obtain ⟨hc, hf⟩ := bcell hb; clear hb))
  all_goals (go_ret2; exact ⟨ret_ib (by (first | rfl | (simp_all [rule, wrap64]; done) | (simp [rule, wrap64] at *; omega) | (simp_all [rule, wrap64]; omega))) (by (first | rfl | (simp_all [rule, wrap64]; done) | (simp [rule, wrap64] at *; omega) | (simp_all [rule, wrap64]; omega))), (by repeat (first | exact Below.refl _ _ | assumption | apply Below.drew | apply below_drewN | (refine Below.alloc ?_ (by first | omega | (simp; done) | (simp; omega)) _) | (refine Below.setCell ?_ (by first | omega | (simp; done) | (simp; omega)) _)))⟩)
theorem law_FnExactGreatestFree (a b c d : Int) (w : World) : Calls Try.prog 4 #[.agg #[.int .i64 a, .int .i64 b, .int .i64 c, .int .i64 d]] w (Ret w (.bool true)) := by
  obtain ⟨x, hx⟩ : ∃ x, (if rule a b c d then a - 1 else 0) = x := ⟨_, rfl⟩
  have ci := fun w => impl_GreatestFree a b c d w
  have cs := fun w => spec_GreatestFree a b c d w
  rw [hx] at ci cs
  have CI := Lib.hid ci
  have CS := Lib.hid cs
  clear hx ci cs
  go_enter Try.func4, Try.ntmps4
  go_wp2_with (first | (go_at_call 8; refine (toWindRule_any _ _ _ _ _).mono ?_; rintro e w' ⟨rfl, hb⟩; have hB : Below w.heap.size w w' := Below.thenn (by repeat (first | exact Below.refl _ _ | assumption | apply Below.drew | apply below_drewN | (refine Below.alloc ?_ (by first | omega | (simp; done) | (simp; omega)) _) | (refine Below.setCell ?_ (by first | omega | (simp; done) | (simp; omega)) _))) hb (by first | omega | (simp; done) | (simp; omega)); have hz : w.heap.size < w'.heap.size := (by have h := hb.size; (try simp at h); omega); obtain ⟨hc, hf⟩ := bcell hb; clear hb) | (go_at_call 10; refine (CS.out _).mono ?_; rintro e w' ⟨rfl, hb⟩; have hB : Below w.heap.size w w' := Below.thenn (by repeat (first | exact Below.refl _ _ | assumption | apply Below.drew | apply below_drewN | (refine Below.alloc ?_ (by first | omega | (simp; done) | (simp; omega)) _) | (refine Below.setCell ?_ (by first | omega | (simp; done) | (simp; omega)) _))) hb (by first | omega | (simp; done) | (simp; omega)); have hz : w.heap.size < w'.heap.size := (by have h := hb.size; (try simp at h); omega); obtain ⟨hc, hf⟩ := bcell hb; clear hb) | (go_at_call 11; refine (CI.out _).mono ?_; rintro e w' ⟨rfl, hb⟩; have hB : Below w.heap.size w w' := Below.thenn (by repeat (first | exact Below.refl _ _ | assumption | apply Below.drew | apply below_drewN | (refine Below.alloc ?_ (by first | omega | (simp; done) | (simp; omega)) _) | (refine Below.setCell ?_ (by first | omega | (simp; done) | (simp; omega)) _))) hb (by first | omega | (simp; done) | (simp; omega)); have hz : w.heap.size < w'.heap.size := (by have h := hb.size; (try simp at h); omega); obtain ⟨hc, hf⟩ := bcell hb; clear hb))
  all_goals (go_ret; exact ⟨rfl, (by repeat (first | exact Below.refl _ _ | assumption | apply Below.drew | apply below_drewN | (refine Below.alloc ?_ (by first | omega | (simp; done) | (simp; omega)) _) | (refine Below.setCell ?_ (by first | omega | (simp; done) | (simp; omega)) _)))⟩)

theorem stateOk_iff {a b c d l k : Int} : stateOk a b c d l k = true ↔ (2 ≤ a ∧ a < b ∧ b ≤ 60 ∧ 1 ≤ c ∧ c ≤ a - 1 ∧ 1 ≤ d ∧ d ≤ 10) ∧ 0 ≤ l ∧ l ≤ 2 ∧ 0 ≤ k ∧ k ≤ d - 1 ∧ (0 < l ∨ k = 0) := by
  simp [stateOk, rule]
theorem next_down {a b c d l k : Int} (h : stateOk a b c d l k = true) (hl : 0 < l) :
    stateOk a b c d (nxtL a b c d l k 0) (nxtK a b c d l k 0) = true ∧ nxtL a b c d l k 0 * d - nxtK a b c d l k 0 = l * d - k - 1 := by
  rw [stateOk_iff] at h ⊢
  have hc : l = 1 ∨ l = 2 := by omega
  unfold nxtL nxtK
  rcases hc with rfl | rfl
  · simp only [show ¬ b ≤ 0 by omega, if_false, show ¬ (1 : Int) = 0 by omega, show ¬ (1 : Int) = 2 by omega, show ¬ a - c ≤ 0 by omega]
    split
    · refine ⟨by omega, by omega⟩
    · refine ⟨by omega, by omega⟩
  · simp only [show ¬ b ≤ 0 by omega, if_false, show ¬ (2 : Int) = 0 by omega, show ¬ b - c ≤ 0 by omega, if_true]
    split
    · refine ⟨by omega, by omega⟩
    · refine ⟨by omega, by omega⟩
theorem rem_bd {a b c d l k : Int} (h : stateOk a b c d l k = true) : 0 ≤ l * d - k ∧ l * d - k ≤ 20 ∧ (0 < l → 1 ≤ l * d - k) ∧ (l = 0 → l * d - k = 0) := by
  rw [stateOk_iff] at h
  have hc : l = 0 ∨ l = 1 ∨ l = 2 := by omega
  rcases hc with rfl | rfl | rfl <;> refine ⟨by omega, by omega, by omega, by omega⟩
def freeIn (a b c d l k : Int) : Int := if stateOk a b c d l k then l * d - k else 0

theorem impl_EarliestFree (a b c d l k : Int) (w : World) : Calls Try.prog 14 #[.agg #[.int .i64 a, .int .i64 b, .int .i64 c, .int .i64 d], .agg #[.int .i64 l, .int .i64 k]] w
    (Ret w (.tuple #[.int .i64 (freeIn a b c d l k), .bool (stateOk a b c d l k)])) := by
  rcases h : stateOk a b c d l k with _ | _
  · rw [show freeIn a b c d l k = 0 by simp [freeIn, h]]
    go_enter Try.func14, Try.ntmps14
    go_wp2_with (go_at_call 22; refine (impl_windOk _ _ _ _ _ _ _).mono ?_; rintro e w' ⟨rfl, hb⟩; have hB : Below w.heap.size w w' := Below.thenn (by repeat (first | exact Below.refl _ _ | assumption | apply Below.drew | apply below_drewN | (refine Below.alloc ?_ (by first | omega | (simp; done) | (simp; omega)) _) | (refine Below.setCell ?_ (by first | omega | (simp; done) | (simp; omega)) _))) hb (by first | omega | (simp; done) | (simp; omega)); have hz : w.heap.size < w'.heap.size := (by have h := hb.size; (try simp at h); omega); have hz1 : w.heap.size + 1 < w'.heap.size := (by have h := hb.size; (try simp at h); omega); obtain ⟨hc, hf⟩ := bcell hb; clear hb)
    go_ret2
    exact ⟨rfl, (by repeat (first | exact Below.refl _ _ | assumption | apply Below.drew | apply below_drewN | (refine Below.alloc ?_ (by first | omega | (simp; done) | (simp; omega)) _) | (refine Below.setCell ?_ (by first | omega | (simp; done) | (simp; omega)) _)))⟩
  · rw [show freeIn a b c d l k = l * d - k by simp [freeIn, h]]
    have h' := stateOk_iff.1 h
    have hr := rem_bd h
    have hm : 0 ≤ l * d ∧ l * d ≤ 20 := by
      have hc : l = 0 ∨ l = 1 ∨ l = 2 := by omega
      rcases hc with rfl | rfl | rfl <;> omega
    obtain ⟨m, hmm⟩ : ∃ m, m = l * d := ⟨_, rfl⟩
    have hm1 := hm.1
    have hm2 := hm.2
    clear hm hr hmm
    go_enter Try.func14, Try.ntmps14
    go_wp2_with (go_at_call 22; refine (impl_windOk _ _ _ _ _ _ _).mono ?_; rintro e w' ⟨rfl, hb⟩; have hB : Below w.heap.size w w' := Below.thenn (by repeat (first | exact Below.refl _ _ | assumption | apply Below.drew | apply below_drewN | (refine Below.alloc ?_ (by first | omega | (simp; done) | (simp; omega)) _) | (refine Below.setCell ?_ (by first | omega | (simp; done) | (simp; omega)) _))) hb (by first | omega | (simp; done) | (simp; omega)); have hz : w.heap.size < w'.heap.size := (by have h := hb.size; (try simp at h); omega); have hz1 : w.heap.size + 1 < w'.heap.size := (by have h := hb.size; (try simp at h); omega); obtain ⟨hc, hf⟩ := bcell hb; clear hb)
    go_ret2
    exact ⟨rfl, (by repeat (first | exact Below.refl _ _ | assumption | apply Below.drew | apply below_drewN | (refine Below.alloc ?_ (by first | omega | (simp; done) | (simp; omega)) _) | (refine Below.setCell ?_ (by first | omega | (simp; done) | (simp; omega)) _)))⟩

set_option maxHeartbeats 2000000 in
theorem spec_EarliestFree (a b c d l k : Int) (w : World) : Calls Try.prog 12 #[.agg #[.int .i64 a, .int .i64 b, .int .i64 c, .int .i64 d], .agg #[.int .i64 l, .int .i64 k]] w
    (Ret w (.tuple #[.int .i64 (freeIn a b c d l k), .bool (stateOk a b c d l k)])) := by
  rcases h : stateOk a b c d l k with _ | _
  · rw [show freeIn a b c d l k = 0 by simp [freeIn, h]]
    go_enter Try.func12, Try.ntmps12
    go_wp2_with (go_at_call 20; refine (spec_l12State _ _ _ _ _ _ _).mono ?_; rintro e w' ⟨rfl, hb⟩; have hB : Below w.heap.size w w' := Below.thenn (by repeat (first | exact Below.refl _ _ | assumption | apply Below.drew | apply below_drewN | (refine Below.alloc ?_ (by first | omega | (simp; done) | (simp; omega)) _) | (refine Below.setCell ?_ (by first | omega | (simp; done) | (simp; omega)) _))) hb (by first | omega | (simp; done) | (simp; omega)); have hz : w.heap.size < w'.heap.size := (by have h := hb.size; (try simp at h); omega); have hz1 : w.heap.size + 1 < w'.heap.size := (by have h := hb.size; (try simp at h); omega); obtain ⟨hc, hf⟩ := bcell hb; clear hb)
    go_ret2
    exact ⟨rfl, (by repeat (first | exact Below.refl _ _ | assumption | apply Below.drew | apply below_drewN | (refine Below.alloc ?_ (by first | omega | (simp; done) | (simp; omega)) _) | (refine Below.setCell ?_ (by first | omega | (simp; done) | (simp; omega)) _)))⟩
  · have hr := rem_bd h
    obtain ⟨F, hF⟩ : ∃ F, F = l * d - k := ⟨_, rfl⟩
    rw [show freeIn a b c d l k = F by rw [hF]; simp [freeIn, h]]
    have hF0 : 0 ≤ F := by omega
    have hF1 : F ≤ 20 := by omega
    have HF := Lib.hid hF
    have HS := Lib.hid h
    clear hF hr
    go_enter Try.func12, Try.ntmps12
    go_wp2_with fail
    go_at_call 20
    refine (spec_l12State _ _ _ _ _ _ _).mono ?_
    rintro e w1 ⟨rfl, hb⟩
    have hk0 : Blk w1 w.heap.size 25 #[.int .i64 a, .int .i64 b, .int .i64 c, .int .i64 d] := ((Blk.new w _ _).alloc _).below hb (by simp; omega)
    have hk1 : Blk w1 (w.heap.size + 1) 33 #[.int .i64 l, .int .i64 k] := by
      have h0 := (Blk.new (w.alloc (.cells #[.int .i64 a, .int .i64 b, .int .i64 c, .int .i64 d] 25)) 33 #[.int .i64 l, .int .i64 k]).below hb (by simp)
      simpa using h0
    have hB : Below w.heap.size w w1 := Below.thenn (by repeat (first | exact Below.refl _ _ | assumption | apply Below.drew | apply below_drewN | (refine Below.alloc ?_ (by first | omega | (simp; done) | (simp; omega)) _) | (refine Below.setCell ?_ (by first | omega | (simp; done) | (simp; omega)) _))) hb (by first | omega | (simp; done) | (simp; omega))
    have hz : w.heap.size + 2 ≤ w1.heap.size := by have := hb.size; (try simp at this); omega
    rw [h]
    clear hb
    go_wp2_with fail
    go_loopg [6] F.toNat (fun g i wr => ∃ m l' k' : Int, 0 ≤ m ∧ m ≤ F ∧ (g : Int) = F - m ∧ i = .int .i64 m ∧ 0 ≤ l' ∧ (0 < l' → m < F) ∧ (l' ≤ 0 → m = F) ∧ Below w.heap.size w wr ∧ w.heap.size + 2 ≤ wr.heap.size ∧ Hid (stateOk a b c d l' k' = true ∧ l' * d - k' = F - m) ∧ Blk wr w.heap.size 25 #[.int .i64 a, .int .i64 b, .int .i64 c, .int .i64 d] ∧ Blk wr (w.heap.size + 1) 33 #[.int .i64 l', .int .i64 k'])
    case atStart =>
      have hs := HS.out
      have hr := rem_bd hs
      have he := HF.out
      have hh := stateOk_iff.1 hs
      exact ⟨0, l, k, by omega, by omega, by omega, rfl, by omega, by omega, by omega, hB, hz, ⟨hs, by omega⟩, hk0, hk1⟩
    case round =>
      obtain ⟨m, l', k', hm0, hm1, hg, rfl, hl0, hl1, hl2, hBr, hzr, HR, hr0, hr1⟩ := hrel
      have c0 := hr0.cell 0
      have c1 := hr0.cell 1
      have c2 := hr0.cell 2
      have c3 := hr0.cell 3
      have d0 := hr1.cell 0
      have d1 := hr1.cell 1
      have f1 := hr1.frozen 0
      have f2 := hr1.frozen 1
      simp at c0 c1 c2 c3 d0 d1
      by_cases hp : 0 < l'
      · go_wp2_with fail
        have hm2 := hl1 hp
        go_at_call 21
        refine (spec_l12Next a b c d l' k' 0 _ HR.out.1 (by simp [inr])).mono ?_
        rintro e w2 ⟨rfl, hb⟩
        have hb2 : Below wr.heap.size wr w2 := Below.thenn (by repeat (first | exact Below.refl _ _ | assumption | apply Below.drew | apply below_drewN | (refine Below.alloc ?_ (by first | omega | (simp; done) | (simp; omega)) _) | (refine Below.setCell ?_ (by first | omega | (simp; done) | (simp; omega)) _))) hb (by first | omega | (simp; done) | (simp; omega))
        have hB2 : Below w.heap.size w w2 := Below.thenn hBr hb2 (by omega)
        have hz2 : w.heap.size + 2 ≤ w2.heap.size := by have := hb2.size; omega
        have q0 := hr0.below hb2 hr0.lt
        have q1 := hr1.below hb2 hr1.lt
        have d0 := q1.cell 0
        have d1 := q1.cell 1
        have f1 := q1.frozen 0
        have f2 := q1.frozen 1
        simp at d0 d1
        obtain ⟨l2, hl2'⟩ : ∃ x, nxtL a b c d l' k' 0 = x := ⟨_, rfl⟩
        obtain ⟨k2, hk2'⟩ : ∃ x, nxtK a b c d l' k' 0 = x := ⟨_, rfl⟩
        rw [hl2', hk2']
        have HN : Hid (stateOk a b c d l2 k2 = true ∧ l2 * d - k2 = F - (m + 1)) := by
          have := next_down HR.out.1 hp
          rw [hl2', hk2'] at this
          have h3 := HR.out.2
          exact ⟨this.1, by omega⟩
        have hq := rem_bd HN.out.1
        have hh := stateOk_iff.1 HN.out.1
        have hq3 := hq.2.2.1
        have hq4 := hq.2.2.2
        have hq0 := HN.out.2
        rw [hq0] at hq3 hq4
        have hh0 : 0 ≤ l2 := by omega
        clear hq hh hl2' hk2' hb hb2 hq0
        go_wp2_with fail
        go_roundg ((F - (m + 1)).toNat)
        case measure => omega
        case rel =>
          refine ⟨m + 1, l2, k2, by omega, by omega, by omega, by go_num, by omega, by omega, by omega, ?_, ?_, HN, ?_, ?_⟩
          · exact (by repeat (first | exact Below.refl _ _ | assumption | apply Below.drew | apply below_drewN | (refine Below.alloc ?_ (by first | omega | (simp; done) | (simp; omega)) _) | (refine Below.setCell ?_ (by first | omega | (simp; done) | (simp; omega)) _)))
          · simp; omega
          · exact (q0.far (by simp) _).far (by simp) _
          · have := (q1.set_ 0 (.int .i64 l2)).set_ 1 (.int .i64 k2)
            simpa using this
      · have hF2 := hl2 (by omega)
        go_wp2_with fail
        go_ret2
        exact ⟨rfl, hBr⟩

set_option maxHeartbeats 4000000 in
theorem law_FnExactEarliestFree (a b c d l k : Int) (w : World) : Calls Try.prog 5 #[.agg #[.int .i64 a, .int .i64 b, .int .i64 c, .int .i64 d], .agg #[.int .i64 l, .int .i64 k]] w (Ret w (.bool true)) := by
  obtain ⟨x, hx⟩ : ∃ x, freeIn a b c d l k = x := ⟨_, rfl⟩
  have ci := fun w => impl_EarliestFree a b c d l k w
  have cs := fun w => spec_EarliestFree a b c d l k w
  rw [hx] at ci cs
  have CI := Lib.hid ci
  have CS := Lib.hid cs
  clear hx ci cs
  go_enter Try.func5, Try.ntmps5
  go_wp2_with fail
  have e0 : w.heap.size ≠ w.heap.size + 1 := by omega
  go_region_held3 (fun w' => w'.cell? ⟨w.heap.size, 0, none⟩ = some (.int .i64 a) ∧ w'.cell? ⟨w.heap.size, 1, none⟩ = some (.int .i64 b) ∧ w'.cell? ⟨w.heap.size, 2, none⟩ = some (.int .i64 c) ∧ w'.cell? ⟨w.heap.size, 3, none⟩ = some (.int .i64 d) ∧ w'.cell? ⟨w.heap.size + 1, 0, none⟩ = some (.int .i64 l) ∧ w'.cell? ⟨w.heap.size + 1, 1, none⟩ = some (.int .i64 k) ∧ Below w.heap.size w w' ∧ w.heap.size + 2 ≤ w'.heap.size) (((try dsimp only); (repeat' apply And.intro) <;> first | assumption | (refine (hc _ _ ?_).trans ?_ <;> first | assumption | omega | (simp; done) | (simp; omega) | (simp [*]; done) | (simp [World.cell?_alloc_some, *]; done)) | (simp [*, World.cell?_alloc_some, World.cell?_setCell_far]; done) | (simp; omega) | (exact (by repeat (first | exact Below.refl _ _ | assumption | apply Below.drew | apply below_drewN | (refine Below.alloc ?_ (by first | omega | (simp; done) | (simp; omega)) _) | (refine Below.setCell ?_ (by first | omega | (simp; done) | (simp; omega)) _))))))
    (first | (go_at_call 8; refine (toWindRule_any _ _ _ _ _).mono ?_; rintro e w' ⟨rfl, hb⟩; have hB : Below w.heap.size w w' := Below.thenn (by repeat (first | exact Below.refl _ _ | assumption | apply Below.drew | apply below_drewN | (refine Below.alloc ?_ (by first | omega | (simp; done) | (simp; omega)) _) | (refine Below.setCell ?_ (by first | omega | (simp; done) | (simp; omega)) _))) hb (by first | omega | (simp; done) | (simp; omega)); have hz : w.heap.size + 2 ≤ w'.heap.size := (by have h := hb.size; (try simp at h); omega); obtain ⟨hc, hf⟩ := bcell hb; clear hb) | (go_at_call 13; refine (toWindState_any _ _ _).mono ?_; rintro e w' ⟨rfl, hb⟩; have hB : Below w.heap.size w w' := Below.thenn (by repeat (first | exact Below.refl _ _ | assumption | apply Below.drew | apply below_drewN | (refine Below.alloc ?_ (by first | omega | (simp; done) | (simp; omega)) _) | (refine Below.setCell ?_ (by first | omega | (simp; done) | (simp; omega)) _))) hb (by first | omega | (simp; done) | (simp; omega)); have hz : w.heap.size + 2 ≤ w'.heap.size := (by have h := hb.size; (try simp at h); omega); obtain ⟨hc, hf⟩ := bcell hb; clear hb) | (go_at_call 12; refine (CS.out _).mono ?_; rintro e w' ⟨rfl, hb⟩; have hB : Below w.heap.size w w' := Below.thenn (by repeat (first | exact Below.refl _ _ | assumption | apply Below.drew | apply below_drewN | (refine Below.alloc ?_ (by first | omega | (simp; done) | (simp; omega)) _) | (refine Below.setCell ?_ (by first | omega | (simp; done) | (simp; omega)) _))) hb (by first | omega | (simp; done) | (simp; omega)); have hz : w.heap.size + 2 ≤ w'.heap.size := (by have h := hb.size; (try simp at h); omega); obtain ⟨hc, hf⟩ := bcell hb; clear hb))
  go_wp2_with fail
  go_region_held3 (fun w' => w'.cell? ⟨w.heap.size, 0, none⟩ = some (.int .i64 a) ∧ w'.cell? ⟨w.heap.size, 1, none⟩ = some (.int .i64 b) ∧ w'.cell? ⟨w.heap.size, 2, none⟩ = some (.int .i64 c) ∧ w'.cell? ⟨w.heap.size, 3, none⟩ = some (.int .i64 d) ∧ w'.cell? ⟨w.heap.size + 1, 0, none⟩ = some (.int .i64 l) ∧ w'.cell? ⟨w.heap.size + 1, 1, none⟩ = some (.int .i64 k) ∧ Below w.heap.size w w' ∧ w.heap.size + 2 ≤ w'.heap.size) (((try dsimp only); (repeat' apply And.intro) <;> first | assumption | (refine (hc _ _ ?_).trans ?_ <;> first | assumption | omega | (simp; done) | (simp; omega) | (simp [*]; done) | (simp [World.cell?_alloc_some, *]; done)) | (simp [*, World.cell?_alloc_some, World.cell?_setCell_far]; done) | (simp; omega) | (exact (by repeat (first | exact Below.refl _ _ | assumption | apply Below.drew | apply below_drewN | (refine Below.alloc ?_ (by first | omega | (simp; done) | (simp; omega)) _) | (refine Below.setCell ?_ (by first | omega | (simp; done) | (simp; omega)) _))))))
    (first | (go_at_call 8; refine (toWindRule_any _ _ _ _ _).mono ?_; rintro e w' ⟨rfl, hb⟩; have hB : Below w.heap.size w w' := Below.thenn (by repeat (first | exact Below.refl _ _ | assumption | apply Below.drew | apply below_drewN | (refine Below.alloc ?_ (by first | omega | (simp; done) | (simp; omega)) _) | (refine Below.setCell ?_ (by first | omega | (simp; done) | (simp; omega)) _))) hb (by first | omega | (simp; done) | (simp; omega)); have hz : w.heap.size + 2 ≤ w'.heap.size := (by have h := hb.size; (try simp at h); omega); obtain ⟨hc, hf⟩ := bcell hb; clear hb) | (go_at_call 13; refine (toWindState_any _ _ _).mono ?_; rintro e w' ⟨rfl, hb⟩; have hB : Below w.heap.size w w' := Below.thenn (by repeat (first | exact Below.refl _ _ | assumption | apply Below.drew | apply below_drewN | (refine Below.alloc ?_ (by first | omega | (simp; done) | (simp; omega)) _) | (refine Below.setCell ?_ (by first | omega | (simp; done) | (simp; omega)) _))) hb (by first | omega | (simp; done) | (simp; omega)); have hz : w.heap.size + 2 ≤ w'.heap.size := (by have h := hb.size; (try simp at h); omega); obtain ⟨hc, hf⟩ := bcell hb; clear hb) | (go_at_call 14; refine (CI.out _).mono ?_; rintro e w' ⟨rfl, hb⟩; have hB : Below w.heap.size w w' := Below.thenn (by repeat (first | exact Below.refl _ _ | assumption | apply Below.drew | apply below_drewN | (refine Below.alloc ?_ (by first | omega | (simp; done) | (simp; omega)) _) | (refine Below.setCell ?_ (by first | omega | (simp; done) | (simp; omega)) _))) hb (by first | omega | (simp; done) | (simp; omega)); have hz : w.heap.size + 2 ≤ w'.heap.size := (by have h := hb.size; (try simp at h); omega); obtain ⟨hc, hf⟩ := bcell hb; clear hb))
  go_wp2_with fail
  all_goals (go_ret; exact ⟨rfl, (by repeat (first | exact Below.refl _ _ | assumption | apply Below.drew | apply below_drewN | (refine Below.alloc ?_ (by first | omega | (simp; done) | (simp; omega)) _) | (refine Below.setCell ?_ (by first | omega | (simp; done) | (simp; omega)) _)))⟩)

def nwOk (a b c d l k v : Int) : Bool := stateOk a b c d l k && inr v 0 60
def nwL (a b c d l k v : Int) : Int := if nwOk a b c d l k v then nxtL a b c d l k v else 0
def nwK (a b c d l k v : Int) : Int := if nwOk a b c d l k v then nxtK a b c d l k v else 0
theorem spec_l12Vote (v : Int) (w : World) : Calls Try.prog 23 #[.int .i64 v] w fun e w' => e = .returned (.bool (inr v 0 60)) ∧ w = w' := by
  go_enter Try.func23, Try.ntmps23
  go_wp2_with (go_at_call 25; refine (spec_l1In _ _ _ _).mono ?_; rintro e w' ⟨rfl, rfl⟩)
  go_ret
  exact ⟨rfl, rfl⟩
set_option maxHeartbeats 4000000 in
theorem spec_NextWind (a b c d l k v : Int) (w : World) : Calls Try.prog 15 #[.agg #[.int .i64 a, .int .i64 b, .int .i64 c, .int .i64 d], .agg #[.int .i64 l, .int .i64 k], .int .i64 v] w
    (Ret w (.tuple #[.agg #[.int .i64 (nwL a b c d l k v), .int .i64 (nwK a b c d l k v)], .bool (nwOk a b c d l k v)])) := by
  rcases hs : stateOk a b c d l k with _ | _
  · rw [show nwL a b c d l k v = 0 by simp [nwL, nwOk, hs], show nwK a b c d l k v = 0 by simp [nwK, nwOk, hs], show nwOk a b c d l k v = false by simp [nwOk, hs]]
    go_enter Try.func15, Try.ntmps15
    go_wp2_with (go_at_call 20; refine (spec_l12State _ _ _ _ _ _ _).mono ?_; rintro e w' ⟨rfl, hb⟩; have hB : Below w.heap.size w w' := Below.thenn (by repeat (first | exact Below.refl _ _ | assumption | apply Below.drew | apply below_drewN | (refine Below.alloc ?_ (by first | omega | (simp; done) | (simp; omega)) _) | (refine Below.setCell ?_ (by first | omega | (simp; done) | (simp; omega)) _))) hb (by first | omega | (simp; done) | (simp; omega)); have hz : w.heap.size + 2 < w'.heap.size := (by have h := hb.size; (try simp at h); omega); obtain ⟨hc, hf⟩ := bcell hb; clear hb)
    all_goals (go_light; refine bodyPost_ret ?_ rfl ⟨rfl, (by repeat (first | exact Below.refl _ _ | assumption | apply Below.drew | apply below_drewN | (refine Below.alloc ?_ (by first | omega | (simp; done) | (simp; omega)) _) | (refine Below.setCell ?_ (by first | omega | (simp; done) | (simp; omega)) _)))⟩; simp [results, Try.results15, go_sem, *])
  · rcases hv : inr v 0 60 with _ | _
    · rw [show nwL a b c d l k v = 0 by simp [nwL, nwOk, hs, hv], show nwK a b c d l k v = 0 by simp [nwK, nwOk, hs, hv], show nwOk a b c d l k v = false by simp [nwOk, hs, hv]]
      go_enter Try.func15, Try.ntmps15
      go_wp2_with (first | (go_at_call 20; refine (spec_l12State _ _ _ _ _ _ _).mono ?_; rintro e w' ⟨rfl, hb⟩; have hB : Below w.heap.size w w' := Below.thenn (by repeat (first | exact Below.refl _ _ | assumption | apply Below.drew | apply below_drewN | (refine Below.alloc ?_ (by first | omega | (simp; done) | (simp; omega)) _) | (refine Below.setCell ?_ (by first | omega | (simp; done) | (simp; omega)) _))) hb (by first | omega | (simp; done) | (simp; omega)); have hz : w.heap.size + 2 < w'.heap.size := (by have h := hb.size; (try simp at h); omega); obtain ⟨hc, hf⟩ := bcell hb; clear hb) | (go_at_call 23; refine (spec_l12Vote _ _).mono ?_; rintro e w' ⟨rfl, rfl⟩))
      all_goals (go_light; refine bodyPost_ret ?_ rfl ⟨rfl, (by repeat (first | exact Below.refl _ _ | assumption | apply Below.drew | apply below_drewN | (refine Below.alloc ?_ (by first | omega | (simp; done) | (simp; omega)) _) | (refine Below.setCell ?_ (by first | omega | (simp; done) | (simp; omega)) _)))⟩; simp [results, Try.results15, go_sem, *])
    · rw [show nwL a b c d l k v = nxtL a b c d l k v by simp [nwL, nwOk, hs, hv], show nwK a b c d l k v = nxtK a b c d l k v by simp [nwK, nwOk, hs, hv], show nwOk a b c d l k v = true by simp [nwOk, hs, hv]]
      have cn := fun w => spec_l12Next a b c d l k v w hs hv
      generalize nxtL a b c d l k v = x at cn ⊢
      generalize nxtK a b c d l k v = y at cn ⊢
      have CN := Lib.hid cn
      clear cn
      go_enter Try.func15, Try.ntmps15
      go_wp2_with (first | (go_at_call 20; refine (spec_l12State _ _ _ _ _ _ _).mono ?_; rintro e w' ⟨rfl, hb⟩; have hB : Below w.heap.size w w' := Below.thenn (by repeat (first | exact Below.refl _ _ | assumption | apply Below.drew | apply below_drewN | (refine Below.alloc ?_ (by first | omega | (simp; done) | (simp; omega)) _) | (refine Below.setCell ?_ (by first | omega | (simp; done) | (simp; omega)) _))) hb (by first | omega | (simp; done) | (simp; omega)); have hz : w.heap.size + 2 < w'.heap.size := (by have h := hb.size; (try simp at h); omega); obtain ⟨hc, hf⟩ := bcell hb; clear hb) | (go_at_call 23; refine (spec_l12Vote _ _).mono ?_; rintro e w' ⟨rfl, rfl⟩) | (go_at_call 21; refine (CN.out _).mono ?_; rintro e w' ⟨rfl, hb⟩; have hB : Below w.heap.size w w' := Below.thenn (by repeat (first | exact Below.refl _ _ | assumption | apply Below.drew | apply below_drewN | (refine Below.alloc ?_ (by first | omega | (simp; done) | (simp; omega)) _) | (refine Below.setCell ?_ (by first | omega | (simp; done) | (simp; omega)) _))) hb (by first | omega | (simp; done) | (simp; omega)); have hz : w.heap.size + 2 < w'.heap.size := (by have h := hb.size; (try simp at h); omega); obtain ⟨hc, hf⟩ := bcell hb; clear hb))
      all_goals (go_light; refine bodyPost_ret ?_ rfl ⟨rfl, (by repeat (first | exact Below.refl _ _ | assumption | apply Below.drew | apply below_drewN | (refine Below.alloc ?_ (by first | omega | (simp; done) | (simp; omega)) _) | (refine Below.setCell ?_ (by first | omega | (simp; done) | (simp; omega)) _)))⟩; simp [results, Try.results15, go_sem, *])
set_option maxHeartbeats 4000000 in
theorem impl_NextWind (a b c d l k v : Int) (w : World) : Calls Try.prog 16 #[.agg #[.int .i64 a, .int .i64 b, .int .i64 c, .int .i64 d], .agg #[.int .i64 l, .int .i64 k], .int .i64 v] w
    (Ret w (.tuple #[.agg #[.int .i64 (nwL a b c d l k v), .int .i64 (nwK a b c d l k v)], .bool (nwOk a b c d l k v)])) := by
  rcases hs : stateOk a b c d l k with _ | _
  · rw [show nwL a b c d l k v = 0 by simp [nwL, nwOk, hs], show nwK a b c d l k v = 0 by simp [nwK, nwOk, hs], show nwOk a b c d l k v = false by simp [nwOk, hs]]
    go_enter Try.func16, Try.ntmps16
    go_wp2_with (go_at_call 22; refine (impl_windOk _ _ _ _ _ _ _).mono ?_; rintro e w' ⟨rfl, hb⟩; have hB : Below w.heap.size w w' := Below.thenn (by repeat (first | exact Below.refl _ _ | assumption | apply Below.drew | apply below_drewN | (refine Below.alloc ?_ (by first | omega | (simp; done) | (simp; omega)) _) | (refine Below.setCell ?_ (by first | omega | (simp; done) | (simp; omega)) _))) hb (by first | omega | (simp; done) | (simp; omega)); have hz : w.heap.size + 2 < w'.heap.size := (by have h := hb.size; (try simp at h); omega); obtain ⟨hc, hf⟩ := bcell hb; clear hb)
    all_goals (go_light; refine bodyPost_ret ?_ rfl ⟨rfl, (by repeat (first | exact Below.refl _ _ | assumption | apply Below.drew | apply below_drewN | (refine Below.alloc ?_ (by first | omega | (simp; done) | (simp; omega)) _) | (refine Below.setCell ?_ (by first | omega | (simp; done) | (simp; omega)) _)))⟩; simp [results, Try.results16, go_sem, *])
  · rcases hv : inr v 0 60 with _ | _
    · rw [show nwL a b c d l k v = 0 by simp [nwL, nwOk, hs, hv], show nwK a b c d l k v = 0 by simp [nwK, nwOk, hs, hv], show nwOk a b c d l k v = false by simp [nwOk, hs, hv]]
      go_enter Try.func16, Try.ntmps16
      go_wp2_with (first | (go_at_call 22; refine (impl_windOk _ _ _ _ _ _ _).mono ?_; rintro e w' ⟨rfl, hb⟩; have hB : Below w.heap.size w w' := Below.thenn (by repeat (first | exact Below.refl _ _ | assumption | apply Below.drew | apply below_drewN | (refine Below.alloc ?_ (by first | omega | (simp; done) | (simp; omega)) _) | (refine Below.setCell ?_ (by first | omega | (simp; done) | (simp; omega)) _))) hb (by first | omega | (simp; done) | (simp; omega)); have hz : w.heap.size + 2 < w'.heap.size := (by have h := hb.size; (try simp at h); omega); obtain ⟨hc, hf⟩ := bcell hb; clear hb) | (go_at_call 19; refine (impl_within _ _ _ _).mono ?_; rintro e w' ⟨rfl, rfl⟩))
      all_goals (go_light; refine bodyPost_ret ?_ rfl ⟨rfl, (by repeat (first | exact Below.refl _ _ | assumption | apply Below.drew | apply below_drewN | (refine Below.alloc ?_ (by first | omega | (simp; done) | (simp; omega)) _) | (refine Below.setCell ?_ (by first | omega | (simp; done) | (simp; omega)) _)))⟩; simp [results, Try.results16, go_sem, *])
    · rw [show nwL a b c d l k v = nxtL a b c d l k v by simp [nwL, nwOk, hs, hv], show nwK a b c d l k v = nxtK a b c d l k v by simp [nwK, nwOk, hs, hv], show nwOk a b c d l k v = true by simp [nwOk, hs, hv]]
      have cn := fun w => impl_next a b c d l k v w hs hv
      generalize nxtL a b c d l k v = x at cn ⊢
      generalize nxtK a b c d l k v = y at cn ⊢
      have CN := Lib.hid cn
      clear cn
      go_enter Try.func16, Try.ntmps16
      go_wp2_with (first | (go_at_call 22; refine (impl_windOk _ _ _ _ _ _ _).mono ?_; rintro e w' ⟨rfl, hb⟩; have hB : Below w.heap.size w w' := Below.thenn (by repeat (first | exact Below.refl _ _ | assumption | apply Below.drew | apply below_drewN | (refine Below.alloc ?_ (by first | omega | (simp; done) | (simp; omega)) _) | (refine Below.setCell ?_ (by first | omega | (simp; done) | (simp; omega)) _))) hb (by first | omega | (simp; done) | (simp; omega)); have hz : w.heap.size + 2 < w'.heap.size := (by have h := hb.size; (try simp at h); omega); obtain ⟨hc, hf⟩ := bcell hb; clear hb) | (go_at_call 19; refine (impl_within _ _ _ _).mono ?_; rintro e w' ⟨rfl, rfl⟩) | (go_at_call 24; refine (CN.out _).mono ?_; rintro e w' ⟨rfl, hb⟩; have hB : Below w.heap.size w w' := Below.thenn (by repeat (first | exact Below.refl _ _ | assumption | apply Below.drew | apply below_drewN | (refine Below.alloc ?_ (by first | omega | (simp; done) | (simp; omega)) _) | (refine Below.setCell ?_ (by first | omega | (simp; done) | (simp; omega)) _))) hb (by first | omega | (simp; done) | (simp; omega)); have hz : w.heap.size + 2 < w'.heap.size := (by have h := hb.size; (try simp at h); omega); obtain ⟨hc, hf⟩ := bcell hb; clear hb))
      all_goals (go_light; refine bodyPost_ret ?_ rfl ⟨rfl, (by repeat (first | exact Below.refl _ _ | assumption | apply Below.drew | apply below_drewN | (refine Below.alloc ?_ (by first | omega | (simp; done) | (simp; omega)) _) | (refine Below.setCell ?_ (by first | omega | (simp; done) | (simp; omega)) _)))⟩; simp [results, Try.results16, go_sem, *])
set_option maxHeartbeats 4000000 in
theorem law_FnExactNextWind (a b c d l k v : Int) (w : World) : Calls Try.prog 6 #[.agg #[.int .i64 a, .int .i64 b, .int .i64 c, .int .i64 d], .agg #[.int .i64 l, .int .i64 k], .int .i64 v] w (Ret w (.bool true)) := by
  have ci := fun w => impl_NextWind a b c d l k v w
  have cs := fun w => spec_NextWind a b c d l k v w
  generalize nwL a b c d l k v = x at ci cs
  generalize nwK a b c d l k v = y at ci cs
  generalize nwOk a b c d l k v = z at ci cs
  have CI := Lib.hid ci
  have CS := Lib.hid cs
  clear ci cs
  go_enter Try.func6, Try.ntmps6
  go_wp2_with fail
  have e0 : w.heap.size ≠ w.heap.size + 1 := by omega
  have e1 : w.heap.size ≠ w.heap.size + 1 + 1 := by omega
  have e2 : w.heap.size + 1 + 1 ≠ w.heap.size := by omega
  have e3 : w.heap.size + 1 ≠ w.heap.size + 1 + 1 := by omega
  have e4 : w.heap.size + 1 + 1 ≠ w.heap.size + 1 := by omega
  go_upto_region 1 with fail
  go_cut [7, 8] (fun s7 s8 wx => ∃ g : Nat, s7 = .pointer (some ⟨g, 0, none⟩) ∧ s8 = .bool z ∧ w.heap.size + 2 ≤ g ∧ wx.cell? ⟨g, 0, none⟩ = some (.int .i64 x) ∧ wx.cell? ⟨g, 1, none⟩ = some (.int .i64 y) ∧ g < wx.heap.size ∧ ((fun w' => w'.cell? ⟨w.heap.size, 0, none⟩ = some (.int .i64 a) ∧ w'.cell? ⟨w.heap.size, 1, none⟩ = some (.int .i64 b) ∧ w'.cell? ⟨w.heap.size, 2, none⟩ = some (.int .i64 c) ∧ w'.cell? ⟨w.heap.size, 3, none⟩ = some (.int .i64 d) ∧ w'.cell? ⟨w.heap.size + 1, 0, none⟩ = some (.int .i64 l) ∧ w'.cell? ⟨w.heap.size + 1, 1, none⟩ = some (.int .i64 k) ∧ Below w.heap.size w w' ∧ w.heap.size + 2 ≤ w'.heap.size) wx))
  case first =>
    go_region_held3 (fun w' => w'.cell? ⟨w.heap.size, 0, none⟩ = some (.int .i64 a) ∧ w'.cell? ⟨w.heap.size, 1, none⟩ = some (.int .i64 b) ∧ w'.cell? ⟨w.heap.size, 2, none⟩ = some (.int .i64 c) ∧ w'.cell? ⟨w.heap.size, 3, none⟩ = some (.int .i64 d) ∧ w'.cell? ⟨w.heap.size + 1, 0, none⟩ = some (.int .i64 l) ∧ w'.cell? ⟨w.heap.size + 1, 1, none⟩ = some (.int .i64 k) ∧ Below w.heap.size w w' ∧ w.heap.size + 2 ≤ w'.heap.size) (((try dsimp only); (repeat' apply And.intro) <;> first | assumption | (refine (hc _ _ ?_).trans ?_ <;> first | assumption | omega | (simp; done) | (simp; omega) | (simp [*]; done) | (simp [World.cell?_alloc_some, *]; done)) | (simp [*, World.cell?_alloc_some, World.cell?_setCell_far]; done) | (simp; omega) | (exact (by repeat (first | exact Below.refl _ _ | assumption | apply Below.drew | apply below_drewN | (refine Below.alloc ?_ (by first | omega | (simp; done) | (simp; omega)) _) | (refine Below.setCell ?_ (by first | omega | (simp; done) | (simp; omega)) _))))))
      (first | (go_at_call 8; refine (toWindRule_any _ _ _ _ _).mono ?_; rintro e w' ⟨rfl, hb⟩; have hB : Below w.heap.size w w' := Below.thenn (by repeat (first | exact Below.refl _ _ | assumption | apply Below.drew | apply below_drewN | (refine Below.alloc ?_ (by first | omega | (simp; done) | (simp; omega)) _) | (refine Below.setCell ?_ (by first | omega | (simp; done) | (simp; omega)) _))) hb (by first | omega | (simp; done) | (simp; omega)); have hz : w.heap.size + 2 ≤ w'.heap.size := (by have h := hb.size; (try simp at h); omega); have hn0 : w.heap.size ≠ w'.heap.size := (by omega); have hn1 : w.heap.size + 1 ≠ w'.heap.size := (by omega); have hm0 : w'.heap.size ≠ w.heap.size := (by omega); have hm1 : w'.heap.size ≠ w.heap.size + 1 := (by omega); (try (have hg0 : w.heap.size + 1 + 1 < w'.heap.size := (by have h := hb.size; (try simp at h); omega))); have hbs := hb.size; (try simp only [World.heap_size_alloc, World.heap_size_drew, World.heap_size_setCell] at hbs); (try simp at hbs); have hlt := (fun (b : Nat) (h : b < _) => Nat.lt_of_lt_of_le h hb.size); obtain ⟨hc, hf⟩ := bcell hb; clear hb; have hSS : ((fun w' => w'.cell? ⟨w.heap.size, 0, none⟩ = some (.int .i64 a) ∧ w'.cell? ⟨w.heap.size, 1, none⟩ = some (.int .i64 b) ∧ w'.cell? ⟨w.heap.size, 2, none⟩ = some (.int .i64 c) ∧ w'.cell? ⟨w.heap.size, 3, none⟩ = some (.int .i64 d) ∧ w'.cell? ⟨w.heap.size + 1, 0, none⟩ = some (.int .i64 l) ∧ w'.cell? ⟨w.heap.size + 1, 1, none⟩ = some (.int .i64 k) ∧ Below w.heap.size w w' ∧ w.heap.size + 2 ≤ w'.heap.size)) w' := (by ((try dsimp only); (repeat' apply And.intro) <;> first | assumption | (refine (hc _ _ ?_).trans ?_ <;> first | assumption | omega | (simp; done) | (simp; omega) | (simp [*]; done) | (simp [World.cell?_alloc_some, *]; done)) | (simp [*, World.cell?_alloc_some, World.cell?_setCell_far]; done) | (simp; omega) | (exact (by repeat (first | exact Below.refl _ _ | assumption | apply Below.drew | apply below_drewN | (refine Below.alloc ?_ (by first | omega | (simp; done) | (simp; omega)) _) | (refine Below.setCell ?_ (by first | omega | (simp; done) | (simp; omega)) _))))))) | (go_at_call 13; refine (toWindState_any _ _ _).mono ?_; rintro e w' ⟨rfl, hb⟩; have hB : Below w.heap.size w w' := Below.thenn (by repeat (first | exact Below.refl _ _ | assumption | apply Below.drew | apply below_drewN | (refine Below.alloc ?_ (by first | omega | (simp; done) | (simp; omega)) _) | (refine Below.setCell ?_ (by first | omega | (simp; done) | (simp; omega)) _))) hb (by first | omega | (simp; done) | (simp; omega)); have hz : w.heap.size + 2 ≤ w'.heap.size := (by have h := hb.size; (try simp at h); omega); have hn0 : w.heap.size ≠ w'.heap.size := (by omega); have hn1 : w.heap.size + 1 ≠ w'.heap.size := (by omega); have hm0 : w'.heap.size ≠ w.heap.size := (by omega); have hm1 : w'.heap.size ≠ w.heap.size + 1 := (by omega); (try (have hg0 : w.heap.size + 1 + 1 < w'.heap.size := (by have h := hb.size; (try simp at h); omega))); have hbs := hb.size; (try simp only [World.heap_size_alloc, World.heap_size_drew, World.heap_size_setCell] at hbs); (try simp at hbs); have hlt := (fun (b : Nat) (h : b < _) => Nat.lt_of_lt_of_le h hb.size); obtain ⟨hc, hf⟩ := bcell hb; clear hb; have hSS : ((fun w' => w'.cell? ⟨w.heap.size, 0, none⟩ = some (.int .i64 a) ∧ w'.cell? ⟨w.heap.size, 1, none⟩ = some (.int .i64 b) ∧ w'.cell? ⟨w.heap.size, 2, none⟩ = some (.int .i64 c) ∧ w'.cell? ⟨w.heap.size, 3, none⟩ = some (.int .i64 d) ∧ w'.cell? ⟨w.heap.size + 1, 0, none⟩ = some (.int .i64 l) ∧ w'.cell? ⟨w.heap.size + 1, 1, none⟩ = some (.int .i64 k) ∧ Below w.heap.size w w' ∧ w.heap.size + 2 ≤ w'.heap.size)) w' := (by ((try dsimp only); (repeat' apply And.intro) <;> first | assumption | (refine (hc _ _ ?_).trans ?_ <;> first | assumption | omega | (simp; done) | (simp; omega) | (simp [*]; done) | (simp [World.cell?_alloc_some, *]; done)) | (simp [*, World.cell?_alloc_some, World.cell?_setCell_far]; done) | (simp; omega) | (exact (by repeat (first | exact Below.refl _ _ | assumption | apply Below.drew | apply below_drewN | (refine Below.alloc ?_ (by first | omega | (simp; done) | (simp; omega)) _) | (refine Below.setCell ?_ (by first | omega | (simp; done) | (simp; omega)) _))))))) | (go_at_call 15; refine (CS.out _).mono ?_; rintro e w' ⟨rfl, hb⟩; have hB : Below w.heap.size w w' := Below.thenn (by repeat (first | exact Below.refl _ _ | assumption | apply Below.drew | apply below_drewN | (refine Below.alloc ?_ (by first | omega | (simp; done) | (simp; omega)) _) | (refine Below.setCell ?_ (by first | omega | (simp; done) | (simp; omega)) _))) hb (by first | omega | (simp; done) | (simp; omega)); have hz : w.heap.size + 2 ≤ w'.heap.size := (by have h := hb.size; (try simp at h); omega); have hn0 : w.heap.size ≠ w'.heap.size := (by omega); have hn1 : w.heap.size + 1 ≠ w'.heap.size := (by omega); have hm0 : w'.heap.size ≠ w.heap.size := (by omega); have hm1 : w'.heap.size ≠ w.heap.size + 1 := (by omega); (try (have hg0 : w.heap.size + 1 + 1 < w'.heap.size := (by have h := hb.size; (try simp at h); omega))); have hbs := hb.size; (try simp only [World.heap_size_alloc, World.heap_size_drew, World.heap_size_setCell] at hbs); (try simp at hbs); have hlt := (fun (b : Nat) (h : b < _) => Nat.lt_of_lt_of_le h hb.size); obtain ⟨hc, hf⟩ := bcell hb; clear hb; have hSS : ((fun w' => w'.cell? ⟨w.heap.size, 0, none⟩ = some (.int .i64 a) ∧ w'.cell? ⟨w.heap.size, 1, none⟩ = some (.int .i64 b) ∧ w'.cell? ⟨w.heap.size, 2, none⟩ = some (.int .i64 c) ∧ w'.cell? ⟨w.heap.size, 3, none⟩ = some (.int .i64 d) ∧ w'.cell? ⟨w.heap.size + 1, 0, none⟩ = some (.int .i64 l) ∧ w'.cell? ⟨w.heap.size + 1, 1, none⟩ = some (.int .i64 k) ∧ Below w.heap.size w w' ∧ w.heap.size + 2 ≤ w'.heap.size)) w' := (by ((try dsimp only); (repeat' apply And.intro) <;> first | assumption | (refine (hc _ _ ?_).trans ?_ <;> first | assumption | omega | (simp; done) | (simp; omega) | (simp [*]; done) | (simp [World.cell?_alloc_some, *]; done)) | (simp [*, World.cell?_alloc_some, World.cell?_setCell_far]; done) | (simp; omega) | (exact (by repeat (first | exact Below.refl _ _ | assumption | apply Below.drew | apply below_drewN | (refine Below.alloc ?_ (by first | omega | (simp; done) | (simp; omega)) _) | (refine Below.setCell ?_ (by first | omega | (simp; done) | (simp; omega)) _))))))))
    all_goals (go_wp2_with fail; go_meet)
    all_goals (refine ⟨_, rfl, rfl, ?_, ?_, ?_, ?_, ?_⟩ <;> first | assumption | omega | (simp [*]; done) | (simp [*, go_sem]; done) | (refine (World.cell?_setCell_other (by simp)).trans ?_; refine World.cell?_setCell_same' _ _ _ ?_; (simp [*, go_sem]; done)) | (refine World.cell?_setCell_same' _ _ _ ?_; rw [World.cell?_setCell_other (a := ⟨_, 0, none⟩) (b := ⟨_, 1, none⟩) (by simp)]; (simp [*, go_sem]; done)) | (refine (World.cell?_setCell_other (by simp)).trans ?_; refine World.cell?_setCell_same' _ _ _ ?_; rw [hc]; · (simp [*, go_sem]; done); · first | omega | (simp [*]; done)) | (refine World.cell?_setCell_same' _ _ _ ?_; rw [World.cell?_setCell_other (a := ⟨_, 0, none⟩) (b := ⟨_, 1, none⟩) (by simp)]; rw [hc]; · (simp [*, go_sem]; done); · first | omega | (simp [*]; done)) | (refine (two_set (u0 := .int .i64 0) (u1 := .int .i64 0) ?_ ?_).1 <;> (refine (hc _ _ ?_).trans ?_ <;> first | omega | (simp; done) | (simp [*]; done))) | (refine (two_set (u0 := .int .i64 0) (u1 := .int .i64 0) ?_ ?_).2 <;> (refine (hc _ _ ?_).trans ?_ <;> first | omega | (simp; done) | (simp [*]; done))) | (simp; omega))
  case rest =>
    obtain ⟨g, rfl, rfl, hg, hx0, hy0, hgs, hSS⟩ := hcut
    have hz := hSS.2.2.2.2.2.2.2
    have hB := hSS.2.2.2.2.2.2.1
    have hm0 : wc.heap.size ≠ w.heap.size := by omega
    have hm1 : wc.heap.size ≠ w.heap.size + 1 := by omega
    have hm2 : wc.heap.size ≠ g := by omega
    have hn0 : w.heap.size ≠ wc.heap.size := by omega
    have hn1 : w.heap.size + 1 ≠ wc.heap.size := by omega
    have hn2 : g ≠ wc.heap.size := by omega
    go_upto_region 2 with fail
    go_cut [9, 10] (fun s9 s10 wx => ∃ g' : Nat, s9 = .pointer (some ⟨g', 0, none⟩) ∧ s10 = .bool z ∧ wx.cell? ⟨g', 0, none⟩ = some (.int .i64 x) ∧ wx.cell? ⟨g', 1, none⟩ = some (.int .i64 y) ∧ wx.cell? ⟨g, 0, none⟩ = some (.int .i64 x) ∧ wx.cell? ⟨g, 1, none⟩ = some (.int .i64 y) ∧ Below w.heap.size w wx)
    case first =>
      go_region_held3 (fun w' => w'.cell? ⟨w.heap.size, 0, none⟩ = some (.int .i64 a) ∧ w'.cell? ⟨w.heap.size, 1, none⟩ = some (.int .i64 b) ∧ w'.cell? ⟨w.heap.size, 2, none⟩ = some (.int .i64 c) ∧ w'.cell? ⟨w.heap.size, 3, none⟩ = some (.int .i64 d) ∧ w'.cell? ⟨w.heap.size + 1, 0, none⟩ = some (.int .i64 l) ∧ w'.cell? ⟨w.heap.size + 1, 1, none⟩ = some (.int .i64 k) ∧ Below w.heap.size w w' ∧ w.heap.size + 2 ≤ w'.heap.size ∧ w'.cell? ⟨g, 0, none⟩ = some (.int .i64 x) ∧ w'.cell? ⟨g, 1, none⟩ = some (.int .i64 y) ∧ g < w'.heap.size) (((try dsimp only); (repeat' apply And.intro) <;> first | assumption | (refine (hc _ _ ?_).trans ?_ <;> first | assumption | omega | (simp; done) | (simp; omega) | (simp [*]; done) | (simp [World.cell?_alloc_some, *]; done)) | (simp [*, World.cell?_alloc_some, World.cell?_setCell_far]; done) | (simp; omega) | (exact (by repeat (first | exact Below.refl _ _ | assumption | apply Below.drew | apply below_drewN | (refine Below.alloc ?_ (by first | omega | (simp; done) | (simp; omega)) _) | (refine Below.setCell ?_ (by first | omega | (simp; done) | (simp; omega)) _))))))
        (first | (go_at_call 8; refine (toWindRule_any _ _ _ _ _).mono ?_; rintro e w' ⟨rfl, hb⟩; have hB : Below w.heap.size w w' := Below.thenn (by repeat (first | exact Below.refl _ _ | assumption | apply Below.drew | apply below_drewN | (refine Below.alloc ?_ (by first | omega | (simp; done) | (simp; omega)) _) | (refine Below.setCell ?_ (by first | omega | (simp; done) | (simp; omega)) _))) hb (by first | omega | (simp; done) | (simp; omega)); have hz : w.heap.size + 2 ≤ w'.heap.size := (by have h := hb.size; (try simp at h); omega); have hgz : g < w'.heap.size := (by have h := hb.size; (try simp at h); omega); have hn2 : g ≠ w'.heap.size := (by omega); have hm2 : w'.heap.size ≠ g := (by omega); have hn0 : w.heap.size ≠ w'.heap.size := (by omega); have hn1 : w.heap.size + 1 ≠ w'.heap.size := (by omega); have hm0 : w'.heap.size ≠ w.heap.size := (by omega); have hm1 : w'.heap.size ≠ w.heap.size + 1 := (by omega); (try (have hg0 : wc.heap.size < w'.heap.size := (by have h := hb.size; (try simp at h); omega))); have hbs := hb.size; (try simp only [World.heap_size_alloc, World.heap_size_drew, World.heap_size_setCell] at hbs); (try simp at hbs); have hlt := (fun (b : Nat) (h : b < _) => Nat.lt_of_lt_of_le h hb.size); obtain ⟨hc, hf⟩ := bcell hb; clear hb; have hSS : ((fun w' => w'.cell? ⟨w.heap.size, 0, none⟩ = some (.int .i64 a) ∧ w'.cell? ⟨w.heap.size, 1, none⟩ = some (.int .i64 b) ∧ w'.cell? ⟨w.heap.size, 2, none⟩ = some (.int .i64 c) ∧ w'.cell? ⟨w.heap.size, 3, none⟩ = some (.int .i64 d) ∧ w'.cell? ⟨w.heap.size + 1, 0, none⟩ = some (.int .i64 l) ∧ w'.cell? ⟨w.heap.size + 1, 1, none⟩ = some (.int .i64 k) ∧ Below w.heap.size w w' ∧ w.heap.size + 2 ≤ w'.heap.size ∧ w'.cell? ⟨g, 0, none⟩ = some (.int .i64 x) ∧ w'.cell? ⟨g, 1, none⟩ = some (.int .i64 y) ∧ g < w'.heap.size)) w' := (by ((try dsimp only); (repeat' apply And.intro) <;> first | assumption | (refine (hc _ _ ?_).trans ?_ <;> first | assumption | omega | (simp; done) | (simp; omega) | (simp [*]; done) | (simp [World.cell?_alloc_some, *]; done)) | (simp [*, World.cell?_alloc_some, World.cell?_setCell_far]; done) | (simp; omega) | (exact (by repeat (first | exact Below.refl _ _ | assumption | apply Below.drew | apply below_drewN | (refine Below.alloc ?_ (by first | omega | (simp; done) | (simp; omega)) _) | (refine Below.setCell ?_ (by first | omega | (simp; done) | (simp; omega)) _))))))) | (go_at_call 13; refine (toWindState_any _ _ _).mono ?_; rintro e w' ⟨rfl, hb⟩; have hB : Below w.heap.size w w' := Below.thenn (by repeat (first | exact Below.refl _ _ | assumption | apply Below.drew | apply below_drewN | (refine Below.alloc ?_ (by first | omega | (simp; done) | (simp; omega)) _) | (refine Below.setCell ?_ (by first | omega | (simp; done) | (simp; omega)) _))) hb (by first | omega | (simp; done) | (simp; omega)); have hz : w.heap.size + 2 ≤ w'.heap.size := (by have h := hb.size; (try simp at h); omega); have hgz : g < w'.heap.size := (by have h := hb.size; (try simp at h); omega); have hn2 : g ≠ w'.heap.size := (by omega); have hm2 : w'.heap.size ≠ g := (by omega); have hn0 : w.heap.size ≠ w'.heap.size := (by omega); have hn1 : w.heap.size + 1 ≠ w'.heap.size := (by omega); have hm0 : w'.heap.size ≠ w.heap.size := (by omega); have hm1 : w'.heap.size ≠ w.heap.size + 1 := (by omega); (try (have hg0 : wc.heap.size < w'.heap.size := (by have h := hb.size; (try simp at h); omega))); have hbs := hb.size; (try simp only [World.heap_size_alloc, World.heap_size_drew, World.heap_size_setCell] at hbs); (try simp at hbs); have hlt := (fun (b : Nat) (h : b < _) => Nat.lt_of_lt_of_le h hb.size); obtain ⟨hc, hf⟩ := bcell hb; clear hb; have hSS : ((fun w' => w'.cell? ⟨w.heap.size, 0, none⟩ = some (.int .i64 a) ∧ w'.cell? ⟨w.heap.size, 1, none⟩ = some (.int .i64 b) ∧ w'.cell? ⟨w.heap.size, 2, none⟩ = some (.int .i64 c) ∧ w'.cell? ⟨w.heap.size, 3, none⟩ = some (.int .i64 d) ∧ w'.cell? ⟨w.heap.size + 1, 0, none⟩ = some (.int .i64 l) ∧ w'.cell? ⟨w.heap.size + 1, 1, none⟩ = some (.int .i64 k) ∧ Below w.heap.size w w' ∧ w.heap.size + 2 ≤ w'.heap.size ∧ w'.cell? ⟨g, 0, none⟩ = some (.int .i64 x) ∧ w'.cell? ⟨g, 1, none⟩ = some (.int .i64 y) ∧ g < w'.heap.size)) w' := (by ((try dsimp only); (repeat' apply And.intro) <;> first | assumption | (refine (hc _ _ ?_).trans ?_ <;> first | assumption | omega | (simp; done) | (simp; omega) | (simp [*]; done) | (simp [World.cell?_alloc_some, *]; done)) | (simp [*, World.cell?_alloc_some, World.cell?_setCell_far]; done) | (simp; omega) | (exact (by repeat (first | exact Below.refl _ _ | assumption | apply Below.drew | apply below_drewN | (refine Below.alloc ?_ (by first | omega | (simp; done) | (simp; omega)) _) | (refine Below.setCell ?_ (by first | omega | (simp; done) | (simp; omega)) _))))))) | (go_at_call 16; refine (CI.out _).mono ?_; rintro e w' ⟨rfl, hb⟩; have hB : Below w.heap.size w w' := Below.thenn (by repeat (first | exact Below.refl _ _ | assumption | apply Below.drew | apply below_drewN | (refine Below.alloc ?_ (by first | omega | (simp; done) | (simp; omega)) _) | (refine Below.setCell ?_ (by first | omega | (simp; done) | (simp; omega)) _))) hb (by first | omega | (simp; done) | (simp; omega)); have hz : w.heap.size + 2 ≤ w'.heap.size := (by have h := hb.size; (try simp at h); omega); have hgz : g < w'.heap.size := (by have h := hb.size; (try simp at h); omega); have hn2 : g ≠ w'.heap.size := (by omega); have hm2 : w'.heap.size ≠ g := (by omega); have hn0 : w.heap.size ≠ w'.heap.size := (by omega); have hn1 : w.heap.size + 1 ≠ w'.heap.size := (by omega); have hm0 : w'.heap.size ≠ w.heap.size := (by omega); have hm1 : w'.heap.size ≠ w.heap.size + 1 := (by omega); (try (have hg0 : wc.heap.size < w'.heap.size := (by have h := hb.size; (try simp at h); omega))); have hbs := hb.size; (try simp only [World.heap_size_alloc, World.heap_size_drew, World.heap_size_setCell] at hbs); (try simp at hbs); have hlt := (fun (b : Nat) (h : b < _) => Nat.lt_of_lt_of_le h hb.size); obtain ⟨hc, hf⟩ := bcell hb; clear hb; have hSS : ((fun w' => w'.cell? ⟨w.heap.size, 0, none⟩ = some (.int .i64 a) ∧ w'.cell? ⟨w.heap.size, 1, none⟩ = some (.int .i64 b) ∧ w'.cell? ⟨w.heap.size, 2, none⟩ = some (.int .i64 c) ∧ w'.cell? ⟨w.heap.size, 3, none⟩ = some (.int .i64 d) ∧ w'.cell? ⟨w.heap.size + 1, 0, none⟩ = some (.int .i64 l) ∧ w'.cell? ⟨w.heap.size + 1, 1, none⟩ = some (.int .i64 k) ∧ Below w.heap.size w w' ∧ w.heap.size + 2 ≤ w'.heap.size ∧ w'.cell? ⟨g, 0, none⟩ = some (.int .i64 x) ∧ w'.cell? ⟨g, 1, none⟩ = some (.int .i64 y) ∧ g < w'.heap.size)) w' := (by ((try dsimp only); (repeat' apply And.intro) <;> first | assumption | (refine (hc _ _ ?_).trans ?_ <;> first | assumption | omega | (simp; done) | (simp; omega) | (simp [*]; done) | (simp [World.cell?_alloc_some, *]; done)) | (simp [*, World.cell?_alloc_some, World.cell?_setCell_far]; done) | (simp; omega) | (exact (by repeat (first | exact Below.refl _ _ | assumption | apply Below.drew | apply below_drewN | (refine Below.alloc ?_ (by first | omega | (simp; done) | (simp; omega)) _) | (refine Below.setCell ?_ (by first | omega | (simp; done) | (simp; omega)) _))))))))
      all_goals (go_wp2_with fail; go_meet)
      all_goals (refine ⟨_, rfl, rfl, ?_, ?_, ?_, ?_, ?_⟩ <;> first | assumption | omega | (simp [*]; done) | (simp [*, go_sem]; done) | (refine (World.cell?_setCell_other (by simp)).trans ?_; refine World.cell?_setCell_same' _ _ _ ?_; (simp [*, go_sem]; done)) | (refine World.cell?_setCell_same' _ _ _ ?_; rw [World.cell?_setCell_other (a := ⟨_, 0, none⟩) (b := ⟨_, 1, none⟩) (by simp)]; (simp [*, go_sem]; done)) | (refine (World.cell?_setCell_other (by simp)).trans ?_; refine World.cell?_setCell_same' _ _ _ ?_; rw [hc]; · (simp [*, go_sem]; done); · first | omega | (simp [*]; done)) | (refine World.cell?_setCell_same' _ _ _ ?_; rw [World.cell?_setCell_other (a := ⟨_, 0, none⟩) (b := ⟨_, 1, none⟩) (by simp)]; rw [hc]; · (simp [*, go_sem]; done); · first | omega | (simp [*]; done)) | (refine (two_set (u0 := .int .i64 0) (u1 := .int .i64 0) ?_ ?_).1 <;> (refine (hc _ _ ?_).trans ?_ <;> first | omega | (simp; done) | (simp [*]; done))) | (refine (two_set (u0 := .int .i64 0) (u1 := .int .i64 0) ?_ ?_).2 <;> (refine (hc _ _ ?_).trans ?_ <;> first | omega | (simp; done) | (simp [*]; done))) | (simp; omega))
    case rest =>
      obtain ⟨g', rfl, rfl, hx1, hy1, hx2, hy2, hB2⟩ := hcut
      go_wp2_with fail
      go_at_call 17
      refine (eqWindState_any _ _ _ _ _).mono ?_
      rintro e w2 ⟨rfl, hb⟩
      have hB3 : Below w.heap.size w w2 := Below.thenn hB2 hb (by have := hB2.size; omega)
      clear hb
      simp only [and_self, decide_true]
      go_wp2_with fail
      go_ret
      exact ⟨rfl, hB3⟩
end Go.Proofs.Ytphhklfpgmhfkaa
