/- The wind laws: the law's functions return true. -/
import Derived.Test.YtphhklfpgmhfkaaWind
import Derived.Deep.RegionHeld3
import Derived.Deep.DeepCutAuto
import Derived.Deep.RegionWith
namespace Go.Proofs.Ytphhklfpgmhfkaa
open Go.RowKit
set_option linter.unusedVariables false
set_option linter.unusedSimpArgs false

abbrev ruleV (a b c d : Int) : Value := .agg #[.int .i64 a, .int .i64 b, .int .i64 c, .int .i64 d]
theorem toWindRule_any (a b c d : Int) (w : World) : Calls Try.prog 8 #[.agg #[.int .i64 a, .int .i64 b, .int .i64 c, .int .i64 d]] w (Ret w (.agg #[.int .i64 a, .int .i64 b, .int .i64 c, .int .i64 d])) := by
  go_enter Try.func8, Try.ntmps8
  go_wp2
  all_goals (go_light; refine bodyPost_ret ?_ rfl ⟨rfl, (by repeat (first | exact Below.refl _ _ | assumption | apply Below.drew | apply below_drewN | (refine Below.alloc ?_ (by first | omega | (simp; done) | (simp; omega)) _) | (refine Below.setCell ?_ (by first | omega | (simp; done) | (simp; omega)) _)))⟩; simp [results, Try.results8, go_sem, *])
theorem toWindState_any (l k : Int) (w : World) : Calls Try.prog 13 #[.agg #[.int .i64 l, .int .i64 k]] w (Ret w (.agg #[.int .i64 l, .int .i64 k])) := by
  go_enter Try.func13, Try.ntmps13
  go_wp2
  all_goals (go_light; refine bodyPost_ret ?_ rfl ⟨rfl, (by repeat (first | exact Below.refl _ _ | assumption | apply Below.drew | apply below_drewN | (refine Below.alloc ?_ (by first | omega | (simp; done) | (simp; omega)) _) | (refine Below.setCell ?_ (by first | omega | (simp; done) | (simp; omega)) _)))⟩; simp [results, Try.results13, go_sem, *])
theorem eqWindState_any (l k l' k' : Int) (w : World) : Calls Try.prog 17 #[.agg #[.int .i64 l, .int .i64 k], .agg #[.int .i64 l', .int .i64 k']] w (Ret w (.bool (decide (l = l' ∧ k = k')))) := by
  go_enter Try.func17, Try.ntmps17
  go_wp2
  all_goals (go_ret; exact ⟨ret_bool (by (rw [Bool.eq_iff_iff]; simp [*] at *; omega)), (by repeat (first | exact Below.refl _ _ | assumption | apply Below.drew | apply below_drewN | (refine Below.alloc ?_ (by first | omega | (simp; done) | (simp; omega)) _) | (refine Below.setCell ?_ (by first | omega | (simp; done) | (simp; omega)) _)))⟩)
theorem spec_IsWindRule (a b c d : Int) (w : World) : Calls Try.prog 7 #[.agg #[.int .i64 a, .int .i64 b, .int .i64 c, .int .i64 d]] w (Ret w (.bool (rule a b c d))) := by
  go_enter Try.func7, Try.ntmps7
  go_wp2_with (first | (go_at_call 18; refine (spec_l12Rule _ _ _ _ _).mono ?_; rintro e w' ⟨rfl, hb⟩; have hB : Below w.heap.size w w' := Below.thenn (by repeat (first | exact Below.refl _ _ | assumption | apply Below.drew | apply below_drewN | (refine Below.alloc ?_ (by first | omega | (simp; done) | (simp; omega)) _) | (refine Below.setCell ?_ (by first | omega | (simp; done) | (simp; omega)) _))) hb (by first | omega | (simp; done) | (simp; omega)); have hz : w.heap.size ≤ w'.heap.size := hB.size; obtain ⟨hc, hf⟩ := bcell hb; clear hb))
  all_goals (go_ret; exact ⟨rfl, (by repeat (first | exact Below.refl _ _ | assumption | apply Below.drew | apply below_drewN | (refine Below.alloc ?_ (by first | omega | (simp; done) | (simp; omega)) _) | (refine Below.setCell ?_ (by first | omega | (simp; done) | (simp; omega)) _)))⟩)
theorem law_FnExactIsWindRule (a b c d : Int) (w : World) : Calls Try.prog 3 #[.agg #[.int .i64 a, .int .i64 b, .int .i64 c, .int .i64 d]] w (Ret w (.bool true)) := by
  go_enter Try.func3, Try.ntmps3
  go_wp2_with (first | (go_at_call 8; refine (toWindRule_any _ _ _ _ _).mono ?_; rintro e w' ⟨rfl, hb⟩; have hB : Below w.heap.size w w' := Below.thenn (by repeat (first | exact Below.refl _ _ | assumption | apply Below.drew | apply below_drewN | (refine Below.alloc ?_ (by first | omega | (simp; done) | (simp; omega)) _) | (refine Below.setCell ?_ (by first | omega | (simp; done) | (simp; omega)) _))) hb (by first | omega | (simp; done) | (simp; omega)); have hz : w.heap.size < w'.heap.size := (by have h := hb.size; (try simp at h); omega); obtain ⟨hc, hf⟩ := bcell hb; clear hb) | (go_at_call 7; refine (spec_IsWindRule _ _ _ _ _).mono ?_; rintro e w' ⟨rfl, hb⟩; have hB : Below w.heap.size w w' := Below.thenn (by repeat (first | exact Below.refl _ _ | assumption | apply Below.drew | apply below_drewN | (refine Below.alloc ?_ (by first | omega | (simp; done) | (simp; omega)) _) | (refine Below.setCell ?_ (by first | omega | (simp; done) | (simp; omega)) _))) hb (by first | omega | (simp; done) | (simp; omega)); have hz : w.heap.size < w'.heap.size := (by have h := hb.size; (try simp at h); omega); obtain ⟨hc, hf⟩ := bcell hb; clear hb) | (go_at_call 9; refine (impl_IsWindRule _ _ _ _ _).mono ?_; rintro e w' ⟨rfl, hb⟩; have hB : Below w.heap.size w w' := Below.thenn (by repeat (first | exact Below.refl _ _ | assumption | apply Below.drew | apply below_drewN | (refine Below.alloc ?_ (by first | omega | (simp; done) | (simp; omega)) _) | (refine Below.setCell ?_ (by first | omega | (simp; done) | (simp; omega)) _))) hb (by first | omega | (simp; done) | (simp; omega)); have hz : w.heap.size < w'.heap.size := (by have h := hb.size; (try simp at h); omega); obtain ⟨hc, hf⟩ := bcell hb; clear hb))
  all_goals (go_ret; exact ⟨rfl, (by repeat (first | exact Below.refl _ _ | assumption | apply Below.drew | apply below_drewN | (refine Below.alloc ?_ (by first | omega | (simp; done) | (simp; omega)) _) | (refine Below.setCell ?_ (by first | omega | (simp; done) | (simp; omega)) _)))⟩)
theorem impl_GreatestFree (a b c d : Int) (w : World) : Calls Try.prog 11 #[.agg #[.int .i64 a, .int .i64 b, .int .i64 c, .int .i64 d]] w
    (Ret w (.tuple #[.int .i64 (if rule a b c d then a - 1 else 0), .bool (rule a b c d)])) := by
  go_enter Try.func11, Try.ntmps11
  go_wp2_with (first | (go_at_call 9; refine (impl_IsWindRule _ _ _ _ _).mono ?_; rintro e w' ⟨rfl, hb⟩; have hB : Below w.heap.size w w' := Below.thenn (by repeat (first | exact Below.refl _ _ | assumption | apply Below.drew | apply below_drewN | (refine Below.alloc ?_ (by first | omega | (simp; done) | (simp; omega)) _) | (refine Below.setCell ?_ (by first | omega | (simp; done) | (simp; omega)) _))) hb (by first | omega | (simp; done) | (simp; omega)); have hz : w.heap.size < w'.heap.size := (by have h := hb.size; (try simp at h); omega); obtain ⟨hc, hf⟩ := bcell hb; clear hb))
  all_goals (go_ret2; exact ⟨ret_ib (by (first | rfl | (simp_all [rule, wrap64]; done) | (simp [rule, wrap64] at *; omega) | (simp_all [rule, wrap64]; omega))) (by (first | rfl | (simp_all [rule, wrap64]; done) | (simp [rule, wrap64] at *; omega) | (simp_all [rule, wrap64]; omega))), (by repeat (first | exact Below.refl _ _ | assumption | apply Below.drew | apply below_drewN | (refine Below.alloc ?_ (by first | omega | (simp; done) | (simp; omega)) _) | (refine Below.setCell ?_ (by first | omega | (simp; done) | (simp; omega)) _)))⟩)
theorem spec_GreatestFree (a b c d : Int) (w : World) : Calls Try.prog 10 #[.agg #[.int .i64 a, .int .i64 b, .int .i64 c, .int .i64 d]] w
    (Ret w (.tuple #[.int .i64 (if rule a b c d then a - 1 else 0), .bool (rule a b c d)])) := by
  go_enter Try.func10, Try.ntmps10
  go_wp2_with (first | (go_at_call 18; refine (spec_l12Rule _ _ _ _ _).mono ?_; rintro e w' ⟨rfl, hb⟩; have hB : Below w.heap.size w w' := Below.thenn (by repeat (first | exact Below.refl _ _ | assumption | apply Below.drew | apply below_drewN | (refine Below.alloc ?_ (by first | omega | (simp; done) | (simp; omega)) _) | (refine Below.setCell ?_ (by first | omega | (simp; done) | (simp; omega)) _))) hb (by first | omega | (simp; done) | (simp; omega)); have hz : w.heap.size < w'.heap.size := (by have h := hb.size; (try simp at h); omega); obtain ⟨hc, hf⟩ := bcell hb; clear hb))
  all_goals (go_ret2; exact ⟨ret_ib (by (first | rfl | (simp_all [rule, wrap64]; done) | (simp [rule, wrap64] at *; omega) | (simp_all [rule, wrap64]; omega))) (by (first | rfl | (simp_all [rule, wrap64]; done) | (simp [rule, wrap64] at *; omega) | (simp_all [rule, wrap64]; omega))), (by repeat (first | exact Below.refl _ _ | assumption | apply Below.drew | apply below_drewN | (refine Below.alloc ?_ (by first | omega | (simp; done) | (simp; omega)) _) | (refine Below.setCell ?_ (by first | omega | (simp; done) | (simp; omega)) _)))⟩)
theorem law_FnExactGreatestFree (a b c d : Int) (w : World) : Calls Try.prog 4 #[.agg #[.int .i64 a, .int .i64 b, .int .i64 c, .int .i64 d]] w (Ret w (.bool true)) := by
  obtain ⟨x, hx⟩ : ∃ x, (if rule a b c d then a - 1 else 0) = x := ⟨_, rfl⟩
  have ci := fun w => impl_GreatestFree a b c d w
  have cs := fun w => spec_GreatestFree a b c d w
  rw [hx] at ci cs
  have CI := Lib.hid ci
  have CS := Lib.hid cs
  clear hx ci cs
  go_enter Try.func4, Try.ntmps4
  go_wp2_with (first | (go_at_call 8; refine (toWindRule_any _ _ _ _ _).mono ?_; rintro e w' ⟨rfl, hb⟩; have hB : Below w.heap.size w w' := Below.thenn (by repeat (first | exact Below.refl _ _ | assumption | apply Below.drew | apply below_drewN | (refine Below.alloc ?_ (by first | omega | (simp; done) | (simp; omega)) _) | (refine Below.setCell ?_ (by first | omega | (simp; done) | (simp; omega)) _))) hb (by first | omega | (simp; done) | (simp; omega)); have hz : w.heap.size < w'.heap.size := (by have h := hb.size; (try simp at h); omega); obtain ⟨hc, hf⟩ := bcell hb; clear hb) | (go_at_call 10; refine (CS.out _).mono ?_; rintro e w' ⟨rfl, hb⟩; have hB : Below w.heap.size w w' := Below.thenn (by repeat (first | exact Below.refl _ _ | assumption | apply Below.drew | apply below_drewN | (refine Below.alloc ?_ (by first | omega | (simp; done) | (simp; omega)) _) | (refine Below.setCell ?_ (by first | omega | (simp; done) | (simp; omega)) _))) hb (by first | omega | (simp; done) | (simp; omega)); have hz : w.heap.size < w'.heap.size := (by have h := hb.size; (try simp at h); omega); obtain ⟨hc, hf⟩ := bcell hb; clear hb) | (go_at_call 11; refine (CI.out _).mono ?_; rintro e w' ⟨rfl, hb⟩; have hB : Below w.heap.size w w' := Below.thenn (by repeat (first | exact Below.refl _ _ | assumption | apply Below.drew | apply below_drewN | (refine Below.alloc ?_ (by first | omega | (simp; done) | (simp; omega)) _) | (refine Below.setCell ?_ (by first | omega | (simp; done) | (simp; omega)) _))) hb (by first | omega | (simp; done) | (simp; omega)); have hz : w.heap.size < w'.heap.size := (by have h := hb.size; (try simp at h); omega); obtain ⟨hc, hf⟩ := bcell hb; clear hb))
  all_goals (go_ret; exact ⟨rfl, (by repeat (first | exact Below.refl _ _ | assumption | apply Below.drew | apply below_drewN | (refine Below.alloc ?_ (by first | omega | (simp; done) | (simp; omega)) _) | (refine Below.setCell ?_ (by first | omega | (simp; done) | (simp; omega)) _)))⟩)

theorem stateOk_iff {a b c d l k : Int} : stateOk a b c d l k = true ↔ (2 ≤ a ∧ a < b ∧ b ≤ 60 ∧ 1 ≤ c ∧ c ≤ a - 1 ∧ 1 ≤ d ∧ d ≤ 10) ∧ 0 ≤ l ∧ l ≤ 2 ∧ 0 ≤ k ∧ k ≤ d - 1 ∧ (0 < l ∨ k = 0) := by
  simp [stateOk, rule]
theorem next_down {a b c d l k : Int} (h : stateOk a b c d l k = true) (hl : 0 < l) :
    stateOk a b c d (nxtL a b c d l k 0) (nxtK a b c d l k 0) = true ∧ nxtL a b c d l k 0 * d - nxtK a b c d l k 0 = l * d - k - 1 := by
  rw [stateOk_iff] at h ⊢
  have hc : l = 1 ∨ l = 2 := by omega
  unfold nxtL nxtK
  rcases hc with rfl | rfl
  · simp only [show ¬ b ≤ 0 by omega, if_false, show ¬ (1 : Int) = 0 by omega, show ¬ (1 : Int) = 2 by omega, show ¬ a - c ≤ 0 by omega]
    split
    · refine ⟨by omega, by omega⟩
    · refine ⟨by omega, by omega⟩
  · simp only [show ¬ b ≤ 0 by omega, if_false, show ¬ (2 : Int) = 0 by omega, show ¬ b - c ≤ 0 by omega, if_true]
    split
    · refine ⟨by omega, by omega⟩
    · refine ⟨by omega, by omega⟩
theorem rem_bd {a b c d l k : Int} (h : stateOk a b c d l k = true) : 0 ≤ l * d - k ∧ l * d - k ≤ 20 ∧ (0 < l → 1 ≤ l * d - k) ∧ (l = 0 → l * d - k = 0) := by
  rw [stateOk_iff] at h
  have hc : l = 0 ∨ l = 1 ∨ l = 2 := by omega
  rcases hc with rfl | rfl | rfl <;> refine ⟨by omega, by omega, by omega, by omega⟩
def freeIn (a b c d l k : Int) : Int := if stateOk a b c d l k then l * d - k else 0

theorem impl_EarliestFree (a b c d l k : Int) (w : World) : Calls Try.prog 14 #[.agg #[.int .i64 a, .int .i64 b, .int .i64 c, .int .i64 d], .agg #[.int .i64 l, .int .i64 k]] w
    (Ret w (.tuple #[.int .i64 (freeIn a b c d l k), .bool (stateOk a b c d l k)])) := by
  rcases h : stateOk a b c d l k with _ | _
  · rw [show freeIn a b c d l k = 0 by simp [freeIn, h]]
    go_enter Try.func14, Try.ntmps14
    go_wp2_with (go_at_call 22; refine (impl_windOk _ _ _ _ _ _ _).mono ?_; rintro e w' ⟨rfl, hb⟩; have hB : Below w.heap.size w w' := Below.thenn (by repeat (first | exact Below.refl _ _ | assumption | apply Below.drew | apply below_drewN | (refine Below.alloc ?_ (by first | omega | (simp; done) | (simp; omega)) _) | (refine Below.setCell ?_ (by first | omega | (simp; done) | (simp; omega)) _))) hb (by first | omega | (simp; done) | (simp; omega)); have hz : w.heap.size < w'.heap.size := (by have h := hb.size; (try simp at h); omega); have hz1 : w.heap.size + 1 < w'.heap.size := (by have h := hb.size; (try simp at h); omega); obtain ⟨hc, hf⟩ := bcell hb; clear hb)
    go_ret2
    exact ⟨rfl, (by repeat (first | exact Below.refl _ _ | assumption | apply Below.drew | apply below_drewN | (refine Below.alloc ?_ (by first | omega | (simp; done) | (simp; omega)) _) | (refine Below.setCell ?_ (by first | omega | (simp; done) | (simp; omega)) _)))⟩
  · rw [show freeIn a b c d l k = l * d - k by simp [freeIn, h]]
    have h' := stateOk_iff.1 h
    have hr := rem_bd h
    have hm : 0 ≤ l * d ∧ l * d ≤ 20 := by
      have hc : l = 0 ∨ l = 1 ∨ l = 2 := by omega
      rcases hc with rfl | rfl | rfl <;> omega
    obtain ⟨m, hmm⟩ : ∃ m, m = l * d := ⟨_, rfl⟩
    have hm1 := hm.1
    have hm2 := hm.2
    clear hm hr hmm
    go_enter Try.func14, Try.ntmps14
    go_wp2_with (go_at_call 22; refine (impl_windOk _ _ _ _ _ _ _).mono ?_; rintro e w' ⟨rfl, hb⟩; have hB : Below w.heap.size w w' := Below.thenn (by repeat (first | exact Below.refl _ _ | assumption | apply Below.drew | apply below_drewN | (refine Below.alloc ?_ (by first | omega | (simp; done) | (simp; omega)) _) | (refine Below.setCell ?_ (by first | omega | (simp; done) | (simp; omega)) _))) hb (by first | omega | (simp; done) | (simp; omega)); have hz : w.heap.size < w'.heap.size := (by have h := hb.size; (try simp at h); omega); have hz1 : w.heap.size + 1 < w'.heap.size := (by have h := hb.size; (try simp at h); omega); obtain ⟨hc, hf⟩ := bcell hb; clear hb)
    go_ret2
    exact ⟨rfl, (by repeat (first | exact Below.refl _ _ | assumption | apply Below.drew | apply below_drewN | (refine Below.alloc ?_ (by first | omega | (simp; done) | (simp; omega)) _) | (refine Below.setCell ?_ (by first | omega | (simp; done) | (simp; omega)) _)))⟩

set_option maxHeartbeats 2000000 in
theorem spec_EarliestFree (a b c d l k : Int) (w : World) : Calls Try.prog 12 #[.agg #[.int .i64 a, .int .i64 b, .int .i64 c, .int .i64 d], .agg #[.int .i64 l, .int .i64 k]] w
    (Ret w (.tuple #[.int .i64 (freeIn a b c d l k), .bool (stateOk a b c d l k)])) := by
  rcases h : stateOk a b c d l k with _ | _
  · rw [show freeIn a b c d l k = 0 by simp [freeIn, h]]
    go_enter Try.func12, Try.ntmps12
    go_wp2_with (go_at_call 20; refine (spec_l12State _ _ _ _ _ _ _).mono ?_; rintro e w' ⟨rfl, hb⟩; have hB : Below w.heap.size w w' := Below.thenn (by repeat (first | exact Below.refl _ _ | assumption | apply Below.drew | apply below_drewN | (refine Below.alloc ?_ (by first | omega | (simp; done) | (simp; omega)) _) | (refine Below.setCell ?_ (by first | omega | (simp; done) | (simp; omega)) _))) hb (by first | omega | (simp; done) | (simp; omega)); have hz : w.heap.size < w'.heap.size := (by have h := hb.size; (try simp at h); omega); have hz1 : w.heap.size + 1 < w'.heap.size := (by have h := hb.size; (try simp at h); omega); obtain ⟨hc, hf⟩ := bcell hb; clear hb)
    go_ret2
    exact ⟨rfl, (by repeat (first | exact Below.refl _ _ | assumption | apply Below.drew | apply below_drewN | (refine Below.alloc ?_ (by first | omega | (simp; done) | (simp; omega)) _) | (refine Below.setCell ?_ (by first | omega | (simp; done) | (simp; omega)) _)))⟩
  · have hr := rem_bd h
    obtain ⟨F, hF⟩ : ∃ F, F = l * d - k := ⟨_, rfl⟩
    rw [show freeIn a b c d l k = F by rw [hF]; simp [freeIn, h]]
    have hF0 : 0 ≤ F := by omega
    have hF1 : F ≤ 20 := by omega
    have HF := Lib.hid hF
    have HS := Lib.hid h
    clear hF hr
    go_enter Try.func12, Try.ntmps12
    go_wp2_with fail
    go_at_call 20
    refine (spec_l12State _ _ _ _ _ _ _).mono ?_
    rintro e w1 ⟨rfl, hb⟩
    have hk0 : Blk w1 w.heap.size 25 #[.int .i64 a, .int .i64 b, .int .i64 c, .int .i64 d] := ((Blk.new w _ _).alloc _).below hb (by simp; omega)
    have hk1 : Blk w1 (w.heap.size + 1) 33 #[.int .i64 l, .int .i64 k] := by
      have h0 := (Blk.new (w.alloc (.cells #[.int .i64 a, .int .i64 b, .int .i64 c, .int .i64 d] 25)) 33 #[.int .i64 l, .int .i64 k]).below hb (by simp)
      simpa using h0
    have hB : Below w.heap.size w w1 := Below.thenn (by repeat (first | exact Below.refl _ _ | assumption | apply Below.drew | apply below_drewN | (refine Below.alloc ?_ (by first | omega | (simp; done) | (simp; omega)) _) | (refine Below.setCell ?_ (by first | omega | (simp; done) | (simp; omega)) _))) hb (by first | omega | (simp; done) | (simp; omega))
    have hz : w.heap.size + 2 ≤ w1.heap.size := by have := hb.size; (try simp at this); omega
    rw [h]
    clear hb
    go_wp2_with fail
    go_loopg [6] F.toNat (fun g i wr => ∃ m l' k' : Int, 0 ≤ m ∧ m ≤ F ∧ (g : Int) = F - m ∧ i = .int .i64 m ∧ 0 ≤ l' ∧ (0 < l' → m < F) ∧ (l' ≤ 0 → m = F) ∧ Below w.heap.size w wr ∧ w.heap.size + 2 ≤ wr.heap.size ∧ Hid (stateOk a b c d l' k' = true ∧ l' * d - k' = F - m) ∧ Blk wr w.heap.size 25 #[.int .i64 a, .int .i64 b, .int .i64 c, .int .i64 d] ∧ Blk wr (w.heap.size + 1) 33 #[.int .i64 l', .int .i64 k'])
    case atStart =>
      have hs := HS.out
      have hr := rem_bd hs
      have he := HF.out
      have hh := stateOk_iff.1 hs
      exact ⟨0, l, k, by omega, by omega, by omega, rfl, by omega, by omega, by omega, hB, hz, ⟨hs, by omega⟩, hk0, hk1⟩
    case round =>
      obtain ⟨m, l', k', hm0, hm1, hg, rfl, hl0, hl1, hl2, hBr, hzr, HR, hr0, hr1⟩ := hrel
      have c0 := hr0.cell 0
      have c1 := hr0.cell 1
      have c2 := hr0.cell 2
      have c3 := hr0.cell 3
      have d0 := hr1.cell 0
      have d1 := hr1.cell 1
      have f1 := hr1.frozen 0
      have f2 := hr1.frozen 1
      simp at c0 c1 c2 c3 d0 d1
      by_cases hp : 0 < l'
      · go_wp2_with fail
        have hm2 := hl1 hp
        go_at_call 21
        refine (spec_l12Next a b c d l' k' 0 _ HR.out.1 (by simp [inr])).mono ?_
        rintro e w2 ⟨rfl, hb⟩
        have hb2 : Below wr.heap.size wr w2 := Below.thenn (by repeat (first | exact Below.refl _ _ | assumption | apply Below.drew | apply below_drewN | (refine Below.alloc ?_ (by first | omega | (simp; done) | (simp; omega)) _) | (refine Below.setCell ?_ (by first | omega | (simp; done) | (simp; omega)) _))) hb (by first | omega | (simp; done) | (simp; omega))
        have hB2 : Below w.heap.size w w2 := Below.thenn hBr hb2 (by omega)
        have hz2 : w.heap.size + 2 ≤ w2.heap.size := by have := hb2.size; omega
        have q0 := hr0.below hb2 hr0.lt
        have q1 := hr1.below hb2 hr1.lt
        have d0 := q1.cell 0
        have d1 := q1.cell 1
        have f1 := q1.frozen 0
        have f2 := q1.frozen 1
        simp at d0 d1
        obtain ⟨l2, hl2'⟩ : ∃ x, nxtL a b c d l' k' 0 = x := ⟨_, rfl⟩
        obtain ⟨k2, hk2'⟩ : ∃ x, nxtK a b c d l' k' 0 = x := ⟨_, rfl⟩
        rw [hl2', hk2']
        have HN : Hid (stateOk a b c d l2 k2 = true ∧ l2 * d - k2 = F - (m + 1)) := by
          have := next_down HR.out.1 hp
          rw [hl2', hk2'] at this
          have h3 := HR.out.2
          exact ⟨this.1, by omega⟩
        have hq := rem_bd HN.out.1
        have hh := stateOk_iff.1 HN.out.1
        have hq3 := hq.2.2.1
        have hq4 := hq.2.2.2
        have hq0 := HN.out.2
        rw [hq0] at hq3 hq4
        have hh0 : 0 ≤ l2 := by omega
        clear hq hh hl2' hk2' hb hb2 hq0
        go_wp2_with fail
        go_roundg ((F - (m + 1)).toNat)
        case measure => omega
        case rel =>
          refine ⟨m + 1, l2, k2, by omega, by omega, by omega, by go_num, by omega, by omega, by omega, ?_, ?_, HN, ?_, ?_⟩
          · exact (by repeat (first | exact Below.refl _ _ | assumption | apply Below.drew | apply below_drewN | (refine Below.alloc ?_ (by first | omega | (simp; done) | (simp; omega)) _) | (refine Below.setCell ?_ (by first | omega | (simp; done) | (simp; omega)) _)))
          · simp; omega
          · exact (q0.far (by simp) _).far (by simp) _
          · have := (q1.set_ 0 (.int .i64 l2)).set_ 1 (.int .i64 k2)
            simpa using this
      · have hF2 := hl2 (by omega)
        go_wp2_with fail
        go_ret2
        exact ⟨rfl, hBr⟩

set_option maxHeartbeats 4000000 in
theorem law_FnExactEarliestFree (a b c d l k : Int) (w : World) : Calls Try.prog 5 #[.agg #[.int .i64 a, .int .i64 b, .int .i64 c, .int .i64 d], .agg #[.int .i64 l, .int .i64 k]] w (Ret w (.bool true)) := by
  obtain ⟨x, hx⟩ : ∃ x, freeIn a b c d l k = x := ⟨_, rfl⟩
  have ci := fun w => impl_EarliestFree a b c d l k w
  have cs := fun w => spec_EarliestFree a b c d l k w
  rw [hx] at ci cs
  have CI := Lib.hid ci
  have CS := Lib.hid cs
  clear hx ci cs
  go_enter Try.func5, Try.ntmps5
  go_wp2_with fail
  have e0 : w.heap.size ≠ w.heap.size + 1 := by omega
  go_region_held3 (fun w' => w'.cell? ⟨w.heap.size, 0, none⟩ = some (.int .i64 a) ∧ w'.cell? ⟨w.heap.size, 1, none⟩ = some (.int .i64 b) ∧ w'.cell? ⟨w.heap.size, 2, none⟩ = some (.int .i64 c) ∧ w'.cell? ⟨w.heap.size, 3, none⟩ = some (.int .i64 d) ∧ w'.cell? ⟨w.heap.size + 1, 0, none⟩ = some (.int .i64 l) ∧ w'.cell? ⟨w.heap.size + 1, 1, none⟩ = some (.int .i64 k) ∧ Below w.heap.size w w' ∧ w.heap.size + 2 ≤ w'.heap.size) (((try dsimp only); (repeat' apply And.intro) <;> first | assumption | (rw [hc _ _ (by first | omega | (simp; done) | (simp; omega))]; first | assumption | (simp [*]; done)) | (simp [*]; done) | (simp; omega) | (exact (by repeat (first | exact Below.refl _ _ | assumption | apply Below.drew | apply below_drewN | (refine Below.alloc ?_ (by first | omega | (simp; done) | (simp; omega)) _) | (refine Below.setCell ?_ (by first | omega | (simp; done) | (simp; omega)) _))))))
    (first | (go_at_call 8; refine (toWindRule_any _ _ _ _ _).mono ?_; rintro e w' ⟨rfl, hb⟩; have hB : Below w.heap.size w w' := Below.thenn (by repeat (first | exact Below.refl _ _ | assumption | apply Below.drew | apply below_drewN | (refine Below.alloc ?_ (by first | omega | (simp; done) | (simp; omega)) _) | (refine Below.setCell ?_ (by first | omega | (simp; done) | (simp; omega)) _))) hb (by first | omega | (simp; done) | (simp; omega)); have hz : w.heap.size + 2 ≤ w'.heap.size := (by have h := hb.size; (try simp at h); omega); obtain ⟨hc, hf⟩ := bcell hb; clear hb) | (go_at_call 13; refine (toWindState_any _ _ _).mono ?_; rintro e w' ⟨rfl, hb⟩; have hB : Below w.heap.size w w' := Below.thenn (by repeat (first | exact Below.refl _ _ | assumption | apply Below.drew | apply below_drewN | (refine Below.alloc ?_ (by first | omega | (simp; done) | (simp; omega)) _) | (refine Below.setCell ?_ (by first | omega | (simp; done) | (simp; omega)) _))) hb (by first | omega | (simp; done) | (simp; omega)); have hz : w.heap.size + 2 ≤ w'.heap.size := (by have h := hb.size; (try simp at h); omega); obtain ⟨hc, hf⟩ := bcell hb; clear hb) | (go_at_call 12; refine (CS.out _).mono ?_; rintro e w' ⟨rfl, hb⟩; have hB : Below w.heap.size w w' := Below.thenn (by repeat (first | exact Below.refl _ _ | assumption | apply Below.drew | apply below_drewN | (refine Below.alloc ?_ (by first | omega | (simp; done) | (simp; omega)) _) | (refine Below.setCell ?_ (by first | omega | (simp; done) | (simp; omega)) _))) hb (by first | omega | (simp; done) | (simp; omega)); have hz : w.heap.size + 2 ≤ w'.heap.size := (by have h := hb.size; (try simp at h); omega); obtain ⟨hc, hf⟩ := bcell hb; clear hb))
  go_wp2_with fail
  go_region_held3 (fun w' => w'.cell? ⟨w.heap.size, 0, none⟩ = some (.int .i64 a) ∧ w'.cell? ⟨w.heap.size, 1, none⟩ = some (.int .i64 b) ∧ w'.cell? ⟨w.heap.size, 2, none⟩ = some (.int .i64 c) ∧ w'.cell? ⟨w.heap.size, 3, none⟩ = some (.int .i64 d) ∧ w'.cell? ⟨w.heap.size + 1, 0, none⟩ = some (.int .i64 l) ∧ w'.cell? ⟨w.heap.size + 1, 1, none⟩ = some (.int .i64 k) ∧ Below w.heap.size w w' ∧ w.heap.size + 2 ≤ w'.heap.size) (((try dsimp only); (repeat' apply And.intro) <;> first | assumption | (rw [hc _ _ (by first | omega | (simp; done) | (simp; omega))]; first | assumption | (simp [*]; done)) | (simp [*]; done) | (simp; omega) | (exact (by repeat (first | exact Below.refl _ _ | assumption | apply Below.drew | apply below_drewN | (refine Below.alloc ?_ (by first | omega | (simp; done) | (simp; omega)) _) | (refine Below.setCell ?_ (by first | omega | (simp; done) | (simp; omega)) _))))))
    (first | (go_at_call 8; refine (toWindRule_any _ _ _ _ _).mono ?_; rintro e w' ⟨rfl, hb⟩; have hB : Below w.heap.size w w' := Below.thenn (by repeat (first | exact Below.refl _ _ | assumption | apply Below.drew | apply below_drewN | (refine Below.alloc ?_ (by first | omega | (simp; done) | (simp; omega)) _) | (refine Below.setCell ?_ (by first | omega | (simp; done) | (simp; omega)) _))) hb (by first | omega | (simp; done) | (simp; omega)); have hz : w.heap.size + 2 ≤ w'.heap.size := (by have h := hb.size; (try simp at h); omega); obtain ⟨hc, hf⟩ := bcell hb; clear hb) | (go_at_call 13; refine (toWindState_any _ _ _).mono ?_; rintro e w' ⟨rfl, hb⟩; have hB : Below w.heap.size w w' := Below.thenn (by repeat (first | exact Below.refl _ _ | assumption | apply Below.drew | apply below_drewN | (refine Below.alloc ?_ (by first | omega | (simp; done) | (simp; omega)) _) | (refine Below.setCell ?_ (by first | omega | (simp; done) | (simp; omega)) _))) hb (by first | omega | (simp; done) | (simp; omega)); have hz : w.heap.size + 2 ≤ w'.heap.size := (by have h := hb.size; (try simp at h); omega); obtain ⟨hc, hf⟩ := bcell hb; clear hb) | (go_at_call 14; refine (CI.out _).mono ?_; rintro e w' ⟨rfl, hb⟩; have hB : Below w.heap.size w w' := Below.thenn (by repeat (first | exact Below.refl _ _ | assumption | apply Below.drew | apply below_drewN | (refine Below.alloc ?_ (by first | omega | (simp; done) | (simp; omega)) _) | (refine Below.setCell ?_ (by first | omega | (simp; done) | (simp; omega)) _))) hb (by first | omega | (simp; done) | (simp; omega)); have hz : w.heap.size + 2 ≤ w'.heap.size := (by have h := hb.size; (try simp at h); omega); obtain ⟨hc, hf⟩ := bcell hb; clear hb))
  go_wp2_with fail
  all_goals (go_ret; exact ⟨rfl, (by repeat (first | exact Below.refl _ _ | assumption | apply Below.drew | apply below_drewN | (refine Below.alloc ?_ (by first | omega | (simp; done) | (simp; omega)) _) | (refine Below.setCell ?_ (by first | omega | (simp; done) | (simp; omega)) _)))⟩)
end Go.Proofs.Ytphhklfpgmhfkaa
