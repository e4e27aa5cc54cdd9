/- The wind laws: the law's functions return true. -/
import Derived.Test.YtphhklfpgmhfkaaWind
import Derived.Deep.RegionHeld3
import Derived.Deep.DeepCutAuto
import Derived.Deep.RegionWith
namespace Go.Proofs.Ytphhklfpgmhfkaa
open Go.RowKit
set_option linter.unusedVariables false
set_option linter.unusedSimpArgs false

abbrev ruleV (a b c d : Int) : Value := .agg #[.int .i64 a, .int .i64 b, .int .i64 c, .int .i64 d]
theorem toWindRule_any (a b c d : Int) (w : World) : Calls Try.prog 8 #[.agg #[.int .i64 a, .int .i64 b, .int .i64 c, .int .i64 d]] w (Ret w (.agg #[.int .i64 a, .int .i64 b, .int .i64 c, .int .i64 d])) := by
  go_enter Try.func8, Try.ntmps8
  go_wp2
  all_goals (go_light; refine bodyPost_ret ?_ rfl ⟨rfl, (by repeat (first | exact Below.refl _ _ | assumption | apply Below.drew | (refine Below.alloc ?_ (by first | omega | (simp; done) | (simp; omega)) _) | (refine Below.setCell ?_ (by first | omega | (simp; done) | (simp; omega)) _)))⟩; simp [results, Try.results8, go_sem, *])
theorem toWindState_any (l k : Int) (w : World) : Calls Try.prog 13 #[.agg #[.int .i64 l, .int .i64 k]] w (Ret w (.agg #[.int .i64 l, .int .i64 k])) := by
  go_enter Try.func13, Try.ntmps13
  go_wp2
  all_goals (go_light; refine bodyPost_ret ?_ rfl ⟨rfl, (by repeat (first | exact Below.refl _ _ | assumption | apply Below.drew | (refine Below.alloc ?_ (by first | omega | (simp; done) | (simp; omega)) _) | (refine Below.setCell ?_ (by first | omega | (simp; done) | (simp; omega)) _)))⟩; simp [results, Try.results13, go_sem, *])
theorem eqWindState_any (l k l' k' : Int) (w : World) : Calls Try.prog 17 #[.agg #[.int .i64 l, .int .i64 k], .agg #[.int .i64 l', .int .i64 k']] w (Ret w (.bool (decide (l = l' ∧ k = k')))) := by
  go_enter Try.func17, Try.ntmps17
  go_wp2
  all_goals (go_ret; exact ⟨ret_bool (by (rw [Bool.eq_iff_iff]; simp [*] at *; omega)), (by repeat (first | exact Below.refl _ _ | assumption | apply Below.drew | (refine Below.alloc ?_ (by first | omega | (simp; done) | (simp; omega)) _) | (refine Below.setCell ?_ (by first | omega | (simp; done) | (simp; omega)) _)))⟩)
theorem spec_IsWindRule (a b c d : Int) (w : World) : Calls Try.prog 7 #[.agg #[.int .i64 a, .int .i64 b, .int .i64 c, .int .i64 d]] w (Ret w (.bool (rule a b c d))) := by
  go_enter Try.func7, Try.ntmps7
  go_wp2_with (first | (go_at_call 18; refine (spec_l12Rule _ _ _ _ _).mono ?_; rintro e w' ⟨rfl, hb⟩; have hB : Below w.heap.size w w' := Below.thenn (by repeat (first | exact Below.refl _ _ | assumption | apply Below.drew | (refine Below.alloc ?_ (by first | omega | (simp; done) | (simp; omega)) _) | (refine Below.setCell ?_ (by first | omega | (simp; done) | (simp; omega)) _))) hb (by first | omega | (simp; done) | (simp; omega)); have hz : w.heap.size ≤ w'.heap.size := hB.size; obtain ⟨hc, hf⟩ := bcell hb; clear hb))
  all_goals (go_ret; exact ⟨rfl, (by repeat (first | exact Below.refl _ _ | assumption | apply Below.drew | (refine Below.alloc ?_ (by first | omega | (simp; done) | (simp; omega)) _) | (refine Below.setCell ?_ (by first | omega | (simp; done) | (simp; omega)) _)))⟩)
theorem law_FnExactIsWindRule (a b c d : Int) (w : World) : Calls Try.prog 3 #[.agg #[.int .i64 a, .int .i64 b, .int .i64 c, .int .i64 d]] w (Ret w (.bool true)) := by
  go_enter Try.func3, Try.ntmps3
  go_wp2_with (first | (go_at_call 8; refine (toWindRule_any _ _ _ _ _).mono ?_; rintro e w' ⟨rfl, hb⟩; have hB : Below w.heap.size w w' := Below.thenn (by repeat (first | exact Below.refl _ _ | assumption | apply Below.drew | (refine Below.alloc ?_ (by first | omega | (simp; done) | (simp; omega)) _) | (refine Below.setCell ?_ (by first | omega | (simp; done) | (simp; omega)) _))) hb (by first | omega | (simp; done) | (simp; omega)); have hz : w.heap.size < w'.heap.size := (by have h := hb.size; (try simp at h); omega); obtain ⟨hc, hf⟩ := bcell hb; clear hb) | (go_at_call 7; refine (spec_IsWindRule _ _ _ _ _).mono ?_; rintro e w' ⟨rfl, hb⟩; have hB : Below w.heap.size w w' := Below.thenn (by repeat (first | exact Below.refl _ _ | assumption | apply Below.drew | (refine Below.alloc ?_ (by first | omega | (simp; done) | (simp; omega)) _) | (refine Below.setCell ?_ (by first | omega | (simp; done) | (simp; omega)) _))) hb (by first | omega | (simp; done) | (simp; omega)); have hz : w.heap.size < w'.heap.size := (by have h := hb.size; (try simp at h); omega); obtain ⟨hc, hf⟩ := bcell hb; clear hb) | (go_at_call 9; refine (impl_IsWindRule _ _ _ _ _).mono ?_; rintro e w' ⟨rfl, hb⟩; have hB : Below w.heap.size w w' := Below.thenn (by repeat (first | exact Below.refl _ _ | assumption | apply Below.drew | (refine Below.alloc ?_ (by first | omega | (simp; done) | (simp; omega)) _) | (refine Below.setCell ?_ (by first | omega | (simp; done) | (simp; omega)) _))) hb (by first | omega | (simp; done) | (simp; omega)); have hz : w.heap.size < w'.heap.size := (by have h := hb.size; (try simp at h); omega); obtain ⟨hc, hf⟩ := bcell hb; clear hb))
  all_goals (go_ret; exact ⟨rfl, (by repeat (first | exact Below.refl _ _ | assumption | apply Below.drew | (refine Below.alloc ?_ (by first | omega | (simp; done) | (simp; omega)) _) | (refine Below.setCell ?_ (by first | omega | (simp; done) | (simp; omega)) _)))⟩)
theorem impl_GreatestFree (a b c d : Int) (w : World) : Calls Try.prog 11 #[.agg #[.int .i64 a, .int .i64 b, .int .i64 c, .int .i64 d]] w
    (Ret w (.tuple #[.int .i64 (if rule a b c d then a - 1 else 0), .bool (rule a b c d)])) := by
  go_enter Try.func11, Try.ntmps11
  go_wp2_with (first | (go_at_call 9; refine (impl_IsWindRule _ _ _ _ _).mono ?_; rintro e w' ⟨rfl, hb⟩; have hB : Below w.heap.size w w' := Below.thenn (by repeat (first | exact Below.refl _ _ | assumption | apply Below.drew | (refine Below.alloc ?_ (by first | omega | (simp; done) | (simp; omega)) _) | (refine Below.setCell ?_ (by first | omega | (simp; done) | (simp; omega)) _))) hb (by first | omega | (simp; done) | (simp; omega)); have hz : w.heap.size < w'.heap.size := (by have h := hb.size; (try simp at h); omega); obtain ⟨hc, hf⟩ := bcell hb; clear hb))
  all_goals (go_ret2; exact ⟨ret_ib (by (first | rfl | (simp_all [rule, wrap64]; done) | (simp [rule, wrap64] at *; omega) | (simp_all [rule, wrap64]; omega))) (by (first | rfl | (simp_all [rule, wrap64]; done) | (simp [rule, wrap64] at *; omega) | (simp_all [rule, wrap64]; omega))), (by repeat (first | exact Below.refl _ _ | assumption | apply Below.drew | (refine Below.alloc ?_ (by first | omega | (simp; done) | (simp; omega)) _) | (refine Below.setCell ?_ (by first | omega | (simp; done) | (simp; omega)) _)))⟩)
theorem spec_GreatestFree (a b c d : Int) (w : World) : Calls Try.prog 10 #[.agg #[.int .i64 a, .int .i64 b, .int .i64 c, .int .i64 d]] w
    (Ret w (.tuple #[.int .i64 (if rule a b c d then a - 1 else 0), .bool (rule a b c d)])) := by
  go_enter Try.func10, Try.ntmps10
  go_wp2_with (first | (go_at_call 18; refine (spec_l12Rule _ _ _ _ _).mono ?_; rintro e w' ⟨rfl, hb⟩; have hB : Below w.heap.size w w' := Below.thenn (by repeat (first | exact Below.refl _ _ | assumption | apply Below.drew | (refine Below.alloc ?_ (by first | omega | (simp; done) | (simp; omega)) _) | (refine Below.setCell ?_ (by first | omega | (simp; done) | (simp; omega)) _))) hb (by first | omega | (simp; done) | (simp; omega)); have hz : w.heap.size < w'.heap.size := (by have h := hb.size; (try simp at h); omega); obtain ⟨hc, hf⟩ := bcell hb; clear hb))
  all_goals (go_ret2; exact ⟨ret_ib (by (first | rfl | (simp_all [rule, wrap64]; done) | (simp [rule, wrap64] at *; omega) | (simp_all [rule, wrap64]; omega))) (by (first | rfl | (simp_all [rule, wrap64]; done) | (simp [rule, wrap64] at *; omega) | (simp_all [rule, wrap64]; omega))), (by repeat (first | exact Below.refl _ _ | assumption | apply Below.drew | (refine Below.alloc ?_ (by first | omega | (simp; done) | (simp; omega)) _) | (refine Below.setCell ?_ (by first | omega | (simp; done) | (simp; omega)) _)))⟩)
theorem law_FnExactGreatestFree (a b c d : Int) (w : World) : Calls Try.prog 4 #[.agg #[.int .i64 a, .int .i64 b, .int .i64 c, .int .i64 d]] w (Ret w (.bool true)) := by
  obtain ⟨x, hx⟩ : ∃ x, (if rule a b c d then a - 1 else 0) = x := ⟨_, rfl⟩
  have ci := fun w => impl_GreatestFree a b c d w
  have cs := fun w => spec_GreatestFree a b c d w
  rw [hx] at ci cs
  have CI := Lib.hid ci
  have CS := Lib.hid cs
  clear hx ci cs
  go_enter Try.func4, Try.ntmps4
  go_wp2_with (first | (go_at_call 8; refine (toWindRule_any _ _ _ _ _).mono ?_; rintro e w' ⟨rfl, hb⟩; have hB : Below w.heap.size w w' := Below.thenn (by repeat (first | exact Below.refl _ _ | assumption | apply Below.drew | (refine Below.alloc ?_ (by first | omega | (simp; done) | (simp; omega)) _) | (refine Below.setCell ?_ (by first | omega | (simp; done) | (simp; omega)) _))) hb (by first | omega | (simp; done) | (simp; omega)); have hz : w.heap.size < w'.heap.size := (by have h := hb.size; (try simp at h); omega); obtain ⟨hc, hf⟩ := bcell hb; clear hb) | (go_at_call 10; refine (CS.out _).mono ?_; rintro e w' ⟨rfl, hb⟩; have hB : Below w.heap.size w w' := Below.thenn (by repeat (first | exact Below.refl _ _ | assumption | apply Below.drew | (refine Below.alloc ?_ (by first | omega | (simp; done) | (simp; omega)) _) | (refine Below.setCell ?_ (by first | omega | (simp; done) | (simp; omega)) _))) hb (by first | omega | (simp; done) | (simp; omega)); have hz : w.heap.size < w'.heap.size := (by have h := hb.size; (try simp at h); omega); obtain ⟨hc, hf⟩ := bcell hb; clear hb) | (go_at_call 11; refine (CI.out _).mono ?_; rintro e w' ⟨rfl, hb⟩; have hB : Below w.heap.size w w' := Below.thenn (by repeat (first | exact Below.refl _ _ | assumption | apply Below.drew | (refine Below.alloc ?_ (by first | omega | (simp; done) | (simp; omega)) _) | (refine Below.setCell ?_ (by first | omega | (simp; done) | (simp; omega)) _))) hb (by first | omega | (simp; done) | (simp; omega)); have hz : w.heap.size < w'.heap.size := (by have h := hb.size; (try simp at h); omega); obtain ⟨hc, hf⟩ := bcell hb; clear hb))
  all_goals (go_ret; exact ⟨rfl, (by repeat (first | exact Below.refl _ _ | assumption | apply Below.drew | (refine Below.alloc ?_ (by first | omega | (simp; done) | (simp; omega)) _) | (refine Below.setCell ?_ (by first | omega | (simp; done) | (simp; omega)) _)))⟩)
