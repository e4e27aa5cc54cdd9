/- The wind rules: what the reference's and the program's functions return. -/
import Derived.Test.YtphhklfpgmhfkaaApp
namespace Go.Proofs.Ytphhklfpgmhfkaa
open Go.RowKit
set_option linter.unusedVariables false
set_option linter.unusedSimpArgs false

def inr (n lo hi : Int) : Bool := decide (lo ≤ n ∧ n ≤ hi)
def rule (a b c d : Int) : Bool := decide (2 ≤ a ∧ a < b ∧ b ≤ 60 ∧ 1 ≤ c ∧ c ≤ a - 1 ∧ 1 ≤ d ∧ d ≤ 10)
def stateOk (a b c d l k : Int) : Bool := rule a b c d && decide (0 ≤ l ∧ l ≤ 2 ∧ 0 ≤ k ∧ k ≤ d - 1 ∧ (0 < l ∨ k = 0))

theorem impl_within (n lo hi : Int) (w : World) : Calls Try.prog 19 #[.int .i64 n, .int .i64 lo, .int .i64 hi] w fun e w' => e = .returned (.bool (inr n lo hi)) ∧ w = w' := by
  go_enter Try.func19, Try.ntmps19
  go_wp2
  all_goals (go_ret; exact ⟨ret_bool (by simp [inr]; omega), rfl⟩)
theorem spec_l1In (n lo hi : Int) (w : World) : Calls Try.prog 25 #[.int .i64 n, .int .i64 lo, .int .i64 hi] w fun e w' => e = .returned (.bool (inr n lo hi)) ∧ w = w' := by
  go_enter Try.func25, Try.ntmps25
  go_wp2
  all_goals (go_ret; exact ⟨ret_bool (by simp [inr]; omega), rfl⟩)
theorem impl_IsWindRule (a b c d : Int) (w : World) : Calls Try.prog 9 #[.agg #[.int .i64 a, .int .i64 b, .int .i64 c, .int .i64 d]] w (Ret w (.bool (rule a b c d))) := by
  go_enter Try.func9, Try.ntmps9
  go_wp2_with (go_at_call 19; refine (impl_within _ _ _ _).mono ?_; rintro e w' ⟨rfl, rfl⟩)
  all_goals (go_ret; exact ⟨ret_bool (by (rw [Bool.eq_iff_iff]; simp [rule, inr] at *; omega)), (by repeat (first | exact Below.refl _ _ | assumption | apply Below.drew | apply below_drewN | (refine Below.alloc ?_ (by first | omega | (simp; done) | (simp; omega)) _) | (refine Below.setCell ?_ (by first | omega | (simp; done) | (simp; omega)) _)))⟩)
theorem spec_l12Rule (a b c d : Int) (w : World) : Calls Try.prog 18 #[.agg #[.int .i64 a, .int .i64 b, .int .i64 c, .int .i64 d]] w (Ret w (.bool (rule a b c d))) := by
  go_enter Try.func18, Try.ntmps18
  go_wp2_with (go_at_call 25; refine (spec_l1In _ _ _ _).mono ?_; rintro e w' ⟨rfl, rfl⟩)
  all_goals (go_ret; exact ⟨ret_bool (by (rw [Bool.eq_iff_iff]; simp [rule, inr, wrap64] at *; omega)), (by repeat (first | exact Below.refl _ _ | assumption | apply Below.drew | apply below_drewN | (refine Below.alloc ?_ (by first | omega | (simp; done) | (simp; omega)) _) | (refine Below.setCell ?_ (by first | omega | (simp; done) | (simp; omega)) _)))⟩)
theorem impl_windOk (a b c d l k : Int) (w : World) : Calls Try.prog 22 #[.agg #[.int .i64 a, .int .i64 b, .int .i64 c, .int .i64 d], .agg #[.int .i64 l, .int .i64 k]] w (Ret w (.bool (stateOk a b c d l k))) := by
  go_enter Try.func22, Try.ntmps22
  go_wp2_with (first | (go_at_call 19; refine (impl_within _ _ _ _).mono ?_; rintro e w' ⟨rfl, rfl⟩) | (go_at_call 9; refine (impl_IsWindRule _ _ _ _ _).mono ?_; rintro e w' ⟨rfl, hb⟩; have hB : Below w.heap.size w w' := Below.thenn (by repeat (first | exact Below.refl _ _ | assumption | apply Below.drew | apply below_drewN | (refine Below.alloc ?_ (by first | omega | (simp; done) | (simp; omega)) _) | (refine Below.setCell ?_ (by first | omega | (simp; done) | (simp; omega)) _))) hb (by first | omega | (simp; done) | (simp; omega)); have hz : w.heap.size ≤ w'.heap.size := hB.size; obtain ⟨hc, hf⟩ := bcell hb; clear hb))
  all_goals (go_ret; exact ⟨ret_bool (by (rw [Bool.eq_iff_iff]; simp [stateOk, rule, inr, wrap64] at *; omega)), (by repeat (first | exact Below.refl _ _ | assumption | apply Below.drew | apply below_drewN | (refine Below.alloc ?_ (by first | omega | (simp; done) | (simp; omega)) _) | (refine Below.setCell ?_ (by first | omega | (simp; done) | (simp; omega)) _)))⟩)
theorem spec_l12State (a b c d l k : Int) (w : World) : Calls Try.prog 20 #[.agg #[.int .i64 a, .int .i64 b, .int .i64 c, .int .i64 d], .agg #[.int .i64 l, .int .i64 k]] w (Ret w (.bool (stateOk a b c d l k))) := by
  go_enter Try.func20, Try.ntmps20
  go_wp2_with (first | (go_at_call 25; refine (spec_l1In _ _ _ _).mono ?_; rintro e w' ⟨rfl, rfl⟩) | (go_at_call 18; refine (spec_l12Rule _ _ _ _ _).mono ?_; rintro e w' ⟨rfl, hb⟩; have hB : Below w.heap.size w w' := Below.thenn (by repeat (first | exact Below.refl _ _ | assumption | apply Below.drew | apply below_drewN | (refine Below.alloc ?_ (by first | omega | (simp; done) | (simp; omega)) _) | (refine Below.setCell ?_ (by first | omega | (simp; done) | (simp; omega)) _))) hb (by first | omega | (simp; done) | (simp; omega)); have hz : w.heap.size ≤ w'.heap.size := hB.size; obtain ⟨hc, hf⟩ := bcell hb; clear hb))
  all_goals (go_ret; exact ⟨ret_bool (by (rw [Bool.eq_iff_iff]; simp [stateOk, rule, inr, wrap64] at *; omega)), (by repeat (first | exact Below.refl _ _ | assumption | apply Below.drew | apply below_drewN | (refine Below.alloc ?_ (by first | omega | (simp; done) | (simp; omega)) _) | (refine Below.setCell ?_ (by first | omega | (simp; done) | (simp; omega)) _)))⟩)
/-- The state after a reading. -/
def nxtL (a b c d l k v : Int) : Int := if b ≤ v then 2 else if l = 0 then (if a ≤ v then 1 else 0) else if (if l = 2 then b else a) - c ≤ v then l else if k + 1 = d then l - 1 else l
def nxtK (a b c d l k v : Int) : Int := if b ≤ v then 0 else if l = 0 then (if a ≤ v then 0 else k) else if (if l = 2 then b else a) - c ≤ v then 0 else if k + 1 = d then 0 else k + 1
set_option maxHeartbeats 4000000 in
theorem spec_l12Next (a b c d l k v : Int) (w : World) (h : stateOk a b c d l k = true) (hv : inr v 0 60 = true) : Calls Try.prog 21 #[.agg #[.int .i64 a, .int .i64 b, .int .i64 c, .int .i64 d], .agg #[.int .i64 l, .int .i64 k], .int .i64 v] w
    (Ret w (.agg #[.int .i64 (nxtL a b c d l k v), .int .i64 (nxtK a b c d l k v)])) := by
  simp only [stateOk, rule, inr, Bool.and_eq_true, decide_eq_true_eq] at h hv
  go_enter Try.func21, Try.ntmps21
  go_wp2
  all_goals (go_light; refine bodyPost_ret ?_ rfl ⟨rfl, (by repeat (first | exact Below.refl _ _ | assumption | apply Below.drew | apply below_drewN | (refine Below.alloc ?_ (by first | omega | (simp; done) | (simp; omega)) _) | (refine Below.setCell ?_ (by first | omega | (simp; done) | (simp; omega)) _)))⟩; simp [results, Try.results21, go_sem, nxtL, nxtK] at *)
  all_goals (refine ⟨?_, ?_⟩ <;> (repeat' split) <;> omega)
set_option maxHeartbeats 4000000 in
theorem impl_next (a b c d l k v : Int) (w : World) (h : stateOk a b c d l k = true) (hv : inr v 0 60 = true) : Calls Try.prog 24 #[.agg #[.int .i64 a, .int .i64 b, .int .i64 c, .int .i64 d], .agg #[.int .i64 l, .int .i64 k], .int .i64 v] w
    (Ret w (.agg #[.int .i64 (nxtL a b c d l k v), .int .i64 (nxtK a b c d l k v)])) := by
  simp only [stateOk, rule, inr, Bool.and_eq_true, decide_eq_true_eq] at h hv
  go_enter Try.func24, Try.ntmps24
  go_wp2
  all_goals (go_light; refine bodyPost_ret ?_ rfl ⟨rfl, (by repeat (first | exact Below.refl _ _ | assumption | apply Below.drew | apply below_drewN | (refine Below.alloc ?_ (by first | omega | (simp; done) | (simp; omega)) _) | (refine Below.setCell ?_ (by first | omega | (simp; done) | (simp; omega)) _)))⟩; simp [results, Try.results24, go_sem, nxtL, nxtK] at *)
  all_goals (refine ⟨?_, ?_⟩ <;> (repeat' split) <;> omega)
