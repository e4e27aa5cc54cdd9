/- One grip's answers: the pull, whether it holds, the steepest slope it holds on. -/
import Derived.Test.YtfnpbmndkbaodaaGripH
import Derived.Test.YtfnpbmndkbaodaaDrawB
namespace Go.Proofs.Ytfnpbmndkbaodaa
open Go.RowKit
set_option linter.unusedVariables false
set_option linter.unusedSimpArgs false

def pullOk (l s : Int) : Bool := inr l 100 4000 && inr s 0 100
def pullV (l s : Int) : Int := if pullOk l s then gripPull l s else 0
def dhOk (c f s o t l sl : Int) : Bool := gripOk c f s o t && pullOk l sl
def dhV (c f s o t l sl : Int) : Bool := (gripOk c f s o t && pullOk l sl) && gripHolds f s l sl
/-- The greatest slope under k on which a grip holds. -/
def stK (f s l : Int) : Nat → Option Nat
  | 0 => none
  | k + 1 => if gripHolds f s l (k : Int) then some k else stK f s l k
def shOk (c f s o t l : Int) : Bool := (gripOk c f s o t && inr l 100 4000) && (stK f s l 101).isSome
def shV (c f s o t l : Int) : Int := if gripOk c f s o t && inr l 100 4000 then (((stK f s l 101).getD 0 : Nat) : Int) else 0
theorem pullOk_iff {l s : Int} : pullOk l s = true ↔ (100 ≤ l ∧ l ≤ 4000) ∧ (0 ≤ s ∧ s ≤ 100) := by simp [pullOk, inr]
theorem impl_isPulled (l s : Int) (w : World) : Calls Try.prog 70 #[.int .i64 l, .int .i64 s] w fun e w' => e = .returned (.bool (pullOk l s)) ∧ w = w' := by
  go_enter Try.func70, Try.ntmps70
  go_wp2_with (go_at_call 54; refine (impl_within _ _ _ _).mono ?_; rintro e w' ⟨rfl, rfl⟩)
  all_goals (go_ret; exact ⟨ret_bool (by (rw [Bool.eq_iff_iff]; simp [pullOk, inr] at *; omega)), rfl⟩)
theorem impl_PullOf (l s : Int) (w : World) : Calls Try.prog 36 #[.int .i64 l, .int .i64 s] w (Ret w (.tuple #[.int .i64 (pullV l s), .bool (pullOk l s)])) := by
  have cp := fun w => impl_isPulled l s w
  unfold pullV
  rcases hp : pullOk l s with _ | _
  · rw [hp] at cp
    have CP := Lib.hid cp
    clear cp hp
    go_enter Try.func36, Try.ntmps36
    go_wp2_with (go_at_call 70; refine (CP.out _).mono ?_; rintro e w' ⟨rfl, rfl⟩)
    go_ret2
    exact ⟨rfl, (by repeat (first | exact Below.refl _ _ | assumption | apply Below.drew | apply below_drewN | (refine Below.alloc ?_ (by first | omega | (simp; done) | (simp; omega)) _) | (refine Below.setCell ?_ (by first | omega | (simp; done) | (simp; omega)) _)))⟩
  · have hb := pullOk_iff.1 hp
    have cq := fun w => impl_pullOf l s w (by omega) (by omega) (by omega) (by omega)
    rw [hp] at cp
    simp only [if_true]
    generalize gripPull l s = p at cq ⊢
    have CP := Lib.hid cp
    have CQ := Lib.hid cq
    clear cp cq hp hb
    go_enter Try.func36, Try.ntmps36
    go_wp2_with (first | (go_at_call 70; refine (CP.out _).mono ?_; rintro e w' ⟨rfl, rfl⟩) | (go_at_call 73; refine (CQ.out _).mono ?_; rintro e w' ⟨rfl, rfl⟩))
    go_ret2
    exact ⟨rfl, (by repeat (first | exact Below.refl _ _ | assumption | apply Below.drew | apply below_drewN | (refine Below.alloc ?_ (by first | omega | (simp; done) | (simp; omega)) _) | (refine Below.setCell ?_ (by first | omega | (simp; done) | (simp; omega)) _)))⟩
theorem spec_PullOf (l s : Int) (w : World) : Calls Try.prog 37 #[.int .i64 l, .int .i64 s] w (Ret w (.tuple #[.int .i64 (pullV l s), .bool (pullOk l s)])) := by
  have c1 := fun w => spec_l7Load l w
  have c2 := fun w => spec_l7Slope s w
  unfold pullV
  rcases hp : pullOk l s with _ | _
  · unfold pullOk at hp
    rcases h1 : inr l 100 4000 with _ | _
    · rw [h1] at c1
      have C1 := Lib.hid c1
      clear c1 c2 hp h1
      go_enter Try.func37, Try.ntmps37
      go_wp2_with (go_at_call 58; refine (C1.out _).mono ?_; rintro e w' ⟨rfl, rfl⟩)
      go_ret2
      exact ⟨rfl, (by repeat (first | exact Below.refl _ _ | assumption | apply Below.drew | apply below_drewN | (refine Below.alloc ?_ (by first | omega | (simp; done) | (simp; omega)) _) | (refine Below.setCell ?_ (by first | omega | (simp; done) | (simp; omega)) _)))⟩
    · have h2 : inr s 0 100 = false := by simpa [h1] using hp
      rw [h1] at c1
      rw [h2] at c2
      have C1 := Lib.hid c1
      have C2 := Lib.hid c2
      clear c1 c2 hp h1 h2
      go_enter Try.func37, Try.ntmps37
      go_wp2_with (first | (go_at_call 58; refine (C1.out _).mono ?_; rintro e w' ⟨rfl, rfl⟩) | (go_at_call 57; refine (C2.out _).mono ?_; rintro e w' ⟨rfl, rfl⟩))
      go_ret2
      exact ⟨rfl, (by repeat (first | exact Below.refl _ _ | assumption | apply Below.drew | apply below_drewN | (refine Below.alloc ?_ (by first | omega | (simp; done) | (simp; omega)) _) | (refine Below.setCell ?_ (by first | omega | (simp; done) | (simp; omega)) _)))⟩
  · have hb := pullOk_iff.1 hp
    have cq := fun w => spec_l7Pull l s w (by omega) (by omega) (by omega) (by omega)
    obtain ⟨h1, h2⟩ : inr l 100 4000 = true ∧ inr s 0 100 = true := by simpa [pullOk] using hp
    rw [h1] at c1
    rw [h2] at c2
    simp only [if_true]
    generalize gripPull l s = p at cq ⊢
    have C1 := Lib.hid c1
    have C2 := Lib.hid c2
    have CQ := Lib.hid cq
    clear c1 c2 cq hp hb h1 h2
    go_enter Try.func37, Try.ntmps37
    go_wp2_with (first | (go_at_call 58; refine (C1.out _).mono ?_; rintro e w' ⟨rfl, rfl⟩) | (go_at_call 57; refine (C2.out _).mono ?_; rintro e w' ⟨rfl, rfl⟩) | (go_at_call 74; refine (CQ.out _).mono ?_; rintro e w' ⟨rfl, rfl⟩))
    go_ret2
    exact ⟨rfl, (by repeat (first | exact Below.refl _ _ | assumption | apply Below.drew | apply below_drewN | (refine Below.alloc ?_ (by first | omega | (simp; done) | (simp; omega)) _) | (refine Below.setCell ?_ (by first | omega | (simp; done) | (simp; omega)) _)))⟩
theorem impl_DoesHold (c f s o t l sl : Int) (w : World) : Calls Try.prog 33 #[.agg #[.int .i64 c, .int .i64 f, .int .i64 s, .int .i64 o, .int .i64 t], .int .i64 l, .int .i64 sl] w (Ret w (.tuple #[.bool (dhV c f s o t l sl), .bool (dhOk c f s o t l sl)])) := by
  have ci := fun w => impl_IsGrip c f s o t w
  have cp := fun w => impl_isPulled l sl w
  unfold dhV dhOk
  rcases ht : gripOk c f s o t with _ | _
  · rw [ht] at ci
    have CI := Lib.hid ci
    simp only [Bool.false_and]
    clear ci cp ht
    go_enter Try.func33, Try.ntmps33
    go_wp2_with (go_at_call 48; refine (CI.out _).mono ?_; rintro e w' ⟨rfl, hb⟩; have hB : Below w.heap.size w w' := Below.thenn (by repeat (first | exact Below.refl _ _ | assumption | apply Below.drew | apply below_drewN | (refine Below.alloc ?_ (by first | omega | (simp; done) | (simp; omega)) _) | (refine Below.setCell ?_ (by first | omega | (simp; done) | (simp; omega)) _))) hb (by first | omega | (simp; done) | (simp; omega)); have hz : w.heap.size < w'.heap.size := (by have h := hb.size; (try simp at h); omega); obtain ⟨hc, hf⟩ := bcell hb; clear hb)
    go_ret2
    exact ⟨rfl, (by repeat (first | exact Below.refl _ _ | assumption | apply Below.drew | apply below_drewN | (refine Below.alloc ?_ (by first | omega | (simp; done) | (simp; omega)) _) | (refine Below.setCell ?_ (by first | omega | (simp; done) | (simp; omega)) _)))⟩
  · rw [ht] at ci
    have CI := Lib.hid ci
    rcases hp : pullOk l sl with _ | _
    · rw [hp] at cp
      have CP := Lib.hid cp
      simp only [Bool.true_and, Bool.false_and]
      clear ci cp ht hp
      go_enter Try.func33, Try.ntmps33
      go_wp2_with (first | (go_at_call 48; refine (CI.out _).mono ?_; rintro e w' ⟨rfl, hb⟩; have hB : Below w.heap.size w w' := Below.thenn (by repeat (first | exact Below.refl _ _ | assumption | apply Below.drew | apply below_drewN | (refine Below.alloc ?_ (by first | omega | (simp; done) | (simp; omega)) _) | (refine Below.setCell ?_ (by first | omega | (simp; done) | (simp; omega)) _))) hb (by first | omega | (simp; done) | (simp; omega)); have hz : w.heap.size < w'.heap.size := (by have h := hb.size; (try simp at h); omega); obtain ⟨hc, hf⟩ := bcell hb; clear hb) | (go_at_call 70; refine (CP.out _).mono ?_; rintro e w' ⟨rfl, rfl⟩))
      go_ret2
      exact ⟨rfl, (by repeat (first | exact Below.refl _ _ | assumption | apply Below.drew | apply below_drewN | (refine Below.alloc ?_ (by first | omega | (simp; done) | (simp; omega)) _) | (refine Below.setCell ?_ (by first | omega | (simp; done) | (simp; omega)) _)))⟩
    · have hb := pullOk_iff.1 hp
      have cc := fun w => impl_holds c f s o t l sl w (by omega) (by omega) (by omega) (by omega)
      rw [hp] at cp
      simp only [Bool.true_and]
      generalize gripHolds f s l sl = z at cc ⊢
      have CP := Lib.hid cp
      have CC := Lib.hid cc
      clear ci cp cc ht hp hb
      go_enter Try.func33, Try.ntmps33
      go_wp2_with (first | (go_at_call 48; refine (CI.out _).mono ?_; rintro e w' ⟨rfl, hb⟩; have hB : Below w.heap.size w w' := Below.thenn (by repeat (first | exact Below.refl _ _ | assumption | apply Below.drew | apply below_drewN | (refine Below.alloc ?_ (by first | omega | (simp; done) | (simp; omega)) _) | (refine Below.setCell ?_ (by first | omega | (simp; done) | (simp; omega)) _))) hb (by first | omega | (simp; done) | (simp; omega)); have hz : w.heap.size < w'.heap.size := (by have h := hb.size; (try simp at h); omega); obtain ⟨hc, hf⟩ := bcell hb; clear hb) | (go_at_call 70; refine (CP.out _).mono ?_; rintro e w' ⟨rfl, rfl⟩) | (go_at_call 61; refine (CC.out _).mono ?_; rintro e w' ⟨rfl, hb⟩; have hB : Below w.heap.size w w' := Below.thenn (by repeat (first | exact Below.refl _ _ | assumption | apply Below.drew | apply below_drewN | (refine Below.alloc ?_ (by first | omega | (simp; done) | (simp; omega)) _) | (refine Below.setCell ?_ (by first | omega | (simp; done) | (simp; omega)) _))) hb (by first | omega | (simp; done) | (simp; omega)); have hz : w.heap.size < w'.heap.size := (by have h := hb.size; (try simp at h); omega); obtain ⟨hc, hf⟩ := bcell hb; clear hb))
      go_ret2
      exact ⟨rfl, (by repeat (first | exact Below.refl _ _ | assumption | apply Below.drew | apply below_drewN | (refine Below.alloc ?_ (by first | omega | (simp; done) | (simp; omega)) _) | (refine Below.setCell ?_ (by first | omega | (simp; done) | (simp; omega)) _)))⟩
theorem spec_DoesHold (c f s o t l sl : Int) (w : World) : Calls Try.prog 35 #[.agg #[.int .i64 c, .int .i64 f, .int .i64 s, .int .i64 o, .int .i64 t], .int .i64 l, .int .i64 sl] w (Ret w (.tuple #[.bool (dhV c f s o t l sl), .bool (dhOk c f s o t l sl)])) := by
  have ci := fun w => spec_l7One c f s o t w
  have c1 := fun w => spec_l7Load l w
  have c2 := fun w => spec_l7Slope sl w
  unfold dhV dhOk
  rcases ht : gripOk c f s o t with _ | _
  · rw [ht] at ci
    have CI := Lib.hid ci
    simp only [Bool.false_and]
    clear ci c1 c2 ht
    go_enter Try.func35, Try.ntmps35
    go_wp2_with (go_at_call 71; refine (CI.out _).mono ?_; rintro e w' ⟨rfl, hb⟩; have hB : Below w.heap.size w w' := Below.thenn (by repeat (first | exact Below.refl _ _ | assumption | apply Below.drew | apply below_drewN | (refine Below.alloc ?_ (by first | omega | (simp; done) | (simp; omega)) _) | (refine Below.setCell ?_ (by first | omega | (simp; done) | (simp; omega)) _))) hb (by first | omega | (simp; done) | (simp; omega)); have hz : w.heap.size < w'.heap.size := (by have h := hb.size; (try simp at h); omega); obtain ⟨hc, hf⟩ := bcell hb; clear hb)
    go_ret2
    exact ⟨rfl, (by repeat (first | exact Below.refl _ _ | assumption | apply Below.drew | apply below_drewN | (refine Below.alloc ?_ (by first | omega | (simp; done) | (simp; omega)) _) | (refine Below.setCell ?_ (by first | omega | (simp; done) | (simp; omega)) _)))⟩
  · rw [ht] at ci
    have CI := Lib.hid ci
    rcases h1 : inr l 100 4000 with _ | _
    · rw [h1] at c1
      have C1 := Lib.hid c1
      rw [show pullOk l sl = false by simp [pullOk, h1]]
      simp only [Bool.true_and, Bool.false_and]
      clear ci c1 c2 ht h1
      go_enter Try.func35, Try.ntmps35
      go_wp2_with (first | (go_at_call 71; refine (CI.out _).mono ?_; rintro e w' ⟨rfl, hb⟩; have hB : Below w.heap.size w w' := Below.thenn (by repeat (first | exact Below.refl _ _ | assumption | apply Below.drew | apply below_drewN | (refine Below.alloc ?_ (by first | omega | (simp; done) | (simp; omega)) _) | (refine Below.setCell ?_ (by first | omega | (simp; done) | (simp; omega)) _))) hb (by first | omega | (simp; done) | (simp; omega)); have hz : w.heap.size < w'.heap.size := (by have h := hb.size; (try simp at h); omega); obtain ⟨hc, hf⟩ := bcell hb; clear hb) | (go_at_call 58; refine (C1.out _).mono ?_; rintro e w' ⟨rfl, rfl⟩))
      go_ret2
      exact ⟨rfl, (by repeat (first | exact Below.refl _ _ | assumption | apply Below.drew | apply below_drewN | (refine Below.alloc ?_ (by first | omega | (simp; done) | (simp; omega)) _) | (refine Below.setCell ?_ (by first | omega | (simp; done) | (simp; omega)) _)))⟩
    · rw [h1] at c1
      have C1 := Lib.hid c1
      rcases h2 : inr sl 0 100 with _ | _
      · rw [h2] at c2
        have C2 := Lib.hid c2
        rw [show pullOk l sl = false by simp [pullOk, h2]]
        simp only [Bool.true_and, Bool.false_and]
        clear ci c1 c2 ht h1 h2
        go_enter Try.func35, Try.ntmps35
        go_wp2_with (first | (go_at_call 71; refine (CI.out _).mono ?_; rintro e w' ⟨rfl, hb⟩; have hB : Below w.heap.size w w' := Below.thenn (by repeat (first | exact Below.refl _ _ | assumption | apply Below.drew | apply below_drewN | (refine Below.alloc ?_ (by first | omega | (simp; done) | (simp; omega)) _) | (refine Below.setCell ?_ (by first | omega | (simp; done) | (simp; omega)) _))) hb (by first | omega | (simp; done) | (simp; omega)); have hz : w.heap.size < w'.heap.size := (by have h := hb.size; (try simp at h); omega); obtain ⟨hc, hf⟩ := bcell hb; clear hb) | (go_at_call 58; refine (C1.out _).mono ?_; rintro e w' ⟨rfl, rfl⟩) | (go_at_call 57; refine (C2.out _).mono ?_; rintro e w' ⟨rfl, rfl⟩))
        go_ret2
        exact ⟨rfl, (by repeat (first | exact Below.refl _ _ | assumption | apply Below.drew | apply below_drewN | (refine Below.alloc ?_ (by first | omega | (simp; done) | (simp; omega)) _) | (refine Below.setCell ?_ (by first | omega | (simp; done) | (simp; omega)) _)))⟩
      · rw [h2] at c2
        have C2 := Lib.hid c2
        have hp : pullOk l sl = true := by simp [pullOk, h1, h2]
        have hb := pullOk_iff.1 hp
        have cc := fun w => spec_l7Holds c f s o t l sl w (by omega) (by omega) (by omega) (by omega)
        rw [hp]
        simp only [Bool.true_and]
        generalize gripHolds f s l sl = z at cc ⊢
        have CC := Lib.hid cc
        clear ci c1 c2 cc ht hp hb h1 h2
        go_enter Try.func35, Try.ntmps35
        go_wp2_with (first | (go_at_call 71; refine (CI.out _).mono ?_; rintro e w' ⟨rfl, hb⟩; have hB : Below w.heap.size w w' := Below.thenn (by repeat (first | exact Below.refl _ _ | assumption | apply Below.drew | apply below_drewN | (refine Below.alloc ?_ (by first | omega | (simp; done) | (simp; omega)) _) | (refine Below.setCell ?_ (by first | omega | (simp; done) | (simp; omega)) _))) hb (by first | omega | (simp; done) | (simp; omega)); have hz : w.heap.size < w'.heap.size := (by have h := hb.size; (try simp at h); omega); obtain ⟨hc, hf⟩ := bcell hb; clear hb) | (go_at_call 58; refine (C1.out _).mono ?_; rintro e w' ⟨rfl, rfl⟩) | (go_at_call 57; refine (C2.out _).mono ?_; rintro e w' ⟨rfl, rfl⟩) | (go_at_call 59; refine (CC.out _).mono ?_; rintro e w' ⟨rfl, hb⟩; have hB : Below w.heap.size w w' := Below.thenn (by repeat (first | exact Below.refl _ _ | assumption | apply Below.drew | apply below_drewN | (refine Below.alloc ?_ (by first | omega | (simp; done) | (simp; omega)) _) | (refine Below.setCell ?_ (by first | omega | (simp; done) | (simp; omega)) _))) hb (by first | omega | (simp; done) | (simp; omega)); have hz : w.heap.size < w'.heap.size := (by have h := hb.size; (try simp at h); omega); obtain ⟨hc, hf⟩ := bcell hb; clear hb))
        go_ret2
        exact ⟨rfl, (by repeat (first | exact Below.refl _ _ | assumption | apply Below.drew | apply below_drewN | (refine Below.alloc ?_ (by first | omega | (simp; done) | (simp; omega)) _) | (refine Below.setCell ?_ (by first | omega | (simp; done) | (simp; omega)) _)))⟩
end Go.Proofs.Ytfnpbmndkbaodaa
