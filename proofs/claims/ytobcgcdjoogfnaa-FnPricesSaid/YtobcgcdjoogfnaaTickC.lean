/- The tickets: the exported functions on one ticket and their laws. -/
import Derived.Test.YtobcgcdjoogfnaaTickB
namespace Go.Proofs.Ytobcgcdjoogfnaa
open Go.RowKit
set_option linter.unusedVariables false
set_option linter.unusedSimpArgs false

theorem spec_l11Can (n k dy u d : Int) (day : Int) (up : Bool) (w : World) (h : tickR n k dy u d = true) : Calls Try.prog 63 #[.agg #[.int .i64 n, .int .i64 k, .int .i64 dy, .int .i64 u, .int .i64 d], .int .i64 day, .bool up] w (Ret w (.bool (canT k dy u d day up))) := by
  have cl := fun w => spec_l11Rides n k dy u d day w h
  have e : canT k dy u d day up = if up then decide (0 < ridU k dy u d day) else decide (0 < ridD k dy u d day) := by
    unfold canT ridU ridD
    rcases openOn k dy day <;> rcases up <;> simp
  rw [e]
  clear e
  generalize ridU k dy u d day = x at cl ⊢
  generalize ridD k dy u d day = y at cl ⊢
  have CL := Lib.hid cl
  clear cl
  rcases up with _ | _
  all_goals (go_enter Try.func63, Try.ntmps63)
  all_goals go_wp2_with (go_at_call 61; refine (CL.out _).mono ?_; rintro e w' ⟨rfl, hb⟩; have hB : Below w.heap.size w w' := Below.thenn (by repeat (first | exact Below.refl _ _ | assumption | apply Below.drew | apply below_drewN | (refine Below.alloc ?_ (by first | omega | (simp; done) | (simp; omega)) _) | (refine Below.setCell ?_ (by first | omega | (simp; done) | (simp; omega)) _))) hb (by first | omega | (simp; done) | (simp; omega)); have hz : w.heap.size < w'.heap.size := (by have h := hb.size; (try simp at h); omega); obtain ⟨hc, hf⟩ := bcell hb; clear hb)
  all_goals (go_ret; exact ⟨ret_bool (by first | rfl | (simp [*]; done) | (simp_all; done) | (rw [Bool.eq_iff_iff]; first | (simp [*]; done) | (simp [*]; omega) | (simp [*]; intros; omega) | (simp at *; omega))), (by repeat (first | exact Below.refl _ _ | assumption | apply Below.drew | apply below_drewN | (refine Below.alloc ?_ (by first | omega | (simp; done) | (simp; omega)) _) | (refine Below.setCell ?_ (by first | omega | (simp; done) | (simp; omega)) _)))⟩)
def crOk (n k dy u d day : Int) : Bool := tickOk n k dy u d && inr day 0 999
def crV (n k dy u d day : Int) (up : Bool) : Bool := crOk n k dy u d day && canT k dy u d day up
theorem impl_CanRide (n k dy u d : Int) (day : Int) (up : Bool) (w : World) : Calls Try.prog 21 #[.agg #[.int .i64 n, .int .i64 k, .int .i64 dy, .int .i64 u, .int .i64 d], .int .i64 day, .bool up] w (Ret w (.tuple #[.bool (crV n k dy u d day up), .bool (crOk n k dy u d day)])) := by
  have ci := fun w => impl_IsTicket n k dy u d w
  rcases ht : tickOk n k dy u d with _ | _
  · rw [show crV n k dy u d day up = false by simp [crV, crOk, ht], show crOk n k dy u d day = false by simp [crOk, ht]]
    rw [ht] at ci
    have CI := Lib.hid ci
    clear ci ht
    go_enter Try.func21, Try.ntmps21
    go_wp2_with (go_at_call 17; refine (CI.out _).mono ?_; rintro e w' ⟨rfl, hb⟩; have hB : Below w.heap.size w w' := Below.thenn (by repeat (first | exact Below.refl _ _ | assumption | apply Below.drew | apply below_drewN | (refine Below.alloc ?_ (by first | omega | (simp; done) | (simp; omega)) _) | (refine Below.setCell ?_ (by first | omega | (simp; done) | (simp; omega)) _))) hb (by first | omega | (simp; done) | (simp; omega)); have hz : w.heap.size < w'.heap.size := (by have h := hb.size; (try simp at h); omega); obtain ⟨hc, hf⟩ := bcell hb; clear hb)
    go_ret2
    exact ⟨rfl, (by repeat (first | exact Below.refl _ _ | assumption | apply Below.drew | apply below_drewN | (refine Below.alloc ?_ (by first | omega | (simp; done) | (simp; omega)) _) | (refine Below.setCell ?_ (by first | omega | (simp; done) | (simp; omega)) _)))⟩
  · have hr : tickR n k dy u d = true := by simp only [tickOk, Bool.and_eq_true] at ht; exact ht.1
    have cc := fun w => impl_canRide n k dy u d day up w hr
    unfold crV crOk
    rw [ht] at ci ⊢
    generalize canT k dy u d day up = z at cc ⊢
    have CI := Lib.hid ci
    have CC := Lib.hid cc
    clear ci cc hr ht
    rcases hd : inr day 0 999 with _ | _
    all_goals (go_enter Try.func21, Try.ntmps21)
    all_goals go_wp2_with (first | (go_at_call 17; refine (CI.out _).mono ?_; rintro e w' ⟨rfl, hb⟩; have hB : Below w.heap.size w w' := Below.thenn (by repeat (first | exact Below.refl _ _ | assumption | apply Below.drew | apply below_drewN | (refine Below.alloc ?_ (by first | omega | (simp; done) | (simp; omega)) _) | (refine Below.setCell ?_ (by first | omega | (simp; done) | (simp; omega)) _))) hb (by first | omega | (simp; done) | (simp; omega)); have hz : w.heap.size < w'.heap.size := (by have h := hb.size; (try simp at h); omega); obtain ⟨hc, hf⟩ := bcell hb; clear hb) | (go_at_call 58; refine (impl_isDay _ _).mono ?_; rintro e w' ⟨rfl, rfl⟩) | (go_at_call 64; refine (CC.out _).mono ?_; rintro e w' ⟨rfl, hb⟩; have hB : Below w.heap.size w w' := Below.thenn (by repeat (first | exact Below.refl _ _ | assumption | apply Below.drew | apply below_drewN | (refine Below.alloc ?_ (by first | omega | (simp; done) | (simp; omega)) _) | (refine Below.setCell ?_ (by first | omega | (simp; done) | (simp; omega)) _))) hb (by first | omega | (simp; done) | (simp; omega)); have hz : w.heap.size < w'.heap.size := (by have h := hb.size; (try simp at h); omega); obtain ⟨hc, hf⟩ := bcell hb; clear hb))
    all_goals (go_ret2; exact ⟨rfl, (by repeat (first | exact Below.refl _ _ | assumption | apply Below.drew | apply below_drewN | (refine Below.alloc ?_ (by first | omega | (simp; done) | (simp; omega)) _) | (refine Below.setCell ?_ (by first | omega | (simp; done) | (simp; omega)) _)))⟩)
theorem spec_CanRide (n k dy u d : Int) (day : Int) (up : Bool) (w : World) : Calls Try.prog 20 #[.agg #[.int .i64 n, .int .i64 k, .int .i64 dy, .int .i64 u, .int .i64 d], .int .i64 day, .bool up] w (Ret w (.tuple #[.bool (crV n k dy u d day up), .bool (crOk n k dy u d day)])) := by
  have ci := fun w => spec_l11One n k dy u d w
  rcases ht : tickOk n k dy u d with _ | _
  · rw [show crV n k dy u d day up = false by simp [crV, crOk, ht], show crOk n k dy u d day = false by simp [crOk, ht]]
    rw [ht] at ci
    have CI := Lib.hid ci
    clear ci ht
    go_enter Try.func20, Try.ntmps20
    go_wp2_with (go_at_call 56; refine (CI.out _).mono ?_; rintro e w' ⟨rfl, hb⟩; have hB : Below w.heap.size w w' := Below.thenn (by repeat (first | exact Below.refl _ _ | assumption | apply Below.drew | apply below_drewN | (refine Below.alloc ?_ (by first | omega | (simp; done) | (simp; omega)) _) | (refine Below.setCell ?_ (by first | omega | (simp; done) | (simp; omega)) _))) hb (by first | omega | (simp; done) | (simp; omega)); have hz : w.heap.size < w'.heap.size := (by have h := hb.size; (try simp at h); omega); obtain ⟨hc, hf⟩ := bcell hb; clear hb)
    go_ret2
    exact ⟨rfl, (by repeat (first | exact Below.refl _ _ | assumption | apply Below.drew | apply below_drewN | (refine Below.alloc ?_ (by first | omega | (simp; done) | (simp; omega)) _) | (refine Below.setCell ?_ (by first | omega | (simp; done) | (simp; omega)) _)))⟩
  · have hr : tickR n k dy u d = true := by simp only [tickOk, Bool.and_eq_true] at ht; exact ht.1
    have cc := fun w => spec_l11Can n k dy u d day up w hr
    unfold crV crOk
    rw [ht] at ci ⊢
    generalize canT k dy u d day up = z at cc ⊢
    have CI := Lib.hid ci
    have CC := Lib.hid cc
    clear ci cc hr ht
    rcases hd : inr day 0 999 with _ | _
    all_goals (go_enter Try.func20, Try.ntmps20)
    all_goals go_wp2_with (first | (go_at_call 56; refine (CI.out _).mono ?_; rintro e w' ⟨rfl, hb⟩; have hB : Below w.heap.size w w' := Below.thenn (by repeat (first | exact Below.refl _ _ | assumption | apply Below.drew | apply below_drewN | (refine Below.alloc ?_ (by first | omega | (simp; done) | (simp; omega)) _) | (refine Below.setCell ?_ (by first | omega | (simp; done) | (simp; omega)) _))) hb (by first | omega | (simp; done) | (simp; omega)); have hz : w.heap.size < w'.heap.size := (by have h := hb.size; (try simp at h); omega); obtain ⟨hc, hf⟩ := bcell hb; clear hb) | (go_at_call 60; refine (spec_l11Day _ _).mono ?_; rintro e w' ⟨rfl, rfl⟩) | (go_at_call 63; refine (CC.out _).mono ?_; rintro e w' ⟨rfl, hb⟩; have hB : Below w.heap.size w w' := Below.thenn (by repeat (first | exact Below.refl _ _ | assumption | apply Below.drew | apply below_drewN | (refine Below.alloc ?_ (by first | omega | (simp; done) | (simp; omega)) _) | (refine Below.setCell ?_ (by first | omega | (simp; done) | (simp; omega)) _))) hb (by first | omega | (simp; done) | (simp; omega)); have hz : w.heap.size < w'.heap.size := (by have h := hb.size; (try simp at h); omega); obtain ⟨hc, hf⟩ := bcell hb; clear hb))
    all_goals (go_ret2; exact ⟨rfl, (by repeat (first | exact Below.refl _ _ | assumption | apply Below.drew | apply below_drewN | (refine Below.alloc ?_ (by first | omega | (simp; done) | (simp; omega)) _) | (refine Below.setCell ?_ (by first | omega | (simp; done) | (simp; omega)) _)))⟩)
def rlU (n k dy u d day : Int) : Int := if crOk n k dy u d day then ridU k dy u d day else 0
def rlD (n k dy u d day : Int) : Int := if crOk n k dy u d day then ridD k dy u d day else 0
theorem spec_RidesLeft (n k dy u d : Int) (day : Int) (w : World) : Calls Try.prog 18 #[.agg #[.int .i64 n, .int .i64 k, .int .i64 dy, .int .i64 u, .int .i64 d], .int .i64 day] w (Ret w (.tuple #[.int .i64 (rlU n k dy u d day), .int .i64 (rlD n k dy u d day), .bool (crOk n k dy u d day)])) := by
  have ci := fun w => spec_l11One n k dy u d w
  rcases ht : tickOk n k dy u d with _ | _
  · rw [show rlU n k dy u d day = 0 by simp [rlU, crOk, ht], show rlD n k dy u d day = 0 by simp [rlD, crOk, ht], show crOk n k dy u d day = false by simp [crOk, ht]]
    rw [ht] at ci
    have CI := Lib.hid ci
    clear ci ht
    go_enter Try.func18, Try.ntmps18
    go_wp2_with (go_at_call 56; refine (CI.out _).mono ?_; rintro e w' ⟨rfl, hb⟩; have hB : Below w.heap.size w w' := Below.thenn (by repeat (first | exact Below.refl _ _ | assumption | apply Below.drew | apply below_drewN | (refine Below.alloc ?_ (by first | omega | (simp; done) | (simp; omega)) _) | (refine Below.setCell ?_ (by first | omega | (simp; done) | (simp; omega)) _))) hb (by first | omega | (simp; done) | (simp; omega)); have hz : w.heap.size < w'.heap.size := (by have h := hb.size; (try simp at h); omega); obtain ⟨hc, hf⟩ := bcell hb; clear hb)
    (go_light; refine bodyPost_ret ?_ rfl ⟨rfl, (by repeat (first | exact Below.refl _ _ | assumption | apply Below.drew | apply below_drewN | (refine Below.alloc ?_ (by first | omega | (simp; done) | (simp; omega)) _) | (refine Below.setCell ?_ (by first | omega | (simp; done) | (simp; omega)) _)))⟩; simp [results, Try.results18, go_sem, *])
  · have hr : tickR n k dy u d = true := by simp only [tickOk, Bool.and_eq_true] at ht; exact ht.1
    have cc := fun w => spec_l11Rides n k dy u d day w hr
    unfold rlU rlD crOk
    rw [ht] at ci ⊢
    generalize ridU k dy u d day = x at cc ⊢
    generalize ridD k dy u d day = y at cc ⊢
    have CI := Lib.hid ci
    have CC := Lib.hid cc
    clear ci cc hr ht
    rcases hd : inr day 0 999 with _ | _
    all_goals simp only [Bool.true_and, Bool.false_eq_true, if_false, if_true]
    all_goals (go_enter Try.func18, Try.ntmps18)
    all_goals go_wp2_with (first | (go_at_call 56; refine (CI.out _).mono ?_; rintro e w' ⟨rfl, hb⟩; have hB : Below w.heap.size w w' := Below.thenn (by repeat (first | exact Below.refl _ _ | assumption | apply Below.drew | apply below_drewN | (refine Below.alloc ?_ (by first | omega | (simp; done) | (simp; omega)) _) | (refine Below.setCell ?_ (by first | omega | (simp; done) | (simp; omega)) _))) hb (by first | omega | (simp; done) | (simp; omega)); have hz : w.heap.size < w'.heap.size := (by have h := hb.size; (try simp at h); omega); obtain ⟨hc, hf⟩ := bcell hb; clear hb) | (go_at_call 60; refine (spec_l11Day _ _).mono ?_; rintro e w' ⟨rfl, rfl⟩) | (go_at_call 61; refine (CC.out _).mono ?_; rintro e w' ⟨rfl, hb⟩; have hB : Below w.heap.size w w' := Below.thenn (by repeat (first | exact Below.refl _ _ | assumption | apply Below.drew | apply below_drewN | (refine Below.alloc ?_ (by first | omega | (simp; done) | (simp; omega)) _) | (refine Below.setCell ?_ (by first | omega | (simp; done) | (simp; omega)) _))) hb (by first | omega | (simp; done) | (simp; omega)); have hz : w.heap.size < w'.heap.size := (by have h := hb.size; (try simp at h); omega); obtain ⟨hc, hf⟩ := bcell hb; clear hb))
    all_goals (go_light; refine bodyPost_ret ?_ rfl ⟨rfl, (by repeat (first | exact Below.refl _ _ | assumption | apply Below.drew | apply below_drewN | (refine Below.alloc ?_ (by first | omega | (simp; done) | (simp; omega)) _) | (refine Below.setCell ?_ (by first | omega | (simp; done) | (simp; omega)) _)))⟩; simp [results, Try.results18, go_sem, *])
theorem impl_RidesLeft (n k dy u d : Int) (day : Int) (w : World) : Calls Try.prog 19 #[.agg #[.int .i64 n, .int .i64 k, .int .i64 dy, .int .i64 u, .int .i64 d], .int .i64 day] w (Ret w (.tuple #[.int .i64 (rlU n k dy u d day), .int .i64 (rlD n k dy u d day), .bool (crOk n k dy u d day)])) := by
  have ci := fun w => impl_IsTicket n k dy u d w
  rcases ht : tickOk n k dy u d with _ | _
  · rw [show rlU n k dy u d day = 0 by simp [rlU, crOk, ht], show rlD n k dy u d day = 0 by simp [rlD, crOk, ht], show crOk n k dy u d day = false by simp [crOk, ht]]
    rw [ht] at ci
    have CI := Lib.hid ci
    clear ci ht
    go_enter Try.func19, Try.ntmps19
    go_wp2_with (go_at_call 17; refine (CI.out _).mono ?_; rintro e w' ⟨rfl, hb⟩; have hB : Below w.heap.size w w' := Below.thenn (by repeat (first | exact Below.refl _ _ | assumption | apply Below.drew | apply below_drewN | (refine Below.alloc ?_ (by first | omega | (simp; done) | (simp; omega)) _) | (refine Below.setCell ?_ (by first | omega | (simp; done) | (simp; omega)) _))) hb (by first | omega | (simp; done) | (simp; omega)); have hz : w.heap.size < w'.heap.size := (by have h := hb.size; (try simp at h); omega); obtain ⟨hc, hf⟩ := bcell hb; clear hb)
    (go_light; refine bodyPost_ret ?_ rfl ⟨rfl, (by repeat (first | exact Below.refl _ _ | assumption | apply Below.drew | apply below_drewN | (refine Below.alloc ?_ (by first | omega | (simp; done) | (simp; omega)) _) | (refine Below.setCell ?_ (by first | omega | (simp; done) | (simp; omega)) _)))⟩; simp [results, Try.results19, go_sem, *])
  · have hr := tickOk_iff.1 ht
    have cc := fun w => impl_left n k dy u d w (by omega) (by omega)
    have co := fun w => impl_isOpen n k dy u d day w (by omega)
    unfold rlU rlD crOk ridU ridD
    rw [ht] at ci ⊢
    generalize kU k u d = x at cc ⊢
    generalize kD k u d = y at cc ⊢
    have CI := Lib.hid ci
    have CC := Lib.hid cc
    clear ci cc hr ht
    rcases hd : inr day 0 999 with _ | _ <;> rcases ho : openOn k dy day with _ | _
    all_goals rw [ho] at co
    all_goals have CO := Lib.hid co
    all_goals clear co ho
    all_goals simp only [Bool.true_and, Bool.false_eq_true, if_false, if_true]
    all_goals (go_enter Try.func19, Try.ntmps19)
    all_goals go_wp2_with (first | (go_at_call 17; refine (CI.out _).mono ?_; rintro e w' ⟨rfl, hb⟩; have hB : Below w.heap.size w w' := Below.thenn (by repeat (first | exact Below.refl _ _ | assumption | apply Below.drew | apply below_drewN | (refine Below.alloc ?_ (by first | omega | (simp; done) | (simp; omega)) _) | (refine Below.setCell ?_ (by first | omega | (simp; done) | (simp; omega)) _))) hb (by first | omega | (simp; done) | (simp; omega)); have hz : w.heap.size < w'.heap.size := (by have h := hb.size; (try simp at h); omega); obtain ⟨hc, hf⟩ := bcell hb; clear hb) | (go_at_call 58; refine (impl_isDay _ _).mono ?_; rintro e w' ⟨rfl, rfl⟩) | (go_at_call 62; refine (CO.out _).mono ?_; rintro e w' ⟨rfl, hb⟩; have hB : Below w.heap.size w w' := Below.thenn (by repeat (first | exact Below.refl _ _ | assumption | apply Below.drew | apply below_drewN | (refine Below.alloc ?_ (by first | omega | (simp; done) | (simp; omega)) _) | (refine Below.setCell ?_ (by first | omega | (simp; done) | (simp; omega)) _))) hb (by first | omega | (simp; done) | (simp; omega)); have hz : w.heap.size < w'.heap.size := (by have h := hb.size; (try simp at h); omega); obtain ⟨hc, hf⟩ := bcell hb; clear hb) | (go_at_call 59; refine (CC.out _).mono ?_; rintro e w' ⟨rfl, hb⟩; have hB : Below w.heap.size w w' := Below.thenn (by repeat (first | exact Below.refl _ _ | assumption | apply Below.drew | apply below_drewN | (refine Below.alloc ?_ (by first | omega | (simp; done) | (simp; omega)) _) | (refine Below.setCell ?_ (by first | omega | (simp; done) | (simp; omega)) _))) hb (by first | omega | (simp; done) | (simp; omega)); have hz : w.heap.size < w'.heap.size := (by have h := hb.size; (try simp at h); omega); obtain ⟨hc, hf⟩ := bcell hb; clear hb))
    all_goals (go_light; refine bodyPost_ret ?_ rfl ⟨rfl, (by repeat (first | exact Below.refl _ _ | assumption | apply Below.drew | apply below_drewN | (refine Below.alloc ?_ (by first | omega | (simp; done) | (simp; omega)) _) | (refine Below.setCell ?_ (by first | omega | (simp; done) | (simp; omega)) _)))⟩; simp [results, Try.results19, go_sem, *])
theorem spec_IsTicket (n k dy u d : Int) (w : World) : Calls Try.prog 15 #[.agg #[.int .i64 n, .int .i64 k, .int .i64 dy, .int .i64 u, .int .i64 d]] w (Ret w (.bool (tickOk n k dy u d))) := by
  have CI := Lib.hid (fun w => spec_l11One n k dy u d w)
  generalize tickOk n k dy u d = z at CI ⊢
  go_enter Try.func15, Try.ntmps15
  go_wp2_with (go_at_call 56; refine (CI.out _).mono ?_; rintro e w' ⟨rfl, hb⟩; have hB : Below w.heap.size w w' := Below.thenn (by repeat (first | exact Below.refl _ _ | assumption | apply Below.drew | apply below_drewN | (refine Below.alloc ?_ (by first | omega | (simp; done) | (simp; omega)) _) | (refine Below.setCell ?_ (by first | omega | (simp; done) | (simp; omega)) _))) hb (by first | omega | (simp; done) | (simp; omega)); have hz : w.heap.size < w'.heap.size := (by have h := hb.size; (try simp at h); omega); obtain ⟨hc, hf⟩ := bcell hb; clear hb)
  go_ret
  exact ⟨rfl, (by repeat (first | exact Below.refl _ _ | assumption | apply Below.drew | apply below_drewN | (refine Below.alloc ?_ (by first | omega | (simp; done) | (simp; omega)) _) | (refine Below.setCell ?_ (by first | omega | (simp; done) | (simp; omega)) _)))⟩
theorem toTicket_any (n k dy u d : Int) (w : World) : Calls Try.prog 16 #[.agg #[.int .i64 n, .int .i64 k, .int .i64 dy, .int .i64 u, .int .i64 d]] w (Ret w (.agg #[.int .i64 n, .int .i64 k, .int .i64 dy, .int .i64 u, .int .i64 d])) := by
  go_enter Try.func16, Try.ntmps16
  go_wp2
  all_goals (go_light; refine bodyPost_ret ?_ rfl ⟨rfl, (by repeat (first | exact Below.refl _ _ | assumption | apply Below.drew | apply below_drewN | (refine Below.alloc ?_ (by first | omega | (simp; done) | (simp; omega)) _) | (refine Below.setCell ?_ (by first | omega | (simp; done) | (simp; omega)) _)))⟩; simp [results, Try.results16, go_sem, *])
theorem law_FnExactIsTicket (n k dy u d : Int) (w : World) : Calls Try.prog 3 #[.agg #[.int .i64 n, .int .i64 k, .int .i64 dy, .int .i64 u, .int .i64 d]] w (Ret w (.bool true)) := by
  have CI := Lib.hid (fun w => impl_IsTicket n k dy u d w)
  have CS := Lib.hid (fun w => spec_IsTicket n k dy u d w)
  generalize tickOk n k dy u d = z at CI CS
  go_enter Try.func3, Try.ntmps3
  go_wp2_with (first | (go_at_call 16; refine (toTicket_any _ _ _ _ _ _).mono ?_; rintro e w' ⟨rfl, hb⟩; have hB : Below w.heap.size w w' := Below.thenn (by repeat (first | exact Below.refl _ _ | assumption | apply Below.drew | apply below_drewN | (refine Below.alloc ?_ (by first | omega | (simp; done) | (simp; omega)) _) | (refine Below.setCell ?_ (by first | omega | (simp; done) | (simp; omega)) _))) hb (by first | omega | (simp; done) | (simp; omega)); have hz : w.heap.size < w'.heap.size := (by have h := hb.size; (try simp at h); omega); obtain ⟨hc, hf⟩ := bcell hb; clear hb) | (go_at_call 15; refine (CS.out _).mono ?_; rintro e w' ⟨rfl, hb⟩; have hB : Below w.heap.size w w' := Below.thenn (by repeat (first | exact Below.refl _ _ | assumption | apply Below.drew | apply below_drewN | (refine Below.alloc ?_ (by first | omega | (simp; done) | (simp; omega)) _) | (refine Below.setCell ?_ (by first | omega | (simp; done) | (simp; omega)) _))) hb (by first | omega | (simp; done) | (simp; omega)); have hz : w.heap.size < w'.heap.size := (by have h := hb.size; (try simp at h); omega); obtain ⟨hc, hf⟩ := bcell hb; clear hb) | (go_at_call 17; refine (CI.out _).mono ?_; rintro e w' ⟨rfl, hb⟩; have hB : Below w.heap.size w w' := Below.thenn (by repeat (first | exact Below.refl _ _ | assumption | apply Below.drew | apply below_drewN | (refine Below.alloc ?_ (by first | omega | (simp; done) | (simp; omega)) _) | (refine Below.setCell ?_ (by first | omega | (simp; done) | (simp; omega)) _))) hb (by first | omega | (simp; done) | (simp; omega)); have hz : w.heap.size < w'.heap.size := (by have h := hb.size; (try simp at h); omega); obtain ⟨hc, hf⟩ := bcell hb; clear hb))
  all_goals (go_ret; exact ⟨rfl, (by repeat (first | exact Below.refl _ _ | assumption | apply Below.drew | apply below_drewN | (refine Below.alloc ?_ (by first | omega | (simp; done) | (simp; omega)) _) | (refine Below.setCell ?_ (by first | omega | (simp; done) | (simp; omega)) _)))⟩)
theorem law_FnExactRidesLeft (n k dy u d : Int) (day : Int) (w : World) : Calls Try.prog 4 #[.agg #[.int .i64 n, .int .i64 k, .int .i64 dy, .int .i64 u, .int .i64 d], .int .i64 day] w (Ret w (.bool true)) := by
  have CI := Lib.hid (fun w => impl_RidesLeft n k dy u d day w)
  have CS := Lib.hid (fun w => spec_RidesLeft n k dy u d day w)
  generalize rlU n k dy u d day = x at CI CS
  generalize rlD n k dy u d day = y at CI CS
  generalize crOk n k dy u d day = z at CI CS
  go_enter Try.func4, Try.ntmps4
  go_wp2_with (first | (go_at_call 16; refine (toTicket_any _ _ _ _ _ _).mono ?_; rintro e w' ⟨rfl, hb⟩; have hB : Below w.heap.size w w' := Below.thenn (by repeat (first | exact Below.refl _ _ | assumption | apply Below.drew | apply below_drewN | (refine Below.alloc ?_ (by first | omega | (simp; done) | (simp; omega)) _) | (refine Below.setCell ?_ (by first | omega | (simp; done) | (simp; omega)) _))) hb (by first | omega | (simp; done) | (simp; omega)); have hz : w.heap.size < w'.heap.size := (by have h := hb.size; (try simp at h); omega); obtain ⟨hc, hf⟩ := bcell hb; clear hb) | (go_at_call 18; refine (CS.out _).mono ?_; rintro e w' ⟨rfl, hb⟩; have hB : Below w.heap.size w w' := Below.thenn (by repeat (first | exact Below.refl _ _ | assumption | apply Below.drew | apply below_drewN | (refine Below.alloc ?_ (by first | omega | (simp; done) | (simp; omega)) _) | (refine Below.setCell ?_ (by first | omega | (simp; done) | (simp; omega)) _))) hb (by first | omega | (simp; done) | (simp; omega)); have hz : w.heap.size < w'.heap.size := (by have h := hb.size; (try simp at h); omega); obtain ⟨hc, hf⟩ := bcell hb; clear hb) | (go_at_call 19; refine (CI.out _).mono ?_; rintro e w' ⟨rfl, hb⟩; have hB : Below w.heap.size w w' := Below.thenn (by repeat (first | exact Below.refl _ _ | assumption | apply Below.drew | apply below_drewN | (refine Below.alloc ?_ (by first | omega | (simp; done) | (simp; omega)) _) | (refine Below.setCell ?_ (by first | omega | (simp; done) | (simp; omega)) _))) hb (by first | omega | (simp; done) | (simp; omega)); have hz : w.heap.size < w'.heap.size := (by have h := hb.size; (try simp at h); omega); obtain ⟨hc, hf⟩ := bcell hb; clear hb))
  all_goals (go_ret; exact ⟨rfl, (by repeat (first | exact Below.refl _ _ | assumption | apply Below.drew | apply below_drewN | (refine Below.alloc ?_ (by first | omega | (simp; done) | (simp; omega)) _) | (refine Below.setCell ?_ (by first | omega | (simp; done) | (simp; omega)) _)))⟩)
theorem law_FnExactCanRide (n k dy u d : Int) (day : Int) (up : Bool) (w : World) : Calls Try.prog 5 #[.agg #[.int .i64 n, .int .i64 k, .int .i64 dy, .int .i64 u, .int .i64 d], .int .i64 day, .bool up] w (Ret w (.bool true)) := by
  have CI := Lib.hid (fun w => impl_CanRide n k dy u d day up w)
  have CS := Lib.hid (fun w => spec_CanRide n k dy u d day up w)
  generalize crV n k dy u d day up = x at CI CS
  generalize crOk n k dy u d day = z at CI CS
  go_enter Try.func5, Try.ntmps5
  go_wp2_with (first | (go_at_call 16; refine (toTicket_any _ _ _ _ _ _).mono ?_; rintro e w' ⟨rfl, hb⟩; have hB : Below w.heap.size w w' := Below.thenn (by repeat (first | exact Below.refl _ _ | assumption | apply Below.drew | apply below_drewN | (refine Below.alloc ?_ (by first | omega | (simp; done) | (simp; omega)) _) | (refine Below.setCell ?_ (by first | omega | (simp; done) | (simp; omega)) _))) hb (by first | omega | (simp; done) | (simp; omega)); have hz : w.heap.size < w'.heap.size := (by have h := hb.size; (try simp at h); omega); obtain ⟨hc, hf⟩ := bcell hb; clear hb) | (go_at_call 20; refine (CS.out _).mono ?_; rintro e w' ⟨rfl, hb⟩; have hB : Below w.heap.size w w' := Below.thenn (by repeat (first | exact Below.refl _ _ | assumption | apply Below.drew | apply below_drewN | (refine Below.alloc ?_ (by first | omega | (simp; done) | (simp; omega)) _) | (refine Below.setCell ?_ (by first | omega | (simp; done) | (simp; omega)) _))) hb (by first | omega | (simp; done) | (simp; omega)); have hz : w.heap.size < w'.heap.size := (by have h := hb.size; (try simp at h); omega); obtain ⟨hc, hf⟩ := bcell hb; clear hb) | (go_at_call 21; refine (CI.out _).mono ?_; rintro e w' ⟨rfl, hb⟩; have hB : Below w.heap.size w w' := Below.thenn (by repeat (first | exact Below.refl _ _ | assumption | apply Below.drew | apply below_drewN | (refine Below.alloc ?_ (by first | omega | (simp; done) | (simp; omega)) _) | (refine Below.setCell ?_ (by first | omega | (simp; done) | (simp; omega)) _))) hb (by first | omega | (simp; done) | (simp; omega)); have hz : w.heap.size < w'.heap.size := (by have h := hb.size; (try simp at h); omega); obtain ⟨hc, hf⟩ := bcell hb; clear hb))
  all_goals (go_ret; exact ⟨rfl, (by repeat (first | exact Below.refl _ _ | assumption | apply Below.drew | apply below_drewN | (refine Below.alloc ?_ (by first | omega | (simp; done) | (simp; omega)) _) | (refine Below.setCell ?_ (by first | omega | (simp; done) | (simp; omega)) _)))⟩)
end Go.Proofs.Ytobcgcdjoogfnaa
