/- The tickets: valid tickets, and the functions on one ticket. -/
import Derived.Test.YtobcgcdjoogfnaaTick
import Derived.Deep.RegionHeld3
import Derived.Deep.DeepCutAuto
namespace Go.Proofs.Ytobcgcdjoogfnaa
open Go.RowKit
set_option linter.unusedVariables false
set_option linter.unusedSimpArgs false

set_option maxHeartbeats 2000000 in
theorem impl_IsTicket (n k dy u d : Int) (w : World) : Calls Try.prog 17 #[.agg #[.int .i64 n, .int .i64 k, .int .i64 dy, .int .i64 u, .int .i64 d]] w (Ret w (.bool (tickOk n k dy u d))) := by
  rcases hr : tickR n k dy u d with _ | _
  · rw [show tickOk n k dy u d = false by simp [tickOk, hr]]
    have HR := Lib.hid hr
    clear hr
    go_enter Try.func17, Try.ntmps17
    go_wp2_with (first | (go_at_call 57; refine (impl_within _ _ _ _).mono ?_; rintro e w' ⟨rfl, rfl⟩) | (go_at_call 58; refine (impl_isDay _ _).mono ?_; rintro e w' ⟨rfl, rfl⟩))
    all_goals first | (go_ret; exact ⟨rfl, (by repeat (first | exact Below.refl _ _ | assumption | apply Below.drew | apply below_drewN | (refine Below.alloc ?_ (by first | omega | (simp; done) | (simp; omega)) _) | (refine Below.setCell ?_ (by first | omega | (simp; done) | (simp; omega)) _)))⟩) | (exfalso; have hr := HR.out; simp [tickR, inr] at *; omega)
  · have h := tickR_iff.1 hr
    have e1 : inr n 1 9999 = true := by simp [inr]; omega
    have e2 : inr k 0 3 = true := by simp [inr]; omega
    have e3 : inr dy 0 999 = true := by simp [inr]; omega
    have e4 : inr u 0 50 = true := by simp [inr]; omega
    have e5 : inr d 0 50 = true := by simp [inr]; omega
    have cl := fun w => impl_left n k dy u d w (by omega) (by omega)
    rw [show tickOk n k dy u d = decide (0 ≤ kU k u d ∧ 0 ≤ kD k u d) by simp [tickOk, hr]]
    generalize kU k u d = x at cl ⊢
    generalize kD k u d = y at cl ⊢
    have CL := Lib.hid cl
    clear cl h hr
    go_enter Try.func17, Try.ntmps17
    go_wp2_with (first | (go_at_call 57; refine (impl_within _ _ _ _).mono ?_; rintro e w' ⟨rfl, rfl⟩) | (go_at_call 58; refine (impl_isDay _ _).mono ?_; rintro e w' ⟨rfl, rfl⟩) | (go_at_call 59; refine (CL.out _).mono ?_; rintro e w' ⟨rfl, hb⟩; have hB : Below w.heap.size w w' := Below.thenn (by repeat (first | exact Below.refl _ _ | assumption | apply Below.drew | apply below_drewN | (refine Below.alloc ?_ (by first | omega | (simp; done) | (simp; omega)) _) | (refine Below.setCell ?_ (by first | omega | (simp; done) | (simp; omega)) _))) hb (by first | omega | (simp; done) | (simp; omega)); have hz : w.heap.size < w'.heap.size := (by have h := hb.size; (try simp at h); omega); obtain ⟨hc, hf⟩ := bcell hb; clear hb))
    all_goals (go_ret; exact ⟨ret_bool (by first | rfl | (simp [*]; done) | (simp_all; done) | (rw [Bool.eq_iff_iff]; first | (simp [*]; done) | (simp [*]; omega) | (simp [*]; intros; omega) | (simp at *; omega))), (by repeat (first | exact Below.refl _ _ | assumption | apply Below.drew | apply below_drewN | (refine Below.alloc ?_ (by first | omega | (simp; done) | (simp; omega)) _) | (refine Below.setCell ?_ (by first | omega | (simp; done) | (simp; omega)) _)))⟩)
set_option maxHeartbeats 2000000 in
theorem spec_l11One (n k dy u d : Int) (w : World) : Calls Try.prog 56 #[.agg #[.int .i64 n, .int .i64 k, .int .i64 dy, .int .i64 u, .int .i64 d]] w (Ret w (.bool (tickOk n k dy u d))) := by
  rcases hr : tickR n k dy u d with _ | _
  · rw [show tickOk n k dy u d = false by simp [tickOk, hr]]
    have HR := Lib.hid hr
    clear hr
    go_enter Try.func56, Try.ntmps56
    go_wp2_with (first | (go_at_call 66; refine (spec_l1In _ _ _ _).mono ?_; rintro e w' ⟨rfl, rfl⟩) | (go_at_call 60; refine (spec_l11Day _ _).mono ?_; rintro e w' ⟨rfl, rfl⟩) | (go_at_call 83; refine (spec_l11Kind _ _).mono ?_; rintro e w' ⟨rfl, rfl⟩))
    all_goals first | (go_ret; exact ⟨rfl, (by repeat (first | exact Below.refl _ _ | assumption | apply Below.drew | apply below_drewN | (refine Below.alloc ?_ (by first | omega | (simp; done) | (simp; omega)) _) | (refine Below.setCell ?_ (by first | omega | (simp; done) | (simp; omega)) _)))⟩) | (exfalso; have hr := HR.out; simp [tickR, inr] at *; omega)
  · have h := tickR_iff.1 hr
    have e1 : inr n 1 9999 = true := by simp [inr]; omega
    have e2 : inr k 0 3 = true := by simp [inr]; omega
    have e3 : inr dy 0 999 = true := by simp [inr]; omega
    have e4 : inr u 0 50 = true := by simp [inr]; omega
    have e5 : inr d 0 50 = true := by simp [inr]; omega
    have cl := fun w => spec_l11Left n k dy u d w (by omega) (by omega)
    rw [show tickOk n k dy u d = decide (0 ≤ kU k u d ∧ 0 ≤ kD k u d) by simp [tickOk, hr]]
    generalize kU k u d = x at cl ⊢
    generalize kD k u d = y at cl ⊢
    have CL := Lib.hid cl
    clear cl h hr
    go_enter Try.func56, Try.ntmps56
    go_wp2_with (first | (go_at_call 66; refine (spec_l1In _ _ _ _).mono ?_; rintro e w' ⟨rfl, rfl⟩) | (go_at_call 60; refine (spec_l11Day _ _).mono ?_; rintro e w' ⟨rfl, rfl⟩) | (go_at_call 83; refine (spec_l11Kind _ _).mono ?_; rintro e w' ⟨rfl, rfl⟩) | (go_at_call 84; refine (CL.out _).mono ?_; rintro e w' ⟨rfl, hb⟩; have hB : Below w.heap.size w w' := Below.thenn (by repeat (first | exact Below.refl _ _ | assumption | apply Below.drew | apply below_drewN | (refine Below.alloc ?_ (by first | omega | (simp; done) | (simp; omega)) _) | (refine Below.setCell ?_ (by first | omega | (simp; done) | (simp; omega)) _))) hb (by first | omega | (simp; done) | (simp; omega)); have hz : w.heap.size < w'.heap.size := (by have h := hb.size; (try simp at h); omega); obtain ⟨hc, hf⟩ := bcell hb; clear hb))
    all_goals (go_ret; exact ⟨ret_bool (by first | rfl | (simp [*]; done) | (simp_all; done) | (rw [Bool.eq_iff_iff]; first | (simp [*]; done) | (simp [*]; omega) | (simp [*]; intros; omega) | (simp at *; omega))), (by repeat (first | exact Below.refl _ _ | assumption | apply Below.drew | apply below_drewN | (refine Below.alloc ?_ (by first | omega | (simp; done) | (simp; omega)) _) | (refine Below.setCell ?_ (by first | omega | (simp; done) | (simp; omega)) _)))⟩)

theorem impl_lasts (n k dy u d : Int) (w : World) : Calls Try.prog 85 #[.agg #[.int .i64 n, .int .i64 k, .int .i64 dy, .int .i64 u, .int .i64 d]] w (Ret w (.int .i64 (lastD k dy - dy + 1))) := by
  by_cases h2 : k = 2
  · subst h2
    rw [show lastD 2 dy - dy + 1 = 1 by simp [lastD]]
    go_enter Try.func85, Try.ntmps85
    go_wp2
    go_ret
    exact ⟨rfl, (by repeat (first | exact Below.refl _ _ | assumption | apply Below.drew | apply below_drewN | (refine Below.alloc ?_ (by first | omega | (simp; done) | (simp; omega)) _) | (refine Below.setCell ?_ (by first | omega | (simp; done) | (simp; omega)) _)))⟩
  by_cases h3 : k = 3
  · subst h3
    rw [show lastD 3 dy - dy + 1 = 365 by simp [lastD]; omega]
    go_enter Try.func85, Try.ntmps85
    go_wp2
    go_ret
    exact ⟨rfl, (by repeat (first | exact Below.refl _ _ | assumption | apply Below.drew | apply below_drewN | (refine Below.alloc ?_ (by first | omega | (simp; done) | (simp; omega)) _) | (refine Below.setCell ?_ (by first | omega | (simp; done) | (simp; omega)) _)))⟩
  rw [show lastD k dy - dy + 1 = 2 by simp [lastD, *]; omega]
  go_enter Try.func85, Try.ntmps85
  go_wp2
  go_ret
  exact ⟨rfl, (by repeat (first | exact Below.refl _ _ | assumption | apply Below.drew | apply below_drewN | (refine Below.alloc ?_ (by first | omega | (simp; done) | (simp; omega)) _) | (refine Below.setCell ?_ (by first | omega | (simp; done) | (simp; omega)) _)))⟩
theorem spec_l11Last (n k dy u d : Int) (w : World) (h : 0 ≤ dy ∧ dy ≤ 999) : Calls Try.prog 72 #[.agg #[.int .i64 n, .int .i64 k, .int .i64 dy, .int .i64 u, .int .i64 d]] w (Ret w (.int .i64 (lastD k dy))) := by
  have h1 := h.1
  have h2 := h.2
  clear h
  by_cases h2 : k = 2
  · subst h2
    rw [show lastD 2 dy = dy by simp [lastD]]
    go_enter Try.func72, Try.ntmps72
    go_wp2
    go_ret
    exact ⟨rfl, (by repeat (first | exact Below.refl _ _ | assumption | apply Below.drew | apply below_drewN | (refine Below.alloc ?_ (by first | omega | (simp; done) | (simp; omega)) _) | (refine Below.setCell ?_ (by first | omega | (simp; done) | (simp; omega)) _)))⟩
  by_cases h3 : k = 3
  · subst h3
    rw [show lastD 3 dy = dy + 364 by simp [lastD]]
    go_enter Try.func72, Try.ntmps72
    go_wp2
    go_ret
    exact ⟨rfl, (by repeat (first | exact Below.refl _ _ | assumption | apply Below.drew | apply below_drewN | (refine Below.alloc ?_ (by first | omega | (simp; done) | (simp; omega)) _) | (refine Below.setCell ?_ (by first | omega | (simp; done) | (simp; omega)) _)))⟩
  rw [show lastD k dy = dy + 1 by simp [lastD, *]]
  go_enter Try.func72, Try.ntmps72
  go_wp2
  go_ret
  exact ⟨rfl, (by repeat (first | exact Below.refl _ _ | assumption | apply Below.drew | apply below_drewN | (refine Below.alloc ?_ (by first | omega | (simp; done) | (simp; omega)) _) | (refine Below.setCell ?_ (by first | omega | (simp; done) | (simp; omega)) _)))⟩
theorem lastD_bd (k dy : Int) : dy ≤ lastD k dy ∧ lastD k dy ≤ dy + 364 := by unfold lastD; split <;> (try split) <;> omega
theorem impl_isOpen (n k dy u d : Int) (day : Int) (w : World) (h : 0 ≤ dy ∧ dy ≤ 999) : Calls Try.prog 62 #[.agg #[.int .i64 n, .int .i64 k, .int .i64 dy, .int .i64 u, .int .i64 d], .int .i64 day] w (Ret w (.bool (openOn k dy day))) := by
  have h1 := h.1
  have h2 := h.2
  have hl := lastD_bd k dy
  have cl := fun w => impl_lasts n k dy u d w
  rw [show openOn k dy day = inr day dy (lastD k dy) from rfl]
  generalize lastD k dy = L at cl hl ⊢
  have hl1 := hl.1
  have hl2 := hl.2
  have CL := Lib.hid cl
  clear cl hl h
  have e1 : dy + (L - dy + 1) - 1 = L := by omega
  have e2 : IntKind.i64.wrap (dy + (L - dy + 1)) = dy + (L - dy + 1) := IntWalk.i64_in _ (by omega)
  have e3 : IntKind.i64.wrap L = L := IntWalk.i64_in _ (by omega)
  go_enter Try.func62, Try.ntmps62
  go_wp2_with fail
  go_region_held3 (fun w' => w'.cell? ⟨w.heap.size, 0, none⟩ = some (.int .i64 n) ∧ w'.cell? ⟨w.heap.size, 1, none⟩ = some (.int .i64 k) ∧ w'.cell? ⟨w.heap.size, 2, none⟩ = some (.int .i64 dy) ∧ w'.cell? ⟨w.heap.size, 3, none⟩ = some (.int .i64 u) ∧ w'.cell? ⟨w.heap.size, 4, none⟩ = some (.int .i64 d) ∧ Below w.heap.size w w' ∧ w.heap.size < w'.heap.size) (((try dsimp only); (repeat' apply And.intro) <;> first | assumption | (refine (hc _ _ ?_).trans ?_ <;> first | assumption | omega | (simp; done) | (simp; omega) | (simp [*]; done) | (simp [World.cell?_alloc_some, *]; done)) | (simp [*, World.cell?_alloc_some, World.cell?_setCell_far]; done) | (simp; omega) | (exact (by repeat (first | exact Below.refl _ _ | assumption | apply Below.drew | apply below_drewN | (refine Below.alloc ?_ (by first | omega | (simp; done) | (simp; omega)) _) | (refine Below.setCell ?_ (by first | omega | (simp; done) | (simp; omega)) _))))))
    (first | (go_at_call 57; refine (impl_within _ _ _ _).mono ?_; rintro e w' ⟨rfl, rfl⟩) | (go_at_call 85; refine (CL.out _).mono ?_; rintro e w' ⟨rfl, hb⟩; have hB : Below w.heap.size w w' := Below.thenn (by repeat (first | exact Below.refl _ _ | assumption | apply Below.drew | apply below_drewN | (refine Below.alloc ?_ (by first | omega | (simp; done) | (simp; omega)) _) | (refine Below.setCell ?_ (by first | omega | (simp; done) | (simp; omega)) _))) hb (by first | omega | (simp; done) | (simp; omega)); have hz : w.heap.size < w'.heap.size := (by have h := hb.size; (try simp at h); omega); obtain ⟨hc, hf⟩ := bcell hb; clear hb))
  go_wp2_with fail
  go_ret
  exact ⟨by simp [*], (by repeat (first | exact Below.refl _ _ | assumption | apply Below.drew | apply below_drewN | (refine Below.alloc ?_ (by first | omega | (simp; done) | (simp; omega)) _) | (refine Below.setCell ?_ (by first | omega | (simp; done) | (simp; omega)) _)))⟩

def canT (k dy u d day : Int) (up : Bool) : Bool := openOn k dy day && (if up then decide (0 < kU k u d) else decide (0 < kD k u d))
def ridU (k dy u d day : Int) : Int := if openOn k dy day then kU k u d else 0
def ridD (k dy u d day : Int) : Int := if openOn k dy day then kD k u d else 0
theorem impl_canRide (n k dy u d : Int) (day : Int) (up : Bool) (w : World) (h : tickR n k dy u d = true) : Calls Try.prog 64 #[.agg #[.int .i64 n, .int .i64 k, .int .i64 dy, .int .i64 u, .int .i64 d], .int .i64 day, .bool up] w (Ret w (.bool (canT k dy u d day up))) := by
  have hr := tickR_iff.1 h
  have cl := fun w => impl_left n k dy u d w (by omega) (by omega)
  have co := fun w => impl_isOpen n k dy u d day w (by omega)
  clear hr h
  unfold canT
  generalize kU k u d = x at cl ⊢
  generalize kD k u d = y at cl ⊢
  generalize openOn k dy day = o at co ⊢
  have CL := Lib.hid cl
  have CO := Lib.hid co
  clear cl co
  rcases o with _ | _ <;> rcases up with _ | _
  all_goals (go_enter Try.func64, Try.ntmps64)
  all_goals go_wp2_with (first | (go_at_call 59; refine (CL.out _).mono ?_; rintro e w' ⟨rfl, hb⟩; have hB : Below w.heap.size w w' := Below.thenn (by repeat (first | exact Below.refl _ _ | assumption | apply Below.drew | apply below_drewN | (refine Below.alloc ?_ (by first | omega | (simp; done) | (simp; omega)) _) | (refine Below.setCell ?_ (by first | omega | (simp; done) | (simp; omega)) _))) hb (by first | omega | (simp; done) | (simp; omega)); have hz : w.heap.size < w'.heap.size := (by have h := hb.size; (try simp at h); omega); obtain ⟨hc, hf⟩ := bcell hb; clear hb) | (go_at_call 62; refine (CO.out _).mono ?_; rintro e w' ⟨rfl, hb⟩; have hB : Below w.heap.size w w' := Below.thenn (by repeat (first | exact Below.refl _ _ | assumption | apply Below.drew | apply below_drewN | (refine Below.alloc ?_ (by first | omega | (simp; done) | (simp; omega)) _) | (refine Below.setCell ?_ (by first | omega | (simp; done) | (simp; omega)) _))) hb (by first | omega | (simp; done) | (simp; omega)); have hz : w.heap.size < w'.heap.size := (by have h := hb.size; (try simp at h); omega); obtain ⟨hc, hf⟩ := bcell hb; clear hb))
  all_goals (go_ret; exact ⟨ret_bool (by first | rfl | (simp [*]; done) | (simp_all; done) | (rw [Bool.eq_iff_iff]; first | (simp [*]; done) | (simp [*]; omega) | (simp [*]; intros; omega) | (simp at *; omega))), (by repeat (first | exact Below.refl _ _ | assumption | apply Below.drew | apply below_drewN | (refine Below.alloc ?_ (by first | omega | (simp; done) | (simp; omega)) _) | (refine Below.setCell ?_ (by first | omega | (simp; done) | (simp; omega)) _)))⟩)
theorem spec_l11Rides (n k dy u d : Int) (day : Int) (w : World) (h : tickR n k dy u d = true) : Calls Try.prog 61 #[.agg #[.int .i64 n, .int .i64 k, .int .i64 dy, .int .i64 u, .int .i64 d], .int .i64 day] w (Ret w (.tuple #[.int .i64 (ridU k dy u d day), .int .i64 (ridD k dy u d day)])) := by
  have hr := tickR_iff.1 h
  have cl := fun w => spec_l11Left n k dy u d w (by omega) (by omega)
  have co := fun w => spec_l11Last n k dy u d w (by omega)
  clear hr h
  unfold ridU ridD
  rw [show openOn k dy day = inr day dy (lastD k dy) from rfl]
  generalize kU k u d = x at cl ⊢
  generalize kD k u d = y at cl ⊢
  generalize lastD k dy = L at co ⊢
  have CL := Lib.hid cl
  have CO := Lib.hid co
  clear cl co
  rcases hi : inr day dy L with _ | _
  all_goals simp only [Bool.false_eq_true, if_false, if_true]
  all_goals (go_enter Try.func61, Try.ntmps61)
  all_goals go_wp2_with fail
  all_goals (go_region_held3 (fun w' => w'.cell? ⟨w.heap.size, 0, none⟩ = some (.int .i64 n) ∧ w'.cell? ⟨w.heap.size, 1, none⟩ = some (.int .i64 k) ∧ w'.cell? ⟨w.heap.size, 2, none⟩ = some (.int .i64 dy) ∧ w'.cell? ⟨w.heap.size, 3, none⟩ = some (.int .i64 u) ∧ w'.cell? ⟨w.heap.size, 4, none⟩ = some (.int .i64 d) ∧ Below w.heap.size w w' ∧ w.heap.size < w'.heap.size) (((try dsimp only); (repeat' apply And.intro) <;> first | assumption | (refine (hc _ _ ?_).trans ?_ <;> first | assumption | omega | (simp; done) | (simp; omega) | (simp [*]; done) | (simp [World.cell?_alloc_some, *]; done)) | (simp [*, World.cell?_alloc_some, World.cell?_setCell_far]; done) | (simp; omega) | (exact (by repeat (first | exact Below.refl _ _ | assumption | apply Below.drew | apply below_drewN | (refine Below.alloc ?_ (by first | omega | (simp; done) | (simp; omega)) _) | (refine Below.setCell ?_ (by first | omega | (simp; done) | (simp; omega)) _))))))
    (first | (go_at_call 66; refine (spec_l1In _ _ _ _).mono ?_; rintro e w' ⟨rfl, rfl⟩) | (go_at_call 72; refine (CO.out _).mono ?_; rintro e w' ⟨rfl, hb⟩; have hB : Below w.heap.size w w' := Below.thenn (by repeat (first | exact Below.refl _ _ | assumption | apply Below.drew | apply below_drewN | (refine Below.alloc ?_ (by first | omega | (simp; done) | (simp; omega)) _) | (refine Below.setCell ?_ (by first | omega | (simp; done) | (simp; omega)) _))) hb (by first | omega | (simp; done) | (simp; omega)); have hz : w.heap.size < w'.heap.size := (by have h := hb.size; (try simp at h); omega); obtain ⟨hc, hf⟩ := bcell hb; clear hb)))
  all_goals try rw [hi]
  all_goals go_wp2_with (go_at_call 84; refine (CL.out _).mono ?_; rintro e w' ⟨rfl, hb⟩; have hB : Below w.heap.size w w' := Below.thenn (by repeat (first | exact Below.refl _ _ | assumption | apply Below.drew | apply below_drewN | (refine Below.alloc ?_ (by first | omega | (simp; done) | (simp; omega)) _) | (refine Below.setCell ?_ (by first | omega | (simp; done) | (simp; omega)) _))) hb (by first | omega | (simp; done) | (simp; omega)); have hz : w.heap.size < w'.heap.size := (by have h := hb.size; (try simp at h); omega); obtain ⟨hc, hf⟩ := bcell hb; clear hb)
  all_goals (go_ret2; exact ⟨rfl, (by repeat (first | exact Below.refl _ _ | assumption | apply Below.drew | apply below_drewN | (refine Below.alloc ?_ (by first | omega | (simp; done) | (simp; omega)) _) | (refine Below.setCell ?_ (by first | omega | (simp; done) | (simp; omega)) _)))⟩)
end Go.Proofs.Ytobcgcdjoogfnaa
