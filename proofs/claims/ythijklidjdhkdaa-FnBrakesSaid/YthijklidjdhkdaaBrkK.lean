/- The brakes: the worst pull, the reference's. -/
import Derived.Test.YthijklidjdhkdaaBrkJ
namespace Go.Proofs.Ythijklidjdhkdaa
open Go.RowKit
set_option linter.unusedVariables false
set_option linter.unusedSimpArgs false

set_option maxRecDepth 100000 in
set_option maxHeartbeats 3000000 in
theorem spec_WorstPull (m p : Int) (A : Option Addr) (n c : Nat) (rows : List (List Int)) (v low high : Int) (wo : World) (h : RdR wo 2 A n rows) (hm : n ≤ 1048577) :
    Calls Try.prog 31 #[.agg #[.int .i64 m, .int .i64 p, .slice A n c], .int .i64 v, .int .i64 low, .int .i64 high] wo (Ret wo (.tuple #[.int .i64 (o1 (wpR m p rows v low high)), .int .i64 (o2 (wpR m p rows v low high)), .bool (o3 (wpR m p rows v low high))])) := by
  have ci := fun w' (h' : RdR w' 2 A n rows) => spec_l10Asked m p A n c rows v w' h' hm
  rcases hq : (drvOk m p rows && inr v 0 100) with _ | _
  all_goals rw [hq] at ci
  all_goals have CI := Lib.hid ci
  · rw [show wpR m p rows v low high = none by unfold wpR wpOk; rw [hq]; rfl]
    simp only [o1, o2, o3, Option.isSome_none]
    clear ci hq
    go_enter Try.func31, Try.ntmps31
    (go_wp2_with fail; have hWV : Below wo.heap.size wo (wo.alloc (.cells #[.int .i64 m, .int .i64 p, .slice A n c] 29)) := (Below.refl _ _).alloc (Nat.le_refl _) _; have hV0 : wo.heap.size < (wo.alloc (.cells #[.int .i64 m, .int .i64 p, .slice A n c] 29)).heap.size := (by simp); have hv0 : (wo.alloc (.cells #[.int .i64 m, .int .i64 p, .slice A n c] 29)).cell? ⟨wo.heap.size, 0, none⟩ = some (.int .i64 m) := (by rw [cell_of_row _ _ _ _ _ _ (heap_alloc_new wo _)]; rfl); have hv1 : (wo.alloc (.cells #[.int .i64 m, .int .i64 p, .slice A n c] 29)).cell? ⟨wo.heap.size, 1, none⟩ = some (.int .i64 p) := (by rw [cell_of_row _ _ _ _ _ _ (heap_alloc_new wo _)]; rfl); have hv2 : (wo.alloc (.cells #[.int .i64 m, .int .i64 p, .slice A n c] 29)).cell? ⟨wo.heap.size, 2, none⟩ = some (.slice A n c) := (by rw [cell_of_row _ _ _ _ _ _ (heap_alloc_new wo _)]; rfl); have HV1 : Hid (wo.heap.size + 1 = (wo.alloc (.cells #[.int .i64 m, .int .i64 p, .slice A n c] 29)).heap.size) := (show _ = _ by simp); generalize wo.alloc (.cells #[.int .i64 m, .int .i64 p, .slice A n c] 29) = w at hWV hV0 HV1 hv0 hv1 hv2 ⊢; have hr := h.below hWV; have hB : Below w.heap.size w w := Below.refl _ _; have hwz : wo.heap.size ≤ w.heap.size := hWV.size)
    go_wp2_with (go_at_call 55; refine (CI.out _ hr).mono ?_; rintro e w' ⟨rfl, hb⟩; have hB : Below w.heap.size w w' := Below.thenn (by repeat (first | exact Below.refl _ _ | assumption | apply Below.drew | apply below_drewN | (refine Below.alloc ?_ (by first | omega | (simp; done) | (simp; omega)) _) | (refine Below.setCell ?_ (by first | omega | (simp; done) | (simp; omega)) _))) hb (by first | omega | (simp; done) | (simp; omega)); have hz : w.heap.size ≤ w'.heap.size := hB.size; (try (have hz1 : w.heap.size + 1 ≤ w'.heap.size := (by have h := hb.size; (try simp at h); omega))); obtain ⟨hc, hf⟩ := bcell hb; have hB3 : Below wo.heap.size wo w' := Below.thenn hWV hB hwz; clear hb)
    (go_light; refine bodyPost_ret ?_ rfl ⟨rfl, (by repeat (first | exact Below.refl _ _ | assumption | apply Below.drew | apply below_drewN | (refine Below.alloc ?_ (by first | omega | (simp; done) | (simp; omega)) _) | (refine Below.setCell ?_ (by first | omega | (simp; done) | (simp; omega)) _)))⟩; simp [results, Try.results31, go_sem, *])
  have c1' := fun w' => spec_l1In low (-100000) 100000 w'
  rcases h1 : inr low (-100000) 100000 with _ | _
  all_goals rw [h1] at c1'
  all_goals have C1 := Lib.hid c1'
  · rw [show wpR m p rows v low high = none by unfold wpR wpOk; rw [h1]; simp]
    simp only [o1, o2, o3, Option.isSome_none]
    clear ci hq c1' h1
    go_enter Try.func31, Try.ntmps31
    (go_wp2_with fail; have hWV : Below wo.heap.size wo (wo.alloc (.cells #[.int .i64 m, .int .i64 p, .slice A n c] 29)) := (Below.refl _ _).alloc (Nat.le_refl _) _; have hV0 : wo.heap.size < (wo.alloc (.cells #[.int .i64 m, .int .i64 p, .slice A n c] 29)).heap.size := (by simp); have hv0 : (wo.alloc (.cells #[.int .i64 m, .int .i64 p, .slice A n c] 29)).cell? ⟨wo.heap.size, 0, none⟩ = some (.int .i64 m) := (by rw [cell_of_row _ _ _ _ _ _ (heap_alloc_new wo _)]; rfl); have hv1 : (wo.alloc (.cells #[.int .i64 m, .int .i64 p, .slice A n c] 29)).cell? ⟨wo.heap.size, 1, none⟩ = some (.int .i64 p) := (by rw [cell_of_row _ _ _ _ _ _ (heap_alloc_new wo _)]; rfl); have hv2 : (wo.alloc (.cells #[.int .i64 m, .int .i64 p, .slice A n c] 29)).cell? ⟨wo.heap.size, 2, none⟩ = some (.slice A n c) := (by rw [cell_of_row _ _ _ _ _ _ (heap_alloc_new wo _)]; rfl); have HV1 : Hid (wo.heap.size + 1 = (wo.alloc (.cells #[.int .i64 m, .int .i64 p, .slice A n c] 29)).heap.size) := (show _ = _ by simp); generalize wo.alloc (.cells #[.int .i64 m, .int .i64 p, .slice A n c] 29) = w at hWV hV0 HV1 hv0 hv1 hv2 ⊢; have hr := h.below hWV; have hB : Below w.heap.size w w := Below.refl _ _; have hwz : wo.heap.size ≤ w.heap.size := hWV.size)
    go_wp2_with (first | (go_at_call 55; refine (CI.out _ hr).mono ?_; rintro e w' ⟨rfl, hb⟩; have hB : Below w.heap.size w w' := Below.thenn (by repeat (first | exact Below.refl _ _ | assumption | apply Below.drew | apply below_drewN | (refine Below.alloc ?_ (by first | omega | (simp; done) | (simp; omega)) _) | (refine Below.setCell ?_ (by first | omega | (simp; done) | (simp; omega)) _))) hb (by first | omega | (simp; done) | (simp; omega)); have hz : w.heap.size ≤ w'.heap.size := hB.size; (try (have hz1 : w.heap.size + 1 ≤ w'.heap.size := (by have h := hb.size; (try simp at h); omega))); obtain ⟨hc, hf⟩ := bcell hb; have hB3 : Below wo.heap.size wo w' := Below.thenn hWV hB hwz; clear hb) | (go_at_call 63; (with_reducible refine (C1.out _).mono ?_); rintro e w' ⟨rfl, rfl⟩))
    (go_light; refine bodyPost_ret ?_ rfl ⟨rfl, (by repeat (first | exact Below.refl _ _ | assumption | apply Below.drew | apply below_drewN | (refine Below.alloc ?_ (by first | omega | (simp; done) | (simp; omega)) _) | (refine Below.setCell ?_ (by first | omega | (simp; done) | (simp; omega)) _)))⟩; simp [results, Try.results31, go_sem, *])
  have hlb := (show -100000 ≤ low ∧ low ≤ 100000 by simpa [inr] using h1)
  have l0 := hlb.1
  have l1 := hlb.2
  have c2' := fun w' => spec_l1In high low 100000 w'
  rcases h2 : inr high low 100000 with _ | _
  all_goals rw [h2] at c2'
  all_goals have C2 := Lib.hid c2'
  · rw [show wpR m p rows v low high = none by
      have : inr high low (min (low + 100) 100000) = false := by
        simp only [inr, decide_eq_false_iff_not] at h2 ⊢
        omega
      unfold wpR wpOk; rw [this]; simp]
    simp only [o1, o2, o3, Option.isSome_none]
    clear ci hq c1' h1 c2' h2 hlb
    go_enter Try.func31, Try.ntmps31
    (go_wp2_with fail; have hWV : Below wo.heap.size wo (wo.alloc (.cells #[.int .i64 m, .int .i64 p, .slice A n c] 29)) := (Below.refl _ _).alloc (Nat.le_refl _) _; have hV0 : wo.heap.size < (wo.alloc (.cells #[.int .i64 m, .int .i64 p, .slice A n c] 29)).heap.size := (by simp); have hv0 : (wo.alloc (.cells #[.int .i64 m, .int .i64 p, .slice A n c] 29)).cell? ⟨wo.heap.size, 0, none⟩ = some (.int .i64 m) := (by rw [cell_of_row _ _ _ _ _ _ (heap_alloc_new wo _)]; rfl); have hv1 : (wo.alloc (.cells #[.int .i64 m, .int .i64 p, .slice A n c] 29)).cell? ⟨wo.heap.size, 1, none⟩ = some (.int .i64 p) := (by rw [cell_of_row _ _ _ _ _ _ (heap_alloc_new wo _)]; rfl); have hv2 : (wo.alloc (.cells #[.int .i64 m, .int .i64 p, .slice A n c] 29)).cell? ⟨wo.heap.size, 2, none⟩ = some (.slice A n c) := (by rw [cell_of_row _ _ _ _ _ _ (heap_alloc_new wo _)]; rfl); have HV1 : Hid (wo.heap.size + 1 = (wo.alloc (.cells #[.int .i64 m, .int .i64 p, .slice A n c] 29)).heap.size) := (show _ = _ by simp); generalize wo.alloc (.cells #[.int .i64 m, .int .i64 p, .slice A n c] 29) = w at hWV hV0 HV1 hv0 hv1 hv2 ⊢; have hr := h.below hWV; have hB : Below w.heap.size w w := Below.refl _ _; have hwz : wo.heap.size ≤ w.heap.size := hWV.size)
    go_wp2_with (first | (go_at_call 55; refine (CI.out _ hr).mono ?_; rintro e w' ⟨rfl, hb⟩; have hB : Below w.heap.size w w' := Below.thenn (by repeat (first | exact Below.refl _ _ | assumption | apply Below.drew | apply below_drewN | (refine Below.alloc ?_ (by first | omega | (simp; done) | (simp; omega)) _) | (refine Below.setCell ?_ (by first | omega | (simp; done) | (simp; omega)) _))) hb (by first | omega | (simp; done) | (simp; omega)); have hz : w.heap.size ≤ w'.heap.size := hB.size; (try (have hz1 : w.heap.size + 1 ≤ w'.heap.size := (by have h := hb.size; (try simp at h); omega))); obtain ⟨hc, hf⟩ := bcell hb; have hB3 : Below wo.heap.size wo w' := Below.thenn hWV hB hwz; clear hb) | (go_at_call 63; (with_reducible refine (C1.out _).mono ?_); rintro e w' ⟨rfl, rfl⟩) | (go_at_call 63; (with_reducible refine (C2.out _).mono ?_); rintro e w' ⟨rfl, rfl⟩))
    (go_light; refine bodyPost_ret ?_ rfl ⟨rfl, (by repeat (first | exact Below.refl _ _ | assumption | apply Below.drew | apply below_drewN | (refine Below.alloc ?_ (by first | omega | (simp; done) | (simp; omega)) _) | (refine Below.setCell ?_ (by first | omega | (simp; done) | (simp; omega)) _)))⟩; simp [results, Try.results31, go_sem, *])
  have hhb := (show low ≤ high ∧ high ≤ 100000 by simpa [inr] using h2)
  have hh0 := hhb.1
  have hh1 := hhb.2
  by_cases h100 : 100 < high - low
  · rw [show wpR m p rows v low high = none by
      have : inr high low (min (low + 100) 100000) = false := by
        simp only [inr, decide_eq_false_iff_not]
        omega
      unfold wpR wpOk; rw [this]; simp]
    simp only [o1, o2, o3, Option.isSome_none]
    clear ci hq c1' h1 c2' h2 hlb hhb
    go_enter Try.func31, Try.ntmps31
    (go_wp2_with fail; have hWV : Below wo.heap.size wo (wo.alloc (.cells #[.int .i64 m, .int .i64 p, .slice A n c] 29)) := (Below.refl _ _).alloc (Nat.le_refl _) _; have hV0 : wo.heap.size < (wo.alloc (.cells #[.int .i64 m, .int .i64 p, .slice A n c] 29)).heap.size := (by simp); have hv0 : (wo.alloc (.cells #[.int .i64 m, .int .i64 p, .slice A n c] 29)).cell? ⟨wo.heap.size, 0, none⟩ = some (.int .i64 m) := (by rw [cell_of_row _ _ _ _ _ _ (heap_alloc_new wo _)]; rfl); have hv1 : (wo.alloc (.cells #[.int .i64 m, .int .i64 p, .slice A n c] 29)).cell? ⟨wo.heap.size, 1, none⟩ = some (.int .i64 p) := (by rw [cell_of_row _ _ _ _ _ _ (heap_alloc_new wo _)]; rfl); have hv2 : (wo.alloc (.cells #[.int .i64 m, .int .i64 p, .slice A n c] 29)).cell? ⟨wo.heap.size, 2, none⟩ = some (.slice A n c) := (by rw [cell_of_row _ _ _ _ _ _ (heap_alloc_new wo _)]; rfl); have HV1 : Hid (wo.heap.size + 1 = (wo.alloc (.cells #[.int .i64 m, .int .i64 p, .slice A n c] 29)).heap.size) := (show _ = _ by simp); generalize wo.alloc (.cells #[.int .i64 m, .int .i64 p, .slice A n c] 29) = w at hWV hV0 HV1 hv0 hv1 hv2 ⊢; have hr := h.below hWV; have hB : Below w.heap.size w w := Below.refl _ _; have hwz : wo.heap.size ≤ w.heap.size := hWV.size)
    go_wp2_with (first | (go_at_call 55; refine (CI.out _ hr).mono ?_; rintro e w' ⟨rfl, hb⟩; have hB : Below w.heap.size w w' := Below.thenn (by repeat (first | exact Below.refl _ _ | assumption | apply Below.drew | apply below_drewN | (refine Below.alloc ?_ (by first | omega | (simp; done) | (simp; omega)) _) | (refine Below.setCell ?_ (by first | omega | (simp; done) | (simp; omega)) _))) hb (by first | omega | (simp; done) | (simp; omega)); have hz : w.heap.size ≤ w'.heap.size := hB.size; (try (have hz1 : w.heap.size + 1 ≤ w'.heap.size := (by have h := hb.size; (try simp at h); omega))); obtain ⟨hc, hf⟩ := bcell hb; have hB3 : Below wo.heap.size wo w' := Below.thenn hWV hB hwz; clear hb) | (go_at_call 63; (with_reducible refine (C1.out _).mono ?_); rintro e w' ⟨rfl, rfl⟩) | (go_at_call 63; (with_reducible refine (C2.out _).mono ?_); rintro e w' ⟨rfl, rfl⟩))
    (go_light; refine bodyPost_ret ?_ rfl ⟨rfl, (by repeat (first | exact Below.refl _ _ | assumption | apply Below.drew | apply below_drewN | (refine Below.alloc ?_ (by first | omega | (simp; done) | (simp; omega)) _) | (refine Below.setCell ?_ (by first | omega | (simp; done) | (simp; omega)) _)))⟩; simp [results, Try.results31, go_sem, *])
  obtain ⟨hok, v0, v1⟩ := asked_iff hq
  have hOK : wpOk m p rows v low high = true := by
    have : inr high low (min (low + 100) 100000) = true := by
      simp only [inr, decide_eq_true_eq]
      omega
    unfold wpOk; rw [hq, h1, this]; rfl
  have HOK := Lib.hid hok
  generalize hR : wpR m p rows v low high = R
  obtain ⟨L, hL⟩ : ∃ L : Nat, L = (high - low + 1).toNat := ⟨_, rfl⟩
  have hLb : (L : Int) = high - low + 1 := by omega
  have HR : Hid (R = wbF (fun i => low + i) (pullG m rows v low) L 0 0 (-1)) := (show _ = _ by rw [← hR]; unfold wpR; rw [hOK, hL]; rfl)
  have hn4 : n ≤ 4 := by have := (drvOk_iff.1 hok).1.2.2; have := h.2.2; omega
  have CA := Lib.hid (fun w' (h' : RdR w' 2 A n rows) => spec_l10All m p A n c rows w' h' hn4)
  have CB : Hid (∀ (k : Nat) (hk : k < L) w' (h' : RdR w' 2 A n rows), Calls Try.prog 56 #[.agg #[.int .i64 m, .int .i64 (low + k), .slice A n c], .int .i64 v, .int .i64 ((2 ^ n - 1 : Nat) : Int)] w' (Ret w' (.int .i64 (wayZ m (low + k) rows v)))) := fun k hk w' h' => by
    have := spec_l10Way m (low + k) A n c (2 ^ n - 1) rows v w' h' (drv_pull HOK.out (by omega) (by omega)) v0 v1 (pow_lt hn4)
    rwa [sel_alln h.2.2 hn4] at this
  generalize 2 ^ n - 1 = SS at CA CB
  have HLb := Lib.hid hLb
  clear ci hq hok hR hOK hL h1 h2 c1' c2' hlb hhb
  go_enter Try.func31, Try.ntmps31
  (go_wp2_with fail; have hWV : Below wo.heap.size wo (wo.alloc (.cells #[.int .i64 m, .int .i64 p, .slice A n c] 29)) := (Below.refl _ _).alloc (Nat.le_refl _) _; have hV0 : wo.heap.size < (wo.alloc (.cells #[.int .i64 m, .int .i64 p, .slice A n c] 29)).heap.size := (by simp); have hv0 : (wo.alloc (.cells #[.int .i64 m, .int .i64 p, .slice A n c] 29)).cell? ⟨wo.heap.size, 0, none⟩ = some (.int .i64 m) := (by rw [cell_of_row _ _ _ _ _ _ (heap_alloc_new wo _)]; rfl); have hv1 : (wo.alloc (.cells #[.int .i64 m, .int .i64 p, .slice A n c] 29)).cell? ⟨wo.heap.size, 1, none⟩ = some (.int .i64 p) := (by rw [cell_of_row _ _ _ _ _ _ (heap_alloc_new wo _)]; rfl); have hv2 : (wo.alloc (.cells #[.int .i64 m, .int .i64 p, .slice A n c] 29)).cell? ⟨wo.heap.size, 2, none⟩ = some (.slice A n c) := (by rw [cell_of_row _ _ _ _ _ _ (heap_alloc_new wo _)]; rfl); have HV1 : Hid (wo.heap.size + 1 = (wo.alloc (.cells #[.int .i64 m, .int .i64 p, .slice A n c] 29)).heap.size) := (show _ = _ by simp); generalize wo.alloc (.cells #[.int .i64 m, .int .i64 p, .slice A n c] 29) = w at hWV hV0 HV1 hv0 hv1 hv2 ⊢; have hr := h.below hWV; have hB : Below w.heap.size w w := Below.refl _ _; have hwz : wo.heap.size ≤ w.heap.size := hWV.size)
  go_wp2_with (first | (go_at_call 55; refine (CI.out _ hr).mono ?_; rintro e w' ⟨rfl, hb⟩; have hB : Below w.heap.size w w' := Below.thenn (by repeat (first | exact Below.refl _ _ | assumption | apply Below.drew | apply below_drewN | (refine Below.alloc ?_ (by first | omega | (simp; done) | (simp; omega)) _) | (refine Below.setCell ?_ (by first | omega | (simp; done) | (simp; omega)) _))) hb (by first | omega | (simp; done) | (simp; omega)); have hz : w.heap.size ≤ w'.heap.size := hB.size; (try (have hz1 : w.heap.size + 1 ≤ w'.heap.size := (by have h := hb.size; (try simp at h); omega))); obtain ⟨hc, hf⟩ := bcell hb; skip; clear hb) | (go_at_call 63; (with_reducible refine (C1.out _).mono ?_); rintro e w' ⟨rfl, rfl⟩) | (go_at_call 63; (with_reducible refine (C2.out _).mono ?_); rintro e w' ⟨rfl, rfl⟩))
  clear hc hf
  go_loopg [11, 12, 13] L (fun gg s11 s12 s13 wr => ∃ (k : Nat) (bb mo : Int), k ≤ L ∧ L ≤ k + gg ∧ s11 = .int .i64 bb ∧ s12 = .int .i64 mo ∧ s13 = .int .i64 (low + k) ∧ Below w.heap.size w wr ∧ w.heap.size ≤ wr.heap.size ∧ Hid (R = wbF (fun i => low + i) (pullG m rows v low) (L - k) k bb mo))
  case atStart => exact ⟨0, 0, -1, by omega, by omega, rfl, rfl, by simp, hB, hz, HR.out⟩
  case round =>
    clear hB hz
    obtain ⟨k, bb, mo, hk1, hk2, rfl, rfl, rfl, hBr, hzr, ha⟩ := hrel
    have a0 := (hBr.cell (p := ⟨wo.heap.size, 0, none⟩) hV0).trans hv0
    have a1 := (hBr.cell (p := ⟨wo.heap.size, 1, none⟩) hV0).trans hv1
    have a2 := (hBr.cell (p := ⟨wo.heap.size, 2, none⟩) hV0).trans hv2
    have hor := Nat.lt_of_lt_of_le hV0 hzr
    have hr2 := hr.below hBr
    by_cases hlt : k < L
    · have hltz : low + (k : Int) ≤ high := by omega
      have CK := Lib.hid (CB.out k hlt)
      have hdr := drv_pull (q := low + k) HOK.out (by omega) (by omega)
      have hneg := wayZ_neg hdr v0 v1
      have hdw := brkS_dw hdr v0 v1
      rcases hb : brkK m (low + k) rows v with _ | _
      · obtain rfl : R = none := ha.out.trans (wbF_none hlt (pullG_none hb))
        have hz0 : wayZ m (low + k) rows v < 0 := hneg.2 hb
        generalize wayZ m (low + k) rows v = zz at CK hz0
        clear hb ha HR hneg hdw hdr
        go_wp2_with fail
        (refine wp_region_ext (by kernel_rfl) (by kernel_rfl) ?_; have hxe := ext_cells; (repeat (go_big_quiet_step (first | (go_at_call 57; exact ext_ret (CA.out _ (hr2.below (Ext.below _)))) | (go_at_call 56; exact ext_ret (CK.out _ (hr2.below (Ext.below _))))))); refine wpQuiet_nil ?_; intro w' hw'; obtain ⟨nx, hw''⟩ := hw'; have hbx := ext_out hw''; clear hw'' nx hxe; have hB : Below w.heap.size w w' := Below.thenn (by repeat (first | exact Below.refl _ _ | assumption | apply Below.drew | apply below_drewN | (refine Below.alloc ?_ (by first | omega | (simp; done) | (simp; omega)) _) | (refine Below.setCell ?_ (by first | omega | (simp; done) | (simp; omega)) _))) hbx (by first | omega | (simp; done) | (simp; omega)); have hz : w.heap.size ≤ w'.heap.size := hB.size; obtain ⟨hc, hf⟩ := bcell hbx; clear hbx)
        go_wp2_with fail
        have hB3 : Below wo.heap.size wo w' := Below.thenn hWV hB hwz
        (go_light; refine bodyPost_ret ?_ rfl ⟨rfl, (by repeat (first | exact Below.refl _ _ | assumption | apply Below.drew | apply below_drewN | (refine Below.alloc ?_ (by first | omega | (simp; done) | (simp; omega)) _) | (refine Below.setCell ?_ (by first | omega | (simp; done) | (simp; omega)) _)))⟩; simp [results, Try.results31, go_sem, *, o1, o2, o3])
      · have hs := pullG_some hb
        have hzw : wayZ m (low + k) rows v = dw (brkS m (low + k) rows v) := by unfold wayZ; rw [hb]; rfl
        rw [hzw] at CK
        generalize dw (brkS m (low + k) rows v) = z at CK hs hdw
        have HS := Lib.hid hs
        have hz0 : ¬ z < 0 := by omega
        clear hb hs hzw hneg hdr hdw
        by_cases hz1 : mo < z
        · have HX := Lib.hid (wbF_up (e := fun i => low + (i : Int)) (b := bb) hlt HS.out hz1)
          go_wp2_with fail
          (refine wp_region_ext (by kernel_rfl) (by kernel_rfl) ?_; have hxe := ext_cells; (repeat (go_big_quiet_step (first | (go_at_call 57; exact ext_ret (CA.out _ (hr2.below (Ext.below _)))) | (go_at_call 56; exact ext_ret (CK.out _ (hr2.below (Ext.below _))))))); refine wpQuiet_nil ?_; intro w' hw'; obtain ⟨nx, hw''⟩ := hw'; have hbx := ext_out hw''; clear hw'' nx hxe; have hB : Below w.heap.size w w' := Below.thenn (by repeat (first | exact Below.refl _ _ | assumption | apply Below.drew | apply below_drewN | (refine Below.alloc ?_ (by first | omega | (simp; done) | (simp; omega)) _) | (refine Below.setCell ?_ (by first | omega | (simp; done) | (simp; omega)) _))) hbx (by first | omega | (simp; done) | (simp; omega)); have hz : w.heap.size ≤ w'.heap.size := hB.size; obtain ⟨hc, hf⟩ := bcell hbx; clear hbx)
          go_wp2_with fail
          go_roundg (L - (k + 1))
          case measure => omega
          case rel => exact ⟨k + 1, low + k, z, by omega, by omega, rfl, rfl, by first | (congr 1; omega) | (simp; omega), hB, hz, ha.out.trans HX.out⟩
        · have HX := Lib.hid (wbF_keep (e := fun i => low + (i : Int)) (b := bb) hlt HS.out hz1)
          go_wp2_with fail
          (refine wp_region_ext (by kernel_rfl) (by kernel_rfl) ?_; have hxe := ext_cells; (repeat (go_big_quiet_step (first | (go_at_call 57; exact ext_ret (CA.out _ (hr2.below (Ext.below _)))) | (go_at_call 56; exact ext_ret (CK.out _ (hr2.below (Ext.below _))))))); refine wpQuiet_nil ?_; intro w' hw'; obtain ⟨nx, hw''⟩ := hw'; have hbx := ext_out hw''; clear hw'' nx hxe; have hB : Below w.heap.size w w' := Below.thenn (by repeat (first | exact Below.refl _ _ | assumption | apply Below.drew | apply below_drewN | (refine Below.alloc ?_ (by first | omega | (simp; done) | (simp; omega)) _) | (refine Below.setCell ?_ (by first | omega | (simp; done) | (simp; omega)) _))) hbx (by first | omega | (simp; done) | (simp; omega)); have hz : w.heap.size ≤ w'.heap.size := hB.size; obtain ⟨hc, hf⟩ := bcell hbx; clear hbx)
          go_wp2_with fail
          go_roundg (L - (k + 1))
          case measure => omega
          case rel => exact ⟨k + 1, bb, mo, by omega, by omega, rfl, rfl, by first | (congr 1; omega) | (simp; omega), hB, hz, ha.out.trans HX.out⟩
    · have hltz : ¬ low + (k : Int) ≤ high := by omega
      obtain rfl : R = some (bb, mo) := ha.out.trans (wbF_end (by omega))
      have hB3 : Below wo.heap.size wo wr := Below.thenn hWV hBr hwz
      clear ha HR
      go_wp2_with fail
      (go_light; refine bodyPost_ret ?_ rfl ⟨rfl, (by repeat (first | exact Below.refl _ _ | assumption | apply Below.drew | apply below_drewN | (refine Below.alloc ?_ (by first | omega | (simp; done) | (simp; omega)) _) | (refine Below.setCell ?_ (by first | omega | (simp; done) | (simp; omega)) _)))⟩; simp [results, Try.results31, go_sem, *, o1, o2, o3])
end Go.Proofs.Ythijklidjdhkdaa
