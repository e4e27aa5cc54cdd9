/- The brakes: the way without one brake, the reference's. -/
import Derived.Test.YthijklidjdhkdaaBrkG
namespace Go.Proofs.Ythijklidjdhkdaa
open Go.RowKit
set_option linter.unusedVariables false
set_option linter.unusedSimpArgs false

theorem pow_int {j : Nat} (hj : j ≤ 3) : IntKind.i64.wrap ((2 : Int) ^ j) = (2 : Int) ^ j := by
  rcases (by omega : j = 0 ∨ j = 1 ∨ j = 2 ∨ j = 3) with rfl | rfl | rfl | rfl <;> exact IntWalk.i64_in _ (by decide)
theorem pow_sub {n j : Nat} (hj : j < n) (hn : n ≤ 4) : IntKind.i64.wrap (((2 ^ n - 1 : Nat) : Int) - (2 : Int) ^ j) = ((2 ^ n - 1 - 2 ^ j : Nat) : Int) := by
  have h := pow_but hj hn
  have e : (2 : Int) ^ j = ((2 ^ j : Nat) : Int) := by norm_cast
  rw [e, h.1]
  exact IntWalk.i64_in _ (by omega)
theorem wwOk_of {m p : Int} {rows : List (List Int)} {v : Int} {j n : Nat} (hq : (drvOk m p rows && inr v 0 100) = true) (hl : rows.length = n) (hb : inr (j : Int) 0 ((n : Int) - 1) = true) : wwOk m p rows v j = brkK m p (butR rows j) v := by
  unfold wwOk; rw [hq, hl, hb]; simp
set_option maxRecDepth 100000 in
set_option maxHeartbeats 2000000 in
theorem spec_WayWithout (m p : Int) (A : Option Addr) (n c : Nat) (rows : List (List Int)) (v brake : Int) (wo : World) (h : RdR wo 2 A n rows) (hm : n ≤ 1048577) :
    Calls Try.prog 33 #[.agg #[.int .i64 m, .int .i64 p, .slice A n c], .int .i64 v, .int .i64 brake] wo (Ret wo (.tuple #[.int .i64 (wwV m p rows v brake), .bool (wwOk m p rows v brake)])) := by
  have hl := Lib.hid h.2.2
  have ci := fun w' (h' : RdR w' 2 A n rows) => spec_l10Asked m p A n c rows v w' h' hm
  have hn0 : (0 : Int) ≤ (n : Int) := by omega
  rcases hq : (drvOk m p rows && inr v 0 100) with _ | _
  all_goals rw [hq] at ci
  all_goals have CI := Lib.hid ci
  · rw [show wwV m p rows v brake = 0 by unfold wwV wwOk; rw [hq]; rfl, show wwOk m p rows v brake = false by unfold wwOk; rw [hq]; rfl]
    clear ci hq
    go_enter Try.func33, Try.ntmps33
    (go_wp2_with fail; have hWV : Below wo.heap.size wo (wo.alloc (.cells #[.int .i64 m, .int .i64 p, .slice A n c] 29)) := (Below.refl _ _).alloc (Nat.le_refl _) _; have hV0 : wo.heap.size < (wo.alloc (.cells #[.int .i64 m, .int .i64 p, .slice A n c] 29)).heap.size := (by simp); have hv0 : (wo.alloc (.cells #[.int .i64 m, .int .i64 p, .slice A n c] 29)).cell? ⟨wo.heap.size, 0, none⟩ = some (.int .i64 m) := (by rw [cell_of_row _ _ _ _ _ _ (heap_alloc_new wo _)]; rfl); have hv1 : (wo.alloc (.cells #[.int .i64 m, .int .i64 p, .slice A n c] 29)).cell? ⟨wo.heap.size, 1, none⟩ = some (.int .i64 p) := (by rw [cell_of_row _ _ _ _ _ _ (heap_alloc_new wo _)]; rfl); have hv2 : (wo.alloc (.cells #[.int .i64 m, .int .i64 p, .slice A n c] 29)).cell? ⟨wo.heap.size, 2, none⟩ = some (.slice A n c) := (by rw [cell_of_row _ _ _ _ _ _ (heap_alloc_new wo _)]; rfl); have HV1 : Hid (wo.heap.size + 1 = (wo.alloc (.cells #[.int .i64 m, .int .i64 p, .slice A n c] 29)).heap.size) := (show _ = _ by simp); generalize wo.alloc (.cells #[.int .i64 m, .int .i64 p, .slice A n c] 29) = w at hWV hV0 HV1 hv0 hv1 hv2 ⊢; have hr := h.below hWV; have hB : Below w.heap.size w w := Below.refl _ _; have hwz : wo.heap.size ≤ w.heap.size := hWV.size)
    go_wp2_with (go_at_call 55; refine (CI.out _ hr).mono ?_; rintro e w' ⟨rfl, hb⟩; have hB : Below w.heap.size w w' := Below.thenn (by repeat (first | exact Below.refl _ _ | assumption | apply Below.drew | apply below_drewN | (refine Below.alloc ?_ (by first | omega | (simp; done) | (simp; omega)) _) | (refine Below.setCell ?_ (by first | omega | (simp; done) | (simp; omega)) _))) hb (by first | omega | (simp; done) | (simp; omega)); have hz : w.heap.size ≤ w'.heap.size := hB.size; (try (have hz1 : w.heap.size + 1 ≤ w'.heap.size := (by have h := hb.size; (try simp at h); omega))); obtain ⟨hc, hf⟩ := bcell hb; clear hb)
    go_ret2
    exact ⟨rfl, Below.thenn hWV hB hwz⟩
  have cw := fun w' => spec_l1In brake 0 ((n : Int) - 1) w'
  rcases hb : inr brake 0 ((n : Int) - 1) with _ | _
  all_goals rw [hb] at cw
  all_goals have CW := Lib.hid cw
  · rw [show wwV m p rows v brake = 0 by unfold wwV wwOk; rw [hl.out, hb]; simp, show wwOk m p rows v brake = false by unfold wwOk; rw [hl.out, hb]; simp]
    clear ci hq cw hb
    go_enter Try.func33, Try.ntmps33
    (go_wp2_with fail; have hWV : Below wo.heap.size wo (wo.alloc (.cells #[.int .i64 m, .int .i64 p, .slice A n c] 29)) := (Below.refl _ _).alloc (Nat.le_refl _) _; have hV0 : wo.heap.size < (wo.alloc (.cells #[.int .i64 m, .int .i64 p, .slice A n c] 29)).heap.size := (by simp); have hv0 : (wo.alloc (.cells #[.int .i64 m, .int .i64 p, .slice A n c] 29)).cell? ⟨wo.heap.size, 0, none⟩ = some (.int .i64 m) := (by rw [cell_of_row _ _ _ _ _ _ (heap_alloc_new wo _)]; rfl); have hv1 : (wo.alloc (.cells #[.int .i64 m, .int .i64 p, .slice A n c] 29)).cell? ⟨wo.heap.size, 1, none⟩ = some (.int .i64 p) := (by rw [cell_of_row _ _ _ _ _ _ (heap_alloc_new wo _)]; rfl); have hv2 : (wo.alloc (.cells #[.int .i64 m, .int .i64 p, .slice A n c] 29)).cell? ⟨wo.heap.size, 2, none⟩ = some (.slice A n c) := (by rw [cell_of_row _ _ _ _ _ _ (heap_alloc_new wo _)]; rfl); have HV1 : Hid (wo.heap.size + 1 = (wo.alloc (.cells #[.int .i64 m, .int .i64 p, .slice A n c] 29)).heap.size) := (show _ = _ by simp); generalize wo.alloc (.cells #[.int .i64 m, .int .i64 p, .slice A n c] 29) = w at hWV hV0 HV1 hv0 hv1 hv2 ⊢; have hr := h.below hWV; have hB : Below w.heap.size w w := Below.refl _ _; have hwz : wo.heap.size ≤ w.heap.size := hWV.size)
    go_wp2_with (first | (go_at_call 55; refine (CI.out _ hr).mono ?_; rintro e w' ⟨rfl, hb⟩; have hB : Below w.heap.size w w' := Below.thenn (by repeat (first | exact Below.refl _ _ | assumption | apply Below.drew | apply below_drewN | (refine Below.alloc ?_ (by first | omega | (simp; done) | (simp; omega)) _) | (refine Below.setCell ?_ (by first | omega | (simp; done) | (simp; omega)) _))) hb (by first | omega | (simp; done) | (simp; omega)); have hz : w.heap.size ≤ w'.heap.size := hB.size; (try (have hz1 : w.heap.size + 1 ≤ w'.heap.size := (by have h := hb.size; (try simp at h); omega))); obtain ⟨hc, hf⟩ := bcell hb; have hor := Nat.lt_of_lt_of_le hV0 hz; have a2 := (hB.cell (p := ⟨wo.heap.size, 2, none⟩) hV0).trans hv2; clear hb) | (go_at_call 63; refine (CW.out _).mono ?_; rintro e w' ⟨rfl, rfl⟩))
    go_ret2
    exact ⟨rfl, Below.thenn hWV hB hwz⟩
  obtain ⟨hok, v0, v1⟩ := asked_iff hq
  have hbb := (show 0 ≤ brake ∧ brake ≤ (n : Int) - 1 by simpa [inr] using hb)
  obtain ⟨j, rfl⟩ : ∃ j : Nat, brake = (j : Int) := ⟨brake.toNat, by omega⟩
  have hj : j < n := by omega
  have hn4 : n ≤ 4 := by have := (drvOk_iff.1 hok).1.2.2; have := hl.out; omega
  have hpb := pow_but hj hn4
  have CA := Lib.hid (fun w' (h' : RdR w' 2 A n rows) => spec_l10All m p A n c rows w' h' hn4)
  have cy := fun w' (h' : RdR w' 2 A n rows) => spec_l10Way m p A n c (2 ^ n - 1 - 2 ^ j) rows v w' h' hok v0 v1 hpb.2.1
  rw [sel_butn hl.out hn4 hj] at cy
  have CY := Lib.hid cy
  have hneg := wayZ_neg (butR_ok (j := j) hok) v0 v1
  rw [show wwV m p rows v j = if brkK m p (butR rows j) v then wayZ m p (butR rows j) v else 0 by unfold wwV; rw [wwOk_of hq hl.out hb]; unfold wayZ; simp only [Int.toNat_natCast]; split <;> rfl, wwOk_of hq hl.out hb]
  have hs1 := pow_int (j := j) (by omega)
  have hs2 := pow_sub hj hn4
  generalize wayZ m p (butR rows j) v = z at CY hneg ⊢
  generalize brkK m p (butR rows j) v = bb at hneg ⊢
  generalize 2 ^ n - 1 - 2 ^ j = T at CY hs2
  generalize 2 ^ n - 1 = S at CA hs2
  clear ci hq cw hb hbb hok cy hpb
  rcases bb with _ | _
  all_goals simp only [Bool.false_eq_true, if_false, if_true]
  all_goals have hz0 := hneg
  all_goals simp only [Bool.true_eq_false, iff_true, iff_false] at hz0
  all_goals clear hneg
  all_goals (go_enter Try.func33, Try.ntmps33)
  all_goals (go_wp2_with fail; have hWV : Below wo.heap.size wo (wo.alloc (.cells #[.int .i64 m, .int .i64 p, .slice A n c] 29)) := (Below.refl _ _).alloc (Nat.le_refl _) _; have hV0 : wo.heap.size < (wo.alloc (.cells #[.int .i64 m, .int .i64 p, .slice A n c] 29)).heap.size := (by simp); have hv0 : (wo.alloc (.cells #[.int .i64 m, .int .i64 p, .slice A n c] 29)).cell? ⟨wo.heap.size, 0, none⟩ = some (.int .i64 m) := (by rw [cell_of_row _ _ _ _ _ _ (heap_alloc_new wo _)]; rfl); have hv1 : (wo.alloc (.cells #[.int .i64 m, .int .i64 p, .slice A n c] 29)).cell? ⟨wo.heap.size, 1, none⟩ = some (.int .i64 p) := (by rw [cell_of_row _ _ _ _ _ _ (heap_alloc_new wo _)]; rfl); have hv2 : (wo.alloc (.cells #[.int .i64 m, .int .i64 p, .slice A n c] 29)).cell? ⟨wo.heap.size, 2, none⟩ = some (.slice A n c) := (by rw [cell_of_row _ _ _ _ _ _ (heap_alloc_new wo _)]; rfl); have HV1 : Hid (wo.heap.size + 1 = (wo.alloc (.cells #[.int .i64 m, .int .i64 p, .slice A n c] 29)).heap.size) := (show _ = _ by simp); generalize wo.alloc (.cells #[.int .i64 m, .int .i64 p, .slice A n c] 29) = w at hWV hV0 HV1 hv0 hv1 hv2 ⊢; have hr := h.below hWV; have hB : Below w.heap.size w w := Below.refl _ _; have hwz : wo.heap.size ≤ w.heap.size := hWV.size)
  all_goals go_wp2_with (first | (go_at_call 55; refine (CI.out _ hr).mono ?_; rintro e w' ⟨rfl, hb⟩; have hB : Below w.heap.size w w' := Below.thenn (by repeat (first | exact Below.refl _ _ | assumption | apply Below.drew | apply below_drewN | (refine Below.alloc ?_ (by first | omega | (simp; done) | (simp; omega)) _) | (refine Below.setCell ?_ (by first | omega | (simp; done) | (simp; omega)) _))) hb (by first | omega | (simp; done) | (simp; omega)); have hz : w.heap.size ≤ w'.heap.size := hB.size; (try (have hz1 : w.heap.size + 1 ≤ w'.heap.size := (by have h := hb.size; (try simp at h); omega))); obtain ⟨hc, hf⟩ := bcell hb; have hor := Nat.lt_of_lt_of_le hV0 hz; have a0 := (hB.cell (p := ⟨wo.heap.size, 0, none⟩) hV0).trans hv0; have a1 := (hB.cell (p := ⟨wo.heap.size, 1, none⟩) hV0).trans hv1; have a2 := (hB.cell (p := ⟨wo.heap.size, 2, none⟩) hV0).trans hv2; clear hb) | (go_at_call 63; refine (CW.out _).mono ?_; rintro e w' ⟨rfl, rfl⟩))
  all_goals obtain ⟨w1, rfl⟩ : ∃ w1, w1 = w' := ⟨_, rfl⟩
  all_goals have hr2 := hr.below hB
  all_goals clear hc hf hv0 hv1 hv2
  all_goals (refine wp_region_ext (by kernel_rfl) (by kernel_rfl) ?_; have hxe := ext_cells; (repeat (go_big_quiet_step (first | (go_at_call 57; exact ext_ret (CA.out _ (hr2.below (Ext.below _)))) | (go_at_call 56; exact ext_ret (CY.out _ (hr2.below (Ext.below _))))))); refine wpQuiet_nil ?_; intro w' hw'; obtain ⟨nx, hw''⟩ := hw'; have hbx := ext_out hw''; clear hw'' nx hxe; have hB : Below w.heap.size w w' := Below.thenn (by repeat (first | exact Below.refl _ _ | assumption | apply Below.drew | apply below_drewN | (refine Below.alloc ?_ (by first | omega | (simp; done) | (simp; omega)) _) | (refine Below.setCell ?_ (by first | omega | (simp; done) | (simp; omega)) _))) hbx (by first | omega | (simp; done) | (simp; omega)); have hz : w.heap.size ≤ w'.heap.size := hB.size; obtain ⟨hc, hf⟩ := bcell hbx; clear hbx)
  all_goals go_wp2_with fail
  all_goals go_ret2
  all_goals exact ⟨rfl, Below.thenn hWV hB hwz⟩
end Go.Proofs.Ythijklidjdhkdaa
