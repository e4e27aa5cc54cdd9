/- How the rope presses on a support: the reference's. -/
import Derived.Test.YtjfmicemnoglkaaSafE
import Derived.Test.YtjfmicemnoglkaaSafF
import Derived.Test.YtjfmicemnoglkaaSafB
namespace Go.Proofs.Ytjfmicemnoglkaa
open Go.RowKit
set_option linter.unusedVariables false
set_option linter.unusedSimpArgs false

set_option maxRecDepth 100000 in
set_option maxHeartbeats 4000000 in
theorem spec_PressAt (A : Option Addr) (n c : Nat) (rows : List (List Int)) (x ct r k : Int) (wo : World) (h : RdL wo A n rows) (hm : n ≤ 1048577) :
    Calls Try.prog 77 #[.slice A n c, .agg #[.int .i64 x, .int .i64 ct, .int .i64 r], .int .i64 k] wo (Ret wo (.tuple #[.int .i64 (prV rows x ct r k), .bool (prOk rows x ct r k)])) := by
  have cu := fun w' (h' : RdL w' A n rows) => spec_UpTensions A n c rows x ct r w' h' hm
  rcases hu : upOk rows x ct r with _ | _
  · have hk : prOk rows x ct r k = false := by simp [prOk, hu]
    rw [hk, pr_no hk]
    rw [hu] at cu
    generalize upV rows x ct r = zs at *
    have CU := Lib.hid cu
    clear cu hk hu
    go_enter Try.func77, Try.ntmps77
    go_wp2_with fail
    (have hWV : Below wo.heap.size wo (wo.alloc (.cells #[.int .i64 x, .int .i64 ct, .int .i64 r] 70)) := (Below.refl _ _).alloc (Nat.le_refl _) _; have hV0 : wo.heap.size < (wo.alloc (.cells #[.int .i64 x, .int .i64 ct, .int .i64 r] 70)).heap.size := (by simp); have hv0 : (wo.alloc (.cells #[.int .i64 x, .int .i64 ct, .int .i64 r] 70)).cell? ⟨wo.heap.size, 0, none⟩ = some (.int .i64 x) := (by rw [cell_of_row _ _ _ _ _ _ (heap_alloc_new wo _)]; rfl); have hv1 : (wo.alloc (.cells #[.int .i64 x, .int .i64 ct, .int .i64 r] 70)).cell? ⟨wo.heap.size, 1, none⟩ = some (.int .i64 ct) := (by rw [cell_of_row _ _ _ _ _ _ (heap_alloc_new wo _)]; rfl); have hv2 : (wo.alloc (.cells #[.int .i64 x, .int .i64 ct, .int .i64 r] 70)).cell? ⟨wo.heap.size, 2, none⟩ = some (.int .i64 r) := (by rw [cell_of_row _ _ _ _ _ _ (heap_alloc_new wo _)]; rfl); have HHW := Lib.hid hWV; have HV1 : Hid (wo.heap.size + 1 = (wo.alloc (.cells #[.int .i64 x, .int .i64 ct, .int .i64 r] 70)).heap.size) := (show _ = _ by simp); generalize wo.alloc (.cells #[.int .i64 x, .int .i64 ct, .int .i64 r] 70) = w at hWV HHW hV0 HV1 hv0 hv1 hv2 ⊢; have HH := Lib.hid (h.below hWV); have hB : Below w.heap.size w w := Below.refl _ _; have hwz : wo.heap.size ≤ w.heap.size := hWV.size; (try rw [HV1.out]); clear hWV)
    go_wp2_with (go_at_call 64; refine (CU.out _ (by exact HH.out.below (by repeat (first | exact Below.refl _ _ | assumption | apply Below.drew | apply below_drewN | (refine Below.alloc ?_ (by first | omega | (simp; done) | (simp; omega)) _) | (refine Below.setCell ?_ (by first | omega | (simp; done) | (simp; omega)) _))))).mono ?_; rintro e w' ⟨A2, c2, rfl, ho, hb⟩; have hB : Below w.heap.size w w' := Below.thenn (by repeat (first | exact Below.refl _ _ | assumption | apply Below.drew | apply below_drewN | (refine Below.alloc ?_ (by first | omega | (simp; done) | (simp; omega)) _) | (refine Below.setCell ?_ (by first | omega | (simp; done) | (simp; omega)) _))) hb (by first | omega | (simp; done) | (simp; omega)); have O2 := Lib.hid ho; have hz : w.heap.size ≤ w'.heap.size := hB.size; (try (have hz1 : w.heap.size + 1 ≤ w'.heap.size := (by have h := hb.size; (try simp at h); omega))); have HQ := Lib.hid hb; obtain ⟨hc, hf⟩ := bcell hb; ((have b0 := (hB.cell (p := ⟨wo.heap.size, 0, none⟩) hV0).trans hv0; have b1 := (hB.cell (p := ⟨wo.heap.size, 1, none⟩) hV0).trans hv1; have b2 := (hB.cell (p := ⟨wo.heap.size, 2, none⟩) hV0).trans hv2; have hVk : wo.heap.size < w'.heap.size := Nat.lt_of_lt_of_le hV0 hB.size)); clear hb ho)
    go_ret2
    exact ⟨rfl, (Below.thenn HHW.out (show Below w.heap.size w _ from (by repeat (first | exact Below.refl _ _ | assumption | apply Below.drew | apply below_drewN | (refine Below.alloc ?_ (by first | omega | (simp; done) | (simp; omega)) _) | (refine Below.setCell ?_ (by first | omega | (simp; done) | (simp; omega)) _)))) HHW.out.size)⟩
  obtain ⟨hl, hc, hub⟩ := upOk_iff.1 hu
  have L := lineOk_line hl
  have hlo := L.lo
  have hhi := L.hi
  rw [up_yes hu, hu] at cu
  have hn := h.2.1
  rw [hn] at cu hlo hhi
  have l1 := tnL_len rows x ct r n
  have CU2 : Hid (∀ w', RdL w' A n rows → Calls Try.prog 64 #[.slice A n c, .agg #[.int .i64 x, .int .i64 ct, .int .i64 r]] w' (RetM w' n (tnL rows x ct r n))) := Lib.hid (fun w' h' => (cu w' h').mono (fun _ _ hq => RetM.of l1 hq))
  clear cu hc hub l1
  rcases hi : inr k 1 ((n : Int) - 2) with _ | _
  · have hk : prOk rows x ct r k = false := by unfold prOk; rw [hn, hi, Bool.and_false]
    rw [hk, pr_no hk]
    generalize tnL rows x ct r n = zs at *
    clear hk hu hn L hl
    go_enter Try.func77, Try.ntmps77
    go_wp2_with fail
    (have hWV : Below wo.heap.size wo (wo.alloc (.cells #[.int .i64 x, .int .i64 ct, .int .i64 r] 70)) := (Below.refl _ _).alloc (Nat.le_refl _) _; have hV0 : wo.heap.size < (wo.alloc (.cells #[.int .i64 x, .int .i64 ct, .int .i64 r] 70)).heap.size := (by simp); have hv0 : (wo.alloc (.cells #[.int .i64 x, .int .i64 ct, .int .i64 r] 70)).cell? ⟨wo.heap.size, 0, none⟩ = some (.int .i64 x) := (by rw [cell_of_row _ _ _ _ _ _ (heap_alloc_new wo _)]; rfl); have hv1 : (wo.alloc (.cells #[.int .i64 x, .int .i64 ct, .int .i64 r] 70)).cell? ⟨wo.heap.size, 1, none⟩ = some (.int .i64 ct) := (by rw [cell_of_row _ _ _ _ _ _ (heap_alloc_new wo _)]; rfl); have hv2 : (wo.alloc (.cells #[.int .i64 x, .int .i64 ct, .int .i64 r] 70)).cell? ⟨wo.heap.size, 2, none⟩ = some (.int .i64 r) := (by rw [cell_of_row _ _ _ _ _ _ (heap_alloc_new wo _)]; rfl); have HHW := Lib.hid hWV; have HV1 : Hid (wo.heap.size + 1 = (wo.alloc (.cells #[.int .i64 x, .int .i64 ct, .int .i64 r] 70)).heap.size) := (show _ = _ by simp); generalize wo.alloc (.cells #[.int .i64 x, .int .i64 ct, .int .i64 r] 70) = w at hWV HHW hV0 HV1 hv0 hv1 hv2 ⊢; have HH := Lib.hid (h.below hWV); have hB : Below w.heap.size w w := Below.refl _ _; have hwz : wo.heap.size ≤ w.heap.size := hWV.size; (try rw [HV1.out]); clear hWV)
    go_wp2_with (first | (go_at_call 64; refine (CU2.out _ (by exact HH.out.below (by repeat (first | exact Below.refl _ _ | assumption | apply Below.drew | apply below_drewN | (refine Below.alloc ?_ (by first | omega | (simp; done) | (simp; omega)) _) | (refine Below.setCell ?_ (by first | omega | (simp; done) | (simp; omega)) _))))).mono ?_; rintro e w' ⟨A2, c2, rfl, ho, hb⟩; have hB : Below w.heap.size w w' := Below.thenn (by repeat (first | exact Below.refl _ _ | assumption | apply Below.drew | apply below_drewN | (refine Below.alloc ?_ (by first | omega | (simp; done) | (simp; omega)) _) | (refine Below.setCell ?_ (by first | omega | (simp; done) | (simp; omega)) _))) hb (by first | omega | (simp; done) | (simp; omega)); have O2 := Lib.hid ho; have hz : w.heap.size ≤ w'.heap.size := hB.size; (try (have hz1 : w.heap.size + 1 ≤ w'.heap.size := (by have h := hb.size; (try simp at h); omega))); have HQ := Lib.hid hb; obtain ⟨hc, hf⟩ := bcell hb; ((have b0 := (hB.cell (p := ⟨wo.heap.size, 0, none⟩) hV0).trans hv0; have b1 := (hB.cell (p := ⟨wo.heap.size, 1, none⟩) hV0).trans hv1; have b2 := (hB.cell (p := ⟨wo.heap.size, 2, none⟩) hV0).trans hv2; have hVk : wo.heap.size < w'.heap.size := Nat.lt_of_lt_of_le hV0 hB.size)); clear hb ho) | (go_at_call 102; refine (spec_l1In _ _ _ _).mono ?_; rintro e w' ⟨rfl, rfl⟩))
    go_ret2
    exact ⟨rfl, (Below.thenn HHW.out (show Below w.heap.size w _ from (by repeat (first | exact Below.refl _ _ | assumption | apply Below.drew | apply below_drewN | (refine Below.alloc ?_ (by first | omega | (simp; done) | (simp; omega)) _) | (refine Below.setCell ?_ (by first | omega | (simp; done) | (simp; omega)) _)))) HHW.out.size)⟩
  · have hk : prOk rows x ct r k = true := by unfold prOk; rw [hn, hi, hu]; rfl
    have hi' : 1 ≤ k ∧ k ≤ (n : Int) - 2 := by simpa [inr] using hi
    obtain ⟨j, rfl⟩ : ∃ j : Nat, k = (j : Int) + 1 := ⟨(k - 1).toNat, by omega⟩
    have kt : ((j : Int) + 1).toNat = j + 1 := by omega
    have hj : j + 1 < n := by omega
    have hj2 : j + 1 + 1 < n := by omega
    have hbd := up_bd hu (i := j + 1) (by omega)
    have ezj := Lib.hid (tnL_at (rows := rows) (w := x) (c := ct) (R := r) hj)
    have s0 := sl_bd L (i := j) (by omega)
    have s1 := sl_bd L (i := j + 1) (by omega)
    rw [hk, pr_yes hk, kt]
    simp only [Nat.add_sub_cancel]
    have pb := pr_bd (a := tnN rows x ct r (j + 1)) (b := slN rows j - slN rows (j + 1)) hbd (by omega)
    generalize tnL rows x ct r n = zs at *
    generalize tnN rows x ct r (j + 1) = y at *
    obtain ⟨t0, hS0⟩ : ∃ t, slN rows j = t := ⟨_, rfl⟩
    obtain ⟨t1, hS1⟩ : ∃ t, slN rows (j + 1) = t := ⟨_, rfl⟩
    rw [hS0, hS1] at pb ⊢
    rw [hS0] at s0
    rw [hS1] at s1
    have k9 : 0 ≤ (j : Int) + 1 := by omega
    have C0 : Hid (∀ w', RdL w' A n rows → Calls Try.prog 134 #[.slice A n c, .int .i64 (j : Int)] w' (Ret w' (.int .i64 t0))) := Lib.hid (fun w' h1 => hS0 ▸ spec_l6Slope A n c j _ rows w' h1 hl rfl hj)
    have C1 : Hid (∀ w', RdL w' A n rows → Calls Try.prog 134 #[.slice A n c, .int .i64 ((j : Int) + 1)] w' (Ret w' (.int .i64 t1))) := Lib.hid (fun w' h1 => hS1 ▸ spec_l6Slope A n c (j + 1) _ rows w' h1 hl (by omega) hj2)
    clear hS0 hS1
    have u1 : IntKind.i64.wrap (t0 - t1) = t0 - t1 := IntWalk.i64_in _ (by omega)
    have u2 : IntKind.i64.wrap (y * (t0 - t1)) = y * (t0 - t1) := IntWalk.i64_in _ (by omega)
    have u3 : IntKind.i64.wrap ((y * (t0 - t1)).tdiv 1000) = (y * (t0 - t1)).tdiv 1000 := IntWalk.i64_in _ (by omega)
    have u4 : IntKind.i64.wrap (((j + 1 : Nat) : Int) - 1) = (j : Int) := (IntWalk.i64_in _ (by omega)).trans (by omega)
    have u5 : IntKind.i64.wrap ((j : Int) + 1 - 1) = (j : Int) := (IntWalk.i64_in _ (by omega)).trans (by omega)
    clear hk hu hn L hl
    go_enter Try.func77, Try.ntmps77
    go_wp2_with fail
    (have hWV : Below wo.heap.size wo (wo.alloc (.cells #[.int .i64 x, .int .i64 ct, .int .i64 r] 70)) := (Below.refl _ _).alloc (Nat.le_refl _) _; have hV0 : wo.heap.size < (wo.alloc (.cells #[.int .i64 x, .int .i64 ct, .int .i64 r] 70)).heap.size := (by simp); have hv0 : (wo.alloc (.cells #[.int .i64 x, .int .i64 ct, .int .i64 r] 70)).cell? ⟨wo.heap.size, 0, none⟩ = some (.int .i64 x) := (by rw [cell_of_row _ _ _ _ _ _ (heap_alloc_new wo _)]; rfl); have hv1 : (wo.alloc (.cells #[.int .i64 x, .int .i64 ct, .int .i64 r] 70)).cell? ⟨wo.heap.size, 1, none⟩ = some (.int .i64 ct) := (by rw [cell_of_row _ _ _ _ _ _ (heap_alloc_new wo _)]; rfl); have hv2 : (wo.alloc (.cells #[.int .i64 x, .int .i64 ct, .int .i64 r] 70)).cell? ⟨wo.heap.size, 2, none⟩ = some (.int .i64 r) := (by rw [cell_of_row _ _ _ _ _ _ (heap_alloc_new wo _)]; rfl); have HHW := Lib.hid hWV; have HV1 : Hid (wo.heap.size + 1 = (wo.alloc (.cells #[.int .i64 x, .int .i64 ct, .int .i64 r] 70)).heap.size) := (show _ = _ by simp); generalize wo.alloc (.cells #[.int .i64 x, .int .i64 ct, .int .i64 r] 70) = w at hWV HHW hV0 HV1 hv0 hv1 hv2 ⊢; have HH := Lib.hid (h.below hWV); have hB : Below w.heap.size w w := Below.refl _ _; have hwz : wo.heap.size ≤ w.heap.size := hWV.size; (try rw [HV1.out]); clear hWV)
    go_wp2_with (first | (go_at_call 64; refine (CU2.out _ (by exact HH.out.below (by repeat (first | exact Below.refl _ _ | assumption | apply Below.drew | apply below_drewN | (refine Below.alloc ?_ (by first | omega | (simp; done) | (simp; omega)) _) | (refine Below.setCell ?_ (by first | omega | (simp; done) | (simp; omega)) _))))).mono ?_; rintro e w' ⟨A2, c2, rfl, ho, hb⟩; have hB : Below w.heap.size w w' := Below.thenn (by repeat (first | exact Below.refl _ _ | assumption | apply Below.drew | apply below_drewN | (refine Below.alloc ?_ (by first | omega | (simp; done) | (simp; omega)) _) | (refine Below.setCell ?_ (by first | omega | (simp; done) | (simp; omega)) _))) hb (by first | omega | (simp; done) | (simp; omega)); have O2 := Lib.hid ho; have hz : w.heap.size ≤ w'.heap.size := hB.size; (try (have hz1 : w.heap.size + 1 ≤ w'.heap.size := (by have h := hb.size; (try simp at h); omega))); have HQ := Lib.hid hb; obtain ⟨hc, hf⟩ := bcell hb; ((have b0 := (hB.cell (p := ⟨wo.heap.size, 0, none⟩) hV0).trans hv0; have b1 := (hB.cell (p := ⟨wo.heap.size, 1, none⟩) hV0).trans hv1; have b2 := (hB.cell (p := ⟨wo.heap.size, 2, none⟩) hV0).trans hv2; have hVk : wo.heap.size < w'.heap.size := Nat.lt_of_lt_of_le hV0 hB.size); have HHH := Lib.hid (HH.out.below hB); obtain ⟨p1, o1, v1, rfl, hv1, hc1⟩ := O2.out.rd.at1 (k := j + 1) hj; rw [ezj.out] at hv1; injection hv1 with hv1; subst hv1; have hp1 := World.block_lt_of_cell? _ _ hc1); clear hb ho) | (go_at_call 102; refine (spec_l1In _ _ _ _).mono ?_; rintro e w' ⟨rfl, rfl⟩))
    have HHX := fun (nn : Ext w') => HHH.out.below nn.below
    (refine wp_region_ext (by kernel_rfl) (by kernel_rfl) ?_; have hxe := ext_cells; (repeat (go_big_quiet_step ((go_at_call 134; first | (with_reducible exact ext_ret (C0.out _ (HHX _))) | (with_reducible exact ext_ret (C1.out _ (HHX _))))))); refine wpQuiet_nil ?_; intro w' hw'; obtain ⟨nx, hw''⟩ := hw'; have hbx := ext_out hw''; clear hw'' nx hxe; have hB : Below w.heap.size w w' := Below.thenn (by repeat (first | exact Below.refl _ _ | assumption | apply Below.drew | apply below_drewN | (refine Below.alloc ?_ (by first | omega | (simp; done) | (simp; omega)) _) | (refine Below.setCell ?_ (by first | omega | (simp; done) | (simp; omega)) _))) hbx (by first | omega | (simp; done) | (simp; omega)); have hz : w.heap.size ≤ w'.heap.size := hB.size; obtain ⟨hc, hf⟩ := bcell hbx; clear hbx)
    go_wp2_with fail
    go_ret2
    exact ⟨rfl, (Below.thenn HHW.out (show Below w.heap.size w _ from (by repeat (first | exact Below.refl _ _ | assumption | apply Below.drew | apply below_drewN | (refine Below.alloc ?_ (by first | omega | (simp; done) | (simp; omega)) _) | (refine Below.setCell ?_ (by first | omega | (simp; done) | (simp; omega)) _)))) HHW.out.size)⟩
end Go.Proofs.Ytjfmicemnoglkaa
