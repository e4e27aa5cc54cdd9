/- Sags with a load: the program's and the reference's. -/
import Derived.Test.YtjfmicemnoglkaaSagB
namespace Go.Proofs.Ytjfmicemnoglkaa
open Go.RowKit
set_option linter.unusedVariables false
set_option linter.unusedSimpArgs false

theorem ldOk_iff {rows : List (List Int)} {w p place ld : Int} : ldOk rows w p place ld = true ↔ sagOk rows w p place = true ∧ 0 ≤ ld ∧ ld ≤ 20000 := by simp [ldOk]
theorem ldOk_of {rows : List (List Int)} {w p place ld : Int} (h : sagOk rows w p place = true) : ldOk rows w p place ld = inr ld 0 20000 := by simp [ldOk, h, inr]
theorem ldOk_no {rows : List (List Int)} {w p place ld : Int} (h : sagOk rows w p place = false) : ldOk rows w p place ld = false := by simp [ldOk, h]
set_option maxHeartbeats 2000000 in
theorem impl_LoadedSag (A : Option Addr) (n c : Nat) (rows : List (List Int)) (x p place ld : Int) (wo : World) (h : RdL wo A n rows) (hm : n ≤ 1048577) :
    Calls Try.prog 11 #[.slice A n c, .agg #[.int .i64 x, .int .i64 p], .int .i64 place, .int .i64 ld] wo (Ret wo (.tuple #[.int .i64 (lgN rows x p place ld), .int .i64 (lgD rows x p place ld), .bool (ldOk rows x p place ld)])) := by
  have ci := fun w' (h' : RdL w' A n rows) => impl_isPlaceOf A n c rows place w' h' hm
  have cr := fun w' => impl_IsRope x p w'
  rcases ho : onOk rows place with _ | _
  · rw [ho] at ci
    have hk : ldOk rows x p place ld = false := ldOk_no (by simp [sagOk, ho])
    rw [hk, (lg_no hk).1, (lg_no hk).2]
    have CI := Lib.hid ci
    clear ci cr ho hk
    go_enter Try.func11, Try.ntmps11
    go_wp2_with fail
    (have hWV : Below wo.heap.size wo (wo.alloc (.cells #[.int .i64 x, .int .i64 p] 26)) := (Below.refl _ _).alloc (Nat.le_refl _) _; have hV0 : wo.heap.size < (wo.alloc (.cells #[.int .i64 x, .int .i64 p] 26)).heap.size := (by simp); have hv0 : (wo.alloc (.cells #[.int .i64 x, .int .i64 p] 26)).cell? ⟨wo.heap.size, 0, none⟩ = some (.int .i64 x) := (by rw [cell_of_row _ _ _ _ _ _ (heap_alloc_new wo _)]; rfl); have hv1 : (wo.alloc (.cells #[.int .i64 x, .int .i64 p] 26)).cell? ⟨wo.heap.size, 1, none⟩ = some (.int .i64 p) := (by rw [cell_of_row _ _ _ _ _ _ (heap_alloc_new wo _)]; rfl); have HHW := Lib.hid hWV; have HV1 : Hid (wo.heap.size + 1 = (wo.alloc (.cells #[.int .i64 x, .int .i64 p] 26)).heap.size) := (show _ = _ by simp); generalize wo.alloc (.cells #[.int .i64 x, .int .i64 p] 26) = w at hWV HHW hV0 HV1 hv0 hv1 ⊢; have HH := Lib.hid (h.below hWV); have hB : Below w.heap.size w w := Below.refl _ _; have hwz : wo.heap.size ≤ w.heap.size := hWV.size; (try rw [HV1.out]); clear hWV)
    go_wp2_with (go_at_call 97; refine (CI.out _ (by exact HH.out.below (by repeat (first | exact Below.refl _ _ | assumption | apply Below.drew | apply below_drewN | (refine Below.alloc ?_ (by first | omega | (simp; done) | (simp; omega)) _) | (refine Below.setCell ?_ (by first | omega | (simp; done) | (simp; omega)) _))))).mono ?_; rintro e w' ⟨rfl, hb⟩; have hB : Below w.heap.size w w' := Below.thenn (by repeat (first | exact Below.refl _ _ | assumption | apply Below.drew | apply below_drewN | (refine Below.alloc ?_ (by first | omega | (simp; done) | (simp; omega)) _) | (refine Below.setCell ?_ (by first | omega | (simp; done) | (simp; omega)) _))) hb (by first | omega | (simp; done) | (simp; omega)); have hz : w.heap.size ≤ w'.heap.size := hB.size; (try (have hz1 : w.heap.size + 1 ≤ w'.heap.size := (by have h := hb.size; (try simp at h); omega))); obtain ⟨hc, hf⟩ := bcell hb; (have b0 := (hB.cell (p := ⟨wo.heap.size, 0, none⟩) hV0).trans hv0; have b1 := (hB.cell (p := ⟨wo.heap.size, 1, none⟩) hV0).trans hv1; have hVk : wo.heap.size < w'.heap.size := Nat.lt_of_lt_of_le hV0 hB.size); clear hb)
    go_ret3
    exact ⟨rfl, (Below.thenn HHW.out (show Below w.heap.size w _ from (by repeat (first | exact Below.refl _ _ | assumption | apply Below.drew | apply below_drewN | (refine Below.alloc ?_ (by first | omega | (simp; done) | (simp; omega)) _) | (refine Below.setCell ?_ (by first | omega | (simp; done) | (simp; omega)) _)))) HHW.out.size)⟩
  rw [ho] at ci
  rcases hr : ropeOk x p with _ | _
  · rw [hr] at cr
    have hk : ldOk rows x p place ld = false := ldOk_no (by simp [sagOk, hr])
    rw [hk, (lg_no hk).1, (lg_no hk).2]
    have CI := Lib.hid ci
    have CR := Lib.hid cr
    clear ci cr ho hk hr
    go_enter Try.func11, Try.ntmps11
    go_wp2_with fail
    (have hWV : Below wo.heap.size wo (wo.alloc (.cells #[.int .i64 x, .int .i64 p] 26)) := (Below.refl _ _).alloc (Nat.le_refl _) _; have hV0 : wo.heap.size < (wo.alloc (.cells #[.int .i64 x, .int .i64 p] 26)).heap.size := (by simp); have hv0 : (wo.alloc (.cells #[.int .i64 x, .int .i64 p] 26)).cell? ⟨wo.heap.size, 0, none⟩ = some (.int .i64 x) := (by rw [cell_of_row _ _ _ _ _ _ (heap_alloc_new wo _)]; rfl); have hv1 : (wo.alloc (.cells #[.int .i64 x, .int .i64 p] 26)).cell? ⟨wo.heap.size, 1, none⟩ = some (.int .i64 p) := (by rw [cell_of_row _ _ _ _ _ _ (heap_alloc_new wo _)]; rfl); have HHW := Lib.hid hWV; have HV1 : Hid (wo.heap.size + 1 = (wo.alloc (.cells #[.int .i64 x, .int .i64 p] 26)).heap.size) := (show _ = _ by simp); generalize wo.alloc (.cells #[.int .i64 x, .int .i64 p] 26) = w at hWV HHW hV0 HV1 hv0 hv1 ⊢; have HH := Lib.hid (h.below hWV); have hB : Below w.heap.size w w := Below.refl _ _; have hwz : wo.heap.size ≤ w.heap.size := hWV.size; (try rw [HV1.out]); clear hWV)
    go_wp2_with (first | (go_at_call 97; refine (CI.out _ (by exact HH.out.below (by repeat (first | exact Below.refl _ _ | assumption | apply Below.drew | apply below_drewN | (refine Below.alloc ?_ (by first | omega | (simp; done) | (simp; omega)) _) | (refine Below.setCell ?_ (by first | omega | (simp; done) | (simp; omega)) _))))).mono ?_; rintro e w' ⟨rfl, hb⟩; have hB : Below w.heap.size w w' := Below.thenn (by repeat (first | exact Below.refl _ _ | assumption | apply Below.drew | apply below_drewN | (refine Below.alloc ?_ (by first | omega | (simp; done) | (simp; omega)) _) | (refine Below.setCell ?_ (by first | omega | (simp; done) | (simp; omega)) _))) hb (by first | omega | (simp; done) | (simp; omega)); have hz : w.heap.size ≤ w'.heap.size := hB.size; (try (have hz1 : w.heap.size + 1 ≤ w'.heap.size := (by have h := hb.size; (try simp at h); omega))); obtain ⟨hc, hf⟩ := bcell hb; (have b0 := (hB.cell (p := ⟨wo.heap.size, 0, none⟩) hV0).trans hv0; have b1 := (hB.cell (p := ⟨wo.heap.size, 1, none⟩) hV0).trans hv1; have hVk : wo.heap.size < w'.heap.size := Nat.lt_of_lt_of_le hV0 hB.size); clear hb) | (go_at_call 13; refine (CR.out _).mono ?_; rintro e w' ⟨rfl, hb⟩; have hB : Below w.heap.size w w' := Below.thenn (by repeat (first | exact Below.refl _ _ | assumption | apply Below.drew | apply below_drewN | (refine Below.alloc ?_ (by first | omega | (simp; done) | (simp; omega)) _) | (refine Below.setCell ?_ (by first | omega | (simp; done) | (simp; omega)) _))) hb (by first | omega | (simp; done) | (simp; omega)); have hz : w.heap.size ≤ w'.heap.size := hB.size; (try (have hz1 : w.heap.size + 1 ≤ w'.heap.size := (by have h := hb.size; (try simp at h); omega))); obtain ⟨hc, hf⟩ := bcell hb; (have b0 := (hB.cell (p := ⟨wo.heap.size, 0, none⟩) hV0).trans hv0; have b1 := (hB.cell (p := ⟨wo.heap.size, 1, none⟩) hV0).trans hv1; have hVk : wo.heap.size < w'.heap.size := Nat.lt_of_lt_of_le hV0 hB.size); clear hb))
    go_ret3
    exact ⟨rfl, (Below.thenn HHW.out (show Below w.heap.size w _ from (by repeat (first | exact Below.refl _ _ | assumption | apply Below.drew | apply below_drewN | (refine Below.alloc ?_ (by first | omega | (simp; done) | (simp; omega)) _) | (refine Below.setCell ?_ (by first | omega | (simp; done) | (simp; omega)) _)))) HHW.out.size)⟩
  have hs : sagOk rows x p place = true := by simp [sagOk, hr, ho]
  rw [hr] at cr
  rcases hq : inr ld 0 20000 with _ | _
  · have hk : ldOk rows x p place ld = false := (ldOk_of hs).trans hq
    rw [hk, (lg_no hk).1, (lg_no hk).2]
    have CI := Lib.hid ci
    have CR := Lib.hid cr
    clear ci cr ho hk hr hs
    go_enter Try.func11, Try.ntmps11
    go_wp2_with fail
    (have hWV : Below wo.heap.size wo (wo.alloc (.cells #[.int .i64 x, .int .i64 p] 26)) := (Below.refl _ _).alloc (Nat.le_refl _) _; have hV0 : wo.heap.size < (wo.alloc (.cells #[.int .i64 x, .int .i64 p] 26)).heap.size := (by simp); have hv0 : (wo.alloc (.cells #[.int .i64 x, .int .i64 p] 26)).cell? ⟨wo.heap.size, 0, none⟩ = some (.int .i64 x) := (by rw [cell_of_row _ _ _ _ _ _ (heap_alloc_new wo _)]; rfl); have hv1 : (wo.alloc (.cells #[.int .i64 x, .int .i64 p] 26)).cell? ⟨wo.heap.size, 1, none⟩ = some (.int .i64 p) := (by rw [cell_of_row _ _ _ _ _ _ (heap_alloc_new wo _)]; rfl); have HHW := Lib.hid hWV; have HV1 : Hid (wo.heap.size + 1 = (wo.alloc (.cells #[.int .i64 x, .int .i64 p] 26)).heap.size) := (show _ = _ by simp); generalize wo.alloc (.cells #[.int .i64 x, .int .i64 p] 26) = w at hWV HHW hV0 HV1 hv0 hv1 ⊢; have HH := Lib.hid (h.below hWV); have hB : Below w.heap.size w w := Below.refl _ _; have hwz : wo.heap.size ≤ w.heap.size := hWV.size; (try rw [HV1.out]); clear hWV)
    go_wp2_with (first | (go_at_call 97; refine (CI.out _ (by exact HH.out.below (by repeat (first | exact Below.refl _ _ | assumption | apply Below.drew | apply below_drewN | (refine Below.alloc ?_ (by first | omega | (simp; done) | (simp; omega)) _) | (refine Below.setCell ?_ (by first | omega | (simp; done) | (simp; omega)) _))))).mono ?_; rintro e w' ⟨rfl, hb⟩; have hB : Below w.heap.size w w' := Below.thenn (by repeat (first | exact Below.refl _ _ | assumption | apply Below.drew | apply below_drewN | (refine Below.alloc ?_ (by first | omega | (simp; done) | (simp; omega)) _) | (refine Below.setCell ?_ (by first | omega | (simp; done) | (simp; omega)) _))) hb (by first | omega | (simp; done) | (simp; omega)); have hz : w.heap.size ≤ w'.heap.size := hB.size; (try (have hz1 : w.heap.size + 1 ≤ w'.heap.size := (by have h := hb.size; (try simp at h); omega))); obtain ⟨hc, hf⟩ := bcell hb; (have b0 := (hB.cell (p := ⟨wo.heap.size, 0, none⟩) hV0).trans hv0; have b1 := (hB.cell (p := ⟨wo.heap.size, 1, none⟩) hV0).trans hv1; have hVk : wo.heap.size < w'.heap.size := Nat.lt_of_lt_of_le hV0 hB.size); clear hb) | (go_at_call 13; refine (CR.out _).mono ?_; rintro e w' ⟨rfl, hb⟩; have hB : Below w.heap.size w w' := Below.thenn (by repeat (first | exact Below.refl _ _ | assumption | apply Below.drew | apply below_drewN | (refine Below.alloc ?_ (by first | omega | (simp; done) | (simp; omega)) _) | (refine Below.setCell ?_ (by first | omega | (simp; done) | (simp; omega)) _))) hb (by first | omega | (simp; done) | (simp; omega)); have hz : w.heap.size ≤ w'.heap.size := hB.size; (try (have hz1 : w.heap.size + 1 ≤ w'.heap.size := (by have h := hb.size; (try simp at h); omega))); obtain ⟨hc, hf⟩ := bcell hb; (have b0 := (hB.cell (p := ⟨wo.heap.size, 0, none⟩) hV0).trans hv0; have b1 := (hB.cell (p := ⟨wo.heap.size, 1, none⟩) hV0).trans hv1; have hVk : wo.heap.size < w'.heap.size := Nat.lt_of_lt_of_le hV0 hB.size); clear hb) | (go_at_call 98; refine (impl_within _ _ _ _).mono ?_; rintro e w' ⟨rfl, rfl⟩))
    go_ret3
    exact ⟨rfl, (Below.thenn HHW.out (show Below w.heap.size w _ from (by repeat (first | exact Below.refl _ _ | assumption | apply Below.drew | apply below_drewN | (refine Below.alloc ?_ (by first | omega | (simp; done) | (simp; omega)) _) | (refine Below.setCell ?_ (by first | omega | (simp; done) | (simp; omega)) _)))) HHW.out.size)⟩
  · have hk : ldOk rows x p place ld = true := (ldOk_of hs).trans hq
    have cs := fun w' (h' : RdL w' A n rows) => impl_bend A n c rows place w' h' hm ho
    obtain ⟨hl, h0, h1⟩ := onOk_iff.1 ho
    have L := lineOk_line hl
    obtain ⟨r1, r2⟩ := ropeOk_iff.1 hr
    have hld := (ldOk_iff.1 hk).2
    have b1 := ld_bd hk
    have b2 := bdV_bd L h0 h1
    obtain ⟨_, _, b3, _⟩ := lXY L h0 h1
    rw [hk, (lg_yes hk).1, (lg_yes hk).2]
    unfold ldN ldD
    unfold ldNum ldDen at *
    generalize bdV rows place = z at *
    generalize lL rows place = l at *
    have m1 := mulB (a := x) (b := l) (A := 200) (B := 3000) (by omega) r1.2 (by omega) b3.2
    have u1 : IntKind.i64.wrap (x * l) = x * l := IntWalk.i64_in _ (by omega)
    have u2 : IntKind.i64.wrap (x * l + 2 * ld) = x * l + 2 * ld := IntWalk.i64_in _ (by omega)
    have u3 : IntKind.i64.wrap (z * (x * l + 2 * ld)) = z * (x * l + 2 * ld) := IntWalk.i64_in _ (by omega)
    have u4 : IntKind.i64.wrap (2 * l * p) = 2 * l * p := IntWalk.i64_in _ (by omega)
    have cl := fun w' => impl_lowest (z * (x * l + 2 * ld)) (2 * l * p) w' (by omega) (by omega)
    generalize redN (z * (x * l + 2 * ld)) (2 * l * p) = rn at *
    generalize redD (z * (x * l + 2 * ld)) (2 * l * p) = rd at *
    have CI := Lib.hid ci
    have CR := Lib.hid cr
    have CS := Lib.hid cs
    have CL := Lib.hid cl
    clear ci cr cs cl ho hk hr hl hs L b1 b2
    go_enter Try.func11, Try.ntmps11
    go_wp2_with fail
    (have hWV : Below wo.heap.size wo (wo.alloc (.cells #[.int .i64 x, .int .i64 p] 26)) := (Below.refl _ _).alloc (Nat.le_refl _) _; have hV0 : wo.heap.size < (wo.alloc (.cells #[.int .i64 x, .int .i64 p] 26)).heap.size := (by simp); have hv0 : (wo.alloc (.cells #[.int .i64 x, .int .i64 p] 26)).cell? ⟨wo.heap.size, 0, none⟩ = some (.int .i64 x) := (by rw [cell_of_row _ _ _ _ _ _ (heap_alloc_new wo _)]; rfl); have hv1 : (wo.alloc (.cells #[.int .i64 x, .int .i64 p] 26)).cell? ⟨wo.heap.size, 1, none⟩ = some (.int .i64 p) := (by rw [cell_of_row _ _ _ _ _ _ (heap_alloc_new wo _)]; rfl); have HHW := Lib.hid hWV; have HV1 : Hid (wo.heap.size + 1 = (wo.alloc (.cells #[.int .i64 x, .int .i64 p] 26)).heap.size) := (show _ = _ by simp); generalize wo.alloc (.cells #[.int .i64 x, .int .i64 p] 26) = w at hWV HHW hV0 HV1 hv0 hv1 ⊢; have HH := Lib.hid (h.below hWV); have hB : Below w.heap.size w w := Below.refl _ _; have hwz : wo.heap.size ≤ w.heap.size := hWV.size; (try rw [HV1.out]); clear hWV)
    go_wp2_with (first | (go_at_call 97; refine (CI.out _ (by exact HH.out.below (by repeat (first | exact Below.refl _ _ | assumption | apply Below.drew | apply below_drewN | (refine Below.alloc ?_ (by first | omega | (simp; done) | (simp; omega)) _) | (refine Below.setCell ?_ (by first | omega | (simp; done) | (simp; omega)) _))))).mono ?_; rintro e w' ⟨rfl, hb⟩; have hB : Below w.heap.size w w' := Below.thenn (by repeat (first | exact Below.refl _ _ | assumption | apply Below.drew | apply below_drewN | (refine Below.alloc ?_ (by first | omega | (simp; done) | (simp; omega)) _) | (refine Below.setCell ?_ (by first | omega | (simp; done) | (simp; omega)) _))) hb (by first | omega | (simp; done) | (simp; omega)); have hz : w.heap.size ≤ w'.heap.size := hB.size; (try (have hz1 : w.heap.size + 1 ≤ w'.heap.size := (by have h := hb.size; (try simp at h); omega))); obtain ⟨hc, hf⟩ := bcell hb; (have b0 := (hB.cell (p := ⟨wo.heap.size, 0, none⟩) hV0).trans hv0; have b1 := (hB.cell (p := ⟨wo.heap.size, 1, none⟩) hV0).trans hv1; have hVk : wo.heap.size < w'.heap.size := Nat.lt_of_lt_of_le hV0 hB.size); clear hb) | (go_at_call 13; refine (CR.out _).mono ?_; rintro e w' ⟨rfl, hb⟩; have hB : Below w.heap.size w w' := Below.thenn (by repeat (first | exact Below.refl _ _ | assumption | apply Below.drew | apply below_drewN | (refine Below.alloc ?_ (by first | omega | (simp; done) | (simp; omega)) _) | (refine Below.setCell ?_ (by first | omega | (simp; done) | (simp; omega)) _))) hb (by first | omega | (simp; done) | (simp; omega)); have hz : w.heap.size ≤ w'.heap.size := hB.size; (try (have hz1 : w.heap.size + 1 ≤ w'.heap.size := (by have h := hb.size; (try simp at h); omega))); obtain ⟨hc, hf⟩ := bcell hb; (have b0 := (hB.cell (p := ⟨wo.heap.size, 0, none⟩) hV0).trans hv0; have b1 := (hB.cell (p := ⟨wo.heap.size, 1, none⟩) hV0).trans hv1; have hVk : wo.heap.size < w'.heap.size := Nat.lt_of_lt_of_le hV0 hB.size); clear hb) | (go_at_call 98; refine (impl_within _ _ _ _).mono ?_; rintro e w' ⟨rfl, rfl⟩) | (go_at_call 99; refine (CS.out _ (by exact HH.out.below (by repeat (first | exact Below.refl _ _ | assumption | apply Below.drew | apply below_drewN | (refine Below.alloc ?_ (by first | omega | (simp; done) | (simp; omega)) _) | (refine Below.setCell ?_ (by first | omega | (simp; done) | (simp; omega)) _))))).mono ?_; rintro e w' ⟨rfl, hb⟩; have hB : Below w.heap.size w w' := Below.thenn (by repeat (first | exact Below.refl _ _ | assumption | apply Below.drew | apply below_drewN | (refine Below.alloc ?_ (by first | omega | (simp; done) | (simp; omega)) _) | (refine Below.setCell ?_ (by first | omega | (simp; done) | (simp; omega)) _))) hb (by first | omega | (simp; done) | (simp; omega)); have hz : w.heap.size ≤ w'.heap.size := hB.size; (try (have hz1 : w.heap.size + 1 ≤ w'.heap.size := (by have h := hb.size; (try simp at h); omega))); obtain ⟨hc, hf⟩ := bcell hb; (have b0 := (hB.cell (p := ⟨wo.heap.size, 0, none⟩) hV0).trans hv0; have b1 := (hB.cell (p := ⟨wo.heap.size, 1, none⟩) hV0).trans hv1; have hVk : wo.heap.size < w'.heap.size := Nat.lt_of_lt_of_le hV0 hB.size); clear hb) | (go_at_call 100; refine (CL.out _).mono ?_; rintro e w' ⟨rfl, hb⟩; have hB : Below w.heap.size w w' := Below.thenn (by repeat (first | exact Below.refl _ _ | assumption | apply Below.drew | apply below_drewN | (refine Below.alloc ?_ (by first | omega | (simp; done) | (simp; omega)) _) | (refine Below.setCell ?_ (by first | omega | (simp; done) | (simp; omega)) _))) hb (by first | omega | (simp; done) | (simp; omega)); have hz : w.heap.size ≤ w'.heap.size := hB.size; (try (have hz1 : w.heap.size + 1 ≤ w'.heap.size := (by have h := hb.size; (try simp at h); omega))); obtain ⟨hc, hf⟩ := bcell hb; (have b0 := (hB.cell (p := ⟨wo.heap.size, 0, none⟩) hV0).trans hv0; have b1 := (hB.cell (p := ⟨wo.heap.size, 1, none⟩) hV0).trans hv1; have hVk : wo.heap.size < w'.heap.size := Nat.lt_of_lt_of_le hV0 hB.size); clear hb))
    (refine wp_region_ext (by kernel_rfl) (by kernel_rfl) ?_; have hxe := ext_cells; (repeat (go_big_quiet_step (fail))); refine wpQuiet_nil ?_; intro w' hw'; obtain ⟨nx, hw''⟩ := hw'; have hbx := ext_out hw''; clear hw'' nx hxe; have hB : Below w.heap.size w w' := Below.thenn (by repeat (first | exact Below.refl _ _ | assumption | apply Below.drew | apply below_drewN | (refine Below.alloc ?_ (by first | omega | (simp; done) | (simp; omega)) _) | (refine Below.setCell ?_ (by first | omega | (simp; done) | (simp; omega)) _))) hbx (by first | omega | (simp; done) | (simp; omega)); have hz : w.heap.size ≤ w'.heap.size := hB.size; obtain ⟨hc, hf⟩ := bcell hbx; clear hbx)
    go_wp2_with fail
    go_ret3
    exact ⟨rfl, (Below.thenn HHW.out (show Below w.heap.size w _ from (by repeat (first | exact Below.refl _ _ | assumption | apply Below.drew | apply below_drewN | (refine Below.alloc ?_ (by first | omega | (simp; done) | (simp; omega)) _) | (refine Below.setCell ?_ (by first | omega | (simp; done) | (simp; omega)) _)))) HHW.out.size)⟩
theorem ld_same {x X Y ld p : Int} : x * X * Y * (X + Y) + 2 * ld * X * Y = X * Y * (x * (X + Y) + 2 * ld) ∧ 2 * p * (X + Y) = 2 * (X + Y) * p := by
  constructor
  · rw [Int.mul_add (X * Y)]
    congr 1
    · simp [Int.mul_comm, Int.mul_left_comm, Int.mul_assoc]
    · simp [Int.mul_comm, Int.mul_left_comm, Int.mul_assoc]
  · simp [Int.mul_comm, Int.mul_left_comm, Int.mul_assoc]
set_option maxHeartbeats 2000000 in
theorem spec_LoadedSag (A : Option Addr) (n c : Nat) (rows : List (List Int)) (x p place ld : Int) (wo : World) (h : RdL wo A n rows) (hm : n ≤ 1048577) :
    Calls Try.prog 12 #[.slice A n c, .agg #[.int .i64 x, .int .i64 p], .int .i64 place, .int .i64 ld] wo (Ret wo (.tuple #[.int .i64 (lgN rows x p place ld), .int .i64 (lgD rows x p place ld), .bool (ldOk rows x p place ld)])) := by
  have ci := fun w' (h' : RdL w' A n rows) => spec_l4Asked A n c rows x p place w' h' hm
  rcases hs : sagOk rows x p place with _ | _
  · rw [hs] at ci
    have hk : ldOk rows x p place ld = false := ldOk_no hs
    rw [hk, (lg_no hk).1, (lg_no hk).2]
    have CI := Lib.hid ci
    clear ci hk hs
    go_enter Try.func12, Try.ntmps12
    go_wp2_with fail
    (have hWV : Below wo.heap.size wo (wo.alloc (.cells #[.int .i64 x, .int .i64 p] 26)) := (Below.refl _ _).alloc (Nat.le_refl _) _; have hV0 : wo.heap.size < (wo.alloc (.cells #[.int .i64 x, .int .i64 p] 26)).heap.size := (by simp); have hv0 : (wo.alloc (.cells #[.int .i64 x, .int .i64 p] 26)).cell? ⟨wo.heap.size, 0, none⟩ = some (.int .i64 x) := (by rw [cell_of_row _ _ _ _ _ _ (heap_alloc_new wo _)]; rfl); have hv1 : (wo.alloc (.cells #[.int .i64 x, .int .i64 p] 26)).cell? ⟨wo.heap.size, 1, none⟩ = some (.int .i64 p) := (by rw [cell_of_row _ _ _ _ _ _ (heap_alloc_new wo _)]; rfl); have HHW := Lib.hid hWV; have HV1 : Hid (wo.heap.size + 1 = (wo.alloc (.cells #[.int .i64 x, .int .i64 p] 26)).heap.size) := (show _ = _ by simp); generalize wo.alloc (.cells #[.int .i64 x, .int .i64 p] 26) = w at hWV HHW hV0 HV1 hv0 hv1 ⊢; have HH := Lib.hid (h.below hWV); have hB : Below w.heap.size w w := Below.refl _ _; have hwz : wo.heap.size ≤ w.heap.size := hWV.size; (try rw [HV1.out]); clear hWV)
    go_wp2_with (go_at_call 101; refine (CI.out _ (by exact HH.out.below (by repeat (first | exact Below.refl _ _ | assumption | apply Below.drew | apply below_drewN | (refine Below.alloc ?_ (by first | omega | (simp; done) | (simp; omega)) _) | (refine Below.setCell ?_ (by first | omega | (simp; done) | (simp; omega)) _))))).mono ?_; rintro e w' ⟨rfl, hb⟩; have hB : Below w.heap.size w w' := Below.thenn (by repeat (first | exact Below.refl _ _ | assumption | apply Below.drew | apply below_drewN | (refine Below.alloc ?_ (by first | omega | (simp; done) | (simp; omega)) _) | (refine Below.setCell ?_ (by first | omega | (simp; done) | (simp; omega)) _))) hb (by first | omega | (simp; done) | (simp; omega)); have hz : w.heap.size ≤ w'.heap.size := hB.size; (try (have hz1 : w.heap.size + 1 ≤ w'.heap.size := (by have h := hb.size; (try simp at h); omega))); obtain ⟨hc, hf⟩ := bcell hb; (have b0 := (hB.cell (p := ⟨wo.heap.size, 0, none⟩) hV0).trans hv0; have b1 := (hB.cell (p := ⟨wo.heap.size, 1, none⟩) hV0).trans hv1; have hVk : wo.heap.size < w'.heap.size := Nat.lt_of_lt_of_le hV0 hB.size); clear hb)
    go_ret3
    exact ⟨rfl, (Below.thenn HHW.out (show Below w.heap.size w _ from (by repeat (first | exact Below.refl _ _ | assumption | apply Below.drew | apply below_drewN | (refine Below.alloc ?_ (by first | omega | (simp; done) | (simp; omega)) _) | (refine Below.setCell ?_ (by first | omega | (simp; done) | (simp; omega)) _)))) HHW.out.size)⟩
  rw [hs] at ci
  rcases hq : inr ld 0 20000 with _ | _
  · have hk : ldOk rows x p place ld = false := (ldOk_of hs).trans hq
    rw [hk, (lg_no hk).1, (lg_no hk).2]
    have CI := Lib.hid ci
    clear ci hk hs
    go_enter Try.func12, Try.ntmps12
    go_wp2_with fail
    (have hWV : Below wo.heap.size wo (wo.alloc (.cells #[.int .i64 x, .int .i64 p] 26)) := (Below.refl _ _).alloc (Nat.le_refl _) _; have hV0 : wo.heap.size < (wo.alloc (.cells #[.int .i64 x, .int .i64 p] 26)).heap.size := (by simp); have hv0 : (wo.alloc (.cells #[.int .i64 x, .int .i64 p] 26)).cell? ⟨wo.heap.size, 0, none⟩ = some (.int .i64 x) := (by rw [cell_of_row _ _ _ _ _ _ (heap_alloc_new wo _)]; rfl); have hv1 : (wo.alloc (.cells #[.int .i64 x, .int .i64 p] 26)).cell? ⟨wo.heap.size, 1, none⟩ = some (.int .i64 p) := (by rw [cell_of_row _ _ _ _ _ _ (heap_alloc_new wo _)]; rfl); have HHW := Lib.hid hWV; have HV1 : Hid (wo.heap.size + 1 = (wo.alloc (.cells #[.int .i64 x, .int .i64 p] 26)).heap.size) := (show _ = _ by simp); generalize wo.alloc (.cells #[.int .i64 x, .int .i64 p] 26) = w at hWV HHW hV0 HV1 hv0 hv1 ⊢; have HH := Lib.hid (h.below hWV); have hB : Below w.heap.size w w := Below.refl _ _; have hwz : wo.heap.size ≤ w.heap.size := hWV.size; (try rw [HV1.out]); clear hWV)
    go_wp2_with (first | (go_at_call 101; refine (CI.out _ (by exact HH.out.below (by repeat (first | exact Below.refl _ _ | assumption | apply Below.drew | apply below_drewN | (refine Below.alloc ?_ (by first | omega | (simp; done) | (simp; omega)) _) | (refine Below.setCell ?_ (by first | omega | (simp; done) | (simp; omega)) _))))).mono ?_; rintro e w' ⟨rfl, hb⟩; have hB : Below w.heap.size w w' := Below.thenn (by repeat (first | exact Below.refl _ _ | assumption | apply Below.drew | apply below_drewN | (refine Below.alloc ?_ (by first | omega | (simp; done) | (simp; omega)) _) | (refine Below.setCell ?_ (by first | omega | (simp; done) | (simp; omega)) _))) hb (by first | omega | (simp; done) | (simp; omega)); have hz : w.heap.size ≤ w'.heap.size := hB.size; (try (have hz1 : w.heap.size + 1 ≤ w'.heap.size := (by have h := hb.size; (try simp at h); omega))); obtain ⟨hc, hf⟩ := bcell hb; (have b0 := (hB.cell (p := ⟨wo.heap.size, 0, none⟩) hV0).trans hv0; have b1 := (hB.cell (p := ⟨wo.heap.size, 1, none⟩) hV0).trans hv1; have hVk : wo.heap.size < w'.heap.size := Nat.lt_of_lt_of_le hV0 hB.size); clear hb) | (go_at_call 102; refine (spec_l1In _ _ _ _).mono ?_; rintro e w' ⟨rfl, rfl⟩))
    go_ret3
    exact ⟨rfl, (Below.thenn HHW.out (show Below w.heap.size w _ from (by repeat (first | exact Below.refl _ _ | assumption | apply Below.drew | apply below_drewN | (refine Below.alloc ?_ (by first | omega | (simp; done) | (simp; omega)) _) | (refine Below.setCell ?_ (by first | omega | (simp; done) | (simp; omega)) _)))) HHW.out.size)⟩
  · have hk : ldOk rows x p place ld = true := (ldOk_of hs).trans hq
    obtain ⟨ho, hr⟩ := sagOk_iff.1 hs
    have cs := fun w' (h' : RdL w' A n rows) => spec_l4Parts A n c rows place w' h' hm (onOk_iff.2 ho)
    obtain ⟨hl, h0, h1⟩ := ho
    have L := lineOk_line hl
    obtain ⟨r1, r2⟩ := ropeOk_iff.1 hr
    have hld := (ldOk_iff.1 hk).2
    have b1 := ld_bd hk
    obtain ⟨X0, Y0, b3, b4⟩ := lXY L h0 h1
    rw [hk, (lg_yes hk).1, (lg_yes hk).2]
    unfold ldN ldD
    unfold ldNum ldDen at *
    unfold bdV at *
    rw [← b4] at b1 b3 ⊢
    generalize lX rows place = X at *
    generalize lY rows place = Y at *
    obtain ⟨e1, e2⟩ := ld_same (x := x) (X := X) (Y := Y) (ld := ld) (p := p)
    rw [← e1, ← e2] at b1 ⊢
    have m1 := mulB (a := x) (b := X) (A := 200) (B := 3000) (by omega) r1.2 X0.1 X0.2
    have m2 := mulB (a := x * X) (b := Y) (A := 600000) (B := 3000) (by omega) (by omega) Y0.1 Y0.2
    have m3 := mulB (a := x * X * Y) (b := X + Y) (A := 1800000000) (B := 3000) (by omega) (by omega) (by omega) b3.2
    have m4 := mulB (a := 2 * ld) (b := X) (A := 40000) (B := 3000) (by omega) (by omega) X0.1 X0.2
    have m5 := mulB (a := 2 * ld * X) (b := Y) (A := 120000000) (B := 3000) (by omega) (by omega) Y0.1 Y0.2
    have u1 : IntKind.i64.wrap (x * X) = x * X := IntWalk.i64_in _ (by omega)
    have u2 : IntKind.i64.wrap (x * X * Y) = x * X * Y := IntWalk.i64_in _ (by omega)
    have u3 : IntKind.i64.wrap (x * X * Y * (X + Y)) = x * X * Y * (X + Y) := IntWalk.i64_in _ (by omega)
    have u4 : IntKind.i64.wrap (2 * ld * X) = 2 * ld * X := IntWalk.i64_in _ (by omega)
    have u5 : IntKind.i64.wrap (2 * ld * X * Y) = 2 * ld * X * Y := IntWalk.i64_in _ (by omega)
    have u6 : IntKind.i64.wrap (x * X * Y * (X + Y) + 2 * ld * X * Y) = x * X * Y * (X + Y) + 2 * ld * X * Y := IntWalk.i64_in _ (by omega)
    have u7 : IntKind.i64.wrap (2 * p * (X + Y)) = 2 * p * (X + Y) := IntWalk.i64_in _ (by omega)
    have cl := fun w' => spec_l2Reduce (x * X * Y * (X + Y) + 2 * ld * X * Y) (2 * p * (X + Y)) w' (by omega) (by omega)
    generalize redN (x * X * Y * (X + Y) + 2 * ld * X * Y) (2 * p * (X + Y)) = rn at *
    generalize redD (x * X * Y * (X + Y) + 2 * ld * X * Y) (2 * p * (X + Y)) = rd at *
    have CI := Lib.hid ci
    have CS := Lib.hid cs
    have CL := Lib.hid cl
    clear ci cs cl hk hr hl hs L b1 e1 e2 b4
    go_enter Try.func12, Try.ntmps12
    go_wp2_with fail
    (have hWV : Below wo.heap.size wo (wo.alloc (.cells #[.int .i64 x, .int .i64 p] 26)) := (Below.refl _ _).alloc (Nat.le_refl _) _; have hV0 : wo.heap.size < (wo.alloc (.cells #[.int .i64 x, .int .i64 p] 26)).heap.size := (by simp); have hv0 : (wo.alloc (.cells #[.int .i64 x, .int .i64 p] 26)).cell? ⟨wo.heap.size, 0, none⟩ = some (.int .i64 x) := (by rw [cell_of_row _ _ _ _ _ _ (heap_alloc_new wo _)]; rfl); have hv1 : (wo.alloc (.cells #[.int .i64 x, .int .i64 p] 26)).cell? ⟨wo.heap.size, 1, none⟩ = some (.int .i64 p) := (by rw [cell_of_row _ _ _ _ _ _ (heap_alloc_new wo _)]; rfl); have HHW := Lib.hid hWV; have HV1 : Hid (wo.heap.size + 1 = (wo.alloc (.cells #[.int .i64 x, .int .i64 p] 26)).heap.size) := (show _ = _ by simp); generalize wo.alloc (.cells #[.int .i64 x, .int .i64 p] 26) = w at hWV HHW hV0 HV1 hv0 hv1 ⊢; have HH := Lib.hid (h.below hWV); have hB : Below w.heap.size w w := Below.refl _ _; have hwz : wo.heap.size ≤ w.heap.size := hWV.size; (try rw [HV1.out]); clear hWV)
    go_wp2_with (first | (go_at_call 101; refine (CI.out _ (by exact HH.out.below (by repeat (first | exact Below.refl _ _ | assumption | apply Below.drew | apply below_drewN | (refine Below.alloc ?_ (by first | omega | (simp; done) | (simp; omega)) _) | (refine Below.setCell ?_ (by first | omega | (simp; done) | (simp; omega)) _))))).mono ?_; rintro e w' ⟨rfl, hb⟩; have hB : Below w.heap.size w w' := Below.thenn (by repeat (first | exact Below.refl _ _ | assumption | apply Below.drew | apply below_drewN | (refine Below.alloc ?_ (by first | omega | (simp; done) | (simp; omega)) _) | (refine Below.setCell ?_ (by first | omega | (simp; done) | (simp; omega)) _))) hb (by first | omega | (simp; done) | (simp; omega)); have hz : w.heap.size ≤ w'.heap.size := hB.size; (try (have hz1 : w.heap.size + 1 ≤ w'.heap.size := (by have h := hb.size; (try simp at h); omega))); obtain ⟨hc, hf⟩ := bcell hb; (have b0 := (hB.cell (p := ⟨wo.heap.size, 0, none⟩) hV0).trans hv0; have b1 := (hB.cell (p := ⟨wo.heap.size, 1, none⟩) hV0).trans hv1; have hVk : wo.heap.size < w'.heap.size := Nat.lt_of_lt_of_le hV0 hB.size); clear hb) | (go_at_call 102; refine (spec_l1In _ _ _ _).mono ?_; rintro e w' ⟨rfl, rfl⟩) | (go_at_call 103; refine (CS.out _ (by exact HH.out.below (by repeat (first | exact Below.refl _ _ | assumption | apply Below.drew | apply below_drewN | (refine Below.alloc ?_ (by first | omega | (simp; done) | (simp; omega)) _) | (refine Below.setCell ?_ (by first | omega | (simp; done) | (simp; omega)) _))))).mono ?_; rintro e w' ⟨rfl, hb⟩; have hB : Below w.heap.size w w' := Below.thenn (by repeat (first | exact Below.refl _ _ | assumption | apply Below.drew | apply below_drewN | (refine Below.alloc ?_ (by first | omega | (simp; done) | (simp; omega)) _) | (refine Below.setCell ?_ (by first | omega | (simp; done) | (simp; omega)) _))) hb (by first | omega | (simp; done) | (simp; omega)); have hz : w.heap.size ≤ w'.heap.size := hB.size; (try (have hz1 : w.heap.size + 1 ≤ w'.heap.size := (by have h := hb.size; (try simp at h); omega))); obtain ⟨hc, hf⟩ := bcell hb; (have b0 := (hB.cell (p := ⟨wo.heap.size, 0, none⟩) hV0).trans hv0; have b1 := (hB.cell (p := ⟨wo.heap.size, 1, none⟩) hV0).trans hv1; have hVk : wo.heap.size < w'.heap.size := Nat.lt_of_lt_of_le hV0 hB.size); clear hb) | (go_at_call 104; refine ((CL.out _).mono (fun _ _ hq => hq.ret)).mono ?_; rintro e w' ⟨rfl, hb⟩; have hB : Below w.heap.size w w' := Below.thenn (by repeat (first | exact Below.refl _ _ | assumption | apply Below.drew | apply below_drewN | (refine Below.alloc ?_ (by first | omega | (simp; done) | (simp; omega)) _) | (refine Below.setCell ?_ (by first | omega | (simp; done) | (simp; omega)) _))) hb (by first | omega | (simp; done) | (simp; omega)); have hz : w.heap.size ≤ w'.heap.size := hB.size; (try (have hz1 : w.heap.size + 1 ≤ w'.heap.size := (by have h := hb.size; (try simp at h); omega))); obtain ⟨hc, hf⟩ := bcell hb; (have b0 := (hB.cell (p := ⟨wo.heap.size, 0, none⟩) hV0).trans hv0; have b1 := (hB.cell (p := ⟨wo.heap.size, 1, none⟩) hV0).trans hv1; have hVk : wo.heap.size < w'.heap.size := Nat.lt_of_lt_of_le hV0 hB.size); clear hb))
    go_ret3
    exact ⟨rfl, (Below.thenn HHW.out (show Below w.heap.size w _ from (by repeat (first | exact Below.refl _ _ | assumption | apply Below.drew | apply below_drewN | (refine Below.alloc ?_ (by first | omega | (simp; done) | (simp; omega)) _) | (refine Below.setCell ?_ (by first | omega | (simp; done) | (simp; omega)) _)))) HHW.out.size)⟩
end Go.Proofs.Ytjfmicemnoglkaa
