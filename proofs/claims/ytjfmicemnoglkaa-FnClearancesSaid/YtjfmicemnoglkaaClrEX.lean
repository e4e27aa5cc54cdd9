/- Merged: ClrE, ClrJ. -/
import Derived.Test.YtjfmicemnoglkaaClrD
import Derived.Test.YtjfmicemnoglkaaSagB
import Derived.Test.YtjfmicemnoglkaaCmpA
namespace Go.Proofs.Ytjfmicemnoglkaa
open Go.RowKit
set_option linter.unusedVariables false
set_option linter.unusedSimpArgs false

theorem ca_no {rows g : List (List Int)} {w p place : Int} (h : caOk rows g w p place = false) : caN rows g w p place = 0 ∧ caD rows g w p place = 0 := by simp [caN, caD, h]
theorem ca_yes {rows g : List (List Int)} {w p place : Int} (h : caOk rows g w p place = true) : caN rows g w p place = cvN rows g w p place ∧ caD rows g w p place = cvD rows g w p place := by simp [caN, caD, h]
set_option maxHeartbeats 2000000 in
theorem impl_ClearanceAt (A A2 : Option Addr) (n c m c2 : Nat) (rows g : List (List Int)) (x p place : Int) (wo : World) (h : RdL wo A n rows) (h2 : RdR wo 2 A2 m g) (hn : n ≤ 1048577) (hm : m ≤ 1048577) :
    Calls Try.prog 44 #[.slice A n c, .agg #[.int .i64 x, .int .i64 p], .slice A2 m c2, .int .i64 place] wo (Ret wo (.tuple #[.int .i64 (caN rows g x p place), .int .i64 (caD rows g x p place), .bool (caOk rows g x p place)])) := by
  have ci := fun w' (h' : RdL w' A n rows) => impl_isPlaceOf A n c rows place w' h' hn
  have cr := fun w' => impl_IsRope x p w'
  have cg := fun w' (h' : RdL w' A n rows) (h2' : RdR w' 2 A2 m g) => impl_IsGround A A2 n c m c2 rows g w' h' h2' hn hm
  have HGO := Lib.hid h2
  rcases ho : onOk rows place with _ | _
  · rw [ho] at ci
    have hk : caOk rows g x p place = false := by simp [caOk, ho]
    rw [hk, (ca_no hk).1, (ca_no hk).2]
    have CI := Lib.hid ci
    clear ci cr cg ho hk h2
    go_enter Try.func44, Try.ntmps44
    go_wp2_with fail
    (have hWV : Below wo.heap.size wo (wo.alloc (.cells #[.int .i64 x, .int .i64 p] 26)) := (Below.refl _ _).alloc (Nat.le_refl _) _; have hV0 : wo.heap.size < (wo.alloc (.cells #[.int .i64 x, .int .i64 p] 26)).heap.size := (by simp); have hv0 : (wo.alloc (.cells #[.int .i64 x, .int .i64 p] 26)).cell? ⟨wo.heap.size, 0, none⟩ = some (.int .i64 x) := (by rw [cell_of_row _ _ _ _ _ _ (heap_alloc_new wo _)]; rfl); have hv1 : (wo.alloc (.cells #[.int .i64 x, .int .i64 p] 26)).cell? ⟨wo.heap.size, 1, none⟩ = some (.int .i64 p) := (by rw [cell_of_row _ _ _ _ _ _ (heap_alloc_new wo _)]; rfl); have HHW := Lib.hid hWV; have HV1 : Hid (wo.heap.size + 1 = (wo.alloc (.cells #[.int .i64 x, .int .i64 p] 26)).heap.size) := (show _ = _ by simp); generalize wo.alloc (.cells #[.int .i64 x, .int .i64 p] 26) = w at hWV HHW hV0 HV1 hv0 hv1 ⊢; have HH := Lib.hid (h.below hWV); have hB : Below w.heap.size w w := Below.refl _ _; have hwz : wo.heap.size ≤ w.heap.size := hWV.size; (try rw [HV1.out]); clear hWV)
    go_wp2_with (go_at_call 97; refine (CI.out _ (by exact HH.out.below (by repeat (first | exact Below.refl _ _ | assumption | apply Below.drew | apply below_drewN | (refine Below.alloc ?_ (by first | omega | (simp; done) | (simp; omega)) _) | (refine Below.setCell ?_ (by first | omega | (simp; done) | (simp; omega)) _))))).mono ?_; rintro e w' ⟨rfl, hb⟩; have hB : Below w.heap.size w w' := Below.thenn (by repeat (first | exact Below.refl _ _ | assumption | apply Below.drew | apply below_drewN | (refine Below.alloc ?_ (by first | omega | (simp; done) | (simp; omega)) _) | (refine Below.setCell ?_ (by first | omega | (simp; done) | (simp; omega)) _))) hb (by first | omega | (simp; done) | (simp; omega)); have hz : w.heap.size ≤ w'.heap.size := hB.size; (try (have hz1 : w.heap.size + 1 ≤ w'.heap.size := (by have h := hb.size; (try simp at h); omega))); obtain ⟨hc, hf⟩ := bcell hb; (have b0 := (hB.cell (p := ⟨wo.heap.size, 0, none⟩) hV0).trans hv0; have b1 := (hB.cell (p := ⟨wo.heap.size, 1, none⟩) hV0).trans hv1; have hVk : wo.heap.size < w'.heap.size := Nat.lt_of_lt_of_le hV0 hB.size); clear hb)
    go_ret3
    exact ⟨rfl, (Below.thenn HHW.out (show Below w.heap.size w _ from (by repeat (first | exact Below.refl _ _ | assumption | apply Below.drew | apply below_drewN | (refine Below.alloc ?_ (by first | omega | (simp; done) | (simp; omega)) _) | (refine Below.setCell ?_ (by first | omega | (simp; done) | (simp; omega)) _)))) HHW.out.size)⟩
  rw [ho] at ci
  rcases hr : ropeOk x p with _ | _
  · rw [hr] at cr
    have hk : caOk rows g x p place = false := by simp [caOk, hr]
    rw [hk, (ca_no hk).1, (ca_no hk).2]
    have CI := Lib.hid ci
    have CR := Lib.hid cr
    clear ci cr cg ho hk hr h2
    go_enter Try.func44, Try.ntmps44
    go_wp2_with fail
    (have hWV : Below wo.heap.size wo (wo.alloc (.cells #[.int .i64 x, .int .i64 p] 26)) := (Below.refl _ _).alloc (Nat.le_refl _) _; have hV0 : wo.heap.size < (wo.alloc (.cells #[.int .i64 x, .int .i64 p] 26)).heap.size := (by simp); have hv0 : (wo.alloc (.cells #[.int .i64 x, .int .i64 p] 26)).cell? ⟨wo.heap.size, 0, none⟩ = some (.int .i64 x) := (by rw [cell_of_row _ _ _ _ _ _ (heap_alloc_new wo _)]; rfl); have hv1 : (wo.alloc (.cells #[.int .i64 x, .int .i64 p] 26)).cell? ⟨wo.heap.size, 1, none⟩ = some (.int .i64 p) := (by rw [cell_of_row _ _ _ _ _ _ (heap_alloc_new wo _)]; rfl); have HHW := Lib.hid hWV; have HV1 : Hid (wo.heap.size + 1 = (wo.alloc (.cells #[.int .i64 x, .int .i64 p] 26)).heap.size) := (show _ = _ by simp); generalize wo.alloc (.cells #[.int .i64 x, .int .i64 p] 26) = w at hWV HHW hV0 HV1 hv0 hv1 ⊢; have HH := Lib.hid (h.below hWV); have hB : Below w.heap.size w w := Below.refl _ _; have hwz : wo.heap.size ≤ w.heap.size := hWV.size; (try rw [HV1.out]); clear hWV)
    go_wp2_with (first | (go_at_call 97; refine (CI.out _ (by exact HH.out.below (by repeat (first | exact Below.refl _ _ | assumption | apply Below.drew | apply below_drewN | (refine Below.alloc ?_ (by first | omega | (simp; done) | (simp; omega)) _) | (refine Below.setCell ?_ (by first | omega | (simp; done) | (simp; omega)) _))))).mono ?_; rintro e w' ⟨rfl, hb⟩; have hB : Below w.heap.size w w' := Below.thenn (by repeat (first | exact Below.refl _ _ | assumption | apply Below.drew | apply below_drewN | (refine Below.alloc ?_ (by first | omega | (simp; done) | (simp; omega)) _) | (refine Below.setCell ?_ (by first | omega | (simp; done) | (simp; omega)) _))) hb (by first | omega | (simp; done) | (simp; omega)); have hz : w.heap.size ≤ w'.heap.size := hB.size; (try (have hz1 : w.heap.size + 1 ≤ w'.heap.size := (by have h := hb.size; (try simp at h); omega))); obtain ⟨hc, hf⟩ := bcell hb; (have b0 := (hB.cell (p := ⟨wo.heap.size, 0, none⟩) hV0).trans hv0; have b1 := (hB.cell (p := ⟨wo.heap.size, 1, none⟩) hV0).trans hv1; have hVk : wo.heap.size < w'.heap.size := Nat.lt_of_lt_of_le hV0 hB.size); clear hb) | (go_at_call 13; refine (CR.out _).mono ?_; rintro e w' ⟨rfl, hb⟩; have hB : Below w.heap.size w w' := Below.thenn (by repeat (first | exact Below.refl _ _ | assumption | apply Below.drew | apply below_drewN | (refine Below.alloc ?_ (by first | omega | (simp; done) | (simp; omega)) _) | (refine Below.setCell ?_ (by first | omega | (simp; done) | (simp; omega)) _))) hb (by first | omega | (simp; done) | (simp; omega)); have hz : w.heap.size ≤ w'.heap.size := hB.size; (try (have hz1 : w.heap.size + 1 ≤ w'.heap.size := (by have h := hb.size; (try simp at h); omega))); obtain ⟨hc, hf⟩ := bcell hb; (have b0 := (hB.cell (p := ⟨wo.heap.size, 0, none⟩) hV0).trans hv0; have b1 := (hB.cell (p := ⟨wo.heap.size, 1, none⟩) hV0).trans hv1; have hVk : wo.heap.size < w'.heap.size := Nat.lt_of_lt_of_le hV0 hB.size); clear hb))
    go_ret3
    exact ⟨rfl, (Below.thenn HHW.out (show Below w.heap.size w _ from (by repeat (first | exact Below.refl _ _ | assumption | apply Below.drew | apply below_drewN | (refine Below.alloc ?_ (by first | omega | (simp; done) | (simp; omega)) _) | (refine Below.setCell ?_ (by first | omega | (simp; done) | (simp; omega)) _)))) HHW.out.size)⟩
  rw [hr] at cr
  rcases hg : igOk rows g with _ | _
  · rw [hg] at cg
    have hk : caOk rows g x p place = false := by simp [caOk, hg]
    rw [hk, (ca_no hk).1, (ca_no hk).2]
    have CI := Lib.hid ci
    have CR := Lib.hid cr
    have CG := Lib.hid cg
    clear ci cr cg ho hk hr hg h2
    go_enter Try.func44, Try.ntmps44
    go_wp2_with fail
    (have hWV : Below wo.heap.size wo (wo.alloc (.cells #[.int .i64 x, .int .i64 p] 26)) := (Below.refl _ _).alloc (Nat.le_refl _) _; have hV0 : wo.heap.size < (wo.alloc (.cells #[.int .i64 x, .int .i64 p] 26)).heap.size := (by simp); have hv0 : (wo.alloc (.cells #[.int .i64 x, .int .i64 p] 26)).cell? ⟨wo.heap.size, 0, none⟩ = some (.int .i64 x) := (by rw [cell_of_row _ _ _ _ _ _ (heap_alloc_new wo _)]; rfl); have hv1 : (wo.alloc (.cells #[.int .i64 x, .int .i64 p] 26)).cell? ⟨wo.heap.size, 1, none⟩ = some (.int .i64 p) := (by rw [cell_of_row _ _ _ _ _ _ (heap_alloc_new wo _)]; rfl); have HHW := Lib.hid hWV; have HV1 : Hid (wo.heap.size + 1 = (wo.alloc (.cells #[.int .i64 x, .int .i64 p] 26)).heap.size) := (show _ = _ by simp); generalize wo.alloc (.cells #[.int .i64 x, .int .i64 p] 26) = w at hWV HHW hV0 HV1 hv0 hv1 ⊢; have HH := Lib.hid (h.below hWV); have hB : Below w.heap.size w w := Below.refl _ _; have hwz : wo.heap.size ≤ w.heap.size := hWV.size; (try rw [HV1.out]); clear hWV)
    have HG2 := Lib.hid (HGO.out.below HHW.out)
    go_wp2_with (first | (go_at_call 97; refine (CI.out _ (by exact HH.out.below (by repeat (first | exact Below.refl _ _ | assumption | apply Below.drew | apply below_drewN | (refine Below.alloc ?_ (by first | omega | (simp; done) | (simp; omega)) _) | (refine Below.setCell ?_ (by first | omega | (simp; done) | (simp; omega)) _))))).mono ?_; rintro e w' ⟨rfl, hb⟩; have hB : Below w.heap.size w w' := Below.thenn (by repeat (first | exact Below.refl _ _ | assumption | apply Below.drew | apply below_drewN | (refine Below.alloc ?_ (by first | omega | (simp; done) | (simp; omega)) _) | (refine Below.setCell ?_ (by first | omega | (simp; done) | (simp; omega)) _))) hb (by first | omega | (simp; done) | (simp; omega)); have hz : w.heap.size ≤ w'.heap.size := hB.size; (try (have hz1 : w.heap.size + 1 ≤ w'.heap.size := (by have h := hb.size; (try simp at h); omega))); obtain ⟨hc, hf⟩ := bcell hb; (have b0 := (hB.cell (p := ⟨wo.heap.size, 0, none⟩) hV0).trans hv0; have b1 := (hB.cell (p := ⟨wo.heap.size, 1, none⟩) hV0).trans hv1; have hVk : wo.heap.size < w'.heap.size := Nat.lt_of_lt_of_le hV0 hB.size); clear hb) | (go_at_call 13; refine (CR.out _).mono ?_; rintro e w' ⟨rfl, hb⟩; have hB : Below w.heap.size w w' := Below.thenn (by repeat (first | exact Below.refl _ _ | assumption | apply Below.drew | apply below_drewN | (refine Below.alloc ?_ (by first | omega | (simp; done) | (simp; omega)) _) | (refine Below.setCell ?_ (by first | omega | (simp; done) | (simp; omega)) _))) hb (by first | omega | (simp; done) | (simp; omega)); have hz : w.heap.size ≤ w'.heap.size := hB.size; (try (have hz1 : w.heap.size + 1 ≤ w'.heap.size := (by have h := hb.size; (try simp at h); omega))); obtain ⟨hc, hf⟩ := bcell hb; (have b0 := (hB.cell (p := ⟨wo.heap.size, 0, none⟩) hV0).trans hv0; have b1 := (hB.cell (p := ⟨wo.heap.size, 1, none⟩) hV0).trans hv1; have hVk : wo.heap.size < w'.heap.size := Nat.lt_of_lt_of_le hV0 hB.size); clear hb) | (go_at_call 43; refine (CG.out _ (by exact HH.out.below (by repeat (first | exact Below.refl _ _ | assumption | apply Below.drew | apply below_drewN | (refine Below.alloc ?_ (by first | omega | (simp; done) | (simp; omega)) _) | (refine Below.setCell ?_ (by first | omega | (simp; done) | (simp; omega)) _)))) (by exact HG2.out.below (by repeat (first | exact Below.refl _ _ | assumption | apply Below.drew | apply below_drewN | (refine Below.alloc ?_ (by first | omega | (simp; done) | (simp; omega)) _) | (refine Below.setCell ?_ (by first | omega | (simp; done) | (simp; omega)) _))))).mono ?_; rintro e w' ⟨rfl, hb⟩; have hB : Below w.heap.size w w' := Below.thenn (by repeat (first | exact Below.refl _ _ | assumption | apply Below.drew | apply below_drewN | (refine Below.alloc ?_ (by first | omega | (simp; done) | (simp; omega)) _) | (refine Below.setCell ?_ (by first | omega | (simp; done) | (simp; omega)) _))) hb (by first | omega | (simp; done) | (simp; omega)); have hz : w.heap.size ≤ w'.heap.size := hB.size; (try (have hz1 : w.heap.size + 1 ≤ w'.heap.size := (by have h := hb.size; (try simp at h); omega))); obtain ⟨hc, hf⟩ := bcell hb; (have b0 := (hB.cell (p := ⟨wo.heap.size, 0, none⟩) hV0).trans hv0; have b1 := (hB.cell (p := ⟨wo.heap.size, 1, none⟩) hV0).trans hv1; have hVk : wo.heap.size < w'.heap.size := Nat.lt_of_lt_of_le hV0 hB.size); clear hb))
    go_ret3
    exact ⟨rfl, (Below.thenn HHW.out (show Below w.heap.size w _ from (by repeat (first | exact Below.refl _ _ | assumption | apply Below.drew | apply below_drewN | (refine Below.alloc ?_ (by first | omega | (simp; done) | (simp; omega)) _) | (refine Below.setCell ?_ (by first | omega | (simp; done) | (simp; omega)) _)))) HHW.out.size)⟩
  · rw [hg] at cg
    have hk : caOk rows g x p place = true := by simp [caOk, hr, ho, hg]
    obtain ⟨hl, h0, h1⟩ := onOk_iff.1 ho
    have cs := fun w' (h' : RdL w' A n rows) (h2' : RdR w' 2 A2 m g) => impl_clearanceAt A A2 n c m c2 rows g x p place w' h' h2' hn hm hl (igOk_iff.1 hg).2 hr h0 h1
    rw [hk, (ca_yes hk).1, (ca_yes hk).2]
    have CI := Lib.hid ci
    have CR := Lib.hid cr
    have CG := Lib.hid cg
    have CS := Lib.hid cs
    clear ci cr cg cs ho hk hr hg hl h0 h1 h2
    generalize cvN rows g x p place = N at *
    generalize cvD rows g x p place = D at *
    go_enter Try.func44, Try.ntmps44
    go_wp2_with fail
    (have hWV : Below wo.heap.size wo (wo.alloc (.cells #[.int .i64 x, .int .i64 p] 26)) := (Below.refl _ _).alloc (Nat.le_refl _) _; have hV0 : wo.heap.size < (wo.alloc (.cells #[.int .i64 x, .int .i64 p] 26)).heap.size := (by simp); have hv0 : (wo.alloc (.cells #[.int .i64 x, .int .i64 p] 26)).cell? ⟨wo.heap.size, 0, none⟩ = some (.int .i64 x) := (by rw [cell_of_row _ _ _ _ _ _ (heap_alloc_new wo _)]; rfl); have hv1 : (wo.alloc (.cells #[.int .i64 x, .int .i64 p] 26)).cell? ⟨wo.heap.size, 1, none⟩ = some (.int .i64 p) := (by rw [cell_of_row _ _ _ _ _ _ (heap_alloc_new wo _)]; rfl); have HHW := Lib.hid hWV; have HV1 : Hid (wo.heap.size + 1 = (wo.alloc (.cells #[.int .i64 x, .int .i64 p] 26)).heap.size) := (show _ = _ by simp); generalize wo.alloc (.cells #[.int .i64 x, .int .i64 p] 26) = w at hWV HHW hV0 HV1 hv0 hv1 ⊢; have HH := Lib.hid (h.below hWV); have hB : Below w.heap.size w w := Below.refl _ _; have hwz : wo.heap.size ≤ w.heap.size := hWV.size; (try rw [HV1.out]); clear hWV)
    have HG2 := Lib.hid (HGO.out.below HHW.out)
    go_wp2_with (first | (go_at_call 97; refine (CI.out _ (by exact HH.out.below (by repeat (first | exact Below.refl _ _ | assumption | apply Below.drew | apply below_drewN | (refine Below.alloc ?_ (by first | omega | (simp; done) | (simp; omega)) _) | (refine Below.setCell ?_ (by first | omega | (simp; done) | (simp; omega)) _))))).mono ?_; rintro e w' ⟨rfl, hb⟩; have hB : Below w.heap.size w w' := Below.thenn (by repeat (first | exact Below.refl _ _ | assumption | apply Below.drew | apply below_drewN | (refine Below.alloc ?_ (by first | omega | (simp; done) | (simp; omega)) _) | (refine Below.setCell ?_ (by first | omega | (simp; done) | (simp; omega)) _))) hb (by first | omega | (simp; done) | (simp; omega)); have hz : w.heap.size ≤ w'.heap.size := hB.size; (try (have hz1 : w.heap.size + 1 ≤ w'.heap.size := (by have h := hb.size; (try simp at h); omega))); obtain ⟨hc, hf⟩ := bcell hb; (have b0 := (hB.cell (p := ⟨wo.heap.size, 0, none⟩) hV0).trans hv0; have b1 := (hB.cell (p := ⟨wo.heap.size, 1, none⟩) hV0).trans hv1; have hVk : wo.heap.size < w'.heap.size := Nat.lt_of_lt_of_le hV0 hB.size); clear hb) | (go_at_call 13; refine (CR.out _).mono ?_; rintro e w' ⟨rfl, hb⟩; have hB : Below w.heap.size w w' := Below.thenn (by repeat (first | exact Below.refl _ _ | assumption | apply Below.drew | apply below_drewN | (refine Below.alloc ?_ (by first | omega | (simp; done) | (simp; omega)) _) | (refine Below.setCell ?_ (by first | omega | (simp; done) | (simp; omega)) _))) hb (by first | omega | (simp; done) | (simp; omega)); have hz : w.heap.size ≤ w'.heap.size := hB.size; (try (have hz1 : w.heap.size + 1 ≤ w'.heap.size := (by have h := hb.size; (try simp at h); omega))); obtain ⟨hc, hf⟩ := bcell hb; (have b0 := (hB.cell (p := ⟨wo.heap.size, 0, none⟩) hV0).trans hv0; have b1 := (hB.cell (p := ⟨wo.heap.size, 1, none⟩) hV0).trans hv1; have hVk : wo.heap.size < w'.heap.size := Nat.lt_of_lt_of_le hV0 hB.size); clear hb) | (go_at_call 43; refine (CG.out _ (by exact HH.out.below (by repeat (first | exact Below.refl _ _ | assumption | apply Below.drew | apply below_drewN | (refine Below.alloc ?_ (by first | omega | (simp; done) | (simp; omega)) _) | (refine Below.setCell ?_ (by first | omega | (simp; done) | (simp; omega)) _)))) (by exact HG2.out.below (by repeat (first | exact Below.refl _ _ | assumption | apply Below.drew | apply below_drewN | (refine Below.alloc ?_ (by first | omega | (simp; done) | (simp; omega)) _) | (refine Below.setCell ?_ (by first | omega | (simp; done) | (simp; omega)) _))))).mono ?_; rintro e w' ⟨rfl, hb⟩; have hB : Below w.heap.size w w' := Below.thenn (by repeat (first | exact Below.refl _ _ | assumption | apply Below.drew | apply below_drewN | (refine Below.alloc ?_ (by first | omega | (simp; done) | (simp; omega)) _) | (refine Below.setCell ?_ (by first | omega | (simp; done) | (simp; omega)) _))) hb (by first | omega | (simp; done) | (simp; omega)); have hz : w.heap.size ≤ w'.heap.size := hB.size; (try (have hz1 : w.heap.size + 1 ≤ w'.heap.size := (by have h := hb.size; (try simp at h); omega))); obtain ⟨hc, hf⟩ := bcell hb; (have b0 := (hB.cell (p := ⟨wo.heap.size, 0, none⟩) hV0).trans hv0; have b1 := (hB.cell (p := ⟨wo.heap.size, 1, none⟩) hV0).trans hv1; have hVk : wo.heap.size < w'.heap.size := Nat.lt_of_lt_of_le hV0 hB.size); clear hb))
    refine (CS.out _ (by exact HH.out.below (by repeat (first | exact Below.refl _ _ | assumption | apply Below.drew | apply below_drewN | (refine Below.alloc ?_ (by first | omega | (simp; done) | (simp; omega)) _) | (refine Below.setCell ?_ (by first | omega | (simp; done) | (simp; omega)) _)))) (by exact HG2.out.below (by repeat (first | exact Below.refl _ _ | assumption | apply Below.drew | apply below_drewN | (refine Below.alloc ?_ (by first | omega | (simp; done) | (simp; omega)) _) | (refine Below.setCell ?_ (by first | omega | (simp; done) | (simp; omega)) _))))).mono ?_
    rintro e w2 ⟨rfl, hb2⟩
    have B2 := Lib.hid (Below.thenn hB hb2 hB.size)
    clear hc hf hb2 b0 b1
    go_wp2_with fail
    have T2 := Lib.hid (Blk.new w2 115 #[.int .i64 N, .int .i64 D])
    have B3 := Lib.hid (B2.out.alloc B2.out.size (.cells #[.int .i64 N, .int .i64 D] 115))
    generalize w2.alloc (.cells #[.int .i64 N, .int .i64 D] 115) = v5 at *
    have hq := B2.out.size
    generalize w2.heap.size = q at *
    obtain ⟨s0, s1⟩ := T2.out.two
    have hlt := T2.out.lt
    clear hB T2
    have hB := B3.out
    (refine wp_region_ext (by kernel_rfl) (by kernel_rfl) ?_; have hxe := ext_cells; (repeat (go_big_quiet_step (fail))); refine wpQuiet_nil ?_; intro w' hw'; obtain ⟨nx, hw''⟩ := hw'; have hbx := ext_out hw''; clear hw'' nx hxe; have hB : Below w.heap.size w w' := Below.thenn (by repeat (first | exact Below.refl _ _ | assumption | apply Below.drew | apply below_drewN | (refine Below.alloc ?_ (by first | omega | (simp; done) | (simp; omega)) _) | (refine Below.setCell ?_ (by first | omega | (simp; done) | (simp; omega)) _))) hbx (by first | omega | (simp; done) | (simp; omega)); have hz : w.heap.size ≤ w'.heap.size := hB.size; obtain ⟨hc, hf⟩ := bcell hbx; clear hbx)
    go_wp2_with fail
    go_ret3
    exact ⟨rfl, (Below.thenn HHW.out (show Below w.heap.size w _ from (by repeat (first | exact Below.refl _ _ | assumption | apply Below.drew | apply below_drewN | (refine Below.alloc ?_ (by first | omega | (simp; done) | (simp; omega)) _) | (refine Below.setCell ?_ (by first | omega | (simp; done) | (simp; omega)) _)))) HHW.out.size)⟩
end Go.Proofs.Ytjfmicemnoglkaa
namespace Go.Proofs.Ytjfmicemnoglkaa
open Go.RowKit
set_option linter.unusedVariables false
set_option linter.unusedSimpArgs false

theorem Blk.put2j {w : World} {g : Nat} {t : TypeId} {a b x y : Value} (h : Blk w g t #[a, b]) : Blk ((w.setCell ⟨g, 0, none⟩ x).setCell ⟨g, 1, none⟩ y) g t #[x, y] := by simpa using (h.set_ 0 x).set_ 1 y
theorem below_put2j {B : Nat} {a w : World} {g : Nat} {x y : Value} (h : Below B a w) (hg : B ≤ g) : Below B a ((w.setCell ⟨g, 0, none⟩ x).setCell ⟨g, 1, none⟩ y) :=
  (h.setCell (p := ⟨g, 0, none⟩) hg _).setCell (p := ⟨g, 1, none⟩) hg _
theorem size_put2j {w : World} {g : Nat} (x y : Value) : ((w.setCell ⟨g, 0, none⟩ x).setCell ⟨g, 1, none⟩ y).heap.size = w.heap.size := by simp [World.setCell]
theorem lt_put2j {w : World} {g q : Nat} (x y : Value) (h : q < w.heap.size) : q < ((w.setCell ⟨g, 0, none⟩ x).setCell ⟨g, 1, none⟩ y).drew.heap.size := by
  show q < ((w.setCell ⟨g, 0, none⟩ x).setCell ⟨g, 1, none⟩ y).heap.size
  rw [size_put2j]; exact h
theorem lw_no' {rows g : List (List Int)} {w p : Int} (h : lwOk rows g w p = false) : lwA rows g w p = 0 ∧ lwN rows g w p = 0 ∧ lwD rows g w p = 0 := by simp [lwA, lwN, lwD, h]
theorem ClrAt.cv {rows g : List (List Int)} {w p place : Int} (h : ClrAt rows g w p place) : (-24000000000000000 ≤ cvN rows g w p place ∧ cvN rows g w p place ≤ 24000000000000000) ∧ (0 < cvD rows g w p place ∧ cvD rows g w p place ≤ 1800000000000) := by
  have d := h.den
  have n := h.num.1
  have n1 := redN_abs (a := clN rows g w p place) d.1 (M := 24000000000000000) (by omega) n.2
  have d1 := redD_pos (a := clN rows g w p place) d.1
  have d2 := redD_le (a := clN rows g w p place) d.1
  unfold cvN cvD
  omega
set_option maxRecDepth 100000 in
set_option maxHeartbeats 4000000 in
theorem impl_LowestClearance (A A2 : Option Addr) (n c m c2 : Nat) (rows g : List (List Int)) (x p : Int) (wo : World) (h : RdL wo A n rows) (h2 : RdR wo 2 A2 m g) (hn : n ≤ 1048577) (hm : m ≤ 1048577) :
    Calls Try.prog 41 #[.slice A n c, .agg #[.int .i64 x, .int .i64 p], .slice A2 m c2] wo (Ret wo (.tuple #[.int .i64 (lwA rows g x p), .int .i64 (lwN rows g x p), .int .i64 (lwD rows g x p), .bool (lwOk rows g x p)])) := by
  have cr := fun w' => impl_IsRope x p w'
  have cg := fun w' (h' : RdL w' A n rows) (h2' : RdR w' 2 A2 m g) => impl_IsGround A A2 n c m c2 rows g w' h' h2' hn hm
  have HGO := Lib.hid h2
  rcases hr : ropeOk x p with _ | _
  · rw [hr] at cr
    have hk : lwOk rows g x p = false := by simp [lwOk, hr]
    obtain ⟨g1, g2, g3⟩ := lw_no' hk
    rw [hk, g1, g2, g3]
    have CR := Lib.hid cr
    clear cr cg hk h2 hr g1 g2 g3
    go_enter Try.func41, Try.ntmps41
    go_wp2_with fail
    (have hWV : Below wo.heap.size wo (wo.alloc (.cells #[.int .i64 x, .int .i64 p] 26)) := (Below.refl _ _).alloc (Nat.le_refl _) _; have hV0 : wo.heap.size < (wo.alloc (.cells #[.int .i64 x, .int .i64 p] 26)).heap.size := (by simp); have hv0 : (wo.alloc (.cells #[.int .i64 x, .int .i64 p] 26)).cell? ⟨wo.heap.size, 0, none⟩ = some (.int .i64 x) := (by rw [cell_of_row _ _ _ _ _ _ (heap_alloc_new wo _)]; rfl); have hv1 : (wo.alloc (.cells #[.int .i64 x, .int .i64 p] 26)).cell? ⟨wo.heap.size, 1, none⟩ = some (.int .i64 p) := (by rw [cell_of_row _ _ _ _ _ _ (heap_alloc_new wo _)]; rfl); have HHW := Lib.hid hWV; have HV1 : Hid (wo.heap.size + 1 = (wo.alloc (.cells #[.int .i64 x, .int .i64 p] 26)).heap.size) := (show _ = _ by simp); generalize wo.alloc (.cells #[.int .i64 x, .int .i64 p] 26) = w at hWV HHW hV0 HV1 hv0 hv1 ⊢; have HH := Lib.hid (h.below hWV); have hB : Below w.heap.size w w := Below.refl _ _; have hwz : wo.heap.size ≤ w.heap.size := hWV.size; (try rw [HV1.out]); clear hWV)
    go_wp2_with (go_at_call 13; refine (CR.out _).mono ?_; rintro e w' ⟨rfl, hb⟩; have hB : Below w.heap.size w w' := Below.thenn (by repeat (first | exact Below.refl _ _ | assumption | apply Below.drew | apply below_drewN | (refine Below.alloc ?_ (by first | omega | (simp; done) | (simp; omega)) _) | (refine Below.setCell ?_ (by first | omega | (simp; done) | (simp; omega)) _))) hb (by first | omega | (simp; done) | (simp; omega)); have hz : w.heap.size ≤ w'.heap.size := hB.size; (try (have hz1 : w.heap.size + 1 ≤ w'.heap.size := (by have h := hb.size; (try simp at h); omega))); obtain ⟨hc, hf⟩ := bcell hb; (have b0 := (hB.cell (p := ⟨wo.heap.size, 0, none⟩) hV0).trans hv0; have b1 := (hB.cell (p := ⟨wo.heap.size, 1, none⟩) hV0).trans hv1; have hVk : wo.heap.size < w'.heap.size := Nat.lt_of_lt_of_le hV0 hB.size); clear hb)
    go_light
    refine bodyPost_ret (v := .tuple #[.int .i64 0, .int .i64 0, .int .i64 0, .bool false]) ?_ rfl ⟨rfl, (Below.thenn HHW.out (show Below w.heap.size w _ from (by repeat (first | exact Below.refl _ _ | assumption | apply Below.drew | apply below_drewN | (refine Below.alloc ?_ (by first | omega | (simp; done) | (simp; omega)) _) | (refine Below.setCell ?_ (by first | omega | (simp; done) | (simp; omega)) _)))) HHW.out.size)⟩
    simp [results, Try.results41, go_sem]
  rw [hr] at cr
  rcases hg : igOk rows g with _ | _
  · rw [hg] at cg
    have hk : lwOk rows g x p = false := by simp [lwOk, hg]
    obtain ⟨g1, g2, g3⟩ := lw_no' hk
    rw [hk, g1, g2, g3]
    have CR := Lib.hid cr
    have CG := Lib.hid cg
    clear cr cg hk h2 hr hg g1 g2 g3
    go_enter Try.func41, Try.ntmps41
    go_wp2_with fail
    (have hWV : Below wo.heap.size wo (wo.alloc (.cells #[.int .i64 x, .int .i64 p] 26)) := (Below.refl _ _).alloc (Nat.le_refl _) _; have hV0 : wo.heap.size < (wo.alloc (.cells #[.int .i64 x, .int .i64 p] 26)).heap.size := (by simp); have hv0 : (wo.alloc (.cells #[.int .i64 x, .int .i64 p] 26)).cell? ⟨wo.heap.size, 0, none⟩ = some (.int .i64 x) := (by rw [cell_of_row _ _ _ _ _ _ (heap_alloc_new wo _)]; rfl); have hv1 : (wo.alloc (.cells #[.int .i64 x, .int .i64 p] 26)).cell? ⟨wo.heap.size, 1, none⟩ = some (.int .i64 p) := (by rw [cell_of_row _ _ _ _ _ _ (heap_alloc_new wo _)]; rfl); have HHW := Lib.hid hWV; have HV1 : Hid (wo.heap.size + 1 = (wo.alloc (.cells #[.int .i64 x, .int .i64 p] 26)).heap.size) := (show _ = _ by simp); generalize wo.alloc (.cells #[.int .i64 x, .int .i64 p] 26) = w at hWV HHW hV0 HV1 hv0 hv1 ⊢; have HH := Lib.hid (h.below hWV); have hB : Below w.heap.size w w := Below.refl _ _; have hwz : wo.heap.size ≤ w.heap.size := hWV.size; (try rw [HV1.out]); clear hWV)
    have HG2 := Lib.hid (HGO.out.below HHW.out)
    go_wp2_with (first | (go_at_call 13; refine (CR.out _).mono ?_; rintro e w' ⟨rfl, hb⟩; have hB : Below w.heap.size w w' := Below.thenn (by repeat (first | exact Below.refl _ _ | assumption | apply Below.drew | apply below_drewN | (refine Below.alloc ?_ (by first | omega | (simp; done) | (simp; omega)) _) | (refine Below.setCell ?_ (by first | omega | (simp; done) | (simp; omega)) _))) hb (by first | omega | (simp; done) | (simp; omega)); have hz : w.heap.size ≤ w'.heap.size := hB.size; (try (have hz1 : w.heap.size + 1 ≤ w'.heap.size := (by have h := hb.size; (try simp at h); omega))); obtain ⟨hc, hf⟩ := bcell hb; (have b0 := (hB.cell (p := ⟨wo.heap.size, 0, none⟩) hV0).trans hv0; have b1 := (hB.cell (p := ⟨wo.heap.size, 1, none⟩) hV0).trans hv1; have hVk : wo.heap.size < w'.heap.size := Nat.lt_of_lt_of_le hV0 hB.size); clear hb) | (go_at_call 43; refine (CG.out _ (by exact HH.out.below (by repeat (first | exact Below.refl _ _ | assumption | apply Below.drew | apply below_drewN | (refine Below.alloc ?_ (by first | omega | (simp; done) | (simp; omega)) _) | (refine Below.setCell ?_ (by first | omega | (simp; done) | (simp; omega)) _)))) (by exact HG2.out.below (by repeat (first | exact Below.refl _ _ | assumption | apply Below.drew | apply below_drewN | (refine Below.alloc ?_ (by first | omega | (simp; done) | (simp; omega)) _) | (refine Below.setCell ?_ (by first | omega | (simp; done) | (simp; omega)) _))))).mono ?_; rintro e w' ⟨rfl, hb⟩; have hB : Below w.heap.size w w' := Below.thenn (by repeat (first | exact Below.refl _ _ | assumption | apply Below.drew | apply below_drewN | (refine Below.alloc ?_ (by first | omega | (simp; done) | (simp; omega)) _) | (refine Below.setCell ?_ (by first | omega | (simp; done) | (simp; omega)) _))) hb (by first | omega | (simp; done) | (simp; omega)); have hz : w.heap.size ≤ w'.heap.size := hB.size; (try (have hz1 : w.heap.size + 1 ≤ w'.heap.size := (by have h := hb.size; (try simp at h); omega))); obtain ⟨hc, hf⟩ := bcell hb; (have b0 := (hB.cell (p := ⟨wo.heap.size, 0, none⟩) hV0).trans hv0; have b1 := (hB.cell (p := ⟨wo.heap.size, 1, none⟩) hV0).trans hv1; have hVk : wo.heap.size < w'.heap.size := Nat.lt_of_lt_of_le hV0 hB.size); clear hb))
    go_light
    refine bodyPost_ret (v := .tuple #[.int .i64 0, .int .i64 0, .int .i64 0, .bool false]) ?_ rfl ⟨rfl, (Below.thenn HHW.out (show Below w.heap.size w _ from (by repeat (first | exact Below.refl _ _ | assumption | apply Below.drew | apply below_drewN | (refine Below.alloc ?_ (by first | omega | (simp; done) | (simp; omega)) _) | (refine Below.setCell ?_ (by first | omega | (simp; done) | (simp; omega)) _)))) HHW.out.size)⟩
    simp [results, Try.results41, go_sem]
  · rw [hg] at cg
    obtain ⟨hl, hgr⟩ := igOk_iff.1 hg
    have hk : lwOk rows g x p = true := by simp [lwOk, hg, hr]
    have L := lineOk_line hl
    have he := L.end_pos
    obtain ⟨E, hE⟩ : ∃ E : Nat, endN rows = (E : Int) := ⟨(endN rows).toNat, by omega⟩
    have hE8 : E ≤ 3000 := by omega
    have hn2 := L.lo
    have hn8 := L.hi
    rw [h.2.1] at hn2 hn8
    obtain ⟨b, off, hA, hb, e0, _, _⟩ := h.rowN (k := n - 1) (by omega)
    have hEE : atN rows (n - 1) = (E : Int) := by rw [← hE]; unfold endN; rw [h.2.1]
    rw [hEE] at e0
    have BD := fun (k : Nat) (hkE : k ≤ E) => (clr_at hl hgr hr (place := (k : Int)) (by omega) (by omega)).cv
    have LE := lwF_le rows g x p
    have ST : ∀ j : Nat, lwF rows g x p (j + 1) = if cvN rows g x p ((j + 1 : Nat) : Int) * cvD rows g x p (lwF rows g x p j : Nat) < cvN rows g x p (lwF rows g x p j : Nat) * cvD rows g x p ((j + 1 : Nat) : Int) then j + 1 else lwF rows g x p j := fun j => rfl
    have o1 : lwA rows g x p = ((lwF rows g x p E : Nat) : Int) := by unfold lwA; rw [if_pos hk, hE]; rfl
    have o2 : lwN rows g x p = cvN rows g x p ((lwF rows g x p E : Nat) : Int) := by unfold lwN; rw [if_pos hk, hE]; rfl
    have o3 : lwD rows g x p = cvD rows g x p ((lwF rows g x p E : Nat) : Int) := by unfold lwD; rw [if_pos hk, hE]; rfl
    have cs := fun (k : Nat) (hkE : k ≤ E) w' (h' : RdL w' A n rows) (h2' : RdR w' 2 A2 m g) => impl_clearanceAt A A2 n c m c2 rows g x p k w' h' h2' hn hm hl hgr hr (by omega) (by omega)
    rw [hk, o1, o2, o3]
    obtain ⟨NF, hNF⟩ : ∃ NF : Nat → Int, ∀ k : Nat, cvN rows g x p (k : Int) = NF k := ⟨fun k => cvN rows g x p (k : Int), fun _ => rfl⟩
    obtain ⟨DF, hDF⟩ : ∃ DF : Nat → Int, ∀ k : Nat, cvD rows g x p (k : Int) = DF k := ⟨fun k => cvD rows g x p (k : Int), fun _ => rfl⟩
    simp only [hNF, hDF] at ST BD cs ⊢
    clear o1 o2 o3 hNF hDF
    generalize lwF rows g x p = LF at *
    have cs0 := cs 0 (by omega)
    simp only [Int.natCast_zero] at cs0
    have hL0 : LF 0 = 0 := by have := LE 0; omega
    have hn1 : ((n : Int) - 1).toNat = n - 1 := by omega
    have hn3 : 0 ≤ (n : Int) - 1 := by omega
    have CR := Lib.hid cr
    have CG := Lib.hid cg
    have CS := Lib.hid cs
    have CS0 := Lib.hid cs0
    have HBD := Lib.hid BD
    have HST := Lib.hid ST
    have HLE := Lib.hid LE
    have HA := Lib.hid hA
    have HL0 := Lib.hid hL0
    clear cr cg cs cs0 hk hr hg hl hgr L hE hEE he hA h2 BD ST LE hL0
    go_enter Try.func41, Try.ntmps41
    go_wp2_with fail
    (have hWV : Below wo.heap.size wo (wo.alloc (.cells #[.int .i64 x, .int .i64 p] 26)) := (Below.refl _ _).alloc (Nat.le_refl _) _; have hV0 : wo.heap.size < (wo.alloc (.cells #[.int .i64 x, .int .i64 p] 26)).heap.size := (by simp); have hv0 : (wo.alloc (.cells #[.int .i64 x, .int .i64 p] 26)).cell? ⟨wo.heap.size, 0, none⟩ = some (.int .i64 x) := (by rw [cell_of_row _ _ _ _ _ _ (heap_alloc_new wo _)]; rfl); have hv1 : (wo.alloc (.cells #[.int .i64 x, .int .i64 p] 26)).cell? ⟨wo.heap.size, 1, none⟩ = some (.int .i64 p) := (by rw [cell_of_row _ _ _ _ _ _ (heap_alloc_new wo _)]; rfl); have HHW := Lib.hid hWV; have HV1 : Hid (wo.heap.size + 1 = (wo.alloc (.cells #[.int .i64 x, .int .i64 p] 26)).heap.size) := (show _ = _ by simp); generalize wo.alloc (.cells #[.int .i64 x, .int .i64 p] 26) = w at hWV HHW hV0 HV1 hv0 hv1 ⊢; have HH := Lib.hid (h.below hWV); have hB : Below w.heap.size w w := Below.refl _ _; have hwz : wo.heap.size ≤ w.heap.size := hWV.size; (try rw [HV1.out]); clear hWV)
    have e1 := (HHW.out.cell (p := ⟨b, off + (n - 1) * 3, none⟩) hb).trans e0
    have HG2 := Lib.hid (HGO.out.below HHW.out)
    go_wp2_with (first | (go_at_call 13; refine (CR.out _).mono ?_; rintro e w' ⟨rfl, hb⟩; have hB : Below w.heap.size w w' := Below.thenn (by repeat (first | exact Below.refl _ _ | assumption | apply Below.drew | apply below_drewN | (refine Below.alloc ?_ (by first | omega | (simp; done) | (simp; omega)) _) | (refine Below.setCell ?_ (by first | omega | (simp; done) | (simp; omega)) _))) hb (by first | omega | (simp; done) | (simp; omega)); have hz : w.heap.size ≤ w'.heap.size := hB.size; (try (have hz1 : w.heap.size + 1 ≤ w'.heap.size := (by have h := hb.size; (try simp at h); omega))); obtain ⟨hc, hf⟩ := bcell hb; (have b0 := (hB.cell (p := ⟨wo.heap.size, 0, none⟩) hV0).trans hv0; have b1 := (hB.cell (p := ⟨wo.heap.size, 1, none⟩) hV0).trans hv1; have hVk : wo.heap.size < w'.heap.size := Nat.lt_of_lt_of_le hV0 hB.size); clear hb) | (go_at_call 43; refine (CG.out _ (by exact HH.out.below (by repeat (first | exact Below.refl _ _ | assumption | apply Below.drew | apply below_drewN | (refine Below.alloc ?_ (by first | omega | (simp; done) | (simp; omega)) _) | (refine Below.setCell ?_ (by first | omega | (simp; done) | (simp; omega)) _)))) (by exact HG2.out.below (by repeat (first | exact Below.refl _ _ | assumption | apply Below.drew | apply below_drewN | (refine Below.alloc ?_ (by first | omega | (simp; done) | (simp; omega)) _) | (refine Below.setCell ?_ (by first | omega | (simp; done) | (simp; omega)) _))))).mono ?_; rintro e w' ⟨rfl, hb⟩; have hB : Below w.heap.size w w' := Below.thenn (by repeat (first | exact Below.refl _ _ | assumption | apply Below.drew | apply below_drewN | (refine Below.alloc ?_ (by first | omega | (simp; done) | (simp; omega)) _) | (refine Below.setCell ?_ (by first | omega | (simp; done) | (simp; omega)) _))) hb (by first | omega | (simp; done) | (simp; omega)); have hz : w.heap.size ≤ w'.heap.size := hB.size; (try (have hz1 : w.heap.size + 1 ≤ w'.heap.size := (by have h := hb.size; (try simp at h); omega))); obtain ⟨hc, hf⟩ := bcell hb; (have b0 := (hB.cell (p := ⟨wo.heap.size, 0, none⟩) hV0).trans hv0; have b1 := (hB.cell (p := ⟨wo.heap.size, 1, none⟩) hV0).trans hv1; have hVk : wo.heap.size < w'.heap.size := Nat.lt_of_lt_of_le hV0 hB.size); clear hb))
    refine (CS0.out _ (by exact HH.out.below (by repeat (first | exact Below.refl _ _ | assumption | apply Below.drew | apply below_drewN | (refine Below.alloc ?_ (by first | omega | (simp; done) | (simp; omega)) _) | (refine Below.setCell ?_ (by first | omega | (simp; done) | (simp; omega)) _)))) (by exact HG2.out.below (by repeat (first | exact Below.refl _ _ | assumption | apply Below.drew | apply below_drewN | (refine Below.alloc ?_ (by first | omega | (simp; done) | (simp; omega)) _) | (refine Below.setCell ?_ (by first | omega | (simp; done) | (simp; omega)) _))))).mono ?_
    rintro e w2 ⟨rfl, hb2⟩
    have B2 := Lib.hid (Below.thenn hB hb2 hB.size)
    clear hc hf hb2 b0 b1
    go_wp2_with fail
    have T2 := Lib.hid (Blk.new w2 115 #[.int .i64 (NF 0), .int .i64 (DF 0)])
    have B3 := Lib.hid (B2.out.alloc B2.out.size (.cells #[.int .i64 (NF 0), .int .i64 (DF 0)] 115))
    generalize w2.alloc (.cells #[.int .i64 (NF 0), .int .i64 (DF 0)] 115) = v5 at *
    have hq := B2.out.size
    generalize w2.heap.size = q at *
    have hlt2 := T2.out.lt
    clear hB
    obtain rfl := HA.out
    have hbw : b < w.heap.size := by omega
    go_loopg [10, 12] E (fun gg best i wr => ∃ (j : Nat), j ≤ E ∧ E ≤ j + gg ∧ i = .int .i64 ((j + 1 : Nat) : Int) ∧ best = .int .i64 ((LF j : Nat) : Int) ∧ Below w.heap.size w wr ∧ q < wr.heap.size ∧ Hid (Blk wr q 115 #[.int .i64 (NF (LF j)), .int .i64 (DF (LF j))]))
    case atStart => exact ⟨0, by omega, by omega, rfl, by rw [HL0.out]; rfl, B3.out, hlt2, by rw [HL0.out]; exact T2⟩
    case round =>
      obtain ⟨j, hk1, hk2, rfl, rfl, hBr, hzr, TB⟩ := hrel
      have b0 := (hBr.cell (p := ⟨wo.heap.size, 0, none⟩) hV0).trans hv0
      have b1 := (hBr.cell (p := ⟨wo.heap.size, 1, none⟩) hV0).trans hv1
      have e2 := (hBr.cell (p := ⟨b, off + (n - 1) * 3, none⟩) hbw).trans e1
      obtain ⟨c0, c1⟩ := TB.out.two
      have hVr : wo.heap.size < wr.heap.size := by omega
      by_cases hlt : j + 1 ≤ E
      · have hle : decide (((j + 1 : Nat) : Int) ≤ (E : Int)) = true := decide_eq_true (by omega)
        have u1 : IntKind.i64.wrap (((j + 1 : Nat) : Int) + 1) = ((j + 1 + 1 : Nat) : Int) := IntWalk.i64_in _ (by omega)
        have CSk := Lib.hid (CS.out (j + 1) hlt)
        obtain ⟨n1, d1⟩ := HBD.out (j + 1) hlt
        obtain ⟨n2, d2⟩ := HBD.out (LF j) (by have := HLE.out j; omega)
        have HS := Lib.hid (HST.out j)
        generalize hN : NF (j + 1) = N1 at *
        generalize hD : DF (j + 1) = D1 at *
        generalize hN0 : NF (LF j) = N0 at *
        generalize hD0 : DF (LF j) = D0 at *
        have cl := fun w' => impl_compare N1 D1 N0 D0 w' (by omega) (by omega) (by omega) (by omega)
        have hv := cmpV_lt (a := N1) (b := D1) (c := N0) (d := D0)
        have HN := Lib.hid hN
        have HD := Lib.hid hD
        have HN0 := Lib.hid hN0
        have HD0 := Lib.hid hD0
        have CL := Lib.hid cl
        clear hN hD hN0 hD0 n1 d1 n2 d2 cl
        generalize cmpV N1 D1 N0 D0 = vv at *
        go_wp2_with fail
        refine (CSk.out _ (by exact HH.out.below (by repeat (first | exact Below.refl _ _ | assumption | apply Below.drew | apply below_drewN | (refine Below.alloc ?_ (by first | omega | (simp; done) | (simp; omega)) _) | (refine Below.setCell ?_ (by first | omega | (simp; done) | (simp; omega)) _)))) (by exact HG2.out.below (by repeat (first | exact Below.refl _ _ | assumption | apply Below.drew | apply below_drewN | (refine Below.alloc ?_ (by first | omega | (simp; done) | (simp; omega)) _) | (refine Below.setCell ?_ (by first | omega | (simp; done) | (simp; omega)) _))))).mono ?_
        rintro e w3 ⟨rfl, hb3⟩
        have B4 := Lib.hid (Below.thenn hBr hb3 (by omega))
        have TB3 := Lib.hid (TB.out.below hb3 hzr)
        have hz3 := hb3.size
        clear hb3
        obtain ⟨c0, c1⟩ := (TB3.out.alloc (.cells #[.int .i64 N1, .int .i64 D1] 115)).two
        have s3 : (w3.alloc (.cells #[.int .i64 N1, .int .i64 D1] 115)).heap.size = w3.heap.size + 1 := by simp
        obtain ⟨t0, t1⟩ := (Blk.new w3 115 #[.int .i64 N1, .int .i64 D1]).two
        have hB := B4.out.alloc B4.out.size (.cells #[.int .i64 N1, .int .i64 D1] 115)
        have TB4 := Lib.hid (TB3.out.alloc (.cells #[.int .i64 N1, .int .i64 D1] 115))
        go_wp2_with fail
        refine (CL.out _).mono ?_
        rintro e w7 ⟨rfl, hb7⟩
        have B7 := Lib.hid (Below.thenn hB hb7 hB.size)
        have TB7 := Lib.hid (TB4.out.below hb7 (by omega))
        have t0 := (hb7.cell (p := ⟨w3.heap.size, 0, none⟩) (by simp)).trans t0
        have t1 := (hb7.cell (p := ⟨w3.heap.size, 1, none⟩) (by simp)).trans t1
        have z7 := hb7.size
        obtain ⟨c0, c1⟩ := TB7.out.two
        have f0 := TB7.out.frozen 0
        have f1 := TB7.out.frozen 1
        have hzq : q < w7.heap.size := by omega
        clear hb7 hB TB4 TB3
        generalize w3.heap.size = q6 at *
        clear s3
        by_cases ht : N1 * D0 < N0 * D1
        · rw [decide_eq_true ht] at hv
          have HT := Lib.hid (HS.out.trans (if_pos ht))
          clear ht
          go_wp2_with fail
          go_region
          go_wp2_with fail
          go_roundg (E - (j + 1))
          case measure => omega
          case rel => exact ⟨j + 1, by omega, by omega, by go_num, by rw [HT.out]; rfl, (below_put2j B7.out hq).drew, lt_put2j _ _ hzq, Lib.hid (by rw [HT.out, HN.out, HD.out]; exact TB7.out.put2j.drew)⟩
        · rw [decide_eq_false ht] at hv
          have HT := Lib.hid (HS.out.trans (if_neg ht))
          clear ht
          go_wp2_with fail
          go_roundg (E - (j + 1))
          case measure => omega
          case rel => exact ⟨j + 1, by omega, by omega, by go_num, by rw [HT.out], B7.out, hzq, Lib.hid (by rw [HT.out, HN0.out, HD0.out]; exact TB7.out)⟩
      · obtain rfl : j = E := by omega
        have hle : decide (((j + 1 : Nat) : Int) ≤ (j : Int)) = false := decide_eq_false (by omega)
        generalize NF (LF j) = N0 at *
        generalize DF (LF j) = D0 at *
        generalize LF j = q9 at *
        have hB := hBr
        go_wp2_with fail
        (refine wp_region_ext (by kernel_rfl) (by kernel_rfl) ?_; have hxe := ext_cells; (repeat (go_big_quiet_step (fail))); refine wpQuiet_nil ?_; intro w' hw'; obtain ⟨nx, hw''⟩ := hw'; have hbx := ext_out hw''; clear hw'' nx hxe; have hB : Below w.heap.size w w' := Below.thenn (by repeat (first | exact Below.refl _ _ | assumption | apply Below.drew | apply below_drewN | (refine Below.alloc ?_ (by first | omega | (simp; done) | (simp; omega)) _) | (refine Below.setCell ?_ (by first | omega | (simp; done) | (simp; omega)) _))) hbx (by first | omega | (simp; done) | (simp; omega)); have hz : w.heap.size ≤ w'.heap.size := hB.size; obtain ⟨hc, hf⟩ := bcell hbx; clear hbx)
        go_wp2_with fail
        go_light
        refine bodyPost_ret (v := .tuple #[.int .i64 q9, .int .i64 N0, .int .i64 D0, .bool true]) ?_ rfl ⟨rfl, (Below.thenn HHW.out (show Below w.heap.size w _ from (by repeat (first | exact Below.refl _ _ | assumption | apply Below.drew | apply below_drewN | (refine Below.alloc ?_ (by first | omega | (simp; done) | (simp; omega)) _) | (refine Below.setCell ?_ (by first | omega | (simp; done) | (simp; omega)) _)))) HHW.out.size)⟩
        simp [results, Try.results41, go_sem]
end Go.Proofs.Ytjfmicemnoglkaa
