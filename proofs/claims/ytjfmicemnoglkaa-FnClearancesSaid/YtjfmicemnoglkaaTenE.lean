/- The drive force. -/
import Derived.Test.YtjfmicemnoglkaaTenD
namespace Go.Proofs.Ytjfmicemnoglkaa
open Go.RowKit
set_option linter.unusedVariables false
set_option linter.unusedSimpArgs false

set_option maxRecDepth 100000 in
set_option maxHeartbeats 2000000 in
theorem impl_DriveForce (A : Option Addr) (n c : Nat) (rows : List (List Int)) (x ct r : Int) (wo : World) (h : RdL wo A n rows) (hm : n ≤ 1048577) :
    Calls Try.prog 53 #[.slice A n c, .agg #[.int .i64 x, .int .i64 ct, .int .i64 r]] wo (Ret wo (.tuple #[.int .i64 (dfV rows x ct r), .bool (dfOk rows x ct r)])) := by
  have cu := fun w' (h' : RdL w' A n rows) => impl_UpTensions A n c rows x ct r w' h' hm
  have cd := fun w' (h' : RdL w' A n rows) => impl_DownTensions A n c rows x ct r w' h' hm
  rcases hk : dfOk rows x ct r with _ | _
  · have hv : dfV rows x ct r = 0 := by simp [dfV, hk]
    rw [hv]
    have hq : upOk rows x ct r = false ∨ upOk rows x ct r = true ∧ dnOk rows x ct r = false := by
      rcases h1 : upOk rows x ct r with _ | _
      · exact .inl rfl
      · right
        refine ⟨rfl, ?_⟩
        simpa [dfOk, h1] using hk
    generalize upV rows x ct r = zs at *
    generalize dnV rows x ct r = ys at *
    generalize upOk rows x ct r = a at *
    generalize dnOk rows x ct r = b at *
    have CU := Lib.hid cu
    have CD := Lib.hid cd
    clear cu cd hk hv
    rcases hq with rfl | ⟨rfl, rfl⟩
    all_goals
      go_enter Try.func53, Try.ntmps53
      go_wp2_with fail
      (have hWV : Below wo.heap.size wo (wo.alloc (.cells #[.int .i64 x, .int .i64 ct, .int .i64 r] 70)) := (Below.refl _ _).alloc (Nat.le_refl _) _; have hV0 : wo.heap.size < (wo.alloc (.cells #[.int .i64 x, .int .i64 ct, .int .i64 r] 70)).heap.size := (by simp); have hv0 : (wo.alloc (.cells #[.int .i64 x, .int .i64 ct, .int .i64 r] 70)).cell? ⟨wo.heap.size, 0, none⟩ = some (.int .i64 x) := (by rw [cell_of_row _ _ _ _ _ _ (heap_alloc_new wo _)]; rfl); have hv1 : (wo.alloc (.cells #[.int .i64 x, .int .i64 ct, .int .i64 r] 70)).cell? ⟨wo.heap.size, 1, none⟩ = some (.int .i64 ct) := (by rw [cell_of_row _ _ _ _ _ _ (heap_alloc_new wo _)]; rfl); have hv2 : (wo.alloc (.cells #[.int .i64 x, .int .i64 ct, .int .i64 r] 70)).cell? ⟨wo.heap.size, 2, none⟩ = some (.int .i64 r) := (by rw [cell_of_row _ _ _ _ _ _ (heap_alloc_new wo _)]; rfl); have HHW := Lib.hid hWV; have HV1 : Hid (wo.heap.size + 1 = (wo.alloc (.cells #[.int .i64 x, .int .i64 ct, .int .i64 r] 70)).heap.size) := (show _ = _ by simp); generalize wo.alloc (.cells #[.int .i64 x, .int .i64 ct, .int .i64 r] 70) = w at hWV HHW hV0 HV1 hv0 hv1 hv2 ⊢; have HH := Lib.hid (h.below hWV); have hB : Below w.heap.size w w := Below.refl _ _; have hwz : wo.heap.size ≤ w.heap.size := hWV.size; (try rw [HV1.out]); clear hWV)
      go_wp2_with (first | (go_at_call 57; refine (CU.out _ (by exact HH.out.below (by repeat (first | exact Below.refl _ _ | assumption | apply Below.drew | apply below_drewN | (refine Below.alloc ?_ (by first | omega | (simp; done) | (simp; omega)) _) | (refine Below.setCell ?_ (by first | omega | (simp; done) | (simp; omega)) _))))).mono ?_; rintro e w' ⟨A2, c2, rfl, ho, hb⟩; have hB : Below w.heap.size w w' := Below.thenn (by repeat (first | exact Below.refl _ _ | assumption | apply Below.drew | apply below_drewN | (refine Below.alloc ?_ (by first | omega | (simp; done) | (simp; omega)) _) | (refine Below.setCell ?_ (by first | omega | (simp; done) | (simp; omega)) _))) hb (by first | omega | (simp; done) | (simp; omega)); have O2 := Lib.hid ho; have hz : w.heap.size ≤ w'.heap.size := hB.size; (try (have hz1 : w.heap.size + 1 ≤ w'.heap.size := (by have h := hb.size; (try simp at h); omega))); have HQ := Lib.hid hb; obtain ⟨hc, hf⟩ := bcell hb; (have b0 := (hB.cell (p := ⟨wo.heap.size, 0, none⟩) hV0).trans hv0; have b1 := (hB.cell (p := ⟨wo.heap.size, 1, none⟩) hV0).trans hv1; have b2 := (hB.cell (p := ⟨wo.heap.size, 2, none⟩) hV0).trans hv2; have hVk : wo.heap.size < w'.heap.size := Nat.lt_of_lt_of_le hV0 hB.size); clear hb ho) | (go_at_call 58; refine (CD.out _ (by exact HH.out.below (by repeat (first | exact Below.refl _ _ | assumption | apply Below.drew | apply below_drewN | (refine Below.alloc ?_ (by first | omega | (simp; done) | (simp; omega)) _) | (refine Below.setCell ?_ (by first | omega | (simp; done) | (simp; omega)) _))))).mono ?_; rintro e w' ⟨A3, c3, rfl, ho, hb⟩; have hB : Below w.heap.size w w' := Below.thenn (by repeat (first | exact Below.refl _ _ | assumption | apply Below.drew | apply below_drewN | (refine Below.alloc ?_ (by first | omega | (simp; done) | (simp; omega)) _) | (refine Below.setCell ?_ (by first | omega | (simp; done) | (simp; omega)) _))) hb (by first | omega | (simp; done) | (simp; omega)); have O3 := Lib.hid ho; have hz : w.heap.size ≤ w'.heap.size := hB.size; (try (have hz1 : w.heap.size + 1 ≤ w'.heap.size := (by have h := hb.size; (try simp at h); omega))); have HQ := Lib.hid hb; obtain ⟨hc, hf⟩ := bcell hb; (have b0 := (hB.cell (p := ⟨wo.heap.size, 0, none⟩) hV0).trans hv0; have b1 := (hB.cell (p := ⟨wo.heap.size, 1, none⟩) hV0).trans hv1; have b2 := (hB.cell (p := ⟨wo.heap.size, 2, none⟩) hV0).trans hv2; have hVk : wo.heap.size < w'.heap.size := Nat.lt_of_lt_of_le hV0 hB.size); clear hb ho))
      go_ret2
      exact ⟨rfl, (Below.thenn HHW.out (show Below w.heap.size w _ from (by repeat (first | exact Below.refl _ _ | assumption | apply Below.drew | apply below_drewN | (refine Below.alloc ?_ (by first | omega | (simp; done) | (simp; omega)) _) | (refine Below.setCell ?_ (by first | omega | (simp; done) | (simp; omega)) _)))) HHW.out.size)⟩
  · have hv : dfV rows x ct r = tnN rows x ct r (n - 1) - tnN rows x ct (-r) (n - 1) := by simp [dfV, hk, h.2.1]
    rw [hv]
    simp only [dfOk, Bool.and_eq_true] at hk
    obtain ⟨hl, hc, hu⟩ := upOk_iff.1 hk.1
    obtain ⟨r1, r2, r3⟩ := caseOk_iff.1 hc
    have L := lineOk_line hl
    have hlo := L.lo
    have hhi := L.hi
    have b1 := tn_in L r1 (c := ct) (by omega) (R := r) (by omega) (k := rows.length - 1) (by omega)
    have b2 := tn_in L r1 (c := ct) (by omega) (R := -r) (by omega) (k := rows.length - 1) (by omega)
    rw [up_yes hk.1, hk.1] at cu
    rw [dn_yes hk.2, hk.2] at cd
    rw [h.2.1] at b1 b2 cu cd hlo hhi
    have l1 := tnL_len rows x ct r n
    have l2 := tnL_len rows x ct (-r) n
    have e1 := Lib.hid (tnL_at (rows := rows) (w := x) (c := ct) (R := r) (show n - 1 < n by omega))
    have e2 := Lib.hid (tnL_at (rows := rows) (w := x) (c := ct) (R := -r) (show n - 1 < n by omega))
    generalize tnN rows x ct r (n - 1) = y at *
    generalize tnN rows x ct (-r) (n - 1) = z at *
    generalize tnL rows x ct r n = ys at *
    generalize tnL rows x ct (-r) n = zs at *
    have L1 := Lib.hid l1
    have L2 := Lib.hid l2
    have hn1 : ((n : Int) - 1).toNat = n - 1 := by omega
    have hn2 : 0 ≤ (n : Int) - 1 := by omega
    have i1 : (n : Int) - 1 < (ys.length : Int) := by omega
    have i2 : (n : Int) - 1 < (zs.length : Int) := by omega
    have u2 : IntKind.i64.wrap ((n : Int) - 1) = (n : Int) - 1 := IntWalk.i64_in _ (by omega)
    have j1 : n - 1 < ys.length := by omega
    have j2 : n - 1 < zs.length := by omega
    have E1 := Lib.hid (show ys[n - 1]? = some y by have := e1.out; (try rw [← l1] at this); (try rw [l1]); first | exact this | (rw [← l1]; exact this))
    have E2 := Lib.hid (show zs[n - 1]? = some z by have := e2.out; first | exact this | (rw [l2]; exact this))
    have u1 : IntKind.i64.wrap (y - z) = y - z := IntWalk.i64_in _ (by omega)
    have CU := Lib.hid cu
    have CD := Lib.hid cd
    clear cu cd hk hv hl hc hu L l1 l2 e1 e2
    go_enter Try.func53, Try.ntmps53
    go_wp2_with fail
    (have hWV : Below wo.heap.size wo (wo.alloc (.cells #[.int .i64 x, .int .i64 ct, .int .i64 r] 70)) := (Below.refl _ _).alloc (Nat.le_refl _) _; have hV0 : wo.heap.size < (wo.alloc (.cells #[.int .i64 x, .int .i64 ct, .int .i64 r] 70)).heap.size := (by simp); have hv0 : (wo.alloc (.cells #[.int .i64 x, .int .i64 ct, .int .i64 r] 70)).cell? ⟨wo.heap.size, 0, none⟩ = some (.int .i64 x) := (by rw [cell_of_row _ _ _ _ _ _ (heap_alloc_new wo _)]; rfl); have hv1 : (wo.alloc (.cells #[.int .i64 x, .int .i64 ct, .int .i64 r] 70)).cell? ⟨wo.heap.size, 1, none⟩ = some (.int .i64 ct) := (by rw [cell_of_row _ _ _ _ _ _ (heap_alloc_new wo _)]; rfl); have hv2 : (wo.alloc (.cells #[.int .i64 x, .int .i64 ct, .int .i64 r] 70)).cell? ⟨wo.heap.size, 2, none⟩ = some (.int .i64 r) := (by rw [cell_of_row _ _ _ _ _ _ (heap_alloc_new wo _)]; rfl); have HHW := Lib.hid hWV; have HV1 : Hid (wo.heap.size + 1 = (wo.alloc (.cells #[.int .i64 x, .int .i64 ct, .int .i64 r] 70)).heap.size) := (show _ = _ by simp); generalize wo.alloc (.cells #[.int .i64 x, .int .i64 ct, .int .i64 r] 70) = w at hWV HHW hV0 HV1 hv0 hv1 hv2 ⊢; have HH := Lib.hid (h.below hWV); have hB : Below w.heap.size w w := Below.refl _ _; have hwz : wo.heap.size ≤ w.heap.size := hWV.size; (try rw [HV1.out]); clear hWV)
    go_wp2_with (first | (go_at_call 57; refine (CU.out _ (by exact HH.out.below (by repeat (first | exact Below.refl _ _ | assumption | apply Below.drew | apply below_drewN | (refine Below.alloc ?_ (by first | omega | (simp; done) | (simp; omega)) _) | (refine Below.setCell ?_ (by first | omega | (simp; done) | (simp; omega)) _))))).mono ?_; rintro e w' ⟨A2, c2, rfl, ho, hb⟩; have hB : Below w.heap.size w w' := Below.thenn (by repeat (first | exact Below.refl _ _ | assumption | apply Below.drew | apply below_drewN | (refine Below.alloc ?_ (by first | omega | (simp; done) | (simp; omega)) _) | (refine Below.setCell ?_ (by first | omega | (simp; done) | (simp; omega)) _))) hb (by first | omega | (simp; done) | (simp; omega)); have O2 := Lib.hid ho; have hz : w.heap.size ≤ w'.heap.size := hB.size; (try (have hz1 : w.heap.size + 1 ≤ w'.heap.size := (by have h := hb.size; (try simp at h); omega))); have HQ := Lib.hid hb; obtain ⟨hc, hf⟩ := bcell hb; ((have b0 := (hB.cell (p := ⟨wo.heap.size, 0, none⟩) hV0).trans hv0; have b1 := (hB.cell (p := ⟨wo.heap.size, 1, none⟩) hV0).trans hv1; have b2 := (hB.cell (p := ⟨wo.heap.size, 2, none⟩) hV0).trans hv2; have hVk : wo.heap.size < w'.heap.size := Nat.lt_of_lt_of_le hV0 hB.size); obtain ⟨p1, o1, v1, rfl, hv1, hc1⟩ := O2.out.rd.at1 (k := n - 1) j1; rw [E1.out] at hv1; injection hv1 with hv1; subst hv1; have hp1 := World.block_lt_of_cell? _ _ hc1); clear hb ho) | (go_at_call 58; refine (CD.out _ (by exact HH.out.below (by repeat (first | exact Below.refl _ _ | assumption | apply Below.drew | apply below_drewN | (refine Below.alloc ?_ (by first | omega | (simp; done) | (simp; omega)) _) | (refine Below.setCell ?_ (by first | omega | (simp; done) | (simp; omega)) _))))).mono ?_; rintro e w' ⟨A3, c3, rfl, ho, hb⟩; have hB : Below w.heap.size w w' := Below.thenn (by repeat (first | exact Below.refl _ _ | assumption | apply Below.drew | apply below_drewN | (refine Below.alloc ?_ (by first | omega | (simp; done) | (simp; omega)) _) | (refine Below.setCell ?_ (by first | omega | (simp; done) | (simp; omega)) _))) hb (by first | omega | (simp; done) | (simp; omega)); have O3 := Lib.hid ho; have hz : w.heap.size ≤ w'.heap.size := hB.size; (try (have hz1 : w.heap.size + 1 ≤ w'.heap.size := (by have h := hb.size; (try simp at h); omega))); have HQ := Lib.hid hb; obtain ⟨hc, hf⟩ := bcell hb; ((have b0 := (hB.cell (p := ⟨wo.heap.size, 0, none⟩) hV0).trans hv0; have b1 := (hB.cell (p := ⟨wo.heap.size, 1, none⟩) hV0).trans hv1; have b2 := (hB.cell (p := ⟨wo.heap.size, 2, none⟩) hV0).trans hv2; have hVk : wo.heap.size < w'.heap.size := Nat.lt_of_lt_of_le hV0 hB.size); obtain ⟨p2, o2, v2, rfl, hv2, hc2⟩ := O3.out.rd.at1 (k := n - 1) j2; rw [E2.out] at hv2; injection hv2 with hv2; subst hv2; have hp2 := World.block_lt_of_cell? _ _ hc2; have hc3 := (hb.cell (p := ⟨p1, _, none⟩) hp1).trans hc1; have hp3 := Nat.lt_of_lt_of_le hp1 hb.size); clear hb ho))
    (refine wp_region_ext (by kernel_rfl) (by kernel_rfl) ?_; have hxe := ext_cells; (repeat (go_big_quiet_step (fail))); refine wpQuiet_nil ?_; intro w' hw'; obtain ⟨nx, hw''⟩ := hw'; have hbx := ext_out hw''; clear hw'' nx hxe; have hB : Below w.heap.size w w' := Below.thenn (by repeat (first | exact Below.refl _ _ | assumption | apply Below.drew | apply below_drewN | (refine Below.alloc ?_ (by first | omega | (simp; done) | (simp; omega)) _) | (refine Below.setCell ?_ (by first | omega | (simp; done) | (simp; omega)) _))) hbx (by first | omega | (simp; done) | (simp; omega)); have hz : w.heap.size ≤ w'.heap.size := hB.size; obtain ⟨hc, hf⟩ := bcell hbx; clear hbx)
    go_wp2_with fail
    go_ret2
    exact ⟨rfl, (Below.thenn HHW.out (show Below w.heap.size w _ from (by repeat (first | exact Below.refl _ _ | assumption | apply Below.drew | apply below_drewN | (refine Below.alloc ?_ (by first | omega | (simp; done) | (simp; omega)) _) | (refine Below.setCell ?_ (by first | omega | (simp; done) | (simp; omega)) _)))) HHW.out.size)⟩
set_option maxRecDepth 100000 in
set_option maxHeartbeats 2000000 in
theorem spec_DriveForce (A : Option Addr) (n c : Nat) (rows : List (List Int)) (x ct r : Int) (wo : World) (h : RdL wo A n rows) (hm : n ≤ 1048577) :
    Calls Try.prog 54 #[.slice A n c, .agg #[.int .i64 x, .int .i64 ct, .int .i64 r]] wo (Ret wo (.tuple #[.int .i64 (dfV rows x ct r), .bool (dfOk rows x ct r)])) := by
  have cu := fun w' (h' : RdL w' A n rows) => spec_UpTensions A n c rows x ct r w' h' hm
  have cd := fun w' (h' : RdL w' A n rows) => spec_DownTensions A n c rows x ct r w' h' hm
  rcases hk : dfOk rows x ct r with _ | _
  · have hv : dfV rows x ct r = 0 := by simp [dfV, hk]
    rw [hv]
    have hq : upOk rows x ct r = false ∨ upOk rows x ct r = true ∧ dnOk rows x ct r = false := by
      rcases h1 : upOk rows x ct r with _ | _
      · exact .inl rfl
      · right
        refine ⟨rfl, ?_⟩
        simpa [dfOk, h1] using hk
    generalize upV rows x ct r = zs at *
    generalize dnV rows x ct r = ys at *
    generalize upOk rows x ct r = a at *
    generalize dnOk rows x ct r = b at *
    have CU := Lib.hid cu
    have CD := Lib.hid cd
    clear cu cd hk hv
    rcases hq with rfl | ⟨rfl, rfl⟩
    all_goals
      go_enter Try.func54, Try.ntmps54
      go_wp2_with fail
      (have hWV : Below wo.heap.size wo (wo.alloc (.cells #[.int .i64 x, .int .i64 ct, .int .i64 r] 70)) := (Below.refl _ _).alloc (Nat.le_refl _) _; have hV0 : wo.heap.size < (wo.alloc (.cells #[.int .i64 x, .int .i64 ct, .int .i64 r] 70)).heap.size := (by simp); have hv0 : (wo.alloc (.cells #[.int .i64 x, .int .i64 ct, .int .i64 r] 70)).cell? ⟨wo.heap.size, 0, none⟩ = some (.int .i64 x) := (by rw [cell_of_row _ _ _ _ _ _ (heap_alloc_new wo _)]; rfl); have hv1 : (wo.alloc (.cells #[.int .i64 x, .int .i64 ct, .int .i64 r] 70)).cell? ⟨wo.heap.size, 1, none⟩ = some (.int .i64 ct) := (by rw [cell_of_row _ _ _ _ _ _ (heap_alloc_new wo _)]; rfl); have hv2 : (wo.alloc (.cells #[.int .i64 x, .int .i64 ct, .int .i64 r] 70)).cell? ⟨wo.heap.size, 2, none⟩ = some (.int .i64 r) := (by rw [cell_of_row _ _ _ _ _ _ (heap_alloc_new wo _)]; rfl); have HHW := Lib.hid hWV; have HV1 : Hid (wo.heap.size + 1 = (wo.alloc (.cells #[.int .i64 x, .int .i64 ct, .int .i64 r] 70)).heap.size) := (show _ = _ by simp); generalize wo.alloc (.cells #[.int .i64 x, .int .i64 ct, .int .i64 r] 70) = w at hWV HHW hV0 HV1 hv0 hv1 hv2 ⊢; have HH := Lib.hid (h.below hWV); have hB : Below w.heap.size w w := Below.refl _ _; have hwz : wo.heap.size ≤ w.heap.size := hWV.size; (try rw [HV1.out]); clear hWV)
      go_wp2_with (first | (go_at_call 64; refine (CU.out _ (by exact HH.out.below (by repeat (first | exact Below.refl _ _ | assumption | apply Below.drew | apply below_drewN | (refine Below.alloc ?_ (by first | omega | (simp; done) | (simp; omega)) _) | (refine Below.setCell ?_ (by first | omega | (simp; done) | (simp; omega)) _))))).mono ?_; rintro e w' ⟨A2, c2, rfl, ho, hb⟩; have hB : Below w.heap.size w w' := Below.thenn (by repeat (first | exact Below.refl _ _ | assumption | apply Below.drew | apply below_drewN | (refine Below.alloc ?_ (by first | omega | (simp; done) | (simp; omega)) _) | (refine Below.setCell ?_ (by first | omega | (simp; done) | (simp; omega)) _))) hb (by first | omega | (simp; done) | (simp; omega)); have O2 := Lib.hid ho; have hz : w.heap.size ≤ w'.heap.size := hB.size; (try (have hz1 : w.heap.size + 1 ≤ w'.heap.size := (by have h := hb.size; (try simp at h); omega))); have HQ := Lib.hid hb; obtain ⟨hc, hf⟩ := bcell hb; (have b0 := (hB.cell (p := ⟨wo.heap.size, 0, none⟩) hV0).trans hv0; have b1 := (hB.cell (p := ⟨wo.heap.size, 1, none⟩) hV0).trans hv1; have b2 := (hB.cell (p := ⟨wo.heap.size, 2, none⟩) hV0).trans hv2; have hVk : wo.heap.size < w'.heap.size := Nat.lt_of_lt_of_le hV0 hB.size); clear hb ho) | (go_at_call 66; refine (CD.out _ (by exact HH.out.below (by repeat (first | exact Below.refl _ _ | assumption | apply Below.drew | apply below_drewN | (refine Below.alloc ?_ (by first | omega | (simp; done) | (simp; omega)) _) | (refine Below.setCell ?_ (by first | omega | (simp; done) | (simp; omega)) _))))).mono ?_; rintro e w' ⟨A3, c3, rfl, ho, hb⟩; have hB : Below w.heap.size w w' := Below.thenn (by repeat (first | exact Below.refl _ _ | assumption | apply Below.drew | apply below_drewN | (refine Below.alloc ?_ (by first | omega | (simp; done) | (simp; omega)) _) | (refine Below.setCell ?_ (by first | omega | (simp; done) | (simp; omega)) _))) hb (by first | omega | (simp; done) | (simp; omega)); have O3 := Lib.hid ho; have hz : w.heap.size ≤ w'.heap.size := hB.size; (try (have hz1 : w.heap.size + 1 ≤ w'.heap.size := (by have h := hb.size; (try simp at h); omega))); have HQ := Lib.hid hb; obtain ⟨hc, hf⟩ := bcell hb; (have b0 := (hB.cell (p := ⟨wo.heap.size, 0, none⟩) hV0).trans hv0; have b1 := (hB.cell (p := ⟨wo.heap.size, 1, none⟩) hV0).trans hv1; have b2 := (hB.cell (p := ⟨wo.heap.size, 2, none⟩) hV0).trans hv2; have hVk : wo.heap.size < w'.heap.size := Nat.lt_of_lt_of_le hV0 hB.size); clear hb ho))
      go_ret2
      exact ⟨rfl, (Below.thenn HHW.out (show Below w.heap.size w _ from (by repeat (first | exact Below.refl _ _ | assumption | apply Below.drew | apply below_drewN | (refine Below.alloc ?_ (by first | omega | (simp; done) | (simp; omega)) _) | (refine Below.setCell ?_ (by first | omega | (simp; done) | (simp; omega)) _)))) HHW.out.size)⟩
  · have hv : dfV rows x ct r = tnN rows x ct r (n - 1) - tnN rows x ct (-r) (n - 1) := by simp [dfV, hk, h.2.1]
    rw [hv]
    simp only [dfOk, Bool.and_eq_true] at hk
    obtain ⟨hl, hc, hu⟩ := upOk_iff.1 hk.1
    obtain ⟨r1, r2, r3⟩ := caseOk_iff.1 hc
    have L := lineOk_line hl
    have hlo := L.lo
    have hhi := L.hi
    have b1 := tn_in L r1 (c := ct) (by omega) (R := r) (by omega) (k := rows.length - 1) (by omega)
    have b2 := tn_in L r1 (c := ct) (by omega) (R := -r) (by omega) (k := rows.length - 1) (by omega)
    rw [up_yes hk.1, hk.1] at cu
    rw [dn_yes hk.2, hk.2] at cd
    rw [h.2.1] at b1 b2 cu cd hlo hhi
    have l1 := tnL_len rows x ct r n
    have l2 := tnL_len rows x ct (-r) n
    have e1 := Lib.hid (tnL_at (rows := rows) (w := x) (c := ct) (R := r) (show n - 1 < n by omega))
    have e2 := Lib.hid (tnL_at (rows := rows) (w := x) (c := ct) (R := -r) (show n - 1 < n by omega))
    generalize tnN rows x ct r (n - 1) = y at *
    generalize tnN rows x ct (-r) (n - 1) = z at *
    generalize tnL rows x ct r n = ys at *
    generalize tnL rows x ct (-r) n = zs at *
    have L1 := Lib.hid l1
    have L2 := Lib.hid l2
    have hn1 : ((ys.length : Int) - 1).toNat = ys.length - 1 := by omega
    have hn2 : 0 ≤ (ys.length : Int) - 1 := by omega
    have hn3 : ((zs.length : Int) - 1).toNat = zs.length - 1 := by omega
    have hn4 : 0 ≤ (zs.length : Int) - 1 := by omega
    have u2 : IntKind.i64.wrap ((ys.length : Int) - 1) = (ys.length : Int) - 1 := IntWalk.i64_in _ (by omega)
    have u3 : IntKind.i64.wrap ((zs.length : Int) - 1) = (zs.length : Int) - 1 := IntWalk.i64_in _ (by omega)
    have j1 : ys.length - 1 < ys.length := by omega
    have j2 : zs.length - 1 < zs.length := by omega
    have E1 := Lib.hid (show ys[ys.length - 1]? = some y by have := e1.out; (try rw [← l1] at this); (try rw [l1]); first | exact this | (rw [← l1]; exact this))
    have E2 := Lib.hid (show zs[zs.length - 1]? = some z by have := e2.out; first | exact this | (rw [l2]; exact this))
    have u1 : IntKind.i64.wrap (y - z) = y - z := IntWalk.i64_in _ (by omega)
    have CU := Lib.hid cu
    have CD := Lib.hid cd
    clear cu cd hk hv hl hc hu L l1 l2 e1 e2
    go_enter Try.func54, Try.ntmps54
    go_wp2_with fail
    (have hWV : Below wo.heap.size wo (wo.alloc (.cells #[.int .i64 x, .int .i64 ct, .int .i64 r] 70)) := (Below.refl _ _).alloc (Nat.le_refl _) _; have hV0 : wo.heap.size < (wo.alloc (.cells #[.int .i64 x, .int .i64 ct, .int .i64 r] 70)).heap.size := (by simp); have hv0 : (wo.alloc (.cells #[.int .i64 x, .int .i64 ct, .int .i64 r] 70)).cell? ⟨wo.heap.size, 0, none⟩ = some (.int .i64 x) := (by rw [cell_of_row _ _ _ _ _ _ (heap_alloc_new wo _)]; rfl); have hv1 : (wo.alloc (.cells #[.int .i64 x, .int .i64 ct, .int .i64 r] 70)).cell? ⟨wo.heap.size, 1, none⟩ = some (.int .i64 ct) := (by rw [cell_of_row _ _ _ _ _ _ (heap_alloc_new wo _)]; rfl); have hv2 : (wo.alloc (.cells #[.int .i64 x, .int .i64 ct, .int .i64 r] 70)).cell? ⟨wo.heap.size, 2, none⟩ = some (.int .i64 r) := (by rw [cell_of_row _ _ _ _ _ _ (heap_alloc_new wo _)]; rfl); have HHW := Lib.hid hWV; have HV1 : Hid (wo.heap.size + 1 = (wo.alloc (.cells #[.int .i64 x, .int .i64 ct, .int .i64 r] 70)).heap.size) := (show _ = _ by simp); generalize wo.alloc (.cells #[.int .i64 x, .int .i64 ct, .int .i64 r] 70) = w at hWV HHW hV0 HV1 hv0 hv1 hv2 ⊢; have HH := Lib.hid (h.below hWV); have hB : Below w.heap.size w w := Below.refl _ _; have hwz : wo.heap.size ≤ w.heap.size := hWV.size; (try rw [HV1.out]); clear hWV)
    go_wp2_with (first | (go_at_call 64; refine (CU.out _ (by exact HH.out.below (by repeat (first | exact Below.refl _ _ | assumption | apply Below.drew | apply below_drewN | (refine Below.alloc ?_ (by first | omega | (simp; done) | (simp; omega)) _) | (refine Below.setCell ?_ (by first | omega | (simp; done) | (simp; omega)) _))))).mono ?_; rintro e w' ⟨A2, c2, rfl, ho, hb⟩; have hB : Below w.heap.size w w' := Below.thenn (by repeat (first | exact Below.refl _ _ | assumption | apply Below.drew | apply below_drewN | (refine Below.alloc ?_ (by first | omega | (simp; done) | (simp; omega)) _) | (refine Below.setCell ?_ (by first | omega | (simp; done) | (simp; omega)) _))) hb (by first | omega | (simp; done) | (simp; omega)); have O2 := Lib.hid ho; have hz : w.heap.size ≤ w'.heap.size := hB.size; (try (have hz1 : w.heap.size + 1 ≤ w'.heap.size := (by have h := hb.size; (try simp at h); omega))); have HQ := Lib.hid hb; obtain ⟨hc, hf⟩ := bcell hb; ((have b0 := (hB.cell (p := ⟨wo.heap.size, 0, none⟩) hV0).trans hv0; have b1 := (hB.cell (p := ⟨wo.heap.size, 1, none⟩) hV0).trans hv1; have b2 := (hB.cell (p := ⟨wo.heap.size, 2, none⟩) hV0).trans hv2; have hVk : wo.heap.size < w'.heap.size := Nat.lt_of_lt_of_le hV0 hB.size); obtain ⟨p1, o1, v1, rfl, hv1, hc1⟩ := O2.out.rd.at1 (k := ys.length - 1) j1; rw [E1.out] at hv1; injection hv1 with hv1; subst hv1; have hp1 := World.block_lt_of_cell? _ _ hc1); clear hb ho) | (go_at_call 66; refine (CD.out _ (by exact HH.out.below (by repeat (first | exact Below.refl _ _ | assumption | apply Below.drew | apply below_drewN | (refine Below.alloc ?_ (by first | omega | (simp; done) | (simp; omega)) _) | (refine Below.setCell ?_ (by first | omega | (simp; done) | (simp; omega)) _))))).mono ?_; rintro e w' ⟨A3, c3, rfl, ho, hb⟩; have hB : Below w.heap.size w w' := Below.thenn (by repeat (first | exact Below.refl _ _ | assumption | apply Below.drew | apply below_drewN | (refine Below.alloc ?_ (by first | omega | (simp; done) | (simp; omega)) _) | (refine Below.setCell ?_ (by first | omega | (simp; done) | (simp; omega)) _))) hb (by first | omega | (simp; done) | (simp; omega)); have O3 := Lib.hid ho; have hz : w.heap.size ≤ w'.heap.size := hB.size; (try (have hz1 : w.heap.size + 1 ≤ w'.heap.size := (by have h := hb.size; (try simp at h); omega))); have HQ := Lib.hid hb; obtain ⟨hc, hf⟩ := bcell hb; ((have b0 := (hB.cell (p := ⟨wo.heap.size, 0, none⟩) hV0).trans hv0; have b1 := (hB.cell (p := ⟨wo.heap.size, 1, none⟩) hV0).trans hv1; have b2 := (hB.cell (p := ⟨wo.heap.size, 2, none⟩) hV0).trans hv2; have hVk : wo.heap.size < w'.heap.size := Nat.lt_of_lt_of_le hV0 hB.size); obtain ⟨p2, o2, v2, rfl, hv2, hc2⟩ := O3.out.rd.at1 (k := zs.length - 1) j2; rw [E2.out] at hv2; injection hv2 with hv2; subst hv2; have hp2 := World.block_lt_of_cell? _ _ hc2; have hc3 := (hb.cell (p := ⟨p1, _, none⟩) hp1).trans hc1; have hp3 := Nat.lt_of_lt_of_le hp1 hb.size); clear hb ho))
    (refine wp_region_ext (by kernel_rfl) (by kernel_rfl) ?_; have hxe := ext_cells; (repeat (go_big_quiet_step (fail))); refine wpQuiet_nil ?_; intro w' hw'; obtain ⟨nx, hw''⟩ := hw'; have hbx := ext_out hw''; clear hw'' nx hxe; have hB : Below w.heap.size w w' := Below.thenn (by repeat (first | exact Below.refl _ _ | assumption | apply Below.drew | apply below_drewN | (refine Below.alloc ?_ (by first | omega | (simp; done) | (simp; omega)) _) | (refine Below.setCell ?_ (by first | omega | (simp; done) | (simp; omega)) _))) hbx (by first | omega | (simp; done) | (simp; omega)); have hz : w.heap.size ≤ w'.heap.size := hB.size; obtain ⟨hc, hf⟩ := bcell hbx; clear hbx)
    go_wp2_with fail
    go_ret2
    exact ⟨rfl, (Below.thenn HHW.out (show Below w.heap.size w _ from (by repeat (first | exact Below.refl _ _ | assumption | apply Below.drew | apply below_drewN | (refine Below.alloc ?_ (by first | omega | (simp; done) | (simp; omega)) _) | (refine Below.setCell ?_ (by first | omega | (simp; done) | (simp; omega)) _)))) HHW.out.size)⟩
end Go.Proofs.Ytjfmicemnoglkaa
