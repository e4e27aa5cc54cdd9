/- The greatest tension. -/
import Derived.Test.YtjfmicemnoglkaaTenE
namespace Go.Proofs.Ytjfmicemnoglkaa
open Go.RowKit
set_option linter.unusedVariables false
set_option linter.unusedSimpArgs false

theorem gt_one (f : Nat → Int) : gtI f 1 = 0 := by simp [gtI]
theorem gt_take {f : Nat → Int} {k : Nat} (h : f (gtI f k) < f k) : gtI f (k + 1) = k := by simp [gtI, h]
theorem gt_keep {f : Nat → Int} {k : Nat} (h : ¬ f (gtI f k) < f k) : gtI f (k + 1) = gtI f k := by simp [gtI]; intro h2; omega
set_option maxRecDepth 100000 in
set_option maxHeartbeats 4000000 in
theorem impl_GreatestTension (A : Option Addr) (n c : Nat) (rows : List (List Int)) (x ct r : Int) (wo : World) (h : RdL wo A n rows) (hm : n ≤ 1048577) :
    Calls Try.prog 59 #[.slice A n c, .agg #[.int .i64 x, .int .i64 ct, .int .i64 r]] wo (Ret wo (.tuple #[.int .i64 (gtA rows x ct r), .int .i64 (gtV rows x ct r), .bool (upOk rows x ct r)])) := by
  have cu := fun w' (h' : RdL w' A n rows) => impl_upTensions A n c rows x ct r w' h' hm
  rcases hk : upOk rows x ct r with _ | _
  · have hv : gtA rows x ct r = 0 ∧ gtV rows x ct r = 0 := by simp [gtA, gtV, hk]
    rw [hv.1, hv.2]
    rw [hk] at cu
    generalize upV rows x ct r = zs at *
    have CU := Lib.hid cu
    clear cu hk hv
    go_enter Try.func59, Try.ntmps59
    go_wp2_with fail
    (have hWV : Below wo.heap.size wo (wo.alloc (.cells #[.int .i64 x, .int .i64 ct, .int .i64 r] 70)) := (Below.refl _ _).alloc (Nat.le_refl _) _; have hV0 : wo.heap.size < (wo.alloc (.cells #[.int .i64 x, .int .i64 ct, .int .i64 r] 70)).heap.size := (by simp); have hv0 : (wo.alloc (.cells #[.int .i64 x, .int .i64 ct, .int .i64 r] 70)).cell? ⟨wo.heap.size, 0, none⟩ = some (.int .i64 x) := (by rw [cell_of_row _ _ _ _ _ _ (heap_alloc_new wo _)]; rfl); have hv1 : (wo.alloc (.cells #[.int .i64 x, .int .i64 ct, .int .i64 r] 70)).cell? ⟨wo.heap.size, 1, none⟩ = some (.int .i64 ct) := (by rw [cell_of_row _ _ _ _ _ _ (heap_alloc_new wo _)]; rfl); have hv2 : (wo.alloc (.cells #[.int .i64 x, .int .i64 ct, .int .i64 r] 70)).cell? ⟨wo.heap.size, 2, none⟩ = some (.int .i64 r) := (by rw [cell_of_row _ _ _ _ _ _ (heap_alloc_new wo _)]; rfl); have HHW := Lib.hid hWV; have HV1 : Hid (wo.heap.size + 1 = (wo.alloc (.cells #[.int .i64 x, .int .i64 ct, .int .i64 r] 70)).heap.size) := (show _ = _ by simp); generalize wo.alloc (.cells #[.int .i64 x, .int .i64 ct, .int .i64 r] 70) = w at hWV HHW hV0 HV1 hv0 hv1 hv2 ⊢; have HH := Lib.hid (h.below hWV); have hB : Below w.heap.size w w := Below.refl _ _; have hwz : wo.heap.size ≤ w.heap.size := hWV.size; (try rw [HV1.out]); clear hWV)
    go_wp2_with (go_at_call 127; refine (CU.out _ (by exact HH.out.below (by repeat (first | exact Below.refl _ _ | assumption | apply Below.drew | apply below_drewN | (refine Below.alloc ?_ (by first | omega | (simp; done) | (simp; omega)) _) | (refine Below.setCell ?_ (by first | omega | (simp; done) | (simp; omega)) _))))).mono ?_; rintro e w' ⟨A2, c2, rfl, ho, hb⟩; have hB : Below w.heap.size w w' := Below.thenn (by repeat (first | exact Below.refl _ _ | assumption | apply Below.drew | apply below_drewN | (refine Below.alloc ?_ (by first | omega | (simp; done) | (simp; omega)) _) | (refine Below.setCell ?_ (by first | omega | (simp; done) | (simp; omega)) _))) hb (by first | omega | (simp; done) | (simp; omega)); have O2 := Lib.hid ho; have hz : w.heap.size ≤ w'.heap.size := hB.size; (try (have hz1 : w.heap.size + 1 ≤ w'.heap.size := (by have h := hb.size; (try simp at h); omega))); have HQ := Lib.hid hb; obtain ⟨hc, hf⟩ := bcell hb; (have b0 := (hB.cell (p := ⟨wo.heap.size, 0, none⟩) hV0).trans hv0; have b1 := (hB.cell (p := ⟨wo.heap.size, 1, none⟩) hV0).trans hv1; have b2 := (hB.cell (p := ⟨wo.heap.size, 2, none⟩) hV0).trans hv2; have hVk : wo.heap.size < w'.heap.size := Nat.lt_of_lt_of_le hV0 hB.size); clear hb ho)
    go_ret3
    exact ⟨rfl, (Below.thenn HHW.out (show Below w.heap.size w _ from (by repeat (first | exact Below.refl _ _ | assumption | apply Below.drew | apply below_drewN | (refine Below.alloc ?_ (by first | omega | (simp; done) | (simp; omega)) _) | (refine Below.setCell ?_ (by first | omega | (simp; done) | (simp; omega)) _)))) HHW.out.size)⟩
  · have hv : gtA rows x ct r = (gtI (tnN rows x ct r) n : Int) ∧ gtV rows x ct r = tnN rows x ct r (gtI (tnN rows x ct r) n) := by simp [gtA, gtV, hk, h.2.1]
    rw [hv.1, hv.2]
    obtain ⟨hl, hc, hu⟩ := upOk_iff.1 hk
    have L := lineOk_line hl
    have hlo := L.lo
    have hhi := L.hi
    rw [up_yes hk, hk] at cu
    rw [h.2.1] at cu hlo hhi
    have l1 := tnL_len rows x ct r n
    have ez := Lib.hid (fun (j : Nat) (hj : j < n) => tnL_at (rows := rows) (w := x) (c := ct) (R := r) hj)
    generalize tnN rows x ct r = f at *
    generalize tnL rows x ct r n = zs at *
    have L1 := Lib.hid l1
    have hzl : zs.length ≤ 8 := by omega
    have CU := Lib.hid cu
    clear cu hk hv hl hc hu L
    obtain rfl : n = zs.length := l1.symm
    clear l1 L1
    generalize hzn : zs.length = n at *
    have HZN := Lib.hid hzn
    have CU2 : Hid (∀ w', RdL w' A n rows → Calls Try.prog 127 #[.slice A n c, .agg #[.int .i64 x, .int .i64 ct, .int .i64 r]] w' (fun e w'' => ∃ A' c', e = .returned (.tuple #[.slice A' n c', .bool true]) ∧ Ow w'' w'.heap.size (.slice A' n c') zs ∧ Below w'.heap.size w' w'')) := Lib.hid (fun w' h' => (CU.out w' h').mono (fun e w'' he => by unfold RetSB at he; rw [HZN.out] at he; exact he))
    clear hzn CU
    go_enter Try.func59, Try.ntmps59
    go_wp2_with fail
    (have hWV : Below wo.heap.size wo (wo.alloc (.cells #[.int .i64 x, .int .i64 ct, .int .i64 r] 70)) := (Below.refl _ _).alloc (Nat.le_refl _) _; have hV0 : wo.heap.size < (wo.alloc (.cells #[.int .i64 x, .int .i64 ct, .int .i64 r] 70)).heap.size := (by simp); have hv0 : (wo.alloc (.cells #[.int .i64 x, .int .i64 ct, .int .i64 r] 70)).cell? ⟨wo.heap.size, 0, none⟩ = some (.int .i64 x) := (by rw [cell_of_row _ _ _ _ _ _ (heap_alloc_new wo _)]; rfl); have hv1 : (wo.alloc (.cells #[.int .i64 x, .int .i64 ct, .int .i64 r] 70)).cell? ⟨wo.heap.size, 1, none⟩ = some (.int .i64 ct) := (by rw [cell_of_row _ _ _ _ _ _ (heap_alloc_new wo _)]; rfl); have hv2 : (wo.alloc (.cells #[.int .i64 x, .int .i64 ct, .int .i64 r] 70)).cell? ⟨wo.heap.size, 2, none⟩ = some (.int .i64 r) := (by rw [cell_of_row _ _ _ _ _ _ (heap_alloc_new wo _)]; rfl); have HHW := Lib.hid hWV; have HV1 : Hid (wo.heap.size + 1 = (wo.alloc (.cells #[.int .i64 x, .int .i64 ct, .int .i64 r] 70)).heap.size) := (show _ = _ by simp); generalize wo.alloc (.cells #[.int .i64 x, .int .i64 ct, .int .i64 r] 70) = w at hWV HHW hV0 HV1 hv0 hv1 hv2 ⊢; have HH := Lib.hid (h.below hWV); have hB : Below w.heap.size w w := Below.refl _ _; have hwz : wo.heap.size ≤ w.heap.size := hWV.size; (try rw [HV1.out]); clear hWV)
    go_wp2_with (go_at_call 127; refine (CU2.out _ (by exact HH.out.below (by repeat (first | exact Below.refl _ _ | assumption | apply Below.drew | apply below_drewN | (refine Below.alloc ?_ (by first | omega | (simp; done) | (simp; omega)) _) | (refine Below.setCell ?_ (by first | omega | (simp; done) | (simp; omega)) _))))).mono ?_; rintro e w' ⟨A2, c2, rfl, ho, hb⟩; have hB : Below w.heap.size w w' := Below.thenn (by repeat (first | exact Below.refl _ _ | assumption | apply Below.drew | apply below_drewN | (refine Below.alloc ?_ (by first | omega | (simp; done) | (simp; omega)) _) | (refine Below.setCell ?_ (by first | omega | (simp; done) | (simp; omega)) _))) hb (by first | omega | (simp; done) | (simp; omega)); have O2 := Lib.hid ho; have hz : w.heap.size ≤ w'.heap.size := hB.size; (try (have hz1 : w.heap.size + 1 ≤ w'.heap.size := (by have h := hb.size; (try simp at h); omega))); have HQ := Lib.hid hb; obtain ⟨hc, hf⟩ := bcell hb; (have b0 := (hB.cell (p := ⟨wo.heap.size, 0, none⟩) hV0).trans hv0; have b1 := (hB.cell (p := ⟨wo.heap.size, 1, none⟩) hV0).trans hv1; have b2 := (hB.cell (p := ⟨wo.heap.size, 2, none⟩) hV0).trans hv2; have hVk : wo.heap.size < w'.heap.size := Nat.lt_of_lt_of_le hV0 hB.size); clear hb ho)
    obtain ⟨p1, o1, v1, rfl, _, hc1⟩ := O2.out.rd.at1 (k := 0) (by omega)
    have hp1 : p1 < w'.heap.size := World.block_lt_of_cell? _ _ hc1
    clear hc1
    have CE : Hid (∀ j : Nat, j < n → w'.cell? ⟨p1, o1 + j, none⟩ = some (.int .i64 (f j))) := Lib.hid (fun (j : Nat) (hj : j < n) => by
      obtain ⟨p2, o2, v2, e2, hv2, hc2⟩ := O2.out.rd.at1 (k := j) hj
      injection e2 with e2
      injection e2 with e3 e4
      subst e3 e4
      rw [ez.out j hj] at hv2
      injection hv2 with hv2
      rw [← hv2] at hc2
      exact hc2)
    go_loopg [9, 22] n (fun gg best i wr => ∃ (k g : Nat), k ≤ n ∧ n ≤ k + gg ∧ i = .int .i64 k ∧ best = .int .i64 g ∧ g < n ∧ Below w'.heap.size w' wr ∧ Hid (gtI f k = g))
    case atStart => exact ⟨0, 0, by omega, by omega, rfl, rfl, by omega, Below.refl _ _, rfl⟩
    case round =>
      obtain ⟨k, g, hk1, hk2, rfl, rfl, hg, hBr, HG⟩ := hrel
      have hpr : p1 < wr.heap.size := Nat.lt_of_lt_of_le hp1 hBr.size
      have hBw : Below w.heap.size w wr := Below.thenn hB hBr hB.size
      have hwr : w.heap.size ≤ wr.heap.size := hBw.size
      by_cases hlt : k < n
      · have cg := (hBr.cell (p := ⟨p1, _, none⟩) hp1).trans (CE.out g hg)
        have ck := (hBr.cell (p := ⟨p1, _, none⟩) hp1).trans (CE.out k hlt)
        have HT := Lib.hid (fun hh => gt_take (f := f) (k := k) hh)
        have HK := Lib.hid (fun hh => gt_keep (f := f) (k := k) hh)
        obtain ⟨y, hy⟩ : ∃ y, f g = y := ⟨_, rfl⟩
        obtain ⟨z, hz'⟩ : ∃ z, f k = z := ⟨_, rfl⟩
        rw [hy] at cg
        rw [hz'] at ck
        have FG := Lib.hid hy
        have FK := Lib.hid hz'
        clear hy hz' hc hf
        by_cases ht : y < z
        · have hd : decide (y < z) = true := decide_eq_true ht
          go_wp2_with fail
          go_roundg (n - (k + 1))
          case measure => omega
          case rel => exact ⟨k + 1, k, by omega, by omega, by go_num, rfl, by omega, hBr, HT.out (by rw [HG.out, FG.out, FK.out]; exact ht)⟩
        · have hd : decide (y < z) = false := decide_eq_false ht
          go_wp2_with fail
          go_roundg (n - (k + 1))
          case measure => omega
          case rel => exact ⟨k + 1, g, by omega, by omega, by go_num, rfl, by omega, hBr, (HK.out (by rw [HG.out, FG.out, FK.out]; exact ht)).trans HG.out⟩
      · have hkn : k = n := by omega
        have hgn := HG.out
        rw [hkn] at hgn
        have HGN := Lib.hid hgn
        have cg := (hBr.cell (p := ⟨p1, _, none⟩) hp1).trans (CE.out g hg)
        obtain ⟨y, hy⟩ : ∃ y, f g = y := ⟨_, rfl⟩
        rw [hy] at cg
        have FG := Lib.hid hy
        clear hy hgn hkn hc hf
        go_wp2_with fail
        (refine wp_region_ext (by kernel_rfl) (by kernel_rfl) ?_; have hxe := ext_cells; (repeat (go_big_quiet_step (fail))); refine wpQuiet_nil ?_; intro w' hw'; obtain ⟨nx, hw''⟩ := hw'; have hbx := ext_out hw''; clear hw'' nx hxe; have hB : Below w.heap.size w w' := Below.thenn (by repeat (first | exact Below.refl _ _ | assumption | apply Below.drew | apply below_drewN | (refine Below.alloc ?_ (by first | omega | (simp; done) | (simp; omega)) _) | (refine Below.setCell ?_ (by first | omega | (simp; done) | (simp; omega)) _))) hbx (by first | omega | (simp; done) | (simp; omega)); have hz : w.heap.size ≤ w'.heap.size := hB.size; obtain ⟨hc, hf⟩ := bcell hbx; clear hbx)
        go_wp2_with fail
        go_ret3
        exact ⟨Eq.trans (b := Ending.returned (.tuple #[.int .i64 (g : Int), .int .i64 y, .bool true])) rfl (by rw [HGN.out, FG.out]), (Below.thenn HHW.out (show Below w.heap.size w _ from (by repeat (first | exact Below.refl _ _ | assumption | apply Below.drew | apply below_drewN | (refine Below.alloc ?_ (by first | omega | (simp; done) | (simp; omega)) _) | (refine Below.setCell ?_ (by first | omega | (simp; done) | (simp; omega)) _)))) HHW.out.size)⟩
set_option maxRecDepth 100000 in
set_option maxHeartbeats 4000000 in
theorem spec_GreatestTension (A : Option Addr) (n c : Nat) (rows : List (List Int)) (x ct r : Int) (wo : World) (h : RdL wo A n rows) (hm : n ≤ 1048577) :
    Calls Try.prog 74 #[.slice A n c, .agg #[.int .i64 x, .int .i64 ct, .int .i64 r]] wo (Ret wo (.tuple #[.int .i64 (gtA rows x ct r), .int .i64 (gtV rows x ct r), .bool (upOk rows x ct r)])) := by
  have cu := fun w' (h' : RdL w' A n rows) => spec_UpTensions A n c rows x ct r w' h' hm
  rcases hk : upOk rows x ct r with _ | _
  · have hv : gtA rows x ct r = 0 ∧ gtV rows x ct r = 0 := by simp [gtA, gtV, hk]
    rw [hv.1, hv.2]
    rw [hk] at cu
    generalize upV rows x ct r = zs at *
    have CU := Lib.hid cu
    clear cu hk hv
    go_enter Try.func74, Try.ntmps74
    go_wp2_with fail
    (have hWV : Below wo.heap.size wo (wo.alloc (.cells #[.int .i64 x, .int .i64 ct, .int .i64 r] 70)) := (Below.refl _ _).alloc (Nat.le_refl _) _; have hV0 : wo.heap.size < (wo.alloc (.cells #[.int .i64 x, .int .i64 ct, .int .i64 r] 70)).heap.size := (by simp); have hv0 : (wo.alloc (.cells #[.int .i64 x, .int .i64 ct, .int .i64 r] 70)).cell? ⟨wo.heap.size, 0, none⟩ = some (.int .i64 x) := (by rw [cell_of_row _ _ _ _ _ _ (heap_alloc_new wo _)]; rfl); have hv1 : (wo.alloc (.cells #[.int .i64 x, .int .i64 ct, .int .i64 r] 70)).cell? ⟨wo.heap.size, 1, none⟩ = some (.int .i64 ct) := (by rw [cell_of_row _ _ _ _ _ _ (heap_alloc_new wo _)]; rfl); have hv2 : (wo.alloc (.cells #[.int .i64 x, .int .i64 ct, .int .i64 r] 70)).cell? ⟨wo.heap.size, 2, none⟩ = some (.int .i64 r) := (by rw [cell_of_row _ _ _ _ _ _ (heap_alloc_new wo _)]; rfl); have HHW := Lib.hid hWV; have HV1 : Hid (wo.heap.size + 1 = (wo.alloc (.cells #[.int .i64 x, .int .i64 ct, .int .i64 r] 70)).heap.size) := (show _ = _ by simp); generalize wo.alloc (.cells #[.int .i64 x, .int .i64 ct, .int .i64 r] 70) = w at hWV HHW hV0 HV1 hv0 hv1 hv2 ⊢; have HH := Lib.hid (h.below hWV); have hB : Below w.heap.size w w := Below.refl _ _; have hwz : wo.heap.size ≤ w.heap.size := hWV.size; (try rw [HV1.out]); clear hWV)
    go_wp2_with (go_at_call 64; refine (CU.out _ (by exact HH.out.below (by repeat (first | exact Below.refl _ _ | assumption | apply Below.drew | apply below_drewN | (refine Below.alloc ?_ (by first | omega | (simp; done) | (simp; omega)) _) | (refine Below.setCell ?_ (by first | omega | (simp; done) | (simp; omega)) _))))).mono ?_; rintro e w' ⟨A2, c2, rfl, ho, hb⟩; have hB : Below w.heap.size w w' := Below.thenn (by repeat (first | exact Below.refl _ _ | assumption | apply Below.drew | apply below_drewN | (refine Below.alloc ?_ (by first | omega | (simp; done) | (simp; omega)) _) | (refine Below.setCell ?_ (by first | omega | (simp; done) | (simp; omega)) _))) hb (by first | omega | (simp; done) | (simp; omega)); have O2 := Lib.hid ho; have hz : w.heap.size ≤ w'.heap.size := hB.size; (try (have hz1 : w.heap.size + 1 ≤ w'.heap.size := (by have h := hb.size; (try simp at h); omega))); have HQ := Lib.hid hb; obtain ⟨hc, hf⟩ := bcell hb; (have b0 := (hB.cell (p := ⟨wo.heap.size, 0, none⟩) hV0).trans hv0; have b1 := (hB.cell (p := ⟨wo.heap.size, 1, none⟩) hV0).trans hv1; have b2 := (hB.cell (p := ⟨wo.heap.size, 2, none⟩) hV0).trans hv2; have hVk : wo.heap.size < w'.heap.size := Nat.lt_of_lt_of_le hV0 hB.size); clear hb ho)
    go_ret3
    exact ⟨rfl, (Below.thenn HHW.out (show Below w.heap.size w _ from (by repeat (first | exact Below.refl _ _ | assumption | apply Below.drew | apply below_drewN | (refine Below.alloc ?_ (by first | omega | (simp; done) | (simp; omega)) _) | (refine Below.setCell ?_ (by first | omega | (simp; done) | (simp; omega)) _)))) HHW.out.size)⟩
  · have hv : gtA rows x ct r = (gtI (tnN rows x ct r) n : Int) ∧ gtV rows x ct r = tnN rows x ct r (gtI (tnN rows x ct r) n) := by simp [gtA, gtV, hk, h.2.1]
    rw [hv.1, hv.2]
    obtain ⟨hl, hc, hu⟩ := upOk_iff.1 hk
    have L := lineOk_line hl
    have hlo := L.lo
    have hhi := L.hi
    rw [up_yes hk, hk] at cu
    rw [h.2.1] at cu hlo hhi
    have l1 := tnL_len rows x ct r n
    have ez := Lib.hid (fun (j : Nat) (hj : j < n) => tnL_at (rows := rows) (w := x) (c := ct) (R := r) hj)
    generalize tnN rows x ct r = f at *
    generalize tnL rows x ct r n = zs at *
    have L1 := Lib.hid l1
    have hzl : zs.length ≤ 8 := by omega
    have CU := Lib.hid cu
    clear cu hk hv hl hc hu L
    obtain rfl : n = zs.length := l1.symm
    clear l1 L1
    generalize hzn : zs.length = n at *
    have HZN := Lib.hid hzn
    have CU2 : Hid (∀ w', RdL w' A n rows → Calls Try.prog 64 #[.slice A n c, .agg #[.int .i64 x, .int .i64 ct, .int .i64 r]] w' (fun e w'' => ∃ A' c', e = .returned (.tuple #[.slice A' n c', .bool true]) ∧ Ow w'' w'.heap.size (.slice A' n c') zs ∧ Below w'.heap.size w' w'')) := Lib.hid (fun w' h' => (CU.out w' h').mono (fun e w'' he => by unfold RetSB at he; rw [HZN.out] at he; exact he))
    clear hzn CU
    go_enter Try.func74, Try.ntmps74
    go_wp2_with fail
    (have hWV : Below wo.heap.size wo (wo.alloc (.cells #[.int .i64 x, .int .i64 ct, .int .i64 r] 70)) := (Below.refl _ _).alloc (Nat.le_refl _) _; have hV0 : wo.heap.size < (wo.alloc (.cells #[.int .i64 x, .int .i64 ct, .int .i64 r] 70)).heap.size := (by simp); have hv0 : (wo.alloc (.cells #[.int .i64 x, .int .i64 ct, .int .i64 r] 70)).cell? ⟨wo.heap.size, 0, none⟩ = some (.int .i64 x) := (by rw [cell_of_row _ _ _ _ _ _ (heap_alloc_new wo _)]; rfl); have hv1 : (wo.alloc (.cells #[.int .i64 x, .int .i64 ct, .int .i64 r] 70)).cell? ⟨wo.heap.size, 1, none⟩ = some (.int .i64 ct) := (by rw [cell_of_row _ _ _ _ _ _ (heap_alloc_new wo _)]; rfl); have hv2 : (wo.alloc (.cells #[.int .i64 x, .int .i64 ct, .int .i64 r] 70)).cell? ⟨wo.heap.size, 2, none⟩ = some (.int .i64 r) := (by rw [cell_of_row _ _ _ _ _ _ (heap_alloc_new wo _)]; rfl); have HHW := Lib.hid hWV; have HV1 : Hid (wo.heap.size + 1 = (wo.alloc (.cells #[.int .i64 x, .int .i64 ct, .int .i64 r] 70)).heap.size) := (show _ = _ by simp); generalize wo.alloc (.cells #[.int .i64 x, .int .i64 ct, .int .i64 r] 70) = w at hWV HHW hV0 HV1 hv0 hv1 hv2 ⊢; have HH := Lib.hid (h.below hWV); have hB : Below w.heap.size w w := Below.refl _ _; have hwz : wo.heap.size ≤ w.heap.size := hWV.size; (try rw [HV1.out]); clear hWV)
    go_wp2_with (go_at_call 64; refine (CU2.out _ (by exact HH.out.below (by repeat (first | exact Below.refl _ _ | assumption | apply Below.drew | apply below_drewN | (refine Below.alloc ?_ (by first | omega | (simp; done) | (simp; omega)) _) | (refine Below.setCell ?_ (by first | omega | (simp; done) | (simp; omega)) _))))).mono ?_; rintro e w' ⟨A2, c2, rfl, ho, hb⟩; have hB : Below w.heap.size w w' := Below.thenn (by repeat (first | exact Below.refl _ _ | assumption | apply Below.drew | apply below_drewN | (refine Below.alloc ?_ (by first | omega | (simp; done) | (simp; omega)) _) | (refine Below.setCell ?_ (by first | omega | (simp; done) | (simp; omega)) _))) hb (by first | omega | (simp; done) | (simp; omega)); have O2 := Lib.hid ho; have hz : w.heap.size ≤ w'.heap.size := hB.size; (try (have hz1 : w.heap.size + 1 ≤ w'.heap.size := (by have h := hb.size; (try simp at h); omega))); have HQ := Lib.hid hb; obtain ⟨hc, hf⟩ := bcell hb; (have b0 := (hB.cell (p := ⟨wo.heap.size, 0, none⟩) hV0).trans hv0; have b1 := (hB.cell (p := ⟨wo.heap.size, 1, none⟩) hV0).trans hv1; have b2 := (hB.cell (p := ⟨wo.heap.size, 2, none⟩) hV0).trans hv2; have hVk : wo.heap.size < w'.heap.size := Nat.lt_of_lt_of_le hV0 hB.size); clear hb ho)
    obtain ⟨p1, o1, v1, rfl, _, hc1⟩ := O2.out.rd.at1 (k := 0) (by omega)
    have hp1 : p1 < w'.heap.size := World.block_lt_of_cell? _ _ hc1
    clear hc1
    have CE : Hid (∀ j : Nat, j < n → w'.cell? ⟨p1, o1 + j, none⟩ = some (.int .i64 (f j))) := Lib.hid (fun (j : Nat) (hj : j < n) => by
      obtain ⟨p2, o2, v2, e2, hv2, hc2⟩ := O2.out.rd.at1 (k := j) hj
      injection e2 with e2
      injection e2 with e3 e4
      subst e3 e4
      rw [ez.out j hj] at hv2
      injection hv2 with hv2
      rw [← hv2] at hc2
      exact hc2)
    go_loopg [9, 10] n (fun gg best i wr => ∃ (k g : Nat), 1 ≤ k ∧ k ≤ n ∧ n ≤ k + gg ∧ i = .int .i64 k ∧ best = .int .i64 g ∧ g < n ∧ Below w'.heap.size w' wr ∧ Hid (gtI f k = g))
    case atStart => exact ⟨1, 0, by omega, by omega, by omega, rfl, rfl, by omega, Below.refl _ _, gt_one f⟩
    case round =>
      obtain ⟨k, g, hk0, hk1, hk2, rfl, rfl, hg, hBr, HG⟩ := hrel
      have hpr : p1 < wr.heap.size := Nat.lt_of_lt_of_le hp1 hBr.size
      have hBw : Below w.heap.size w wr := Below.thenn hB hBr hB.size
      have hwr : w.heap.size ≤ wr.heap.size := hBw.size
      by_cases hlt : k < n
      · have cg := (hBr.cell (p := ⟨p1, _, none⟩) hp1).trans (CE.out g hg)
        have ck := (hBr.cell (p := ⟨p1, _, none⟩) hp1).trans (CE.out k hlt)
        have HT := Lib.hid (fun hh => gt_take (f := f) (k := k) hh)
        have HK := Lib.hid (fun hh => gt_keep (f := f) (k := k) hh)
        obtain ⟨y, hy⟩ : ∃ y, f g = y := ⟨_, rfl⟩
        obtain ⟨z, hz'⟩ : ∃ z, f k = z := ⟨_, rfl⟩
        rw [hy] at cg
        rw [hz'] at ck
        have FG := Lib.hid hy
        have FK := Lib.hid hz'
        clear hy hz' hc hf
        by_cases ht : y < z
        · have hd : decide (y < z) = true := decide_eq_true ht
          go_wp2_with fail
          (refine wp_region_ext (by kernel_rfl) (by kernel_rfl) ?_; have hxe := ext_cells; (repeat (go_big_quiet_step (fail))); refine wpQuiet_nil ?_; intro w' hw'; obtain ⟨nx, hw''⟩ := hw'; have hbx := ext_out hw''; clear hw'' nx hxe; have hB : Below w.heap.size w w' := Below.thenn (by repeat (first | exact Below.refl _ _ | assumption | apply Below.drew | apply below_drewN | (refine Below.alloc ?_ (by first | omega | (simp; done) | (simp; omega)) _) | (refine Below.setCell ?_ (by first | omega | (simp; done) | (simp; omega)) _))) hbx (by first | omega | (simp; done) | (simp; omega)); have hz : w.heap.size ≤ w'.heap.size := hB.size; obtain ⟨hc, hf⟩ := bcell hbx; have hBx := Lib.hid (Below.thenn hBr hbx hBr.size); clear hbx)
          go_wp2_with fail
          go_roundg (n - (k + 1))
          case measure => omega
          case rel => exact ⟨k + 1, k, by omega, by omega, by omega, by go_num, rfl, by omega, hBx.out, HT.out (by rw [HG.out, FG.out, FK.out]; exact ht)⟩
        · have hd : decide (y < z) = false := decide_eq_false ht
          go_wp2_with fail
          (refine wp_region_ext (by kernel_rfl) (by kernel_rfl) ?_; have hxe := ext_cells; (repeat (go_big_quiet_step (fail))); refine wpQuiet_nil ?_; intro w' hw'; obtain ⟨nx, hw''⟩ := hw'; have hbx := ext_out hw''; clear hw'' nx hxe; have hB : Below w.heap.size w w' := Below.thenn (by repeat (first | exact Below.refl _ _ | assumption | apply Below.drew | apply below_drewN | (refine Below.alloc ?_ (by first | omega | (simp; done) | (simp; omega)) _) | (refine Below.setCell ?_ (by first | omega | (simp; done) | (simp; omega)) _))) hbx (by first | omega | (simp; done) | (simp; omega)); have hz : w.heap.size ≤ w'.heap.size := hB.size; obtain ⟨hc, hf⟩ := bcell hbx; have hBx := Lib.hid (Below.thenn hBr hbx hBr.size); clear hbx)
          go_wp2_with fail
          go_roundg (n - (k + 1))
          case measure => omega
          case rel => exact ⟨k + 1, g, by omega, by omega, by omega, by go_num, rfl, by omega, hBx.out, (HK.out (by rw [HG.out, FG.out, FK.out]; exact ht)).trans HG.out⟩
      · have hkn : k = n := by omega
        have hgn := HG.out
        rw [hkn] at hgn
        have HGN := Lib.hid hgn
        have cg := (hBr.cell (p := ⟨p1, _, none⟩) hp1).trans (CE.out g hg)
        obtain ⟨y, hy⟩ : ∃ y, f g = y := ⟨_, rfl⟩
        rw [hy] at cg
        have FG := Lib.hid hy
        clear hy hgn hkn hc hf
        go_wp2_with fail
        (refine wp_region_ext (by kernel_rfl) (by kernel_rfl) ?_; have hxe := ext_cells; (repeat (go_big_quiet_step (fail))); refine wpQuiet_nil ?_; intro w' hw'; obtain ⟨nx, hw''⟩ := hw'; have hbx := ext_out hw''; clear hw'' nx hxe; have hB : Below w.heap.size w w' := Below.thenn (by repeat (first | exact Below.refl _ _ | assumption | apply Below.drew | apply below_drewN | (refine Below.alloc ?_ (by first | omega | (simp; done) | (simp; omega)) _) | (refine Below.setCell ?_ (by first | omega | (simp; done) | (simp; omega)) _))) hbx (by first | omega | (simp; done) | (simp; omega)); have hz : w.heap.size ≤ w'.heap.size := hB.size; obtain ⟨hc, hf⟩ := bcell hbx; clear hbx)
        go_wp2_with fail
        go_ret3
        exact ⟨Eq.trans (b := Ending.returned (.tuple #[.int .i64 (g : Int), .int .i64 y, .bool true])) rfl (by rw [HGN.out, FG.out]), (Below.thenn HHW.out (show Below w.heap.size w _ from (by repeat (first | exact Below.refl _ _ | assumption | apply Below.drew | apply below_drewN | (refine Below.alloc ?_ (by first | omega | (simp; done) | (simp; omega)) _) | (refine Below.setCell ?_ (by first | omega | (simp; done) | (simp; omega)) _)))) HHW.out.size)⟩
end Go.Proofs.Ytjfmicemnoglkaa
