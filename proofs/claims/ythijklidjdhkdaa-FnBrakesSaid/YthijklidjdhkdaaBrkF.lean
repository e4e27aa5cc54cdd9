/- The brakes: the safe speed. -/
import Derived.Test.YthijklidjdhkdaaBrkE
namespace Go.Proofs.Ythijklidjdhkdaa
open Go.RowKit
set_option linter.unusedVariables false
set_option linter.unusedSimpArgs false

def stopsB (m p : Int) (rows : List (List Int)) (way v : Int) : Bool := brkK m p rows v && decide (dw (brkS m p rows v) ≤ way)
def sfB (m p : Int) (rows : List (List Int)) (way : Int) : Nat → Int → Int → Int
  | 0, _, b => b
  | f + 1, v, b => if stopsB m p rows way v then sfB m p rows way f (v + 1) v else b
def ssOk (m p : Int) (rows : List (List Int)) (way : Int) : Bool := drvOk m p rows && decide (0 ≤ way)
def ssV (m p : Int) (rows : List (List Int)) (way : Int) : Int := if ssOk m p rows way then sfB m p rows way 100 1 0 else 0
theorem sfB_yes {m p : Int} {rows : List (List Int)} {way : Int} {k : Nat} (hk : k < 100) (h : stopsB m p rows way ((k + 1 : Nat) : Int) = true) : sfB m p rows way (100 - k) ((k + 1 : Nat) : Int) (k : Int) = sfB m p rows way (100 - (k + 1)) ((k + 1 + 1 : Nat) : Int) ((k + 1 : Nat) : Int) := by
  rw [show 100 - k = (100 - (k + 1)) + 1 by omega]
  conv => lhs; unfold sfB
  rw [if_pos h]
  congr 1
theorem sfB_no {m p : Int} {rows : List (List Int)} {way : Int} {k : Nat} (hk : k < 100) (h : stopsB m p rows way ((k + 1 : Nat) : Int) = false) : sfB m p rows way (100 - k) ((k + 1 : Nat) : Int) (k : Int) = k := by
  rw [show 100 - k = (100 - (k + 1)) + 1 by omega]
  unfold sfB
  rw [h]
  simp
theorem sfB_end {m p : Int} {rows : List (List Int)} {way : Int} {k : Nat} {v : Int} (hk : 100 ≤ k) : sfB m p rows way (100 - k) v (k : Int) = k := by
  rw [show 100 - k = 0 by omega]; rfl
theorem stops_way {m p v way : Int} {rows : List (List Int)} (h : drvOk m p rows = true) (hv : 0 ≤ v) (hv' : v ≤ 100) : stopsB m p rows way v = !(decide (wayZ m p rows v < 0) || decide (way < wayZ m p rows v)) := by
  have := brkS_dw h hv hv'
  unfold stopsB wayZ
  rcases brkK m p rows v with _ | _
  · simp
  · rw [Bool.eq_iff_iff]; simp; omega
theorem stops_impl {m p v way : Int} {rows : List (List Int)} : stopsB m p rows way v = (brkK m p rows v && !decide (way < dw (bsL m p rows v))) := by
  rw [dw_bsL]
  unfold stopsB
  rcases brkK m p rows v with _ | _
  · simp
  · rw [Bool.eq_iff_iff]; simp
set_option maxRecDepth 100000 in
set_option maxHeartbeats 2000000 in
theorem spec_SafeSpeed (m p : Int) (A : Option Addr) (n c : Nat) (rows : List (List Int)) (way : Int) (wo : World) (h : RdR wo 2 A n rows) (hm : n ≤ 1048577) :
    Calls Try.prog 23 #[.agg #[.int .i64 m, .int .i64 p, .slice A n c], .int .i64 way] wo (Ret wo (.tuple #[.int .i64 (ssV m p rows way), .bool (ssOk m p rows way)])) := by
  have cg := fun w' (h' : RdR w' 2 A n rows) => spec_l10Good m p A n c rows w' h' hm
  rcases hg : drvOk m p rows with _ | _
  all_goals rw [hg] at cg
  all_goals have CG := Lib.hid cg
  all_goals clear cg
  · rw [show ssV m p rows way = 0 by simp [ssV, ssOk, hg], show ssOk m p rows way = false by simp [ssOk, hg]]
    clear hg
    go_enter Try.func23, Try.ntmps23
    (go_wp2_with fail; have hWV : Below wo.heap.size wo (wo.alloc (.cells #[.int .i64 m, .int .i64 p, .slice A n c] 29)) := (Below.refl _ _).alloc (Nat.le_refl _) _; have hV0 : wo.heap.size < (wo.alloc (.cells #[.int .i64 m, .int .i64 p, .slice A n c] 29)).heap.size := (by simp); have hv0 : (wo.alloc (.cells #[.int .i64 m, .int .i64 p, .slice A n c] 29)).cell? ⟨wo.heap.size, 0, none⟩ = some (.int .i64 m) := (by rw [cell_of_row _ _ _ _ _ _ (heap_alloc_new wo _)]; rfl); have hv1 : (wo.alloc (.cells #[.int .i64 m, .int .i64 p, .slice A n c] 29)).cell? ⟨wo.heap.size, 1, none⟩ = some (.int .i64 p) := (by rw [cell_of_row _ _ _ _ _ _ (heap_alloc_new wo _)]; rfl); have hv2 : (wo.alloc (.cells #[.int .i64 m, .int .i64 p, .slice A n c] 29)).cell? ⟨wo.heap.size, 2, none⟩ = some (.slice A n c) := (by rw [cell_of_row _ _ _ _ _ _ (heap_alloc_new wo _)]; rfl); have HV1 : Hid (wo.heap.size + 1 = (wo.alloc (.cells #[.int .i64 m, .int .i64 p, .slice A n c] 29)).heap.size) := (show _ = _ by simp); generalize wo.alloc (.cells #[.int .i64 m, .int .i64 p, .slice A n c] 29) = w at hWV hV0 HV1 hv0 hv1 hv2 ⊢; have hr := h.below hWV; have hB : Below w.heap.size w w := Below.refl _ _; have hwz : wo.heap.size ≤ w.heap.size := hWV.size)
    go_wp2_with (go_at_call 49; refine (CG.out _ hr).mono ?_; rintro e w' ⟨rfl, hb⟩; have hB : Below w.heap.size w w' := Below.thenn (by repeat (first | exact Below.refl _ _ | assumption | apply Below.drew | apply below_drewN | (refine Below.alloc ?_ (by first | omega | (simp; done) | (simp; omega)) _) | (refine Below.setCell ?_ (by first | omega | (simp; done) | (simp; omega)) _))) hb (by first | omega | (simp; done) | (simp; omega)); have hz : w.heap.size ≤ w'.heap.size := hB.size; (try (have hz1 : w.heap.size + 1 ≤ w'.heap.size := (by have h := hb.size; (try simp at h); omega))); obtain ⟨hc, hf⟩ := bcell hb; clear hb)
    go_ret2
    exact ⟨rfl, Below.thenn hWV hB hwz⟩
  by_cases hw : 0 ≤ way
  case neg =>
    rw [show ssV m p rows way = 0 by simp [ssV, ssOk, hw], show ssOk m p rows way = false by simp [ssOk, hw]]
    have hw2 : way < 0 := by omega
    clear hg
    go_enter Try.func23, Try.ntmps23
    (go_wp2_with fail; have hWV : Below wo.heap.size wo (wo.alloc (.cells #[.int .i64 m, .int .i64 p, .slice A n c] 29)) := (Below.refl _ _).alloc (Nat.le_refl _) _; have hV0 : wo.heap.size < (wo.alloc (.cells #[.int .i64 m, .int .i64 p, .slice A n c] 29)).heap.size := (by simp); have hv0 : (wo.alloc (.cells #[.int .i64 m, .int .i64 p, .slice A n c] 29)).cell? ⟨wo.heap.size, 0, none⟩ = some (.int .i64 m) := (by rw [cell_of_row _ _ _ _ _ _ (heap_alloc_new wo _)]; rfl); have hv1 : (wo.alloc (.cells #[.int .i64 m, .int .i64 p, .slice A n c] 29)).cell? ⟨wo.heap.size, 1, none⟩ = some (.int .i64 p) := (by rw [cell_of_row _ _ _ _ _ _ (heap_alloc_new wo _)]; rfl); have hv2 : (wo.alloc (.cells #[.int .i64 m, .int .i64 p, .slice A n c] 29)).cell? ⟨wo.heap.size, 2, none⟩ = some (.slice A n c) := (by rw [cell_of_row _ _ _ _ _ _ (heap_alloc_new wo _)]; rfl); have HV1 : Hid (wo.heap.size + 1 = (wo.alloc (.cells #[.int .i64 m, .int .i64 p, .slice A n c] 29)).heap.size) := (show _ = _ by simp); generalize wo.alloc (.cells #[.int .i64 m, .int .i64 p, .slice A n c] 29) = w at hWV hV0 HV1 hv0 hv1 hv2 ⊢; have hr := h.below hWV; have hB : Below w.heap.size w w := Below.refl _ _; have hwz : wo.heap.size ≤ w.heap.size := hWV.size)
    go_wp2_with (go_at_call 49; refine (CG.out _ hr).mono ?_; rintro e w' ⟨rfl, hb⟩; have hB : Below w.heap.size w w' := Below.thenn (by repeat (first | exact Below.refl _ _ | assumption | apply Below.drew | apply below_drewN | (refine Below.alloc ?_ (by first | omega | (simp; done) | (simp; omega)) _) | (refine Below.setCell ?_ (by first | omega | (simp; done) | (simp; omega)) _))) hb (by first | omega | (simp; done) | (simp; omega)); have hz : w.heap.size ≤ w'.heap.size := hB.size; (try (have hz1 : w.heap.size + 1 ≤ w'.heap.size := (by have h := hb.size; (try simp at h); omega))); obtain ⟨hc, hf⟩ := bcell hb; clear hb)
    go_ret2
    exact ⟨rfl, Below.thenn hWV hB hwz⟩
  have hok : ssOk m p rows way = true := by simp [ssOk, hg, hw]
  rw [show ssV m p rows way = sfB m p rows way 100 1 0 by simp [ssV, hok], hok]
  generalize hE : sfB m p rows way 100 1 0 = E
  have HE := Lib.hid hE
  have hn4 : n ≤ 4 := by have := (drvOk_iff.1 hg).1.2.2; have := h.2.2; omega
  have CA := Lib.hid (fun w' (h' : RdR w' 2 A n rows) => spec_l10All m p A n c rows w' h' hn4)
  have CW : Hid (∀ (v : Int) (w' : World), 0 ≤ v → v ≤ 100 → RdR w' 2 A n rows → Calls Try.prog 56 #[.agg #[.int .i64 m, .int .i64 p, .slice A n c], .int .i64 v, .int .i64 ((2 ^ n - 1 : Nat) : Int)] w' (Ret w' (.int .i64 (wayZ m p rows v)))) := fun v w' hv0 hv1 h' => by
    have := spec_l10Way m p A n c (2 ^ n - 1) rows v w' h' hg hv0 hv1 (pow_lt hn4)
    rwa [sel_alln h.2.2 hn4] at this
  have HG := Lib.hid hg
  have hwn : ¬ way < 0 := by omega
  generalize 2 ^ n - 1 = S at CA CW
  clear hg hok hE
  go_enter Try.func23, Try.ntmps23
  (go_wp2_with fail; have hWV : Below wo.heap.size wo (wo.alloc (.cells #[.int .i64 m, .int .i64 p, .slice A n c] 29)) := (Below.refl _ _).alloc (Nat.le_refl _) _; have hV0 : wo.heap.size < (wo.alloc (.cells #[.int .i64 m, .int .i64 p, .slice A n c] 29)).heap.size := (by simp); have hv0 : (wo.alloc (.cells #[.int .i64 m, .int .i64 p, .slice A n c] 29)).cell? ⟨wo.heap.size, 0, none⟩ = some (.int .i64 m) := (by rw [cell_of_row _ _ _ _ _ _ (heap_alloc_new wo _)]; rfl); have hv1 : (wo.alloc (.cells #[.int .i64 m, .int .i64 p, .slice A n c] 29)).cell? ⟨wo.heap.size, 1, none⟩ = some (.int .i64 p) := (by rw [cell_of_row _ _ _ _ _ _ (heap_alloc_new wo _)]; rfl); have hv2 : (wo.alloc (.cells #[.int .i64 m, .int .i64 p, .slice A n c] 29)).cell? ⟨wo.heap.size, 2, none⟩ = some (.slice A n c) := (by rw [cell_of_row _ _ _ _ _ _ (heap_alloc_new wo _)]; rfl); have HV1 : Hid (wo.heap.size + 1 = (wo.alloc (.cells #[.int .i64 m, .int .i64 p, .slice A n c] 29)).heap.size) := (show _ = _ by simp); generalize wo.alloc (.cells #[.int .i64 m, .int .i64 p, .slice A n c] 29) = w at hWV hV0 HV1 hv0 hv1 hv2 ⊢; have hr := h.below hWV; have hB : Below w.heap.size w w := Below.refl _ _; have hwz : wo.heap.size ≤ w.heap.size := hWV.size)
  go_wp2_with (go_at_call 49; refine (CG.out _ hr).mono ?_; rintro e w' ⟨rfl, hb⟩; have hB : Below w.heap.size w w' := Below.thenn (by repeat (first | exact Below.refl _ _ | assumption | apply Below.drew | apply below_drewN | (refine Below.alloc ?_ (by first | omega | (simp; done) | (simp; omega)) _) | (refine Below.setCell ?_ (by first | omega | (simp; done) | (simp; omega)) _))) hb (by first | omega | (simp; done) | (simp; omega)); have hz : w.heap.size ≤ w'.heap.size := hB.size; (try (have hz1 : w.heap.size + 1 ≤ w'.heap.size := (by have h := hb.size; (try simp at h); omega))); obtain ⟨hc, hf⟩ := bcell hb; clear hb)
  go_loopg [6, 7] 100 (fun gg s6 s7 wr => ∃ k : Nat, k ≤ 100 ∧ 100 ≤ k + gg ∧ s6 = .int .i64 k ∧ s7 = .int .i64 ((k + 1 : Nat) : Int) ∧ Below w.heap.size w wr ∧ w.heap.size ≤ wr.heap.size ∧ Hid (sfB m p rows way (100 - k) ((k + 1 : Nat) : Int) (k : Int) = E))
  case atStart => exact ⟨0, by omega, by omega, rfl, rfl, hB, hz, HE.out⟩
  case round =>
    clear hB hz hc hf
    obtain ⟨k, hk1, hk2, rfl, rfl, hBr, hzr, ha⟩ := hrel
    have a0 := (hBr.cell (p := ⟨wo.heap.size, 0, none⟩) hV0).trans hv0
    have a1 := (hBr.cell (p := ⟨wo.heap.size, 1, none⟩) hV0).trans hv1
    have a2 := (hBr.cell (p := ⟨wo.heap.size, 2, none⟩) hV0).trans hv2
    have hor := Nat.lt_of_lt_of_le hV0 hzr
    have hr2 := hr.below hBr
    by_cases hlt : k < 100
    · have CWk := Lib.hid (fun w' => CW.out ((k + 1 : Nat) : Int) w' (by omega) (by omega))
      have hst := stops_way (v := ((k + 1 : Nat) : Int)) (way := way) HG.out (by omega) (by omega)
      have HY := Lib.hid (sfB_yes (m := m) (p := p) (rows := rows) (way := way) hlt)
      have HN := Lib.hid (sfB_no (m := m) (p := p) (rows := rows) (way := way) hlt)
      generalize wayZ m p rows ((k + 1 : Nat) : Int) = z at CWk hst
      have HST := Lib.hid hst
      clear hst
      go_wp2_with fail
      (refine wp_region_ext (by kernel_rfl) (by kernel_rfl) ?_; have hxe := ext_cells; (repeat (go_big_quiet_step (first | (go_at_call 57; exact ext_ret (CA.out _ (hr2.below (Ext.below _)))) | (go_at_call 56; exact ext_ret (CWk.out _ (hr2.below (Ext.below _))))))); refine wpQuiet_nil ?_; intro w' hw'; obtain ⟨nx, hw''⟩ := hw'; have hbx := ext_out hw''; clear hw'' nx hxe; have hB : Below w.heap.size w w' := Below.thenn (by repeat (first | exact Below.refl _ _ | assumption | apply Below.drew | apply below_drewN | (refine Below.alloc ?_ (by first | omega | (simp; done) | (simp; omega)) _) | (refine Below.setCell ?_ (by first | omega | (simp; done) | (simp; omega)) _))) hbx (by first | omega | (simp; done) | (simp; omega)); have hz : w.heap.size ≤ w'.heap.size := hB.size; obtain ⟨hc, hf⟩ := bcell hbx; clear hbx)
      by_cases hz0 : z < 0
      · have he : E = (k : Int) := by rw [← ha.out]; exact HN.out (by rw [HST.out]; simp [hz0])
        subst he
        go_wp2_with fail
        go_ret2
        exact ⟨rfl, Below.thenn hWV hB hwz⟩
      · by_cases hz1 : way < z
        · have he : E = (k : Int) := by rw [← ha.out]; exact HN.out (by rw [HST.out]; simp [hz1])
          subst he
          go_wp2_with fail
          go_ret2
          exact ⟨rfl, Below.thenn hWV hB hwz⟩
        · have HX := Lib.hid (HY.out (by rw [HST.out]; simp [hz0, hz1]))
          go_wp2_with fail
          go_roundg (100 - (k + 1))
          case measure => omega
          case rel => exact ⟨k + 1, by omega, by omega, by first | rfl | go_num, by go_num, hB, hz, by show _ = _; rw [← ha.out, HX.out]⟩
    · have he : E = (k : Int) := by rw [← ha.out]; exact sfB_end (by omega)
      subst he
      go_wp2_with fail
      go_ret2
      exact ⟨rfl, Below.thenn hWV hBr hwz⟩
set_option maxRecDepth 100000 in
set_option maxHeartbeats 2000000 in
theorem impl_SafeSpeed (m p : Int) (A : Option Addr) (n c : Nat) (rows : List (List Int)) (way : Int) (wo : World) (h : RdR wo 2 A n rows) (hm : n ≤ 1048577) :
    Calls Try.prog 24 #[.agg #[.int .i64 m, .int .i64 p, .slice A n c], .int .i64 way] wo (Ret wo (.tuple #[.int .i64 (ssV m p rows way), .bool (ssOk m p rows way)])) := by
  have cg := fun w' (h' : RdR w' 2 A n rows) => impl_IsDrive m p A n c rows w' h' hm
  rcases hg : drvOk m p rows with _ | _
  all_goals rw [hg] at cg
  all_goals have CG := Lib.hid cg
  all_goals clear cg
  · rw [show ssV m p rows way = 0 by simp [ssV, ssOk, hg], show ssOk m p rows way = false by simp [ssOk, hg]]
    clear hg
    go_enter Try.func24, Try.ntmps24
    (go_wp2_with fail; have hWV : Below wo.heap.size wo (wo.alloc (.cells #[.int .i64 m, .int .i64 p, .slice A n c] 29)) := (Below.refl _ _).alloc (Nat.le_refl _) _; have hV0 : wo.heap.size < (wo.alloc (.cells #[.int .i64 m, .int .i64 p, .slice A n c] 29)).heap.size := (by simp); have hv0 : (wo.alloc (.cells #[.int .i64 m, .int .i64 p, .slice A n c] 29)).cell? ⟨wo.heap.size, 0, none⟩ = some (.int .i64 m) := (by rw [cell_of_row _ _ _ _ _ _ (heap_alloc_new wo _)]; rfl); have hv1 : (wo.alloc (.cells #[.int .i64 m, .int .i64 p, .slice A n c] 29)).cell? ⟨wo.heap.size, 1, none⟩ = some (.int .i64 p) := (by rw [cell_of_row _ _ _ _ _ _ (heap_alloc_new wo _)]; rfl); have hv2 : (wo.alloc (.cells #[.int .i64 m, .int .i64 p, .slice A n c] 29)).cell? ⟨wo.heap.size, 2, none⟩ = some (.slice A n c) := (by rw [cell_of_row _ _ _ _ _ _ (heap_alloc_new wo _)]; rfl); have HV1 : Hid (wo.heap.size + 1 = (wo.alloc (.cells #[.int .i64 m, .int .i64 p, .slice A n c] 29)).heap.size) := (show _ = _ by simp); generalize wo.alloc (.cells #[.int .i64 m, .int .i64 p, .slice A n c] 29) = w at hWV hV0 HV1 hv0 hv1 hv2 ⊢; have hr := h.below hWV; have hB : Below w.heap.size w w := Below.refl _ _; have hwz : wo.heap.size ≤ w.heap.size := hWV.size)
    go_wp2_with (go_at_call 17; refine (CG.out _ hr).mono ?_; rintro e w' ⟨rfl, hb⟩; have hB : Below w.heap.size w w' := Below.thenn (by repeat (first | exact Below.refl _ _ | assumption | apply Below.drew | apply below_drewN | (refine Below.alloc ?_ (by first | omega | (simp; done) | (simp; omega)) _) | (refine Below.setCell ?_ (by first | omega | (simp; done) | (simp; omega)) _))) hb (by first | omega | (simp; done) | (simp; omega)); have hz : w.heap.size ≤ w'.heap.size := hB.size; (try (have hz1 : w.heap.size + 1 ≤ w'.heap.size := (by have h := hb.size; (try simp at h); omega))); obtain ⟨hc, hf⟩ := bcell hb; clear hb)
    go_ret2
    exact ⟨rfl, Below.thenn hWV hB hwz⟩
  by_cases hw : 0 ≤ way
  case neg =>
    rw [show ssV m p rows way = 0 by simp [ssV, ssOk, hw], show ssOk m p rows way = false by simp [ssOk, hw]]
    have hw2 : way < 0 := by omega
    clear hg
    go_enter Try.func24, Try.ntmps24
    (go_wp2_with fail; have hWV : Below wo.heap.size wo (wo.alloc (.cells #[.int .i64 m, .int .i64 p, .slice A n c] 29)) := (Below.refl _ _).alloc (Nat.le_refl _) _; have hV0 : wo.heap.size < (wo.alloc (.cells #[.int .i64 m, .int .i64 p, .slice A n c] 29)).heap.size := (by simp); have hv0 : (wo.alloc (.cells #[.int .i64 m, .int .i64 p, .slice A n c] 29)).cell? ⟨wo.heap.size, 0, none⟩ = some (.int .i64 m) := (by rw [cell_of_row _ _ _ _ _ _ (heap_alloc_new wo _)]; rfl); have hv1 : (wo.alloc (.cells #[.int .i64 m, .int .i64 p, .slice A n c] 29)).cell? ⟨wo.heap.size, 1, none⟩ = some (.int .i64 p) := (by rw [cell_of_row _ _ _ _ _ _ (heap_alloc_new wo _)]; rfl); have hv2 : (wo.alloc (.cells #[.int .i64 m, .int .i64 p, .slice A n c] 29)).cell? ⟨wo.heap.size, 2, none⟩ = some (.slice A n c) := (by rw [cell_of_row _ _ _ _ _ _ (heap_alloc_new wo _)]; rfl); have HV1 : Hid (wo.heap.size + 1 = (wo.alloc (.cells #[.int .i64 m, .int .i64 p, .slice A n c] 29)).heap.size) := (show _ = _ by simp); generalize wo.alloc (.cells #[.int .i64 m, .int .i64 p, .slice A n c] 29) = w at hWV hV0 HV1 hv0 hv1 hv2 ⊢; have hr := h.below hWV; have hB : Below w.heap.size w w := Below.refl _ _; have hwz : wo.heap.size ≤ w.heap.size := hWV.size)
    go_wp2_with (go_at_call 17; refine (CG.out _ hr).mono ?_; rintro e w' ⟨rfl, hb⟩; have hB : Below w.heap.size w w' := Below.thenn (by repeat (first | exact Below.refl _ _ | assumption | apply Below.drew | apply below_drewN | (refine Below.alloc ?_ (by first | omega | (simp; done) | (simp; omega)) _) | (refine Below.setCell ?_ (by first | omega | (simp; done) | (simp; omega)) _))) hb (by first | omega | (simp; done) | (simp; omega)); have hz : w.heap.size ≤ w'.heap.size := hB.size; (try (have hz1 : w.heap.size + 1 ≤ w'.heap.size := (by have h := hb.size; (try simp at h); omega))); obtain ⟨hc, hf⟩ := bcell hb; clear hb)
    go_ret2
    exact ⟨rfl, Below.thenn hWV hB hwz⟩
  have hok : ssOk m p rows way = true := by simp [ssOk, hg, hw]
  rw [show ssV m p rows way = sfB m p rows way 100 1 0 by simp [ssV, hok], hok]
  generalize hE : sfB m p rows way 100 1 0 = E
  have HE := Lib.hid hE
  have CW : Hid (∀ (v : Int) (w' : World), 0 ≤ v → v ≤ 100 → RdR w' 2 A n rows → Calls Try.prog 59 #[.agg #[.int .i64 m, .int .i64 p, .slice A n c], .int .i64 v] w' (Ret w' (.tuple #[.int .i64 (dw (bsL m p rows v)), .bool (brkK m p rows v)]))) := fun v w' hv0 hv1 h' => impl_brakeWay m p A n c rows v w' h' hg hv0 hv1
  have hwn : ¬ way < 0 := by omega
  clear hg hok hE
  go_enter Try.func24, Try.ntmps24
  (go_wp2_with fail; have hWV : Below wo.heap.size wo (wo.alloc (.cells #[.int .i64 m, .int .i64 p, .slice A n c] 29)) := (Below.refl _ _).alloc (Nat.le_refl _) _; have hV0 : wo.heap.size < (wo.alloc (.cells #[.int .i64 m, .int .i64 p, .slice A n c] 29)).heap.size := (by simp); have hv0 : (wo.alloc (.cells #[.int .i64 m, .int .i64 p, .slice A n c] 29)).cell? ⟨wo.heap.size, 0, none⟩ = some (.int .i64 m) := (by rw [cell_of_row _ _ _ _ _ _ (heap_alloc_new wo _)]; rfl); have hv1 : (wo.alloc (.cells #[.int .i64 m, .int .i64 p, .slice A n c] 29)).cell? ⟨wo.heap.size, 1, none⟩ = some (.int .i64 p) := (by rw [cell_of_row _ _ _ _ _ _ (heap_alloc_new wo _)]; rfl); have hv2 : (wo.alloc (.cells #[.int .i64 m, .int .i64 p, .slice A n c] 29)).cell? ⟨wo.heap.size, 2, none⟩ = some (.slice A n c) := (by rw [cell_of_row _ _ _ _ _ _ (heap_alloc_new wo _)]; rfl); have HV1 : Hid (wo.heap.size + 1 = (wo.alloc (.cells #[.int .i64 m, .int .i64 p, .slice A n c] 29)).heap.size) := (show _ = _ by simp); generalize wo.alloc (.cells #[.int .i64 m, .int .i64 p, .slice A n c] 29) = w at hWV hV0 HV1 hv0 hv1 hv2 ⊢; have hr := h.below hWV; have hB : Below w.heap.size w w := Below.refl _ _; have hwz : wo.heap.size ≤ w.heap.size := hWV.size)
  go_wp2_with (go_at_call 17; refine (CG.out _ hr).mono ?_; rintro e w' ⟨rfl, hb⟩; have hB : Below w.heap.size w w' := Below.thenn (by repeat (first | exact Below.refl _ _ | assumption | apply Below.drew | apply below_drewN | (refine Below.alloc ?_ (by first | omega | (simp; done) | (simp; omega)) _) | (refine Below.setCell ?_ (by first | omega | (simp; done) | (simp; omega)) _))) hb (by first | omega | (simp; done) | (simp; omega)); have hz : w.heap.size ≤ w'.heap.size := hB.size; (try (have hz1 : w.heap.size + 1 ≤ w'.heap.size := (by have h := hb.size; (try simp at h); omega))); obtain ⟨hc, hf⟩ := bcell hb; clear hb)
  go_loopg [6, 7] 100 (fun gg s6 s7 wr => ∃ k : Nat, k ≤ 100 ∧ 100 ≤ k + gg ∧ s6 = .int .i64 k ∧ s7 = .int .i64 ((k + 1 : Nat) : Int) ∧ Below w.heap.size w wr ∧ w.heap.size ≤ wr.heap.size ∧ Hid (sfB m p rows way (100 - k) ((k + 1 : Nat) : Int) (k : Int) = E))
  case atStart => exact ⟨0, by omega, by omega, rfl, rfl, hB, hz, HE.out⟩
  case round =>
    clear hB hz hc hf
    obtain ⟨k, hk1, hk2, rfl, rfl, hBr, hzr, ha⟩ := hrel
    have a0 := (hBr.cell (p := ⟨wo.heap.size, 0, none⟩) hV0).trans hv0
    have a1 := (hBr.cell (p := ⟨wo.heap.size, 1, none⟩) hV0).trans hv1
    have a2 := (hBr.cell (p := ⟨wo.heap.size, 2, none⟩) hV0).trans hv2
    have hor := Nat.lt_of_lt_of_le hV0 hzr
    have hr2 := hr.below hBr
    by_cases hlt : k < 100
    · have CWk := Lib.hid (fun w' => CW.out ((k + 1 : Nat) : Int) w' (by omega) (by omega))
      have hst := stops_impl (m := m) (p := p) (rows := rows) (v := ((k + 1 : Nat) : Int)) (way := way)
      have HY := Lib.hid (sfB_yes (m := m) (p := p) (rows := rows) (way := way) hlt)
      have HN := Lib.hid (sfB_no (m := m) (p := p) (rows := rows) (way := way) hlt)
      generalize dw (bsL m p rows ((k + 1 : Nat) : Int)) = z at CWk hst
      generalize brkK m p rows ((k + 1 : Nat) : Int) = b at CWk hst
      have HST := Lib.hid hst
      clear hst
      rcases b with _ | _
      · have he : E = (k : Int) := by rw [← ha.out]; exact HN.out (by rw [HST.out]; simp)
        subst he
        go_wp2_with (go_at_call 59; refine (CWk.out _ hr2).mono ?_; rintro e w2 ⟨rfl, hb2⟩; have hB2 : Below w.heap.size w w2 := Below.thenn hBr hb2 hzr; clear hb2)
        go_ret2
        exact ⟨rfl, Below.thenn hWV hB2 hwz⟩
      · by_cases hz1 : way < z
        · have he : E = (k : Int) := by rw [← ha.out]; exact HN.out (by rw [HST.out]; simp [hz1])
          subst he
          go_wp2_with (go_at_call 59; refine (CWk.out _ hr2).mono ?_; rintro e w2 ⟨rfl, hb2⟩; have hB2 : Below w.heap.size w w2 := Below.thenn hBr hb2 hzr; clear hb2)
          go_ret2
          exact ⟨rfl, Below.thenn hWV hB2 hwz⟩
        · have HX := Lib.hid (HY.out (by rw [HST.out]; simp [hz1]))
          go_wp2_with (go_at_call 59; refine (CWk.out _ hr2).mono ?_; rintro e w2 ⟨rfl, hb2⟩; have hB2 : Below w.heap.size w w2 := Below.thenn hBr hb2 hzr; clear hb2)
          go_roundg (100 - (k + 1))
          case measure => omega
          case rel => exact ⟨k + 1, by omega, by omega, by first | rfl | go_num, by go_num, hB2, hB2.size, by show _ = _; rw [← ha.out, HX.out]⟩
    · have he : E = (k : Int) := by rw [← ha.out]; exact sfB_end (by omega)
      subst he
      go_wp2_with fail
      go_ret2
      exact ⟨rfl, Below.thenn hWV hBr hwz⟩
end Go.Proofs.Ythijklidjdhkdaa
