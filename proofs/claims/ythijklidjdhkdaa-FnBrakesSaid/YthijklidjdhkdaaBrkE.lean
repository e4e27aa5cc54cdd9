/- The brakes: the way. -/
import Derived.Test.YthijklidjdhkdaaBrkD
import Derived.Test.YthijklidjdhkdaaExt
import Derived.Deep.RegionHeld3
import Derived.Deep.DeepCutAuto
namespace Go.Proofs.Ythijklidjdhkdaa
open Go.RowKit
set_option linter.unusedVariables false
set_option linter.unusedSimpArgs false

/-- The way, or -1. -/
def wayZ (m p : Int) (rows : List (List Int)) (v : Int) : Int := if brkK m p rows v then dw (brkS m p rows v) else -1
theorem brkS_dw {m p v : Int} {rows : List (List Int)} (h : drvOk m p rows = true) (hv : 0 ≤ v) (hv' : v ≤ 100) : 0 ≤ dw (brkS m p rows v) := by
  have hm := brkS_mem h hv hv'
  exact (dwF_bd (M := 1000000000) (by omega) v (brkF m p rows 60 0 v) hv (by omega) (fun z hz => hm z (by unfold brkS; simp [hz]))).1
theorem wayZ_neg {m p v : Int} {rows : List (List Int)} (h : drvOk m p rows = true) (hv : 0 ≤ v) (hv' : v ≤ 100) : wayZ m p rows v < 0 ↔ brkK m p rows v = false := by
  have := brkS_dw h hv hv'
  unfold wayZ
  rcases brkK m p rows v with _ | _
  · simp
  · simp; omega
theorem dw_bsL (m p : Int) (rows : List (List Int)) (v : Int) : dw (bsL m p rows v) = if brkK m p rows v then dw (brkS m p rows v) else 0 := by
  unfold bsL; split <;> rfl
set_option maxHeartbeats 1000000 in
theorem spec_l10Way (m p : Int) (A : Option Addr) (n c set : Nat) (rows : List (List Int)) (v : Int) (wo : World) (h : RdR wo 2 A n rows) (hok : drvOk m p rows = true) (hv0 : 0 ≤ v) (hv1 : v ≤ 100) (hset : set < 65536) :
    Calls Try.prog 56 #[.agg #[.int .i64 m, .int .i64 p, .slice A n c], .int .i64 v, .int .i64 set] wo (Ret wo (.int .i64 (wayZ m p (sel set 0 rows) v))) := by
  have CS := Lib.hid (fun w' (h' : RdR w' 2 A n rows) => spec_l10Speeds m p A n c set rows v w' h' hok hv0 hv1 hset)
  have hok2 := sel_ok set 0 hok
  have hmem := Lib.hid (brkS_mem hok2 hv0 hv1)
  have hlen := brkS_len m p (sel set 0 rows) v
  unfold wayZ
  generalize brkS m p (sel set 0 rows) v = zs at CS hmem hlen ⊢
  generalize brkK m p (sel set 0 rows) v = b at CS ⊢
  clear hok hok2
  rcases b with _ | _
  all_goals (go_enter Try.func56, Try.ntmps56)
  all_goals (go_wp2_with fail; have hWV : Below wo.heap.size wo (wo.alloc (.cells #[.int .i64 m, .int .i64 p, .slice A n c] 29)) := (Below.refl _ _).alloc (Nat.le_refl _) _; have hV0 : wo.heap.size < (wo.alloc (.cells #[.int .i64 m, .int .i64 p, .slice A n c] 29)).heap.size := (by simp); have hv0 : (wo.alloc (.cells #[.int .i64 m, .int .i64 p, .slice A n c] 29)).cell? ⟨wo.heap.size, 0, none⟩ = some (.int .i64 m) := (by rw [cell_of_row _ _ _ _ _ _ (heap_alloc_new wo _)]; rfl); have hv1 : (wo.alloc (.cells #[.int .i64 m, .int .i64 p, .slice A n c] 29)).cell? ⟨wo.heap.size, 1, none⟩ = some (.int .i64 p) := (by rw [cell_of_row _ _ _ _ _ _ (heap_alloc_new wo _)]; rfl); have hv2 : (wo.alloc (.cells #[.int .i64 m, .int .i64 p, .slice A n c] 29)).cell? ⟨wo.heap.size, 2, none⟩ = some (.slice A n c) := (by rw [cell_of_row _ _ _ _ _ _ (heap_alloc_new wo _)]; rfl); have HV1 : Hid (wo.heap.size + 1 = (wo.alloc (.cells #[.int .i64 m, .int .i64 p, .slice A n c] 29)).heap.size) := (show _ = _ by simp); generalize wo.alloc (.cells #[.int .i64 m, .int .i64 p, .slice A n c] 29) = w at hWV hV0 HV1 hv0 hv1 hv2 ⊢; have hr := h.below hWV; have hB : Below w.heap.size w w := Below.refl _ _; have hwz : wo.heap.size ≤ w.heap.size := hWV.size)
  all_goals go_wp2_with (first | (go_at_call 60; refine (CS.out _ hr).mono ?_; rintro e w1 ⟨A1, c1, rfl, ho1, hb1⟩; have hB1 : Below wo.heap.size wo w1 := Below.thenn hWV hb1 hwz; have hr1 := ho1.rd; clear ho1 hb1) | (go_at_call 77; refine (spec_l9Way _ _ _ _ _ hr1 (by omega) hmem.out).mono ?_; intro e w2 hq; obtain ⟨rfl, hb2⟩ := hq.ret; clear hq; have hB2 : Below wo.heap.size wo w2 := Below.thenn hB1 hb2 hB1.size))
  · go_ret
    exact ⟨rfl, hB1⟩
  · go_ret
    exact ⟨rfl, hB2⟩
set_option maxHeartbeats 1000000 in
theorem impl_brakeWay (m p : Int) (A : Option Addr) (n c : Nat) (rows : List (List Int)) (v : Int) (wo : World) (h : RdR wo 2 A n rows) (hok : drvOk m p rows = true) (hv0 : 0 ≤ v) (hv1 : v ≤ 100) :
    Calls Try.prog 59 #[.agg #[.int .i64 m, .int .i64 p, .slice A n c], .int .i64 v] wo (Ret wo (.tuple #[.int .i64 (dw (bsL m p rows v)), .bool (brkK m p rows v)])) := by
  have CS := Lib.hid (fun w' (h' : RdR w' 2 A n rows) => impl_brakeSpeeds m p A n c rows v w' h' hok hv0 hv1)
  have hmem : Hid (∀ z ∈ bsL m p rows v, 0 ≤ z ∧ z ≤ 1000000000) := fun z hz => by
    unfold bsL at hz
    split at hz
    · exact brkS_mem hok hv0 hv1 z hz
    · simp at hz
  have hlen : (bsL m p rows v).length ≤ 61 := by
    have := brkS_len m p rows v
    unfold bsL; split <;> simp <;> omega
  generalize bsL m p rows v = zs at CS hmem hlen ⊢
  generalize brkK m p rows v = b at CS ⊢
  clear hok
  go_enter Try.func59, Try.ntmps59
  (go_wp2_with fail; have hWV : Below wo.heap.size wo (wo.alloc (.cells #[.int .i64 m, .int .i64 p, .slice A n c] 29)) := (Below.refl _ _).alloc (Nat.le_refl _) _; have hV0 : wo.heap.size < (wo.alloc (.cells #[.int .i64 m, .int .i64 p, .slice A n c] 29)).heap.size := (by simp); have hv0 : (wo.alloc (.cells #[.int .i64 m, .int .i64 p, .slice A n c] 29)).cell? ⟨wo.heap.size, 0, none⟩ = some (.int .i64 m) := (by rw [cell_of_row _ _ _ _ _ _ (heap_alloc_new wo _)]; rfl); have hv1 : (wo.alloc (.cells #[.int .i64 m, .int .i64 p, .slice A n c] 29)).cell? ⟨wo.heap.size, 1, none⟩ = some (.int .i64 p) := (by rw [cell_of_row _ _ _ _ _ _ (heap_alloc_new wo _)]; rfl); have hv2 : (wo.alloc (.cells #[.int .i64 m, .int .i64 p, .slice A n c] 29)).cell? ⟨wo.heap.size, 2, none⟩ = some (.slice A n c) := (by rw [cell_of_row _ _ _ _ _ _ (heap_alloc_new wo _)]; rfl); have HV1 : Hid (wo.heap.size + 1 = (wo.alloc (.cells #[.int .i64 m, .int .i64 p, .slice A n c] 29)).heap.size) := (show _ = _ by simp); generalize wo.alloc (.cells #[.int .i64 m, .int .i64 p, .slice A n c] 29) = w at hWV hV0 HV1 hv0 hv1 hv2 ⊢; have hr := h.below hWV; have hB : Below w.heap.size w w := Below.refl _ _; have hwz : wo.heap.size ≤ w.heap.size := hWV.size)
  go_wp2_with (first | (go_at_call 61; refine (CS.out _ hr).mono ?_; rintro e w1 ⟨A1, c1, rfl, ho1, hb1⟩; have hB1 : Below wo.heap.size wo w1 := Below.thenn hWV hb1 hwz; have hr1 := ho1.rd; clear ho1 hb1) | (go_at_call 78; refine (impl_doubleWay _ _ _ _ _ hr1 (by omega) hmem.out).mono ?_; intro e w2 hq; obtain ⟨rfl, hb2⟩ := hq.ret; clear hq; have hB2 : Below wo.heap.size wo w2 := Below.thenn hB1 hb2 hB1.size))
  go_ret2
  exact ⟨rfl, hB2⟩
def bwOk (m p : Int) (rows : List (List Int)) (v : Int) : Bool := (drvOk m p rows && inr v 0 100) && brkK m p rows v
def bwV (m p : Int) (rows : List (List Int)) (v : Int) : Int := if bwOk m p rows v then dw (brkS m p rows v) else 0
def bsV (m p : Int) (rows : List (List Int)) (v : Int) : List Int := if bwOk m p rows v then brkS m p rows v else []
theorem bsV_len (m p : Int) (rows : List (List Int)) (v : Int) : (bsV m p rows v).length ≤ 1048576 := by
  have := brkS_len m p rows v
  unfold bsV; split <;> simp <;> omega
theorem asked_iff {m p : Int} {rows : List (List Int)} {v : Int} (h : (drvOk m p rows && inr v 0 100) = true) : drvOk m p rows = true ∧ 0 ≤ v ∧ v ≤ 100 := by
  simpa [inr] using h
set_option maxHeartbeats 1000000 in
theorem impl_BrakeWay (m p : Int) (A : Option Addr) (n c : Nat) (rows : List (List Int)) (v : Int) (wo : World) (h : RdR wo 2 A n rows) (hm : n ≤ 1048577) :
    Calls Try.prog 22 #[.agg #[.int .i64 m, .int .i64 p, .slice A n c], .int .i64 v] wo (Ret wo (.tuple #[.int .i64 (bwV m p rows v), .bool (bwOk m p rows v)])) := by
  have ci := fun w' (h' : RdR w' 2 A n rows) => impl_isMoving m p A n c rows v w' h' hm
  rcases hq : (drvOk m p rows && inr v 0 100) with _ | _
  all_goals rw [hq] at ci
  all_goals have CI := Lib.hid ci
  · rw [show bwV m p rows v = 0 by unfold bwV bwOk; rw [hq]; rfl, show bwOk m p rows v = false by unfold bwOk; rw [hq]; rfl]
    clear ci hq
    go_enter Try.func22, Try.ntmps22
    (go_wp2_with fail; have hWV : Below wo.heap.size wo (wo.alloc (.cells #[.int .i64 m, .int .i64 p, .slice A n c] 29)) := (Below.refl _ _).alloc (Nat.le_refl _) _; have hV0 : wo.heap.size < (wo.alloc (.cells #[.int .i64 m, .int .i64 p, .slice A n c] 29)).heap.size := (by simp); have hv0 : (wo.alloc (.cells #[.int .i64 m, .int .i64 p, .slice A n c] 29)).cell? ⟨wo.heap.size, 0, none⟩ = some (.int .i64 m) := (by rw [cell_of_row _ _ _ _ _ _ (heap_alloc_new wo _)]; rfl); have hv1 : (wo.alloc (.cells #[.int .i64 m, .int .i64 p, .slice A n c] 29)).cell? ⟨wo.heap.size, 1, none⟩ = some (.int .i64 p) := (by rw [cell_of_row _ _ _ _ _ _ (heap_alloc_new wo _)]; rfl); have hv2 : (wo.alloc (.cells #[.int .i64 m, .int .i64 p, .slice A n c] 29)).cell? ⟨wo.heap.size, 2, none⟩ = some (.slice A n c) := (by rw [cell_of_row _ _ _ _ _ _ (heap_alloc_new wo _)]; rfl); have HV1 : Hid (wo.heap.size + 1 = (wo.alloc (.cells #[.int .i64 m, .int .i64 p, .slice A n c] 29)).heap.size) := (show _ = _ by simp); generalize wo.alloc (.cells #[.int .i64 m, .int .i64 p, .slice A n c] 29) = w at hWV hV0 HV1 hv0 hv1 hv2 ⊢; have hr := h.below hWV; have hB : Below w.heap.size w w := Below.refl _ _; have hwz : wo.heap.size ≤ w.heap.size := hWV.size)
    go_wp2_with (go_at_call 58; refine (CI.out _ hr).mono ?_; rintro e w' ⟨rfl, hb⟩; have hB : Below w.heap.size w w' := Below.thenn (by repeat (first | exact Below.refl _ _ | assumption | apply Below.drew | apply below_drewN | (refine Below.alloc ?_ (by first | omega | (simp; done) | (simp; omega)) _) | (refine Below.setCell ?_ (by first | omega | (simp; done) | (simp; omega)) _))) hb (by first | omega | (simp; done) | (simp; omega)); have hz : w.heap.size ≤ w'.heap.size := hB.size; (try (have hz1 : w.heap.size + 1 ≤ w'.heap.size := (by have h := hb.size; (try simp at h); omega))); obtain ⟨hc, hf⟩ := bcell hb; clear hb)
    go_ret2
    exact ⟨rfl, Below.thenn hWV hB hwz⟩
  obtain ⟨hok, v0, v1⟩ := asked_iff hq
  have CW := Lib.hid (fun w' (h' : RdR w' 2 A n rows) => impl_brakeWay m p A n c rows v w' h' hok v0 v1)
  rw [show bwV m p rows v = dw (bsL m p rows v) by rw [dw_bsL]; unfold bwV bwOk; rw [hq, Bool.true_and], show bwOk m p rows v = brkK m p rows v by unfold bwOk; rw [hq, Bool.true_and]]
  generalize dw (bsL m p rows v) = z at CW ⊢
  generalize brkK m p rows v = b at CW ⊢
  clear ci hq hok
  go_enter Try.func22, Try.ntmps22
  (go_wp2_with fail; have hWV : Below wo.heap.size wo (wo.alloc (.cells #[.int .i64 m, .int .i64 p, .slice A n c] 29)) := (Below.refl _ _).alloc (Nat.le_refl _) _; have hV0 : wo.heap.size < (wo.alloc (.cells #[.int .i64 m, .int .i64 p, .slice A n c] 29)).heap.size := (by simp); have hv0 : (wo.alloc (.cells #[.int .i64 m, .int .i64 p, .slice A n c] 29)).cell? ⟨wo.heap.size, 0, none⟩ = some (.int .i64 m) := (by rw [cell_of_row _ _ _ _ _ _ (heap_alloc_new wo _)]; rfl); have hv1 : (wo.alloc (.cells #[.int .i64 m, .int .i64 p, .slice A n c] 29)).cell? ⟨wo.heap.size, 1, none⟩ = some (.int .i64 p) := (by rw [cell_of_row _ _ _ _ _ _ (heap_alloc_new wo _)]; rfl); have hv2 : (wo.alloc (.cells #[.int .i64 m, .int .i64 p, .slice A n c] 29)).cell? ⟨wo.heap.size, 2, none⟩ = some (.slice A n c) := (by rw [cell_of_row _ _ _ _ _ _ (heap_alloc_new wo _)]; rfl); have HV1 : Hid (wo.heap.size + 1 = (wo.alloc (.cells #[.int .i64 m, .int .i64 p, .slice A n c] 29)).heap.size) := (show _ = _ by simp); generalize wo.alloc (.cells #[.int .i64 m, .int .i64 p, .slice A n c] 29) = w at hWV hV0 HV1 hv0 hv1 hv2 ⊢; have hr := h.below hWV; have hB : Below w.heap.size w w := Below.refl _ _; have hwz : wo.heap.size ≤ w.heap.size := hWV.size)
  go_wp2_with (first | (go_at_call 58; refine (CI.out _ hr).mono ?_; rintro e w' ⟨rfl, hb⟩; have hB : Below w.heap.size w w' := Below.thenn (by repeat (first | exact Below.refl _ _ | assumption | apply Below.drew | apply below_drewN | (refine Below.alloc ?_ (by first | omega | (simp; done) | (simp; omega)) _) | (refine Below.setCell ?_ (by first | omega | (simp; done) | (simp; omega)) _))) hb (by first | omega | (simp; done) | (simp; omega)); have hz : w.heap.size ≤ w'.heap.size := hB.size; (try (have hz1 : w.heap.size + 1 ≤ w'.heap.size := (by have h := hb.size; (try simp at h); omega))); obtain ⟨hc, hf⟩ := bcell hb; have hor := Nat.lt_of_lt_of_le hV0 hz; clear hb) | (go_at_call 59; refine (CW.out _ (hr.below hB)).mono ?_; rintro e w2 ⟨rfl, hb2⟩; have hB2 : Below w.heap.size w w2 := Below.thenn hB hb2 hz))
  go_ret2
  exact ⟨rfl, Below.thenn hWV hB2 hwz⟩
theorem sel_alln {rows : List (List Int)} {n : Nat} (hl : rows.length = n) (hn : n ≤ 4) : sel (2 ^ n - 1) 0 rows = rows := by subst hl; exact sel_all rows hn
theorem pow_lt {n : Nat} (hn : n ≤ 4) : 2 ^ n - 1 < 65536 := by
  have := Nat.pow_le_pow_right (show 0 < 2 by omega) hn
  omega
set_option maxHeartbeats 1000000 in
theorem spec_BrakeWay (m p : Int) (A : Option Addr) (n c : Nat) (rows : List (List Int)) (v : Int) (wo : World) (h : RdR wo 2 A n rows) (hm : n ≤ 1048577) :
    Calls Try.prog 21 #[.agg #[.int .i64 m, .int .i64 p, .slice A n c], .int .i64 v] wo (Ret wo (.tuple #[.int .i64 (bwV m p rows v), .bool (bwOk m p rows v)])) := by
  have ci := fun w' (h' : RdR w' 2 A n rows) => spec_l10Asked m p A n c rows v w' h' hm
  rcases hq : (drvOk m p rows && inr v 0 100) with _ | _
  all_goals rw [hq] at ci
  all_goals have CI := Lib.hid ci
  · rw [show bwV m p rows v = 0 by unfold bwV bwOk; rw [hq]; rfl, show bwOk m p rows v = false by unfold bwOk; rw [hq]; rfl]
    clear ci hq
    go_enter Try.func21, Try.ntmps21
    (go_wp2_with fail; have hWV : Below wo.heap.size wo (wo.alloc (.cells #[.int .i64 m, .int .i64 p, .slice A n c] 29)) := (Below.refl _ _).alloc (Nat.le_refl _) _; have hV0 : wo.heap.size < (wo.alloc (.cells #[.int .i64 m, .int .i64 p, .slice A n c] 29)).heap.size := (by simp); have hv0 : (wo.alloc (.cells #[.int .i64 m, .int .i64 p, .slice A n c] 29)).cell? ⟨wo.heap.size, 0, none⟩ = some (.int .i64 m) := (by rw [cell_of_row _ _ _ _ _ _ (heap_alloc_new wo _)]; rfl); have hv1 : (wo.alloc (.cells #[.int .i64 m, .int .i64 p, .slice A n c] 29)).cell? ⟨wo.heap.size, 1, none⟩ = some (.int .i64 p) := (by rw [cell_of_row _ _ _ _ _ _ (heap_alloc_new wo _)]; rfl); have hv2 : (wo.alloc (.cells #[.int .i64 m, .int .i64 p, .slice A n c] 29)).cell? ⟨wo.heap.size, 2, none⟩ = some (.slice A n c) := (by rw [cell_of_row _ _ _ _ _ _ (heap_alloc_new wo _)]; rfl); have HV1 : Hid (wo.heap.size + 1 = (wo.alloc (.cells #[.int .i64 m, .int .i64 p, .slice A n c] 29)).heap.size) := (show _ = _ by simp); generalize wo.alloc (.cells #[.int .i64 m, .int .i64 p, .slice A n c] 29) = w at hWV hV0 HV1 hv0 hv1 hv2 ⊢; have hr := h.below hWV; have hB : Below w.heap.size w w := Below.refl _ _; have hwz : wo.heap.size ≤ w.heap.size := hWV.size)
    (refine wp_region_ext (by kernel_rfl) (by kernel_rfl) ?_; have hxe := ext_cells; (repeat (go_big_quiet_step ((go_at_call 55; exact ext_ret (CI.out _ (hr.below (Ext.below _))))))); refine wpQuiet_nil ?_; intro w' hw'; obtain ⟨nx, hw''⟩ := hw'; have hbx := ext_out hw''; clear hw'' nx hxe; have hB : Below w.heap.size w w' := Below.thenn (by repeat (first | exact Below.refl _ _ | assumption | apply Below.drew | apply below_drewN | (refine Below.alloc ?_ (by first | omega | (simp; done) | (simp; omega)) _) | (refine Below.setCell ?_ (by first | omega | (simp; done) | (simp; omega)) _))) hbx (by first | omega | (simp; done) | (simp; omega)); have hz : w.heap.size ≤ w'.heap.size := hB.size; obtain ⟨hc, hf⟩ := bcell hbx; clear hbx)
    go_wp2_with fail
    go_ret2
    exact ⟨rfl, Below.thenn hWV hB hwz⟩
  obtain ⟨hok, v0, v1⟩ := asked_iff hq
  have hn4 : n ≤ 4 := by have := (drvOk_iff.1 hok).1.2.2; have := h.2.2; omega
  have CA := Lib.hid (fun w' (h' : RdR w' 2 A n rows) => spec_l10All m p A n c rows w' h' hn4)
  have cw := fun w' (h' : RdR w' 2 A n rows) => spec_l10Way m p A n c (2 ^ n - 1) rows v w' h' hok v0 v1 (pow_lt hn4)
  rw [sel_alln h.2.2 hn4] at cw
  have CW := Lib.hid cw
  have hneg := wayZ_neg hok v0 v1
  rw [show bwV m p rows v = if brkK m p rows v then wayZ m p rows v else 0 by unfold bwV bwOk wayZ; rw [hq, Bool.true_and]; split <;> rfl, show bwOk m p rows v = brkK m p rows v by unfold bwOk; rw [hq, Bool.true_and]]
  generalize wayZ m p rows v = z at CW hneg ⊢
  generalize brkK m p rows v = b at hneg ⊢
  generalize 2 ^ n - 1 = S at CA CW
  clear ci hq hok cw
  rcases b with _ | _
  all_goals simp only [Bool.false_eq_true, if_false, if_true]
  · have hz0 : decide (z < 0) = true := by simpa using hneg
    clear hneg
    go_enter Try.func21, Try.ntmps21
    (go_wp2_with fail; have hWV : Below wo.heap.size wo (wo.alloc (.cells #[.int .i64 m, .int .i64 p, .slice A n c] 29)) := (Below.refl _ _).alloc (Nat.le_refl _) _; have hV0 : wo.heap.size < (wo.alloc (.cells #[.int .i64 m, .int .i64 p, .slice A n c] 29)).heap.size := (by simp); have hv0 : (wo.alloc (.cells #[.int .i64 m, .int .i64 p, .slice A n c] 29)).cell? ⟨wo.heap.size, 0, none⟩ = some (.int .i64 m) := (by rw [cell_of_row _ _ _ _ _ _ (heap_alloc_new wo _)]; rfl); have hv1 : (wo.alloc (.cells #[.int .i64 m, .int .i64 p, .slice A n c] 29)).cell? ⟨wo.heap.size, 1, none⟩ = some (.int .i64 p) := (by rw [cell_of_row _ _ _ _ _ _ (heap_alloc_new wo _)]; rfl); have hv2 : (wo.alloc (.cells #[.int .i64 m, .int .i64 p, .slice A n c] 29)).cell? ⟨wo.heap.size, 2, none⟩ = some (.slice A n c) := (by rw [cell_of_row _ _ _ _ _ _ (heap_alloc_new wo _)]; rfl); have HV1 : Hid (wo.heap.size + 1 = (wo.alloc (.cells #[.int .i64 m, .int .i64 p, .slice A n c] 29)).heap.size) := (show _ = _ by simp); generalize wo.alloc (.cells #[.int .i64 m, .int .i64 p, .slice A n c] 29) = w at hWV hV0 HV1 hv0 hv1 hv2 ⊢; have hr := h.below hWV; have hB : Below w.heap.size w w := Below.refl _ _; have hwz : wo.heap.size ≤ w.heap.size := hWV.size)
    (refine wp_region_ext (by kernel_rfl) (by kernel_rfl) ?_; have hxe := ext_cells; (repeat (go_big_quiet_step (first | (go_at_call 55; exact ext_ret (CI.out _ (hr.below (Ext.below _)))) | (go_at_call 57; exact ext_ret (CA.out _ (hr.below (Ext.below _)))) | (go_at_call 56; exact ext_ret (CW.out _ (hr.below (Ext.below _))))))); refine wpQuiet_nil ?_; intro w' hw'; obtain ⟨nx, hw''⟩ := hw'; have hbx := ext_out hw''; clear hw'' nx hxe; have hB : Below w.heap.size w w' := Below.thenn (by repeat (first | exact Below.refl _ _ | assumption | apply Below.drew | apply below_drewN | (refine Below.alloc ?_ (by first | omega | (simp; done) | (simp; omega)) _) | (refine Below.setCell ?_ (by first | omega | (simp; done) | (simp; omega)) _))) hbx (by first | omega | (simp; done) | (simp; omega)); have hz : w.heap.size ≤ w'.heap.size := hB.size; obtain ⟨hc, hf⟩ := bcell hbx; clear hbx)
    go_wp2_with fail
    go_ret2
    exact ⟨rfl, Below.thenn hWV hB hwz⟩
  · have hz0 : decide (z < 0) = false := by simpa using hneg
    clear hneg
    go_enter Try.func21, Try.ntmps21
    (go_wp2_with fail; have hWV : Below wo.heap.size wo (wo.alloc (.cells #[.int .i64 m, .int .i64 p, .slice A n c] 29)) := (Below.refl _ _).alloc (Nat.le_refl _) _; have hV0 : wo.heap.size < (wo.alloc (.cells #[.int .i64 m, .int .i64 p, .slice A n c] 29)).heap.size := (by simp); have hv0 : (wo.alloc (.cells #[.int .i64 m, .int .i64 p, .slice A n c] 29)).cell? ⟨wo.heap.size, 0, none⟩ = some (.int .i64 m) := (by rw [cell_of_row _ _ _ _ _ _ (heap_alloc_new wo _)]; rfl); have hv1 : (wo.alloc (.cells #[.int .i64 m, .int .i64 p, .slice A n c] 29)).cell? ⟨wo.heap.size, 1, none⟩ = some (.int .i64 p) := (by rw [cell_of_row _ _ _ _ _ _ (heap_alloc_new wo _)]; rfl); have hv2 : (wo.alloc (.cells #[.int .i64 m, .int .i64 p, .slice A n c] 29)).cell? ⟨wo.heap.size, 2, none⟩ = some (.slice A n c) := (by rw [cell_of_row _ _ _ _ _ _ (heap_alloc_new wo _)]; rfl); have HV1 : Hid (wo.heap.size + 1 = (wo.alloc (.cells #[.int .i64 m, .int .i64 p, .slice A n c] 29)).heap.size) := (show _ = _ by simp); generalize wo.alloc (.cells #[.int .i64 m, .int .i64 p, .slice A n c] 29) = w at hWV hV0 HV1 hv0 hv1 hv2 ⊢; have hr := h.below hWV; have hB : Below w.heap.size w w := Below.refl _ _; have hwz : wo.heap.size ≤ w.heap.size := hWV.size)
    (refine wp_region_ext (by kernel_rfl) (by kernel_rfl) ?_; have hxe := ext_cells; (repeat (go_big_quiet_step (first | (go_at_call 55; exact ext_ret (CI.out _ (hr.below (Ext.below _)))) | (go_at_call 57; exact ext_ret (CA.out _ (hr.below (Ext.below _)))) | (go_at_call 56; exact ext_ret (CW.out _ (hr.below (Ext.below _))))))); refine wpQuiet_nil ?_; intro w' hw'; obtain ⟨nx, hw''⟩ := hw'; have hbx := ext_out hw''; clear hw'' nx hxe; have hB : Below w.heap.size w w' := Below.thenn (by repeat (first | exact Below.refl _ _ | assumption | apply Below.drew | apply below_drewN | (refine Below.alloc ?_ (by first | omega | (simp; done) | (simp; omega)) _) | (refine Below.setCell ?_ (by first | omega | (simp; done) | (simp; omega)) _))) hbx (by first | omega | (simp; done) | (simp; omega)); have hz : w.heap.size ≤ w'.heap.size := hB.size; obtain ⟨hc, hf⟩ := bcell hbx; clear hbx)
    go_wp2_with fail
    clear hc hf
    have hr2 := hr.below hB
    obtain ⟨w1, rfl⟩ : ∃ w1, w1 = w' := ⟨_, rfl⟩
    have a0 := (hB.cell (p := ⟨wo.heap.size, 0, none⟩) hV0).trans hv0
    have a1 := (hB.cell (p := ⟨wo.heap.size, 1, none⟩) hV0).trans hv1
    have a2 := (hB.cell (p := ⟨wo.heap.size, 2, none⟩) hV0).trans hv2
    have hor := Nat.lt_of_lt_of_le hV0 hz
    (refine wp_region_ext (by kernel_rfl) (by kernel_rfl) ?_; have hxe := ext_cells; (repeat (go_big_quiet_step (first | (go_at_call 57; exact ext_ret (CA.out _ (hr2.below (Ext.below _)))) | (go_at_call 56; exact ext_ret (CW.out _ (hr2.below (Ext.below _))))))); refine wpQuiet_nil ?_; intro w' hw'; obtain ⟨nx, hw''⟩ := hw'; have hbx := ext_out hw''; clear hw'' nx hxe; have hB : Below w.heap.size w w' := Below.thenn (by repeat (first | exact Below.refl _ _ | assumption | apply Below.drew | apply below_drewN | (refine Below.alloc ?_ (by first | omega | (simp; done) | (simp; omega)) _) | (refine Below.setCell ?_ (by first | omega | (simp; done) | (simp; omega)) _))) hbx (by first | omega | (simp; done) | (simp; omega)); have hz : w.heap.size ≤ w'.heap.size := hB.size; obtain ⟨hc, hf⟩ := bcell hbx; clear hbx)
    go_wp2_with fail
    go_ret2
    exact ⟨rfl, Below.thenn hWV hB hwz⟩
set_option maxHeartbeats 1000000 in
theorem impl_BrakeSpeeds (m p : Int) (A : Option Addr) (n c : Nat) (rows : List (List Int)) (v : Int) (wo : World) (h : RdR wo 2 A n rows) (hm : n ≤ 1048577) :
    Calls Try.prog 26 #[.agg #[.int .i64 m, .int .i64 p, .slice A n c], .int .i64 v] wo (RetSB wo (bsV m p rows v) (bwOk m p rows v)) := by
  have ci := fun w' (h' : RdR w' 2 A n rows) => impl_isMoving m p A n c rows v w' h' hm
  rcases hq : (drvOk m p rows && inr v 0 100) with _ | _
  all_goals rw [hq] at ci
  all_goals have CI := Lib.hid ci
  · rw [show bsV m p rows v = [] by unfold bsV bwOk; rw [hq]; rfl, show bwOk m p rows v = false by unfold bwOk; rw [hq]; rfl]
    clear ci hq
    go_enter Try.func26, Try.ntmps26
    (go_wp2_with fail; have hWV : Below wo.heap.size wo (wo.alloc (.cells #[.int .i64 m, .int .i64 p, .slice A n c] 29)) := (Below.refl _ _).alloc (Nat.le_refl _) _; have hV0 : wo.heap.size < (wo.alloc (.cells #[.int .i64 m, .int .i64 p, .slice A n c] 29)).heap.size := (by simp); have hv0 : (wo.alloc (.cells #[.int .i64 m, .int .i64 p, .slice A n c] 29)).cell? ⟨wo.heap.size, 0, none⟩ = some (.int .i64 m) := (by rw [cell_of_row _ _ _ _ _ _ (heap_alloc_new wo _)]; rfl); have hv1 : (wo.alloc (.cells #[.int .i64 m, .int .i64 p, .slice A n c] 29)).cell? ⟨wo.heap.size, 1, none⟩ = some (.int .i64 p) := (by rw [cell_of_row _ _ _ _ _ _ (heap_alloc_new wo _)]; rfl); have hv2 : (wo.alloc (.cells #[.int .i64 m, .int .i64 p, .slice A n c] 29)).cell? ⟨wo.heap.size, 2, none⟩ = some (.slice A n c) := (by rw [cell_of_row _ _ _ _ _ _ (heap_alloc_new wo _)]; rfl); have HV1 : Hid (wo.heap.size + 1 = (wo.alloc (.cells #[.int .i64 m, .int .i64 p, .slice A n c] 29)).heap.size) := (show _ = _ by simp); generalize wo.alloc (.cells #[.int .i64 m, .int .i64 p, .slice A n c] 29) = w at hWV hV0 HV1 hv0 hv1 hv2 ⊢; have hr := h.below hWV; have hB : Below w.heap.size w w := Below.refl _ _; have hwz : wo.heap.size ≤ w.heap.size := hWV.size)
    go_wp2_with (go_at_call 58; refine (CI.out _ hr).mono ?_; rintro e w' ⟨rfl, hb⟩; have hB : Below w.heap.size w w' := Below.thenn (by repeat (first | exact Below.refl _ _ | assumption | apply Below.drew | apply below_drewN | (refine Below.alloc ?_ (by first | omega | (simp; done) | (simp; omega)) _) | (refine Below.setCell ?_ (by first | omega | (simp; done) | (simp; omega)) _))) hb (by first | omega | (simp; done) | (simp; omega)); have hz : w.heap.size ≤ w'.heap.size := hB.size; (try (have hz1 : w.heap.size + 1 ≤ w'.heap.size := (by have h := hb.size; (try simp at h); omega))); obtain ⟨hc, hf⟩ := bcell hb; clear hb)
    go_ret2
    exact ⟨none, 0, rfl, Ow.nil _ _, Below.thenn hWV hB hwz⟩
  obtain ⟨hok, v0, v1⟩ := asked_iff hq
  have CW := Lib.hid (fun w' (h' : RdR w' 2 A n rows) => impl_brakeSpeeds m p A n c rows v w' h' hok v0 v1)
  rw [show bsV m p rows v = bsL m p rows v by unfold bsV bsL bwOk; rw [hq, Bool.true_and], show bwOk m p rows v = brkK m p rows v by unfold bwOk; rw [hq, Bool.true_and]]
  generalize bsL m p rows v = zs at CW ⊢
  generalize brkK m p rows v = b at CW ⊢
  clear ci hq hok
  go_enter Try.func26, Try.ntmps26
  (go_wp2_with fail; have hWV : Below wo.heap.size wo (wo.alloc (.cells #[.int .i64 m, .int .i64 p, .slice A n c] 29)) := (Below.refl _ _).alloc (Nat.le_refl _) _; have hV0 : wo.heap.size < (wo.alloc (.cells #[.int .i64 m, .int .i64 p, .slice A n c] 29)).heap.size := (by simp); have hv0 : (wo.alloc (.cells #[.int .i64 m, .int .i64 p, .slice A n c] 29)).cell? ⟨wo.heap.size, 0, none⟩ = some (.int .i64 m) := (by rw [cell_of_row _ _ _ _ _ _ (heap_alloc_new wo _)]; rfl); have hv1 : (wo.alloc (.cells #[.int .i64 m, .int .i64 p, .slice A n c] 29)).cell? ⟨wo.heap.size, 1, none⟩ = some (.int .i64 p) := (by rw [cell_of_row _ _ _ _ _ _ (heap_alloc_new wo _)]; rfl); have hv2 : (wo.alloc (.cells #[.int .i64 m, .int .i64 p, .slice A n c] 29)).cell? ⟨wo.heap.size, 2, none⟩ = some (.slice A n c) := (by rw [cell_of_row _ _ _ _ _ _ (heap_alloc_new wo _)]; rfl); have HV1 : Hid (wo.heap.size + 1 = (wo.alloc (.cells #[.int .i64 m, .int .i64 p, .slice A n c] 29)).heap.size) := (show _ = _ by simp); generalize wo.alloc (.cells #[.int .i64 m, .int .i64 p, .slice A n c] 29) = w at hWV hV0 HV1 hv0 hv1 hv2 ⊢; have hr := h.below hWV; have hB : Below w.heap.size w w := Below.refl _ _; have hwz : wo.heap.size ≤ w.heap.size := hWV.size)
  go_wp2_with (first | (go_at_call 58; refine (CI.out _ hr).mono ?_; rintro e w' ⟨rfl, hb⟩; have hB : Below w.heap.size w w' := Below.thenn (by repeat (first | exact Below.refl _ _ | assumption | apply Below.drew | apply below_drewN | (refine Below.alloc ?_ (by first | omega | (simp; done) | (simp; omega)) _) | (refine Below.setCell ?_ (by first | omega | (simp; done) | (simp; omega)) _))) hb (by first | omega | (simp; done) | (simp; omega)); have hz : w.heap.size ≤ w'.heap.size := hB.size; (try (have hz1 : w.heap.size + 1 ≤ w'.heap.size := (by have h := hb.size; (try simp at h); omega))); obtain ⟨hc, hf⟩ := bcell hb; have hor := Nat.lt_of_lt_of_le hV0 hz; clear hb) | (go_at_call 61; refine (CW.out _ (hr.below hB)).mono ?_; rintro e w2 ⟨A1, c1, rfl, ho1, hb2⟩; have hB2 : Below w.heap.size w w2 := Below.thenn hB hb2 hz; have HO1 := Lib.hid ho1; clear ho1 hb2))
  go_ret2
  exact ⟨A1, c1, rfl, HO1.out.base (Nat.le_trans hwz hz), Below.thenn hWV hB2 hwz⟩
set_option maxHeartbeats 1000000 in
theorem spec_BrakeSpeeds (m p : Int) (A : Option Addr) (n c : Nat) (rows : List (List Int)) (v : Int) (wo : World) (h : RdR wo 2 A n rows) (hm : n ≤ 1048577) :
    Calls Try.prog 25 #[.agg #[.int .i64 m, .int .i64 p, .slice A n c], .int .i64 v] wo (RetSB wo (bsV m p rows v) (bwOk m p rows v)) := by
  have ci := fun w' (h' : RdR w' 2 A n rows) => spec_l10Asked m p A n c rows v w' h' hm
  rcases hq : (drvOk m p rows && inr v 0 100) with _ | _
  all_goals rw [hq] at ci
  all_goals have CI := Lib.hid ci
  · rw [show bsV m p rows v = [] by unfold bsV bwOk; rw [hq]; rfl, show bwOk m p rows v = false by unfold bwOk; rw [hq]; rfl]
    clear ci hq
    go_enter Try.func25, Try.ntmps25
    (go_wp2_with fail; have hWV : Below wo.heap.size wo (wo.alloc (.cells #[.int .i64 m, .int .i64 p, .slice A n c] 29)) := (Below.refl _ _).alloc (Nat.le_refl _) _; have hV0 : wo.heap.size < (wo.alloc (.cells #[.int .i64 m, .int .i64 p, .slice A n c] 29)).heap.size := (by simp); have hv0 : (wo.alloc (.cells #[.int .i64 m, .int .i64 p, .slice A n c] 29)).cell? ⟨wo.heap.size, 0, none⟩ = some (.int .i64 m) := (by rw [cell_of_row _ _ _ _ _ _ (heap_alloc_new wo _)]; rfl); have hv1 : (wo.alloc (.cells #[.int .i64 m, .int .i64 p, .slice A n c] 29)).cell? ⟨wo.heap.size, 1, none⟩ = some (.int .i64 p) := (by rw [cell_of_row _ _ _ _ _ _ (heap_alloc_new wo _)]; rfl); have hv2 : (wo.alloc (.cells #[.int .i64 m, .int .i64 p, .slice A n c] 29)).cell? ⟨wo.heap.size, 2, none⟩ = some (.slice A n c) := (by rw [cell_of_row _ _ _ _ _ _ (heap_alloc_new wo _)]; rfl); have HV1 : Hid (wo.heap.size + 1 = (wo.alloc (.cells #[.int .i64 m, .int .i64 p, .slice A n c] 29)).heap.size) := (show _ = _ by simp); generalize wo.alloc (.cells #[.int .i64 m, .int .i64 p, .slice A n c] 29) = w at hWV hV0 HV1 hv0 hv1 hv2 ⊢; have hr := h.below hWV; have hB : Below w.heap.size w w := Below.refl _ _; have hwz : wo.heap.size ≤ w.heap.size := hWV.size)
    go_wp2_with (go_at_call 55; refine (CI.out _ hr).mono ?_; rintro e w' ⟨rfl, hb⟩; have hB : Below w.heap.size w w' := Below.thenn (by repeat (first | exact Below.refl _ _ | assumption | apply Below.drew | apply below_drewN | (refine Below.alloc ?_ (by first | omega | (simp; done) | (simp; omega)) _) | (refine Below.setCell ?_ (by first | omega | (simp; done) | (simp; omega)) _))) hb (by first | omega | (simp; done) | (simp; omega)); have hz : w.heap.size ≤ w'.heap.size := hB.size; (try (have hz1 : w.heap.size + 1 ≤ w'.heap.size := (by have h := hb.size; (try simp at h); omega))); obtain ⟨hc, hf⟩ := bcell hb; clear hb)
    go_ret2
    exact ⟨some ⟨_, 0, none⟩, 0, rfl, Ow.lit0 _ _ (Nat.le_trans hwz hz), Below.thenn hWV (hB.alloc hz _) hwz⟩
  obtain ⟨hok, v0, v1⟩ := asked_iff hq
  have hn4 : n ≤ 4 := by have := (drvOk_iff.1 hok).1.2.2; have := h.2.2; omega
  have CA := Lib.hid (fun w' (h' : RdR w' 2 A n rows) => spec_l10All m p A n c rows w' h' hn4)
  have cw := fun w' (h' : RdR w' 2 A n rows) => spec_l10Speeds m p A n c (2 ^ n - 1) rows v w' h' hok v0 v1 (pow_lt hn4)
  rw [sel_alln h.2.2 hn4] at cw
  have CW := Lib.hid cw
  rw [show bsV m p rows v = if brkK m p rows v then brkS m p rows v else [] by unfold bsV bwOk; rw [hq, Bool.true_and], show bwOk m p rows v = brkK m p rows v by unfold bwOk; rw [hq, Bool.true_and]]
  generalize brkS m p rows v = zs at CW ⊢
  generalize brkK m p rows v = b at CW ⊢
  generalize 2 ^ n - 1 = S at CA CW
  have HB : Hid (∀ z, z = b → (if b = true then zs else []) = if z = true then zs else []) := fun z e => by rw [e]
  generalize (if b = true then zs else []) = R at HB ⊢
  clear ci hq hok cw
  go_enter Try.func25, Try.ntmps25
  (go_wp2_with fail; have hWV : Below wo.heap.size wo (wo.alloc (.cells #[.int .i64 m, .int .i64 p, .slice A n c] 29)) := (Below.refl _ _).alloc (Nat.le_refl _) _; have hV0 : wo.heap.size < (wo.alloc (.cells #[.int .i64 m, .int .i64 p, .slice A n c] 29)).heap.size := (by simp); have hv0 : (wo.alloc (.cells #[.int .i64 m, .int .i64 p, .slice A n c] 29)).cell? ⟨wo.heap.size, 0, none⟩ = some (.int .i64 m) := (by rw [cell_of_row _ _ _ _ _ _ (heap_alloc_new wo _)]; rfl); have hv1 : (wo.alloc (.cells #[.int .i64 m, .int .i64 p, .slice A n c] 29)).cell? ⟨wo.heap.size, 1, none⟩ = some (.int .i64 p) := (by rw [cell_of_row _ _ _ _ _ _ (heap_alloc_new wo _)]; rfl); have hv2 : (wo.alloc (.cells #[.int .i64 m, .int .i64 p, .slice A n c] 29)).cell? ⟨wo.heap.size, 2, none⟩ = some (.slice A n c) := (by rw [cell_of_row _ _ _ _ _ _ (heap_alloc_new wo _)]; rfl); have HV1 : Hid (wo.heap.size + 1 = (wo.alloc (.cells #[.int .i64 m, .int .i64 p, .slice A n c] 29)).heap.size) := (show _ = _ by simp); generalize wo.alloc (.cells #[.int .i64 m, .int .i64 p, .slice A n c] 29) = w at hWV hV0 HV1 hv0 hv1 hv2 ⊢; have hr := h.below hWV; have hB : Below w.heap.size w w := Below.refl _ _; have hwz : wo.heap.size ≤ w.heap.size := hWV.size)
  go_wp2_with (go_at_call 55; refine (CI.out _ hr).mono ?_; rintro e w' ⟨rfl, hb⟩; have hB : Below w.heap.size w w' := Below.thenn (by repeat (first | exact Below.refl _ _ | assumption | apply Below.drew | apply below_drewN | (refine Below.alloc ?_ (by first | omega | (simp; done) | (simp; omega)) _) | (refine Below.setCell ?_ (by first | omega | (simp; done) | (simp; omega)) _))) hb (by first | omega | (simp; done) | (simp; omega)); have hz : w.heap.size ≤ w'.heap.size := hB.size; (try (have hz1 : w.heap.size + 1 ≤ w'.heap.size := (by have h := hb.size; (try simp at h); omega))); obtain ⟨hc, hf⟩ := bcell hb; have hor := Nat.lt_of_lt_of_le hV0 hz; have a0 := (hB.cell (p := ⟨wo.heap.size, 0, none⟩) hV0).trans hv0; have a1 := (hB.cell (p := ⟨wo.heap.size, 1, none⟩) hV0).trans hv1; have a2 := (hB.cell (p := ⟨wo.heap.size, 2, none⟩) hV0).trans hv2; clear hb)
  obtain ⟨w1, rfl⟩ : ∃ w1, w1 = w' := ⟨_, rfl⟩
  have hr2 := hr.below hB
  clear hv0 hv1 hv2 hc hf
  go_cut [6, 7] (fun q6 q7 wx => ∃ A1 c1, q6 = .slice A1 zs.length c1 ∧ q7 = .bool b ∧ Below w1.heap.size w1 wx ∧ Hid (Ow wx w1.heap.size (.slice A1 zs.length c1) zs))
  case first =>
    go_region_held3 (fun w' => w'.cell? ⟨wo.heap.size, 0, none⟩ = some (.int .i64 m) ∧ w'.cell? ⟨wo.heap.size, 1, none⟩ = some (.int .i64 p) ∧ w'.cell? ⟨wo.heap.size, 2, none⟩ = some (.slice A n c))
      (first | exact ⟨a0, a1, a2⟩ | exact ⟨(hBq.cell (p := ⟨wo.heap.size, 0, none⟩) hor).trans a0, (hBq.cell (p := ⟨wo.heap.size, 1, none⟩) hor).trans a1, (hBq.cell (p := ⟨wo.heap.size, 2, none⟩) hor).trans a2⟩ | exact ⟨(hBz.cell (p := ⟨wo.heap.size, 0, none⟩) hor).trans a0, (hBz.cell (p := ⟨wo.heap.size, 1, none⟩) hor).trans a1, (hBz.cell (p := ⟨wo.heap.size, 2, none⟩) hor).trans a2⟩)
      (first | (go_at_call 57; refine (CA.out _ (hr2.below (by first | exact Below.refl _ _ | exact Below.drew (Below.refl _ _)))).mono ?_; rintro e wq ⟨rfl, hbq⟩; have hBq : Below w1.heap.size w1 wq := Below.thenn (by first | exact Below.refl _ _ | exact Below.drew (Below.refl _ _)) hbq (by first | omega | (simp; done) | (simp; omega)); have hzq : w1.heap.size ≤ wq.heap.size := hBq.size; clear hbq) | (go_at_call 60; refine (CW.out _ (hr2.below hBq)).mono ?_; rintro e wz ⟨A1, c1, rfl, ho1, hbz⟩; have hBz : Below w1.heap.size w1 wz := Below.thenn hBq hbz hzq; have HO1 := Lib.hid (ho1.base (B' := w1.heap.size) hzq); clear hbz ho1))
    all_goals go_wp2_with fail
    all_goals go_meet
    all_goals exact ⟨A1, c1, rfl, rfl, hBz, HO1.out⟩
  case rest =>
    obtain ⟨A1, c1, rfl, rfl, hb, HO1⟩ := hcut
    have hB2 : Below w.heap.size w wc := Below.thenn hB hb hz
    have hz2 : w.heap.size ≤ wc.heap.size := hB2.size
    clear a0 a1 a2
    rcases b with _ | _
    · have e := HB.out false rfl
      simp only [Bool.false_eq_true, if_false] at e
      go_wp2_with fail
      go_ret2
      exact ⟨some ⟨_, 0, none⟩, 0, ret_ssb (by rw [e]; rfl), by rw [e]; exact Ow.lit0 _ _ (Nat.le_trans hwz hz2), Below.thenn hWV (hB2.alloc hz2 _) hwz⟩
    · have e := HB.out true rfl
      simp only [if_true] at e
      go_wp2_with fail
      go_ret2
      exact ⟨A1, c1, ret_ssb (by rw [e]), by rw [e]; exact HO1.out.base (Nat.le_trans hwz hz), Below.thenn hWV hB2 hwz⟩
end Go.Proofs.Ythijklidjdhkdaa
