/- The brakes: the worst pull. -/
import Derived.Test.YthijklidjdhkdaaBrkI
namespace Go.Proofs.Ythijklidjdhkdaa
open Go.RowKit
set_option linter.unusedVariables false
set_option linter.unusedSimpArgs false

def pullG (m : Int) (rows : List (List Int)) (v low : Int) (i : Nat) : Option Int := if brkK m (low + i) rows v then some (dw (brkS m (low + i) rows v)) else none
def wpOk (m p : Int) (rows : List (List Int)) (v low high : Int) : Bool := ((drvOk m p rows && inr v 0 100) && inr low (-100000) 100000) && inr high low (min (low + 100) 100000)
def wpR (m p : Int) (rows : List (List Int)) (v low high : Int) : Option (Int × Int) :=
  if wpOk m p rows v low high then wbF (fun i => low + i) (pullG m rows v low) (high - low + 1).toNat 0 0 (-1) else none
theorem pullG_some {m v low : Int} {rows : List (List Int)} {i : Nat} (h : brkK m (low + i) rows v = true) : pullG m rows v low i = some (dw (brkS m (low + i) rows v)) := by unfold pullG; rw [h]; rfl
theorem pullG_none {m v low : Int} {rows : List (List Int)} {i : Nat} (h : brkK m (low + i) rows v = false) : pullG m rows v low i = none := by unfold pullG; rw [h]; rfl
theorem drv_pull {m p q : Int} {rows : List (List Int)} (h : drvOk m p rows = true) (h0 : -100000 ≤ q) (h1 : q ≤ 100000) : drvOk m q rows = true := by
  obtain ⟨⟨hm, hp, hn⟩, hb⟩ := drvOk_iff.1 h
  exact drvOk_iff.2 ⟨⟨hm, ⟨h0, h1⟩, hn⟩, hb⟩
set_option maxRecDepth 100000 in
set_option maxHeartbeats 3000000 in
theorem impl_WorstPull (m p : Int) (A : Option Addr) (n c : Nat) (rows : List (List Int)) (v low high : Int) (wo : World) (h : RdR wo 2 A n rows) (hm : n ≤ 1048577) :
    Calls Try.prog 32 #[.agg #[.int .i64 m, .int .i64 p, .slice A n c], .int .i64 v, .int .i64 low, .int .i64 high] wo (Ret wo (.tuple #[.int .i64 (o1 (wpR m p rows v low high)), .int .i64 (o2 (wpR m p rows v low high)), .bool (o3 (wpR m p rows v low high))])) := by
  have ci := fun w' (h' : RdR w' 2 A n rows) => impl_isMoving m p A n c rows v w' h' hm
  rcases hq : (drvOk m p rows && inr v 0 100) with _ | _
  all_goals rw [hq] at ci
  all_goals have CI := Lib.hid ci
  · rw [show wpR m p rows v low high = none by unfold wpR wpOk; rw [hq]; rfl]
    simp only [o1, o2, o3, Option.isSome_none]
    clear ci hq
    go_enter Try.func32, Try.ntmps32
    (go_wp2_with fail; have hWV : Below wo.heap.size wo (wo.alloc (.cells #[.int .i64 m, .int .i64 p, .slice A n c] 29)) := (Below.refl _ _).alloc (Nat.le_refl _) _; have hV0 : wo.heap.size < (wo.alloc (.cells #[.int .i64 m, .int .i64 p, .slice A n c] 29)).heap.size := (by simp); have hv0 : (wo.alloc (.cells #[.int .i64 m, .int .i64 p, .slice A n c] 29)).cell? ⟨wo.heap.size, 0, none⟩ = some (.int .i64 m) := (by rw [cell_of_row _ _ _ _ _ _ (heap_alloc_new wo _)]; rfl); have hv1 : (wo.alloc (.cells #[.int .i64 m, .int .i64 p, .slice A n c] 29)).cell? ⟨wo.heap.size, 1, none⟩ = some (.int .i64 p) := (by rw [cell_of_row _ _ _ _ _ _ (heap_alloc_new wo _)]; rfl); have hv2 : (wo.alloc (.cells #[.int .i64 m, .int .i64 p, .slice A n c] 29)).cell? ⟨wo.heap.size, 2, none⟩ = some (.slice A n c) := (by rw [cell_of_row _ _ _ _ _ _ (heap_alloc_new wo _)]; rfl); have HV1 : Hid (wo.heap.size + 1 = (wo.alloc (.cells #[.int .i64 m, .int .i64 p, .slice A n c] 29)).heap.size) := (show _ = _ by simp); generalize wo.alloc (.cells #[.int .i64 m, .int .i64 p, .slice A n c] 29) = w at hWV hV0 HV1 hv0 hv1 hv2 ⊢; have hr := h.below hWV; have hB : Below w.heap.size w w := Below.refl _ _; have hwz : wo.heap.size ≤ w.heap.size := hWV.size)
    go_wp2_with (go_at_call 58; refine (CI.out _ hr).mono ?_; rintro e w' ⟨rfl, hb⟩; have hB : Below w.heap.size w w' := Below.thenn (by repeat (first | exact Below.refl _ _ | assumption | apply Below.drew | apply below_drewN | (refine Below.alloc ?_ (by first | omega | (simp; done) | (simp; omega)) _) | (refine Below.setCell ?_ (by first | omega | (simp; done) | (simp; omega)) _))) hb (by first | omega | (simp; done) | (simp; omega)); have hz : w.heap.size ≤ w'.heap.size := hB.size; (try (have hz1 : w.heap.size + 1 ≤ w'.heap.size := (by have h := hb.size; (try simp at h); omega))); obtain ⟨hc, hf⟩ := bcell hb; have hB3 : Below wo.heap.size wo w' := Below.thenn hWV hB hwz; clear hb)
    (go_light; refine bodyPost_ret ?_ rfl ⟨rfl, (by repeat (first | exact Below.refl _ _ | assumption | apply Below.drew | apply below_drewN | (refine Below.alloc ?_ (by first | omega | (simp; done) | (simp; omega)) _) | (refine Below.setCell ?_ (by first | omega | (simp; done) | (simp; omega)) _)))⟩; simp [results, Try.results32, go_sem, *])
  have c1' := fun w' => impl_within low (-100000) 100000 w'
  rcases h1 : inr low (-100000) 100000 with _ | _
  all_goals rw [h1] at c1'
  all_goals have C1 := Lib.hid c1'
  · rw [show wpR m p rows v low high = none by unfold wpR wpOk; rw [h1]; simp]
    simp only [o1, o2, o3, Option.isSome_none]
    clear ci hq c1' h1
    go_enter Try.func32, Try.ntmps32
    (go_wp2_with fail; have hWV : Below wo.heap.size wo (wo.alloc (.cells #[.int .i64 m, .int .i64 p, .slice A n c] 29)) := (Below.refl _ _).alloc (Nat.le_refl _) _; have hV0 : wo.heap.size < (wo.alloc (.cells #[.int .i64 m, .int .i64 p, .slice A n c] 29)).heap.size := (by simp); have hv0 : (wo.alloc (.cells #[.int .i64 m, .int .i64 p, .slice A n c] 29)).cell? ⟨wo.heap.size, 0, none⟩ = some (.int .i64 m) := (by rw [cell_of_row _ _ _ _ _ _ (heap_alloc_new wo _)]; rfl); have hv1 : (wo.alloc (.cells #[.int .i64 m, .int .i64 p, .slice A n c] 29)).cell? ⟨wo.heap.size, 1, none⟩ = some (.int .i64 p) := (by rw [cell_of_row _ _ _ _ _ _ (heap_alloc_new wo _)]; rfl); have hv2 : (wo.alloc (.cells #[.int .i64 m, .int .i64 p, .slice A n c] 29)).cell? ⟨wo.heap.size, 2, none⟩ = some (.slice A n c) := (by rw [cell_of_row _ _ _ _ _ _ (heap_alloc_new wo _)]; rfl); have HV1 : Hid (wo.heap.size + 1 = (wo.alloc (.cells #[.int .i64 m, .int .i64 p, .slice A n c] 29)).heap.size) := (show _ = _ by simp); generalize wo.alloc (.cells #[.int .i64 m, .int .i64 p, .slice A n c] 29) = w at hWV hV0 HV1 hv0 hv1 hv2 ⊢; have hr := h.below hWV; have hB : Below w.heap.size w w := Below.refl _ _; have hwz : wo.heap.size ≤ w.heap.size := hWV.size)
    go_wp2_with (first | (go_at_call 58; refine (CI.out _ hr).mono ?_; rintro e w' ⟨rfl, hb⟩; have hB : Below w.heap.size w w' := Below.thenn (by repeat (first | exact Below.refl _ _ | assumption | apply Below.drew | apply below_drewN | (refine Below.alloc ?_ (by first | omega | (simp; done) | (simp; omega)) _) | (refine Below.setCell ?_ (by first | omega | (simp; done) | (simp; omega)) _))) hb (by first | omega | (simp; done) | (simp; omega)); have hz : w.heap.size ≤ w'.heap.size := hB.size; (try (have hz1 : w.heap.size + 1 ≤ w'.heap.size := (by have h := hb.size; (try simp at h); omega))); obtain ⟨hc, hf⟩ := bcell hb; have hB3 : Below wo.heap.size wo w' := Below.thenn hWV hB hwz; clear hb) | (go_at_call 51; (with_reducible refine (C1.out _).mono ?_); rintro e w' ⟨rfl, rfl⟩))
    (go_light; refine bodyPost_ret ?_ rfl ⟨rfl, (by repeat (first | exact Below.refl _ _ | assumption | apply Below.drew | apply below_drewN | (refine Below.alloc ?_ (by first | omega | (simp; done) | (simp; omega)) _) | (refine Below.setCell ?_ (by first | omega | (simp; done) | (simp; omega)) _)))⟩; simp [results, Try.results32, go_sem, *])
  have hlb := (show -100000 ≤ low ∧ low ≤ 100000 by simpa [inr] using h1)
  have l0 := hlb.1
  have l1 := hlb.2
  have c2' := fun w' => impl_within high low (min (low + 100) 100000) w'
  obtain ⟨M, hM⟩ : ∃ M, M = min (low + 100) 100000 := ⟨_, rfl⟩
  rw [← hM] at c2'
  have hMb : (low + 100 ≤ 100000 → M = low + 100) ∧ (¬ low + 100 ≤ 100000 → M = 100000) := by omega
  rcases h2 : inr high low M with _ | _
  all_goals rw [h2] at c2'
  all_goals have C2 := Lib.hid c2'
  · rw [show wpR m p rows v low high = none by unfold wpR wpOk; rw [← hM, h2]; simp]
    simp only [o1, o2, o3, Option.isSome_none]
    clear ci hq c1' h1 c2' h2 hlb hM
    by_cases hle : low + 100 ≤ 100000
    · obtain rfl := hMb.1 hle
      clear hMb
      go_enter Try.func32, Try.ntmps32
      (go_wp2_with fail; have hWV : Below wo.heap.size wo (wo.alloc (.cells #[.int .i64 m, .int .i64 p, .slice A n c] 29)) := (Below.refl _ _).alloc (Nat.le_refl _) _; have hV0 : wo.heap.size < (wo.alloc (.cells #[.int .i64 m, .int .i64 p, .slice A n c] 29)).heap.size := (by simp); have hv0 : (wo.alloc (.cells #[.int .i64 m, .int .i64 p, .slice A n c] 29)).cell? ⟨wo.heap.size, 0, none⟩ = some (.int .i64 m) := (by rw [cell_of_row _ _ _ _ _ _ (heap_alloc_new wo _)]; rfl); have hv1 : (wo.alloc (.cells #[.int .i64 m, .int .i64 p, .slice A n c] 29)).cell? ⟨wo.heap.size, 1, none⟩ = some (.int .i64 p) := (by rw [cell_of_row _ _ _ _ _ _ (heap_alloc_new wo _)]; rfl); have hv2 : (wo.alloc (.cells #[.int .i64 m, .int .i64 p, .slice A n c] 29)).cell? ⟨wo.heap.size, 2, none⟩ = some (.slice A n c) := (by rw [cell_of_row _ _ _ _ _ _ (heap_alloc_new wo _)]; rfl); have HV1 : Hid (wo.heap.size + 1 = (wo.alloc (.cells #[.int .i64 m, .int .i64 p, .slice A n c] 29)).heap.size) := (show _ = _ by simp); generalize wo.alloc (.cells #[.int .i64 m, .int .i64 p, .slice A n c] 29) = w at hWV hV0 HV1 hv0 hv1 hv2 ⊢; have hr := h.below hWV; have hB : Below w.heap.size w w := Below.refl _ _; have hwz : wo.heap.size ≤ w.heap.size := hWV.size)
      go_wp2_with (first | (go_at_call 58; refine (CI.out _ hr).mono ?_; rintro e w' ⟨rfl, hb⟩; have hB : Below w.heap.size w w' := Below.thenn (by repeat (first | exact Below.refl _ _ | assumption | apply Below.drew | apply below_drewN | (refine Below.alloc ?_ (by first | omega | (simp; done) | (simp; omega)) _) | (refine Below.setCell ?_ (by first | omega | (simp; done) | (simp; omega)) _))) hb (by first | omega | (simp; done) | (simp; omega)); have hz : w.heap.size ≤ w'.heap.size := hB.size; (try (have hz1 : w.heap.size + 1 ≤ w'.heap.size := (by have h := hb.size; (try simp at h); omega))); obtain ⟨hc, hf⟩ := bcell hb; have hB3 : Below wo.heap.size wo w' := Below.thenn hWV hB hwz; clear hb) | (go_at_call 51; (with_reducible refine (C1.out _).mono ?_); rintro e w' ⟨rfl, rfl⟩) | (go_at_call 51; (with_reducible refine (C2.out _).mono ?_); rintro e w' ⟨rfl, rfl⟩))
      (go_light; refine bodyPost_ret ?_ rfl ⟨rfl, (by repeat (first | exact Below.refl _ _ | assumption | apply Below.drew | apply below_drewN | (refine Below.alloc ?_ (by first | omega | (simp; done) | (simp; omega)) _) | (refine Below.setCell ?_ (by first | omega | (simp; done) | (simp; omega)) _)))⟩; simp [results, Try.results32, go_sem, *])
    · obtain rfl := hMb.2 hle
      clear hMb
      go_enter Try.func32, Try.ntmps32
      (go_wp2_with fail; have hWV : Below wo.heap.size wo (wo.alloc (.cells #[.int .i64 m, .int .i64 p, .slice A n c] 29)) := (Below.refl _ _).alloc (Nat.le_refl _) _; have hV0 : wo.heap.size < (wo.alloc (.cells #[.int .i64 m, .int .i64 p, .slice A n c] 29)).heap.size := (by simp); have hv0 : (wo.alloc (.cells #[.int .i64 m, .int .i64 p, .slice A n c] 29)).cell? ⟨wo.heap.size, 0, none⟩ = some (.int .i64 m) := (by rw [cell_of_row _ _ _ _ _ _ (heap_alloc_new wo _)]; rfl); have hv1 : (wo.alloc (.cells #[.int .i64 m, .int .i64 p, .slice A n c] 29)).cell? ⟨wo.heap.size, 1, none⟩ = some (.int .i64 p) := (by rw [cell_of_row _ _ _ _ _ _ (heap_alloc_new wo _)]; rfl); have hv2 : (wo.alloc (.cells #[.int .i64 m, .int .i64 p, .slice A n c] 29)).cell? ⟨wo.heap.size, 2, none⟩ = some (.slice A n c) := (by rw [cell_of_row _ _ _ _ _ _ (heap_alloc_new wo _)]; rfl); have HV1 : Hid (wo.heap.size + 1 = (wo.alloc (.cells #[.int .i64 m, .int .i64 p, .slice A n c] 29)).heap.size) := (show _ = _ by simp); generalize wo.alloc (.cells #[.int .i64 m, .int .i64 p, .slice A n c] 29) = w at hWV hV0 HV1 hv0 hv1 hv2 ⊢; have hr := h.below hWV; have hB : Below w.heap.size w w := Below.refl _ _; have hwz : wo.heap.size ≤ w.heap.size := hWV.size)
      go_wp2_with (first | (go_at_call 58; refine (CI.out _ hr).mono ?_; rintro e w' ⟨rfl, hb⟩; have hB : Below w.heap.size w w' := Below.thenn (by repeat (first | exact Below.refl _ _ | assumption | apply Below.drew | apply below_drewN | (refine Below.alloc ?_ (by first | omega | (simp; done) | (simp; omega)) _) | (refine Below.setCell ?_ (by first | omega | (simp; done) | (simp; omega)) _))) hb (by first | omega | (simp; done) | (simp; omega)); have hz : w.heap.size ≤ w'.heap.size := hB.size; (try (have hz1 : w.heap.size + 1 ≤ w'.heap.size := (by have h := hb.size; (try simp at h); omega))); obtain ⟨hc, hf⟩ := bcell hb; have hB3 : Below wo.heap.size wo w' := Below.thenn hWV hB hwz; clear hb) | (go_at_call 51; (with_reducible refine (C1.out _).mono ?_); rintro e w' ⟨rfl, rfl⟩) | (go_at_call 51; (with_reducible refine (C2.out _).mono ?_); rintro e w' ⟨rfl, rfl⟩))
      (go_light; refine bodyPost_ret ?_ rfl ⟨rfl, (by repeat (first | exact Below.refl _ _ | assumption | apply Below.drew | apply below_drewN | (refine Below.alloc ?_ (by first | omega | (simp; done) | (simp; omega)) _) | (refine Below.setCell ?_ (by first | omega | (simp; done) | (simp; omega)) _)))⟩; simp [results, Try.results32, go_sem, *])
  obtain ⟨hok, v0, v1⟩ := asked_iff hq
  have hhb := (show low ≤ high ∧ high ≤ M by simpa [inr] using h2)
  have hh0 := hhb.1
  have hh1 : high ≤ 100000 := by omega
  have hh2 : high ≤ low + 100 := by omega
  have hOK : wpOk m p rows v low high = true := by unfold wpOk; rw [hq, h1, ← hM, h2]; rfl
  have HOK := Lib.hid hok
  generalize hR : wpR m p rows v low high = R
  obtain ⟨L, hL⟩ : ∃ L : Nat, L = (high - low + 1).toNat := ⟨_, rfl⟩
  have hLb : (L : Int) = high - low + 1 := by omega
  have HR : Hid (R = wbF (fun i => low + i) (pullG m rows v low) L 0 0 (-1)) := (show _ = _ by rw [← hR]; unfold wpR; rw [hOK, hL]; rfl)
  have CB := Lib.hid (fun (k : Nat) (hk : k < L) w' (h' : RdR w' 2 A n rows) => impl_brakeWay m (low + k) A n c rows v w' h' (drv_pull HOK.out (by omega) (by omega)) v0 v1)
  clear ci hq hok hR hOK hL h1 h2 c1' c2' hlb hhb
  have HM := Lib.hid hM
  clear hM
  by_cases hle : low + 100 ≤ 100000
  · obtain rfl := hMb.1 hle
    clear hMb HM
    go_enter Try.func32, Try.ntmps32
    (go_wp2_with fail; have hWV : Below wo.heap.size wo (wo.alloc (.cells #[.int .i64 m, .int .i64 p, .slice A n c] 29)) := (Below.refl _ _).alloc (Nat.le_refl _) _; have hV0 : wo.heap.size < (wo.alloc (.cells #[.int .i64 m, .int .i64 p, .slice A n c] 29)).heap.size := (by simp); have hv0 : (wo.alloc (.cells #[.int .i64 m, .int .i64 p, .slice A n c] 29)).cell? ⟨wo.heap.size, 0, none⟩ = some (.int .i64 m) := (by rw [cell_of_row _ _ _ _ _ _ (heap_alloc_new wo _)]; rfl); have hv1 : (wo.alloc (.cells #[.int .i64 m, .int .i64 p, .slice A n c] 29)).cell? ⟨wo.heap.size, 1, none⟩ = some (.int .i64 p) := (by rw [cell_of_row _ _ _ _ _ _ (heap_alloc_new wo _)]; rfl); have hv2 : (wo.alloc (.cells #[.int .i64 m, .int .i64 p, .slice A n c] 29)).cell? ⟨wo.heap.size, 2, none⟩ = some (.slice A n c) := (by rw [cell_of_row _ _ _ _ _ _ (heap_alloc_new wo _)]; rfl); have HV1 : Hid (wo.heap.size + 1 = (wo.alloc (.cells #[.int .i64 m, .int .i64 p, .slice A n c] 29)).heap.size) := (show _ = _ by simp); generalize wo.alloc (.cells #[.int .i64 m, .int .i64 p, .slice A n c] 29) = w at hWV hV0 HV1 hv0 hv1 hv2 ⊢; have hr := h.below hWV; have hB : Below w.heap.size w w := Below.refl _ _; have hwz : wo.heap.size ≤ w.heap.size := hWV.size)
    go_wp2_with (first | (go_at_call 58; refine (CI.out _ hr).mono ?_; rintro e w' ⟨rfl, hb⟩; have hB : Below w.heap.size w w' := Below.thenn (by repeat (first | exact Below.refl _ _ | assumption | apply Below.drew | apply below_drewN | (refine Below.alloc ?_ (by first | omega | (simp; done) | (simp; omega)) _) | (refine Below.setCell ?_ (by first | omega | (simp; done) | (simp; omega)) _))) hb (by first | omega | (simp; done) | (simp; omega)); have hz : w.heap.size ≤ w'.heap.size := hB.size; (try (have hz1 : w.heap.size + 1 ≤ w'.heap.size := (by have h := hb.size; (try simp at h); omega))); obtain ⟨hc, hf⟩ := bcell hb; skip; clear hb) | (go_at_call 51; (with_reducible refine (C1.out _).mono ?_); rintro e w' ⟨rfl, rfl⟩) | (go_at_call 51; (with_reducible refine (C2.out _).mono ?_); rintro e w' ⟨rfl, rfl⟩))
    clear hc hf
    go_loopg [11, 12, 13] L (fun gg s11 s12 s13 wr => ∃ (k : Nat) (bb mo : Int), k ≤ L ∧ L ≤ k + gg ∧ s11 = .int .i64 bb ∧ s12 = .int .i64 mo ∧ s13 = .int .i64 (low + k) ∧ Below w.heap.size w wr ∧ w.heap.size ≤ wr.heap.size ∧ Hid (R = wbF (fun i => low + i) (pullG m rows v low) (L - k) k bb mo))
    case atStart => exact ⟨0, 0, -1, by omega, by omega, rfl, rfl, by simp, hB, hz, HR.out⟩
    case round =>
      clear hB hz
      obtain ⟨k, bb, mo, hk1, hk2, rfl, rfl, rfl, hBr, hzr, ha⟩ := hrel
      have a0 := (hBr.cell (p := ⟨wo.heap.size, 0, none⟩) hV0).trans hv0
      have a1 := (hBr.cell (p := ⟨wo.heap.size, 1, none⟩) hV0).trans hv1
      have a2 := (hBr.cell (p := ⟨wo.heap.size, 2, none⟩) hV0).trans hv2
      have hor := Nat.lt_of_lt_of_le hV0 hzr
      have hr2 := hr.below hBr
      by_cases hlt : k < L
      · have hltz : low + (k : Int) ≤ high := by omega
        have cb := CB.out k hlt
        rw [dw_bsL] at cb
        rcases hb : brkK m (low + k) rows v with _ | _
        · obtain rfl : R = none := ha.out.trans (wbF_none hlt (pullG_none hb))
          rw [hb] at cb
          simp only [Bool.false_eq_true, if_false] at cb
          have CK := Lib.hid cb
          clear hb cb ha HR
          go_wp2_with (go_at_call 59; refine (CK.out _ hr2).mono ?_; rintro e w3 ⟨rfl, hb3⟩; have hB4 : Below w.heap.size w w3 := Below.thenn hBr hb3 hzr; have hB3 : Below wo.heap.size wo w3 := Below.thenn hWV hB4 hwz; clear hb3)
          (go_light; refine bodyPost_ret ?_ rfl ⟨rfl, (by repeat (first | exact Below.refl _ _ | assumption | apply Below.drew | apply below_drewN | (refine Below.alloc ?_ (by first | omega | (simp; done) | (simp; omega)) _) | (refine Below.setCell ?_ (by first | omega | (simp; done) | (simp; omega)) _)))⟩; simp [results, Try.results32, go_sem, *, o1, o2, o3])
        · have hs := pullG_some hb
          rw [hb] at cb
          simp only [if_true] at cb
          generalize dw (brkS m (low + k) rows v) = z at cb hs
          have CK := Lib.hid cb
          have HS := Lib.hid hs
          clear hb cb hs
          by_cases hz1 : mo < z
          · have HX := Lib.hid (wbF_up (e := fun i => low + (i : Int)) (b := bb) hlt HS.out hz1)
            go_wp2_with (go_at_call 59; refine (CK.out _ hr2).mono ?_; rintro e w3 ⟨rfl, hb3⟩; have hB4 : Below w.heap.size w w3 := Below.thenn hBr hb3 hzr; clear hb3)
            go_roundg (L - (k + 1))
            case measure => omega
            case rel => exact ⟨k + 1, low + k, z, by omega, by omega, rfl, rfl, by first | (congr 1; omega) | (simp; omega), hB4, hB4.size, ha.out.trans HX.out⟩
          · have HX := Lib.hid (wbF_keep (e := fun i => low + (i : Int)) (b := bb) hlt HS.out hz1)
            go_wp2_with (go_at_call 59; refine (CK.out _ hr2).mono ?_; rintro e w3 ⟨rfl, hb3⟩; have hB4 : Below w.heap.size w w3 := Below.thenn hBr hb3 hzr; clear hb3)
            go_roundg (L - (k + 1))
            case measure => omega
            case rel => exact ⟨k + 1, bb, mo, by omega, by omega, rfl, rfl, by first | (congr 1; omega) | (simp; omega), hB4, hB4.size, ha.out.trans HX.out⟩
      · have hltz : ¬ low + (k : Int) ≤ high := by omega
        obtain rfl : R = some (bb, mo) := ha.out.trans (wbF_end (by omega))
        have hB3 : Below wo.heap.size wo wr := Below.thenn hWV hBr hwz
        clear ha HR
        go_wp2_with fail
        (go_light; refine bodyPost_ret ?_ rfl ⟨rfl, (by repeat (first | exact Below.refl _ _ | assumption | apply Below.drew | apply below_drewN | (refine Below.alloc ?_ (by first | omega | (simp; done) | (simp; omega)) _) | (refine Below.setCell ?_ (by first | omega | (simp; done) | (simp; omega)) _)))⟩; simp [results, Try.results32, go_sem, *, o1, o2, o3])
  · obtain rfl := hMb.2 hle
    clear hMb HM
    go_enter Try.func32, Try.ntmps32
    (go_wp2_with fail; have hWV : Below wo.heap.size wo (wo.alloc (.cells #[.int .i64 m, .int .i64 p, .slice A n c] 29)) := (Below.refl _ _).alloc (Nat.le_refl _) _; have hV0 : wo.heap.size < (wo.alloc (.cells #[.int .i64 m, .int .i64 p, .slice A n c] 29)).heap.size := (by simp); have hv0 : (wo.alloc (.cells #[.int .i64 m, .int .i64 p, .slice A n c] 29)).cell? ⟨wo.heap.size, 0, none⟩ = some (.int .i64 m) := (by rw [cell_of_row _ _ _ _ _ _ (heap_alloc_new wo _)]; rfl); have hv1 : (wo.alloc (.cells #[.int .i64 m, .int .i64 p, .slice A n c] 29)).cell? ⟨wo.heap.size, 1, none⟩ = some (.int .i64 p) := (by rw [cell_of_row _ _ _ _ _ _ (heap_alloc_new wo _)]; rfl); have hv2 : (wo.alloc (.cells #[.int .i64 m, .int .i64 p, .slice A n c] 29)).cell? ⟨wo.heap.size, 2, none⟩ = some (.slice A n c) := (by rw [cell_of_row _ _ _ _ _ _ (heap_alloc_new wo _)]; rfl); have HV1 : Hid (wo.heap.size + 1 = (wo.alloc (.cells #[.int .i64 m, .int .i64 p, .slice A n c] 29)).heap.size) := (show _ = _ by simp); generalize wo.alloc (.cells #[.int .i64 m, .int .i64 p, .slice A n c] 29) = w at hWV hV0 HV1 hv0 hv1 hv2 ⊢; have hr := h.below hWV; have hB : Below w.heap.size w w := Below.refl _ _; have hwz : wo.heap.size ≤ w.heap.size := hWV.size)
    go_wp2_with (first | (go_at_call 58; refine (CI.out _ hr).mono ?_; rintro e w' ⟨rfl, hb⟩; have hB : Below w.heap.size w w' := Below.thenn (by repeat (first | exact Below.refl _ _ | assumption | apply Below.drew | apply below_drewN | (refine Below.alloc ?_ (by first | omega | (simp; done) | (simp; omega)) _) | (refine Below.setCell ?_ (by first | omega | (simp; done) | (simp; omega)) _))) hb (by first | omega | (simp; done) | (simp; omega)); have hz : w.heap.size ≤ w'.heap.size := hB.size; (try (have hz1 : w.heap.size + 1 ≤ w'.heap.size := (by have h := hb.size; (try simp at h); omega))); obtain ⟨hc, hf⟩ := bcell hb; skip; clear hb) | (go_at_call 51; (with_reducible refine (C1.out _).mono ?_); rintro e w' ⟨rfl, rfl⟩) | (go_at_call 51; (with_reducible refine (C2.out _).mono ?_); rintro e w' ⟨rfl, rfl⟩))
    clear hc hf
    go_loopg [11, 12, 13] L (fun gg s11 s12 s13 wr => ∃ (k : Nat) (bb mo : Int), k ≤ L ∧ L ≤ k + gg ∧ s11 = .int .i64 bb ∧ s12 = .int .i64 mo ∧ s13 = .int .i64 (low + k) ∧ Below w.heap.size w wr ∧ w.heap.size ≤ wr.heap.size ∧ Hid (R = wbF (fun i => low + i) (pullG m rows v low) (L - k) k bb mo))
    case atStart => exact ⟨0, 0, -1, by omega, by omega, rfl, rfl, by simp, hB, hz, HR.out⟩
    case round =>
      clear hB hz
      obtain ⟨k, bb, mo, hk1, hk2, rfl, rfl, rfl, hBr, hzr, ha⟩ := hrel
      have a0 := (hBr.cell (p := ⟨wo.heap.size, 0, none⟩) hV0).trans hv0
      have a1 := (hBr.cell (p := ⟨wo.heap.size, 1, none⟩) hV0).trans hv1
      have a2 := (hBr.cell (p := ⟨wo.heap.size, 2, none⟩) hV0).trans hv2
      have hor := Nat.lt_of_lt_of_le hV0 hzr
      have hr2 := hr.below hBr
      by_cases hlt : k < L
      · have hltz : low + (k : Int) ≤ high := by omega
        have cb := CB.out k hlt
        rw [dw_bsL] at cb
        rcases hb : brkK m (low + k) rows v with _ | _
        · obtain rfl : R = none := ha.out.trans (wbF_none hlt (pullG_none hb))
          rw [hb] at cb
          simp only [Bool.false_eq_true, if_false] at cb
          have CK := Lib.hid cb
          clear hb cb ha HR
          go_wp2_with (go_at_call 59; refine (CK.out _ hr2).mono ?_; rintro e w3 ⟨rfl, hb3⟩; have hB4 : Below w.heap.size w w3 := Below.thenn hBr hb3 hzr; have hB3 : Below wo.heap.size wo w3 := Below.thenn hWV hB4 hwz; clear hb3)
          (go_light; refine bodyPost_ret ?_ rfl ⟨rfl, (by repeat (first | exact Below.refl _ _ | assumption | apply Below.drew | apply below_drewN | (refine Below.alloc ?_ (by first | omega | (simp; done) | (simp; omega)) _) | (refine Below.setCell ?_ (by first | omega | (simp; done) | (simp; omega)) _)))⟩; simp [results, Try.results32, go_sem, *, o1, o2, o3])
        · have hs := pullG_some hb
          rw [hb] at cb
          simp only [if_true] at cb
          generalize dw (brkS m (low + k) rows v) = z at cb hs
          have CK := Lib.hid cb
          have HS := Lib.hid hs
          clear hb cb hs
          by_cases hz1 : mo < z
          · have HX := Lib.hid (wbF_up (e := fun i => low + (i : Int)) (b := bb) hlt HS.out hz1)
            go_wp2_with (go_at_call 59; refine (CK.out _ hr2).mono ?_; rintro e w3 ⟨rfl, hb3⟩; have hB4 : Below w.heap.size w w3 := Below.thenn hBr hb3 hzr; clear hb3)
            go_roundg (L - (k + 1))
            case measure => omega
            case rel => exact ⟨k + 1, low + k, z, by omega, by omega, rfl, rfl, by first | (congr 1; omega) | (simp; omega), hB4, hB4.size, ha.out.trans HX.out⟩
          · have HX := Lib.hid (wbF_keep (e := fun i => low + (i : Int)) (b := bb) hlt HS.out hz1)
            go_wp2_with (go_at_call 59; refine (CK.out _ hr2).mono ?_; rintro e w3 ⟨rfl, hb3⟩; have hB4 : Below w.heap.size w w3 := Below.thenn hBr hb3 hzr; clear hb3)
            go_roundg (L - (k + 1))
            case measure => omega
            case rel => exact ⟨k + 1, bb, mo, by omega, by omega, rfl, rfl, by first | (congr 1; omega) | (simp; omega), hB4, hB4.size, ha.out.trans HX.out⟩
      · have hltz : ¬ low + (k : Int) ≤ high := by omega
        obtain rfl : R = some (bb, mo) := ha.out.trans (wbF_end (by omega))
        have hB3 : Below wo.heap.size wo wr := Below.thenn hWV hBr hwz
        clear ha HR
        go_wp2_with fail
        (go_light; refine bodyPost_ret ?_ rfl ⟨rfl, (by repeat (first | exact Below.refl _ _ | assumption | apply Below.drew | apply below_drewN | (refine Below.alloc ?_ (by first | omega | (simp; done) | (simp; omega)) _) | (refine Below.setCell ?_ (by first | omega | (simp; done) | (simp; omega)) _)))⟩; simp [results, Try.results32, go_sem, *, o1, o2, o3])
end Go.Proofs.Ythijklidjdhkdaa
