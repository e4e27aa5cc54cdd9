/- The brakes: do they hold the rope still? -/
import Derived.Test.YthijklidjdhkdaaBrkA
namespace Go.Proofs.Ythijklidjdhkdaa
open Go.RowKit
set_option linter.unusedVariables false
set_option linter.unusedSimpArgs false

def sumF : Int → List (List Int) → Int
  | z, [] => z
  | z, r :: rs => sumF (z + fld r 0) rs
theorem drop_atB {α : Type} {xs : List α} {k : Nat} {x : α} (h : xs[k]? = some x) : xs.drop k = x :: xs.drop (k + 1) := drop_atI h
theorem sumF_next {rows : List (List Int)} {k : Nat} {a b z : Int} (h : rows[k]? = some [a, b]) : sumF z (rows.drop k) = sumF (z + a) (rows.drop (k + 1)) := by rw [drop_atB h]; rfl
theorem sumF_end {rows : List (List Int)} {n k : Nat} {z : Int} (h : rows.length = n) (hk : n ≤ k) : sumF z (rows.drop k) = z := by rw [List.drop_of_length_le (by omega)]; rfl
def hsV (m p : Int) (rows : List (List Int)) : Bool := drvOk m p rows && decide (p ≤ sumF 0 rows)
set_option maxHeartbeats 1000000 in
theorem spec_HoldsStill (m p : Int) (A : Option Addr) (n c : Nat) (rows : List (List Int)) (wo : World) (h : RdR wo 2 A n rows) (hm : n ≤ 1048577) :
    Calls Try.prog 19 #[.agg #[.int .i64 m, .int .i64 p, .slice A n c]] wo (Ret wo (.tuple #[.bool (hsV m p rows), .bool (drvOk m p rows)])) := by
  have hl := Lib.hid h.2.2
  have cg := fun w' (h' : RdR w' 2 A n rows) => spec_l10Good m p A n c rows w' h' hm
  rcases hg : drvOk m p rows with _ | _
  all_goals rw [hg] at cg
  all_goals have CG := Lib.hid cg
  all_goals clear cg
  · rw [show hsV m p rows = false by simp [hsV, hg]]
    clear hg
    go_enter Try.func19, Try.ntmps19
    (go_wp2_with fail; have hWV : Below wo.heap.size wo (wo.alloc (.cells #[.int .i64 m, .int .i64 p, .slice A n c] 29)) := (Below.refl _ _).alloc (Nat.le_refl _) _; have hV0 : wo.heap.size < (wo.alloc (.cells #[.int .i64 m, .int .i64 p, .slice A n c] 29)).heap.size := (by simp); have hv0 : (wo.alloc (.cells #[.int .i64 m, .int .i64 p, .slice A n c] 29)).cell? ⟨wo.heap.size, 0, none⟩ = some (.int .i64 m) := (by rw [cell_of_row _ _ _ _ _ _ (heap_alloc_new wo _)]; rfl); have hv1 : (wo.alloc (.cells #[.int .i64 m, .int .i64 p, .slice A n c] 29)).cell? ⟨wo.heap.size, 1, none⟩ = some (.int .i64 p) := (by rw [cell_of_row _ _ _ _ _ _ (heap_alloc_new wo _)]; rfl); have hv2 : (wo.alloc (.cells #[.int .i64 m, .int .i64 p, .slice A n c] 29)).cell? ⟨wo.heap.size, 2, none⟩ = some (.slice A n c) := (by rw [cell_of_row _ _ _ _ _ _ (heap_alloc_new wo _)]; rfl); have HV1 : Hid (wo.heap.size + 1 = (wo.alloc (.cells #[.int .i64 m, .int .i64 p, .slice A n c] 29)).heap.size) := (show _ = _ by simp); generalize wo.alloc (.cells #[.int .i64 m, .int .i64 p, .slice A n c] 29) = w at hWV hV0 HV1 hv0 hv1 hv2 ⊢; have hr := h.below hWV; have hB : Below w.heap.size w w := Below.refl _ _; have hwz : wo.heap.size ≤ w.heap.size := hWV.size)
    go_wp2_with (go_at_call 49; refine (CG.out _ hr).mono ?_; rintro e w' ⟨rfl, hb⟩; have hB : Below w.heap.size w w' := Below.thenn (by repeat (first | exact Below.refl _ _ | assumption | apply Below.drew | apply below_drewN | (refine Below.alloc ?_ (by first | omega | (simp; done) | (simp; omega)) _) | (refine Below.setCell ?_ (by first | omega | (simp; done) | (simp; omega)) _))) hb (by first | omega | (simp; done) | (simp; omega)); have hz : w.heap.size ≤ w'.heap.size := hB.size; (try (have hz1 : w.heap.size + 1 ≤ w'.heap.size := (by have h := hb.size; (try simp at h); omega))); obtain ⟨hc, hf⟩ := bcell hb; clear hb)
    go_ret2
    exact ⟨rfl, Below.thenn hWV hB hWV.size⟩
  rw [show hsV m p rows = decide (p ≤ sumF 0 rows) by simp [hsV, hg]]
  obtain ⟨⟨hm1, hp1, hn1⟩, hal⟩ := drvOk_iff.1 hg
  have HA := Lib.hid hal
  have hn : n ≤ 4 := by have := hl.out; omega
  clear hg hn1 hal
  have p0 := hp1.1
  have p1 := hp1.2
  go_enter Try.func19, Try.ntmps19
  (go_wp2_with fail; have hWV : Below wo.heap.size wo (wo.alloc (.cells #[.int .i64 m, .int .i64 p, .slice A n c] 29)) := (Below.refl _ _).alloc (Nat.le_refl _) _; have hV0 : wo.heap.size < (wo.alloc (.cells #[.int .i64 m, .int .i64 p, .slice A n c] 29)).heap.size := (by simp); have hv0 : (wo.alloc (.cells #[.int .i64 m, .int .i64 p, .slice A n c] 29)).cell? ⟨wo.heap.size, 0, none⟩ = some (.int .i64 m) := (by rw [cell_of_row _ _ _ _ _ _ (heap_alloc_new wo _)]; rfl); have hv1 : (wo.alloc (.cells #[.int .i64 m, .int .i64 p, .slice A n c] 29)).cell? ⟨wo.heap.size, 1, none⟩ = some (.int .i64 p) := (by rw [cell_of_row _ _ _ _ _ _ (heap_alloc_new wo _)]; rfl); have hv2 : (wo.alloc (.cells #[.int .i64 m, .int .i64 p, .slice A n c] 29)).cell? ⟨wo.heap.size, 2, none⟩ = some (.slice A n c) := (by rw [cell_of_row _ _ _ _ _ _ (heap_alloc_new wo _)]; rfl); have HV1 : Hid (wo.heap.size + 1 = (wo.alloc (.cells #[.int .i64 m, .int .i64 p, .slice A n c] 29)).heap.size) := (show _ = _ by simp); generalize wo.alloc (.cells #[.int .i64 m, .int .i64 p, .slice A n c] 29) = w at hWV hV0 HV1 hv0 hv1 hv2 ⊢; have hr := h.below hWV; have hB : Below w.heap.size w w := Below.refl _ _; have hwz : wo.heap.size ≤ w.heap.size := hWV.size)
  go_wp2_with (go_at_call 49; refine (CG.out _ hr).mono ?_; rintro e w' ⟨rfl, hb⟩; have hB : Below w.heap.size w w' := Below.thenn (by repeat (first | exact Below.refl _ _ | assumption | apply Below.drew | apply below_drewN | (refine Below.alloc ?_ (by first | omega | (simp; done) | (simp; omega)) _) | (refine Below.setCell ?_ (by first | omega | (simp; done) | (simp; omega)) _))) hb (by first | omega | (simp; done) | (simp; omega)); have hz : w.heap.size ≤ w'.heap.size := hB.size; (try (have hz1 : w.heap.size + 1 ≤ w'.heap.size := (by have h := hb.size; (try simp at h); omega))); obtain ⟨hc, hf⟩ := bcell hb; have hor := Nat.lt_of_lt_of_le hV0 hz; have a1 := (hB.cell (p := ⟨wo.heap.size, 1, none⟩) hV0).trans hv1; have a2 := (hB.cell (p := ⟨wo.heap.size, 2, none⟩) hV0).trans hv2; clear hb)
  obtain ⟨w1, rfl⟩ : ∃ w1, w1 = w' := ⟨_, rfl⟩
  go_loopg [5, 4] n (fun gg i s wr => ∃ (k : Nat) (z : Int), k ≤ n ∧ n ≤ k + gg ∧ i = .int .i64 k ∧ s = .int .i64 z ∧ 0 ≤ z ∧ z ≤ 100000 * k ∧ w1 = wr ∧ Hid (sumF z (rows.drop k) = sumF 0 rows))
  case atStart => exact ⟨0, 0, by omega, by omega, rfl, rfl, by omega, by omega, rfl, rfl⟩
  case round =>
    obtain ⟨k, z, hk1, hk2, rfl, rfl, hz0, hz1, rfl, ha⟩ := hrel
    by_cases hlt : k < n
    · obtain ⟨b, off, x0, x1, rfl, hrw, hblt, c0, c1⟩ := (hr.below hB).row2 hlt
      have hx := brk_at HA.out hrw
      have x00 := hx.1.1
      have x01 := hx.1.2
      have HRW := Lib.hid hrw
      have HH := Lib.hid h
      have HHR := Lib.hid hr
      clear hrw h hr hx
      go_wp2_with fail
      go_roundg (n - (k + 1))
      case measure => omega
      case rel => exact ⟨k + 1, z + x0, by omega, by omega, by go_num, rfl, by omega, by omega, rfl, (sumF_next HRW.out).symm.trans ha.out⟩
    · go_wp2_with fail
      go_ret2
      exact ⟨ret_bb (by rw [← ha.out, sumF_end hl.out (by omega)]) rfl, Below.thenn hWV hB hWV.size⟩
set_option maxHeartbeats 1000000 in
theorem impl_HoldsStill (m p : Int) (A : Option Addr) (n c : Nat) (rows : List (List Int)) (wo : World) (h : RdR wo 2 A n rows) (hm : n ≤ 1048577) :
    Calls Try.prog 20 #[.agg #[.int .i64 m, .int .i64 p, .slice A n c]] wo (Ret wo (.tuple #[.bool (hsV m p rows), .bool (drvOk m p rows)])) := by
  have hl := Lib.hid h.2.2
  have cg := fun w' (h' : RdR w' 2 A n rows) => impl_IsDrive m p A n c rows w' h' hm
  rcases hg : drvOk m p rows with _ | _
  all_goals rw [hg] at cg
  all_goals have CG := Lib.hid cg
  all_goals clear cg
  · rw [show hsV m p rows = false by simp [hsV, hg]]
    clear hg
    go_enter Try.func20, Try.ntmps20
    (go_wp2_with fail; have hWV : Below wo.heap.size wo (wo.alloc (.cells #[.int .i64 m, .int .i64 p, .slice A n c] 29)) := (Below.refl _ _).alloc (Nat.le_refl _) _; have hV0 : wo.heap.size < (wo.alloc (.cells #[.int .i64 m, .int .i64 p, .slice A n c] 29)).heap.size := (by simp); have hv0 : (wo.alloc (.cells #[.int .i64 m, .int .i64 p, .slice A n c] 29)).cell? ⟨wo.heap.size, 0, none⟩ = some (.int .i64 m) := (by rw [cell_of_row _ _ _ _ _ _ (heap_alloc_new wo _)]; rfl); have hv1 : (wo.alloc (.cells #[.int .i64 m, .int .i64 p, .slice A n c] 29)).cell? ⟨wo.heap.size, 1, none⟩ = some (.int .i64 p) := (by rw [cell_of_row _ _ _ _ _ _ (heap_alloc_new wo _)]; rfl); have hv2 : (wo.alloc (.cells #[.int .i64 m, .int .i64 p, .slice A n c] 29)).cell? ⟨wo.heap.size, 2, none⟩ = some (.slice A n c) := (by rw [cell_of_row _ _ _ _ _ _ (heap_alloc_new wo _)]; rfl); have HV1 : Hid (wo.heap.size + 1 = (wo.alloc (.cells #[.int .i64 m, .int .i64 p, .slice A n c] 29)).heap.size) := (show _ = _ by simp); generalize wo.alloc (.cells #[.int .i64 m, .int .i64 p, .slice A n c] 29) = w at hWV hV0 HV1 hv0 hv1 hv2 ⊢; have hr := h.below hWV; have hB : Below w.heap.size w w := Below.refl _ _; have hwz : wo.heap.size ≤ w.heap.size := hWV.size)
    go_wp2_with (go_at_call 17; refine (CG.out _ hr).mono ?_; rintro e w' ⟨rfl, hb⟩; have hB : Below w.heap.size w w' := Below.thenn (by repeat (first | exact Below.refl _ _ | assumption | apply Below.drew | apply below_drewN | (refine Below.alloc ?_ (by first | omega | (simp; done) | (simp; omega)) _) | (refine Below.setCell ?_ (by first | omega | (simp; done) | (simp; omega)) _))) hb (by first | omega | (simp; done) | (simp; omega)); have hz : w.heap.size ≤ w'.heap.size := hB.size; (try (have hz1 : w.heap.size + 1 ≤ w'.heap.size := (by have h := hb.size; (try simp at h); omega))); obtain ⟨hc, hf⟩ := bcell hb; clear hb)
    go_ret2
    exact ⟨rfl, Below.thenn hWV hB hWV.size⟩
  rw [show hsV m p rows = decide (p ≤ sumF 0 rows) by simp [hsV, hg]]
  obtain ⟨⟨hm1, hp1, hn1⟩, hal⟩ := drvOk_iff.1 hg
  have HA := Lib.hid hal
  have hn : n ≤ 4 := by have := hl.out; omega
  clear hg hn1 hal
  have p0 := hp1.1
  have p1 := hp1.2
  go_enter Try.func20, Try.ntmps20
  (go_wp2_with fail; have hWV : Below wo.heap.size wo (wo.alloc (.cells #[.int .i64 m, .int .i64 p, .slice A n c] 29)) := (Below.refl _ _).alloc (Nat.le_refl _) _; have hV0 : wo.heap.size < (wo.alloc (.cells #[.int .i64 m, .int .i64 p, .slice A n c] 29)).heap.size := (by simp); have hv0 : (wo.alloc (.cells #[.int .i64 m, .int .i64 p, .slice A n c] 29)).cell? ⟨wo.heap.size, 0, none⟩ = some (.int .i64 m) := (by rw [cell_of_row _ _ _ _ _ _ (heap_alloc_new wo _)]; rfl); have hv1 : (wo.alloc (.cells #[.int .i64 m, .int .i64 p, .slice A n c] 29)).cell? ⟨wo.heap.size, 1, none⟩ = some (.int .i64 p) := (by rw [cell_of_row _ _ _ _ _ _ (heap_alloc_new wo _)]; rfl); have hv2 : (wo.alloc (.cells #[.int .i64 m, .int .i64 p, .slice A n c] 29)).cell? ⟨wo.heap.size, 2, none⟩ = some (.slice A n c) := (by rw [cell_of_row _ _ _ _ _ _ (heap_alloc_new wo _)]; rfl); have HV1 : Hid (wo.heap.size + 1 = (wo.alloc (.cells #[.int .i64 m, .int .i64 p, .slice A n c] 29)).heap.size) := (show _ = _ by simp); generalize wo.alloc (.cells #[.int .i64 m, .int .i64 p, .slice A n c] 29) = w at hWV hV0 HV1 hv0 hv1 hv2 ⊢; have hr := h.below hWV; have hB : Below w.heap.size w w := Below.refl _ _; have hwz : wo.heap.size ≤ w.heap.size := hWV.size)
  go_wp2_with (go_at_call 17; refine (CG.out _ hr).mono ?_; rintro e w' ⟨rfl, hb⟩; have hB : Below w.heap.size w w' := Below.thenn (by repeat (first | exact Below.refl _ _ | assumption | apply Below.drew | apply below_drewN | (refine Below.alloc ?_ (by first | omega | (simp; done) | (simp; omega)) _) | (refine Below.setCell ?_ (by first | omega | (simp; done) | (simp; omega)) _))) hb (by first | omega | (simp; done) | (simp; omega)); have hz : w.heap.size ≤ w'.heap.size := hB.size; (try (have hz1 : w.heap.size + 1 ≤ w'.heap.size := (by have h := hb.size; (try simp at h); omega))); obtain ⟨hc, hf⟩ := bcell hb; have hor := Nat.lt_of_lt_of_le hV0 hz; have a1 := (hB.cell (p := ⟨wo.heap.size, 1, none⟩) hV0).trans hv1; have a2 := (hB.cell (p := ⟨wo.heap.size, 2, none⟩) hV0).trans hv2; clear hb)
  obtain ⟨w1, rfl⟩ : ∃ w1, w1 = w' := ⟨_, rfl⟩
  clear hc hf hv0 hv1 hv2
  go_loopg [13, 4] n (fun gg i s wr => ∃ (k : Nat) (z : Int), k ≤ n ∧ n ≤ k + gg ∧ i = .int .i64 k ∧ s = .int .i64 z ∧ 0 ≤ z ∧ z ≤ 100000 * k ∧ Below w1.heap.size w1 wr ∧ w1.heap.size ≤ wr.heap.size ∧ Hid (sumF z (rows.drop k) = sumF 0 rows))
  case atStart => exact ⟨0, 0, by omega, by omega, rfl, rfl, by omega, by omega, Below.refl _ _, Nat.le_refl _, rfl⟩
  case round =>
    obtain ⟨k, z, hk1, hk2, rfl, rfl, hz0, hz1, hBr, hzr, ha⟩ := hrel
    have b1 := (hBr.cell (p := ⟨wo.heap.size, 1, none⟩) hor).trans a1
    have hor2 := Nat.lt_of_lt_of_le hor hzr
    by_cases hlt : k < n
    · obtain ⟨b, off, x0, x1, rfl, hrw, hblt, c0, c1⟩ := (hr.below hB).row2 hlt
      rw [← hBr.cell (p := ⟨b, _, none⟩) hblt] at c0 c1
      have hbr : b < wr.heap.size := by omega
      have hx := brk_at HA.out hrw
      have x00 := hx.1.1
      have x01 := hx.1.2
      have HRW := Lib.hid hrw
      have HH := Lib.hid h
      have HHR := Lib.hid hr
      clear hrw h hr hx
      go_wp2_with fail
      go_roundg (n - (k + 1))
      case measure => omega
      case rel => exact ⟨k + 1, z + x0, by omega, by omega, by go_num, rfl, by omega, by omega, hBr.alloc hzr _, by first | omega | (simp; omega), (sumF_next HRW.out).symm.trans ha.out⟩
    · go_wp2_with fail
      go_ret2
      exact ⟨ret_bb (by rw [← ha.out, sumF_end hl.out (by omega)]) rfl, Below.thenn hWV (Below.thenn hB hBr hz) hWV.size⟩
end Go.Proofs.Ythijklidjdhkdaa
