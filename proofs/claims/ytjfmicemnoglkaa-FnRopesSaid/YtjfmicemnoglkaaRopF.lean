/- Ropes: the program's and the reference's windows, weights, lightest kinds. -/
import Derived.Test.YtjfmicemnoglkaaRopE
namespace Go.Proofs.Ytjfmicemnoglkaa
open Go.RowKit
set_option linter.unusedVariables false
set_option linter.unusedSimpArgs false

theorem bw_no {i s x g t lo len : Int} {rows : List (List Int)} (h : bwA i s x g t rows lo len = false) : bwZ i s x g t rows lo len = 0 := by simp [bwZ, h]
theorem bw_yes {i s x g t lo len : Int} {rows : List (List Int)} (h : bwA i s x g t rows lo len = true) : bwZ i s x g t rows lo len = brW rows lo (lo + len - 1) rows.length := by simp [bwZ, h]
theorem ww_no {i s x g t len : Int} {rows : List (List Int)} (h : wwA i s x g t rows len = false) : wwX i s x g t rows len = 0 ∧ wwM i s x g t rows len = 0 := by simp [wwX, wwM, h]
theorem ww_yes {i s x g t len : Int} {rows : List (List Int)} (h : wwA i s x g t rows len = true) : wwX i s x g t rows len = (wmF rows len rows.length).1 ∧ wwM i s x g t rows len = (wmF rows len rows.length).2 := by simp [wwX, wwM, h]
set_option maxRecDepth 100000 in
set_option maxHeartbeats 4000000 in
theorem impl_BrokenWires (y0 y1 y2 y3 y4 : Int) (A : Option Addr) (n c : Nat) (rows : List (List Int)) (lo len : Int) (wo : World) (h : RdR wo 3 A n rows) (hm : n ≤ 1048577) :
    Calls Try.prog 82 #[.agg #[.int .i64 y0, .int .i64 y1, .int .i64 y2, .int .i64 y3, .int .i64 y4], .slice A n c, .int .i64 lo, .int .i64 len] wo (Ret wo (.tuple #[.int .i64 (bwZ y0 y1 y2 y3 y4 rows lo len), .bool (bwA y0 y1 y2 y3 y4 rows lo len)])) := by
  have HH0 := Lib.hid h
  rcases hk : bwA y0 y1 y2 y3 y4 rows lo len with _ | _
  · rw [bw_no hk]
    have HK := Lib.hid hk
    have CD := Lib.hid (fun w' (h' : RdR w' 3 A n rows) => impl_AreDamages y0 y1 y2 y3 y4 A n c rows w' h' hm)
    have HD : Hid (bwA y0 y1 y2 y3 y4 rows lo len = (dmgs y0 y1 y2 y3 y4 rows && (inr lo 0 3000 && inr len 1 3000))) := Lib.hid rfl
    rw [hk] at HD
    clear hk HK
    have C1 := Lib.hid (fun w => impl_within lo 0 3000 w)
    have C2 := Lib.hid (fun w => impl_within len 1 3000 w)
    generalize dmgs y0 y1 y2 y3 y4 rows = d at *
    generalize inr lo 0 3000 = t1 at *
    generalize inr len 1 3000 = t2 at *
    clear h
    rcases d with _ | _ <;> rcases t1 with _ | _ <;> rcases t2 with _ | _
    all_goals first | (exfalso; exact absurd HD.out (by decide)) | skip
    all_goals (go_enter Try.func82, Try.ntmps82)
    all_goals go_wp2_with fail
    all_goals (have h := HH0.out; (have hWV : Below wo.heap.size wo (wo.alloc (.cells #[.int .i64 y0, .int .i64 y1, .int .i64 y2, .int .i64 y3, .int .i64 y4] 85)) := (Below.refl _ _).alloc (Nat.le_refl _) _; have hV0 : wo.heap.size < (wo.alloc (.cells #[.int .i64 y0, .int .i64 y1, .int .i64 y2, .int .i64 y3, .int .i64 y4] 85)).heap.size := (by simp); have hv0 : (wo.alloc (.cells #[.int .i64 y0, .int .i64 y1, .int .i64 y2, .int .i64 y3, .int .i64 y4] 85)).cell? ⟨wo.heap.size, 0, none⟩ = some (.int .i64 y0) := (by rw [cell_of_row _ _ _ _ _ _ (heap_alloc_new wo _)]; rfl); have hv1 : (wo.alloc (.cells #[.int .i64 y0, .int .i64 y1, .int .i64 y2, .int .i64 y3, .int .i64 y4] 85)).cell? ⟨wo.heap.size, 1, none⟩ = some (.int .i64 y1) := (by rw [cell_of_row _ _ _ _ _ _ (heap_alloc_new wo _)]; rfl); have hv2 : (wo.alloc (.cells #[.int .i64 y0, .int .i64 y1, .int .i64 y2, .int .i64 y3, .int .i64 y4] 85)).cell? ⟨wo.heap.size, 2, none⟩ = some (.int .i64 y2) := (by rw [cell_of_row _ _ _ _ _ _ (heap_alloc_new wo _)]; rfl); have hv3 : (wo.alloc (.cells #[.int .i64 y0, .int .i64 y1, .int .i64 y2, .int .i64 y3, .int .i64 y4] 85)).cell? ⟨wo.heap.size, 3, none⟩ = some (.int .i64 y3) := (by rw [cell_of_row _ _ _ _ _ _ (heap_alloc_new wo _)]; rfl); have hv4 : (wo.alloc (.cells #[.int .i64 y0, .int .i64 y1, .int .i64 y2, .int .i64 y3, .int .i64 y4] 85)).cell? ⟨wo.heap.size, 4, none⟩ = some (.int .i64 y4) := (by rw [cell_of_row _ _ _ _ _ _ (heap_alloc_new wo _)]; rfl); generalize wo.alloc (.cells #[.int .i64 y0, .int .i64 y1, .int .i64 y2, .int .i64 y3, .int .i64 y4] 85) = w at hWV hV0 hv0 hv1 hv2 hv3 hv4 ⊢; have hr := h.below hWV; have hB : Below w.heap.size w w := Below.refl _ _; have hwz : wo.heap.size ≤ w.heap.size := hWV.size))
    all_goals go_wp2_with (first | (go_at_call 138; refine (CD.out _ hr).mono ?_; rintro e w' ⟨rfl, hb⟩; have hB : Below w.heap.size w w' := Below.thenn (by repeat (first | exact Below.refl _ _ | assumption | apply Below.drew | apply below_drewN | (refine Below.alloc ?_ (by first | omega | (simp; done) | (simp; omega)) _) | (refine Below.setCell ?_ (by first | omega | (simp; done) | (simp; omega)) _))) hb (by first | omega | (simp; done) | (simp; omega)); have hz : w.heap.size ≤ w'.heap.size := hB.size; obtain ⟨hc, hf⟩ := bcell hb; clear hb) | (go_at_call 98; (with_reducible refine (C1.out _).mono ?_); rintro e w' ⟨rfl, rfl⟩) | (go_at_call 98; (with_reducible refine (C2.out _).mono ?_); rintro e w' ⟨rfl, rfl⟩))
    all_goals go_ret2
    all_goals exact ⟨rfl, Below.thenn hWV hB hWV.size⟩
  · rw [bw_yes hk]
    have ho := hk
    simp only [bwA, Bool.and_eq_true] at ho
    obtain ⟨hd, h1, h2⟩ := ho
    have hw := dmgs_wires hd h.2.1
    have hn := (dmgs_iff.1 hd).2.1
    have hl := h.2.2
    have b1 : 0 ≤ lo ∧ lo ≤ 3000 := by simpa [inr] using h1
    have b2 : 1 ≤ len ∧ len ≤ 3000 := by simpa [inr] using h2
    rw [hl]
    have CD := Lib.hid (fun w' (h' : RdR w' 3 A n rows) => hd ▸ impl_AreDamages y0 y1 y2 y3 y4 A n c rows w' h' hm)
    have C1 := Lib.hid (fun w => h1 ▸ impl_within lo 0 3000 w)
    have C2 := Lib.hid (fun w => h2 ▸ impl_within len 1 3000 w)
    have CB := Lib.hid (fun w' (h' : RdR w' 3 A n rows) => impl_brokenWires A n c rows lo len w' h' (by omega) hw b1 b2)
    generalize brW rows lo (lo + len - 1) n = R at *
    clear hk hd h1 h2 hw hn hl b1 b2 h
    go_enter Try.func82, Try.ntmps82
    go_wp2_with fail
    have h := HH0.out
    (have hWV : Below wo.heap.size wo (wo.alloc (.cells #[.int .i64 y0, .int .i64 y1, .int .i64 y2, .int .i64 y3, .int .i64 y4] 85)) := (Below.refl _ _).alloc (Nat.le_refl _) _; have hV0 : wo.heap.size < (wo.alloc (.cells #[.int .i64 y0, .int .i64 y1, .int .i64 y2, .int .i64 y3, .int .i64 y4] 85)).heap.size := (by simp); have hv0 : (wo.alloc (.cells #[.int .i64 y0, .int .i64 y1, .int .i64 y2, .int .i64 y3, .int .i64 y4] 85)).cell? ⟨wo.heap.size, 0, none⟩ = some (.int .i64 y0) := (by rw [cell_of_row _ _ _ _ _ _ (heap_alloc_new wo _)]; rfl); have hv1 : (wo.alloc (.cells #[.int .i64 y0, .int .i64 y1, .int .i64 y2, .int .i64 y3, .int .i64 y4] 85)).cell? ⟨wo.heap.size, 1, none⟩ = some (.int .i64 y1) := (by rw [cell_of_row _ _ _ _ _ _ (heap_alloc_new wo _)]; rfl); have hv2 : (wo.alloc (.cells #[.int .i64 y0, .int .i64 y1, .int .i64 y2, .int .i64 y3, .int .i64 y4] 85)).cell? ⟨wo.heap.size, 2, none⟩ = some (.int .i64 y2) := (by rw [cell_of_row _ _ _ _ _ _ (heap_alloc_new wo _)]; rfl); have hv3 : (wo.alloc (.cells #[.int .i64 y0, .int .i64 y1, .int .i64 y2, .int .i64 y3, .int .i64 y4] 85)).cell? ⟨wo.heap.size, 3, none⟩ = some (.int .i64 y3) := (by rw [cell_of_row _ _ _ _ _ _ (heap_alloc_new wo _)]; rfl); have hv4 : (wo.alloc (.cells #[.int .i64 y0, .int .i64 y1, .int .i64 y2, .int .i64 y3, .int .i64 y4] 85)).cell? ⟨wo.heap.size, 4, none⟩ = some (.int .i64 y4) := (by rw [cell_of_row _ _ _ _ _ _ (heap_alloc_new wo _)]; rfl); generalize wo.alloc (.cells #[.int .i64 y0, .int .i64 y1, .int .i64 y2, .int .i64 y3, .int .i64 y4] 85) = w at hWV hV0 hv0 hv1 hv2 hv3 hv4 ⊢; have hr := h.below hWV; have hB : Below w.heap.size w w := Below.refl _ _; have hwz : wo.heap.size ≤ w.heap.size := hWV.size)
    have HRR := Lib.hid hr
    go_wp2_with (first | (go_at_call 138; refine (CD.out _ hr).mono ?_; rintro e w' ⟨rfl, hb⟩; have hB : Below w.heap.size w w' := Below.thenn (by repeat (first | exact Below.refl _ _ | assumption | apply Below.drew | apply below_drewN | (refine Below.alloc ?_ (by first | omega | (simp; done) | (simp; omega)) _) | (refine Below.setCell ?_ (by first | omega | (simp; done) | (simp; omega)) _))) hb (by first | omega | (simp; done) | (simp; omega)); have hz : w.heap.size ≤ w'.heap.size := hB.size; obtain ⟨hc, hf⟩ := bcell hb; clear hb) | (go_at_call 98; (with_reducible refine (C1.out _).mono ?_); rintro e w' ⟨rfl, rfl⟩) | (go_at_call 98; (with_reducible refine (C2.out _).mono ?_); rintro e w' ⟨rfl, rfl⟩))
    have B1 := Lib.hid (Below.thenn hWV hB hWV.size)
    have R1 := Lib.hid (HRR.out.below hB)
    clear hc hf hz hB hr h HRR
    refine (CB.out _ R1.out).mono ?_
    rintro e w5 ⟨rfl, hb⟩
    have H5 := Lib.hid (Below.thenn B1.out hb B1.out.size)
    clear hb
    go_wp2_with fail
    go_ret2
    exact ⟨rfl, H5.out⟩
set_option maxRecDepth 100000 in
set_option maxHeartbeats 4000000 in
theorem spec_BrokenWires (y0 y1 y2 y3 y4 : Int) (A : Option Addr) (n c : Nat) (rows : List (List Int)) (lo len : Int) (wo : World) (h : RdR wo 3 A n rows) (hm : n ≤ 1048577) :
    Calls Try.prog 84 #[.agg #[.int .i64 y0, .int .i64 y1, .int .i64 y2, .int .i64 y3, .int .i64 y4], .slice A n c, .int .i64 lo, .int .i64 len] wo (Ret wo (.tuple #[.int .i64 (bwZ y0 y1 y2 y3 y4 rows lo len), .bool (bwA y0 y1 y2 y3 y4 rows lo len)])) := by
  have HH0 := Lib.hid h
  rcases hk : bwA y0 y1 y2 y3 y4 rows lo len with _ | _
  · rw [bw_no hk]
    have HK := Lib.hid hk
    have CD := Lib.hid (fun w' (h' : RdR w' 3 A n rows) => spec_l3Good y0 y1 y2 y3 y4 A n c rows w' h' hm)
    have HD : Hid (bwA y0 y1 y2 y3 y4 rows lo len = (dmgs y0 y1 y2 y3 y4 rows && (inr lo 0 3000 && inr len 1 3000))) := Lib.hid rfl
    rw [hk] at HD
    clear hk HK
    have C1 := Lib.hid (fun w => spec_l2Place lo w)
    have C2 := Lib.hid (fun w => spec_l3Length len w)
    generalize dmgs y0 y1 y2 y3 y4 rows = d at *
    generalize inr lo 0 3000 = t1 at *
    generalize inr len 1 3000 = t2 at *
    clear h
    rcases d with _ | _ <;> rcases t1 with _ | _ <;> rcases t2 with _ | _
    all_goals first | (exfalso; exact absurd HD.out (by decide)) | skip
    all_goals (go_enter Try.func84, Try.ntmps84)
    all_goals go_wp2_with fail
    all_goals (have h := HH0.out; (have hWV : Below wo.heap.size wo (wo.alloc (.cells #[.int .i64 y0, .int .i64 y1, .int .i64 y2, .int .i64 y3, .int .i64 y4] 85)) := (Below.refl _ _).alloc (Nat.le_refl _) _; have hV0 : wo.heap.size < (wo.alloc (.cells #[.int .i64 y0, .int .i64 y1, .int .i64 y2, .int .i64 y3, .int .i64 y4] 85)).heap.size := (by simp); have hv0 : (wo.alloc (.cells #[.int .i64 y0, .int .i64 y1, .int .i64 y2, .int .i64 y3, .int .i64 y4] 85)).cell? ⟨wo.heap.size, 0, none⟩ = some (.int .i64 y0) := (by rw [cell_of_row _ _ _ _ _ _ (heap_alloc_new wo _)]; rfl); have hv1 : (wo.alloc (.cells #[.int .i64 y0, .int .i64 y1, .int .i64 y2, .int .i64 y3, .int .i64 y4] 85)).cell? ⟨wo.heap.size, 1, none⟩ = some (.int .i64 y1) := (by rw [cell_of_row _ _ _ _ _ _ (heap_alloc_new wo _)]; rfl); have hv2 : (wo.alloc (.cells #[.int .i64 y0, .int .i64 y1, .int .i64 y2, .int .i64 y3, .int .i64 y4] 85)).cell? ⟨wo.heap.size, 2, none⟩ = some (.int .i64 y2) := (by rw [cell_of_row _ _ _ _ _ _ (heap_alloc_new wo _)]; rfl); have hv3 : (wo.alloc (.cells #[.int .i64 y0, .int .i64 y1, .int .i64 y2, .int .i64 y3, .int .i64 y4] 85)).cell? ⟨wo.heap.size, 3, none⟩ = some (.int .i64 y3) := (by rw [cell_of_row _ _ _ _ _ _ (heap_alloc_new wo _)]; rfl); have hv4 : (wo.alloc (.cells #[.int .i64 y0, .int .i64 y1, .int .i64 y2, .int .i64 y3, .int .i64 y4] 85)).cell? ⟨wo.heap.size, 4, none⟩ = some (.int .i64 y4) := (by rw [cell_of_row _ _ _ _ _ _ (heap_alloc_new wo _)]; rfl); generalize wo.alloc (.cells #[.int .i64 y0, .int .i64 y1, .int .i64 y2, .int .i64 y3, .int .i64 y4] 85) = w at hWV hV0 hv0 hv1 hv2 hv3 hv4 ⊢; have hr := h.below hWV; have hB : Below w.heap.size w w := Below.refl _ _; have hwz : wo.heap.size ≤ w.heap.size := hWV.size))
    all_goals go_wp2_with (first | (go_at_call 140; refine (CD.out _ hr).mono ?_; rintro e w' ⟨rfl, hb⟩; have hB : Below w.heap.size w w' := Below.thenn (by repeat (first | exact Below.refl _ _ | assumption | apply Below.drew | apply below_drewN | (refine Below.alloc ?_ (by first | omega | (simp; done) | (simp; omega)) _) | (refine Below.setCell ?_ (by first | omega | (simp; done) | (simp; omega)) _))) hb (by first | omega | (simp; done) | (simp; omega)); have hz : w.heap.size ≤ w'.heap.size := hB.size; obtain ⟨hc, hf⟩ := bcell hb; clear hb) | (go_at_call 144; (with_reducible refine (C1.out _).mono ?_); rintro e w' ⟨rfl, rfl⟩) | (go_at_call 141; (with_reducible refine (C2.out _).mono ?_); rintro e w' ⟨rfl, rfl⟩))
    all_goals go_ret2
    all_goals exact ⟨rfl, Below.thenn hWV hB hWV.size⟩
  · rw [bw_yes hk]
    have ho := hk
    simp only [bwA, Bool.and_eq_true] at ho
    obtain ⟨hd, h1, h2⟩ := ho
    have hw := dmgs_wires hd h.2.1
    have hn := (dmgs_iff.1 hd).2.1
    have hl := h.2.2
    have b1 : 0 ≤ lo ∧ lo ≤ 3000 := by simpa [inr] using h1
    have b2 : 1 ≤ len ∧ len ≤ 3000 := by simpa [inr] using h2
    rw [hl]
    have CD := Lib.hid (fun w' (h' : RdR w' 3 A n rows) => hd ▸ spec_l3Good y0 y1 y2 y3 y4 A n c rows w' h' hm)
    have C1 := Lib.hid (fun w => h1 ▸ spec_l2Place lo w)
    have C2 := Lib.hid (fun w => h2 ▸ spec_l3Length len w)
    have CB := Lib.hid (fun w' (h' : RdR w' 3 A n rows) => spec_l3Broken A n c rows lo len w' h' (by omega) hw b1 b2)
    generalize brW rows lo (lo + len - 1) n = R at *
    clear hk hd h1 h2 hw hn hl b1 b2 h
    go_enter Try.func84, Try.ntmps84
    go_wp2_with fail
    have h := HH0.out
    (have hWV : Below wo.heap.size wo (wo.alloc (.cells #[.int .i64 y0, .int .i64 y1, .int .i64 y2, .int .i64 y3, .int .i64 y4] 85)) := (Below.refl _ _).alloc (Nat.le_refl _) _; have hV0 : wo.heap.size < (wo.alloc (.cells #[.int .i64 y0, .int .i64 y1, .int .i64 y2, .int .i64 y3, .int .i64 y4] 85)).heap.size := (by simp); have hv0 : (wo.alloc (.cells #[.int .i64 y0, .int .i64 y1, .int .i64 y2, .int .i64 y3, .int .i64 y4] 85)).cell? ⟨wo.heap.size, 0, none⟩ = some (.int .i64 y0) := (by rw [cell_of_row _ _ _ _ _ _ (heap_alloc_new wo _)]; rfl); have hv1 : (wo.alloc (.cells #[.int .i64 y0, .int .i64 y1, .int .i64 y2, .int .i64 y3, .int .i64 y4] 85)).cell? ⟨wo.heap.size, 1, none⟩ = some (.int .i64 y1) := (by rw [cell_of_row _ _ _ _ _ _ (heap_alloc_new wo _)]; rfl); have hv2 : (wo.alloc (.cells #[.int .i64 y0, .int .i64 y1, .int .i64 y2, .int .i64 y3, .int .i64 y4] 85)).cell? ⟨wo.heap.size, 2, none⟩ = some (.int .i64 y2) := (by rw [cell_of_row _ _ _ _ _ _ (heap_alloc_new wo _)]; rfl); have hv3 : (wo.alloc (.cells #[.int .i64 y0, .int .i64 y1, .int .i64 y2, .int .i64 y3, .int .i64 y4] 85)).cell? ⟨wo.heap.size, 3, none⟩ = some (.int .i64 y3) := (by rw [cell_of_row _ _ _ _ _ _ (heap_alloc_new wo _)]; rfl); have hv4 : (wo.alloc (.cells #[.int .i64 y0, .int .i64 y1, .int .i64 y2, .int .i64 y3, .int .i64 y4] 85)).cell? ⟨wo.heap.size, 4, none⟩ = some (.int .i64 y4) := (by rw [cell_of_row _ _ _ _ _ _ (heap_alloc_new wo _)]; rfl); generalize wo.alloc (.cells #[.int .i64 y0, .int .i64 y1, .int .i64 y2, .int .i64 y3, .int .i64 y4] 85) = w at hWV hV0 hv0 hv1 hv2 hv3 hv4 ⊢; have hr := h.below hWV; have hB : Below w.heap.size w w := Below.refl _ _; have hwz : wo.heap.size ≤ w.heap.size := hWV.size)
    have HRR := Lib.hid hr
    go_wp2_with (first | (go_at_call 140; refine (CD.out _ hr).mono ?_; rintro e w' ⟨rfl, hb⟩; have hB : Below w.heap.size w w' := Below.thenn (by repeat (first | exact Below.refl _ _ | assumption | apply Below.drew | apply below_drewN | (refine Below.alloc ?_ (by first | omega | (simp; done) | (simp; omega)) _) | (refine Below.setCell ?_ (by first | omega | (simp; done) | (simp; omega)) _))) hb (by first | omega | (simp; done) | (simp; omega)); have hz : w.heap.size ≤ w'.heap.size := hB.size; obtain ⟨hc, hf⟩ := bcell hb; clear hb) | (go_at_call 144; (with_reducible refine (C1.out _).mono ?_); rintro e w' ⟨rfl, rfl⟩) | (go_at_call 141; (with_reducible refine (C2.out _).mono ?_); rintro e w' ⟨rfl, rfl⟩))
    have B1 := Lib.hid (Below.thenn hWV hB hWV.size)
    have R1 := Lib.hid (HRR.out.below hB)
    clear hc hf hz hB hr h HRR
    refine (CB.out _ R1.out).mono ?_
    rintro e w5 ⟨rfl, hb⟩
    have H5 := Lib.hid (Below.thenn B1.out hb B1.out.size)
    clear hb
    go_wp2_with fail
    go_ret2
    exact ⟨rfl, H5.out⟩
set_option maxRecDepth 100000 in
set_option maxHeartbeats 4000000 in
theorem impl_WorstWindow (y0 y1 y2 y3 y4 : Int) (A : Option Addr) (n c : Nat) (rows : List (List Int)) (len : Int) (wo : World) (h : RdR wo 3 A n rows) (hm : n ≤ 1048577) :
    Calls Try.prog 80 #[.agg #[.int .i64 y0, .int .i64 y1, .int .i64 y2, .int .i64 y3, .int .i64 y4], .slice A n c, .int .i64 len] wo (Ret wo (.tuple #[.int .i64 (wwX y0 y1 y2 y3 y4 rows len), .int .i64 (wwM y0 y1 y2 y3 y4 rows len), .bool (wwA y0 y1 y2 y3 y4 rows len)])) := by
  have HH0 := Lib.hid h
  have hl := h.2.2
  rcases hk : wwA y0 y1 y2 y3 y4 rows len with _ | _
  · rw [(ww_no hk).1, (ww_no hk).2]
    have CD := Lib.hid (fun w' (h' : RdR w' 3 A n rows) => impl_AreDamages y0 y1 y2 y3 y4 A n c rows w' h' hm)
    have HD : Hid (wwA y0 y1 y2 y3 y4 rows len = (dmgs y0 y1 y2 y3 y4 rows && (decide (rows.length ≠ 0) && inr len 1 3000))) := Lib.hid rfl
    rw [hk, hl] at HD
    clear hk
    have C2 := Lib.hid (fun w => impl_within len 1 3000 w)
    generalize dmgs y0 y1 y2 y3 y4 rows = d at *
    generalize inr len 1 3000 = t2 at *
    clear h hl
    have hq : n = 0 ∨ 0 < n := by omega
    rcases hq with hq | hq <;> rcases d with _ | _ <;> rcases t2 with _ | _
    all_goals first | (exfalso; have := HD.out; simp at this; omega) | skip
    all_goals (have hn9 : ((n : Int) == 0) = decide (n = 0) := by (rw [Bool.eq_iff_iff]; simp))
    all_goals first | (have hn8 : decide (n = 0) = true := decide_eq_true hq) | (have hn8 : decide (n = 0) = false := decide_eq_false (by omega))
    all_goals rw [hn8] at hn9
    all_goals clear hq hn8
    all_goals (go_enter Try.func80, Try.ntmps80)
    all_goals go_wp2_with fail
    all_goals (have h := HH0.out; (have hWV : Below wo.heap.size wo (wo.alloc (.cells #[.int .i64 y0, .int .i64 y1, .int .i64 y2, .int .i64 y3, .int .i64 y4] 85)) := (Below.refl _ _).alloc (Nat.le_refl _) _; have hV0 : wo.heap.size < (wo.alloc (.cells #[.int .i64 y0, .int .i64 y1, .int .i64 y2, .int .i64 y3, .int .i64 y4] 85)).heap.size := (by simp); have hv0 : (wo.alloc (.cells #[.int .i64 y0, .int .i64 y1, .int .i64 y2, .int .i64 y3, .int .i64 y4] 85)).cell? ⟨wo.heap.size, 0, none⟩ = some (.int .i64 y0) := (by rw [cell_of_row _ _ _ _ _ _ (heap_alloc_new wo _)]; rfl); have hv1 : (wo.alloc (.cells #[.int .i64 y0, .int .i64 y1, .int .i64 y2, .int .i64 y3, .int .i64 y4] 85)).cell? ⟨wo.heap.size, 1, none⟩ = some (.int .i64 y1) := (by rw [cell_of_row _ _ _ _ _ _ (heap_alloc_new wo _)]; rfl); have hv2 : (wo.alloc (.cells #[.int .i64 y0, .int .i64 y1, .int .i64 y2, .int .i64 y3, .int .i64 y4] 85)).cell? ⟨wo.heap.size, 2, none⟩ = some (.int .i64 y2) := (by rw [cell_of_row _ _ _ _ _ _ (heap_alloc_new wo _)]; rfl); have hv3 : (wo.alloc (.cells #[.int .i64 y0, .int .i64 y1, .int .i64 y2, .int .i64 y3, .int .i64 y4] 85)).cell? ⟨wo.heap.size, 3, none⟩ = some (.int .i64 y3) := (by rw [cell_of_row _ _ _ _ _ _ (heap_alloc_new wo _)]; rfl); have hv4 : (wo.alloc (.cells #[.int .i64 y0, .int .i64 y1, .int .i64 y2, .int .i64 y3, .int .i64 y4] 85)).cell? ⟨wo.heap.size, 4, none⟩ = some (.int .i64 y4) := (by rw [cell_of_row _ _ _ _ _ _ (heap_alloc_new wo _)]; rfl); generalize wo.alloc (.cells #[.int .i64 y0, .int .i64 y1, .int .i64 y2, .int .i64 y3, .int .i64 y4] 85) = w at hWV hV0 hv0 hv1 hv2 hv3 hv4 ⊢; have hr := h.below hWV; have hB : Below w.heap.size w w := Below.refl _ _; have hwz : wo.heap.size ≤ w.heap.size := hWV.size))
    all_goals go_wp2_with (first | (go_at_call 138; refine (CD.out _ hr).mono ?_; rintro e w' ⟨rfl, hb⟩; have hB : Below w.heap.size w w' := Below.thenn (by repeat (first | exact Below.refl _ _ | assumption | apply Below.drew | apply below_drewN | (refine Below.alloc ?_ (by first | omega | (simp; done) | (simp; omega)) _) | (refine Below.setCell ?_ (by first | omega | (simp; done) | (simp; omega)) _))) hb (by first | omega | (simp; done) | (simp; omega)); have hz : w.heap.size ≤ w'.heap.size := hB.size; obtain ⟨hc, hf⟩ := bcell hb; clear hb) | (go_at_call 98; (with_reducible refine (C2.out _).mono ?_); rintro e w' ⟨rfl, rfl⟩))
    all_goals go_ret3
    all_goals exact ⟨rfl, Below.thenn hWV hB hWV.size⟩
  · rw [(ww_yes hk).1, (ww_yes hk).2]
    have ho := hk
    simp only [wwA, Bool.and_eq_true, decide_eq_true_eq] at ho
    obtain ⟨hd, h1, h2⟩ := ho
    have hw := dmgs_wires hd h.2.1
    have hn := (dmgs_iff.1 hd).2.1
    have b2 : 1 ≤ len ∧ len ≤ 3000 := by simpa [inr] using h2
    have hn0 : ((n : Int) == 0) = false := by simp; omega
    have CD := Lib.hid (fun w' (h' : RdR w' 3 A n rows) => hd ▸ impl_AreDamages y0 y1 y2 y3 y4 A n c rows w' h' hm)
    have C2 := Lib.hid (fun w => h2 ▸ impl_within len 1 3000 w)
    have CB := Lib.hid (fun w' (h' : RdR w' 3 A n rows) => impl_worstWindow A n c rows len w' h' (by omega) (by omega) hw b2)
    generalize wmF rows len rows.length = R at *
    clear hk hd h1 h2 hw hn hl b2 h
    go_enter Try.func80, Try.ntmps80
    go_wp2_with fail
    have h := HH0.out
    (have hWV : Below wo.heap.size wo (wo.alloc (.cells #[.int .i64 y0, .int .i64 y1, .int .i64 y2, .int .i64 y3, .int .i64 y4] 85)) := (Below.refl _ _).alloc (Nat.le_refl _) _; have hV0 : wo.heap.size < (wo.alloc (.cells #[.int .i64 y0, .int .i64 y1, .int .i64 y2, .int .i64 y3, .int .i64 y4] 85)).heap.size := (by simp); have hv0 : (wo.alloc (.cells #[.int .i64 y0, .int .i64 y1, .int .i64 y2, .int .i64 y3, .int .i64 y4] 85)).cell? ⟨wo.heap.size, 0, none⟩ = some (.int .i64 y0) := (by rw [cell_of_row _ _ _ _ _ _ (heap_alloc_new wo _)]; rfl); have hv1 : (wo.alloc (.cells #[.int .i64 y0, .int .i64 y1, .int .i64 y2, .int .i64 y3, .int .i64 y4] 85)).cell? ⟨wo.heap.size, 1, none⟩ = some (.int .i64 y1) := (by rw [cell_of_row _ _ _ _ _ _ (heap_alloc_new wo _)]; rfl); have hv2 : (wo.alloc (.cells #[.int .i64 y0, .int .i64 y1, .int .i64 y2, .int .i64 y3, .int .i64 y4] 85)).cell? ⟨wo.heap.size, 2, none⟩ = some (.int .i64 y2) := (by rw [cell_of_row _ _ _ _ _ _ (heap_alloc_new wo _)]; rfl); have hv3 : (wo.alloc (.cells #[.int .i64 y0, .int .i64 y1, .int .i64 y2, .int .i64 y3, .int .i64 y4] 85)).cell? ⟨wo.heap.size, 3, none⟩ = some (.int .i64 y3) := (by rw [cell_of_row _ _ _ _ _ _ (heap_alloc_new wo _)]; rfl); have hv4 : (wo.alloc (.cells #[.int .i64 y0, .int .i64 y1, .int .i64 y2, .int .i64 y3, .int .i64 y4] 85)).cell? ⟨wo.heap.size, 4, none⟩ = some (.int .i64 y4) := (by rw [cell_of_row _ _ _ _ _ _ (heap_alloc_new wo _)]; rfl); generalize wo.alloc (.cells #[.int .i64 y0, .int .i64 y1, .int .i64 y2, .int .i64 y3, .int .i64 y4] 85) = w at hWV hV0 hv0 hv1 hv2 hv3 hv4 ⊢; have hr := h.below hWV; have hB : Below w.heap.size w w := Below.refl _ _; have hwz : wo.heap.size ≤ w.heap.size := hWV.size)
    have HRR := Lib.hid hr
    go_wp2_with (first | (go_at_call 138; refine (CD.out _ hr).mono ?_; rintro e w' ⟨rfl, hb⟩; have hB : Below w.heap.size w w' := Below.thenn (by repeat (first | exact Below.refl _ _ | assumption | apply Below.drew | apply below_drewN | (refine Below.alloc ?_ (by first | omega | (simp; done) | (simp; omega)) _) | (refine Below.setCell ?_ (by first | omega | (simp; done) | (simp; omega)) _))) hb (by first | omega | (simp; done) | (simp; omega)); have hz : w.heap.size ≤ w'.heap.size := hB.size; obtain ⟨hc, hf⟩ := bcell hb; clear hb) | (go_at_call 98; (with_reducible refine (C2.out _).mono ?_); rintro e w' ⟨rfl, rfl⟩))
    have B1 := Lib.hid (Below.thenn hWV hB hWV.size)
    have R1 := Lib.hid (HRR.out.below hB)
    clear hc hf hz hB hr h HRR
    refine (CB.out _ R1.out).mono ?_
    rintro e w5 ⟨rfl, hb⟩
    have H5 := Lib.hid (Below.thenn B1.out hb B1.out.size)
    clear hb
    go_wp2_with fail
    go_ret3
    exact ⟨rfl, H5.out⟩
set_option maxRecDepth 100000 in
set_option maxHeartbeats 4000000 in
theorem spec_WorstWindow (y0 y1 y2 y3 y4 : Int) (A : Option Addr) (n c : Nat) (rows : List (List Int)) (len : Int) (wo : World) (h : RdR wo 3 A n rows) (hm : n ≤ 1048577) :
    Calls Try.prog 81 #[.agg #[.int .i64 y0, .int .i64 y1, .int .i64 y2, .int .i64 y3, .int .i64 y4], .slice A n c, .int .i64 len] wo (Ret wo (.tuple #[.int .i64 (wwX y0 y1 y2 y3 y4 rows len), .int .i64 (wwM y0 y1 y2 y3 y4 rows len), .bool (wwA y0 y1 y2 y3 y4 rows len)])) := by
  have HH0 := Lib.hid h
  have hl := h.2.2
  rcases hk : wwA y0 y1 y2 y3 y4 rows len with _ | _
  · rw [(ww_no hk).1, (ww_no hk).2]
    have CD := Lib.hid (fun w' (h' : RdR w' 3 A n rows) => spec_l3Good y0 y1 y2 y3 y4 A n c rows w' h' hm)
    have HD : Hid (wwA y0 y1 y2 y3 y4 rows len = (dmgs y0 y1 y2 y3 y4 rows && (decide (rows.length ≠ 0) && inr len 1 3000))) := Lib.hid rfl
    rw [hk, hl] at HD
    clear hk
    have C2 := Lib.hid (fun w => spec_l3Length len w)
    generalize dmgs y0 y1 y2 y3 y4 rows = d at *
    generalize inr len 1 3000 = t2 at *
    clear h hl
    have hq : n = 0 ∨ 0 < n := by omega
    rcases hq with hq | hq <;> rcases d with _ | _ <;> rcases t2 with _ | _
    all_goals first | (exfalso; have := HD.out; simp at this; omega) | skip
    all_goals (have hn9 : ((n : Int) == 0) = decide (n = 0) := by (rw [Bool.eq_iff_iff]; simp))
    all_goals first | (have hn8 : decide (n = 0) = true := decide_eq_true hq) | (have hn8 : decide (n = 0) = false := decide_eq_false (by omega))
    all_goals rw [hn8] at hn9
    all_goals clear hq hn8
    all_goals (go_enter Try.func81, Try.ntmps81)
    all_goals go_wp2_with fail
    all_goals (have h := HH0.out; (have hWV : Below wo.heap.size wo (wo.alloc (.cells #[.int .i64 y0, .int .i64 y1, .int .i64 y2, .int .i64 y3, .int .i64 y4] 85)) := (Below.refl _ _).alloc (Nat.le_refl _) _; have hV0 : wo.heap.size < (wo.alloc (.cells #[.int .i64 y0, .int .i64 y1, .int .i64 y2, .int .i64 y3, .int .i64 y4] 85)).heap.size := (by simp); have hv0 : (wo.alloc (.cells #[.int .i64 y0, .int .i64 y1, .int .i64 y2, .int .i64 y3, .int .i64 y4] 85)).cell? ⟨wo.heap.size, 0, none⟩ = some (.int .i64 y0) := (by rw [cell_of_row _ _ _ _ _ _ (heap_alloc_new wo _)]; rfl); have hv1 : (wo.alloc (.cells #[.int .i64 y0, .int .i64 y1, .int .i64 y2, .int .i64 y3, .int .i64 y4] 85)).cell? ⟨wo.heap.size, 1, none⟩ = some (.int .i64 y1) := (by rw [cell_of_row _ _ _ _ _ _ (heap_alloc_new wo _)]; rfl); have hv2 : (wo.alloc (.cells #[.int .i64 y0, .int .i64 y1, .int .i64 y2, .int .i64 y3, .int .i64 y4] 85)).cell? ⟨wo.heap.size, 2, none⟩ = some (.int .i64 y2) := (by rw [cell_of_row _ _ _ _ _ _ (heap_alloc_new wo _)]; rfl); have hv3 : (wo.alloc (.cells #[.int .i64 y0, .int .i64 y1, .int .i64 y2, .int .i64 y3, .int .i64 y4] 85)).cell? ⟨wo.heap.size, 3, none⟩ = some (.int .i64 y3) := (by rw [cell_of_row _ _ _ _ _ _ (heap_alloc_new wo _)]; rfl); have hv4 : (wo.alloc (.cells #[.int .i64 y0, .int .i64 y1, .int .i64 y2, .int .i64 y3, .int .i64 y4] 85)).cell? ⟨wo.heap.size, 4, none⟩ = some (.int .i64 y4) := (by rw [cell_of_row _ _ _ _ _ _ (heap_alloc_new wo _)]; rfl); generalize wo.alloc (.cells #[.int .i64 y0, .int .i64 y1, .int .i64 y2, .int .i64 y3, .int .i64 y4] 85) = w at hWV hV0 hv0 hv1 hv2 hv3 hv4 ⊢; have hr := h.below hWV; have hB : Below w.heap.size w w := Below.refl _ _; have hwz : wo.heap.size ≤ w.heap.size := hWV.size))
    all_goals go_wp2_with (first | (go_at_call 140; refine (CD.out _ hr).mono ?_; rintro e w' ⟨rfl, hb⟩; have hB : Below w.heap.size w w' := Below.thenn (by repeat (first | exact Below.refl _ _ | assumption | apply Below.drew | apply below_drewN | (refine Below.alloc ?_ (by first | omega | (simp; done) | (simp; omega)) _) | (refine Below.setCell ?_ (by first | omega | (simp; done) | (simp; omega)) _))) hb (by first | omega | (simp; done) | (simp; omega)); have hz : w.heap.size ≤ w'.heap.size := hB.size; obtain ⟨hc, hf⟩ := bcell hb; clear hb) | (go_at_call 141; (with_reducible refine (C2.out _).mono ?_); rintro e w' ⟨rfl, rfl⟩))
    all_goals go_ret3
    all_goals exact ⟨rfl, Below.thenn hWV hB hWV.size⟩
  · rw [(ww_yes hk).1, (ww_yes hk).2]
    have ho := hk
    simp only [wwA, Bool.and_eq_true, decide_eq_true_eq] at ho
    obtain ⟨hd, h1, h2⟩ := ho
    have hw := dmgs_wires hd h.2.1
    have hn := (dmgs_iff.1 hd).2.1
    have b2 : 1 ≤ len ∧ len ≤ 3000 := by simpa [inr] using h2
    have hn0 : ((n : Int) == 0) = false := by simp; omega
    have CD := Lib.hid (fun w' (h' : RdR w' 3 A n rows) => hd ▸ spec_l3Good y0 y1 y2 y3 y4 A n c rows w' h' hm)
    have C2 := Lib.hid (fun w => h2 ▸ spec_l3Length len w)
    have CB := Lib.hid (fun w' (h' : RdR w' 3 A n rows) => spec_l3Most A n c rows len w' h' (by omega) (by omega) hw b2)
    generalize wmF rows len rows.length = R at *
    clear hk hd h1 h2 hw hn hl b2 h
    go_enter Try.func81, Try.ntmps81
    go_wp2_with fail
    have h := HH0.out
    (have hWV : Below wo.heap.size wo (wo.alloc (.cells #[.int .i64 y0, .int .i64 y1, .int .i64 y2, .int .i64 y3, .int .i64 y4] 85)) := (Below.refl _ _).alloc (Nat.le_refl _) _; have hV0 : wo.heap.size < (wo.alloc (.cells #[.int .i64 y0, .int .i64 y1, .int .i64 y2, .int .i64 y3, .int .i64 y4] 85)).heap.size := (by simp); have hv0 : (wo.alloc (.cells #[.int .i64 y0, .int .i64 y1, .int .i64 y2, .int .i64 y3, .int .i64 y4] 85)).cell? ⟨wo.heap.size, 0, none⟩ = some (.int .i64 y0) := (by rw [cell_of_row _ _ _ _ _ _ (heap_alloc_new wo _)]; rfl); have hv1 : (wo.alloc (.cells #[.int .i64 y0, .int .i64 y1, .int .i64 y2, .int .i64 y3, .int .i64 y4] 85)).cell? ⟨wo.heap.size, 1, none⟩ = some (.int .i64 y1) := (by rw [cell_of_row _ _ _ _ _ _ (heap_alloc_new wo _)]; rfl); have hv2 : (wo.alloc (.cells #[.int .i64 y0, .int .i64 y1, .int .i64 y2, .int .i64 y3, .int .i64 y4] 85)).cell? ⟨wo.heap.size, 2, none⟩ = some (.int .i64 y2) := (by rw [cell_of_row _ _ _ _ _ _ (heap_alloc_new wo _)]; rfl); have hv3 : (wo.alloc (.cells #[.int .i64 y0, .int .i64 y1, .int .i64 y2, .int .i64 y3, .int .i64 y4] 85)).cell? ⟨wo.heap.size, 3, none⟩ = some (.int .i64 y3) := (by rw [cell_of_row _ _ _ _ _ _ (heap_alloc_new wo _)]; rfl); have hv4 : (wo.alloc (.cells #[.int .i64 y0, .int .i64 y1, .int .i64 y2, .int .i64 y3, .int .i64 y4] 85)).cell? ⟨wo.heap.size, 4, none⟩ = some (.int .i64 y4) := (by rw [cell_of_row _ _ _ _ _ _ (heap_alloc_new wo _)]; rfl); generalize wo.alloc (.cells #[.int .i64 y0, .int .i64 y1, .int .i64 y2, .int .i64 y3, .int .i64 y4] 85) = w at hWV hV0 hv0 hv1 hv2 hv3 hv4 ⊢; have hr := h.below hWV; have hB : Below w.heap.size w w := Below.refl _ _; have hwz : wo.heap.size ≤ w.heap.size := hWV.size)
    have HRR := Lib.hid hr
    go_wp2_with (first | (go_at_call 140; refine (CD.out _ hr).mono ?_; rintro e w' ⟨rfl, hb⟩; have hB : Below w.heap.size w w' := Below.thenn (by repeat (first | exact Below.refl _ _ | assumption | apply Below.drew | apply below_drewN | (refine Below.alloc ?_ (by first | omega | (simp; done) | (simp; omega)) _) | (refine Below.setCell ?_ (by first | omega | (simp; done) | (simp; omega)) _))) hb (by first | omega | (simp; done) | (simp; omega)); have hz : w.heap.size ≤ w'.heap.size := hB.size; obtain ⟨hc, hf⟩ := bcell hb; clear hb) | (go_at_call 141; (with_reducible refine (C2.out _).mono ?_); rintro e w' ⟨rfl, rfl⟩))
    have B1 := Lib.hid (Below.thenn hWV hB hWV.size)
    have R1 := Lib.hid (HRR.out.below hB)
    clear hc hf hz hB hr h HRR
    refine (CB.out _ R1.out).mono ?_
    rintro e w5 ⟨rfl, hb⟩
    have H5 := Lib.hid (Below.thenn B1.out hb B1.out.size)
    clear hb
    go_wp2_with fail
    go_ret3
    exact ⟨rfl, H5.out⟩
theorem rw_no {i s x g t m : Int} (h : rwA i s x g t m = false) : rwZ i s x g t m = 0 := by simp [rwZ, h]
theorem rw_yes {i s x g t m : Int} (h : rwA i s x g t m = true) : rwZ i s x g t m = (m * g + 9) / 10 := by simp [rwZ, h]
set_option maxHeartbeats 4000000 in
theorem impl_RopeWeight (y0 y1 y2 y3 y4 m : Int) (wo : World) :
    Calls Try.prog 89 #[.agg #[.int .i64 y0, .int .i64 y1, .int .i64 y2, .int .i64 y3, .int .i64 y4], .int .i64 m] wo (Ret wo (.tuple #[.int .i64 (rwZ y0 y1 y2 y3 y4 m), .bool (rwA y0 y1 y2 y3 y4 m)])) := by
  have CK := Lib.hid (fun w => impl_IsRopeKind y0 y1 y2 y3 y4 w)
  have CM := Lib.hid (fun w => impl_within m 0 20000 w)
  rcases hk : rwA y0 y1 y2 y3 y4 m with _ | _
  · rw [rw_no hk]
    have HD : Hid (rwA y0 y1 y2 y3 y4 m = (kndOk y0 y1 y2 y3 y4 && inr m 0 20000)) := Lib.hid rfl
    rw [hk] at HD
    clear hk
    generalize kndOk y0 y1 y2 y3 y4 = d at *
    generalize inr m 0 20000 = t at *
    rcases d with _ | _ <;> rcases t with _ | _
    all_goals first | (exfalso; exact absurd HD.out (by decide)) | skip
    all_goals (go_enter Try.func89, Try.ntmps89)
    all_goals go_wp2_with fail
    all_goals (have h : RdR wo 3 none 0 [] := ⟨⟨rfl, fun h => absurd h (by omega)⟩, by simp [Even], rfl⟩; (have hWV : Below wo.heap.size wo (wo.alloc (.cells #[.int .i64 y0, .int .i64 y1, .int .i64 y2, .int .i64 y3, .int .i64 y4] 85)) := (Below.refl _ _).alloc (Nat.le_refl _) _; have hV0 : wo.heap.size < (wo.alloc (.cells #[.int .i64 y0, .int .i64 y1, .int .i64 y2, .int .i64 y3, .int .i64 y4] 85)).heap.size := (by simp); have hv0 : (wo.alloc (.cells #[.int .i64 y0, .int .i64 y1, .int .i64 y2, .int .i64 y3, .int .i64 y4] 85)).cell? ⟨wo.heap.size, 0, none⟩ = some (.int .i64 y0) := (by rw [cell_of_row _ _ _ _ _ _ (heap_alloc_new wo _)]; rfl); have hv1 : (wo.alloc (.cells #[.int .i64 y0, .int .i64 y1, .int .i64 y2, .int .i64 y3, .int .i64 y4] 85)).cell? ⟨wo.heap.size, 1, none⟩ = some (.int .i64 y1) := (by rw [cell_of_row _ _ _ _ _ _ (heap_alloc_new wo _)]; rfl); have hv2 : (wo.alloc (.cells #[.int .i64 y0, .int .i64 y1, .int .i64 y2, .int .i64 y3, .int .i64 y4] 85)).cell? ⟨wo.heap.size, 2, none⟩ = some (.int .i64 y2) := (by rw [cell_of_row _ _ _ _ _ _ (heap_alloc_new wo _)]; rfl); have hv3 : (wo.alloc (.cells #[.int .i64 y0, .int .i64 y1, .int .i64 y2, .int .i64 y3, .int .i64 y4] 85)).cell? ⟨wo.heap.size, 3, none⟩ = some (.int .i64 y3) := (by rw [cell_of_row _ _ _ _ _ _ (heap_alloc_new wo _)]; rfl); have hv4 : (wo.alloc (.cells #[.int .i64 y0, .int .i64 y1, .int .i64 y2, .int .i64 y3, .int .i64 y4] 85)).cell? ⟨wo.heap.size, 4, none⟩ = some (.int .i64 y4) := (by rw [cell_of_row _ _ _ _ _ _ (heap_alloc_new wo _)]; rfl); generalize wo.alloc (.cells #[.int .i64 y0, .int .i64 y1, .int .i64 y2, .int .i64 y3, .int .i64 y4] 85) = w at hWV hV0 hv0 hv1 hv2 hv3 hv4 ⊢; have hr := h.below hWV; have hB : Below w.heap.size w w := Below.refl _ _; have hwz : wo.heap.size ≤ w.heap.size := hWV.size))
    all_goals go_wp2_with (first | (go_at_call 148; refine (CK.out _).mono ?_; rintro e w' ⟨rfl, hb⟩; have hB : Below w.heap.size w w' := Below.thenn (by repeat (first | exact Below.refl _ _ | assumption | apply Below.drew | apply below_drewN | (refine Below.alloc ?_ (by first | omega | (simp; done) | (simp; omega)) _) | (refine Below.setCell ?_ (by first | omega | (simp; done) | (simp; omega)) _))) hb (by first | omega | (simp; done) | (simp; omega)); have hz : w.heap.size ≤ w'.heap.size := hB.size; obtain ⟨hc, hf⟩ := bcell hb; clear hb) | (go_at_call 98; refine (CM.out _).mono ?_; rintro e w' ⟨rfl, rfl⟩))
    all_goals go_ret2
    all_goals exact ⟨rfl, Below.thenn hWV hB hWV.size⟩
  · rw [rw_yes hk]
    simp only [rwA, Bool.and_eq_true] at hk
    have hb := kndOk_iff.1 hk.1
    have hm := (show 0 ≤ m ∧ m ≤ 20000 by simpa [inr] using hk.2)
    rw [hk.1] at CK
    rw [hk.2] at CM
    have m1 : 0 ≤ m * y3 ∧ m * y3 ≤ 10000000 := by
      have h1 := Int.mul_nonneg hm.1 (show 0 ≤ y3 by omega)
      have h2 := Int.mul_le_mul_of_nonneg_right hm.2 (show 0 ≤ y3 by omega)
      omega
    obtain ⟨P, hP⟩ : ∃ P, P = m * y3 := ⟨_, rfl⟩
    have hP2 : P = y3 * m := hP.trans (Int.mul_comm _ _)
    rw [← hP] at m1 ⊢
    have u1 : IntKind.i64.wrap (m * y3) = P := (IntWalk.i64_in _ (by omega)).trans hP.symm
    have u4 : IntKind.i64.wrap (y3 * m) = P := (IntWalk.i64_in _ (by omega)).trans hP2.symm
    have u2 : IntKind.i64.wrap (P + 9) = P + 9 := IntWalk.i64_in _ (by omega)
    have u3 : IntKind.i64.wrap ((P + 9) / 10) = (P + 9) / 10 := IntWalk.i64_in _ (by omega)
    have u5 : IntKind.i64.wrap ((P + 9).tdiv 10) = (P + 9) / 10 := by rw [Int.tdiv_eq_ediv_of_nonneg (by omega)]; exact u3
    clear hP hP2 hk hb hm
    go_enter Try.func89, Try.ntmps89
    go_wp2_with fail
    have h : RdR wo 3 none 0 [] := ⟨⟨rfl, fun h => absurd h (by omega)⟩, by simp [Even], rfl⟩
    (have hWV : Below wo.heap.size wo (wo.alloc (.cells #[.int .i64 y0, .int .i64 y1, .int .i64 y2, .int .i64 y3, .int .i64 y4] 85)) := (Below.refl _ _).alloc (Nat.le_refl _) _; have hV0 : wo.heap.size < (wo.alloc (.cells #[.int .i64 y0, .int .i64 y1, .int .i64 y2, .int .i64 y3, .int .i64 y4] 85)).heap.size := (by simp); have hv0 : (wo.alloc (.cells #[.int .i64 y0, .int .i64 y1, .int .i64 y2, .int .i64 y3, .int .i64 y4] 85)).cell? ⟨wo.heap.size, 0, none⟩ = some (.int .i64 y0) := (by rw [cell_of_row _ _ _ _ _ _ (heap_alloc_new wo _)]; rfl); have hv1 : (wo.alloc (.cells #[.int .i64 y0, .int .i64 y1, .int .i64 y2, .int .i64 y3, .int .i64 y4] 85)).cell? ⟨wo.heap.size, 1, none⟩ = some (.int .i64 y1) := (by rw [cell_of_row _ _ _ _ _ _ (heap_alloc_new wo _)]; rfl); have hv2 : (wo.alloc (.cells #[.int .i64 y0, .int .i64 y1, .int .i64 y2, .int .i64 y3, .int .i64 y4] 85)).cell? ⟨wo.heap.size, 2, none⟩ = some (.int .i64 y2) := (by rw [cell_of_row _ _ _ _ _ _ (heap_alloc_new wo _)]; rfl); have hv3 : (wo.alloc (.cells #[.int .i64 y0, .int .i64 y1, .int .i64 y2, .int .i64 y3, .int .i64 y4] 85)).cell? ⟨wo.heap.size, 3, none⟩ = some (.int .i64 y3) := (by rw [cell_of_row _ _ _ _ _ _ (heap_alloc_new wo _)]; rfl); have hv4 : (wo.alloc (.cells #[.int .i64 y0, .int .i64 y1, .int .i64 y2, .int .i64 y3, .int .i64 y4] 85)).cell? ⟨wo.heap.size, 4, none⟩ = some (.int .i64 y4) := (by rw [cell_of_row _ _ _ _ _ _ (heap_alloc_new wo _)]; rfl); generalize wo.alloc (.cells #[.int .i64 y0, .int .i64 y1, .int .i64 y2, .int .i64 y3, .int .i64 y4] 85) = w at hWV hV0 hv0 hv1 hv2 hv3 hv4 ⊢; have hr := h.below hWV; have hB : Below w.heap.size w w := Below.refl _ _; have hwz : wo.heap.size ≤ w.heap.size := hWV.size)
    go_wp2_with (first | (go_at_call 148; refine (CK.out _).mono ?_; rintro e w' ⟨rfl, hb⟩; have hB : Below w.heap.size w w' := Below.thenn (by repeat (first | exact Below.refl _ _ | assumption | apply Below.drew | apply below_drewN | (refine Below.alloc ?_ (by first | omega | (simp; done) | (simp; omega)) _) | (refine Below.setCell ?_ (by first | omega | (simp; done) | (simp; omega)) _))) hb (by first | omega | (simp; done) | (simp; omega)); have hz : w.heap.size ≤ w'.heap.size := hB.size; obtain ⟨hc, hf⟩ := bcell hb; clear hb) | (go_at_call 98; refine (CM.out _).mono ?_; rintro e w' ⟨rfl, rfl⟩))
    go_ret2
    exact ⟨rfl, Below.thenn hWV hB hWV.size⟩
set_option maxHeartbeats 4000000 in
theorem spec_RopeWeight (y0 y1 y2 y3 y4 m : Int) (wo : World) :
    Calls Try.prog 90 #[.agg #[.int .i64 y0, .int .i64 y1, .int .i64 y2, .int .i64 y3, .int .i64 y4], .int .i64 m] wo (Ret wo (.tuple #[.int .i64 (rwZ y0 y1 y2 y3 y4 m), .bool (rwA y0 y1 y2 y3 y4 m)])) := by
  have CK := Lib.hid (fun w => spec_l3Kind y0 y1 y2 y3 y4 w)
  have CM := Lib.hid (fun w => spec_l1In m 0 20000 w)
  rcases hk : rwA y0 y1 y2 y3 y4 m with _ | _
  · rw [rw_no hk]
    have HD : Hid (rwA y0 y1 y2 y3 y4 m = (kndOk y0 y1 y2 y3 y4 && inr m 0 20000)) := Lib.hid rfl
    rw [hk] at HD
    clear hk
    generalize kndOk y0 y1 y2 y3 y4 = d at *
    generalize inr m 0 20000 = t at *
    rcases d with _ | _ <;> rcases t with _ | _
    all_goals first | (exfalso; exact absurd HD.out (by decide)) | skip
    all_goals (go_enter Try.func90, Try.ntmps90)
    all_goals go_wp2_with fail
    all_goals (have h : RdR wo 3 none 0 [] := ⟨⟨rfl, fun h => absurd h (by omega)⟩, by simp [Even], rfl⟩; (have hWV : Below wo.heap.size wo (wo.alloc (.cells #[.int .i64 y0, .int .i64 y1, .int .i64 y2, .int .i64 y3, .int .i64 y4] 85)) := (Below.refl _ _).alloc (Nat.le_refl _) _; have hV0 : wo.heap.size < (wo.alloc (.cells #[.int .i64 y0, .int .i64 y1, .int .i64 y2, .int .i64 y3, .int .i64 y4] 85)).heap.size := (by simp); have hv0 : (wo.alloc (.cells #[.int .i64 y0, .int .i64 y1, .int .i64 y2, .int .i64 y3, .int .i64 y4] 85)).cell? ⟨wo.heap.size, 0, none⟩ = some (.int .i64 y0) := (by rw [cell_of_row _ _ _ _ _ _ (heap_alloc_new wo _)]; rfl); have hv1 : (wo.alloc (.cells #[.int .i64 y0, .int .i64 y1, .int .i64 y2, .int .i64 y3, .int .i64 y4] 85)).cell? ⟨wo.heap.size, 1, none⟩ = some (.int .i64 y1) := (by rw [cell_of_row _ _ _ _ _ _ (heap_alloc_new wo _)]; rfl); have hv2 : (wo.alloc (.cells #[.int .i64 y0, .int .i64 y1, .int .i64 y2, .int .i64 y3, .int .i64 y4] 85)).cell? ⟨wo.heap.size, 2, none⟩ = some (.int .i64 y2) := (by rw [cell_of_row _ _ _ _ _ _ (heap_alloc_new wo _)]; rfl); have hv3 : (wo.alloc (.cells #[.int .i64 y0, .int .i64 y1, .int .i64 y2, .int .i64 y3, .int .i64 y4] 85)).cell? ⟨wo.heap.size, 3, none⟩ = some (.int .i64 y3) := (by rw [cell_of_row _ _ _ _ _ _ (heap_alloc_new wo _)]; rfl); have hv4 : (wo.alloc (.cells #[.int .i64 y0, .int .i64 y1, .int .i64 y2, .int .i64 y3, .int .i64 y4] 85)).cell? ⟨wo.heap.size, 4, none⟩ = some (.int .i64 y4) := (by rw [cell_of_row _ _ _ _ _ _ (heap_alloc_new wo _)]; rfl); generalize wo.alloc (.cells #[.int .i64 y0, .int .i64 y1, .int .i64 y2, .int .i64 y3, .int .i64 y4] 85) = w at hWV hV0 hv0 hv1 hv2 hv3 hv4 ⊢; have hr := h.below hWV; have hB : Below w.heap.size w w := Below.refl _ _; have hwz : wo.heap.size ≤ w.heap.size := hWV.size))
    all_goals go_wp2_with (first | (go_at_call 149; refine (CK.out _).mono ?_; rintro e w' ⟨rfl, hb⟩; have hB : Below w.heap.size w w' := Below.thenn (by repeat (first | exact Below.refl _ _ | assumption | apply Below.drew | apply below_drewN | (refine Below.alloc ?_ (by first | omega | (simp; done) | (simp; omega)) _) | (refine Below.setCell ?_ (by first | omega | (simp; done) | (simp; omega)) _))) hb (by first | omega | (simp; done) | (simp; omega)); have hz : w.heap.size ≤ w'.heap.size := hB.size; obtain ⟨hc, hf⟩ := bcell hb; clear hb) | (go_at_call 102; refine (CM.out _).mono ?_; rintro e w' ⟨rfl, rfl⟩))
    all_goals go_ret2
    all_goals exact ⟨rfl, Below.thenn hWV hB hWV.size⟩
  · rw [rw_yes hk]
    simp only [rwA, Bool.and_eq_true] at hk
    have hb := kndOk_iff.1 hk.1
    have hm := (show 0 ≤ m ∧ m ≤ 20000 by simpa [inr] using hk.2)
    rw [hk.1] at CK
    rw [hk.2] at CM
    have m1 : 0 ≤ m * y3 ∧ m * y3 ≤ 10000000 := by
      have h1 := Int.mul_nonneg hm.1 (show 0 ≤ y3 by omega)
      have h2 := Int.mul_le_mul_of_nonneg_right hm.2 (show 0 ≤ y3 by omega)
      omega
    obtain ⟨P, hP⟩ : ∃ P, P = m * y3 := ⟨_, rfl⟩
    have hP2 : P = y3 * m := hP.trans (Int.mul_comm _ _)
    rw [← hP] at m1 ⊢
    have u1 : IntKind.i64.wrap (m * y3) = P := (IntWalk.i64_in _ (by omega)).trans hP.symm
    have u4 : IntKind.i64.wrap (y3 * m) = P := (IntWalk.i64_in _ (by omega)).trans hP2.symm
    have u2 : IntKind.i64.wrap (P + 9) = P + 9 := IntWalk.i64_in _ (by omega)
    have u3 : IntKind.i64.wrap ((P + 9) / 10) = (P + 9) / 10 := IntWalk.i64_in _ (by omega)
    have u5 : IntKind.i64.wrap ((P + 9).tdiv 10) = (P + 9) / 10 := by rw [Int.tdiv_eq_ediv_of_nonneg (by omega)]; exact u3
    clear hP hP2 hk hb hm
    go_enter Try.func90, Try.ntmps90
    go_wp2_with fail
    have h : RdR wo 3 none 0 [] := ⟨⟨rfl, fun h => absurd h (by omega)⟩, by simp [Even], rfl⟩
    (have hWV : Below wo.heap.size wo (wo.alloc (.cells #[.int .i64 y0, .int .i64 y1, .int .i64 y2, .int .i64 y3, .int .i64 y4] 85)) := (Below.refl _ _).alloc (Nat.le_refl _) _; have hV0 : wo.heap.size < (wo.alloc (.cells #[.int .i64 y0, .int .i64 y1, .int .i64 y2, .int .i64 y3, .int .i64 y4] 85)).heap.size := (by simp); have hv0 : (wo.alloc (.cells #[.int .i64 y0, .int .i64 y1, .int .i64 y2, .int .i64 y3, .int .i64 y4] 85)).cell? ⟨wo.heap.size, 0, none⟩ = some (.int .i64 y0) := (by rw [cell_of_row _ _ _ _ _ _ (heap_alloc_new wo _)]; rfl); have hv1 : (wo.alloc (.cells #[.int .i64 y0, .int .i64 y1, .int .i64 y2, .int .i64 y3, .int .i64 y4] 85)).cell? ⟨wo.heap.size, 1, none⟩ = some (.int .i64 y1) := (by rw [cell_of_row _ _ _ _ _ _ (heap_alloc_new wo _)]; rfl); have hv2 : (wo.alloc (.cells #[.int .i64 y0, .int .i64 y1, .int .i64 y2, .int .i64 y3, .int .i64 y4] 85)).cell? ⟨wo.heap.size, 2, none⟩ = some (.int .i64 y2) := (by rw [cell_of_row _ _ _ _ _ _ (heap_alloc_new wo _)]; rfl); have hv3 : (wo.alloc (.cells #[.int .i64 y0, .int .i64 y1, .int .i64 y2, .int .i64 y3, .int .i64 y4] 85)).cell? ⟨wo.heap.size, 3, none⟩ = some (.int .i64 y3) := (by rw [cell_of_row _ _ _ _ _ _ (heap_alloc_new wo _)]; rfl); have hv4 : (wo.alloc (.cells #[.int .i64 y0, .int .i64 y1, .int .i64 y2, .int .i64 y3, .int .i64 y4] 85)).cell? ⟨wo.heap.size, 4, none⟩ = some (.int .i64 y4) := (by rw [cell_of_row _ _ _ _ _ _ (heap_alloc_new wo _)]; rfl); generalize wo.alloc (.cells #[.int .i64 y0, .int .i64 y1, .int .i64 y2, .int .i64 y3, .int .i64 y4] 85) = w at hWV hV0 hv0 hv1 hv2 hv3 hv4 ⊢; have hr := h.below hWV; have hB : Below w.heap.size w w := Below.refl _ _; have hwz : wo.heap.size ≤ w.heap.size := hWV.size)
    go_wp2_with (first | (go_at_call 149; refine (CK.out _).mono ?_; rintro e w' ⟨rfl, hb⟩; have hB : Below w.heap.size w w' := Below.thenn (by repeat (first | exact Below.refl _ _ | assumption | apply Below.drew | apply below_drewN | (refine Below.alloc ?_ (by first | omega | (simp; done) | (simp; omega)) _) | (refine Below.setCell ?_ (by first | omega | (simp; done) | (simp; omega)) _))) hb (by first | omega | (simp; done) | (simp; omega)); have hz : w.heap.size ≤ w'.heap.size := hB.size; obtain ⟨hc, hf⟩ := bcell hb; clear hb) | (go_at_call 102; refine (CM.out _).mono ?_; rintro e w' ⟨rfl, rfl⟩))
    go_ret2
    exact ⟨rfl, Below.thenn hWV hB hWV.size⟩
end Go.Proofs.Ytjfmicemnoglkaa
