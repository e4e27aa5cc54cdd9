/- The fewest brakes: the reference's. -/
import Derived.Test.YthijklidjdhkdaaBrkS
import Derived.Test.YthijklidjdhkdaaBrkH
namespace Go.Proofs.Ythijklidjdhkdaa
open Go.RowKit
set_option linter.unusedVariables false
set_option linter.unusedSimpArgs false

theorem lit0E (w : World) (B g : Nat) (hB : B ≤ w.heap.size) (hg : g = w.heap.size) : Ow (w.alloc (.cells #[] 3)) B (.slice (some ⟨g, 0, none⟩) 0 0) [] := by subst hg; exact Ow.lit0 w B hB
theorem fb_no {m p v way : Int} {rows : List (List Int)} (h : fbA m p rows v way = false) : fbV m p rows v way = [] ∧ fbOk m p rows v way = false := by simp [fbV, fbOk, fbR, h]
theorem fb_yes {m p v way : Int} {rows : List (List Int)} (h : fbA m p rows v way = true) : fbV m p rows v way = (fbF m p rows v way (2 ^ rows.length) 0 [] false).1 ∧ fbOk m p rows v way = (fbF m p rows v way (2 ^ rows.length) 0 [] false).2 := by simp [fbV, fbOk, fbR, h]
theorem pow_16 {n : Nat} (h : n ≤ 4) : 1 ≤ 2 ^ n ∧ 2 ^ n ≤ 16 := by rcases (by omega : n = 0 ∨ n = 1 ∨ n = 2 ∨ n = 3 ∨ n = 4) with rfl | rfl | rfl | rfl | rfl <;> decide
set_option maxRecDepth 100000 in
set_option maxHeartbeats 4000000 in
theorem spec_FewestBrakes (m p : Int) (A : Option Addr) (n c : Nat) (rows : List (List Int)) (v way : Int) (wo : World) (h : RdR wo 2 A n rows) (hm : n ≤ 1048577) :
    Calls Try.prog 37 #[.agg #[.int .i64 m, .int .i64 p, .slice A n c], .int .i64 v, .int .i64 way] wo (RetSB wo (fbV m p rows v way) (fbOk m p rows v way)) := by
  have hl := Lib.hid h.2.2
  have ci := fun w' (h' : RdR w' 2 A n rows) => spec_l10Asked m p A n c rows v w' h' hm
  rcases hq : (drvOk m p rows && inr v 0 100) with _ | _
  all_goals rw [hq] at ci
  all_goals have CI := Lib.hid ci
  · obtain ⟨e1, e2⟩ := fb_no (m := m) (p := p) (v := v) (way := way) (rows := rows) (by unfold fbA; rw [hq]; rfl)
    rw [e1, e2]
    clear ci hq e1 e2
    go_enter Try.func37, Try.ntmps37
    (go_wp2_with fail; have hWV : Below wo.heap.size wo (wo.alloc (.cells #[.int .i64 m, .int .i64 p, .slice A n c] 29)) := (Below.refl _ _).alloc (Nat.le_refl _) _; have hV0 : wo.heap.size < (wo.alloc (.cells #[.int .i64 m, .int .i64 p, .slice A n c] 29)).heap.size := (by simp); have hv0 : (wo.alloc (.cells #[.int .i64 m, .int .i64 p, .slice A n c] 29)).cell? ⟨wo.heap.size, 0, none⟩ = some (.int .i64 m) := (by rw [cell_of_row _ _ _ _ _ _ (heap_alloc_new wo _)]; rfl); have hv1 : (wo.alloc (.cells #[.int .i64 m, .int .i64 p, .slice A n c] 29)).cell? ⟨wo.heap.size, 1, none⟩ = some (.int .i64 p) := (by rw [cell_of_row _ _ _ _ _ _ (heap_alloc_new wo _)]; rfl); have hv2 : (wo.alloc (.cells #[.int .i64 m, .int .i64 p, .slice A n c] 29)).cell? ⟨wo.heap.size, 2, none⟩ = some (.slice A n c) := (by rw [cell_of_row _ _ _ _ _ _ (heap_alloc_new wo _)]; rfl); have HV1 : Hid (wo.heap.size + 1 = (wo.alloc (.cells #[.int .i64 m, .int .i64 p, .slice A n c] 29)).heap.size) := (show _ = _ by simp); generalize wo.alloc (.cells #[.int .i64 m, .int .i64 p, .slice A n c] 29) = w at hWV hV0 HV1 hv0 hv1 hv2 ⊢; have hr := h.below hWV; have hB : Below w.heap.size w w := Below.refl _ _; have hwz : wo.heap.size ≤ w.heap.size := hWV.size)
    go_wp2_with (go_at_call 55; refine (CI.out _ (hr.below (by repeat (first | exact Below.refl _ _ | assumption | apply Below.drew | apply below_drewN | (refine Below.alloc ?_ (by first | omega | (simp; done) | (simp; omega)) _) | (refine Below.setCell ?_ (by first | omega | (simp; done) | (simp; omega)) _))))).mono ?_; rintro e w' ⟨rfl, hb⟩; have hB : Below w.heap.size w w' := Below.thenn (by repeat (first | exact Below.refl _ _ | assumption | apply Below.drew | apply below_drewN | (refine Below.alloc ?_ (by first | omega | (simp; done) | (simp; omega)) _) | (refine Below.setCell ?_ (by first | omega | (simp; done) | (simp; omega)) _))) hb (by first | omega | (simp; done) | (simp; omega)); have hz : w.heap.size ≤ w'.heap.size := hB.size; (try (have hz1 : w.heap.size + 1 ≤ w'.heap.size := (by have h := hb.size; (try simp at h); omega))); obtain ⟨hc, hf⟩ := bcell hb; have HO0 := Lib.hid ((lit0E w w.heap.size _ (Nat.le_refl _) HV1.out).below hb); clear hb)
    go_ret2
    exact ⟨_, 0, rfl, HO0.out.base hwz, Below.thenn hWV hB hwz⟩
  by_cases hw : 0 ≤ way
  case neg =>
    obtain ⟨e1, e2⟩ := fb_no (m := m) (p := p) (v := v) (way := way) (rows := rows) (by unfold fbA; rw [hq]; simp [hw])
    have hw2 : way < 0 := by omega
    rw [e1, e2]
    clear ci hq e1 e2 hw
    go_enter Try.func37, Try.ntmps37
    (go_wp2_with fail; have hWV : Below wo.heap.size wo (wo.alloc (.cells #[.int .i64 m, .int .i64 p, .slice A n c] 29)) := (Below.refl _ _).alloc (Nat.le_refl _) _; have hV0 : wo.heap.size < (wo.alloc (.cells #[.int .i64 m, .int .i64 p, .slice A n c] 29)).heap.size := (by simp); have hv0 : (wo.alloc (.cells #[.int .i64 m, .int .i64 p, .slice A n c] 29)).cell? ⟨wo.heap.size, 0, none⟩ = some (.int .i64 m) := (by rw [cell_of_row _ _ _ _ _ _ (heap_alloc_new wo _)]; rfl); have hv1 : (wo.alloc (.cells #[.int .i64 m, .int .i64 p, .slice A n c] 29)).cell? ⟨wo.heap.size, 1, none⟩ = some (.int .i64 p) := (by rw [cell_of_row _ _ _ _ _ _ (heap_alloc_new wo _)]; rfl); have hv2 : (wo.alloc (.cells #[.int .i64 m, .int .i64 p, .slice A n c] 29)).cell? ⟨wo.heap.size, 2, none⟩ = some (.slice A n c) := (by rw [cell_of_row _ _ _ _ _ _ (heap_alloc_new wo _)]; rfl); have HV1 : Hid (wo.heap.size + 1 = (wo.alloc (.cells #[.int .i64 m, .int .i64 p, .slice A n c] 29)).heap.size) := (show _ = _ by simp); generalize wo.alloc (.cells #[.int .i64 m, .int .i64 p, .slice A n c] 29) = w at hWV hV0 HV1 hv0 hv1 hv2 ⊢; have hr := h.below hWV; have hB : Below w.heap.size w w := Below.refl _ _; have hwz : wo.heap.size ≤ w.heap.size := hWV.size)
    go_wp2_with (go_at_call 55; refine (CI.out _ (hr.below (by repeat (first | exact Below.refl _ _ | assumption | apply Below.drew | apply below_drewN | (refine Below.alloc ?_ (by first | omega | (simp; done) | (simp; omega)) _) | (refine Below.setCell ?_ (by first | omega | (simp; done) | (simp; omega)) _))))).mono ?_; rintro e w' ⟨rfl, hb⟩; have hB : Below w.heap.size w w' := Below.thenn (by repeat (first | exact Below.refl _ _ | assumption | apply Below.drew | apply below_drewN | (refine Below.alloc ?_ (by first | omega | (simp; done) | (simp; omega)) _) | (refine Below.setCell ?_ (by first | omega | (simp; done) | (simp; omega)) _))) hb (by first | omega | (simp; done) | (simp; omega)); have hz : w.heap.size ≤ w'.heap.size := hB.size; (try (have hz1 : w.heap.size + 1 ≤ w'.heap.size := (by have h := hb.size; (try simp at h); omega))); obtain ⟨hc, hf⟩ := bcell hb; have HO0 := Lib.hid ((lit0E w w.heap.size _ (Nat.le_refl _) HV1.out).below hb); clear hb)
    go_ret2
    exact ⟨_, 0, rfl, HO0.out.base hwz, Below.thenn hWV hB hwz⟩
  have hA : fbA m p rows v way = true := by unfold fbA; rw [hq]; simp [hw]
  obtain ⟨e1, e2⟩ := fb_yes hA
  rw [e1, e2]
  obtain ⟨hok, v0, v1⟩ := asked_iff hq
  have hn4 : n ≤ 4 := by have := (drvOk_iff.1 hok).1.2.2; have := hl.out; omega
  obtain ⟨hN1, hN2⟩ := pow_16 hn4
  have CA : Hid (∀ w', RdR w' 2 A n rows → Calls Try.prog 57 #[.agg #[.int .i64 m, .int .i64 p, .slice A n c]] w' (Ret w' (.int .i64 ((2 ^ n - 1 : Nat))))) := Lib.hid (fun w' (h' : RdR w' 2 A n rows) => spec_l10All m p A n c rows w' h' hn4)
  rw [hl.out]
  have CY := Lib.hid (fun (s : Nat) (hs : s < 65536) w' (h' : RdR w' 2 A n rows) => spec_l10Way m p A n c s rows v w' h' hok v0 v1 hs)
  have HST := Lib.hid (fun (s : Nat) => stops_way (way := way) (sel_ok s 0 hok) v0 v1)
  have hwn : ¬ way < 0 := by omega
  generalize 2 ^ n = N at *
  generalize hE : fbF m p rows v way N 0 [] false = E
  have HE := Lib.hid hE
  clear hE e1 e2 hA hq ci hok hw
  obtain ⟨Sz, hSz⟩ : ∃ Sz, Sz = N - 1 := ⟨_, rfl⟩
  rw [← hSz] at CA
  go_enter Try.func37, Try.ntmps37
  (go_wp2_with fail; have hWV : Below wo.heap.size wo (wo.alloc (.cells #[.int .i64 m, .int .i64 p, .slice A n c] 29)) := (Below.refl _ _).alloc (Nat.le_refl _) _; have hV0 : wo.heap.size < (wo.alloc (.cells #[.int .i64 m, .int .i64 p, .slice A n c] 29)).heap.size := (by simp); have hv0 : (wo.alloc (.cells #[.int .i64 m, .int .i64 p, .slice A n c] 29)).cell? ⟨wo.heap.size, 0, none⟩ = some (.int .i64 m) := (by rw [cell_of_row _ _ _ _ _ _ (heap_alloc_new wo _)]; rfl); have hv1 : (wo.alloc (.cells #[.int .i64 m, .int .i64 p, .slice A n c] 29)).cell? ⟨wo.heap.size, 1, none⟩ = some (.int .i64 p) := (by rw [cell_of_row _ _ _ _ _ _ (heap_alloc_new wo _)]; rfl); have hv2 : (wo.alloc (.cells #[.int .i64 m, .int .i64 p, .slice A n c] 29)).cell? ⟨wo.heap.size, 2, none⟩ = some (.slice A n c) := (by rw [cell_of_row _ _ _ _ _ _ (heap_alloc_new wo _)]; rfl); have HV1 : Hid (wo.heap.size + 1 = (wo.alloc (.cells #[.int .i64 m, .int .i64 p, .slice A n c] 29)).heap.size) := (show _ = _ by simp); generalize wo.alloc (.cells #[.int .i64 m, .int .i64 p, .slice A n c] 29) = w at hWV hV0 HV1 hv0 hv1 hv2 ⊢; have hr := h.below hWV; have hB : Below w.heap.size w w := Below.refl _ _; have hwz : wo.heap.size ≤ w.heap.size := hWV.size)
  go_wp2_with (go_at_call 55; refine (CI.out _ (hr.below (by repeat (first | exact Below.refl _ _ | assumption | apply Below.drew | apply below_drewN | (refine Below.alloc ?_ (by first | omega | (simp; done) | (simp; omega)) _) | (refine Below.setCell ?_ (by first | omega | (simp; done) | (simp; omega)) _))))).mono ?_; rintro e w' ⟨rfl, hb⟩; have hB : Below w.heap.size w w' := Below.thenn (by repeat (first | exact Below.refl _ _ | assumption | apply Below.drew | apply below_drewN | (refine Below.alloc ?_ (by first | omega | (simp; done) | (simp; omega)) _) | (refine Below.setCell ?_ (by first | omega | (simp; done) | (simp; omega)) _))) hb (by first | omega | (simp; done) | (simp; omega)); have hz : w.heap.size ≤ w'.heap.size := hB.size; (try (have hz1 : w.heap.size + 1 ≤ w'.heap.size := (by have h := hb.size; (try simp at h); omega))); obtain ⟨hc, hf⟩ := bcell hb; have HO0 := Lib.hid ((lit0E w w.heap.size _ (Nat.le_refl _) HV1.out).below hb); clear hb)
  go_loopg [8, 9, 10] N (fun gg s8 s9 s10 wr => ∃ (k : Nat) (A2 : Option Addr) (c2 : Nat) (b : List Int) (f : Bool), k ≤ N ∧ N ≤ k + gg ∧ s10 = .int .i64 k ∧ s8 = .slice A2 b.length c2 ∧ s9 = .bool f ∧ b.length ≤ 4 ∧ Below w.heap.size w wr ∧ w.heap.size ≤ wr.heap.size ∧ Hid (Ow wr w.heap.size (.slice A2 b.length c2) b ∧ fbF m p rows v way (N - k) k b f = E))
  case atStart => exact ⟨0, _, _, [], false, by omega, by omega, rfl, rfl, rfl, by simp, hB, hz, ⟨HO0.out, HE.out⟩⟩
  case round =>
    clear hB hz hc hf HO0
    obtain ⟨k, A2, c2, b, f, hk1, hk2, rfl, rfl, rfl, hbl, hBr, hzr, ha⟩ := hrel
    have HO := Lib.hid ha.out.1
    have HF := Lib.hid ha.out.2
    clear ha
    have a0 := (hBr.cell (p := ⟨wo.heap.size, 0, none⟩) hV0).trans hv0
    have a1 := (hBr.cell (p := ⟨wo.heap.size, 1, none⟩) hV0).trans hv1
    have a2 := (hBr.cell (p := ⟨wo.heap.size, 2, none⟩) hV0).trans hv2
    have hor := Nat.lt_of_lt_of_le hV0 hzr
    have R0 := Lib.hid (hr.below hBr)
    have BB := Lib.hid hBr
    by_cases hlt : k < N
    · have hks : k ≤ Sz := by omega
      have hst := HST.out k
      have CYk := Lib.hid (CY.out k (by omega))
      have hnew : newB m p rows v way k b f = (stopsB m p (sel k 0 rows) way v && (!f || bef (memN k 4) b)) := rfl
      have FN := Lib.hid (fun hh => fbF_new (m := m) (p := p) (rows := rows) (v := v) (way := way) (b := b) (f := f) hlt hh)
      have FK := Lib.hid (fun hh => fbF_keep (m := m) (p := p) (rows := rows) (v := v) (way := way) (b := b) (f := f) hlt hh)
      generalize newB m p rows v way k b f = nb at *
      generalize wayZ m p (sel k 0 rows) v = z at *
      have CM := Lib.hid (fun w' => spec_l10Members k w' (by omega))
      have CBE := Lib.hid (fun (A3 : Option Addr) (c3 : Nat) w' (h3 : Rd w' 1 A3 (memN k 4).length (IV (memN k 4))) (h4 : Rd w' 1 A2 b.length (IV b)) => spec_l10Before A3 A2 _ _ c3 c2 _ _ w' h3 h4 (by have := memN_len k 4; omega) (by omega))
      have hml := memN_len k 4
      generalize memN k 4 = ys at *
      by_cases hz0 : z < 0 ∨ way < z
      · have hnb : nb = false := by rw [hnew, hst]; rcases hz0 with h1 | h1 <;> simp [h1]
        have HX := Lib.hid ((FK.out hnb).symm.trans HF.out)
        rcases hz0 with h1 | h1
        · clear hnew hst FN FK hnb
          go_wp2_with (first | (go_at_call 57; refine (CA.out _ R0.out).mono ?_; rintro e w1 ⟨rfl, hb⟩; have H1 := Lib.hid (Below.thenn BB.out hb hzr); have O1 := Lib.hid (HO.out.below hb); have R1 := Lib.hid (R0.out.below hb); clear hb; (clear a0 a1 a2); have a0 := (H1.out.cell (p := ⟨wo.heap.size, 0, none⟩) hV0).trans hv0; have a1 := (H1.out.cell (p := ⟨wo.heap.size, 1, none⟩) hV0).trans hv1; have a2 := (H1.out.cell (p := ⟨wo.heap.size, 2, none⟩) hV0).trans hv2; have hor1 := Nat.lt_of_lt_of_le hV0 H1.out.size) | (go_at_call 56; refine (CYk.out _ R1.out).mono ?_; rintro e w2 ⟨rfl, hb⟩; have H2 := Lib.hid (Below.thenn H1.out hb H1.out.size); have O2 := Lib.hid (O1.out.below hb); clear hb))
          go_roundg (N - (k + 1))
          case measure => omega
          case rel => exact ⟨k + 1, A2, c2, b, f, by omega, by omega, by go_num, rfl, rfl, hbl, H2.out, H2.out.size, ⟨O2.out, HX.out⟩⟩
        · have h2 : ¬ z < 0 := by omega
          clear hnew hst FN FK hnb
          go_wp2_with (first | (go_at_call 57; refine (CA.out _ R0.out).mono ?_; rintro e w1 ⟨rfl, hb⟩; have H1 := Lib.hid (Below.thenn BB.out hb hzr); have O1 := Lib.hid (HO.out.below hb); have R1 := Lib.hid (R0.out.below hb); clear hb; (clear a0 a1 a2); have a0 := (H1.out.cell (p := ⟨wo.heap.size, 0, none⟩) hV0).trans hv0; have a1 := (H1.out.cell (p := ⟨wo.heap.size, 1, none⟩) hV0).trans hv1; have a2 := (H1.out.cell (p := ⟨wo.heap.size, 2, none⟩) hV0).trans hv2; have hor1 := Nat.lt_of_lt_of_le hV0 H1.out.size) | (go_at_call 56; refine (CYk.out _ R1.out).mono ?_; rintro e w2 ⟨rfl, hb⟩; have H2 := Lib.hid (Below.thenn H1.out hb H1.out.size); have O2 := Lib.hid (O1.out.below hb); clear hb))
          go_roundg (N - (k + 1))
          case measure => omega
          case rel => exact ⟨k + 1, A2, c2, b, f, by omega, by omega, by go_num, rfl, rfl, hbl, H2.out, H2.out.size, ⟨O2.out, HX.out⟩⟩
      · have h1 : ¬ z < 0 := fun hh => hz0 (.inl hh)
        have h2 : ¬ way < z := fun hh => hz0 (.inr hh)
        have hs1 : stopsB m p (sel k 0 rows) way v = true := by rw [hst]; simp [h1, h2]
        rw [hs1, Bool.true_and] at hnew
        clear hst hs1 hz0
        rcases f with _ | _
        · have HX := Lib.hid ((FN.out (by rw [hnew]; rfl)).symm.trans HF.out)
          clear hnew FN FK
          go_wp2_with (first | (go_at_call 57; refine (CA.out _ R0.out).mono ?_; rintro e w1 ⟨rfl, hb⟩; have H1 := Lib.hid (Below.thenn BB.out hb hzr); have O1 := Lib.hid (HO.out.below hb); have R1 := Lib.hid (R0.out.below hb); clear hb; (clear a0 a1 a2); have a0 := (H1.out.cell (p := ⟨wo.heap.size, 0, none⟩) hV0).trans hv0; have a1 := (H1.out.cell (p := ⟨wo.heap.size, 1, none⟩) hV0).trans hv1; have a2 := (H1.out.cell (p := ⟨wo.heap.size, 2, none⟩) hV0).trans hv2; have hor1 := Nat.lt_of_lt_of_le hV0 H1.out.size) | (go_at_call 56; refine (CYk.out _ R1.out).mono ?_; rintro e w2 ⟨rfl, hb⟩; have H2 := Lib.hid (Below.thenn H1.out hb H1.out.size); have O2 := Lib.hid (O1.out.below hb); clear hb) | (go_at_call 65; refine (CM.out _).mono ?_; rintro e w3 ⟨A3, c3, rfl, ho, hb⟩; have H3 := Lib.hid (Below.thenn H2.out hb H2.out.size); have O3 := Lib.hid (ho.base H2.out.size); have P3 := Lib.hid (O2.out.below hb); clear hb ho))
          go_roundg (N - (k + 1))
          case measure => omega
          case rel => exact ⟨k + 1, A3, c3, ys, true, by omega, by omega, by go_num, rfl, rfl, by omega, H3.out, H3.out.size, ⟨O3.out, HX.out⟩⟩
        · rw [Bool.not_true, Bool.false_or] at hnew
          rcases hbf : bef ys b with _ | _
          · have HX := Lib.hid ((FK.out (by rw [hnew]; exact hbf)).symm.trans HF.out)
            rw [hbf] at CBE
            clear hnew FN FK hbf
            go_wp2_with (first | (go_at_call 57; refine (CA.out _ R0.out).mono ?_; rintro e w1 ⟨rfl, hb⟩; have H1 := Lib.hid (Below.thenn BB.out hb hzr); have O1 := Lib.hid (HO.out.below hb); have R1 := Lib.hid (R0.out.below hb); clear hb; (clear a0 a1 a2); have a0 := (H1.out.cell (p := ⟨wo.heap.size, 0, none⟩) hV0).trans hv0; have a1 := (H1.out.cell (p := ⟨wo.heap.size, 1, none⟩) hV0).trans hv1; have a2 := (H1.out.cell (p := ⟨wo.heap.size, 2, none⟩) hV0).trans hv2; have hor1 := Nat.lt_of_lt_of_le hV0 H1.out.size) | (go_at_call 56; refine (CYk.out _ R1.out).mono ?_; rintro e w2 ⟨rfl, hb⟩; have H2 := Lib.hid (Below.thenn H1.out hb H1.out.size); have O2 := Lib.hid (O1.out.below hb); clear hb) | (go_at_call 65; refine (CM.out _).mono ?_; rintro e w3 ⟨A3, c3, rfl, ho, hb⟩; have H3 := Lib.hid (Below.thenn H2.out hb H2.out.size); have O3 := Lib.hid (ho.base H2.out.size); have P3 := Lib.hid (O2.out.below hb); clear hb ho) | (go_at_call 66; refine (CBE.out A3 c3 _ O3.out.rd P3.out.rd).mono ?_; intro e w4 hq; obtain ⟨rfl, hb⟩ := hq.ret; have H4 := Lib.hid (Below.thenn H3.out hb H3.out.size); have O4 := Lib.hid (O3.out.below hb); have P4 := Lib.hid (P3.out.below hb); clear hb hq))
            go_roundg (N - (k + 1))
            case measure => omega
            case rel => exact ⟨k + 1, A2, c2, b, true, by omega, by omega, by go_num, rfl, rfl, hbl, H4.out, H4.out.size, ⟨P4.out, HX.out⟩⟩
          · have HX := Lib.hid ((FN.out (by rw [hnew]; exact hbf)).symm.trans HF.out)
            rw [hbf] at CBE
            clear hnew FN FK hbf
            go_wp2_with (first | (go_at_call 57; refine (CA.out _ R0.out).mono ?_; rintro e w1 ⟨rfl, hb⟩; have H1 := Lib.hid (Below.thenn BB.out hb hzr); have O1 := Lib.hid (HO.out.below hb); have R1 := Lib.hid (R0.out.below hb); clear hb; (clear a0 a1 a2); have a0 := (H1.out.cell (p := ⟨wo.heap.size, 0, none⟩) hV0).trans hv0; have a1 := (H1.out.cell (p := ⟨wo.heap.size, 1, none⟩) hV0).trans hv1; have a2 := (H1.out.cell (p := ⟨wo.heap.size, 2, none⟩) hV0).trans hv2; have hor1 := Nat.lt_of_lt_of_le hV0 H1.out.size) | (go_at_call 56; refine (CYk.out _ R1.out).mono ?_; rintro e w2 ⟨rfl, hb⟩; have H2 := Lib.hid (Below.thenn H1.out hb H1.out.size); have O2 := Lib.hid (O1.out.below hb); clear hb) | (go_at_call 65; refine (CM.out _).mono ?_; rintro e w3 ⟨A3, c3, rfl, ho, hb⟩; have H3 := Lib.hid (Below.thenn H2.out hb H2.out.size); have O3 := Lib.hid (ho.base H2.out.size); have P3 := Lib.hid (O2.out.below hb); clear hb ho) | (go_at_call 66; refine (CBE.out A3 c3 _ O3.out.rd P3.out.rd).mono ?_; intro e w4 hq; obtain ⟨rfl, hb⟩ := hq.ret; have H4 := Lib.hid (Below.thenn H3.out hb H3.out.size); have O4 := Lib.hid (O3.out.below hb); have P4 := Lib.hid (P3.out.below hb); clear hb hq))
            go_roundg (N - (k + 1))
            case measure => omega
            case rel => exact ⟨k + 1, A3, c3, ys, true, by omega, by omega, by go_num, rfl, rfl, by omega, H4.out, H4.out.size, ⟨O4.out, HX.out⟩⟩
    · have hks : ¬ k ≤ Sz := by omega
      have he : E = (b, f) := by rw [← HF.out]; exact fbF_end (by omega)
      subst he
      go_wp2_with (go_at_call 57; refine (CA.out _ R0.out).mono ?_; rintro e w1 ⟨rfl, hb⟩; have H1 := Lib.hid (Below.thenn BB.out hb hzr); have O1 := Lib.hid (HO.out.below hb); have R1 := Lib.hid (R0.out.below hb); clear hb; (clear a0 a1 a2); have a0 := (H1.out.cell (p := ⟨wo.heap.size, 0, none⟩) hV0).trans hv0; have a1 := (H1.out.cell (p := ⟨wo.heap.size, 1, none⟩) hV0).trans hv1; have a2 := (H1.out.cell (p := ⟨wo.heap.size, 2, none⟩) hV0).trans hv2; have hor1 := Nat.lt_of_lt_of_le hV0 H1.out.size)
      go_ret2
      exact ⟨A2, c2, rfl, O1.out.base hwz, Below.thenn hWV H1.out hwz⟩
end Go.Proofs.Ythijklidjdhkdaa
