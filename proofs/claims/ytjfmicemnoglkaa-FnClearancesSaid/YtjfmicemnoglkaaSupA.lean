/- Valid lines: the program's and the reference's. -/
import Derived.Test.YtjfmicemnoglkaaSupP
import Derived.Test.YtjfmicemnoglkaaExt
import Derived.Deep.RegionWith
namespace Go.Proofs.Ytjfmicemnoglkaa
open Go.RowKit
set_option linter.unusedVariables false
set_option linter.unusedSimpArgs false

theorem lineOk_no {rows : List (List Int)} {n : Nat} {a b c : Int} (hl : rows.length = n) (h0 : atN rows 0 = a) (h1 : stN rows 0 = b) (h2 : stN rows (n - 1) = c) (h : lineR n a b c = false) : lineOk rows = false := by
  subst hl h0 h1 h2; simp [lineOk, h]
theorem lineOk_yes {rows : List (List Int)} {n : Nat} {a b c : Int} (hl : rows.length = n) (h0 : atN rows 0 = a) (h1 : stN rows 0 = b) (h2 : stN rows (n - 1) = c) (h : lineR n a b c = true) : lineOk rows = supsF (-1) rows := by
  subst hl h0 h1 h2; simp [lineOk, h]
theorem lineR_no {n : Nat} {a b c : Int} (h : ¬ (2 ≤ n ∧ n ≤ 8)) : lineR n a b c = false := by simp [lineR]; omega
theorem supOk_no1 {p a b c : Int} (h : inr a 0 3000 = false) : supOk p [a, b, c] = false := by
  have : decide (0 ≤ fld [a, b, c] 0 ∧ fld [a, b, c] 0 ≤ 3000) = false := h
  unfold supOk; rw [this, Bool.false_and]
theorem supOk_no2 {p a b c : Int} (h : inr b 0 2000 = false) : supOk p [a, b, c] = false := by
  have : decide (0 ≤ fld [a, b, c] 1 ∧ fld [a, b, c] 1 ≤ 2000) = false := h
  unfold supOk; rw [this, Bool.false_and, Bool.and_false]
theorem supOk_no3 {p a b c : Int} (h : a ≤ p) : supOk p [a, b, c] = false := by
  have : decide (p < fld [a, b, c] 0) = false := decide_eq_false (show ¬ p < a by omega)
  unfold supOk; rw [this, Bool.and_false, Bool.and_false]
theorem supOk_yes {p a b c : Int} (h : inr a 0 3000 = true) (h' : inr b 0 2000 = true) (hp : p < a) : supOk p [a, b, c] = true := by
  simp only [inr, decide_eq_true_eq] at h h'
  exact supOk_iff.2 ⟨h, h', hp⟩
set_option maxHeartbeats 4000000 in
theorem impl_IsLine (A : Option Addr) (n c : Nat) (rows : List (List Int)) (w : World) (h : RdL w A n rows) (hm : n ≤ 1048577) :
    Calls Try.prog 107 #[.slice A n c] w (Ret w (.bool (lineOk rows))) := by
  have hl := Lib.hid h.2.1
  by_cases hn : 2 ≤ n ∧ n ≤ 8
  · obtain ⟨b, off, x0, x1, x2, rfl, hr0, hb0, c0, _, c2⟩ := h.row (k := 0) (by omega)
    obtain ⟨b', off', y0, y1, y2, e', hr1, _, _, _, d2⟩ := h.row (k := n - 1) (by omega)
    injection e' with e'
    injection e' with e1 e2
    subst e1 e2
    obtain ⟨a0, _, a2⟩ := atN_of hr0
    obtain ⟨_, _, a3⟩ := atN_of hr1
    have HN := fun (hh : lineR n x0 x2 y2 = false) => lineOk_no hl.out a0 a2 a3 hh
    have HY := fun (hh : lineR n x0 x2 y2 = true) => lineOk_yes hl.out a0 a2 a3 hh
    have HNN := Lib.hid HN
    have HYY := Lib.hid HY
    have HH := Lib.hid h
    have hn1 : ((n : Int) - 1).toNat = n - 1 := by omega
    have hn2 : 0 ≤ (n : Int) - 1 := by omega
    simp only [Nat.zero_mul, Nat.add_zero] at c0 c2
    clear HN HY a0 a2 a3 hr0 hr1 h
    generalize hp0 : (x0 != 0) = p0 at *
    generalize hs0 : decide (x2 = 1) = s0 at *
    generalize hs1 : decide (y2 = 1) = s1 at *
    have HP := Lib.hid hp0
    have HS0 := Lib.hid hs0
    have HS1 := Lib.hid hs1
    clear hs0 hs1
    rcases p0 with _ | _
    rcases s0 with _ | _
    rotate_left
    rcases s1 with _ | _
    rotate_left
    · clear hp0
      have hx : x0 = 0 := by simpa using HP.out
      have hR : lineR n x0 x2 y2 = true := by
        have h1 := of_decide_eq_true HS0.out
        have h2 := of_decide_eq_true HS1.out
        simp [lineR, hn, hx, h1, h2]
      have HR := Lib.hid (HYY.out hR)
      clear hR HYY HNN HS0 HS1 HP
      subst hx
      go_enter Try.func107, Try.ntmps107
      go_wp2_with (go_at_call 98; refine (impl_within _ _ _ _).mono ?_; rintro e w' ⟨rfl, rfl⟩)
      go_loopg [39] n (fun g i wr => ∃ k : Nat, k ≤ n ∧ n ≤ k + g ∧ i = .int .i64 k ∧ Below w.heap.size w wr ∧ w.heap.size ≤ wr.heap.size ∧ Hid (supsF (prevL rows k) (rows.drop k) = supsF (-1) rows))
      case atStart => exact ⟨0, by omega, by omega, rfl, Below.refl _ _, Nat.le_refl _, (show supsF _ _ = supsF (-1) rows by simp [prevL])⟩
      case round =>
        obtain ⟨k, hk1, hk2, rfl, hBr, hzr, ha⟩ := hrel
        by_cases hlt : k < n
        · obtain ⟨b', off', x0, x1, x2, e', hr, hblt, c0, c1, c2⟩ := HH.out.row hlt
          injection e' with e'
          injection e' with e1 e2
          subst e1 e2
          rw [← hBr.cell (p := ⟨b, _, none⟩) hblt] at c0 c1 c2
          have hbr : b < wr.heap.size := by omega
          generalize decide (x2 = 1) = s2 at *
          have HRW := Lib.hid hr
          clear hr d2
          rcases ho : inr x0 0 3000 with _ | _
          · have HO := Lib.hid (supOk_no1 (p := prevL rows k) (b := x1) (c := x2) ho)
            go_wp2_with fail
            (refine wp_region_ext (by kernel_rfl) (by kernel_rfl) ?_; have hxe := ext_cells; (repeat (go_big_quiet_step ((go_at_call 98; exact ext_pure (impl_within _ _ _ _))))); refine wpQuiet_nil ?_; intro w' hw'; obtain ⟨nx, hw''⟩ := hw'; have hbx := ext_out hw''; clear hw'' nx hxe; have hB : Below w.heap.size w w' := Below.thenn (by repeat (first | exact Below.refl _ _ | assumption | apply Below.drew | apply below_drewN | (refine Below.alloc ?_ (by first | omega | (simp; done) | (simp; omega)) _) | (refine Below.setCell ?_ (by first | omega | (simp; done) | (simp; omega)) _))) hbx (by first | omega | (simp; done) | (simp; omega)); have hz : w.heap.size ≤ w'.heap.size := hB.size; obtain ⟨hc, hf⟩ := bcell hbx; clear hbx)
            all_goals go_wp2_with fail
            all_goals go_ret
            all_goals exact ⟨ret_bool (HR.out.trans (ha.out.symm.trans (supsF_bad HRW.out HO.out))).symm, (by repeat (first | exact Below.refl _ _ | assumption | apply Below.drew | apply below_drewN | (refine Below.alloc ?_ (by first | omega | (simp; done) | (simp; omega)) _) | (refine Below.setCell ?_ (by first | omega | (simp; done) | (simp; omega)) _)))⟩
          rcases ho2 : inr x1 0 2000 with _ | _
          · have HO := Lib.hid (supOk_no2 (p := prevL rows k) (a := x0) (c := x2) ho2)
            go_wp2_with fail
            (refine wp_region_ext (by kernel_rfl) (by kernel_rfl) ?_; have hxe := ext_cells; (repeat (go_big_quiet_step ((go_at_call 98; exact ext_pure (impl_within _ _ _ _))))); refine wpQuiet_nil ?_; intro w' hw'; obtain ⟨nx, hw''⟩ := hw'; have hbx := ext_out hw''; clear hw'' nx hxe; have hB : Below w.heap.size w w' := Below.thenn (by repeat (first | exact Below.refl _ _ | assumption | apply Below.drew | apply below_drewN | (refine Below.alloc ?_ (by first | omega | (simp; done) | (simp; omega)) _) | (refine Below.setCell ?_ (by first | omega | (simp; done) | (simp; omega)) _))) hbx (by first | omega | (simp; done) | (simp; omega)); have hz : w.heap.size ≤ w'.heap.size := hB.size; obtain ⟨hc, hf⟩ := bcell hbx; clear hbx)
            all_goals go_wp2_with fail
            all_goals go_ret
            all_goals exact ⟨ret_bool (HR.out.trans (ha.out.symm.trans (supsF_bad HRW.out HO.out))).symm, (by repeat (first | exact Below.refl _ _ | assumption | apply Below.drew | apply below_drewN | (refine Below.alloc ?_ (by first | omega | (simp; done) | (simp; omega)) _) | (refine Below.setCell ?_ (by first | omega | (simp; done) | (simp; omega)) _)))⟩
          rcases Nat.eq_zero_or_pos k with h0 | h0
          · have hp : prevL rows k < x0 := by simp only [inr, decide_eq_true_eq] at ho; rw [h0, prevL_zero]; omega
            have HO := Lib.hid (supOk_yes (c := x2) ho ho2 hp)
            have hk0 : decide (0 < k) = false := by simp [h0]
            clear h0 hp
            go_wp2_with fail
            (refine wp_region_ext (by kernel_rfl) (by kernel_rfl) ?_; have hxe := ext_cells; (repeat (go_big_quiet_step ((go_at_call 98; exact ext_pure (impl_within _ _ _ _))))); refine wpQuiet_nil ?_; intro w' hw'; obtain ⟨nx, hw''⟩ := hw'; have hbx := ext_out hw''; clear hw'' nx hxe; have hB : Below w.heap.size w w' := Below.thenn (by repeat (first | exact Below.refl _ _ | assumption | apply Below.drew | apply below_drewN | (refine Below.alloc ?_ (by first | omega | (simp; done) | (simp; omega)) _) | (refine Below.setCell ?_ (by first | omega | (simp; done) | (simp; omega)) _))) hbx (by first | omega | (simp; done) | (simp; omega)); have hz : w.heap.size ≤ w'.heap.size := hB.size; obtain ⟨hc, hf⟩ := bcell hbx; clear hbx)
            all_goals go_wp2_with fail
            all_goals go_roundg (n - (k + 1))
            case measure => omega
            case rel => exact ⟨k + 1, by omega, by omega, by go_num, (by repeat (first | exact Below.refl _ _ | assumption | apply Below.drew | apply below_drewN | (refine Below.alloc ?_ (by first | omega | (simp; done) | (simp; omega)) _) | (refine Below.setCell ?_ (by first | omega | (simp; done) | (simp; omega)) _))), by first | omega | (simp at *; omega), (supsF_step HRW.out HO.out).symm.trans ha.out⟩
          · obtain ⟨b', off', y0, y1, y2', e', hr', _, d0, _⟩ := HH.out.row (k := k - 1) (by omega)
            injection e' with e'
            injection e' with e1 e2
            subst e1 e2
            rw [← hBr.cell (p := ⟨b, _, none⟩) hblt] at d0
            have hpe : prevL rows k = y0 := by have := prevL_next hr'; rw [show k - 1 + 1 = k by omega] at this; exact this
            have HP := Lib.hid hpe
            have hk0 : decide (0 < k) = true := by simpa using h0
            have hk3 : 0 ≤ (k : Int) - 1 := by omega
            have hk4 : (k : Int) - 1 < (n : Int) := by omega
            have hk5 : ((k : Int) - 1).toNat = k - 1 := by omega
            clear hpe hr'
            by_cases hlo : x0 ≤ y0
            · have HO := Lib.hid (supOk_no3 (p := prevL rows k) (a := x0) (b := x1) (c := x2) (by rw [HP.out]; exact hlo))
              have hlo' : decide (x0 ≤ y0) = true := by simpa using hlo
              go_wp2_with fail
              (refine wp_region_ext (by kernel_rfl) (by kernel_rfl) ?_; have hxe := ext_cells; (repeat (go_big_quiet_step ((go_at_call 98; exact ext_pure (impl_within _ _ _ _))))); refine wpQuiet_nil ?_; intro w' hw'; obtain ⟨nx, hw''⟩ := hw'; have hbx := ext_out hw''; clear hw'' nx hxe; have hB : Below w.heap.size w w' := Below.thenn (by repeat (first | exact Below.refl _ _ | assumption | apply Below.drew | apply below_drewN | (refine Below.alloc ?_ (by first | omega | (simp; done) | (simp; omega)) _) | (refine Below.setCell ?_ (by first | omega | (simp; done) | (simp; omega)) _))) hbx (by first | omega | (simp; done) | (simp; omega)); have hz : w.heap.size ≤ w'.heap.size := hB.size; obtain ⟨hc, hf⟩ := bcell hbx; clear hbx)
              all_goals go_wp2_with fail
              all_goals go_ret
              all_goals exact ⟨ret_bool (HR.out.trans (ha.out.symm.trans (supsF_bad HRW.out HO.out))).symm, (by repeat (first | exact Below.refl _ _ | assumption | apply Below.drew | apply below_drewN | (refine Below.alloc ?_ (by first | omega | (simp; done) | (simp; omega)) _) | (refine Below.setCell ?_ (by first | omega | (simp; done) | (simp; omega)) _)))⟩
            · have HO := Lib.hid (supOk_yes (p := prevL rows k) (c := x2) ho ho2 (by rw [HP.out]; omega))
              have hlo' : decide (x0 ≤ y0) = false := by simpa using hlo
              go_wp2_with fail
              (refine wp_region_ext (by kernel_rfl) (by kernel_rfl) ?_; have hxe := ext_cells; (repeat (go_big_quiet_step ((go_at_call 98; exact ext_pure (impl_within _ _ _ _))))); refine wpQuiet_nil ?_; intro w' hw'; obtain ⟨nx, hw''⟩ := hw'; have hbx := ext_out hw''; clear hw'' nx hxe; have hB : Below w.heap.size w w' := Below.thenn (by repeat (first | exact Below.refl _ _ | assumption | apply Below.drew | apply below_drewN | (refine Below.alloc ?_ (by first | omega | (simp; done) | (simp; omega)) _) | (refine Below.setCell ?_ (by first | omega | (simp; done) | (simp; omega)) _))) hbx (by first | omega | (simp; done) | (simp; omega)); have hz : w.heap.size ≤ w'.heap.size := hB.size; obtain ⟨hc, hf⟩ := bcell hbx; clear hbx)
              all_goals go_wp2_with fail
              all_goals go_roundg (n - (k + 1))
              case measure => omega
              case rel => exact ⟨k + 1, by omega, by omega, by go_num, (by repeat (first | exact Below.refl _ _ | assumption | apply Below.drew | apply below_drewN | (refine Below.alloc ?_ (by first | omega | (simp; done) | (simp; omega)) _) | (refine Below.setCell ?_ (by first | omega | (simp; done) | (simp; omega)) _))), by first | omega | (simp at *; omega), (supsF_step HRW.out HO.out).symm.trans ha.out⟩
        · go_wp2_with fail
          go_ret
          exact ⟨ret_bool (HR.out.trans (ha.out.symm.trans (supsF_end hl.out (by omega)))).symm, hBr⟩
    all_goals
      have hR : lineR n x0 x2 y2 = false := by
        simp [lineR]
        intros
        first
          | (have h1 := HS0.out; simp at h1; omega)
          | (have h1 := HS1.out; simp at h1; omega)
          | (have h1 := HP.out; simp at h1; omega)
      have HR := Lib.hid (HNN.out hR)
      clear hR HYY HNN HS0 HS1
      go_enter Try.func107, Try.ntmps107
      go_wp2_with (go_at_call 98; refine (impl_within _ _ _ _).mono ?_; rintro e w' ⟨rfl, rfl⟩)
      go_ret
      exact ⟨ret_bool HR.out.symm, Below.refl _ _⟩
  · have hR : lineOk rows = false := by simp [lineOk, lineR_no (n := rows.length) (by rw [hl.out]; exact hn)]
    have HR := Lib.hid hR
    clear hR
    go_enter Try.func107, Try.ntmps107
    by_cases h2 : n < 2
    · have hi : inr (n : Int) 2 8 = false := by simp [inr]; omega
      go_wp2_with (go_at_call 98; refine (impl_within _ _ _ _).mono ?_; rintro e w' ⟨rfl, rfl⟩)
      go_ret
      exact ⟨ret_bool HR.out.symm, Below.refl _ _⟩
    · have h8 : 8 < n := by omega
      have hi : inr (n : Int) 2 8 = false := by simp [inr]; omega
      go_wp2_with (go_at_call 98; refine (impl_within _ _ _ _).mono ?_; rintro e w' ⟨rfl, rfl⟩)
      go_ret
      exact ⟨ret_bool HR.out.symm, Below.refl _ _⟩
end Go.Proofs.Ytjfmicemnoglkaa
