/- Ropes: one kind, lists of kinds. -/
import Derived.Test.YtjfmicemnoglkaaRopP
import Derived.Test.YtjfmicemnoglkaaExt
import Derived.Deep.RegionWith
import Derived.Deep.RegionHeld3
import Derived.Deep.DeepCutAuto
namespace Go.Proofs.Ytjfmicemnoglkaa
open Go.RowKit
set_option linter.unusedVariables false
set_option linter.unusedSimpArgs false

set_option maxHeartbeats 8000000 in
theorem impl_IsRopeKind (i s x g t : Int) (w : World) : Calls Try.prog 148 #[.agg #[.int .i64 i, .int .i64 s, .int .i64 x, .int .i64 g, .int .i64 t]] w (Ret w (.bool (kndOk i s x g t))) := by
  unfold kndOk
  rcases h0 : inr i 1 20 with _ | _ <;> rcases h1 : inr s 4 8 with _ | _ <;> rcases h2 : inr x 7 40 with _ | _ <;> rcases h3 : inr g 10 500 with _ | _ <;> rcases h4 : inr t 10 5000 with _ | _
  all_goals (go_enter Try.func148, Try.ntmps148)
  all_goals go_wp2_with (go_at_call 98; refine (impl_within _ _ _ _).mono ?_; rintro e w' ⟨rfl, rfl⟩)
  all_goals (go_ret; exact ⟨ret_bool (by simp), (by repeat (first | exact Below.refl _ _ | assumption | apply Below.drew | apply below_drewN | (refine Below.alloc ?_ (by first | omega | (simp; done) | (simp; omega)) _) | (refine Below.setCell ?_ (by first | omega | (simp; done) | (simp; omega)) _)))⟩)
set_option maxHeartbeats 8000000 in
theorem spec_l3Kind (i s x g t : Int) (w : World) : Calls Try.prog 149 #[.agg #[.int .i64 i, .int .i64 s, .int .i64 x, .int .i64 g, .int .i64 t]] w (Ret w (.bool (kndOk i s x g t))) := by
  unfold kndOk
  rcases h0 : inr i 1 20 with _ | _ <;> rcases h1 : inr s 4 8 with _ | _ <;> rcases h2 : inr x 7 40 with _ | _ <;> rcases h3 : inr g 10 500 with _ | _ <;> rcases h4 : inr t 10 5000 with _ | _
  all_goals (go_enter Try.func149, Try.ntmps149)
  all_goals go_wp2_with (go_at_call 102; refine (spec_l1In _ _ _ _).mono ?_; rintro e w' ⟨rfl, rfl⟩)
  all_goals (go_ret; exact ⟨ret_bool (by simp), (by repeat (first | exact Below.refl _ _ | assumption | apply Below.drew | apply below_drewN | (refine Below.alloc ?_ (by first | omega | (simp; done) | (simp; omega)) _) | (refine Below.setCell ?_ (by first | omega | (simp; done) | (simp; omega)) _)))⟩)
set_option maxHeartbeats 4000000 in
theorem spec_l3Kinds (A : Option Addr) (n c : Nat) (rows : List (List Int)) (w : World) (h : RdR w 5 A n rows) (hm : n ≤ 1048577) :
    Calls Try.prog 147 #[.slice A n c] w (Ret w (.bool (kinds rows))) := by
  have hl := Lib.hid h.2.2
  go_enter Try.func147, Try.ntmps147
  go_wp2
  go_loopg [3] n (fun g i wr => ∃ k : Nat, k ≤ n ∧ n ≤ k + g ∧ i = .int .i64 k ∧ Below w.heap.size w wr ∧ w.heap.size ≤ wr.heap.size ∧ Hid (goodF kndR (prevN rows k) (rows.drop k) = goodF kndR 0 rows))
  case atStart => exact ⟨0, by omega, by omega, rfl, Below.refl _ _, Nat.le_refl _, (show goodF _ _ _ = goodF _ 0 rows by simp [prevN])⟩
  case round =>
    obtain ⟨k, hk1, hk2, rfl, hBr, hzr, ha⟩ := hrel
    by_cases hlt : k < n
    · obtain ⟨b, off, x0, x1, x2, x3, x4, rfl, hr, hblt, c0, c1, c2, c3, c4⟩ := h.row5 hlt
      rw [← hBr.cell (p := ⟨b, _, none⟩) hblt] at c0 c1 c2 c3 c4
      have hbr : b < wr.heap.size := by omega
      have co := fun w => spec_l3Kind x0 x1 x2 x3 x4 w
      rcases ho : kndOk x0 x1 x2 x3 x4 with _ | _
      · rw [ho] at co
        have CO := Lib.hid co
        have HR := Lib.hid hr
        have HO := Lib.hid (show kndR [x0, x1, x2, x3, x4] = false from ho)
        have HH := Lib.hid h
        clear co hr ho h
        go_wp2_with fail
        (refine wp_region_ext (by kernel_rfl) (by kernel_rfl) ?_; have hxe := ext_cells; (repeat (go_big_quiet_step ((go_at_call 149; exact ext_ret (CO.out _))))); refine wpQuiet_nil ?_; intro w' hw'; obtain ⟨nx, hw''⟩ := hw'; have hbx := ext_out hw''; clear hw'' nx hxe; have hB : Below w.heap.size w w' := Below.thenn (by repeat (first | exact Below.refl _ _ | assumption | apply Below.drew | apply below_drewN | (refine Below.alloc ?_ (by first | omega | (simp; done) | (simp; omega)) _) | (refine Below.setCell ?_ (by first | omega | (simp; done) | (simp; omega)) _))) hbx (by first | omega | (simp; done) | (simp; omega)); have hz : w.heap.size ≤ w'.heap.size := hB.size; obtain ⟨hc, hf⟩ := bcell hbx; clear hbx)
        all_goals go_wp2_with fail
        all_goals go_ret
        all_goals exact ⟨ret_bool (goodL_of_false (b := false) ((goodF_bad HR.out HO.out).symm.trans ha.out) rfl).symm, (by repeat (first | exact Below.refl _ _ | assumption | apply Below.drew | apply below_drewN | (refine Below.alloc ?_ (by first | omega | (simp; done) | (simp; omega)) _) | (refine Below.setCell ?_ (by first | omega | (simp; done) | (simp; omega)) _)))⟩
      · rw [ho] at co
        rcases Nat.eq_zero_or_pos k with h0 | h0
        · have hp : prevN rows k < x0 := by have := kndOk_iff.1 ho; simp [prevN, h0]; omega
          have hk0 : decide (0 < k) = false := by simp [h0]
          clear h0
          have CO := Lib.hid co
          have HR := Lib.hid hr
          have HO := Lib.hid (show kndR [x0, x1, x2, x3, x4] = true from ho)
          have HH := Lib.hid h
          have HP := Lib.hid hp
          clear co hr ho h hp
          go_wp2_with fail
          (refine wp_region_ext (by kernel_rfl) (by kernel_rfl) ?_; have hxe := ext_cells; (repeat (go_big_quiet_step ((go_at_call 149; exact ext_ret (CO.out _))))); refine wpQuiet_nil ?_; intro w' hw'; obtain ⟨nx, hw''⟩ := hw'; have hbx := ext_out hw''; clear hw'' nx hxe; have hB : Below w.heap.size w w' := Below.thenn (by repeat (first | exact Below.refl _ _ | assumption | apply Below.drew | apply below_drewN | (refine Below.alloc ?_ (by first | omega | (simp; done) | (simp; omega)) _) | (refine Below.setCell ?_ (by first | omega | (simp; done) | (simp; omega)) _))) hbx (by first | omega | (simp; done) | (simp; omega)); have hz : w.heap.size ≤ w'.heap.size := hB.size; obtain ⟨hc, hf⟩ := bcell hbx; clear hbx)
          all_goals go_wp2_with fail
          all_goals go_roundg (n - (k + 1))
          case measure => omega
          case rel => exact ⟨k + 1, by omega, by omega, by go_num, (by repeat (first | exact Below.refl _ _ | assumption | apply Below.drew | apply below_drewN | (refine Below.alloc ?_ (by first | omega | (simp; done) | (simp; omega)) _) | (refine Below.setCell ?_ (by first | omega | (simp; done) | (simp; omega)) _))), by first | omega | (simp at *; omega), (goodF_step HR.out HO.out HP.out).symm.trans ha.out⟩
        · obtain ⟨b', off', y0, y1, y2, y3, y4, e', hr', _, d0, _⟩ := h.row5 (k := k - 1) (by omega)
          injection e' with e'
          injection e' with e1 e2
          subst e1 e2
          rw [← hBr.cell (p := ⟨b, _, none⟩) hblt] at d0
          have hpe : prevN rows k = y0 := by have := prevN_next hr'; rw [show k - 1 + 1 = k by omega] at this; exact this
          have CO := Lib.hid co
          have HR := Lib.hid hr
          have HO := Lib.hid (show kndR [x0, x1, x2, x3, x4] = true from ho)
          have HH := Lib.hid h
          have HP := Lib.hid hpe
          have hk0 : decide (0 < k) = true := by simpa using h0
          have hk3 : 0 ≤ (k : Int) - 1 := by omega
          have hk4 : (k : Int) - 1 < (n : Int) := by omega
          have hk5 : ((k : Int) - 1).toNat = k - 1 := by omega
          clear co hr ho h hpe hr'
          by_cases hlo : x0 ≤ y0
          · have hlo' : decide (x0 ≤ y0) = true := by simpa using hlo
            go_wp2_with fail
            (refine wp_region_ext (by kernel_rfl) (by kernel_rfl) ?_; have hxe := ext_cells; (repeat (go_big_quiet_step ((go_at_call 149; exact ext_ret (CO.out _))))); refine wpQuiet_nil ?_; intro w' hw'; obtain ⟨nx, hw''⟩ := hw'; have hbx := ext_out hw''; clear hw'' nx hxe; have hB : Below w.heap.size w w' := Below.thenn (by repeat (first | exact Below.refl _ _ | assumption | apply Below.drew | apply below_drewN | (refine Below.alloc ?_ (by first | omega | (simp; done) | (simp; omega)) _) | (refine Below.setCell ?_ (by first | omega | (simp; done) | (simp; omega)) _))) hbx (by first | omega | (simp; done) | (simp; omega)); have hz : w.heap.size ≤ w'.heap.size := hB.size; obtain ⟨hc, hf⟩ := bcell hbx; clear hbx)
            all_goals go_wp2_with fail
            all_goals go_ret
            all_goals exact ⟨ret_bool (goodL_of_false (b := false) ((goodF_low (p := prevN rows k) HR.out (by rw [HP.out]; exact hlo)).symm.trans ha.out) rfl).symm, (by repeat (first | exact Below.refl _ _ | assumption | apply Below.drew | apply below_drewN | (refine Below.alloc ?_ (by first | omega | (simp; done) | (simp; omega)) _) | (refine Below.setCell ?_ (by first | omega | (simp; done) | (simp; omega)) _)))⟩
          · have hlo' : decide (x0 ≤ y0) = false := by simpa using hlo
            go_wp2_with fail
            (refine wp_region_ext (by kernel_rfl) (by kernel_rfl) ?_; have hxe := ext_cells; (repeat (go_big_quiet_step ((go_at_call 149; exact ext_ret (CO.out _))))); refine wpQuiet_nil ?_; intro w' hw'; obtain ⟨nx, hw''⟩ := hw'; have hbx := ext_out hw''; clear hw'' nx hxe; have hB : Below w.heap.size w w' := Below.thenn (by repeat (first | exact Below.refl _ _ | assumption | apply Below.drew | apply below_drewN | (refine Below.alloc ?_ (by first | omega | (simp; done) | (simp; omega)) _) | (refine Below.setCell ?_ (by first | omega | (simp; done) | (simp; omega)) _))) hbx (by first | omega | (simp; done) | (simp; omega)); have hz : w.heap.size ≤ w'.heap.size := hB.size; obtain ⟨hc, hf⟩ := bcell hbx; clear hbx)
            all_goals go_wp2_with fail
            all_goals go_roundg (n - (k + 1))
            case measure => omega
            case rel => exact ⟨k + 1, by omega, by omega, by go_num, (by repeat (first | exact Below.refl _ _ | assumption | apply Below.drew | apply below_drewN | (refine Below.alloc ?_ (by first | omega | (simp; done) | (simp; omega)) _) | (refine Below.setCell ?_ (by first | omega | (simp; done) | (simp; omega)) _))), by first | omega | (simp at *; omega), (goodF_step HR.out HO.out (by rw [HP.out]; show y0 < x0; omega)).symm.trans ha.out⟩
    · go_wp2_with fail
      go_ret
      exact ⟨ret_bool (goodL_of_true (ok := kndR) (m := 6) ((goodF_end hl.out (by omega)).symm.trans ha.out) rfl hl.out).symm, hBr⟩
set_option maxHeartbeats 4000000 in
theorem impl_AreRopeKinds (A : Option Addr) (n c : Nat) (rows : List (List Int)) (w : World) (h : RdR w 5 A n rows) (hm : n ≤ 1048577) :
    Calls Try.prog 91 #[.slice A n c] w (Ret w (.bool (kinds rows))) := by
  have hl := Lib.hid h.2.2
  go_enter Try.func91, Try.ntmps91
  go_wp2
  go_loopg [7] n (fun g i wr => ∃ k : Nat, k ≤ n ∧ n ≤ k + g ∧ i = .int .i64 k ∧ Below w.heap.size w wr ∧ w.heap.size ≤ wr.heap.size ∧ Hid (goodF kndR (prevN rows k) (rows.drop k) = goodF kndR 0 rows))
  case atStart => exact ⟨0, by omega, by omega, rfl, Below.refl _ _, Nat.le_refl _, (show goodF _ _ _ = goodF _ 0 rows by simp [prevN])⟩
  case round =>
    obtain ⟨k, hk1, hk2, rfl, hBr, hzr, ha⟩ := hrel
    by_cases hlt : k < n
    · obtain ⟨b, off, x0, x1, x2, x3, x4, rfl, hr, hblt, c0, c1, c2, c3, c4⟩ := h.row5 hlt
      rw [← hBr.cell (p := ⟨b, _, none⟩) hblt] at c0 c1 c2 c3 c4
      have hbr : b < wr.heap.size := by omega
      have co := fun w => impl_IsRopeKind x0 x1 x2 x3 x4 w
      rcases ho : kndOk x0 x1 x2 x3 x4 with _ | _
      · rw [ho] at co
        have CO := Lib.hid co
        have HR := Lib.hid hr
        have HO := Lib.hid (show kndR [x0, x1, x2, x3, x4] = false from ho)
        have HH := Lib.hid h
        clear co hr ho h
        go_wp2_with fail
        (refine wp_region_ext (by kernel_rfl) (by kernel_rfl) ?_; have hxe := ext_cells; (repeat (go_big_quiet_step ((go_at_call 148; exact ext_ret (CO.out _))))); refine wpQuiet_nil ?_; intro w' hw'; obtain ⟨nx, hw''⟩ := hw'; have hbx := ext_out hw''; clear hw'' nx hxe; have hB : Below w.heap.size w w' := Below.thenn (by repeat (first | exact Below.refl _ _ | assumption | apply Below.drew | apply below_drewN | (refine Below.alloc ?_ (by first | omega | (simp; done) | (simp; omega)) _) | (refine Below.setCell ?_ (by first | omega | (simp; done) | (simp; omega)) _))) hbx (by first | omega | (simp; done) | (simp; omega)); have hz : w.heap.size ≤ w'.heap.size := hB.size; obtain ⟨hc, hf⟩ := bcell hbx; clear hbx)
        all_goals go_wp2_with fail
        all_goals go_ret
        all_goals exact ⟨ret_bool (goodL_of_false (b := false) ((goodF_bad HR.out HO.out).symm.trans ha.out) rfl).symm, (by repeat (first | exact Below.refl _ _ | assumption | apply Below.drew | apply below_drewN | (refine Below.alloc ?_ (by first | omega | (simp; done) | (simp; omega)) _) | (refine Below.setCell ?_ (by first | omega | (simp; done) | (simp; omega)) _)))⟩
      · rw [ho] at co
        rcases Nat.eq_zero_or_pos k with h0 | h0
        · have hp : prevN rows k < x0 := by have := kndOk_iff.1 ho; simp [prevN, h0]; omega
          have hk0 : decide (0 < k) = false := by simp [h0]
          clear h0
          have CO := Lib.hid co
          have HR := Lib.hid hr
          have HO := Lib.hid (show kndR [x0, x1, x2, x3, x4] = true from ho)
          have HH := Lib.hid h
          have HP := Lib.hid hp
          clear co hr ho h hp
          go_wp2_with fail
          (refine wp_region_ext (by kernel_rfl) (by kernel_rfl) ?_; have hxe := ext_cells; (repeat (go_big_quiet_step ((go_at_call 148; exact ext_ret (CO.out _))))); refine wpQuiet_nil ?_; intro w' hw'; obtain ⟨nx, hw''⟩ := hw'; have hbx := ext_out hw''; clear hw'' nx hxe; have hB : Below w.heap.size w w' := Below.thenn (by repeat (first | exact Below.refl _ _ | assumption | apply Below.drew | apply below_drewN | (refine Below.alloc ?_ (by first | omega | (simp; done) | (simp; omega)) _) | (refine Below.setCell ?_ (by first | omega | (simp; done) | (simp; omega)) _))) hbx (by first | omega | (simp; done) | (simp; omega)); have hz : w.heap.size ≤ w'.heap.size := hB.size; obtain ⟨hc, hf⟩ := bcell hbx; clear hbx)
          all_goals go_wp2_with fail
          all_goals go_roundg (n - (k + 1))
          case measure => omega
          case rel => exact ⟨k + 1, by omega, by omega, by go_num, (by repeat (first | exact Below.refl _ _ | assumption | apply Below.drew | apply below_drewN | (refine Below.alloc ?_ (by first | omega | (simp; done) | (simp; omega)) _) | (refine Below.setCell ?_ (by first | omega | (simp; done) | (simp; omega)) _))), by first | omega | (simp at *; omega), (goodF_step HR.out HO.out HP.out).symm.trans ha.out⟩
        · obtain ⟨b', off', y0, y1, y2, y3, y4, e', hr', _, d0, _⟩ := h.row5 (k := k - 1) (by omega)
          injection e' with e'
          injection e' with e1 e2
          subst e1 e2
          rw [← hBr.cell (p := ⟨b, _, none⟩) hblt] at d0
          have hpe : prevN rows k = y0 := by have := prevN_next hr'; rw [show k - 1 + 1 = k by omega] at this; exact this
          have CO := Lib.hid co
          have HR := Lib.hid hr
          have HO := Lib.hid (show kndR [x0, x1, x2, x3, x4] = true from ho)
          have HH := Lib.hid h
          have HP := Lib.hid hpe
          have hk0 : decide (0 < k) = true := by simpa using h0
          have hk3 : 0 ≤ (k : Int) - 1 := by omega
          have hk4 : (k : Int) - 1 < (n : Int) := by omega
          have hk5 : ((k : Int) - 1).toNat = k - 1 := by omega
          clear co hr ho h hpe hr'
          by_cases hlo : x0 ≤ y0
          · have hlo' : decide (x0 ≤ y0) = true := by simpa using hlo
            go_wp2_with fail
            (refine wp_region_ext (by kernel_rfl) (by kernel_rfl) ?_; have hxe := ext_cells; (repeat (go_big_quiet_step ((go_at_call 148; exact ext_ret (CO.out _))))); refine wpQuiet_nil ?_; intro w' hw'; obtain ⟨nx, hw''⟩ := hw'; have hbx := ext_out hw''; clear hw'' nx hxe; have hB : Below w.heap.size w w' := Below.thenn (by repeat (first | exact Below.refl _ _ | assumption | apply Below.drew | apply below_drewN | (refine Below.alloc ?_ (by first | omega | (simp; done) | (simp; omega)) _) | (refine Below.setCell ?_ (by first | omega | (simp; done) | (simp; omega)) _))) hbx (by first | omega | (simp; done) | (simp; omega)); have hz : w.heap.size ≤ w'.heap.size := hB.size; obtain ⟨hc, hf⟩ := bcell hbx; clear hbx)
            all_goals go_wp2_with fail
            all_goals go_ret
            all_goals exact ⟨ret_bool (goodL_of_false (b := false) ((goodF_low (p := prevN rows k) HR.out (by rw [HP.out]; exact hlo)).symm.trans ha.out) rfl).symm, (by repeat (first | exact Below.refl _ _ | assumption | apply Below.drew | apply below_drewN | (refine Below.alloc ?_ (by first | omega | (simp; done) | (simp; omega)) _) | (refine Below.setCell ?_ (by first | omega | (simp; done) | (simp; omega)) _)))⟩
          · have hlo' : decide (x0 ≤ y0) = false := by simpa using hlo
            go_wp2_with fail
            (refine wp_region_ext (by kernel_rfl) (by kernel_rfl) ?_; have hxe := ext_cells; (repeat (go_big_quiet_step ((go_at_call 148; exact ext_ret (CO.out _))))); refine wpQuiet_nil ?_; intro w' hw'; obtain ⟨nx, hw''⟩ := hw'; have hbx := ext_out hw''; clear hw'' nx hxe; have hB : Below w.heap.size w w' := Below.thenn (by repeat (first | exact Below.refl _ _ | assumption | apply Below.drew | apply below_drewN | (refine Below.alloc ?_ (by first | omega | (simp; done) | (simp; omega)) _) | (refine Below.setCell ?_ (by first | omega | (simp; done) | (simp; omega)) _))) hbx (by first | omega | (simp; done) | (simp; omega)); have hz : w.heap.size ≤ w'.heap.size := hB.size; obtain ⟨hc, hf⟩ := bcell hbx; clear hbx)
            all_goals go_wp2_with fail
            all_goals go_roundg (n - (k + 1))
            case measure => omega
            case rel => exact ⟨k + 1, by omega, by omega, by go_num, (by repeat (first | exact Below.refl _ _ | assumption | apply Below.drew | apply below_drewN | (refine Below.alloc ?_ (by first | omega | (simp; done) | (simp; omega)) _) | (refine Below.setCell ?_ (by first | omega | (simp; done) | (simp; omega)) _))), by first | omega | (simp at *; omega), (goodF_step HR.out HO.out (by rw [HP.out]; show y0 < x0; omega)).symm.trans ha.out⟩
    · go_wp2_with fail
      go_ret
      exact ⟨ret_bool (goodL_of_true (ok := kndR) (m := 6) ((goodF_end hl.out (by omega)).symm.trans ha.out) rfl hl.out).symm, hBr⟩
theorem spec_AreRopeKinds (A : Option Addr) (n c : Nat) (rows : List (List Int)) (w : World) (h : RdR w 5 A n rows) (hm : n ≤ 1048577) :
    Calls Try.prog 92 #[.slice A n c] w (Ret w (.bool (kinds rows))) := by
  have CI := Lib.hid (spec_l3Kinds A n c rows w h hm)
  clear h
  go_enter Try.func92, Try.ntmps92
  go_wp2_with (go_at_call 147; refine (CI.out).mono ?_; rintro e w' ⟨rfl, hb⟩; have hB : Below w.heap.size w w' := Below.thenn (by repeat (first | exact Below.refl _ _ | assumption | apply Below.drew | apply below_drewN | (refine Below.alloc ?_ (by first | omega | (simp; done) | (simp; omega)) _) | (refine Below.setCell ?_ (by first | omega | (simp; done) | (simp; omega)) _))) hb (by first | omega | (simp; done) | (simp; omega)); have hz : w.heap.size ≤ w'.heap.size := hB.size; obtain ⟨hc, hf⟩ := bcell hb; clear hb)
  go_ret
  exact ⟨rfl, hB⟩
end Go.Proofs.Ytjfmicemnoglkaa
