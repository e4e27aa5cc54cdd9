/- Ropes: damages of a kind: the reference's. -/
import Derived.Test.YtjfmicemnoglkaaRopC
namespace Go.Proofs.Ytjfmicemnoglkaa
open Go.RowKit
set_option linter.unusedVariables false
set_option linter.unusedSimpArgs false

theorem dmgLt_gt {p q a b : Int} (h : a < p) : dmgLt p q a b = false := dmgLt_not.2 (.inl h)
theorem dmgLt_ge {p q a b : Int} (h : p = a) (h2 : b ≤ q) : dmgLt p q a b = false := dmgLt_not.2 (.inr ⟨h, h2⟩)
theorem dmgLt_yes {p q a b : Int} (h : ¬ a < p) (h2 : ¬ (p = a ∧ b ≤ q)) : dmgLt p q a b = true := by
  rw [dmgLt_iff]; omega
set_option maxRecDepth 100000 in
set_option maxHeartbeats 8000000 in
theorem spec_l3Good (y0 y1 y2 y3 y4 : Int) (A : Option Addr) (n c : Nat) (rows : List (List Int)) (wo : World) (h : RdR wo 3 A n rows) (hm : n ≤ 1048577) :
    Calls Try.prog 140 #[.agg #[.int .i64 y0, .int .i64 y1, .int .i64 y2, .int .i64 y3, .int .i64 y4], .slice A n c] wo (Ret wo (.bool (dmgs y0 y1 y2 y3 y4 rows))) := by
  have CK := Lib.hid (fun w => spec_l3Kind y0 y1 y2 y3 y4 w)
  have hl := h.2.2
  obtain ⟨S1, hS1⟩ : ∃ S1, S1 = IntKind.i64.wrap (y1 - 1) := ⟨_, rfl⟩
  have hS : kndOk y0 y1 y2 y3 y4 = true → S1 = y1 - 1 := fun hk => by
    have := kndOk_iff.1 hk
    rw [hS1]
    exact IntWalk.i64_in _ (by omega)
  have u1 : IntKind.i64.wrap (y1 - 1) = S1 := hS1.symm
  have HBAD := Lib.hid (fun (k : Nat) (a b d : Int) (hh : dRel y0 y1 y2 y3 y4 rows k) (hr : rows[k]? = some [a, b, d]) (ho : (inr a 0 3000 && (inr b 0 S1 && inr d 1 y2)) = false) => dRel_bad hh hr hS ho)
  have HLOW := Lib.hid (fun (k : Nat) (a b d : Int) (hh : dRel y0 y1 y2 y3 y4 rows k) (hr : rows[k]? = some [a, b, d]) => dRel_low hh hr)
  have HSTEP := Lib.hid (fun (k : Nat) (a b d : Int) (hh : dRel y0 y1 y2 y3 y4 rows k) (hr : rows[k]? = some [a, b, d]) (ho : (inr a 0 3000 && (inr b 0 S1 && inr d 1 y2)) = true) => dRel_step hh hr hS ho)
  have HEND : Hid (∀ k, dRel y0 y1 y2 y3 y4 rows k → n ≤ k → dmgs y0 y1 y2 y3 y4 rows = (kndOk y0 y1 y2 y3 y4 && decide ((n : Int) ≤ 15))) := Lib.hid (fun k hh hkn => dRel_end hh hl hkn)
  have HZ : Hid (dRel y0 y1 y2 y3 y4 rows 0) := Lib.hid dRel_zero
  clear hS hS1
  generalize dmgs y0 y1 y2 y3 y4 rows = D at *
  generalize dRel y0 y1 y2 y3 y4 rows = REL at *
  generalize kndOk y0 y1 y2 y3 y4 = KO at *
  go_enter Try.func140, Try.ntmps140
  go_wp2_with fail
  (have hWV : Below wo.heap.size wo (wo.alloc (.cells #[.int .i64 y0, .int .i64 y1, .int .i64 y2, .int .i64 y3, .int .i64 y4] 85)) := (Below.refl _ _).alloc (Nat.le_refl _) _; have hV0 : wo.heap.size < (wo.alloc (.cells #[.int .i64 y0, .int .i64 y1, .int .i64 y2, .int .i64 y3, .int .i64 y4] 85)).heap.size := (by simp); have hv0 : (wo.alloc (.cells #[.int .i64 y0, .int .i64 y1, .int .i64 y2, .int .i64 y3, .int .i64 y4] 85)).cell? ⟨wo.heap.size, 0, none⟩ = some (.int .i64 y0) := (by rw [cell_of_row _ _ _ _ _ _ (heap_alloc_new wo _)]; rfl); have hv1 : (wo.alloc (.cells #[.int .i64 y0, .int .i64 y1, .int .i64 y2, .int .i64 y3, .int .i64 y4] 85)).cell? ⟨wo.heap.size, 1, none⟩ = some (.int .i64 y1) := (by rw [cell_of_row _ _ _ _ _ _ (heap_alloc_new wo _)]; rfl); have hv2 : (wo.alloc (.cells #[.int .i64 y0, .int .i64 y1, .int .i64 y2, .int .i64 y3, .int .i64 y4] 85)).cell? ⟨wo.heap.size, 2, none⟩ = some (.int .i64 y2) := (by rw [cell_of_row _ _ _ _ _ _ (heap_alloc_new wo _)]; rfl); have hv3 : (wo.alloc (.cells #[.int .i64 y0, .int .i64 y1, .int .i64 y2, .int .i64 y3, .int .i64 y4] 85)).cell? ⟨wo.heap.size, 3, none⟩ = some (.int .i64 y3) := (by rw [cell_of_row _ _ _ _ _ _ (heap_alloc_new wo _)]; rfl); have hv4 : (wo.alloc (.cells #[.int .i64 y0, .int .i64 y1, .int .i64 y2, .int .i64 y3, .int .i64 y4] 85)).cell? ⟨wo.heap.size, 4, none⟩ = some (.int .i64 y4) := (by rw [cell_of_row _ _ _ _ _ _ (heap_alloc_new wo _)]; rfl); generalize wo.alloc (.cells #[.int .i64 y0, .int .i64 y1, .int .i64 y2, .int .i64 y3, .int .i64 y4] 85) = w at hWV hV0 hv0 hv1 hv2 hv3 hv4 ⊢; have hr := h.below hWV; have hB : Below w.heap.size w w := Below.refl _ _; have hwz : wo.heap.size ≤ w.heap.size := hWV.size)
  go_loopg [5] n (fun gg i wr => ∃ k : Nat, k ≤ n ∧ n ≤ k + gg ∧ i = .int .i64 k ∧ Hid (Below w.heap.size w wr) ∧ Hid (REL k))
  case atStart => exact ⟨0, by omega, by omega, rfl, hB, HZ⟩
  case round =>
    clear hB
    obtain ⟨k, hk1, hk2, rfl, HB, HR⟩ := hrel
    have hBr := HB.out
    have hzr := hBr.size
    have v0 := (hBr.cell (p := ⟨wo.heap.size, 0, none⟩) hV0).trans hv0
    have v1 := (hBr.cell (p := ⟨wo.heap.size, 1, none⟩) hV0).trans hv1
    have v2 := (hBr.cell (p := ⟨wo.heap.size, 2, none⟩) hV0).trans hv2
    have v3 := (hBr.cell (p := ⟨wo.heap.size, 3, none⟩) hV0).trans hv3
    have v4 := (hBr.cell (p := ⟨wo.heap.size, 4, none⟩) hV0).trans hv4
    have hVr : wo.heap.size < wr.heap.size := Nat.lt_of_lt_of_le hV0 hzr
    by_cases hlt : k < n
    · obtain ⟨b, off, x0, x1, x2, rfl, hr, hblt, c0, c1, c2⟩ := hr.row3 hlt
      rw [← hBr.cell (p := ⟨b, _, none⟩) hblt] at c0 c1 c2
      have hbr : b < wr.heap.size := by omega
      rcases ho : (inr x0 0 3000 && (inr x1 0 S1 && inr x2 1 y2)) with _ | _
      · have HF := Lib.hid (HBAD.out k x0 x1 x2 HR.out hr ho)
        have CP := Lib.hid (spec_l2Place x0)
        have C1 := Lib.hid (spec_l1In x1 0 S1)
        have C2 := Lib.hid (spec_l1In x2 1 y2)
        have HO := Lib.hid ho
        clear ho hr HSTEP HLOW HBAD HEND
        generalize inr x0 0 3000 = t0 at *
        generalize inr x1 0 S1 = t1 at *
        generalize inr x2 1 y2 = t2 at *
        rcases t0 with _ | _ <;> rcases t1 with _ | _ <;> rcases t2 with _ | _
        all_goals first | (exfalso; exact absurd HO.out (by decide)) | skip
        all_goals go_wp2_with (first | (go_at_call 144; refine (CP.out _).mono ?_; rintro e w' ⟨rfl, rfl⟩) | (go_at_call 102; (with_reducible refine (C1.out _).mono ?_); rintro e w' ⟨rfl, rfl⟩) | (go_at_call 102; (with_reducible refine (C2.out _).mono ?_); rintro e w' ⟨rfl, rfl⟩))
        all_goals go_ret
        all_goals exact ⟨ret_bool HF.out.symm, Below.thenn hWV (hBr.alloc hzr _) hWV.size⟩
      · simp only [Bool.and_eq_true] at ho
        obtain ⟨i0, i1, i2⟩ := ho
        have CP := Lib.hid (fun w => i0 ▸ spec_l2Place x0 w)
        have C1 := Lib.hid (fun w => i1 ▸ spec_l1In x1 0 S1 w)
        have C2 := Lib.hid (fun w => i2 ▸ spec_l1In x2 1 y2 w)
        have HO : Hid ((inr x0 0 3000 && (inr x1 0 S1 && inr x2 1 y2)) = true) := Lib.hid (by rw [i0, i1, i2]; rfl)
        rcases Nat.eq_zero_or_pos k with h0 | h0
        · have HS : Hid (REL (k + 1)) := Lib.hid (HSTEP.out k x0 x1 x2 HR.out hr HO.out (by subst h0; exact dp_first i0))
          have hk0 : decide (0 < k) = false := by simp [h0]
          clear h0 hr HSTEP HLOW HBAD HEND i0 i1 i2
          go_wp2_with (first | (go_at_call 144; refine (CP.out _).mono ?_; rintro e w' ⟨rfl, rfl⟩) | (go_at_call 102; (with_reducible refine (C1.out _).mono ?_); rintro e w' ⟨rfl, rfl⟩) | (go_at_call 102; (with_reducible refine (C2.out _).mono ?_); rintro e w' ⟨rfl, rfl⟩))
          (refine wp_region_ext (by kernel_rfl) (by kernel_rfl) ?_; have hxe := ext_cells; (repeat (go_big_quiet_step (fail))); refine wpQuiet_nil ?_; intro w' hw'; obtain ⟨nx, hw''⟩ := hw'; have hbx := ext_out hw''; clear hw'' nx hxe; have hB : Below w.heap.size w w' := Below.thenn (by repeat (first | exact Below.refl _ _ | assumption | apply Below.drew | apply below_drewN | (refine Below.alloc ?_ (by first | omega | (simp; done) | (simp; omega)) _) | (refine Below.setCell ?_ (by first | omega | (simp; done) | (simp; omega)) _))) hbx (by first | omega | (simp; done) | (simp; omega)); have hz : w.heap.size ≤ w'.heap.size := hB.size; obtain ⟨hc, hf⟩ := bcell hbx; clear hbx)
          go_wp2_with fail
          go_roundg (n - (k + 1))
          case measure => omega
          case rel => exact ⟨k + 1, by omega, by omega, by go_num, Lib.hid hB, HS⟩
        · obtain ⟨b', off', p0, p1, p2, e', hr', _, d0, d1, d2⟩ := (show RdR w 3 (some ⟨b, off, none⟩) n rows from ‹_›).row3 (k := k - 1) (by omega)
          injection e' with e'
          injection e' with e1 e2
          subst e1 e2
          rw [← hBr.cell (p := ⟨b, _, none⟩) hblt] at d0 d1 d2
          obtain ⟨ea, es⟩ := dp_at h0 hr'
          have hk0 : decide (0 < k) = true := by simpa using h0
          have hk3 : 0 ≤ (k : Int) - 1 := by omega
          have hk4 : (k : Int) - 1 < (n : Int) := by omega
          have hk5 : ((k : Int) - 1).toNat = k - 1 := by omega
          have hFL : dmgLt p0 p1 x0 x1 = false → D = false := fun hd => HLOW.out k x0 x1 x2 HR.out hr (by rw [ea, es]; exact hd)
          have hFS : dmgLt p0 p1 x0 x1 = true → REL (k + 1) := fun hd => HSTEP.out k x0 x1 x2 HR.out hr HO.out (by rw [ea, es]; exact hd)
          have HFL := Lib.hid hFL
          have HFS := Lib.hid hFS
          clear hr hr' HSTEP HLOW HBAD HEND ea es i0 i1 i2 hFL hFS
          by_cases q1 : x0 < p0
          · have HF := Lib.hid (HFL.out (dmgLt_gt q1))
            have q2 : decide (x0 < p0) = true := decide_eq_true q1
            clear q1
            go_wp2_with (first | (go_at_call 144; refine (CP.out _).mono ?_; rintro e w' ⟨rfl, rfl⟩) | (go_at_call 102; (with_reducible refine (C1.out _).mono ?_); rintro e w' ⟨rfl, rfl⟩) | (go_at_call 102; (with_reducible refine (C2.out _).mono ?_); rintro e w' ⟨rfl, rfl⟩))
            (refine wp_region_ext (by kernel_rfl) (by kernel_rfl) ?_; have hxe := ext_cells; (repeat (go_big_quiet_step (fail))); refine wpQuiet_nil ?_; intro w' hw'; obtain ⟨nx, hw''⟩ := hw'; have hbx := ext_out hw''; clear hw'' nx hxe; have hB : Below w.heap.size w w' := Below.thenn (by repeat (first | exact Below.refl _ _ | assumption | apply Below.drew | apply below_drewN | (refine Below.alloc ?_ (by first | omega | (simp; done) | (simp; omega)) _) | (refine Below.setCell ?_ (by first | omega | (simp; done) | (simp; omega)) _))) hbx (by first | omega | (simp; done) | (simp; omega)); have hz : w.heap.size ≤ w'.heap.size := hB.size; obtain ⟨hc, hf⟩ := bcell hbx; clear hbx)
            go_wp2_with fail
            go_ret
            exact ⟨ret_bool HF.out.symm, Below.thenn hWV hB hWV.size⟩
          · have q2 : decide (x0 < p0) = false := decide_eq_false q1
            by_cases q3 : p0 = x0
            · have q4 : (p0 == x0) = true := by simpa using q3
              by_cases q5 : x1 ≤ p1
              · have HF := Lib.hid (HFL.out (dmgLt_ge q3 q5))
                have q6 : decide (x1 ≤ p1) = true := decide_eq_true q5
                clear q1 q3 q5
                go_wp2_with (first | (go_at_call 144; refine (CP.out _).mono ?_; rintro e w' ⟨rfl, rfl⟩) | (go_at_call 102; (with_reducible refine (C1.out _).mono ?_); rintro e w' ⟨rfl, rfl⟩) | (go_at_call 102; (with_reducible refine (C2.out _).mono ?_); rintro e w' ⟨rfl, rfl⟩))
                (refine wp_region_ext (by kernel_rfl) (by kernel_rfl) ?_; have hxe := ext_cells; (repeat (go_big_quiet_step (fail))); refine wpQuiet_nil ?_; intro w' hw'; obtain ⟨nx, hw''⟩ := hw'; have hbx := ext_out hw''; clear hw'' nx hxe; have hB : Below w.heap.size w w' := Below.thenn (by repeat (first | exact Below.refl _ _ | assumption | apply Below.drew | apply below_drewN | (refine Below.alloc ?_ (by first | omega | (simp; done) | (simp; omega)) _) | (refine Below.setCell ?_ (by first | omega | (simp; done) | (simp; omega)) _))) hbx (by first | omega | (simp; done) | (simp; omega)); have hz : w.heap.size ≤ w'.heap.size := hB.size; obtain ⟨hc, hf⟩ := bcell hbx; clear hbx)
                go_wp2_with fail
                go_ret
                exact ⟨ret_bool HF.out.symm, Below.thenn hWV hB hWV.size⟩
              · have HS := Lib.hid (HFS.out (dmgLt_yes q1 (fun hh => q5 hh.2)))
                have q6 : decide (x1 ≤ p1) = false := decide_eq_false q5
                clear q1 q3 q5
                go_wp2_with (first | (go_at_call 144; refine (CP.out _).mono ?_; rintro e w' ⟨rfl, rfl⟩) | (go_at_call 102; (with_reducible refine (C1.out _).mono ?_); rintro e w' ⟨rfl, rfl⟩) | (go_at_call 102; (with_reducible refine (C2.out _).mono ?_); rintro e w' ⟨rfl, rfl⟩))
                (refine wp_region_ext (by kernel_rfl) (by kernel_rfl) ?_; have hxe := ext_cells; (repeat (go_big_quiet_step (fail))); refine wpQuiet_nil ?_; intro w' hw'; obtain ⟨nx, hw''⟩ := hw'; have hbx := ext_out hw''; clear hw'' nx hxe; have hB : Below w.heap.size w w' := Below.thenn (by repeat (first | exact Below.refl _ _ | assumption | apply Below.drew | apply below_drewN | (refine Below.alloc ?_ (by first | omega | (simp; done) | (simp; omega)) _) | (refine Below.setCell ?_ (by first | omega | (simp; done) | (simp; omega)) _))) hbx (by first | omega | (simp; done) | (simp; omega)); have hz : w.heap.size ≤ w'.heap.size := hB.size; obtain ⟨hc, hf⟩ := bcell hbx; clear hbx)
                go_wp2_with fail
                go_roundg (n - (k + 1))
                case measure => omega
                case rel => exact ⟨k + 1, by omega, by omega, by go_num, Lib.hid hB, HS⟩
            · have HS := Lib.hid (HFS.out (dmgLt_yes q1 (fun hh => q3 hh.1)))
              have q4 : (p0 == x0) = false := by simpa using q3
              clear q1 q3
              go_wp2_with (first | (go_at_call 144; refine (CP.out _).mono ?_; rintro e w' ⟨rfl, rfl⟩) | (go_at_call 102; (with_reducible refine (C1.out _).mono ?_); rintro e w' ⟨rfl, rfl⟩) | (go_at_call 102; (with_reducible refine (C2.out _).mono ?_); rintro e w' ⟨rfl, rfl⟩))
              (refine wp_region_ext (by kernel_rfl) (by kernel_rfl) ?_; have hxe := ext_cells; (repeat (go_big_quiet_step (fail))); refine wpQuiet_nil ?_; intro w' hw'; obtain ⟨nx, hw''⟩ := hw'; have hbx := ext_out hw''; clear hw'' nx hxe; have hB : Below w.heap.size w w' := Below.thenn (by repeat (first | exact Below.refl _ _ | assumption | apply Below.drew | apply below_drewN | (refine Below.alloc ?_ (by first | omega | (simp; done) | (simp; omega)) _) | (refine Below.setCell ?_ (by first | omega | (simp; done) | (simp; omega)) _))) hbx (by first | omega | (simp; done) | (simp; omega)); have hz : w.heap.size ≤ w'.heap.size := hB.size; obtain ⟨hc, hf⟩ := bcell hbx; clear hbx)
              go_wp2_with fail
              go_roundg (n - (k + 1))
              case measure => omega
              case rel => exact ⟨k + 1, by omega, by omega, by go_num, Lib.hid hB, HS⟩
    · have HF := Lib.hid (HEND.out k HR.out (by omega))
      have CK2 := Lib.hid CK.out
      rcases KO with _ | _
      · go_wp2_with (go_at_call 149; refine (CK2.out _).mono ?_; rintro e w' ⟨rfl, hb⟩; have hB2 := Below.thenn hBr hb hzr)
        go_ret
        exact ⟨ret_bool HF.out.symm, Below.thenn hWV hB2 hWV.size⟩
      · rcases hn15 : decide ((n : Int) ≤ 15) with _ | _
        all_goals
          go_wp2_with (go_at_call 149; refine (CK2.out _).mono ?_; rintro e w' ⟨rfl, hb⟩; have hB2 := Below.thenn hBr hb hzr)
          go_ret
          exact ⟨ret_bool (by rw [HF.out]; simp [hn15]; try omega), Below.thenn hWV hB2 hWV.size⟩
theorem spec_AreDamages_ (y0 y1 y2 y3 y4 : Int) : True := trivial
end Go.Proofs.Ytjfmicemnoglkaa
