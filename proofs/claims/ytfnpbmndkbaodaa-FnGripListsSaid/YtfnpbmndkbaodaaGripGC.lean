/- The grips: the tests that are due, the reference's. -/
import Derived.Test.YtfnpbmndkbaodaaGripG
namespace Go.Proofs.Ytfnpbmndkbaodaa
open Go.RowKit
set_option linter.unusedVariables false
set_option linter.unusedSimpArgs false

set_option maxHeartbeats 2000000 in
theorem spec_DueTests (A : Option Addr) (n c : Nat) (rows : List (List Int)) (day : Int) (w : World) (h : RdR w 5 A n rows) (hm : n ≤ 1048577) :
    Calls Try.prog 15 #[.slice A n c, .int .i64 day] w (RetSB w (dueV rows day) (dueOk rows day)) := by
  have hl := Lib.hid h.2.2
  have cg := fun w' (h' : RdR w' 5 A n rows) => spec_l7Good A n c rows w' h' hm
  have cd := fun w' => spec_l7Day day w'
  rcases hg : good rows with _ | _
  · rw [hg] at cg
    have CG := Lib.hid cg
    rw [show dueV rows day = [] by simp [dueV, dueOk, hg], show dueOk rows day = false by simp [dueOk, hg]]
    clear cg hg
    go_enter Try.func15, Try.ntmps15
    go_wp2_with (go_at_call 50; refine (CG.out _ (h.below ((Below.refl _ _).alloc (Nat.le_refl _) _))).mono ?_; rintro e w' ⟨rfl, hb⟩; have hB : Below w.heap.size w w' := Below.thenn (by repeat (first | exact Below.refl _ _ | assumption | apply Below.drew | apply below_drewN | (refine Below.alloc ?_ (by first | omega | (simp; done) | (simp; omega)) _) | (refine Below.setCell ?_ (by first | omega | (simp; done) | (simp; omega)) _))) hb (by first | omega | (simp; done) | (simp; omega)); have hz : w.heap.size ≤ w'.heap.size := hB.size; (try (have hz1 : w.heap.size + 1 ≤ w'.heap.size := (by have h := hb.size; (try simp at h); omega))); obtain ⟨hc, hf⟩ := bcell hb; have HO0 := Lib.hid ((Ow.lit0 w w.heap.size (Nat.le_refl _)).below hb); clear hb)
    go_ret2
    exact ⟨some ⟨w.heap.size, 0, none⟩, 0, rfl, HO0.out, hB⟩
  rw [hg] at cg
  have CG := Lib.hid cg
  clear cg
  rcases hd : inr day 0 9999 with _ | _
  · rw [hd] at cd
    have CD := Lib.hid cd
    rw [show dueV rows day = [] by simp [dueV, dueOk, hd], show dueOk rows day = false by simp [dueOk, hd]]
    clear hg cd hd
    go_enter Try.func15, Try.ntmps15
    go_wp2_with (first | (go_at_call 50; refine (CG.out _ (h.below ((Below.refl _ _).alloc (Nat.le_refl _) _))).mono ?_; rintro e w' ⟨rfl, hb⟩; have hB : Below w.heap.size w w' := Below.thenn (by repeat (first | exact Below.refl _ _ | assumption | apply Below.drew | apply below_drewN | (refine Below.alloc ?_ (by first | omega | (simp; done) | (simp; omega)) _) | (refine Below.setCell ?_ (by first | omega | (simp; done) | (simp; omega)) _))) hb (by first | omega | (simp; done) | (simp; omega)); have hz : w.heap.size ≤ w'.heap.size := hB.size; (try (have hz1 : w.heap.size + 1 ≤ w'.heap.size := (by have h := hb.size; (try simp at h); omega))); obtain ⟨hc, hf⟩ := bcell hb; have HO0 := Lib.hid ((Ow.lit0 w w.heap.size (Nat.le_refl _)).below hb); clear hb) | (go_at_call 53; refine (CD.out _).mono ?_; rintro e w' ⟨rfl, rfl⟩))
    go_ret2
    exact ⟨some ⟨w.heap.size, 0, none⟩, 0, rfl, HO0.out, hB⟩
  rw [hd] at cd
  have CD := Lib.hid cd
  have hn : n ≤ 12 := by have := goodN hg; have := hl.out; omega
  have hdb := (show 0 ≤ day ∧ day ≤ 9999 by simpa [inr] using hd)
  have hd0 := hdb.1
  have hd1 := hdb.2
  have HG := Lib.hid hg
  have HR1 : Hid (rows.any (lateB day) = true → dueV rows day = [] ∧ dueOk rows day = false) := fun hla => ⟨by simp [dueV, dueOk, hla], by simp [dueOk, hla]⟩
  have HR2 : Hid (rows.any (lateB day) = false → dueV rows day = dueL rows day ∧ dueOk rows day = true) := fun hla => ⟨by simp [dueV, dueOk, hla, hd, hg], by simp [dueOk, hla, hd, hg]⟩
  generalize dueV rows day = V at HR1 HR2 ⊢
  generalize dueOk rows day = O at HR1 HR2 ⊢
  clear hg cd hd hdb
  go_enter Try.func15, Try.ntmps15
  go_wp2_with (first | (go_at_call 50; refine (CG.out _ (h.below ((Below.refl _ _).alloc (Nat.le_refl _) _))).mono ?_; rintro e w' ⟨rfl, hb⟩; have hB : Below w.heap.size w w' := Below.thenn (by repeat (first | exact Below.refl _ _ | assumption | apply Below.drew | apply below_drewN | (refine Below.alloc ?_ (by first | omega | (simp; done) | (simp; omega)) _) | (refine Below.setCell ?_ (by first | omega | (simp; done) | (simp; omega)) _))) hb (by first | omega | (simp; done) | (simp; omega)); have hz : w.heap.size ≤ w'.heap.size := hB.size; (try (have hz1 : w.heap.size + 1 ≤ w'.heap.size := (by have h := hb.size; (try simp at h); omega))); obtain ⟨hc, hf⟩ := bcell hb; have HO0 := Lib.hid ((Ow.lit0 w w.heap.size (Nat.le_refl _)).below hb); clear hb) | (go_at_call 53; refine (CD.out _).mono ?_; rintro e w' ⟨rfl, rfl⟩))
  go_loopg [7, 6] n (fun gg i s wr => ∃ (k : Nat) (A1 : Option Addr) (c1 : Nat) (zs : List Int), k ≤ n ∧ n ≤ k + gg ∧ i = .int .i64 k ∧ s = .slice A1 zs.length c1 ∧ zs.length ≤ k ∧ Below w.heap.size w wr ∧ w.heap.size ≤ wr.heap.size ∧ Hid (Ow wr w.heap.size (.slice A1 zs.length c1) zs ∧ zs = dueL (rows.take k) day ∧ (rows.take k).any (lateB day) = false))
  case atStart => exact ⟨0, _, _, [], by omega, by omega, rfl, rfl, by simp, (by repeat (first | exact Below.refl _ _ | assumption | apply Below.drew | apply below_drewN | (refine Below.alloc ?_ (by first | omega | (simp; done) | (simp; omega)) _) | (refine Below.setCell ?_ (by first | omega | (simp; done) | (simp; omega)) _))), by first | omega | (simp at *; omega), ⟨HO0.out, (dueL_zero _ _).symm, by simp⟩⟩
  case round =>
    clear hc hf hB HO0
    obtain ⟨k, A1, c1, zs, hk1, hk2, rfl, rfl, hzl, hBr, hzr, ha⟩ := hrel
    by_cases hlt : k < n
    · obtain ⟨b, off, x0, x1, x2, x3, x4, rfl, hr, hblt, c0, c1', c2, c3, c4⟩ := h.row5 hlt
      rw [← hBr.cell (p := ⟨b, _, none⟩) hblt] at c0 c1' c2 c3 c4
      have hbr : b < wr.heap.size := by omega
      have hdd := goodR HG.out hr
      have q20 := hdd.2.2.2.2.1
      have q21 := hdd.2.2.2.2.2
      have HR := Lib.hid hr
      have HH := Lib.hid h
      clear hr hdd h
      by_cases hlate : day < x4
      · obtain ⟨rfl, rfl⟩ := HR1.out (late_stop HR.out (show lateB day [x0, x1, x2, x3, x4] = true by simp [lateB, fld, hlate]))
        go_wp2_with fail
        go_ret2
        exact ⟨some ⟨_, 0, none⟩, 0, rfl, Ow.lit0' _ _ _ (by simp; omega) (by simp), (by repeat (first | exact Below.refl _ _ | assumption | apply Below.drew | apply below_drewN | (refine Below.alloc ?_ (by first | omega | (simp; done) | (simp; omega)) _) | (refine Below.setCell ?_ (by first | omega | (simp; done) | (simp; omega)) _)))⟩
      have HL := Lib.hid (show lateB day [x0, x1, x2, x3, x4] = false by simp [lateB, fld]; omega)
      rcases hq : dueB day [x0, x1, x2, x3, x4] with _ | _
      · have HQ := Lib.hid hq
        simp only [dueB, fld, List.getD_cons_succ, List.getD_cons_zero, Bool.or_eq_false_iff, decide_eq_false_iff_not] at hq
        have q1 := hq.1
        have q2 := hq.2.1
        have q3 := hq.2.2
        clear hq
        go_wp2_with fail
        go_roundg (n - (k + 1))
        case measure => omega
        case rel => exact ⟨k + 1, A1, c1, zs, by omega, by omega, by go_num, rfl, by omega, hBr.alloc hzr _, by first | omega | (simp at *; omega), ⟨ha.out.1.alloc _, by rw [dueL_no HR.out HQ.out, ← ha.out.2.1], late_next HR.out ha.out.2.2 HL.out⟩⟩
      · have HQ := Lib.hid hq
        simp only [dueB, fld, List.getD_cons_succ, List.getD_cons_zero, Bool.or_eq_true, decide_eq_true_eq] at hq
        rcases Decidable.em (10 < x2) with g1 | g1
        · clear hq
          go_wp2_with (at_builtin; refine wp_app_intH rfl (.tmp 49) (.tmp 52) rfl _ (wr.heap.size + 1) (by simp) w.heap.size (.slice A1 zs.length c1) zs x0 rfl (ha.out.1.alloc _) rfl (by omega) (by first | omega | (simp; done) | (simp; omega)) ?_; intro A2 c2 w1 hown1 hb1)
          go_roundg (n - (k + 1))
          case measure => omega
          case rel => exact ⟨k + 1, A2, c2, zs ++ [x0], by omega, by omega, by go_num, by simp, by simp; omega, (hBr.alloc hzr _).trans hb1, by have := hb1.size; first | omega | (simp at *; omega), ⟨hown1, by rw [dueL_yes HR.out HQ.out, ← ha.out.2.1]; rfl, late_next HR.out ha.out.2.2 HL.out⟩⟩
        · rcases Decidable.em (5000 ≤ x3) with g2 | g2
          · clear hq
            go_wp2_with (at_builtin; refine wp_app_intH rfl (.tmp 49) (.tmp 52) rfl _ (wr.heap.size + 1) (by simp) w.heap.size (.slice A1 zs.length c1) zs x0 rfl (ha.out.1.alloc _) rfl (by omega) (by first | omega | (simp; done) | (simp; omega)) ?_; intro A2 c2 w1 hown1 hb1)
            go_roundg (n - (k + 1))
            case measure => omega
            case rel => exact ⟨k + 1, A2, c2, zs ++ [x0], by omega, by omega, by go_num, by simp, by simp; omega, (hBr.alloc hzr _).trans hb1, by have := hb1.size; first | omega | (simp at *; omega), ⟨hown1, by rw [dueL_yes HR.out HQ.out, ← ha.out.2.1]; rfl, late_next HR.out ha.out.2.2 HL.out⟩⟩
          · have g3 : 90 < day - x4 := by omega
            clear hq
            go_wp2_with (at_builtin; refine wp_app_intH rfl (.tmp 49) (.tmp 52) rfl _ (wr.heap.size + 1) (by simp) w.heap.size (.slice A1 zs.length c1) zs x0 rfl (ha.out.1.alloc _) rfl (by omega) (by first | omega | (simp; done) | (simp; omega)) ?_; intro A2 c2 w1 hown1 hb1)
            go_roundg (n - (k + 1))
            case measure => omega
            case rel => exact ⟨k + 1, A2, c2, zs ++ [x0], by omega, by omega, by go_num, by simp, by simp; omega, (hBr.alloc hzr _).trans hb1, by have := hb1.size; first | omega | (simp at *; omega), ⟨hown1, by rw [dueL_yes HR.out HQ.out, ← ha.out.2.1]; rfl, late_next HR.out ha.out.2.2 HL.out⟩⟩
    · obtain ⟨rfl, rfl⟩ := HR2.out (by have := ha.out.2.2; rwa [List.take_of_length_le (by have := hl.out; omega)] at this)
      go_wp2_with fail
      go_ret2
      exact ⟨_, _, ret_ssb (by rw [ha.out.2.1, dueL_end hl.out (by omega)]), by rw [← dueL_end (day := day) hl.out (by omega : n ≤ k), ← ha.out.2.1]; exact ha.out.1, hBr⟩
end Go.Proofs.Ytfnpbmndkbaodaa
