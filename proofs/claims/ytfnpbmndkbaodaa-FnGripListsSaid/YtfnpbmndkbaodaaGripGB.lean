/- The grips: the tests that are due, the program's. -/
import Derived.Test.YtfnpbmndkbaodaaGripG
namespace Go.Proofs.Ytfnpbmndkbaodaa
open Go.RowKit
set_option linter.unusedVariables false
set_option linter.unusedSimpArgs false

set_option maxHeartbeats 2000000 in
theorem impl_DueTests (A : Option Addr) (n c : Nat) (rows : List (List Int)) (day : Int) (wo : World) (h : RdR wo 5 A n rows) (hm : n ≤ 1048577) :
    Calls Try.prog 16 #[.slice A n c, .int .i64 day] wo (RetSB wo (dueV rows day) (dueOk rows day)) := by
  have hl := Lib.hid h.2.2
  have hWV : Below wo.heap.size wo (wo.alloc (.cells #[.int .i64 day] 3)) := (Below.refl _ _).alloc (Nat.le_refl _) _
  have hV0 : wo.heap.size < (wo.alloc (.cells #[.int .i64 day] 3)).heap.size := by simp
  have hv0 : (wo.alloc (.cells #[.int .i64 day] 3)).cell? ⟨wo.heap.size, 0, none⟩ = some (.int .i64 day) := by rw [cell_of_row _ _ _ _ _ _ (heap_alloc_new wo _)]; rfl
  have cg := fun w' (h' : RdR w' 5 A n rows) => impl_AreGrips A n c rows w' h' hm
  rcases hg : good rows with _ | _
  · rw [hg] at cg
    have CG := Lib.hid cg
    rw [show dueV rows day = [] by simp [dueV, dueOk, hg], show dueOk rows day = false by simp [dueOk, hg]]
    clear cg hg
    go_enter Try.func16, Try.ntmps16
    go_wp2_with fail
    generalize wo.alloc (.cells #[.int .i64 day] 3) = w at hWV hV0 hv0 ⊢
    have hB : Below w.heap.size w w := Below.refl _ _
    go_wp2_with (go_at_call 41; refine (CG.out _ (h.below hWV)).mono ?_; rintro e w' ⟨rfl, hb⟩; have hB : Below w.heap.size w w' := Below.thenn (by repeat (first | exact Below.refl _ _ | assumption | apply Below.drew | apply below_drewN | (refine Below.alloc ?_ (by first | omega | (simp; done) | (simp; omega)) _) | (refine Below.setCell ?_ (by first | omega | (simp; done) | (simp; omega)) _))) hb (by first | omega | (simp; done) | (simp; omega)); have hz : w.heap.size ≤ w'.heap.size := hB.size; (try (have hz1 : w.heap.size + 1 ≤ w'.heap.size := (by have h := hb.size; (try simp at h); omega))); obtain ⟨hc, hf⟩ := bcell hb; clear hb)
    go_ret2
    exact RetSB.nil' (Below.thenn hWV hB hWV.size)
  rw [hg] at cg
  have CG := Lib.hid cg
  clear cg
  rcases hd : inr day 0 9999 with _ | _
  · rw [show dueV rows day = [] by simp [dueV, dueOk, hd], show dueOk rows day = false by simp [dueOk, hd]]
    clear hg
    go_enter Try.func16, Try.ntmps16
    go_wp2_with fail
    generalize wo.alloc (.cells #[.int .i64 day] 3) = w at hWV hV0 hv0 ⊢
    have hB : Below w.heap.size w w := Below.refl _ _
    go_wp2_with (first | (go_at_call 41; refine (CG.out _ (h.below hWV)).mono ?_; rintro e w' ⟨rfl, hb⟩; have hB : Below w.heap.size w w' := Below.thenn (by repeat (first | exact Below.refl _ _ | assumption | apply Below.drew | apply below_drewN | (refine Below.alloc ?_ (by first | omega | (simp; done) | (simp; omega)) _) | (refine Below.setCell ?_ (by first | omega | (simp; done) | (simp; omega)) _))) hb (by first | omega | (simp; done) | (simp; omega)); have hz : w.heap.size ≤ w'.heap.size := hB.size; (try (have hz1 : w.heap.size + 1 ≤ w'.heap.size := (by have h := hb.size; (try simp at h); omega))); obtain ⟨hc, hf⟩ := bcell hb; have hor := Nat.lt_of_lt_of_le hV0 hz; clear hb) | (go_at_call 54; refine (impl_within _ _ _ _).mono ?_; rintro e w' ⟨rfl, rfl⟩))
    go_ret2
    exact RetSB.nil' (Below.thenn hWV hB hWV.size)
  have eg := enters_of Try.func56 (by kernel_rfl) rfl
  have cf := fun (w' : World) (h' : RdR w' 5 A n rows) (g : Nat) (hc : w'.cell? ⟨g, 0, none⟩ = some (.int .i64 day)) (hgl : g < w'.heap.size) =>
    slices_ContainsFunc_Grip 56 #[.pointer (some ⟨g, 0, none⟩)] eg (lateB day) A n c rows w' h' hm (fun W x0 x1 x2 x3 x4 _ hb => dueTests_1 x0 x1 x2 x3 x4 day g W ((hb.cell (p := ⟨g, 0, none⟩) hgl).trans hc) (Nat.lt_of_lt_of_le hgl hb.size))
  clear eg
  have ha := idx_any (lateB day) rows
  rcases hla : rows.any (lateB day) with _ | _
  all_goals rw [hla] at cf
  all_goals have CF := Lib.hid cf
  all_goals clear cf ha
  case true =>
    rw [show dueV rows day = [] by simp [dueV, dueOk, hla], show dueOk rows day = false by simp [dueOk, hla]]
    clear hg hla
    go_enter Try.func16, Try.ntmps16
    go_wp2_with fail
    generalize wo.alloc (.cells #[.int .i64 day] 3) = w at hWV hV0 hv0 ⊢
    have hB : Below w.heap.size w w := Below.refl _ _
    go_wp2_with (first | (go_at_call 41; refine (CG.out _ (h.below hWV)).mono ?_; rintro e w' ⟨rfl, hb⟩; have hB : Below w.heap.size w w' := Below.thenn (by repeat (first | exact Below.refl _ _ | assumption | apply Below.drew | apply below_drewN | (refine Below.alloc ?_ (by first | omega | (simp; done) | (simp; omega)) _) | (refine Below.setCell ?_ (by first | omega | (simp; done) | (simp; omega)) _))) hb (by first | omega | (simp; done) | (simp; omega)); have hz : w.heap.size ≤ w'.heap.size := hB.size; (try (have hz1 : w.heap.size + 1 ≤ w'.heap.size := (by have h := hb.size; (try simp at h); omega))); obtain ⟨hc, hf⟩ := bcell hb; have hor := Nat.lt_of_lt_of_le hV0 hz; have hv1 := (hB.cell (p := ⟨wo.heap.size, 0, none⟩) hV0).trans hv0; clear hb) | (go_at_call 54; refine (impl_within _ _ _ _).mono ?_; rintro e w' ⟨rfl, rfl⟩) | (go_at_call 55; refine (CF.out _ (h.below (Below.thenn hWV hB hWV.size)) _ hv1 hor).mono ?_; rintro e w' ⟨rfl, hb⟩; have hB : Below w.heap.size w w' := Below.thenn (by repeat (first | exact Below.refl _ _ | assumption | apply Below.drew | apply below_drewN | (refine Below.alloc ?_ (by first | omega | (simp; done) | (simp; omega)) _) | (refine Below.setCell ?_ (by first | omega | (simp; done) | (simp; omega)) _))) hb (by first | omega | (simp; done) | (simp; omega)); have hz : w.heap.size ≤ w'.heap.size := hB.size; (try (have hz1 : w.heap.size + 1 ≤ w'.heap.size := (by have h := hb.size; (try simp at h); omega))); obtain ⟨hc, hf⟩ := bcell hb; clear hb))
    go_ret2
    exact RetSB.nil' (Below.thenn hWV hB hWV.size)
  case false =>
    rw [show dueV rows day = dueL rows day by simp [dueV, dueOk, hd, hg, hla], show dueOk rows day = true by simp [dueOk, hd, hg, hla]]
    have hn : n ≤ 12 := by have := goodN hg; have := hl.out; omega
    have hdb := (show 0 ≤ day ∧ day ≤ 9999 by simpa [inr] using hd)
    have hd0 := hdb.1
    have hd1 := hdb.2
    have HG := Lib.hid hg
    clear hg hla hdb
    go_enter Try.func16, Try.ntmps16
    go_wp2_with fail
    generalize wo.alloc (.cells #[.int .i64 day] 3) = w at hWV hV0 hv0 ⊢
    have hB : Below w.heap.size w w := Below.refl _ _
    go_wp2_with (first | (go_at_call 41; refine (CG.out _ (h.below hWV)).mono ?_; rintro e w' ⟨rfl, hb⟩; have hB : Below w.heap.size w w' := Below.thenn (by repeat (first | exact Below.refl _ _ | assumption | apply Below.drew | apply below_drewN | (refine Below.alloc ?_ (by first | omega | (simp; done) | (simp; omega)) _) | (refine Below.setCell ?_ (by first | omega | (simp; done) | (simp; omega)) _))) hb (by first | omega | (simp; done) | (simp; omega)); have hz : w.heap.size ≤ w'.heap.size := hB.size; (try (have hz1 : w.heap.size + 1 ≤ w'.heap.size := (by have h := hb.size; (try simp at h); omega))); obtain ⟨hc, hf⟩ := bcell hb; have hor := Nat.lt_of_lt_of_le hV0 hz; have hv1 := (hB.cell (p := ⟨wo.heap.size, 0, none⟩) hV0).trans hv0; clear hb) | (go_at_call 54; refine (impl_within _ _ _ _).mono ?_; rintro e w' ⟨rfl, rfl⟩) | (go_at_call 55; refine (CF.out _ (h.below (Below.thenn hWV hB hWV.size)) _ hv1 hor).mono ?_; rintro e w' ⟨rfl, hb⟩; have hB : Below w.heap.size w w' := Below.thenn (by repeat (first | exact Below.refl _ _ | assumption | apply Below.drew | apply below_drewN | (refine Below.alloc ?_ (by first | omega | (simp; done) | (simp; omega)) _) | (refine Below.setCell ?_ (by first | omega | (simp; done) | (simp; omega)) _))) hb (by first | omega | (simp; done) | (simp; omega)); have hz : w.heap.size ≤ w'.heap.size := hB.size; (try (have hz1 : w.heap.size + 1 ≤ w'.heap.size := (by have h := hb.size; (try simp at h); omega))); obtain ⟨hc, hf⟩ := bcell hb; skip; clear hb))
    have hwz : wo.heap.size ≤ w.heap.size := hWV.size
    go_loopg [25, 6] n (fun gg i s wr => ∃ (k : Nat) (A1 : Option Addr) (c1 : Nat) (zs : List Int), k ≤ n ∧ n ≤ k + gg ∧ i = .int .i64 k ∧ s = .slice A1 zs.length c1 ∧ zs.length ≤ k ∧ Below w.heap.size w wr ∧ w.heap.size ≤ wr.heap.size ∧ Hid (Ow wr w.heap.size (.slice A1 zs.length c1) zs ∧ zs = dueL (rows.take k) day))
    case atStart => exact ⟨0, _, _, [], by omega, by omega, rfl, rfl, by simp, (by repeat (first | exact Below.refl _ _ | assumption | apply Below.drew | apply below_drewN | (refine Below.alloc ?_ (by first | omega | (simp; done) | (simp; omega)) _) | (refine Below.setCell ?_ (by first | omega | (simp; done) | (simp; omega)) _))), by first | omega | (simp at *; omega), ⟨Ow.lit0 _ _ (by omega), (dueL_zero _ _).symm⟩⟩
    case round =>
      clear hc hf hB
      obtain ⟨k, A1, c1, zs, hk1, hk2, rfl, rfl, hzl, hBr, hzr, ha⟩ := hrel
      have hv2 := (hBr.cell (p := ⟨wo.heap.size, 0, none⟩) hV0).trans hv0
      have hor2 := Nat.lt_of_lt_of_le hV0 hBr.size
      by_cases hlt : k < n
      · obtain ⟨b, off, x0, x1, x2, x3, x4, rfl, hr, hblt, c0, c1', c2, c3, c4⟩ := (h.below hWV).row5 hlt
        rw [← hBr.cell (p := ⟨b, _, none⟩) hblt] at c0 c1' c2 c3 c4
        have hbr : b < wr.heap.size := by omega
        have hdd := goodR HG.out hr
        have q20 := hdd.2.2.2.2.1
        have q21 := hdd.2.2.2.2.2
        have HR := Lib.hid hr
        have HH := Lib.hid h
        clear hr hdd h
        rcases hq : dueB day [x0, x1, x2, x3, x4] with _ | _
        · have HQ := Lib.hid hq
          simp only [dueB, fld, List.getD_cons_succ, List.getD_cons_zero, Bool.or_eq_false_iff, decide_eq_false_iff_not] at hq
          have q1 := hq.1
          have q2 := hq.2.1
          have q3 := hq.2.2
          clear hq
          go_wp2_with fail
          go_roundg (n - (k + 1))
          case measure => omega
          case rel => exact ⟨k + 1, A1, c1, zs, by omega, by omega, by go_num, rfl, by omega, (by repeat (first | exact Below.refl _ _ | assumption | apply Below.drew | apply below_drewN | (refine Below.alloc ?_ (by first | omega | (simp; done) | (simp; omega)) _) | (refine Below.setCell ?_ (by first | omega | (simp; done) | (simp; omega)) _))), by first | omega | (simp at *; omega), ⟨ha.out.1.alloc _, by rw [dueL_no HR.out HQ.out, ← ha.out.2]⟩⟩
        · have HQ := Lib.hid hq
          simp only [dueB, fld, List.getD_cons_succ, List.getD_cons_zero, Bool.or_eq_true, decide_eq_true_eq] at hq
          rcases Decidable.em (10 < x2) with g1 | g1
          · clear hq
            go_wp2_with (at_builtin; refine wp_app_intH rfl (.tmp 44) (.tmp 47) rfl _ (wr.heap.size + 1) (by simp) w.heap.size (.slice A1 zs.length c1) zs x0 rfl (ha.out.1.alloc _) rfl (by omega) (by first | omega | (simp; done) | (simp; omega)) ?_; intro A2 c2 w1 hown1 hb1)
            go_roundg (n - (k + 1))
            case measure => omega
            case rel => exact ⟨k + 1, A2, c2, zs ++ [x0], by omega, by omega, by go_num, by simp, by simp; omega, (hBr.alloc hzr _).trans hb1, by have := hb1.size; first | omega | (simp at *; omega), ⟨hown1, by rw [dueL_yes HR.out HQ.out, ← ha.out.2]; rfl⟩⟩
          · rcases Decidable.em (5000 ≤ x3) with g2 | g2
            · clear hq
              go_wp2_with (at_builtin; refine wp_app_intH rfl (.tmp 44) (.tmp 47) rfl _ (wr.heap.size + 1) (by simp) w.heap.size (.slice A1 zs.length c1) zs x0 rfl (ha.out.1.alloc _) rfl (by omega) (by first | omega | (simp; done) | (simp; omega)) ?_; intro A2 c2 w1 hown1 hb1)
              go_roundg (n - (k + 1))
              case measure => omega
              case rel => exact ⟨k + 1, A2, c2, zs ++ [x0], by omega, by omega, by go_num, by simp, by simp; omega, (hBr.alloc hzr _).trans hb1, by have := hb1.size; first | omega | (simp at *; omega), ⟨hown1, by rw [dueL_yes HR.out HQ.out, ← ha.out.2]; rfl⟩⟩
            · have g3 : 90 < day - x4 := by omega
              clear hq
              go_wp2_with (at_builtin; refine wp_app_intH rfl (.tmp 44) (.tmp 47) rfl _ (wr.heap.size + 1) (by simp) w.heap.size (.slice A1 zs.length c1) zs x0 rfl (ha.out.1.alloc _) rfl (by omega) (by first | omega | (simp; done) | (simp; omega)) ?_; intro A2 c2 w1 hown1 hb1)
              go_roundg (n - (k + 1))
              case measure => omega
              case rel => exact ⟨k + 1, A2, c2, zs ++ [x0], by omega, by omega, by go_num, by simp, by simp; omega, (hBr.alloc hzr _).trans hb1, by have := hb1.size; first | omega | (simp at *; omega), ⟨hown1, by rw [dueL_yes HR.out HQ.out, ← ha.out.2]; rfl⟩⟩
      · go_wp2_with fail
        go_ret2
        exact ⟨_, _, ret_ssb (by rw [ha.out.2, dueL_end hl.out (by omega)]), by rw [← dueL_end (day := day) hl.out (by omega : n ≤ k), ← ha.out.2]; exact ha.out.1.base hwz, Below.thenn hWV hBr hWV.size⟩
end Go.Proofs.Ytfnpbmndkbaodaa
