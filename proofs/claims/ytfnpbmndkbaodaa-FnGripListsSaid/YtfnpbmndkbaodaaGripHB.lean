/- The grips: those that do not hold their loads, the reference's. -/
import Derived.Test.YtfnpbmndkbaodaaGripH
namespace Go.Proofs.Ytfnpbmndkbaodaa
open Go.RowKit
set_option linter.unusedVariables false
set_option linter.unusedSimpArgs false

theorem loads_next {loads : List Int} {k : Nat} {l : Int} (h : loads[k]? = some l) (ha : (loads.take k).all (fun z => inr z 100 4000) = true) (hl : inr l 100 4000 = true) : (loads.take (k + 1)).all (fun z => inr z 100 4000) = true := all_next h ha hl
theorem loads_stop {loads : List Int} {k : Nat} {l : Int} (h : loads[k]? = some l) (hl : inr l 100 4000 = false) : loads.all (fun z => inr z 100 4000) = false := all_stop h hl
set_option maxHeartbeats 2000000 in
theorem spec_AllHold (A A' : Option Addr) (n c n' c' : Nat) (rows : List (List Int)) (loads : List Int) (slope : Int) (w : World) (h : RdR w 5 A n rows) (hm : n ≤ 1048577) (h' : Rd w 1 A' n' (IV loads)) (hm' : n' ≤ 1048577) :
    Calls Try.prog 21 #[.slice A n c, .slice A' n' c', .int .i64 slope] w (RetSB w (ahV rows loads slope) (ahOk rows loads slope)) := by
  have hl := Lib.hid h.2.2
  have hl' := Lib.hid h'.len
  have cg := fun w' (h' : RdR w' 5 A n rows) => spec_l7Good A n c rows w' h' hm
  rcases hg : good rows with _ | _
  · rw [hg] at cg
    have CG := Lib.hid cg
    rw [show ahV rows loads slope = [] by simp [ahV, ahOk, hg], show ahOk rows loads slope = false by simp [ahOk, hg]]
    clear cg hg
    go_enter Try.func21, Try.ntmps21
    go_wp2_with (go_at_call 50; refine (CG.out _ (h.below ((Below.refl _ _).alloc (Nat.le_refl _) _))).mono ?_; rintro e w' ⟨rfl, hb⟩; have hB : Below w.heap.size w w' := Below.thenn (by repeat (first | exact Below.refl _ _ | assumption | apply Below.drew | apply below_drewN | (refine Below.alloc ?_ (by first | omega | (simp; done) | (simp; omega)) _) | (refine Below.setCell ?_ (by first | omega | (simp; done) | (simp; omega)) _))) hb (by first | omega | (simp; done) | (simp; omega)); have hz : w.heap.size ≤ w'.heap.size := hB.size; (try (have hz1 : w.heap.size + 1 ≤ w'.heap.size := (by have h := hb.size; (try simp at h); omega))); obtain ⟨hc, hf⟩ := bcell hb; have HO0 := Lib.hid ((Ow.lit0 w w.heap.size (Nat.le_refl _)).below hb); clear hb)
    go_ret2
    exact ⟨some ⟨w.heap.size, 0, none⟩, 0, rfl, HO0.out, hB⟩
  rw [hg] at cg
  have CG := Lib.hid cg
  clear cg
  by_cases hnn : n' = n
  case neg =>
    have hne : ¬ loads.length = rows.length := by rw [hl.out, hl'.out]; exact hnn
    rw [show ahV rows loads slope = [] by simp [ahV, ahOk, hne], show ahOk rows loads slope = false by simp [ahOk, hne]]
    have hnb : ((n' : Int) != (n : Int)) = true := by simp; omega
    clear hg hnn hne
    go_enter Try.func21, Try.ntmps21
    go_wp2_with (go_at_call 50; refine (CG.out _ (h.below ((Below.refl _ _).alloc (Nat.le_refl _) _))).mono ?_; rintro e w' ⟨rfl, hb⟩; have hB : Below w.heap.size w w' := Below.thenn (by repeat (first | exact Below.refl _ _ | assumption | apply Below.drew | apply below_drewN | (refine Below.alloc ?_ (by first | omega | (simp; done) | (simp; omega)) _) | (refine Below.setCell ?_ (by first | omega | (simp; done) | (simp; omega)) _))) hb (by first | omega | (simp; done) | (simp; omega)); have hz : w.heap.size ≤ w'.heap.size := hB.size; (try (have hz1 : w.heap.size + 1 ≤ w'.heap.size := (by have h := hb.size; (try simp at h); omega))); obtain ⟨hc, hf⟩ := bcell hb; have HO0 := Lib.hid ((Ow.lit0 w w.heap.size (Nat.le_refl _)).below hb); clear hb)
    go_ret2
    exact ⟨some ⟨w.heap.size, 0, none⟩, 0, rfl, HO0.out, hB⟩
  subst hnn
  have ci := fun w' => spec_l7Slope slope w'
  rcases hs : inr slope 0 100 with _ | _
  · rw [hs] at ci
    have CI := Lib.hid ci
    rw [show ahV rows loads slope = [] by simp only [ahV, ahOk, hs]; simp, show ahOk rows loads slope = false by simp only [ahOk, hs]; simp]
    clear hg ci hs
    go_enter Try.func21, Try.ntmps21
    go_wp2_with (first | (go_at_call 50; refine (CG.out _ (h.below ((Below.refl _ _).alloc (Nat.le_refl _) _))).mono ?_; rintro e w' ⟨rfl, hb⟩; have hB : Below w.heap.size w w' := Below.thenn (by repeat (first | exact Below.refl _ _ | assumption | apply Below.drew | apply below_drewN | (refine Below.alloc ?_ (by first | omega | (simp; done) | (simp; omega)) _) | (refine Below.setCell ?_ (by first | omega | (simp; done) | (simp; omega)) _))) hb (by first | omega | (simp; done) | (simp; omega)); have hz : w.heap.size ≤ w'.heap.size := hB.size; (try (have hz1 : w.heap.size + 1 ≤ w'.heap.size := (by have h := hb.size; (try simp at h); omega))); obtain ⟨hc, hf⟩ := bcell hb; have HO0 := Lib.hid ((Ow.lit0 w w.heap.size (Nat.le_refl _)).below hb); clear hb) | (go_at_call 57; refine (CI.out _).mono ?_; rintro e w' ⟨rfl, rfl⟩))
    go_ret2
    exact ⟨some ⟨w.heap.size, 0, none⟩, 0, rfl, HO0.out, hB⟩
  rw [hs] at ci
  have CI := Lib.hid ci
  have HR1 : Hid (loads.all (fun z => inr z 100 4000) = false → ahV rows loads slope = [] ∧ ahOk rows loads slope = false) := fun hla => ⟨by simp only [ahV, ahOk, hla]; simp, by simp only [ahOk, hla]; simp⟩
  have HR2 : Hid (loads.all (fun z => inr z 100 4000) = true → ahV rows loads slope = ahL rows loads slope rows.length ∧ ahOk rows loads slope = true) := fun hla => ⟨by simp only [ahV, ahOk, hla, hg, hs, hl.out, hl'.out]; simp, by simp only [ahOk, hla, hg, hs, hl.out, hl'.out]; simp⟩
  generalize ahV rows loads slope = V at HR1 HR2 ⊢
  generalize ahOk rows loads slope = O at HR1 HR2 ⊢
  have hn : n' ≤ 12 := by have := goodN hg; have := hl.out; omega
  have hsb := (show 0 ≤ slope ∧ slope ≤ 100 by simpa [inr] using hs)
  have s0 := hsb.1
  have s1 := hsb.2
  clear hg ci hs hsb
  go_enter Try.func21, Try.ntmps21
  go_wp2_with (first | (go_at_call 50; refine (CG.out _ (h.below ((Below.refl _ _).alloc (Nat.le_refl _) _))).mono ?_; rintro e w' ⟨rfl, hb⟩; have hB : Below w.heap.size w w' := Below.thenn (by repeat (first | exact Below.refl _ _ | assumption | apply Below.drew | apply below_drewN | (refine Below.alloc ?_ (by first | omega | (simp; done) | (simp; omega)) _) | (refine Below.setCell ?_ (by first | omega | (simp; done) | (simp; omega)) _))) hb (by first | omega | (simp; done) | (simp; omega)); have hz : w.heap.size ≤ w'.heap.size := hB.size; (try (have hz1 : w.heap.size + 1 ≤ w'.heap.size := (by have h := hb.size; (try simp at h); omega))); obtain ⟨hc, hf⟩ := bcell hb; have HO0 := Lib.hid ((Ow.lit0 w w.heap.size (Nat.le_refl _)).below hb); clear hb) | (go_at_call 57; refine (CI.out _).mono ?_; rintro e w' ⟨rfl, rfl⟩))
  go_loopg [9, 8] n' (fun gg i s wr => ∃ (k : Nat) (A1 : Option Addr) (c1 : Nat) (zs : List Int), k ≤ n' ∧ n' ≤ k + gg ∧ i = .int .i64 k ∧ s = .slice A1 zs.length c1 ∧ zs.length ≤ 12 ∧ Below w.heap.size w wr ∧ w.heap.size ≤ wr.heap.size ∧ Hid (Ow wr w.heap.size (.slice A1 zs.length c1) zs ∧ zs = ahL rows loads slope k ∧ (loads.take k).all (fun z => inr z 100 4000) = true))
  case atStart => exact ⟨0, _, _, [], by omega, by omega, rfl, rfl, by simp, hB, hz, ⟨HO0.out, (ahL_zero _ _ _).symm, by simp⟩⟩
  case round =>
    clear hc hf hB HO0
    obtain ⟨k, A1, c1, zs, hk1, hk2, rfl, rfl, hzl, hBr, hzr, ha⟩ := hrel
    by_cases hlt : k < n'
    · obtain ⟨b, off, x0, x1, x2, x3, x4, rfl, hr, hblt, c0, c1', c2, c3, c4⟩ := h.row5 hlt
      obtain ⟨b', off', ld, rfl, hr', d0⟩ := h'.at1 hlt
      have hblt' : b' < w.heap.size := World.block_lt_of_cell? w _ d0
      rw [← hBr.cell (p := ⟨b, _, none⟩) hblt] at c0 c1' c2 c3 c4
      rw [← hBr.cell (p := ⟨b', _, none⟩) hblt'] at d0
      have hbr : b < wr.heap.size := by omega
      have hbr' : b' < wr.heap.size := by omega
      have cl := fun w => spec_l7Load ld w
      rcases hld : inr ld 100 4000 with _ | _
      · obtain ⟨rfl, rfl⟩ := HR1.out (loads_stop hr' hld)
        rw [hld] at cl
        have CL := Lib.hid cl
        clear cl hr hr' h h' hld
        go_wp2_with (go_at_call 58; refine (CL.out _).mono ?_; rintro e w' ⟨rfl, rfl⟩)
        go_ret2
        exact ⟨some ⟨_, 0, none⟩, 0, rfl, Ow.lit0 _ _ hzr, hBr.alloc hzr _⟩
      have HLN := Lib.hid (loads_next hr' ha.out.2.2 hld)
      have hlb := (show 100 ≤ ld ∧ ld ≤ 4000 by simpa [inr] using hld)
      have CH := Lib.hid (fun w => spec_l7Holds x0 x1 x2 x3 x4 ld slope w (by omega) (by omega) s0 (by omega))
      rw [hld] at cl
      have CL := Lib.hid cl
      have HQ : Hid (∀ z, gripHolds x1 x2 ld slope = z → ahL rows loads slope (k + 1) = if z then ahL rows loads slope k else ahL rows loads slope k ++ [x0]) := fun z hz => by
        cases z
        · rw [ahL_yes hr hr' (by simpa [fld] using hz)]; rfl
        · rw [ahL_no hr hr' (by simpa [fld] using hz)]; rfl
      have HH := Lib.hid h
      have HH' := Lib.hid h'
      clear hr hr' hlb h h' cl hld
      generalize gripHolds x1 x2 ld slope = q at CH HQ
      have HZ := Lib.hid (ahL_len rows loads slope (k + 1))
      rcases q with _ | _
      · have hq := HQ.out false rfl
        rw [if_neg (by simp)] at hq
        have HE := Lib.hid hq
        clear hq HQ
        go_wp2_with (go_at_call 58; refine (CL.out _).mono ?_; rintro e w' ⟨rfl, rfl⟩)
        (refine wp_region_ext (by kernel_rfl) (by kernel_rfl) ?_; have hxe := ext_cells; (repeat (go_big_quiet_step ((go_at_call 59; exact ext_ret (CH.out _))))); refine wpQuiet_nil ?_; intro w' hw'; obtain ⟨nx, hw''⟩ := hw'; have hbx := ext_out hw''; clear hw'' nx hxe; have hB : Below w.heap.size w w' := Below.thenn (by repeat (first | exact Below.refl _ _ | assumption | apply Below.drew | apply below_drewN | (refine Below.alloc ?_ (by first | omega | (simp; done) | (simp; omega)) _) | (refine Below.setCell ?_ (by first | omega | (simp; done) | (simp; omega)) _))) hbx (by first | omega | (simp; done) | (simp; omega)); have hz : w.heap.size ≤ w'.heap.size := hB.size; obtain ⟨hc, hf⟩ := bcell hbx; have HO1 := Lib.hid (ha.out.1.below hbx); clear hbx)
        go_wp2_with (at_builtin; refine wp_app_int rfl (.tmp 51) (.tmp 57) rfl _ w.heap.size (.slice A1 zs.length c1) zs x0 rfl HO1.out rfl (by omega) (by first | omega | (simp; done) | (simp; omega)) ?_; intro A2 c2 w1 hown1 hb1)
        go_roundg (n' - (k + 1))
        case measure => omega
        case rel => exact ⟨k + 1, A2, c2, zs ++ [x0], by omega, by omega, by go_num, by simp, by (have h1 := HZ.out; rw [HE.out, ← ha.out.2.1] at h1; have := hl.out; omega), hB.trans hb1, Nat.le_trans hz hb1.size, ⟨hown1, by rw [HE.out, ← ha.out.2.1], HLN.out⟩⟩
      · have hq := HQ.out true rfl
        rw [if_pos rfl] at hq
        have HE := Lib.hid hq
        clear hq HQ
        go_wp2_with (go_at_call 58; refine (CL.out _).mono ?_; rintro e w' ⟨rfl, rfl⟩)
        (refine wp_region_ext (by kernel_rfl) (by kernel_rfl) ?_; have hxe := ext_cells; (repeat (go_big_quiet_step ((go_at_call 59; exact ext_ret (CH.out _))))); refine wpQuiet_nil ?_; intro w' hw'; obtain ⟨nx, hw''⟩ := hw'; have hbx := ext_out hw''; clear hw'' nx hxe; have hB : Below w.heap.size w w' := Below.thenn (by repeat (first | exact Below.refl _ _ | assumption | apply Below.drew | apply below_drewN | (refine Below.alloc ?_ (by first | omega | (simp; done) | (simp; omega)) _) | (refine Below.setCell ?_ (by first | omega | (simp; done) | (simp; omega)) _))) hbx (by first | omega | (simp; done) | (simp; omega)); have hz : w.heap.size ≤ w'.heap.size := hB.size; obtain ⟨hc, hf⟩ := bcell hbx; have HO1 := Lib.hid (ha.out.1.below hbx); clear hbx)
        go_wp2_with fail
        go_roundg (n' - (k + 1))
        case measure => omega
        case rel => exact ⟨k + 1, A1, c1, zs, by omega, by omega, by go_num, rfl, hzl, hB, hz, ⟨HO1.out, by rw [HE.out, ← ha.out.2.1], HLN.out⟩⟩
    · obtain ⟨rfl, rfl⟩ := HR2.out (by have := ha.out.2.2; rwa [List.take_of_length_le (by have := hl'.out; omega)] at this)
      go_wp2_with fail
      go_ret2
      have e : k = rows.length := by rw [hl.out]; omega
      subst e
      exact ⟨_, _, ret_ssb (by rw [ha.out.2.1]), by rw [← ha.out.2.1]; exact ha.out.1, hBr⟩
end Go.Proofs.Ytfnpbmndkbaodaa
