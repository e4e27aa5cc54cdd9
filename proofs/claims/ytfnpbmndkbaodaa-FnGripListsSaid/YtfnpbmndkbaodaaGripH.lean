/- The grips: those that do not hold their loads. -/
import Derived.Test.YtfnpbmndkbaodaaGripG
namespace Go.Proofs.Ytfnpbmndkbaodaa
open Go.RowKit
set_option linter.unusedVariables false
set_option linter.unusedSimpArgs false

def weakB (slope : Int) (p : List Int × Int) : Bool := !gripHolds (fld p.1 1) (fld p.1 2) p.2 slope
def ahL (rows : List (List Int)) (loads : List Int) (slope : Int) (k : Nat) : List Int := (((rows.zip loads).take k).filter (weakB slope)).map fun p => fld p.1 0
def ahOk (rows : List (List Int)) (loads : List Int) (slope : Int) : Bool := good rows && (decide (loads.length = rows.length) && ((loads.all fun z => inr z 100 4000) && inr slope 0 100))
def ahV (rows : List (List Int)) (loads : List Int) (slope : Int) : List Int := if ahOk rows loads slope then ahL rows loads slope rows.length else []
theorem zip_at {rows : List (List Int)} {loads : List Int} {k : Nat} {r : List Int} {l : Int} (h : rows[k]? = some r) (h' : loads[k]? = some l) : (rows.zip loads)[k]? = some (r, l) := by
  rw [List.getElem?_zip_eq_some]; exact ⟨h, h'⟩
theorem ahL_yes {rows : List (List Int)} {loads : List Int} {slope : Int} {k : Nat} {r : List Int} {l : Int} (h : rows[k]? = some r) (h' : loads[k]? = some l) (hb : gripHolds (fld r 1) (fld r 2) l slope = false) : ahL rows loads slope (k + 1) = ahL rows loads slope k ++ [fld r 0] := by
  have hw : weakB slope (r, l) = true := by unfold weakB; rw [hb]; rfl
  unfold ahL; rw [take_next (zip_at h h')]; simp [List.filter_append, hw]
theorem ahL_no {rows : List (List Int)} {loads : List Int} {slope : Int} {k : Nat} {r : List Int} {l : Int} (h : rows[k]? = some r) (h' : loads[k]? = some l) (hb : gripHolds (fld r 1) (fld r 2) l slope = true) : ahL rows loads slope (k + 1) = ahL rows loads slope k := by
  have hw : weakB slope (r, l) = false := by unfold weakB; rw [hb]; rfl
  unfold ahL; rw [take_next (zip_at h h')]; simp [List.filter_append, hw]
theorem ahL_zero (rows : List (List Int)) (loads : List Int) (slope : Int) : ahL rows loads slope 0 = [] := by simp [ahL]
theorem ahL_len (rows : List (List Int)) (loads : List Int) (slope : Int) (k : Nat) : (ahL rows loads slope k).length ≤ rows.length := by
  have h3 := List.length_filter_le (weakB slope) ((rows.zip loads).take k)
  simp [ahL] at h3 ⊢; omega
theorem ahV_len (rows : List (List Int)) (loads : List Int) (slope : Int) : (ahV rows loads slope).length ≤ 1048576 := by
  unfold ahV
  split
  · rename_i h
    have h1 : good rows = true := by simp only [ahOk, Bool.and_eq_true] at h; exact h.1
    have h2 := goodN h1
    have h3 := ahL_len rows loads slope rows.length
    omega
  · simp
set_option maxHeartbeats 2000000 in
theorem impl_AllHold (A A' : Option Addr) (n c n' c' : Nat) (rows : List (List Int)) (loads : List Int) (slope : Int) (w : World) (h : RdR w 5 A n rows) (hm : n ≤ 1048577) (h' : Rd w 1 A' n' (IV loads)) (hm' : n' ≤ 1048577) :
    Calls Try.prog 23 #[.slice A n c, .slice A' n' c', .int .i64 slope] w (RetSB w (ahV rows loads slope) (ahOk rows loads slope)) := by
  have hl := Lib.hid h.2.2
  have hl' := Lib.hid h'.len
  have cg := fun w' (h' : RdR w' 5 A n rows) => impl_AreGrips A n c rows w' h' hm
  rcases hg : good rows with _ | _
  · rw [hg] at cg
    have CG := Lib.hid cg
    rw [show ahV rows loads slope = [] by simp [ahV, ahOk, hg], show ahOk rows loads slope = false by simp [ahOk, hg]]
    clear cg hg
    go_enter Try.func23, Try.ntmps23
    go_wp2_with (go_at_call 41; refine (CG.out _ h).mono ?_; rintro e w' ⟨rfl, hb⟩; have hB : Below w.heap.size w w' := Below.thenn (by repeat (first | exact Below.refl _ _ | assumption | apply Below.drew | apply below_drewN | (refine Below.alloc ?_ (by first | omega | (simp; done) | (simp; omega)) _) | (refine Below.setCell ?_ (by first | omega | (simp; done) | (simp; omega)) _))) hb (by first | omega | (simp; done) | (simp; omega)); have hz : w.heap.size ≤ w'.heap.size := hB.size; (try (have hz1 : w.heap.size + 1 ≤ w'.heap.size := (by have h := hb.size; (try simp at h); omega))); obtain ⟨hc, hf⟩ := bcell hb; clear hb)
    go_ret2
    exact RetSB.nil' hB
  rw [hg] at cg
  have CG := Lib.hid cg
  clear cg
  by_cases hnn : n' = n
  case neg =>
    have hne : ¬ loads.length = rows.length := by rw [hl.out, hl'.out]; exact hnn
    rw [show ahV rows loads slope = [] by simp [ahV, ahOk, hne], show ahOk rows loads slope = false by simp [ahOk, hne]]
    have hnb : ((n' : Int) != (n : Int)) = true := by simp; omega
    clear hg hnn hne
    go_enter Try.func23, Try.ntmps23
    go_wp2_with (go_at_call 41; refine (CG.out _ h).mono ?_; rintro e w' ⟨rfl, hb⟩; have hB : Below w.heap.size w w' := Below.thenn (by repeat (first | exact Below.refl _ _ | assumption | apply Below.drew | apply below_drewN | (refine Below.alloc ?_ (by first | omega | (simp; done) | (simp; omega)) _) | (refine Below.setCell ?_ (by first | omega | (simp; done) | (simp; omega)) _))) hb (by first | omega | (simp; done) | (simp; omega)); have hz : w.heap.size ≤ w'.heap.size := hB.size; (try (have hz1 : w.heap.size + 1 ≤ w'.heap.size := (by have h := hb.size; (try simp at h); omega))); obtain ⟨hc, hf⟩ := bcell hb; clear hb)
    go_ret2
    exact RetSB.nil' hB
  subst hnn
  have ca := fun w' (hh : Rd w' 1 A' n' (IV loads)) => impl_allIn A' n' c' loads 100 4000 w' hh (by omega)
  rcases hal : (loads.all fun z => inr z 100 4000) with _ | _
  · rw [hal] at ca
    have CA := Lib.hid ca
    rw [show ahV rows loads slope = [] by simp only [ahV, ahOk, hal]; simp, show ahOk rows loads slope = false by simp only [ahOk, hal]; simp]
    clear hg ca hal
    go_enter Try.func23, Try.ntmps23
    go_wp2_with (first | (go_at_call 41; refine (CG.out _ h).mono ?_; rintro e w' ⟨rfl, hb⟩; have hB : Below w.heap.size w w' := Below.thenn (by repeat (first | exact Below.refl _ _ | assumption | apply Below.drew | apply below_drewN | (refine Below.alloc ?_ (by first | omega | (simp; done) | (simp; omega)) _) | (refine Below.setCell ?_ (by first | omega | (simp; done) | (simp; omega)) _))) hb (by first | omega | (simp; done) | (simp; omega)); have hz : w.heap.size ≤ w'.heap.size := hB.size; (try (have hz1 : w.heap.size + 1 ≤ w'.heap.size := (by have h := hb.size; (try simp at h); omega))); obtain ⟨hc, hf⟩ := bcell hb; clear hb) | (go_at_call 60; refine (CA.out _ (h'.below hB)).mono ?_; rintro e w' ⟨rfl, rfl⟩))
    go_ret2
    exact RetSB.nil' hB
  rw [hal] at ca
  have CA := Lib.hid ca
  clear ca
  have ci := fun w' => impl_within slope 0 100 w'
  rcases hs : inr slope 0 100 with _ | _
  · rw [hs] at ci
    have CI := Lib.hid ci
    rw [show ahV rows loads slope = [] by simp only [ahV, ahOk, hs]; simp, show ahOk rows loads slope = false by simp only [ahOk, hs]; simp]
    clear hg hal ci hs
    go_enter Try.func23, Try.ntmps23
    go_wp2_with (first | (go_at_call 41; refine (CG.out _ h).mono ?_; rintro e w' ⟨rfl, hb⟩; have hB : Below w.heap.size w w' := Below.thenn (by repeat (first | exact Below.refl _ _ | assumption | apply Below.drew | apply below_drewN | (refine Below.alloc ?_ (by first | omega | (simp; done) | (simp; omega)) _) | (refine Below.setCell ?_ (by first | omega | (simp; done) | (simp; omega)) _))) hb (by first | omega | (simp; done) | (simp; omega)); have hz : w.heap.size ≤ w'.heap.size := hB.size; (try (have hz1 : w.heap.size + 1 ≤ w'.heap.size := (by have h := hb.size; (try simp at h); omega))); obtain ⟨hc, hf⟩ := bcell hb; clear hb) | (go_at_call 60; refine (CA.out _ (h'.below hB)).mono ?_; rintro e w' ⟨rfl, rfl⟩) | (go_at_call 54; refine (CI.out _).mono ?_; rintro e w' ⟨rfl, rfl⟩))
    go_ret2
    exact RetSB.nil' hB
  rw [hs] at ci
  have CI := Lib.hid ci
  have hok : ahOk rows loads slope = true := by simp only [ahOk, hg, hal, hs, hl.out, hl'.out]; simp
  rw [show ahV rows loads slope = ahL rows loads slope rows.length by simp only [ahV, hok]; simp, hok]
  have hn : n' ≤ 12 := by have := goodN hg; have := hl.out; omega
  have hsb := (show 0 ≤ slope ∧ slope ≤ 100 by simpa [inr] using hs)
  have s0 := hsb.1
  have s1 := hsb.2
  have HA := Lib.hid hal
  clear hg hal ci hs hok hsb
  go_enter Try.func23, Try.ntmps23
  go_wp2_with (first | (go_at_call 41; refine (CG.out _ h).mono ?_; rintro e w' ⟨rfl, hb⟩; have hB : Below w.heap.size w w' := Below.thenn (by repeat (first | exact Below.refl _ _ | assumption | apply Below.drew | apply below_drewN | (refine Below.alloc ?_ (by first | omega | (simp; done) | (simp; omega)) _) | (refine Below.setCell ?_ (by first | omega | (simp; done) | (simp; omega)) _))) hb (by first | omega | (simp; done) | (simp; omega)); have hz : w.heap.size ≤ w'.heap.size := hB.size; (try (have hz1 : w.heap.size + 1 ≤ w'.heap.size := (by have h := hb.size; (try simp at h); omega))); obtain ⟨hc, hf⟩ := bcell hb; clear hb) | (go_at_call 60; refine (CA.out _ (h'.below hB)).mono ?_; rintro e w' ⟨rfl, rfl⟩) | (go_at_call 54; refine (CI.out _).mono ?_; rintro e w' ⟨rfl, rfl⟩))
  go_loopg [34, 8] n' (fun gg i s wr => ∃ (k : Nat) (A1 : Option Addr) (c1 : Nat) (zs : List Int), k ≤ n' ∧ n' ≤ k + gg ∧ i = .int .i64 k ∧ s = .slice A1 zs.length c1 ∧ zs.length ≤ 12 ∧ Below w.heap.size w wr ∧ w.heap.size ≤ wr.heap.size ∧ Hid (Ow wr w.heap.size (.slice A1 zs.length c1) zs ∧ zs = ahL rows loads slope k))
  case atStart => exact ⟨0, _, _, [], by omega, by omega, rfl, rfl, by simp, hB.alloc hz _, by first | omega | (simp at *; omega), ⟨Ow.lit0 _ _ hz, (ahL_zero _ _ _).symm⟩⟩
  case round =>
    clear hc hf hB
    obtain ⟨k, A1, c1, zs, hk1, hk2, rfl, rfl, hzl, hBr, hzr, ha⟩ := hrel
    by_cases hlt : k < n'
    · obtain ⟨b, off, x0, x1, x2, x3, x4, rfl, hr, hblt, c0, c1', c2, c3, c4⟩ := h.row5 hlt
      obtain ⟨b', off', ld, rfl, hr', d0⟩ := h'.at1 hlt
      have hblt' : b' < w.heap.size := World.block_lt_of_cell? w _ d0
      rw [← hBr.cell (p := ⟨b, _, none⟩) hblt] at c0 c1' c2 c3 c4
      rw [← hBr.cell (p := ⟨b', _, none⟩) hblt'] at d0
      have hbr : b < wr.heap.size := by omega
      have hbr' : b' < wr.heap.size := by omega
      have hld := (show 100 ≤ ld ∧ ld ≤ 4000 by have := List.all_eq_true.1 HA.out ld (List.mem_of_getElem? hr'); simpa [inr] using this)
      have CH := Lib.hid (fun w => impl_holds x0 x1 x2 x3 x4 ld slope w (by omega) (by omega) s0 (by omega))
      have HQ : Hid (∀ z, gripHolds x1 x2 ld slope = z → ahL rows loads slope (k + 1) = if z then ahL rows loads slope k else ahL rows loads slope k ++ [x0]) := fun z hz => by
        cases z
        · rw [ahL_yes hr hr' (by simpa [fld] using hz)]; rfl
        · rw [ahL_no hr hr' (by simpa [fld] using hz)]; rfl
      have HH := Lib.hid h
      have HH' := Lib.hid h'
      clear hr hr' hld h h'
      generalize gripHolds x1 x2 ld slope = q at CH HQ
      have HZ := Lib.hid (ahL_len rows loads slope (k + 1))
      rcases q with _ | _
      · have hq := HQ.out false rfl
        rw [if_neg (by simp)] at hq
        have HE := Lib.hid hq
        clear hq HQ
        go_wp2_with fail
        (refine wp_region_ext (by kernel_rfl) (by kernel_rfl) ?_; have hxe := ext_cells; (repeat (go_big_quiet_step ((go_at_call 61; exact ext_ret (CH.out _))))); refine wpQuiet_nil ?_; intro w' hw'; obtain ⟨nx, hw''⟩ := hw'; have hbx := ext_out hw''; clear hw'' nx hxe; have hB : Below w.heap.size w w' := Below.thenn (by repeat (first | exact Below.refl _ _ | assumption | apply Below.drew | apply below_drewN | (refine Below.alloc ?_ (by first | omega | (simp; done) | (simp; omega)) _) | (refine Below.setCell ?_ (by first | omega | (simp; done) | (simp; omega)) _))) hbx (by first | omega | (simp; done) | (simp; omega)); have hz : w.heap.size ≤ w'.heap.size := hB.size; obtain ⟨hc, hf⟩ := bcell hbx; have HO1 := Lib.hid ((ha.out.1.alloc _).below hbx); clear hbx)
        go_wp2_with (at_builtin; refine wp_app_int rfl (.tmp 47) (.tmp 50) rfl _ w.heap.size (.slice A1 zs.length c1) zs x0 rfl HO1.out rfl (by omega) (by first | omega | (simp; done) | (simp; omega)) ?_; intro A2 c2 w1 hown1 hb1)
        go_roundg (n' - (k + 1))
        case measure => omega
        case rel => exact ⟨k + 1, A2, c2, zs ++ [x0], by omega, by omega, by go_num, by simp, by (have h1 := HZ.out; rw [HE.out, ← ha.out.2] at h1; have := hl.out; omega), hB.trans hb1, Nat.le_trans hz hb1.size, ⟨hown1, by rw [HE.out, ← ha.out.2]⟩⟩
      · have hq := HQ.out true rfl
        rw [if_pos rfl] at hq
        have HE := Lib.hid hq
        clear hq HQ
        go_wp2_with fail
        (refine wp_region_ext (by kernel_rfl) (by kernel_rfl) ?_; have hxe := ext_cells; (repeat (go_big_quiet_step ((go_at_call 61; exact ext_ret (CH.out _))))); refine wpQuiet_nil ?_; intro w' hw'; obtain ⟨nx, hw''⟩ := hw'; have hbx := ext_out hw''; clear hw'' nx hxe; have hB : Below w.heap.size w w' := Below.thenn (by repeat (first | exact Below.refl _ _ | assumption | apply Below.drew | apply below_drewN | (refine Below.alloc ?_ (by first | omega | (simp; done) | (simp; omega)) _) | (refine Below.setCell ?_ (by first | omega | (simp; done) | (simp; omega)) _))) hbx (by first | omega | (simp; done) | (simp; omega)); have hz : w.heap.size ≤ w'.heap.size := hB.size; obtain ⟨hc, hf⟩ := bcell hbx; have HO1 := Lib.hid ((ha.out.1.alloc _).below hbx); clear hbx)
        go_wp2_with fail
        go_roundg (n' - (k + 1))
        case measure => omega
        case rel => exact ⟨k + 1, A1, c1, zs, by omega, by omega, by go_num, rfl, hzl, hB, hz, ⟨HO1.out, by rw [HE.out, ← ha.out.2]⟩⟩
    · go_wp2_with fail
      go_ret2
      have e : k = rows.length := by rw [hl.out]; omega
      subst e
      exact ⟨_, _, ret_ssb (by rw [ha.out.2]), by rw [← ha.out.2]; exact ha.out.1, hBr⟩
end Go.Proofs.Ytfnpbmndkbaodaa
