/- Merged: ClrA, ClrB, ClrC. -/
import Derived.Test.YtjfmicemnoglkaaClrPX
import Derived.Test.YtjfmicemnoglkaaSupA
import Derived.Test.YtjfmicemnoglkaaSupB
import Derived.Test.YtjfmicemnoglkaaSupC
import Derived.Test.YtjfmicemnoglkaaExt
import Derived.Deep.RegionWith
import Derived.Test.YtjfmicemnoglkaaChoB
namespace Go.Proofs.Ytjfmicemnoglkaa
open Go.RowKit
set_option linter.unusedVariables false
set_option linter.unusedSimpArgs false

theorem ig_no1 {rows g : List (List Int)} (h : lineOk rows = false) : igOk rows g = false := by simp [igOk, h]
theorem ig_no2 {rows g : List (List Int)} {m : Nat} (hm : g.length = m) (h : ¬ (2 ≤ m ∧ m ≤ 8)) : igOk rows g = false := by
  subst hm
  have : grdR g.length (atN g 0) (atN g (g.length - 1)) (endN rows) = false := by simp [grdR]; omega
  simp [igOk, grdA, this]
theorem ig_no3 {rows g : List (List Int)} (h : ¬ atN g 0 = 0) : igOk rows g = false := by
  have : grdR g.length (atN g 0) (atN g (g.length - 1)) (endN rows) = false := by simp [grdR, h]
  simp [igOk, grdA, this]
theorem ig_no4 {rows g : List (List Int)} {m : Nat} (hm : g.length = m) (h : ¬ atN g (m - 1) = endN rows) : igOk rows g = false := by
  subst hm
  have : grdR g.length (atN g 0) (atN g (g.length - 1)) (endN rows) = false := by simp [grdR, h]
  simp [igOk, grdA, this]
theorem ig_yes {rows g : List (List Int)} {m : Nat} (hl : lineOk rows = true) (hm : g.length = m) (h : 2 ≤ m ∧ m ≤ 8) (h0 : atN g 0 = 0) (h1 : atN g (m - 1) = endN rows) : igOk rows g = grdF (-1) g := by
  subst hm
  have : grdR g.length (atN g 0) (atN g (g.length - 1)) (endN rows) = true := by simp [grdR, h, h0, h1]
  simp [igOk, grdA, this, hl]
theorem at2_of {g : List (List Int)} {k : Nat} {a b : Int} (h : g[k]? = some [a, b]) : atN g k = a ∧ htN g k = b := by simp [atN, htN, List.getD, h, fld]
theorem grdOk_no1 {p a b : Int} (h : inr b 0 2000 = false) : grdOk p [a, b] = false := by
  have : decide (0 ≤ fld [a, b] 1 ∧ fld [a, b] 1 ≤ 2000) = false := h
  unfold grdOk; rw [this, Bool.false_and]
theorem grdOk_no2 {p a b : Int} (h : a ≤ p) : grdOk p [a, b] = false := by
  have : decide (p < fld [a, b] 0) = false := decide_eq_false (show ¬ p < a by omega)
  unfold grdOk; rw [this, Bool.and_false]
theorem grdOk_yes {p a b : Int} (h : inr b 0 2000 = true) (hp : p < a) : grdOk p [a, b] = true := by
  simp only [inr, decide_eq_true_eq] at h
  exact grdOk_iff.2 ⟨h, hp⟩
set_option maxRecDepth 100000 in
set_option maxHeartbeats 8000000 in
theorem impl_IsGround (A A2 : Option Addr) (n c m c2 : Nat) (rows g : List (List Int)) (w : World) (h : RdL w A n rows) (h2 : RdR w 2 A2 m g) (hn : n ≤ 1048577) (hm : m ≤ 1048577) :
    Calls Try.prog 43 #[.slice A n c, .slice A2 m c2] w (Ret w (.bool (igOk rows g))) := by
  (have HL := Lib.hid h; have HG := Lib.hid h2; have hl := Lib.hid h.2.1; have hgl := Lib.hid h2.2.2)
  have CL := Lib.hid (fun (w' : World) (h' : RdL w' A n rows) => impl_IsLine A n c rows w' h' hn)
  rcases hok : lineOk rows with _ | _
  · have HR := Lib.hid (ig_no1 (g := g) hok)
    rw [hok] at CL
    have hB : Below w.heap.size w w := Below.refl _ _
    have RL := fun (nn : Ext w) => HL.out.below nn.below
    go_enter Try.func43, Try.ntmps43
    go_wp2_with fail
    (refine wp_region_ext (by kernel_rfl) (by kernel_rfl) ?_; have hxe := ext_cells; (repeat (go_big_quiet_step ((go_at_call 107; exact ext_ret (CL.out _ (RL _)))))); refine wpQuiet_nil ?_; intro w' hw'; obtain ⟨nx, hw''⟩ := hw'; have hbx := ext_out hw''; clear hw'' nx hxe; have hB : Below w.heap.size w w' := Below.thenn (by repeat (first | exact Below.refl _ _ | assumption | apply Below.drew | apply below_drewN | (refine Below.alloc ?_ (by first | omega | (simp; done) | (simp; omega)) _) | (refine Below.setCell ?_ (by first | omega | (simp; done) | (simp; omega)) _))) hbx (by first | omega | (simp; done) | (simp; omega)); have hz : w.heap.size ≤ w'.heap.size := hB.size; obtain ⟨hc, hf⟩ := bcell hbx; clear hbx)
    go_wp2_with fail
    go_ret
    exact ⟨ret_bool HR.out.symm, hB⟩
  have L := lineOk_line hok
  have hlo := L.lo
  have hhi := L.hi
  rw [hl.out] at hlo hhi
  have HOK := Lib.hid hok
  rw [hok] at CL
  have CL2 := Lib.hid (fun (nn : Ext w) => CL.out (wext w nn) (HL.out.below nn.below))
  obtain ⟨b, off, x0, x1, x2, hA, hr1, hb1, e0, _, _⟩ := h.row (k := n - 1) (by omega)
  have HE : Hid (x0 = endN rows) := Lib.hid (by unfold endN; rw [hl.out]; exact (atN_of hr1).1.symm)
  subst hA
  clear L hr1 h hok CL
  by_cases hmm : 2 ≤ m ∧ m ≤ 8
  · obtain ⟨gb, goff, p0, p1, hA2, hg0, hgb, d0, _⟩ := h2.row2 (k := 0) (by omega)
    obtain ⟨gb', goff', q0, q1, hA3, hg1, _, f0, _⟩ := h2.row2 (k := m - 1) (by omega)
    have a0 := Lib.hid (at2_of hg0).1
    have a1 := Lib.hid (at2_of hg1).1
    rw [hA2] at hA3
    injection hA3 with hA3
    injection hA3 with e1 e2
    subst e1 e2 hA2
    simp only [Nat.zero_mul, Nat.add_zero] at d0
    have hn1 : ((n : Int) - 1).toNat = n - 1 := by omega
    have hn2 : 0 ≤ (n : Int) - 1 := by omega
    have hn3 : (n : Int) - 1 < (n : Int) := by omega
    have hn4 : IntKind.i64.wrap ((n : Int) - 1) = (n : Int) - 1 := IntWalk.i64_in _ (by omega)
    have hm1 : ((m : Int) - 1).toNat = m - 1 := by omega
    have hm2 : 0 ≤ (m : Int) - 1 := by omega
    have hm3 : (m : Int) - 1 < (m : Int) := by omega
    have hm4 : IntKind.i64.wrap ((m : Int) - 1) = (m : Int) - 1 := IntWalk.i64_in _ (by omega)
    have hm5 : (0 : Int) < (m : Int) := by omega
    have hm6 : decide ((m : Int) < 2) = false := decide_eq_false (by omega)
    have hm7 : decide ((8 : Int) < (m : Int)) = false := decide_eq_false (by omega)
    have HMM := Lib.hid hmm
    have hB : Below w.heap.size w w := Below.refl _ _
    clear hg0 hg1 h2
    by_cases hp : p0 = 0
    · subst hp
      by_cases hq : q0 = x0
      · have HR := Lib.hid (ig_yes HOK.out hgl.out HMM.out a0.out (a1.out.trans (hq.trans HE.out)))
        subst hq
        clear hmm
        go_enter Try.func43, Try.ntmps43
        go_wp2_with fail
        (refine wp_region_ext (by kernel_rfl) (by kernel_rfl) ?_; have hxe := ext_cells; (repeat (go_big_quiet_step ((go_at_call 107; exact ext_ret (CL2.out _))))); refine wpQuiet_nil ?_; intro w' hw'; obtain ⟨nx, hw''⟩ := hw'; have hbx := ext_out hw''; clear hw'' nx hxe; have hB : Below w.heap.size w w' := Below.thenn (by repeat (first | exact Below.refl _ _ | assumption | apply Below.drew | apply below_drewN | (refine Below.alloc ?_ (by first | omega | (simp; done) | (simp; omega)) _) | (refine Below.setCell ?_ (by first | omega | (simp; done) | (simp; omega)) _))) hbx (by first | omega | (simp; done) | (simp; omega)); have hz : w.heap.size ≤ w'.heap.size := hB.size; obtain ⟨hc, hf⟩ := bcell hbx; clear hbx)
        have HB := Lib.hid hB
        have HZ := Lib.hid hz
        clear hc hf hB hz d0 e0 f0 hb1 hgb
        go_wp2_with fail
        go_loopg [46] m (fun gg i wr => ∃ k : Nat, k ≤ m ∧ m ≤ k + gg ∧ i = .int .i64 k ∧ Below w.heap.size w wr ∧ w.heap.size ≤ wr.heap.size ∧ Hid (grdF (prevL g k) (g.drop k) = grdF (-1) g))
        case atStart => exact ⟨0, by omega, by omega, rfl, HB.out, HZ.out, (show grdF _ _ = grdF (-1) g by simp [prevL])⟩
        case round =>
          obtain ⟨k, hk1, hk2, rfl, hBr, hzr, ha⟩ := hrel
          by_cases hlt : k < m
          · obtain ⟨gb', goff', y0, y1, e', hr, hgblt, d0, d1⟩ := HG.out.row2 hlt
            injection e' with e'
            injection e' with e1 e2
            subst e1 e2
            rw [← hBr.cell (p := ⟨gb, _, none⟩) hgblt] at d0 d1
            have hbr : gb < wr.heap.size := by omega
            have HRW := Lib.hid hr
            have HAT := Lib.hid (at2_of hr).1
            clear hr
            rcases ho : inr y1 0 2000 with _ | _
            · have HO := Lib.hid (grdOk_no1 (p := prevL g k) (a := y0) ho)
              go_wp2_with fail
              (refine wp_region_ext (by kernel_rfl) (by kernel_rfl) ?_; have hxe := ext_cells; (repeat (go_big_quiet_step ((go_at_call 98; exact ext_pure (impl_within _ _ _ _))))); refine wpQuiet_nil ?_; intro w' hw'; obtain ⟨nx, hw''⟩ := hw'; have hbx := ext_out hw''; clear hw'' nx hxe; have hB : Below w.heap.size w w' := Below.thenn (by repeat (first | exact Below.refl _ _ | assumption | apply Below.drew | apply below_drewN | (refine Below.alloc ?_ (by first | omega | (simp; done) | (simp; omega)) _) | (refine Below.setCell ?_ (by first | omega | (simp; done) | (simp; omega)) _))) hbx (by first | omega | (simp; done) | (simp; omega)); have hz : w.heap.size ≤ w'.heap.size := hB.size; obtain ⟨hc, hf⟩ := bcell hbx; clear hbx)
              all_goals go_wp2_with fail
              all_goals go_ret
              all_goals exact ⟨ret_bool (HR.out.trans (ha.out.symm.trans (grdF_bad HRW.out HO.out))).symm, (by repeat (first | exact Below.refl _ _ | assumption | apply Below.drew | apply below_drewN | (refine Below.alloc ?_ (by first | omega | (simp; done) | (simp; omega)) _) | (refine Below.setCell ?_ (by first | omega | (simp; done) | (simp; omega)) _)))⟩
            rcases Nat.eq_zero_or_pos k with h0 | h0
            · have hp : prevL g k < y0 := by
                have h1 := HAT.out
                rw [h0] at h1
                have h2 := a0.out
                rw [h0, prevL_zero]
                omega
              have HO := Lib.hid (grdOk_yes ho hp)
              have hk0 : decide (0 < k) = false := by simp [h0]
              clear h0 hp
              go_wp2_with fail
              (refine wp_region_ext (by kernel_rfl) (by kernel_rfl) ?_; have hxe := ext_cells; (repeat (go_big_quiet_step ((go_at_call 98; exact ext_pure (impl_within _ _ _ _))))); refine wpQuiet_nil ?_; intro w' hw'; obtain ⟨nx, hw''⟩ := hw'; have hbx := ext_out hw''; clear hw'' nx hxe; have hB : Below w.heap.size w w' := Below.thenn (by repeat (first | exact Below.refl _ _ | assumption | apply Below.drew | apply below_drewN | (refine Below.alloc ?_ (by first | omega | (simp; done) | (simp; omega)) _) | (refine Below.setCell ?_ (by first | omega | (simp; done) | (simp; omega)) _))) hbx (by first | omega | (simp; done) | (simp; omega)); have hz : w.heap.size ≤ w'.heap.size := hB.size; obtain ⟨hc, hf⟩ := bcell hbx; clear hbx)
              all_goals go_wp2_with fail
              all_goals go_roundg (m - (k + 1))
              case measure => omega
              case rel => exact ⟨k + 1, by omega, by omega, by go_num, (by repeat (first | exact Below.refl _ _ | assumption | apply Below.drew | apply below_drewN | (refine Below.alloc ?_ (by first | omega | (simp; done) | (simp; omega)) _) | (refine Below.setCell ?_ (by first | omega | (simp; done) | (simp; omega)) _))), by first | omega | (simp at *; omega), (grdF_step HRW.out HO.out).symm.trans ha.out⟩
            · obtain ⟨gb', goff', z0, z1, e', hr', _, f0, _⟩ := HG.out.row2 (k := k - 1) (by omega)
              injection e' with e'
              injection e' with e1 e2
              subst e1 e2
              rw [← hBr.cell (p := ⟨gb, _, none⟩) hgblt] at f0
              have hpe : prevL g k = z0 := by have := prevL_next hr'; rw [show k - 1 + 1 = k by omega] at this; exact this
              have HP := Lib.hid hpe
              have hk0 : decide (0 < k) = true := by simpa using h0
              have hk3 : 0 ≤ (k : Int) - 1 := by omega
              have hk4 : (k : Int) - 1 < (m : Int) := by omega
              have hk5 : ((k : Int) - 1).toNat = k - 1 := by omega
              clear hpe hr'
              by_cases hlo : y0 ≤ z0
              · have HO := Lib.hid (grdOk_no2 (p := prevL g k) (a := y0) (b := y1) (by rw [HP.out]; exact hlo))
                have hlo' : decide (y0 ≤ z0) = true := by simpa using hlo
                go_wp2_with fail
                (refine wp_region_ext (by kernel_rfl) (by kernel_rfl) ?_; have hxe := ext_cells; (repeat (go_big_quiet_step ((go_at_call 98; exact ext_pure (impl_within _ _ _ _))))); refine wpQuiet_nil ?_; intro w' hw'; obtain ⟨nx, hw''⟩ := hw'; have hbx := ext_out hw''; clear hw'' nx hxe; have hB : Below w.heap.size w w' := Below.thenn (by repeat (first | exact Below.refl _ _ | assumption | apply Below.drew | apply below_drewN | (refine Below.alloc ?_ (by first | omega | (simp; done) | (simp; omega)) _) | (refine Below.setCell ?_ (by first | omega | (simp; done) | (simp; omega)) _))) hbx (by first | omega | (simp; done) | (simp; omega)); have hz : w.heap.size ≤ w'.heap.size := hB.size; obtain ⟨hc, hf⟩ := bcell hbx; clear hbx)
                all_goals go_wp2_with fail
                all_goals go_ret
                all_goals exact ⟨ret_bool (HR.out.trans (ha.out.symm.trans (grdF_bad HRW.out HO.out))).symm, (by repeat (first | exact Below.refl _ _ | assumption | apply Below.drew | apply below_drewN | (refine Below.alloc ?_ (by first | omega | (simp; done) | (simp; omega)) _) | (refine Below.setCell ?_ (by first | omega | (simp; done) | (simp; omega)) _)))⟩
              · have HO := Lib.hid (grdOk_yes (p := prevL g k) (a := y0) ho (by rw [HP.out]; omega))
                have hlo' : decide (y0 ≤ z0) = false := by simpa using hlo
                go_wp2_with fail
                (refine wp_region_ext (by kernel_rfl) (by kernel_rfl) ?_; have hxe := ext_cells; (repeat (go_big_quiet_step ((go_at_call 98; exact ext_pure (impl_within _ _ _ _))))); refine wpQuiet_nil ?_; intro w' hw'; obtain ⟨nx, hw''⟩ := hw'; have hbx := ext_out hw''; clear hw'' nx hxe; have hB : Below w.heap.size w w' := Below.thenn (by repeat (first | exact Below.refl _ _ | assumption | apply Below.drew | apply below_drewN | (refine Below.alloc ?_ (by first | omega | (simp; done) | (simp; omega)) _) | (refine Below.setCell ?_ (by first | omega | (simp; done) | (simp; omega)) _))) hbx (by first | omega | (simp; done) | (simp; omega)); have hz : w.heap.size ≤ w'.heap.size := hB.size; obtain ⟨hc, hf⟩ := bcell hbx; clear hbx)
                all_goals go_wp2_with fail
                all_goals go_roundg (m - (k + 1))
                case measure => omega
                case rel => exact ⟨k + 1, by omega, by omega, by go_num, (by repeat (first | exact Below.refl _ _ | assumption | apply Below.drew | apply below_drewN | (refine Below.alloc ?_ (by first | omega | (simp; done) | (simp; omega)) _) | (refine Below.setCell ?_ (by first | omega | (simp; done) | (simp; omega)) _))), by first | omega | (simp at *; omega), (grdF_step HRW.out HO.out).symm.trans ha.out⟩
          · go_wp2_with fail
            go_ret
            exact ⟨ret_bool (HR.out.trans (ha.out.symm.trans (grdF_end hgl.out (by omega)))).symm, hBr⟩
      · have HR := Lib.hid (ig_no4 (rows := rows) hgl.out (fun e => hq (a1.out.symm.trans (e.trans HE.out.symm))))
        have hq2 : (q0 != x0) = true := by simpa using hq
        clear hmm hq
        go_enter Try.func43, Try.ntmps43
        go_wp2_with fail
        (refine wp_region_ext (by kernel_rfl) (by kernel_rfl) ?_; have hxe := ext_cells; (repeat (go_big_quiet_step ((go_at_call 107; exact ext_ret (CL2.out _))))); refine wpQuiet_nil ?_; intro w' hw'; obtain ⟨nx, hw''⟩ := hw'; have hbx := ext_out hw''; clear hw'' nx hxe; have hB : Below w.heap.size w w' := Below.thenn (by repeat (first | exact Below.refl _ _ | assumption | apply Below.drew | apply below_drewN | (refine Below.alloc ?_ (by first | omega | (simp; done) | (simp; omega)) _) | (refine Below.setCell ?_ (by first | omega | (simp; done) | (simp; omega)) _))) hbx (by first | omega | (simp; done) | (simp; omega)); have hz : w.heap.size ≤ w'.heap.size := hB.size; obtain ⟨hc, hf⟩ := bcell hbx; clear hbx)
        go_wp2_with fail
        go_ret
        exact ⟨ret_bool HR.out.symm, hB⟩
    · have HR := Lib.hid (ig_no3 (rows := rows) (fun e => hp (a0.out.symm.trans e)))
      have hp2 : (p0 != 0) = true := by simpa using hp
      clear hmm hp
      go_enter Try.func43, Try.ntmps43
      go_wp2_with fail
      (refine wp_region_ext (by kernel_rfl) (by kernel_rfl) ?_; have hxe := ext_cells; (repeat (go_big_quiet_step ((go_at_call 107; exact ext_ret (CL2.out _))))); refine wpQuiet_nil ?_; intro w' hw'; obtain ⟨nx, hw''⟩ := hw'; have hbx := ext_out hw''; clear hw'' nx hxe; have hB : Below w.heap.size w w' := Below.thenn (by repeat (first | exact Below.refl _ _ | assumption | apply Below.drew | apply below_drewN | (refine Below.alloc ?_ (by first | omega | (simp; done) | (simp; omega)) _) | (refine Below.setCell ?_ (by first | omega | (simp; done) | (simp; omega)) _))) hbx (by first | omega | (simp; done) | (simp; omega)); have hz : w.heap.size ≤ w'.heap.size := hB.size; obtain ⟨hc, hf⟩ := bcell hbx; clear hbx)
      go_wp2_with fail
      go_ret
      exact ⟨ret_bool HR.out.symm, hB⟩
  · have HR := Lib.hid (ig_no2 (rows := rows) hgl.out hmm)
    have hB : Below w.heap.size w w := Below.refl _ _
    rcases Nat.lt_or_ge m 2 with h3 | h3
    · have hm6 : decide ((m : Int) < 2) = true := decide_eq_true (by omega)
      clear hmm
      go_enter Try.func43, Try.ntmps43
      go_wp2_with fail
      (refine wp_region_ext (by kernel_rfl) (by kernel_rfl) ?_; have hxe := ext_cells; (repeat (go_big_quiet_step ((go_at_call 107; exact ext_ret (CL2.out _))))); refine wpQuiet_nil ?_; intro w' hw'; obtain ⟨nx, hw''⟩ := hw'; have hbx := ext_out hw''; clear hw'' nx hxe; have hB : Below w.heap.size w w' := Below.thenn (by repeat (first | exact Below.refl _ _ | assumption | apply Below.drew | apply below_drewN | (refine Below.alloc ?_ (by first | omega | (simp; done) | (simp; omega)) _) | (refine Below.setCell ?_ (by first | omega | (simp; done) | (simp; omega)) _))) hbx (by first | omega | (simp; done) | (simp; omega)); have hz : w.heap.size ≤ w'.heap.size := hB.size; obtain ⟨hc, hf⟩ := bcell hbx; clear hbx)
      go_wp2_with fail
      go_ret
      exact ⟨ret_bool HR.out.symm, hB⟩
    · have hm6 : decide ((m : Int) < 2) = false := decide_eq_false (by omega)
      have hm7 : decide ((8 : Int) < (m : Int)) = true := decide_eq_true (by omega)
      clear hmm
      go_enter Try.func43, Try.ntmps43
      go_wp2_with fail
      (refine wp_region_ext (by kernel_rfl) (by kernel_rfl) ?_; have hxe := ext_cells; (repeat (go_big_quiet_step ((go_at_call 107; exact ext_ret (CL2.out _))))); refine wpQuiet_nil ?_; intro w' hw'; obtain ⟨nx, hw''⟩ := hw'; have hbx := ext_out hw''; clear hw'' nx hxe; have hB : Below w.heap.size w w' := Below.thenn (by repeat (first | exact Below.refl _ _ | assumption | apply Below.drew | apply below_drewN | (refine Below.alloc ?_ (by first | omega | (simp; done) | (simp; omega)) _) | (refine Below.setCell ?_ (by first | omega | (simp; done) | (simp; omega)) _))) hbx (by first | omega | (simp; done) | (simp; omega)); have hz : w.heap.size ≤ w'.heap.size := hB.size; obtain ⟨hc, hf⟩ := bcell hbx; clear hbx)
      go_wp2_with fail
      go_ret
      exact ⟨ret_bool HR.out.symm, hB⟩
end Go.Proofs.Ytjfmicemnoglkaa
namespace Go.Proofs.Ytjfmicemnoglkaa
open Go.RowKit
set_option linter.unusedVariables false
set_option linter.unusedSimpArgs false

set_option maxRecDepth 100000 in
set_option maxHeartbeats 8000000 in
theorem spec_l4Ground (A A2 : Option Addr) (n c m c2 : Nat) (rows g : List (List Int)) (w : World) (h : RdL w A n rows) (h2 : RdR w 2 A2 m g) (hn : n ≤ 1048577) (hm : m ≤ 1048577) :
    Calls Try.prog 122 #[.slice A n c, .slice A2 m c2] w (Ret w (.bool (igOk rows g))) := by
  (have HL := Lib.hid h; have HG := Lib.hid h2; have hl := Lib.hid h.2.1; have hgl := Lib.hid h2.2.2)
  have CL := Lib.hid (fun (w' : World) (h' : RdL w' A n rows) => spec_l2Line A n c rows w' h' hn)
  rcases hok : lineOk rows with _ | _
  · have HR := Lib.hid (ig_no1 (g := g) hok)
    rw [hok] at CL
    have hB : Below w.heap.size w w := Below.refl _ _
    have RL := fun (nn : Ext w) => HL.out.below nn.below
    go_enter Try.func122, Try.ntmps122
    go_wp2_with fail
    (refine wp_region_ext (by kernel_rfl) (by kernel_rfl) ?_; have hxe := ext_cells; (repeat (go_big_quiet_step ((go_at_call 111; exact ext_ret (CL.out _ (RL _)))))); refine wpQuiet_nil ?_; intro w' hw'; obtain ⟨nx, hw''⟩ := hw'; have hbx := ext_out hw''; clear hw'' nx hxe; have hB : Below w.heap.size w w' := Below.thenn (by repeat (first | exact Below.refl _ _ | assumption | apply Below.drew | apply below_drewN | (refine Below.alloc ?_ (by first | omega | (simp; done) | (simp; omega)) _) | (refine Below.setCell ?_ (by first | omega | (simp; done) | (simp; omega)) _))) hbx (by first | omega | (simp; done) | (simp; omega)); have hz : w.heap.size ≤ w'.heap.size := hB.size; obtain ⟨hc, hf⟩ := bcell hbx; clear hbx)
    go_wp2_with fail
    go_ret
    exact ⟨ret_bool HR.out.symm, hB⟩
  have L := lineOk_line hok
  have hlo := L.lo
  have hhi := L.hi
  rw [hl.out] at hlo hhi
  have HOK := Lib.hid hok
  rw [hok] at CL
  have CL2 := Lib.hid (fun (nn : Ext w) => CL.out (wext w nn) (HL.out.below nn.below))
  obtain ⟨b, off, x0, x1, x2, hA, hr1, hb1, e0, _, _⟩ := h.row (k := n - 1) (by omega)
  have HE : Hid (x0 = endN rows) := Lib.hid (by unfold endN; rw [hl.out]; exact (atN_of hr1).1.symm)
  subst hA
  clear L hr1 h hok CL
  by_cases hmm : 2 ≤ m ∧ m ≤ 8
  · obtain ⟨gb, goff, p0, p1, hA2, hg0, hgb, d0, _⟩ := h2.row2 (k := 0) (by omega)
    obtain ⟨gb', goff', q0, q1, hA3, hg1, _, f0, _⟩ := h2.row2 (k := m - 1) (by omega)
    have a0 := Lib.hid (at2_of hg0).1
    have a1 := Lib.hid (at2_of hg1).1
    rw [hA2] at hA3
    injection hA3 with hA3
    injection hA3 with e1 e2
    subst e1 e2 hA2
    simp only [Nat.zero_mul, Nat.add_zero] at d0
    have hn1 : ((n : Int) - 1).toNat = n - 1 := by omega
    have hn2 : 0 ≤ (n : Int) - 1 := by omega
    have hn3 : (n : Int) - 1 < (n : Int) := by omega
    have hn4 : IntKind.i64.wrap ((n : Int) - 1) = (n : Int) - 1 := IntWalk.i64_in _ (by omega)
    have hm1 : ((m : Int) - 1).toNat = m - 1 := by omega
    have hm2 : 0 ≤ (m : Int) - 1 := by omega
    have hm3 : (m : Int) - 1 < (m : Int) := by omega
    have hm4 : IntKind.i64.wrap ((m : Int) - 1) = (m : Int) - 1 := IntWalk.i64_in _ (by omega)
    have hm5 : (0 : Int) < (m : Int) := by omega
    have hi8 : inr (m : Int) 2 8 = true := by simp [inr]; omega
    have CI := Lib.hid (fun w' => hi8 ▸ spec_l1In (m : Int) 2 8 w')
    have HMM := Lib.hid hmm
    have hB : Below w.heap.size w w := Below.refl _ _
    clear hg0 hg1 h2
    by_cases hp : p0 = 0
    · subst hp
      by_cases hq : q0 = x0
      · have HR := Lib.hid (ig_yes HOK.out hgl.out HMM.out a0.out (a1.out.trans (hq.trans HE.out)))
        subst hq
        clear hmm
        go_enter Try.func122, Try.ntmps122
        go_wp2_with fail
        (refine wp_region_ext (by kernel_rfl) (by kernel_rfl) ?_; have hxe := ext_cells; (repeat (go_big_quiet_step (first | (go_at_call 111; exact ext_ret (CL2.out _)) | (go_at_call 102; exact ext_pure (CI.out _))))); refine wpQuiet_nil ?_; intro w' hw'; obtain ⟨nx, hw''⟩ := hw'; have hbx := ext_out hw''; clear hw'' nx hxe; have hB : Below w.heap.size w w' := Below.thenn (by repeat (first | exact Below.refl _ _ | assumption | apply Below.drew | apply below_drewN | (refine Below.alloc ?_ (by first | omega | (simp; done) | (simp; omega)) _) | (refine Below.setCell ?_ (by first | omega | (simp; done) | (simp; omega)) _))) hbx (by first | omega | (simp; done) | (simp; omega)); have hz : w.heap.size ≤ w'.heap.size := hB.size; obtain ⟨hc, hf⟩ := bcell hbx; clear hbx)
        have HB := Lib.hid hB
        have HZ := Lib.hid hz
        clear hc hf hB hz d0 e0 f0 hb1 hgb
        go_wp2_with fail
        go_loopg [6] m (fun gg i wr => ∃ k : Nat, k ≤ m ∧ m ≤ k + gg ∧ i = .int .i64 k ∧ Below w.heap.size w wr ∧ w.heap.size ≤ wr.heap.size ∧ Hid (grdF (prevL g k) (g.drop k) = grdF (-1) g))
        case atStart => exact ⟨0, by omega, by omega, rfl, HB.out, HZ.out, (show grdF _ _ = grdF (-1) g by simp [prevL])⟩
        case round =>
          obtain ⟨k, hk1, hk2, rfl, hBr, hzr, ha⟩ := hrel
          by_cases hlt : k < m
          · obtain ⟨gb', goff', y0, y1, e', hr, hgblt, d0, d1⟩ := HG.out.row2 hlt
            injection e' with e'
            injection e' with e1 e2
            subst e1 e2
            rw [← hBr.cell (p := ⟨gb, _, none⟩) hgblt] at d0 d1
            have hbr : gb < wr.heap.size := by omega
            have HRW := Lib.hid hr
            have HAT := Lib.hid (at2_of hr).1
            clear hr
            rcases ho : inr y1 0 2000 with _ | _
            · have HO := Lib.hid (grdOk_no1 (p := prevL g k) (a := y0) ho)
              go_wp2_with fail
              (refine wp_region_ext (by kernel_rfl) (by kernel_rfl) ?_; have hxe := ext_cells; (repeat (go_big_quiet_step ((go_at_call 102; exact ext_pure (spec_l1In _ _ _ _))))); refine wpQuiet_nil ?_; intro w' hw'; obtain ⟨nx, hw''⟩ := hw'; have hbx := ext_out hw''; clear hw'' nx hxe; have hB : Below w.heap.size w w' := Below.thenn (by repeat (first | exact Below.refl _ _ | assumption | apply Below.drew | apply below_drewN | (refine Below.alloc ?_ (by first | omega | (simp; done) | (simp; omega)) _) | (refine Below.setCell ?_ (by first | omega | (simp; done) | (simp; omega)) _))) hbx (by first | omega | (simp; done) | (simp; omega)); have hz : w.heap.size ≤ w'.heap.size := hB.size; obtain ⟨hc, hf⟩ := bcell hbx; clear hbx)
              all_goals go_wp2_with fail
              all_goals go_ret
              all_goals exact ⟨ret_bool (HR.out.trans (ha.out.symm.trans (grdF_bad HRW.out HO.out))).symm, (by repeat (first | exact Below.refl _ _ | assumption | apply Below.drew | apply below_drewN | (refine Below.alloc ?_ (by first | omega | (simp; done) | (simp; omega)) _) | (refine Below.setCell ?_ (by first | omega | (simp; done) | (simp; omega)) _)))⟩
            rcases Nat.eq_zero_or_pos k with h0 | h0
            · have hp : prevL g k < y0 := by
                have h1 := HAT.out
                rw [h0] at h1
                have h2 := a0.out
                rw [h0, prevL_zero]
                omega
              have HO := Lib.hid (grdOk_yes ho hp)
              have hk0 : decide (0 < k) = false := by simp [h0]
              clear h0 hp
              go_wp2_with fail
              (refine wp_region_ext (by kernel_rfl) (by kernel_rfl) ?_; have hxe := ext_cells; (repeat (go_big_quiet_step ((go_at_call 102; exact ext_pure (spec_l1In _ _ _ _))))); refine wpQuiet_nil ?_; intro w' hw'; obtain ⟨nx, hw''⟩ := hw'; have hbx := ext_out hw''; clear hw'' nx hxe; have hB : Below w.heap.size w w' := Below.thenn (by repeat (first | exact Below.refl _ _ | assumption | apply Below.drew | apply below_drewN | (refine Below.alloc ?_ (by first | omega | (simp; done) | (simp; omega)) _) | (refine Below.setCell ?_ (by first | omega | (simp; done) | (simp; omega)) _))) hbx (by first | omega | (simp; done) | (simp; omega)); have hz : w.heap.size ≤ w'.heap.size := hB.size; obtain ⟨hc, hf⟩ := bcell hbx; clear hbx)
              all_goals go_wp2_with fail
              all_goals go_roundg (m - (k + 1))
              case measure => omega
              case rel => exact ⟨k + 1, by omega, by omega, by go_num, (by repeat (first | exact Below.refl _ _ | assumption | apply Below.drew | apply below_drewN | (refine Below.alloc ?_ (by first | omega | (simp; done) | (simp; omega)) _) | (refine Below.setCell ?_ (by first | omega | (simp; done) | (simp; omega)) _))), by first | omega | (simp at *; omega), (grdF_step HRW.out HO.out).symm.trans ha.out⟩
            · obtain ⟨gb', goff', z0, z1, e', hr', _, f0, _⟩ := HG.out.row2 (k := k - 1) (by omega)
              injection e' with e'
              injection e' with e1 e2
              subst e1 e2
              rw [← hBr.cell (p := ⟨gb, _, none⟩) hgblt] at f0
              have hpe : prevL g k = z0 := by have := prevL_next hr'; rw [show k - 1 + 1 = k by omega] at this; exact this
              have HP := Lib.hid hpe
              have hk0 : decide (0 < k) = true := by simpa using h0
              have hk3 : 0 ≤ (k : Int) - 1 := by omega
              have hk4 : (k : Int) - 1 < (m : Int) := by omega
              have hk5 : ((k : Int) - 1).toNat = k - 1 := by omega
              clear hpe hr'
              by_cases hlo : y0 ≤ z0
              · have HO := Lib.hid (grdOk_no2 (p := prevL g k) (a := y0) (b := y1) (by rw [HP.out]; exact hlo))
                have hlo' : decide (y0 ≤ z0) = true := by simpa using hlo
                go_wp2_with fail
                (refine wp_region_ext (by kernel_rfl) (by kernel_rfl) ?_; have hxe := ext_cells; (repeat (go_big_quiet_step ((go_at_call 102; exact ext_pure (spec_l1In _ _ _ _))))); refine wpQuiet_nil ?_; intro w' hw'; obtain ⟨nx, hw''⟩ := hw'; have hbx := ext_out hw''; clear hw'' nx hxe; have hB : Below w.heap.size w w' := Below.thenn (by repeat (first | exact Below.refl _ _ | assumption | apply Below.drew | apply below_drewN | (refine Below.alloc ?_ (by first | omega | (simp; done) | (simp; omega)) _) | (refine Below.setCell ?_ (by first | omega | (simp; done) | (simp; omega)) _))) hbx (by first | omega | (simp; done) | (simp; omega)); have hz : w.heap.size ≤ w'.heap.size := hB.size; obtain ⟨hc, hf⟩ := bcell hbx; clear hbx)
                all_goals go_wp2_with fail
                all_goals go_ret
                all_goals exact ⟨ret_bool (HR.out.trans (ha.out.symm.trans (grdF_bad HRW.out HO.out))).symm, (by repeat (first | exact Below.refl _ _ | assumption | apply Below.drew | apply below_drewN | (refine Below.alloc ?_ (by first | omega | (simp; done) | (simp; omega)) _) | (refine Below.setCell ?_ (by first | omega | (simp; done) | (simp; omega)) _)))⟩
              · have HO := Lib.hid (grdOk_yes (p := prevL g k) (a := y0) ho (by rw [HP.out]; omega))
                have hlo' : decide (y0 ≤ z0) = false := by simpa using hlo
                go_wp2_with fail
                (refine wp_region_ext (by kernel_rfl) (by kernel_rfl) ?_; have hxe := ext_cells; (repeat (go_big_quiet_step ((go_at_call 102; exact ext_pure (spec_l1In _ _ _ _))))); refine wpQuiet_nil ?_; intro w' hw'; obtain ⟨nx, hw''⟩ := hw'; have hbx := ext_out hw''; clear hw'' nx hxe; have hB : Below w.heap.size w w' := Below.thenn (by repeat (first | exact Below.refl _ _ | assumption | apply Below.drew | apply below_drewN | (refine Below.alloc ?_ (by first | omega | (simp; done) | (simp; omega)) _) | (refine Below.setCell ?_ (by first | omega | (simp; done) | (simp; omega)) _))) hbx (by first | omega | (simp; done) | (simp; omega)); have hz : w.heap.size ≤ w'.heap.size := hB.size; obtain ⟨hc, hf⟩ := bcell hbx; clear hbx)
                all_goals go_wp2_with fail
                all_goals go_roundg (m - (k + 1))
                case measure => omega
                case rel => exact ⟨k + 1, by omega, by omega, by go_num, (by repeat (first | exact Below.refl _ _ | assumption | apply Below.drew | apply below_drewN | (refine Below.alloc ?_ (by first | omega | (simp; done) | (simp; omega)) _) | (refine Below.setCell ?_ (by first | omega | (simp; done) | (simp; omega)) _))), by first | omega | (simp at *; omega), (grdF_step HRW.out HO.out).symm.trans ha.out⟩
          · go_wp2_with fail
            go_ret
            exact ⟨ret_bool (HR.out.trans (ha.out.symm.trans (grdF_end hgl.out (by omega)))).symm, hBr⟩
      · have HR := Lib.hid (ig_no4 (rows := rows) hgl.out (fun e => hq (a1.out.symm.trans (e.trans HE.out.symm))))
        have hq2 : (q0 != x0) = true := by simpa using hq
        clear hmm hq
        go_enter Try.func122, Try.ntmps122
        go_wp2_with fail
        (refine wp_region_ext (by kernel_rfl) (by kernel_rfl) ?_; have hxe := ext_cells; (repeat (go_big_quiet_step (first | (go_at_call 111; exact ext_ret (CL2.out _)) | (go_at_call 102; exact ext_pure (CI.out _))))); refine wpQuiet_nil ?_; intro w' hw'; obtain ⟨nx, hw''⟩ := hw'; have hbx := ext_out hw''; clear hw'' nx hxe; have hB : Below w.heap.size w w' := Below.thenn (by repeat (first | exact Below.refl _ _ | assumption | apply Below.drew | apply below_drewN | (refine Below.alloc ?_ (by first | omega | (simp; done) | (simp; omega)) _) | (refine Below.setCell ?_ (by first | omega | (simp; done) | (simp; omega)) _))) hbx (by first | omega | (simp; done) | (simp; omega)); have hz : w.heap.size ≤ w'.heap.size := hB.size; obtain ⟨hc, hf⟩ := bcell hbx; clear hbx)
        go_wp2_with fail
        go_ret
        exact ⟨ret_bool HR.out.symm, hB⟩
    · have HR := Lib.hid (ig_no3 (rows := rows) (fun e => hp (a0.out.symm.trans e)))
      have hp2 : (p0 != 0) = true := by simpa using hp
      clear hmm hp
      go_enter Try.func122, Try.ntmps122
      go_wp2_with fail
      (refine wp_region_ext (by kernel_rfl) (by kernel_rfl) ?_; have hxe := ext_cells; (repeat (go_big_quiet_step (first | (go_at_call 111; exact ext_ret (CL2.out _)) | (go_at_call 102; exact ext_pure (CI.out _))))); refine wpQuiet_nil ?_; intro w' hw'; obtain ⟨nx, hw''⟩ := hw'; have hbx := ext_out hw''; clear hw'' nx hxe; have hB : Below w.heap.size w w' := Below.thenn (by repeat (first | exact Below.refl _ _ | assumption | apply Below.drew | apply below_drewN | (refine Below.alloc ?_ (by first | omega | (simp; done) | (simp; omega)) _) | (refine Below.setCell ?_ (by first | omega | (simp; done) | (simp; omega)) _))) hbx (by first | omega | (simp; done) | (simp; omega)); have hz : w.heap.size ≤ w'.heap.size := hB.size; obtain ⟨hc, hf⟩ := bcell hbx; clear hbx)
      go_wp2_with fail
      go_ret
      exact ⟨ret_bool HR.out.symm, hB⟩
  · have HR := Lib.hid (ig_no2 (rows := rows) hgl.out hmm)
    have hB : Below w.heap.size w w := Below.refl _ _
    have hi8 : inr (m : Int) 2 8 = false := by simp [inr]; omega
    have CI := Lib.hid (fun w' => hi8 ▸ spec_l1In (m : Int) 2 8 w')
    clear hmm
    go_enter Try.func122, Try.ntmps122
    go_wp2_with fail
    (refine wp_region_ext (by kernel_rfl) (by kernel_rfl) ?_; have hxe := ext_cells; (repeat (go_big_quiet_step (first | (go_at_call 111; exact ext_ret (CL2.out _)) | (go_at_call 102; exact ext_pure (CI.out _))))); refine wpQuiet_nil ?_; intro w' hw'; obtain ⟨nx, hw''⟩ := hw'; have hbx := ext_out hw''; clear hw'' nx hxe; have hB : Below w.heap.size w w' := Below.thenn (by repeat (first | exact Below.refl _ _ | assumption | apply Below.drew | apply below_drewN | (refine Below.alloc ?_ (by first | omega | (simp; done) | (simp; omega)) _) | (refine Below.setCell ?_ (by first | omega | (simp; done) | (simp; omega)) _))) hbx (by first | omega | (simp; done) | (simp; omega)); have hz : w.heap.size ≤ w'.heap.size := hB.size; obtain ⟨hc, hf⟩ := bcell hbx; clear hbx)
    go_wp2_with fail
    go_ret
    exact ⟨ret_bool HR.out.symm, hB⟩
theorem spec_IsGround (A A2 : Option Addr) (n c m c2 : Nat) (rows g : List (List Int)) (w : World) (h : RdL w A n rows) (h2 : RdR w 2 A2 m g) (hn : n ≤ 1048577) (hm : m ≤ 1048577) :
    Calls Try.prog 48 #[.slice A n c, .slice A2 m c2] w (Ret w (.bool (igOk rows g))) := by
  have C := Lib.hid (spec_l4Ground A A2 n c m c2 rows g w h h2 hn hm)
  clear h h2
  go_enter Try.func48, Try.ntmps48
  go_wp2_with fail
  refine C.out.mono ?_
  rintro e w1 ⟨rfl, hb⟩
  go_wp2_with fail
  go_ret
  exact ⟨rfl, hb⟩
end Go.Proofs.Ytjfmicemnoglkaa
namespace Go.Proofs.Ytjfmicemnoglkaa
open Go.RowKit
set_option linter.unusedVariables false
set_option linter.unusedSimpArgs false

theorem RdR.rowG {w : World} {A : Option Addr} {n k : Nat} {g : List (List Int)} (h : RdR w 2 A n g) (hk : k < n) :
    ∃ b off, A = some ⟨b, off, none⟩ ∧ b < w.heap.size ∧ w.cell? ⟨b, off + k * 2, none⟩ = some (.int .i64 (atN g k)) ∧ w.cell? ⟨b, off + k * 2 + 1, none⟩ = some (.int .i64 (htN g k)) := by
  obtain ⟨b, off, x, y, e, hr, hb, c0, c1⟩ := h.row2 hk
  obtain ⟨a0, a1⟩ := at2_of hr
  rw [a0, a1]
  exact ⟨b, off, e, hb, c0, c1⟩
/-- What is known of a ground at a place. -/
theorem gparts {w : World} {A : Option Addr} {n : Nat} {rows g : List (List Int)} {place : Int} (h : RdR w 2 A n g) (hl : lineOk rows = true) (hg : grdA rows g = true) (h0 : 0 ≤ place) (h1 : place ≤ endN rows) :
    ∃ b off x y hx hy, A = some ⟨b, off, none⟩ ∧ b < w.heap.size ∧ spanN g place + 1 < n ∧ n ≤ 8 ∧
      (w.cell? ⟨b, off + spanN g place * 2, none⟩ = some (.int .i64 x) ∧ w.cell? ⟨b, off + spanN g place * 2 + 1, none⟩ = some (.int .i64 hx)) ∧
      (w.cell? ⟨b, off + (spanN g place + 1) * 2, none⟩ = some (.int .i64 y) ∧ w.cell? ⟨b, off + (spanN g place + 1) * 2 + 1, none⟩ = some (.int .i64 hy)) ∧
      (0 ≤ x ∧ x ≤ place ∧ place ≤ y ∧ y ≤ 3000 ∧ x < y) ∧ (0 ≤ hx ∧ hx ≤ 2000) ∧ (0 ≤ hy ∧ hy ≤ 2000) ∧ lL g place = y - x ∧ chN g place = hx * (y - x) + (hy - hx) * (place - x) ∧ hx * (y - place) + hy * (place - x) = chN g place ∧
      (0 ≤ chN g place ∧ chN g place ≤ 12000000) ∧ (0 ≤ hx * (y - x) ∧ hx * (y - x) ≤ 6000000) ∧ (-6000000 ≤ (hy - hx) * (place - x) ∧ (hy - hx) * (place - x) ≤ 6000000) ∧ (0 ≤ hx * (y - place) ∧ hx * (y - place) ≤ 6000000) ∧ (0 ≤ hy * (place - x) ∧ hy * (place - x) ≤ 6000000) := by
  have L := lineOk_line hl
  obtain ⟨G, e1, e2, hn, hz⟩ := grd_line L hg
  obtain ⟨S, x1, x2, x3, x4⟩ := gln_parts L hg h0 h1
  have hs := S.lt
  have hlen := h.2.2
  have g0 := gln_at g (spanN g place) (by omega)
  have g1 := gln_at g (spanN g place + 1) hs
  have a1 := G.at_ (spanN g place + 1) (by rw [gln_len]; omega)
  have a2 := G.at_ (spanN g place) (by rw [gln_len]; omega)
  have a5 := G.rise (spanN g place) (by rw [gln_len]; omega)
  have k1 := G.ht (spanN g place + 1) (by rw [gln_len]; omega)
  have k0 := G.ht (spanN g place) (by rw [gln_len]; omega)
  rw [g1.1] at a1 a5
  rw [g0.1] at a2 a5
  rw [g1.2.1] at k1
  rw [g0.2.1] at k0
  have hs2 := ch_spec G h0 (by rw [e1]; exact h1)
  obtain ⟨p1, p2, p3, p4, p5⟩ := ch_bd G h0 (by rw [e1]; exact h1)
  rw [gln_span] at hs2 p2 p3 p4 p5
  rw [g0.2.1] at hs2 p2 p3 p4
  rw [g1.2.1] at hs2 p3 p5
  rw [x4] at p1 hs2
  rw [x1] at hs2 p3 p5
  rw [x2] at hs2 p4
  rw [x3] at p2
  obtain ⟨b, off, rfl, hb, c0, c1⟩ := h.rowG (k := spanN g place) (by omega)
  obtain ⟨b', off', e', _, d0, d1⟩ := h.rowG (k := spanN g place + 1) (by omega)
  injection e' with e'
  injection e' with e1 e2
  subst e1 e2
  exact ⟨b, off, _, _, _, _, rfl, hb, by omega, by omega, ⟨c0, c1⟩, ⟨d0, d1⟩, ⟨a2.1, S.lo, S.hi, a1.2, a5⟩, k0, k1, rfl, rfl, hs2, p1, p2, p3, p4, p5⟩
set_option maxRecDepth 100000 in
set_option maxHeartbeats 2000000 in
theorem impl_groundAt (A : Option Addr) (n c : Nat) (rows g : List (List Int)) (place : Int) (w : World) (h : RdR w 2 A n g) (hm : n ≤ 1048577) (hl : lineOk rows = true) (hg : grdA rows g = true) (h0 : 0 ≤ place) (h1 : place ≤ endN rows) :
    Calls Try.prog 154 #[.slice A n c, .int .i64 place] w (Ret w (.agg #[.int .i64 (chN g place), .int .i64 (lL g place)])) := by
  have HH := Lib.hid h
  have HS := Lib.hid (gln_parts (lineOk_line hl) hg h0 h1).1
  obtain ⟨b, off, x, y, hx, hy, rfl, hb, hk, hn8, ⟨c0, c1⟩, ⟨d0, d1⟩, hxy, hhx, hhy, e1, e2, _, q1, q2, q3, _, _⟩ := gparts h hl hg h0 h1
  rw [e1, e2]
  rw [e2] at q1
  clear e1 e2 h hl hg h0 h1
  have HK := Lib.hid (rfl : spanN g place = spanN g place)
  obtain ⟨K, hK⟩ : ∃ K, K = spanN g place := ⟨_, rfl⟩
  rw [← hK] at c0 c1 d0 d1 hk
  have HKK := Lib.hid hK
  clear hK HK
  have u1 : IntKind.i64.wrap (hx * (y - x)) = hx * (y - x) := IntWalk.i64_in _ (by omega)
  have u2 : IntKind.i64.wrap ((hy - hx) * (place - x)) = (hy - hx) * (place - x) := IntWalk.i64_in _ (by omega)
  have u3 : IntKind.i64.wrap (y - x) = y - x := IntWalk.i64_in _ (by omega)
  have u4 : IntKind.i64.wrap (place - x) = place - x := IntWalk.i64_in _ (by omega)
  have u6 : IntKind.i64.wrap (hy - hx) = hy - hx := IntWalk.i64_in _ (by omega)
  have u7 : IntKind.i64.wrap (hx * (y - x) + (hy - hx) * (place - x)) = hx * (y - x) + (hy - hx) * (place - x) := IntWalk.i64_in _ (by omega)
  have hB : Below w.heap.size w w := Below.refl _ _
  have HW2 := Lib.hid (Blk.new w 115 #[.int .i64 0, .int .i64 0])
  have B2 := Lib.hid (hB.alloc (Nat.le_refl _) (.cells #[.int .i64 0, .int .i64 0] 115))
  have r0 := (B2.out.cell (p := ⟨b, off + K * 2, none⟩) hb).trans c0
  have r1 := (B2.out.cell (p := ⟨b, off + K * 2 + 1, none⟩) hb).trans c1
  have t0 := (B2.out.cell (p := ⟨b, off + (K + 1) * 2, none⟩) hb).trans d0
  have t1 := (B2.out.cell (p := ⟨b, off + (K + 1) * 2 + 1, none⟩) hb).trans d1
  have R2 := Lib.hid (HH.out.below B2.out)
  have hgv : w.heap.size < (w.alloc (.cells #[.int .i64 0, .int .i64 0] 115)).heap.size := HW2.out.lt
  have hb2 : b < (w.alloc (.cells #[.int .i64 0, .int .i64 0] 115)).heap.size := by omega
  clear c0 c1 d0 d1
  go_enter Try.func154, Try.ntmps154
  go_wp2_with fail
  have y0 := HW2.out.frozen 0
  have y1 := HW2.out.frozen 1
  generalize w.alloc (.cells #[.int .i64 0, .int .i64 0] 115) = v at *
  have z0 : v.cell? ⟨w.heap.size, 0, none⟩ = some (.int .i64 0) := by simpa using HW2.out.cell 0
  have z1 : v.cell? ⟨w.heap.size, 1, none⟩ = some (.int .i64 0) := by simpa using HW2.out.cell 1
  have hBv := B2.out
  go_loopg [5] K (fun gg i wr => ∃ k : Nat, k ≤ K ∧ K ≤ k + gg ∧ i = .int .i64 k ∧ v = wr)
  case atStart => exact ⟨0, by omega, by omega, rfl, rfl⟩
  case round =>
    obtain ⟨k, hk1, hk2, rfl, rfl⟩ := hrel
    obtain ⟨b', off', e', _, f0, f9⟩ := R2.out.rowG (k := k + 1) (by omega)
    clear f9
    injection e' with e'
    injection e' with e1 e2
    subst e1 e2
    by_cases hlt : k < K
    · have hp : decide (atN g (k + 1) < place) = true := decide_eq_true (HS.out.below k (by have := HKK.out; omega))
      generalize atN g (k + 1) = z at *
      have v5 : IntKind.i64.wrap ((k : Int) + 1) = (k : Int) + 1 := IntWalk.i64_in _ (by omega)
      go_wp2_with fail
      go_roundg (K - (k + 1))
      case measure => omega
      case rel => exact ⟨k + 1, by omega, by omega, by go_num, rfl⟩
    · obtain rfl : k = K := by omega
      have hp : decide (atN g (k + 1) < place) = false := decide_eq_false (by have := HS.out.hi; have h9 := HKK.out; rw [← h9] at this; omega)
      have hzy : atN g (k + 1) = y := by
        have := f0.symm.trans t0
        injection this with this
        injection this
      rw [hzy] at hp
      clear f0 hzy
      have u5 : IntKind.i64.wrap ((k : Int) + 1) = (k : Int) + 1 := IntWalk.i64_in _ (by omega)
      have k1 : 0 ≤ (k : Int) + 1 := by omega
      have k2 : ((k : Int) + 1).toNat = k + 1 := by omega
      have k3 : (k : Int) + 1 < (n : Int) := by omega
      have hkn : k < n := by omega
      go_upto_region 4 with fail
      go_region
      all_goals go_wp2_with fail
      all_goals
        have T5 := (HW2.out.set_ 0 (.int .i64 (hx * (y - x) + (hy - hx) * (place - x)))).set_ 1 (.int .i64 (y - x))
        have s0 := T5.cell 0
        have s1 := T5.cell 1
        have hlt := T5.lt
        have hB5 : Below w.heap.size w ((v.setCell ⟨w.heap.size, 0, none⟩ (.int .i64 (hx * (y - x) + (hy - hx) * (place - x)))).setCell ⟨w.heap.size, 1, none⟩ (.int .i64 (y - x))) := (by repeat (first | exact Below.refl _ _ | assumption | apply Below.drew | apply below_drewN | (refine Below.alloc ?_ (by first | omega | (simp; done) | (simp; omega)) _) | (refine Below.setCell ?_ (by first | omega | (simp; done) | (simp; omega)) _)))
        simp only [List.getElem?_toArray, Array.getElem?_setIfInBounds] at s0 s1
        simp at s0 s1
        go_light
        generalize (v.setCell ⟨w.heap.size, 0, none⟩ (.int .i64 (hx * (y - x) + (hy - hx) * (place - x)))).setCell ⟨w.heap.size, 1, none⟩ (.int .i64 (y - x)) = v5 at *
        have E0 : ∀ o1 o2 : Obj, ((v5.alloc o1).alloc o2).cell? ⟨w.heap.size, 0, none⟩ = some (.int .i64 (hx * (y - x) + (hy - hx) * (place - x))) := fun o1 o2 => ((((Below.refl v5.heap.size v5).alloc (Nat.le_refl _) o1).alloc (by simp) o2).cell (p := ⟨w.heap.size, 0, none⟩) hlt).trans s0
        have E1 : ∀ o1 o2 : Obj, ((v5.alloc o1).alloc o2).cell? ⟨w.heap.size, 1, none⟩ = some (.int .i64 (y - x)) := fun o1 o2 => ((((Below.refl v5.heap.size v5).alloc (Nat.le_refl _) o1).alloc (by simp) o2).cell (p := ⟨w.heap.size, 1, none⟩) hlt).trans s1
        have hz5 := hB5.size
        (refine bodyPost_ret (v := .agg #[.int .i64 (hx * (y - x) + (hy - hx) * (place - x)), .int .i64 (y - x)]) ?_ rfl ⟨rfl, (by repeat (first | exact Below.refl _ _ | assumption | apply Below.drew | apply below_drewN | (refine Below.alloc ?_ (by first | omega | (simp; done) | (simp; omega)) _) | (refine Below.setCell ?_ (by first | omega | (simp; done) | (simp; omega)) _)))⟩)
        simp [results, Try.results154, go_sem, E0, E1]
end Go.Proofs.Ytjfmicemnoglkaa
