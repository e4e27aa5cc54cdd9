/- The brakes: the speeds, the program's. -/
import Derived.Test.YthijklidjdhkdaaBrkC
namespace Go.Proofs.Ythijklidjdhkdaa
open Go.RowKit
set_option linter.unusedVariables false
set_option linter.unusedSimpArgs false

theorem quo_floor {a b : Int} (hb : 0 < b) : (if a.tmod b < 0 then a.tdiv b - 1 else a.tdiv b) = a / b := by
  rcases Int.lt_or_le a 0 with h | h
  · have e1 : a.tdiv b = -((-a) / b) := by
      have h1 : a.tdiv b = -((-a).tdiv b) := by rw [Int.neg_tdiv]; omega
      rw [h1, Int.tdiv_eq_ediv_of_nonneg (by omega)]
    have e2 : a.tmod b = -((-a) % b) := by
      have h1 : a.tmod b = -((-a).tmod b) := by rw [Int.neg_tmod]; omega
      rw [h1, Int.tmod_eq_emod_of_nonneg (by omega)]
    rw [e1, e2]
    have h1 := Int.emod_add_mul_ediv (-a) b
    have h2 := Int.emod_nonneg (-a) (show b ≠ 0 by omega)
    have h3 := Int.emod_lt_of_pos (-a) hb
    symm
    split
    · rw [Int.ediv_eq_iff_of_pos hb]
      have : (-(-a / b) - 1) * b = -(b * (-a / b)) - b := by rw [Int.sub_mul, Int.neg_mul, Int.mul_comm]; omega
      omega
    · rw [Int.ediv_eq_iff_of_pos hb]
      have : (-(-a / b)) * b = -(b * (-a / b)) := by rw [Int.neg_mul, Int.mul_comm]
      omega
  · rw [Int.tdiv_eq_ediv_of_nonneg h, Int.tmod_eq_emod_of_nonneg h, if_neg (by have := Int.emod_nonneg a (show b ≠ 0 by omega); omega)]
theorem tdiv_bd {a b : Int} (hb : 1 ≤ b) (h0 : -5000000 ≤ a) (h1 : a ≤ 1000000) : -5000000 ≤ a.tdiv b ∧ a.tdiv b ≤ 1000000 := by
  rcases Int.lt_or_le a 0 with h | h
  · have h1 : a.tdiv b = -((-a).tdiv b) := by rw [Int.neg_tdiv]; omega
    rw [h1, Int.tdiv_eq_ediv_of_nonneg (by omega)]
    have q0 := Int.ediv_nonneg (show 0 ≤ -a by omega) (show 0 ≤ b by omega)
    have q1 := Int.ediv_le_self b (show 0 ≤ -a by omega)
    omega
  · rw [Int.tdiv_eq_ediv_of_nonneg h]
    have q0 := Int.ediv_nonneg h (show 0 ≤ b by omega)
    have q1 := Int.ediv_le_self b h
    omega
def bsL (m p : Int) (rows : List (List Int)) (v : Int) : List Int := if brkK m p rows v then brkS m p rows v else []
set_option maxRecDepth 100000 in
set_option maxHeartbeats 4000000 in
theorem impl_brakeSpeeds (m p : Int) (A : Option Addr) (n c : Nat) (rows : List (List Int)) (v0 : Int) (wo : World) (h : RdR wo 2 A n rows) (hok : drvOk m p rows = true) (hv0 : 0 ≤ v0) (hv1 : v0 ≤ 100) :
    Calls Try.prog 61 #[.agg #[.int .i64 m, .int .i64 p, .slice A n c], .int .i64 v0] wo (RetSB wo (bsL m p rows v0) (brkK m p rows v0)) := by
  have hl := Lib.hid h.2.2
  obtain ⟨⟨⟨m0, m1⟩, ⟨p0, p1⟩, hn1⟩, hal⟩ := drvOk_iff.1 hok
  have HA := Lib.hid hal
  have hn : n ≤ 4 := by have := hl.out; omega
  have HK := Lib.hid hok
  have hq0 : 0 ≤ v0 := hv0
  have hmne : ¬ m = 0 := by omega
  clear hal hn1 hok hv0
  generalize hbl : bsL m p rows v0 = BL
  generalize hbk : brkK m p rows v0 = BK
  have HBL := Lib.hid hbl
  have HBK := Lib.hid hbk
  clear hbl hbk
  go_enter Try.func61, Try.ntmps61
  (go_wp2_with fail; have hWV : Below wo.heap.size wo (wo.alloc (.cells #[.int .i64 m, .int .i64 p, .slice A n c] 29)) := (Below.refl _ _).alloc (Nat.le_refl _) _; have hV0 : wo.heap.size < (wo.alloc (.cells #[.int .i64 m, .int .i64 p, .slice A n c] 29)).heap.size := (by simp); have hv0 : (wo.alloc (.cells #[.int .i64 m, .int .i64 p, .slice A n c] 29)).cell? ⟨wo.heap.size, 0, none⟩ = some (.int .i64 m) := (by rw [cell_of_row _ _ _ _ _ _ (heap_alloc_new wo _)]; rfl); have hv1 : (wo.alloc (.cells #[.int .i64 m, .int .i64 p, .slice A n c] 29)).cell? ⟨wo.heap.size, 1, none⟩ = some (.int .i64 p) := (by rw [cell_of_row _ _ _ _ _ _ (heap_alloc_new wo _)]; rfl); have hv2 : (wo.alloc (.cells #[.int .i64 m, .int .i64 p, .slice A n c] 29)).cell? ⟨wo.heap.size, 2, none⟩ = some (.slice A n c) := (by rw [cell_of_row _ _ _ _ _ _ (heap_alloc_new wo _)]; rfl); have HV1 : Hid (wo.heap.size + 1 = (wo.alloc (.cells #[.int .i64 m, .int .i64 p, .slice A n c] 29)).heap.size) := (show _ = _ by simp); generalize wo.alloc (.cells #[.int .i64 m, .int .i64 p, .slice A n c] 29) = w at hWV hV0 HV1 hv0 hv1 hv2 ⊢; have hr := h.below hWV; have hB : Below w.heap.size w w := Below.refl _ _; have hwz : wo.heap.size ≤ w.heap.size := hWV.size)
  go_wp2_with fail
  go_loopg [1, 6, 7] 60 (fun gg s1 s8 s9 wr => ∃ (k : Nat) (v : Int) (A1 : Option Addr) (c1 : Nat) (zs : List Int), k ≤ 60 ∧ 60 ≤ k + gg ∧ s1 = .int .i64 v ∧ s9 = .int .i64 k ∧ s8 = .slice A1 zs.length c1 ∧ 0 ≤ v ∧ v ≤ 100 + 1000000 * k ∧ zs.length ≤ k + 1 ∧ Below w.heap.size w wr ∧ w.heap.size ≤ wr.heap.size ∧
    Hid (Ow wr w.heap.size (.slice A1 zs.length c1) zs ∧ zs ++ brkF m p rows (60 - k) k v = brkS m p rows v0 ∧ brkL m p rows (60 - k) k v = brkL m p rows 60 0 v0))
  case atStart => exact ⟨0, v0, some ⟨wo.heap.size + 1, 0, none⟩, 1, [v0], by omega, by omega, rfl, rfl, rfl, hq0, by omega, by simp, (by repeat (first | exact Below.refl _ _ | assumption | apply Below.drew | apply below_drewN | (refine Below.alloc ?_ (by first | omega | (simp; done) | (simp; omega)) _) | (refine Below.setCell ?_ (by first | omega | (simp; done) | (simp; omega)) _))), by simp, ⟨Ow.lit1H w _ _ v0 (Nat.le_refl _) HV1.out, rfl, rfl⟩⟩
  case round =>
    obtain ⟨k, v, A1, c1, zs, hk1, hk2, rfl, rfl, rfl, hvz, hvt, hzl, hBr, hzr, ha⟩ := hrel
    have a0 := (hBr.cell (p := ⟨wo.heap.size, 0, none⟩) hV0).trans hv0
    have a1 := (hBr.cell (p := ⟨wo.heap.size, 1, none⟩) hV0).trans hv1
    have a2 := (hBr.cell (p := ⟨wo.heap.size, 2, none⟩) hV0).trans hv2
    have hor := Nat.lt_of_lt_of_le hV0 hzr
    by_cases hkv : k < 60 ∧ 0 < v
    · have hk6 := hkv.1
      have hvp := hkv.2
      have hkne : ((k : Int) == 60) = false := by simp; omega
      have HF := Lib.hid (brkF_step (m := m) (p := p) (rows := rows) hk6 hvp)
      have HL := Lib.hid (brkL_step (m := m) (p := p) (rows := rows) hk6 hvp)
      clear hkv
      go_wp2_with fail
      clear a0 a1 a2 hor
      go_loopg [8, 25] n (fun gg s10 s11 wq => ∃ (i : Nat) (z : Int), i ≤ n ∧ n ≤ i + gg ∧ s11 = .int .i64 i ∧ s10 = .int .i64 z ∧ z ≤ p ∧ p - 100000 * i ≤ z ∧ Below w.heap.size w wq ∧ w.heap.size ≤ wq.heap.size ∧ Hid (Ow wq w.heap.size (.slice A1 zs.length c1) zs ∧ frcF k z (rows.drop i) = frcF k p rows))
      case atStart => exact ⟨0, p, by omega, by omega, rfl, rfl, by omega, by omega, hBr, hzr, ⟨ha.out.1, rfl⟩⟩
      case round =>
        clear hBr hzr
        obtain ⟨i, z, hi1, hi2, rfl, rfl, hzp, hzq, hBq, hzq2, hf⟩ := hrel
        have a0 := (hBq.cell (p := ⟨wo.heap.size, 0, none⟩) hV0).trans hv0
        have hor := Nat.lt_of_lt_of_le hV0 hzq2
        by_cases hlt : i < n
        · obtain ⟨b, off, x0, x1, rfl, hrw, hblt, c0, c1'⟩ := hr.row2 hlt
          rw [← hBq.cell (p := ⟨b, _, none⟩) hblt] at c0 c1'
          have hbr : b < wr.heap.size := by omega
          have hx := brk_at HA.out hrw
          have x00 := hx.1.1
          have x01 := hx.1.2
          have HRW := Lib.hid hrw
          have HH := Lib.hid h
          have HHR := Lib.hid hr
          clear hrw h hr hx
          by_cases hd : x1 ≤ k
          · have HZ : Hid (frcF k (z - x0) (rows.drop (i + 1)) = frcF k p rows) := (show _ = _ by rw [← hf.out.2, drop_atI HRW.out, frcF_yes hd])
            go_wp2_with fail
            go_roundg (n - (i + 1))
            case measure => omega
            case rel => exact ⟨i + 1, z - x0, by omega, by omega, by go_num, rfl, by omega, by omega, hBq.alloc hzq2 _, by simp; omega, ⟨hf.out.1.alloc _, HZ.out⟩⟩
          · have HZ : Hid (frcF k z (rows.drop (i + 1)) = frcF k p rows) := (show _ = _ by rw [← hf.out.2, drop_atI HRW.out, frcF_no hd])
            go_wp2_with fail
            go_roundg (n - (i + 1))
            case measure => omega
            case rel => exact ⟨i + 1, z, by omega, by omega, by go_num, rfl, by omega, by omega, hBq.alloc hzq2 _, by simp; omega, ⟨hf.out.1.alloc _, HZ.out⟩⟩
        · have hz : z = frcF k p rows := by rw [← hf.out.2, List.drop_of_length_le (by have := hl.out; omega)]; rfl
          have HN : Hid (max (v + 10 * z / m) 0 = brkN m p rows k v) := (show _ = _ by unfold brkN; rw [hz]; omega)
          have hnb := brkN_bd (k := k) HK.out hvz
          have hqf := quo_floor (a := 10 * z) (b := m) (by omega)
          have htb := tdiv_bd (a := 10 * z) m0 (by omega) (by omega)
          have t0 := htb.1
          have t1 := htb.2
          by_cases hrm : (10 * z).tmod m < 0
          · rw [if_pos hrm] at hqf
            have HQ := Lib.hid hqf
            generalize hQe : (10 * z).tdiv m = Q at t0 t1 HQ
            have HX : Hid (max (v + (Q - 1)) 0 = brkN m p rows k v) := (show _ = _ by rw [← HN.out, HQ.out])
            generalize brkN m p rows k v = V at HX HF HL hnb
            have V0 := hnb.1
            have V1 := hnb.2
            clear hz hnb HN hqf htb HQ
            by_cases hp : 0 ≤ v + (Q - 1)
            · obtain rfl : V = v + (Q - 1) := by rw [← HX.out]; omega
              clear HX
              go_wp2_with (at_builtin; refine wp_app_int rfl (.tmp 55) (.tmp 57) rfl _ w.heap.size (.slice A1 zs.length c1) zs (v + (Q - 1)) rfl hf.out.1 rfl (by omega) hzq2 ?_; intro A2 c2 w1 hown1 hb1)
              go_roundg (60 - (k + 1))
              case measure => omega
              case rel => exact ⟨k + 1, v + (Q - 1), A2, c2, zs ++ [v + (Q - 1)], by omega, by omega, rfl, by go_num, by simp, V0, by omega, by simp; omega, hBq.trans hb1, Nat.le_trans hzq2 hb1.size, ⟨hown1, by rw [List.append_assoc, ← ha.out.2.1, HF.out]; rfl, by rw [← ha.out.2.2, HL.out]⟩⟩
            · obtain rfl : V = 0 := by rw [← HX.out]; omega
              clear HX
              go_wp2_with (at_builtin; refine wp_app_int rfl (.tmp 55) (.tmp 57) rfl _ w.heap.size (.slice A1 zs.length c1) zs (0) rfl hf.out.1 rfl (by omega) hzq2 ?_; intro A2 c2 w1 hown1 hb1)
              go_roundg (60 - (k + 1))
              case measure => omega
              case rel => exact ⟨k + 1, 0, A2, c2, zs ++ [0], by omega, by omega, rfl, by go_num, by simp, V0, by omega, by simp; omega, hBq.trans hb1, Nat.le_trans hzq2 hb1.size, ⟨hown1, by rw [List.append_assoc, ← ha.out.2.1, HF.out]; rfl, by rw [← ha.out.2.2, HL.out]⟩⟩
          · rw [if_neg hrm] at hqf
            have HQ := Lib.hid hqf
            generalize hQe : (10 * z).tdiv m = Q at t0 t1 HQ
            have HX : Hid (max (v + Q) 0 = brkN m p rows k v) := (show _ = _ by rw [← HN.out, HQ.out])
            generalize brkN m p rows k v = V at HX HF HL hnb
            have V0 := hnb.1
            have V1 := hnb.2
            clear hz hnb HN hqf htb HQ
            by_cases hp : 0 ≤ v + Q
            · obtain rfl : V = v + Q := by rw [← HX.out]; omega
              clear HX
              go_wp2_with (at_builtin; refine wp_app_int rfl (.tmp 55) (.tmp 57) rfl _ w.heap.size (.slice A1 zs.length c1) zs (v + Q) rfl hf.out.1 rfl (by omega) hzq2 ?_; intro A2 c2 w1 hown1 hb1)
              go_roundg (60 - (k + 1))
              case measure => omega
              case rel => exact ⟨k + 1, v + Q, A2, c2, zs ++ [v + Q], by omega, by omega, rfl, by go_num, by simp, V0, by omega, by simp; omega, hBq.trans hb1, Nat.le_trans hzq2 hb1.size, ⟨hown1, by rw [List.append_assoc, ← ha.out.2.1, HF.out]; rfl, by rw [← ha.out.2.2, HL.out]⟩⟩
            · obtain rfl : V = 0 := by rw [← HX.out]; omega
              clear HX
              go_wp2_with (at_builtin; refine wp_app_int rfl (.tmp 55) (.tmp 57) rfl _ w.heap.size (.slice A1 zs.length c1) zs (0) rfl hf.out.1 rfl (by omega) hzq2 ?_; intro A2 c2 w1 hown1 hb1)
              go_roundg (60 - (k + 1))
              case measure => omega
              case rel => exact ⟨k + 1, 0, A2, c2, zs ++ [0], by omega, by omega, rfl, by go_num, by simp, V0, by omega, by simp; omega, hBq.trans hb1, Nat.le_trans hzq2 hb1.size, ⟨hown1, by rw [List.append_assoc, ← ha.out.2.1, HF.out]; rfl, by rw [← ha.out.2.2, HL.out]⟩⟩
    · have HE := Lib.hid (brkF_stop (m := m) (p := p) (rows := rows) hkv)
      have HE2 := Lib.hid (brkL_stop (m := m) (p := p) (rows := rows) hkv)
      have hz0 : zs = brkS m p rows v0 := by have := ha.out.2.1; rw [HE.out, List.append_nil] at this; exact this
      have HO := Lib.hid ha.out.1
      have hb0 : BK = decide (v ≤ 0) := by rw [← HBK.out]; unfold brkK; rw [← ha.out.2.2, HE2.out]
      have HZ := Lib.hid hz0
      clear hz0 ha
      by_cases hvn : 0 < v
      · have hk6 : k = 60 := by
          rcases Nat.lt_or_ge k 60 with hk | hk
          · exact absurd ⟨hk, hvn⟩ hkv
          · omega
        subst hk6
        obtain rfl : BK = false := by rw [hb0]; simp; omega
        obtain rfl : BL = [] := by rw [← HBL.out]; unfold bsL; rw [HBK.out]; rfl
        clear hkv hb0
        go_wp2_with fail
        go_ret2
        exact ⟨none, 0, rfl, Ow.nil _ _, Below.thenn hWV hBr hwz⟩
      · obtain rfl : BK = true := by rw [hb0]; simp; omega
        obtain rfl : BL = zs := by rw [← HBL.out]; unfold bsL; rw [HBK.out, HZ.out]; rfl
        clear hkv hb0
        go_wp2_with fail
        go_ret2
        exact ⟨A1, c1, rfl, HO.out.base hwz, Below.thenn hWV hBr hwz⟩
end Go.Proofs.Ythijklidjdhkdaa
