/- Load cases and tensions: the program's and the reference's. -/
import Derived.Test.YtjfmicemnoglkaaTenP
import Derived.Test.YtjfmicemnoglkaaSupC
namespace Go.Proofs.Ytjfmicemnoglkaa
open Go.RowKit
set_option linter.unusedVariables false
set_option linter.unusedSimpArgs false

theorem impl_IsLoadCase (x y z : Int) (w : World) : Calls Try.prog 55 #[.agg #[.int .i64 x, .int .i64 y, .int .i64 z]] w (Ret w (.bool (caseOk x y z))) := by
  go_enter Try.func55, Try.ntmps55
  go_wp2_with (go_at_call 98; refine (impl_within _ _ _ _).mono ?_; rintro e w' ⟨rfl, rfl⟩)
  all_goals (go_ret; exact ⟨ret_bool (by (rw [Bool.eq_iff_iff]; simp [caseOk, inr] at *; omega)), (by repeat (first | exact Below.refl _ _ | assumption | apply Below.drew | apply below_drewN | (refine Below.alloc ?_ (by first | omega | (simp; done) | (simp; omega)) _) | (refine Below.setCell ?_ (by first | omega | (simp; done) | (simp; omega)) _)))⟩)
theorem spec_l6Case (x y z : Int) (w : World) : Calls Try.prog 126 #[.agg #[.int .i64 x, .int .i64 y, .int .i64 z]] w (Ret w (.bool (caseOk x y z))) := by
  go_enter Try.func126, Try.ntmps126
  go_wp2_with (go_at_call 102; refine (spec_l1In _ _ _ _).mono ?_; rintro e w' ⟨rfl, rfl⟩)
  all_goals (go_ret; exact ⟨ret_bool (by (rw [Bool.eq_iff_iff]; simp [caseOk, inr] at *; omega)), (by repeat (first | exact Below.refl _ _ | assumption | apply Below.drew | apply below_drewN | (refine Below.alloc ?_ (by first | omega | (simp; done) | (simp; omega)) _) | (refine Below.setCell ?_ (by first | omega | (simp; done) | (simp; omega)) _)))⟩)
theorem spec_IsLoadCase (x y z : Int) (w : World) : Calls Try.prog 56 #[.agg #[.int .i64 x, .int .i64 y, .int .i64 z]] w (Ret w (.bool (caseOk x y z))) := by
  have CI := Lib.hid (fun w => spec_l6Case x y z w)
  generalize caseOk x y z = b at CI ⊢
  go_enter Try.func56, Try.ntmps56
  go_wp2_with (go_at_call 126; refine (CI.out _).mono ?_; rintro e w' ⟨rfl, hb⟩; have hB : Below w.heap.size w w' := Below.thenn (by repeat (first | exact Below.refl _ _ | assumption | apply Below.drew | apply below_drewN | (refine Below.alloc ?_ (by first | omega | (simp; done) | (simp; omega)) _) | (refine Below.setCell ?_ (by first | omega | (simp; done) | (simp; omega)) _))) hb (by first | omega | (simp; done) | (simp; omega)); have hz : w.heap.size < w'.heap.size := (by have h := hb.size; (try simp at h); omega); obtain ⟨hc, hf⟩ := bcell hb; clear hb)
  go_ret
  exact ⟨rfl, (by repeat (first | exact Below.refl _ _ | assumption | apply Below.drew | apply below_drewN | (refine Below.alloc ?_ (by first | omega | (simp; done) | (simp; omega)) _) | (refine Below.setCell ?_ (by first | omega | (simp; done) | (simp; omega)) _)))⟩
set_option maxRecDepth 100000 in
set_option maxHeartbeats 4000000 in
theorem impl_tensions (A : Option Addr) (n c : Nat) (rows : List (List Int)) (x ct rb R : Int) (wo : World) (h : RdL wo A n rows) (hl : lineOk rows = true) (hx : 1 ≤ x ∧ x ≤ 1000) (hct : -1 ≤ ct ∧ ct ≤ 1000000) (hR : -1000 ≤ R ∧ R ≤ 1000) :
    Calls Try.prog 128 #[.slice A n c, .agg #[.int .i64 x, .int .i64 ct, .int .i64 rb], .int .i64 R] wo (RetSB wo (tnL rows x ct R n) (tnB rows x ct R (n - 1))) := by
  have L := lineOk_line hl
  have hlo := L.lo
  have hhi := L.hi
  have hn := h.2.1
  rw [hn] at hlo hhi
  have TB := Lib.hid (fun (k : Nat) (hk : k < n) => tn_in L hx hct hR (k := k) (by omega))
  have DB := Lib.hid (fun (k : Nat) (hk : k + 1 < n) => dh_bd L hx (k := k) (by omega))
  have HB := Lib.hid (fun (k : Nat) (hk : k < n) => L.ht k (by omega))
  clear L hl hn
  go_enter Try.func128, Try.ntmps128
  go_wp2_with fail
  (have hWV : Below wo.heap.size wo (wo.alloc (.cells #[.int .i64 x, .int .i64 ct, .int .i64 rb] 70)) := (Below.refl _ _).alloc (Nat.le_refl _) _; have hV0 : wo.heap.size < (wo.alloc (.cells #[.int .i64 x, .int .i64 ct, .int .i64 rb] 70)).heap.size := (by simp); have hv0 : (wo.alloc (.cells #[.int .i64 x, .int .i64 ct, .int .i64 rb] 70)).cell? ⟨wo.heap.size, 0, none⟩ = some (.int .i64 x) := (by rw [cell_of_row _ _ _ _ _ _ (heap_alloc_new wo _)]; rfl); have hv1 : (wo.alloc (.cells #[.int .i64 x, .int .i64 ct, .int .i64 rb] 70)).cell? ⟨wo.heap.size, 1, none⟩ = some (.int .i64 ct) := (by rw [cell_of_row _ _ _ _ _ _ (heap_alloc_new wo _)]; rfl); have hv2 : (wo.alloc (.cells #[.int .i64 x, .int .i64 ct, .int .i64 rb] 70)).cell? ⟨wo.heap.size, 2, none⟩ = some (.int .i64 rb) := (by rw [cell_of_row _ _ _ _ _ _ (heap_alloc_new wo _)]; rfl); have HHW := Lib.hid hWV; have HV1 : Hid (wo.heap.size + 1 = (wo.alloc (.cells #[.int .i64 x, .int .i64 ct, .int .i64 rb] 70)).heap.size) := (show _ = _ by simp); generalize wo.alloc (.cells #[.int .i64 x, .int .i64 ct, .int .i64 rb] 70) = w at hWV HHW hV0 HV1 hv0 hv1 hv2 ⊢; have HH := Lib.hid (h.below hWV); have hB : Below w.heap.size w w := Below.refl _ _; have hwz : wo.heap.size ≤ w.heap.size := hWV.size; (try rw [HV1.out]); clear hWV)
  go_loopg [8, 9, 10] n (fun g out ok i wr => ∃ (k : Nat) (b : Bool) (A' : Option Addr) (c' : Nat), k + 1 ≤ n ∧ n ≤ k + 1 + g ∧ i = .int .i64 ((k : Int) + 1) ∧ ok = .bool b ∧ out = .slice A' (k + 1) c' ∧ Below w.heap.size w wr ∧ w.heap.size ≤ wr.heap.size ∧ Hid (Ow wr w.heap.size (.slice A' (k + 1) c') (tnL rows x ct R (k + 1))) ∧ Hid (tnB rows x ct R k = b))
  case atStart => exact ⟨0, true, _, _, by omega, by omega, rfl, rfl, rfl, (by repeat (first | exact Below.refl _ _ | assumption | apply Below.drew | apply below_drewN | (refine Below.alloc ?_ (by first | omega | (simp; done) | (simp; omega)) _) | (refine Below.setCell ?_ (by first | omega | (simp; done) | (simp; omega)) _))), by simp, (Ow.lit w [ct] (by simp [maxLen]) (Nat.le_refl _)), rfl⟩
  case round =>
    obtain ⟨k, b, A', c', hk1, hk2, rfl, rfl, rfl, hBr, hzr, HO, HT⟩ := hrel
    have b0 := (hBr.cell (p := ⟨wo.heap.size, 0, none⟩) hV0).trans hv0
    have b1 := (hBr.cell (p := ⟨wo.heap.size, 1, none⟩) hV0).trans hv1
    have b2 := (hBr.cell (p := ⟨wo.heap.size, 2, none⟩) hV0).trans hv2
    have hVr : wo.heap.size < wr.heap.size := by omega
    have HL := Lib.hid HO.out.len
    by_cases hlt : k + 1 < n
    · obtain ⟨bo, oo, tk, rfl, hz, hcz⟩ := HO.out.rd.at1 (show k < k + 1 by omega)
      rw [tnL_at (show k < k + 1 by omega)] at hz
      injection hz with hz
      subst hz
      have hbo : bo < wr.heap.size := World.block_lt_of_cell? _ _ hcz
      obtain ⟨b', off, e1, hb', _, d1, _⟩ := HH.out.rowN (k := k) (by omega)
      obtain ⟨b'', off'', e2, _, _, d2, _⟩ := HH.out.rowN (k := k + 1) (by omega)
      rw [e1] at e2
      injection e2 with e2
      injection e2 with e3 e4
      subst e3 e4
      subst e1
      rw [← hBr.cell (p := ⟨b', _, none⟩) hb'] at d1 d2
      have hbr : b' < wr.heap.size := by omega
      have t0 := TB.out k (by omega)
      have t1 := TB.out (k + 1) hlt
      have t2 := DB.out k hlt
      have t3 := HB.out k (by omega)
      have t4 := HB.out (k + 1) hlt
      have HE := Lib.hid (show tnN rows x ct R (k + 1) = tnN rows x ct R k + x * (htN rows (k + 1) - htN rows k) + R from rfl)
      have HN := Lib.hid (tnL_next rows x ct R (k + 1))
      have HTB := Lib.hid (show tnB rows x ct R (k + 1) = (tnB rows x ct R k && decide (0 ≤ tnN rows x ct R (k + 1))) from rfl)
      rw [HE.out] at t1 HN HTB
      generalize tnN rows x ct R k = tk at *
      generalize htN rows k = y0 at *
      generalize htN rows (k + 1) = y1 at *
      have u1 : IntKind.i64.wrap ((k : Int) + 1 - 1) = (k : Int) := (IntWalk.i64_in _ (by omega)).trans (by omega)
      have u2 : IntKind.i64.wrap (y1 - y0) = y1 - y0 := IntWalk.i64_in _ (by omega)
      have u3 : IntKind.i64.wrap (x * (y1 - y0)) = x * (y1 - y0) := IntWalk.i64_in _ (by omega)
      have u4 : IntKind.i64.wrap (tk + x * (y1 - y0)) = tk + x * (y1 - y0) := IntWalk.i64_in _ (by omega)
      have u5 : IntKind.i64.wrap (tk + x * (y1 - y0) + R) = tk + x * (y1 - y0) + R := IntWalk.i64_in _ (by omega)
      have k1 : ((k : Int) + 1).toNat = k + 1 := by omega
      have k2 : 0 ≤ (k : Int) + 1 := by omega
      go_wp2_with fail
      (refine wp_region_ext (by kernel_rfl) (by kernel_rfl) ?_; have hxe := ext_cells; (repeat (go_big_quiet_step (fail))); refine wpQuiet_nil ?_; intro w' hw'; obtain ⟨nx, hw''⟩ := hw'; have hbx := ext_out hw''; clear hw'' nx hxe; have hB : Below w.heap.size w w' := Below.thenn (by repeat (first | exact Below.refl _ _ | assumption | apply Below.drew | apply below_drewN | (refine Below.alloc ?_ (by first | omega | (simp; done) | (simp; omega)) _) | (refine Below.setCell ?_ (by first | omega | (simp; done) | (simp; omega)) _))) hbx (by first | omega | (simp; done) | (simp; omega)); have hz : w.heap.size ≤ w'.heap.size := hB.size; obtain ⟨hc, hf⟩ := bcell hbx; have HO2 := Lib.hid (HO.out.below hbx); clear hbx)
      generalize tk + x * (y1 - y0) + R = nx at *
      rcases b with _ | _
      · go_wp2_with (at_builtin; refine wp_app_int rfl (.tmp 44) (.tmp 46) rfl w' w.heap.size _ (tnL rows x ct R (k + 1)) nx rfl HO2.out rfl (by have := HL.out; omega) hz ?_; intro A1 c1 w5 hown1 hb1; have HO5 := Lib.hid hown1; have HB5 := Lib.hid hb1; clear hown1 hb1)
        go_roundg (n - (k + 1 + 1))
        case measure => omega
        case rel => exact ⟨k + 1, false, A1, c1, by omega, by omega, by go_num, rfl, by simp [HL.out], (Below.trans hB HB5.out), Nat.le_trans hz HB5.out.size, (by have h := HO5.out; rw [List.length_append, HL.out, ← HN.out] at h; exact h), by rw [HTB.out, HT.out]; rfl⟩
      · by_cases hp : 0 ≤ nx
        · have hd : decide (0 ≤ nx) = true := decide_eq_true hp
          go_wp2_with (at_builtin; refine wp_app_int rfl (.tmp 44) (.tmp 46) rfl w' w.heap.size _ (tnL rows x ct R (k + 1)) nx rfl HO2.out rfl (by have := HL.out; omega) hz ?_; intro A1 c1 w5 hown1 hb1; have HO5 := Lib.hid hown1; have HB5 := Lib.hid hb1; clear hown1 hb1)
          go_roundg (n - (k + 1 + 1))
          case measure => omega
          case rel => exact ⟨k + 1, true, A1, c1, by omega, by omega, by go_num, rfl, by simp [HL.out], (Below.trans hB HB5.out), Nat.le_trans hz HB5.out.size, (by have h := HO5.out; rw [List.length_append, HL.out, ← HN.out] at h; exact h), by rw [HTB.out, HT.out, hd]; rfl⟩
        · have hd : decide (0 ≤ nx) = false := decide_eq_false hp
          go_wp2_with (at_builtin; refine wp_app_int rfl (.tmp 44) (.tmp 46) rfl w' w.heap.size _ (tnL rows x ct R (k + 1)) nx rfl HO2.out rfl (by have := HL.out; omega) hz ?_; intro A1 c1 w5 hown1 hb1; have HO5 := Lib.hid hown1; have HB5 := Lib.hid hb1; clear hown1 hb1)
          go_roundg (n - (k + 1 + 1))
          case measure => omega
          case rel => exact ⟨k + 1, false, A1, c1, by omega, by omega, by go_num, rfl, by simp [HL.out], (Below.trans hB HB5.out), Nat.le_trans hz HB5.out.size, (by have h := HO5.out; rw [List.length_append, HL.out, ← HN.out] at h; exact h), by rw [HTB.out, HT.out, hd]; rfl⟩
    · have hkn : k + 1 = n := by omega
      subst hkn
      go_wp2_with fail
      go_ret2
      have e := tnL_len rows x ct R (k + 1)
      refine ⟨A', c', ?_, ?_, Below.thenn HHW.out hBr HHW.out.size⟩
      · rw [e, show k + 1 - 1 = k from rfl, HT.out]; rfl
      · rw [e]; exact HO.out.base hwz
end Go.Proofs.Ytjfmicemnoglkaa
