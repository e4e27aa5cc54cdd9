/- The least counterweight: the reference's. -/
import Derived.Test.YtjfmicemnoglkaaTenG
namespace Go.Proofs.Ytjfmicemnoglkaa
open Go.RowKit
set_option linter.unusedVariables false
set_option linter.unusedSimpArgs false

def fD (rows : List (List Int)) (x ct R : Int) (i : Nat) : Int := tnN rows x ct R i - ct
theorem lc_fD {rows : List (List Int)} {x c r : Int} {n : Nat} (h : rows.length = n) : max 1 (-(mnF (mnF 0 (fD rows x c (-r)) n) (fD rows x c r) n)) = lcN rows x c r ∧ mnF (mnF 0 (fD rows x c (-r)) n) (fD rows x c r) n ≤ 0 := by
  subst h
  refine ⟨lc_spec rows x c r, ?_⟩
  have := (le_mnF (z := mnF (mnF 0 (fD rows x c (-r)) rows.length) (fD rows x c r) rows.length)).1 (Int.le_refl _)
  exact ((le_mnF).1 this.1).1
set_option maxRecDepth 100000 in
set_option maxHeartbeats 8000000 in
theorem spec_LeastCounter (A : Option Addr) (n c : Nat) (rows : List (List Int)) (x ct r : Int) (wo : World) (h : RdL wo A n rows) (hm : n ≤ 1048577) :
    Calls Try.prog 62 #[.slice A n c, .agg #[.int .i64 x, .int .i64 ct, .int .i64 r]] wo (Ret wo (.tuple #[.int .i64 (lcV rows x ct r), .bool (lcOk rows x ct r)])) := by
  have ci := fun w' (h' : RdL w' A n rows) => spec_l6Asked A n c rows x ct r w' h' hm
  rcases ho : (lineOk rows && caseOk x ct r) with _ | _
  · rw [ho] at ci
    have hk : lcOk rows x ct r = false := by unfold lcOk; rw [← Bool.and_assoc, ho, Bool.false_and]
    rw [hk, lc_no hk]
    have CI := Lib.hid ci
    clear ci ho hk
    go_enter Try.func62, Try.ntmps62
    go_wp2_with fail
    (have hWV : Below wo.heap.size wo (wo.alloc (.cells #[.int .i64 x, .int .i64 ct, .int .i64 r] 70)) := (Below.refl _ _).alloc (Nat.le_refl _) _; have hV0 : wo.heap.size < (wo.alloc (.cells #[.int .i64 x, .int .i64 ct, .int .i64 r] 70)).heap.size := (by simp); have hv0 : (wo.alloc (.cells #[.int .i64 x, .int .i64 ct, .int .i64 r] 70)).cell? ⟨wo.heap.size, 0, none⟩ = some (.int .i64 x) := (by rw [cell_of_row _ _ _ _ _ _ (heap_alloc_new wo _)]; rfl); have hv1 : (wo.alloc (.cells #[.int .i64 x, .int .i64 ct, .int .i64 r] 70)).cell? ⟨wo.heap.size, 1, none⟩ = some (.int .i64 ct) := (by rw [cell_of_row _ _ _ _ _ _ (heap_alloc_new wo _)]; rfl); have hv2 : (wo.alloc (.cells #[.int .i64 x, .int .i64 ct, .int .i64 r] 70)).cell? ⟨wo.heap.size, 2, none⟩ = some (.int .i64 r) := (by rw [cell_of_row _ _ _ _ _ _ (heap_alloc_new wo _)]; rfl); have HHW := Lib.hid hWV; have HV1 : Hid (wo.heap.size + 1 = (wo.alloc (.cells #[.int .i64 x, .int .i64 ct, .int .i64 r] 70)).heap.size) := (show _ = _ by simp); generalize wo.alloc (.cells #[.int .i64 x, .int .i64 ct, .int .i64 r] 70) = w at hWV HHW hV0 HV1 hv0 hv1 hv2 ⊢; have HH := Lib.hid (h.below hWV); have hB : Below w.heap.size w w := Below.refl _ _; have hwz : wo.heap.size ≤ w.heap.size := hWV.size; (try rw [HV1.out]); clear hWV)
    go_wp2_with (go_at_call 129; refine (CI.out _ (by exact HH.out.below (by repeat (first | exact Below.refl _ _ | assumption | apply Below.drew | apply below_drewN | (refine Below.alloc ?_ (by first | omega | (simp; done) | (simp; omega)) _) | (refine Below.setCell ?_ (by first | omega | (simp; done) | (simp; omega)) _))))).mono ?_; rintro e w' ⟨rfl, hb⟩; have hB : Below w.heap.size w w' := Below.thenn (by repeat (first | exact Below.refl _ _ | assumption | apply Below.drew | apply below_drewN | (refine Below.alloc ?_ (by first | omega | (simp; done) | (simp; omega)) _) | (refine Below.setCell ?_ (by first | omega | (simp; done) | (simp; omega)) _))) hb (by first | omega | (simp; done) | (simp; omega)); have hz : w.heap.size ≤ w'.heap.size := hB.size; (try (have hz1 : w.heap.size + 1 ≤ w'.heap.size := (by have h := hb.size; (try simp at h); omega))); obtain ⟨hc, hf⟩ := bcell hb; (have b0 := (hB.cell (p := ⟨wo.heap.size, 0, none⟩) hV0).trans hv0; have b1 := (hB.cell (p := ⟨wo.heap.size, 1, none⟩) hV0).trans hv1; have b2 := (hB.cell (p := ⟨wo.heap.size, 2, none⟩) hV0).trans hv2; have hVk : wo.heap.size < w'.heap.size := Nat.lt_of_lt_of_le hV0 hB.size); clear hb)
    go_ret2
    exact ⟨rfl, (Below.thenn HHW.out (show Below w.heap.size w _ from (by repeat (first | exact Below.refl _ _ | assumption | apply Below.drew | apply below_drewN | (refine Below.alloc ?_ (by first | omega | (simp; done) | (simp; omega)) _) | (refine Below.setCell ?_ (by first | omega | (simp; done) | (simp; omega)) _)))) HHW.out.size)⟩
  · rw [ho] at ci
    simp only [Bool.and_eq_true] at ho
    obtain ⟨ho, hr⟩ := ho
    obtain ⟨r1, r2, r3⟩ := caseOk_iff.1 hr
    have ct' := fun (R sg : Int) (hR : -1000 ≤ R ∧ R ≤ 1000) (hs : sg * r = R) w' (h' : RdL w' A n rows) => spec_l6Tensions A n c rows x ct r R sg w' h' ho r1 (by omega) hR hs
    have L := lineOk_line ho
    have hn := h.2.1
    have hhi := L.hi
    have hlo := L.lo
    rw [hn] at hhi hlo
    have TB := Lib.hid (fun (R : Int) (hR : -1000 ≤ R ∧ R ≤ 1000) (k : Nat) (hk : k < n) => tn_in L r1 (c := ct) (by omega) hR (k := k) (by omega))
    have HLC := Lib.hid (lc_fD (x := x) (c := ct) (r := r) hn)
    have hb := lc_bd ho hr
    have HOK := Lib.hid (show lcOk rows x ct r = decide (lcN rows x ct r ≤ 1000000) by unfold lcOk; rw [ho, hr]; rfl)
    have CI := Lib.hid ci
    have CT := Lib.hid ct'
    have HN := Lib.hid hn
    clear ci ct' ho hr L hn
    have HVY := Lib.hid (fun (hk : lcOk rows x ct r = true) => lc_yes hk)
    have HVN := Lib.hid (fun (hk : lcOk rows x ct r = false) => lc_no hk)
    generalize lcN rows x ct r = lc at *
    generalize lcV rows x ct r = V at *
    generalize lcOk rows x ct r = ok at *
    go_enter Try.func62, Try.ntmps62
    go_wp2_with fail
    (have hWV : Below wo.heap.size wo (wo.alloc (.cells #[.int .i64 x, .int .i64 ct, .int .i64 r] 70)) := (Below.refl _ _).alloc (Nat.le_refl _) _; have hV0 : wo.heap.size < (wo.alloc (.cells #[.int .i64 x, .int .i64 ct, .int .i64 r] 70)).heap.size := (by simp); have hv0 : (wo.alloc (.cells #[.int .i64 x, .int .i64 ct, .int .i64 r] 70)).cell? ⟨wo.heap.size, 0, none⟩ = some (.int .i64 x) := (by rw [cell_of_row _ _ _ _ _ _ (heap_alloc_new wo _)]; rfl); have hv1 : (wo.alloc (.cells #[.int .i64 x, .int .i64 ct, .int .i64 r] 70)).cell? ⟨wo.heap.size, 1, none⟩ = some (.int .i64 ct) := (by rw [cell_of_row _ _ _ _ _ _ (heap_alloc_new wo _)]; rfl); have hv2 : (wo.alloc (.cells #[.int .i64 x, .int .i64 ct, .int .i64 r] 70)).cell? ⟨wo.heap.size, 2, none⟩ = some (.int .i64 r) := (by rw [cell_of_row _ _ _ _ _ _ (heap_alloc_new wo _)]; rfl); have HHW := Lib.hid hWV; have HV1 : Hid (wo.heap.size + 1 = (wo.alloc (.cells #[.int .i64 x, .int .i64 ct, .int .i64 r] 70)).heap.size) := (show _ = _ by simp); generalize wo.alloc (.cells #[.int .i64 x, .int .i64 ct, .int .i64 r] 70) = w at hWV HHW hV0 HV1 hv0 hv1 hv2 ⊢; have HH := Lib.hid (h.below hWV); have hB : Below w.heap.size w w := Below.refl _ _; have hwz : wo.heap.size ≤ w.heap.size := hWV.size; (try rw [HV1.out]); clear hWV)
    go_wp2_with (go_at_call 129; refine (CI.out _ (by exact HH.out.below (by repeat (first | exact Below.refl _ _ | assumption | apply Below.drew | apply below_drewN | (refine Below.alloc ?_ (by first | omega | (simp; done) | (simp; omega)) _) | (refine Below.setCell ?_ (by first | omega | (simp; done) | (simp; omega)) _))))).mono ?_; rintro e w' ⟨rfl, hb⟩; have hB : Below w.heap.size w w' := Below.thenn (by repeat (first | exact Below.refl _ _ | assumption | apply Below.drew | apply below_drewN | (refine Below.alloc ?_ (by first | omega | (simp; done) | (simp; omega)) _) | (refine Below.setCell ?_ (by first | omega | (simp; done) | (simp; omega)) _))) hb (by first | omega | (simp; done) | (simp; omega)); have hz : w.heap.size ≤ w'.heap.size := hB.size; (try (have hz1 : w.heap.size + 1 ≤ w'.heap.size := (by have h := hb.size; (try simp at h); omega))); obtain ⟨hc, hf⟩ := bcell hb; (have b0 := (hB.cell (p := ⟨wo.heap.size, 0, none⟩) hV0).trans hv0; have b1 := (hB.cell (p := ⟨wo.heap.size, 1, none⟩) hV0).trans hv1; have b2 := (hB.cell (p := ⟨wo.heap.size, 2, none⟩) hV0).trans hv2; have hVk : wo.heap.size < w'.heap.size := Nat.lt_of_lt_of_le hV0 hB.size); clear hb)
    clear hc hf b0 b1 b2
    go_loopg [6, 7] 3 (fun g le i wr => ∃ (j : Nat) (m s : Int), j ≤ 2 ∧ 2 ≤ j + g ∧ 2 * (j : Int) - 1 ≤ s ∧ s ≤ 2 * (j : Int) - 1 ∧ i = .int .i64 s ∧ le = .int .i64 m ∧ Below w.heap.size w wr ∧ Hid ((j = 0 → m = 0) ∧ (j = 1 → m = mnF 0 (fD rows x ct (-r)) n) ∧ (j = 2 → m = mnF (mnF 0 (fD rows x ct (-r)) n) (fD rows x ct r) n)))
    case atStart => exact ⟨0, 0, -1, by omega, by omega, by omega, by omega, rfl, rfl, hB, ⟨fun _ => rfl, fun h => absurd h (by omega), fun h => absurd h (by omega)⟩⟩
    case round =>
      obtain ⟨j, m, s, hj1, hj2, hs1, hs2, rfl, rfl, hBr, HM⟩ := hrel
      have hwr : w.heap.size ≤ wr.heap.size := hBr.size
      have b0 := (hBr.cell (p := ⟨wo.heap.size, 0, none⟩) hV0).trans hv0
      have b1 := (hBr.cell (p := ⟨wo.heap.size, 1, none⟩) hV0).trans hv1
      have b2 := (hBr.cell (p := ⟨wo.heap.size, 2, none⟩) hV0).trans hv2
      have hVr : wo.heap.size < wr.heap.size := by omega
      by_cases hj : j < 2
      · have key : ∃ R : Int, (-1000 ≤ R ∧ R ≤ 1000) ∧ s * r = R ∧ (j + 1 = 1 → mnF m (fD rows x ct R) n = mnF 0 (fD rows x ct (-r)) n) ∧ (j + 1 = 2 → mnF m (fD rows x ct R) n = mnF (mnF 0 (fD rows x ct (-r)) n) (fD rows x ct r) n) := by
          have hjj : j = 0 ∨ j = 1 := by omega
          rcases hjj with rfl | rfl
          · have e : s = -1 := by omega
            subst e
            exact ⟨-r, by omega, by omega, fun _ => by rw [HM.out.1 rfl], fun h => absurd h (by omega)⟩
          · have e : s = 1 := by omega
            subst e
            exact ⟨r, by omega, by omega, fun h => absurd h (by omega), fun _ => by rw [HM.out.2.1 rfl]⟩
        obtain ⟨R, hR, hsr, hnx⟩ := key
        have HNX := Lib.hid hnx
        have TBR := Lib.hid (TB.out R hR)
        have l1 := tnL_len rows x ct R n
        have ez := Lib.hid (fun (j : Nat) (hj : j < n) => tnL_at (rows := rows) (w := x) (c := ct) (R := R) hj)
        have CTR := Lib.hid (CT.out R s hR hsr)
        have FE : Hid (∀ k, fD rows x ct R k = tnN rows x ct R k - ct) := Lib.hid (fun k => rfl)
        have hs3 : s ≤ 1 := by omega
        generalize tnL rows x ct R n = zs at *
        generalize tnB rows x ct R (n - 1) = bb at *
        have L1 := Lib.hid l1
        clear l1 hnx hsr
        go_wp2_with (go_at_call 130; refine (CTR.out _ (by exact HH.out.below (by repeat (first | exact Below.refl _ _ | assumption | apply Below.drew | apply below_drewN | (refine Below.alloc ?_ (by first | omega | (simp; done) | (simp; omega)) _) | (refine Below.setCell ?_ (by first | omega | (simp; done) | (simp; omega)) _))))).mono ?_; rintro e w' ⟨A2, c2, rfl, ho, hb⟩; have hB : Below w.heap.size w w' := Below.thenn (by repeat (first | exact Below.refl _ _ | assumption | apply Below.drew | apply below_drewN | (refine Below.alloc ?_ (by first | omega | (simp; done) | (simp; omega)) _) | (refine Below.setCell ?_ (by first | omega | (simp; done) | (simp; omega)) _))) hb (by first | omega | (simp; done) | (simp; omega)); have O2 := Lib.hid ho; have hz : w.heap.size ≤ w'.heap.size := hB.size; (try (have hz1 : w.heap.size + 1 ≤ w'.heap.size := (by have h := hb.size; (try simp at h); omega))); have HQ := Lib.hid hb; obtain ⟨hc, hf⟩ := bcell hb; (have b0 := (hB.cell (p := ⟨wo.heap.size, 0, none⟩) hV0).trans hv0; have b1 := (hB.cell (p := ⟨wo.heap.size, 1, none⟩) hV0).trans hv1; have b2 := (hB.cell (p := ⟨wo.heap.size, 2, none⟩) hV0).trans hv2; have hVk : wo.heap.size < w'.heap.size := Nat.lt_of_lt_of_le hV0 hB.size); clear hb ho)
        have hzn : zs.length ≤ n ∧ n ≤ zs.length := by have := L1.out; omega
        clear hc hf b0 b1 b2
        go_loopg [6, 10] n (fun g le i wy => ∃ (k : Nat) (m2 : Int), k ≤ n ∧ n ≤ k + g ∧ i = .int .i64 k ∧ le = .int .i64 m2 ∧ Below w'.heap.size w' wy ∧ Hid (mnF m (fD rows x ct R) k = m2))
        case atStart => exact ⟨0, m, by omega, by omega, rfl, rfl, Below.refl _ _, rfl⟩
        case round =>
          obtain ⟨k, m2, hk1, hk2, rfl, rfl, hBy, HK⟩ := hrel
          have hBw : Below w.heap.size w wr := Below.thenn hB hBy hB.size
          have hwr2 : w.heap.size ≤ wr.heap.size := hBw.size
          by_cases hlt : k < n
          · obtain ⟨p1, o1, tk, rfl, hv, hc1⟩ := O2.out.rd.at1 (k := k) (by omega)
            have hp1 : p1 < w'.heap.size := World.block_lt_of_cell? _ _ hc1
            have hc2 := (hBy.cell (p := ⟨p1, o1 + k, none⟩) hp1).trans hc1
            have hpr : p1 < wr.heap.size := Nat.lt_of_lt_of_le hp1 hBy.size
            have b1' := (hBw.cell (p := ⟨wo.heap.size, 1, none⟩) hV0).trans hv1
            have hVr2 : wo.heap.size < wr.heap.size := by omega
            rw [ez.out k hlt] at hv
            injection hv with hv
            have tb := TBR.out k hlt
            have fe := FE.out k
            rw [hv] at tb fe
            have FF := Lib.hid fe
            clear fe hv hc1
            have hkz : k < zs.length := by omega
            have u1 : IntKind.i64.wrap (tk - ct) = tk - ct := IntWalk.i64_in _ (by omega)
            go_wp2_with fail
            (refine wp_region_ext (by kernel_rfl) (by kernel_rfl) ?_; have hxe := ext_cells; (repeat (go_big_quiet_step ((go_at_call 131; exact ext_pure (spec_l1Least _ _ _))))); refine wpQuiet_nil ?_; intro w' hw'; obtain ⟨nx, hw''⟩ := hw'; have hbx := ext_out hw''; clear hw'' nx hxe; have hB : Below w.heap.size w w' := Below.thenn (by repeat (first | exact Below.refl _ _ | assumption | apply Below.drew | apply below_drewN | (refine Below.alloc ?_ (by first | omega | (simp; done) | (simp; omega)) _) | (refine Below.setCell ?_ (by first | omega | (simp; done) | (simp; omega)) _))) hbx (by first | omega | (simp; done) | (simp; omega)); have hz : w.heap.size ≤ w'.heap.size := hB.size; obtain ⟨hc, hf⟩ := bcell hbx; have hBx := Lib.hid (Below.thenn hBy hbx hBy.size); clear hbx)
            go_wp2_with fail
            all_goals go_roundg (n - (k + 1))
            all_goals first
              | omega
              | exact ⟨k + 1, _, by omega, by omega, by go_num, rfl, hBx.out, (show mnF m (fD rows x ct R) (k + 1) = _ by show min (mnF m (fD rows x ct R) k) (fD rows x ct R k) = _; rw [HK.out, FF.out])⟩
          · have hkn : k = n := by omega
            have hkz : ¬ k < zs.length := by omega
            have hm2 : mnF m (fD rows x ct R) n = m2 := by rw [← hkn]; exact HK.out
            have HM2 := Lib.hid hm2
            clear hm2 hkn
            go_wp2_with fail
            go_roundg (2 - (j + 1))
            case measure => omega
            case rel => exact ⟨j + 1, m2, s + 2, by omega, by omega, by omega, by omega, rfl, rfl, hBw, ⟨fun h => absurd h (by omega), fun h => by rw [← HM2.out]; exact HNX.out.1 h, fun h => by rw [← HM2.out]; exact HNX.out.2 h⟩⟩
      · have hj2 : j = 2 := by omega
        subst hj2
        have hml : max 1 (-m) = lc ∧ m ≤ 0 := by rw [HM.out.2.2 rfl]; exact HLC.out
        obtain ⟨hmx, hm0⟩ := hml
        have un : IntKind.i64.wrap (-m) = -m := IntWalk.i64_in _ (by omega)
        have hs3 : ¬ s ≤ 1 := by omega
        by_cases hle : lc ≤ 1000000
        · have hk : ok = true := HOK.out.trans (decide_eq_true hle)
          have hv := HVY.out hk
          subst hk hv
          have hcc : decide (1000000 < V) = false := by simp; omega
          go_wp2_with (go_at_call 108; refine (spec_l1Most _ _ _).mono ?_; rintro e w' ⟨rfl, rfl⟩)
          go_ret2
          exact ⟨ret_ib (by first | rfl | exact hmx) rfl, (Below.thenn HHW.out (show Below w.heap.size w _ from (by repeat (first | exact Below.refl _ _ | assumption | apply Below.drew | apply below_drewN | (refine Below.alloc ?_ (by first | omega | (simp; done) | (simp; omega)) _) | (refine Below.setCell ?_ (by first | omega | (simp; done) | (simp; omega)) _)))) HHW.out.size)⟩
        · have hk : ok = false := HOK.out.trans (decide_eq_false hle)
          have hv := HVN.out hk
          subst hk hv
          have hcc : decide (1000000 < lc) = true := by simp; omega
          go_wp2_with (go_at_call 108; refine (spec_l1Most _ _ _).mono ?_; rintro e w' ⟨rfl, rfl⟩)
          go_ret2
          exact ⟨rfl, (Below.thenn HHW.out (show Below w.heap.size w _ from (by repeat (first | exact Below.refl _ _ | assumption | apply Below.drew | apply below_drewN | (refine Below.alloc ?_ (by first | omega | (simp; done) | (simp; omega)) _) | (refine Below.setCell ?_ (by first | omega | (simp; done) | (simp; omega)) _)))) HHW.out.size)⟩
end Go.Proofs.Ytjfmicemnoglkaa
