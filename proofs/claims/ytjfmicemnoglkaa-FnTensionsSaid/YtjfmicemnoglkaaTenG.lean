/- The least counterweight: the program's. -/
import Derived.Test.YtjfmicemnoglkaaTenE
namespace Go.Proofs.Ytjfmicemnoglkaa
open Go.RowKit
set_option linter.unusedVariables false
set_option linter.unusedSimpArgs false

def fR (rows : List (List Int)) (x ct R : Int) (i : Nat) : Int := ct - tnN rows x ct R i
theorem lc_no {rows : List (List Int)} {x c r : Int} (h : lcOk rows x c r = false) : lcV rows x c r = 0 := by simp [lcV, h]
theorem lc_yes {rows : List (List Int)} {x c r : Int} (h : lcOk rows x c r = true) : lcV rows x c r = lcN rows x c r := by simp [lcV, h]
theorem lcN_fR {rows : List (List Int)} {x c r : Int} {n : Nat} (h : rows.length = n) : lcN rows x c r = mxF (mxF 1 (fR rows x c r) n) (fR rows x c (-r)) n := by subst h; rfl
set_option maxRecDepth 100000 in
set_option maxHeartbeats 8000000 in
theorem impl_LeastCounter (A : Option Addr) (n c : Nat) (rows : List (List Int)) (x ct r : Int) (wo : World) (h : RdL wo A n rows) (hm : n ≤ 1048577) :
    Calls Try.prog 60 #[.slice A n c, .agg #[.int .i64 x, .int .i64 ct, .int .i64 r]] wo (Ret wo (.tuple #[.int .i64 (lcV rows x ct r), .bool (lcOk rows x ct r)])) := by
  have ci := fun w' (h' : RdL w' A n rows) => impl_IsLine A n c rows w' h' hm
  have cr := fun w' => impl_IsLoadCase x ct r w'
  rcases ho : lineOk rows with _ | _
  · rw [ho] at ci
    have hk : lcOk rows x ct r = false := by simp [lcOk, ho]
    rw [hk, lc_no hk]
    have CI := Lib.hid ci
    clear ci cr ho hk
    go_enter Try.func60, Try.ntmps60
    go_wp2_with fail
    (have hWV : Below wo.heap.size wo (wo.alloc (.cells #[.int .i64 x, .int .i64 ct, .int .i64 r] 70)) := (Below.refl _ _).alloc (Nat.le_refl _) _; have hV0 : wo.heap.size < (wo.alloc (.cells #[.int .i64 x, .int .i64 ct, .int .i64 r] 70)).heap.size := (by simp); have hv0 : (wo.alloc (.cells #[.int .i64 x, .int .i64 ct, .int .i64 r] 70)).cell? ⟨wo.heap.size, 0, none⟩ = some (.int .i64 x) := (by rw [cell_of_row _ _ _ _ _ _ (heap_alloc_new wo _)]; rfl); have hv1 : (wo.alloc (.cells #[.int .i64 x, .int .i64 ct, .int .i64 r] 70)).cell? ⟨wo.heap.size, 1, none⟩ = some (.int .i64 ct) := (by rw [cell_of_row _ _ _ _ _ _ (heap_alloc_new wo _)]; rfl); have hv2 : (wo.alloc (.cells #[.int .i64 x, .int .i64 ct, .int .i64 r] 70)).cell? ⟨wo.heap.size, 2, none⟩ = some (.int .i64 r) := (by rw [cell_of_row _ _ _ _ _ _ (heap_alloc_new wo _)]; rfl); have HHW := Lib.hid hWV; have HV1 : Hid (wo.heap.size + 1 = (wo.alloc (.cells #[.int .i64 x, .int .i64 ct, .int .i64 r] 70)).heap.size) := (show _ = _ by simp); generalize wo.alloc (.cells #[.int .i64 x, .int .i64 ct, .int .i64 r] 70) = w at hWV HHW hV0 HV1 hv0 hv1 hv2 ⊢; have HH := Lib.hid (h.below hWV); have hB : Below w.heap.size w w := Below.refl _ _; have hwz : wo.heap.size ≤ w.heap.size := hWV.size; (try rw [HV1.out]); clear hWV)
    go_wp2_with (go_at_call 107; refine (CI.out _ (by exact HH.out.below (by repeat (first | exact Below.refl _ _ | assumption | apply Below.drew | apply below_drewN | (refine Below.alloc ?_ (by first | omega | (simp; done) | (simp; omega)) _) | (refine Below.setCell ?_ (by first | omega | (simp; done) | (simp; omega)) _))))).mono ?_; rintro e w' ⟨rfl, hb⟩; have hB : Below w.heap.size w w' := Below.thenn (by repeat (first | exact Below.refl _ _ | assumption | apply Below.drew | apply below_drewN | (refine Below.alloc ?_ (by first | omega | (simp; done) | (simp; omega)) _) | (refine Below.setCell ?_ (by first | omega | (simp; done) | (simp; omega)) _))) hb (by first | omega | (simp; done) | (simp; omega)); have hz : w.heap.size ≤ w'.heap.size := hB.size; (try (have hz1 : w.heap.size + 1 ≤ w'.heap.size := (by have h := hb.size; (try simp at h); omega))); obtain ⟨hc, hf⟩ := bcell hb; (have b0 := (hB.cell (p := ⟨wo.heap.size, 0, none⟩) hV0).trans hv0; have b1 := (hB.cell (p := ⟨wo.heap.size, 1, none⟩) hV0).trans hv1; have b2 := (hB.cell (p := ⟨wo.heap.size, 2, none⟩) hV0).trans hv2; have hVk : wo.heap.size < w'.heap.size := Nat.lt_of_lt_of_le hV0 hB.size); clear hb)
    go_ret2
    exact ⟨rfl, (Below.thenn HHW.out (show Below w.heap.size w _ from (by repeat (first | exact Below.refl _ _ | assumption | apply Below.drew | apply below_drewN | (refine Below.alloc ?_ (by first | omega | (simp; done) | (simp; omega)) _) | (refine Below.setCell ?_ (by first | omega | (simp; done) | (simp; omega)) _)))) HHW.out.size)⟩
  rw [ho] at ci
  rcases hr : caseOk x ct r with _ | _
  · rw [hr] at cr
    have hk : lcOk rows x ct r = false := by simp [lcOk, hr]
    rw [hk, lc_no hk]
    have CI := Lib.hid ci
    have CR := Lib.hid cr
    clear ci cr ho hk hr
    go_enter Try.func60, Try.ntmps60
    go_wp2_with fail
    (have hWV : Below wo.heap.size wo (wo.alloc (.cells #[.int .i64 x, .int .i64 ct, .int .i64 r] 70)) := (Below.refl _ _).alloc (Nat.le_refl _) _; have hV0 : wo.heap.size < (wo.alloc (.cells #[.int .i64 x, .int .i64 ct, .int .i64 r] 70)).heap.size := (by simp); have hv0 : (wo.alloc (.cells #[.int .i64 x, .int .i64 ct, .int .i64 r] 70)).cell? ⟨wo.heap.size, 0, none⟩ = some (.int .i64 x) := (by rw [cell_of_row _ _ _ _ _ _ (heap_alloc_new wo _)]; rfl); have hv1 : (wo.alloc (.cells #[.int .i64 x, .int .i64 ct, .int .i64 r] 70)).cell? ⟨wo.heap.size, 1, none⟩ = some (.int .i64 ct) := (by rw [cell_of_row _ _ _ _ _ _ (heap_alloc_new wo _)]; rfl); have hv2 : (wo.alloc (.cells #[.int .i64 x, .int .i64 ct, .int .i64 r] 70)).cell? ⟨wo.heap.size, 2, none⟩ = some (.int .i64 r) := (by rw [cell_of_row _ _ _ _ _ _ (heap_alloc_new wo _)]; rfl); have HHW := Lib.hid hWV; have HV1 : Hid (wo.heap.size + 1 = (wo.alloc (.cells #[.int .i64 x, .int .i64 ct, .int .i64 r] 70)).heap.size) := (show _ = _ by simp); generalize wo.alloc (.cells #[.int .i64 x, .int .i64 ct, .int .i64 r] 70) = w at hWV HHW hV0 HV1 hv0 hv1 hv2 ⊢; have HH := Lib.hid (h.below hWV); have hB : Below w.heap.size w w := Below.refl _ _; have hwz : wo.heap.size ≤ w.heap.size := hWV.size; (try rw [HV1.out]); clear hWV)
    go_wp2_with (first | (go_at_call 107; refine (CI.out _ (by exact HH.out.below (by repeat (first | exact Below.refl _ _ | assumption | apply Below.drew | apply below_drewN | (refine Below.alloc ?_ (by first | omega | (simp; done) | (simp; omega)) _) | (refine Below.setCell ?_ (by first | omega | (simp; done) | (simp; omega)) _))))).mono ?_; rintro e w' ⟨rfl, hb⟩; have hB : Below w.heap.size w w' := Below.thenn (by repeat (first | exact Below.refl _ _ | assumption | apply Below.drew | apply below_drewN | (refine Below.alloc ?_ (by first | omega | (simp; done) | (simp; omega)) _) | (refine Below.setCell ?_ (by first | omega | (simp; done) | (simp; omega)) _))) hb (by first | omega | (simp; done) | (simp; omega)); have hz : w.heap.size ≤ w'.heap.size := hB.size; (try (have hz1 : w.heap.size + 1 ≤ w'.heap.size := (by have h := hb.size; (try simp at h); omega))); obtain ⟨hc, hf⟩ := bcell hb; (have b0 := (hB.cell (p := ⟨wo.heap.size, 0, none⟩) hV0).trans hv0; have b1 := (hB.cell (p := ⟨wo.heap.size, 1, none⟩) hV0).trans hv1; have b2 := (hB.cell (p := ⟨wo.heap.size, 2, none⟩) hV0).trans hv2; have hVk : wo.heap.size < w'.heap.size := Nat.lt_of_lt_of_le hV0 hB.size); clear hb) | (go_at_call 55; refine (CR.out _).mono ?_; rintro e w' ⟨rfl, hb⟩; have hB : Below w.heap.size w w' := Below.thenn (by repeat (first | exact Below.refl _ _ | assumption | apply Below.drew | apply below_drewN | (refine Below.alloc ?_ (by first | omega | (simp; done) | (simp; omega)) _) | (refine Below.setCell ?_ (by first | omega | (simp; done) | (simp; omega)) _))) hb (by first | omega | (simp; done) | (simp; omega)); have hz : w.heap.size ≤ w'.heap.size := hB.size; (try (have hz1 : w.heap.size + 1 ≤ w'.heap.size := (by have h := hb.size; (try simp at h); omega))); obtain ⟨hc, hf⟩ := bcell hb; (have b0 := (hB.cell (p := ⟨wo.heap.size, 0, none⟩) hV0).trans hv0; have b1 := (hB.cell (p := ⟨wo.heap.size, 1, none⟩) hV0).trans hv1; have b2 := (hB.cell (p := ⟨wo.heap.size, 2, none⟩) hV0).trans hv2; have hVk : wo.heap.size < w'.heap.size := Nat.lt_of_lt_of_le hV0 hB.size); clear hb))
    go_ret2
    exact ⟨rfl, (Below.thenn HHW.out (show Below w.heap.size w _ from (by repeat (first | exact Below.refl _ _ | assumption | apply Below.drew | apply below_drewN | (refine Below.alloc ?_ (by first | omega | (simp; done) | (simp; omega)) _) | (refine Below.setCell ?_ (by first | omega | (simp; done) | (simp; omega)) _)))) HHW.out.size)⟩
  · rw [hr] at cr
    obtain ⟨r1, r2, r3⟩ := caseOk_iff.1 hr
    have ct' := fun (R : Int) (hR : -1000 ≤ R ∧ R ≤ 1000) w' (h' : RdL w' A n rows) => impl_tensions A n c rows x ct r R w' h' ho r1 (by omega) hR
    have L := lineOk_line ho
    have hn := h.2.1
    have hhi := L.hi
    have hlo := L.lo
    rw [hn] at hhi hlo
    have TB := Lib.hid (fun (R : Int) (hR : -1000 ≤ R ∧ R ≤ 1000) (k : Nat) (hk : k < n) => tn_in L r1 (c := ct) (by omega) hR (k := k) (by omega))
    have HLC := Lib.hid (lcN_fR (x := x) (c := ct) (r := r) hn)
    have hb := lc_bd ho hr
    have HOK := Lib.hid (show lcOk rows x ct r = decide (lcN rows x ct r ≤ 1000000) by unfold lcOk; rw [ho, hr]; rfl)
    have un : IntKind.i64.wrap (-r) = -r := IntWalk.i64_in _ (by omega)
    have CI := Lib.hid ci
    have CR := Lib.hid cr
    have CT := Lib.hid ct'
    have HN := Lib.hid hn
    clear ci cr ct' ho hr L hn
    have HVY := Lib.hid (fun (hk : lcOk rows x ct r = true) => lc_yes hk)
    have HVN := Lib.hid (fun (hk : lcOk rows x ct r = false) => lc_no hk)
    generalize lcN rows x ct r = lc at *
    generalize lcV rows x ct r = V at *
    generalize lcOk rows x ct r = ok at *
    go_enter Try.func60, Try.ntmps60
    go_wp2_with fail
    (have hWV : Below wo.heap.size wo (wo.alloc (.cells #[.int .i64 x, .int .i64 ct, .int .i64 r] 70)) := (Below.refl _ _).alloc (Nat.le_refl _) _; have hV0 : wo.heap.size < (wo.alloc (.cells #[.int .i64 x, .int .i64 ct, .int .i64 r] 70)).heap.size := (by simp); have hv0 : (wo.alloc (.cells #[.int .i64 x, .int .i64 ct, .int .i64 r] 70)).cell? ⟨wo.heap.size, 0, none⟩ = some (.int .i64 x) := (by rw [cell_of_row _ _ _ _ _ _ (heap_alloc_new wo _)]; rfl); have hv1 : (wo.alloc (.cells #[.int .i64 x, .int .i64 ct, .int .i64 r] 70)).cell? ⟨wo.heap.size, 1, none⟩ = some (.int .i64 ct) := (by rw [cell_of_row _ _ _ _ _ _ (heap_alloc_new wo _)]; rfl); have hv2 : (wo.alloc (.cells #[.int .i64 x, .int .i64 ct, .int .i64 r] 70)).cell? ⟨wo.heap.size, 2, none⟩ = some (.int .i64 r) := (by rw [cell_of_row _ _ _ _ _ _ (heap_alloc_new wo _)]; rfl); have HHW := Lib.hid hWV; have HV1 : Hid (wo.heap.size + 1 = (wo.alloc (.cells #[.int .i64 x, .int .i64 ct, .int .i64 r] 70)).heap.size) := (show _ = _ by simp); generalize wo.alloc (.cells #[.int .i64 x, .int .i64 ct, .int .i64 r] 70) = w at hWV HHW hV0 HV1 hv0 hv1 hv2 ⊢; have HH := Lib.hid (h.below hWV); have hB : Below w.heap.size w w := Below.refl _ _; have hwz : wo.heap.size ≤ w.heap.size := hWV.size; (try rw [HV1.out]); clear hWV)
    go_wp2_with (first | (go_at_call 107; refine (CI.out _ (by exact HH.out.below (by repeat (first | exact Below.refl _ _ | assumption | apply Below.drew | apply below_drewN | (refine Below.alloc ?_ (by first | omega | (simp; done) | (simp; omega)) _) | (refine Below.setCell ?_ (by first | omega | (simp; done) | (simp; omega)) _))))).mono ?_; rintro e w' ⟨rfl, hb⟩; have hB : Below w.heap.size w w' := Below.thenn (by repeat (first | exact Below.refl _ _ | assumption | apply Below.drew | apply below_drewN | (refine Below.alloc ?_ (by first | omega | (simp; done) | (simp; omega)) _) | (refine Below.setCell ?_ (by first | omega | (simp; done) | (simp; omega)) _))) hb (by first | omega | (simp; done) | (simp; omega)); have hz : w.heap.size ≤ w'.heap.size := hB.size; (try (have hz1 : w.heap.size + 1 ≤ w'.heap.size := (by have h := hb.size; (try simp at h); omega))); obtain ⟨hc, hf⟩ := bcell hb; (have b0 := (hB.cell (p := ⟨wo.heap.size, 0, none⟩) hV0).trans hv0; have b1 := (hB.cell (p := ⟨wo.heap.size, 1, none⟩) hV0).trans hv1; have b2 := (hB.cell (p := ⟨wo.heap.size, 2, none⟩) hV0).trans hv2; have hVk : wo.heap.size < w'.heap.size := Nat.lt_of_lt_of_le hV0 hB.size); clear hb) | (go_at_call 55; refine (CR.out _).mono ?_; rintro e w' ⟨rfl, hb⟩; have hB : Below w.heap.size w w' := Below.thenn (by repeat (first | exact Below.refl _ _ | assumption | apply Below.drew | apply below_drewN | (refine Below.alloc ?_ (by first | omega | (simp; done) | (simp; omega)) _) | (refine Below.setCell ?_ (by first | omega | (simp; done) | (simp; omega)) _))) hb (by first | omega | (simp; done) | (simp; omega)); have hz : w.heap.size ≤ w'.heap.size := hB.size; (try (have hz1 : w.heap.size + 1 ≤ w'.heap.size := (by have h := hb.size; (try simp at h); omega))); obtain ⟨hc, hf⟩ := bcell hb; (have b0 := (hB.cell (p := ⟨wo.heap.size, 0, none⟩) hV0).trans hv0; have b1 := (hB.cell (p := ⟨wo.heap.size, 1, none⟩) hV0).trans hv1; have b2 := (hB.cell (p := ⟨wo.heap.size, 2, none⟩) hV0).trans hv2; have hVk : wo.heap.size < w'.heap.size := Nat.lt_of_lt_of_le hV0 hB.size); clear hb))
    have T := Lib.hid (Blk.new w' 3 #[.int .i64 r, .int .i64 (-r)])
    have hB2 := hB.alloc hB.size (.cells #[.int .i64 r, .int .i64 (-r)] 3)
    clear hc hf hB
    generalize w'.alloc (.cells #[.int .i64 r, .int .i64 (-r)] 3) = v at *
    have hq := hB2.size
    have hqz : w.heap.size ≤ w'.heap.size := hz
    generalize w'.heap.size = q at *
    have hqv : q < v.heap.size := T.out.lt
    go_loopg [6, 28] 3 (fun g le i wr => ∃ (j : Nat) (m : Int), j ≤ 2 ∧ 2 ≤ j + g ∧ i = .int .i64 j ∧ le = .int .i64 m ∧ Below v.heap.size v wr ∧ Hid ((j = 0 → m = 1) ∧ (j = 1 → m = mxF 1 (fR rows x ct r) n) ∧ (j = 2 → m = mxF (mxF 1 (fR rows x ct r) n) (fR rows x ct (-r)) n)))
    case atStart => exact ⟨0, 1, by omega, by omega, rfl, rfl, Below.refl _ _, ⟨fun _ => rfl, fun h => absurd h (by omega), fun h => absurd h (by omega)⟩⟩
    case round =>
      obtain ⟨j, m, hj1, hj2, rfl, rfl, hBr, HM⟩ := hrel
      have hB : Below w.heap.size w wr := Below.thenn hB2 hBr hB2.size
      have hwr : w.heap.size ≤ wr.heap.size := hB.size
      have T2 := Lib.hid (T.out.below hBr hqv)
      obtain ⟨t0, t1⟩ : wr.cell? ⟨q, 0, none⟩ = some (.int .i64 r) ∧ wr.cell? ⟨q, 1, none⟩ = some (.int .i64 (-r)) := ⟨by simpa using T2.out.cell 0, by simpa using T2.out.cell 1⟩
      have b0' := (hB.cell (p := ⟨wo.heap.size, 0, none⟩) hV0).trans hv0
      have b1' := (hB.cell (p := ⟨wo.heap.size, 1, none⟩) hV0).trans hv1
      have b2' := (hB.cell (p := ⟨wo.heap.size, 2, none⟩) hV0).trans hv2
      have hVr : wo.heap.size < wr.heap.size := by omega
      by_cases hj : j < 2
      · have key : ∃ R : Int, (-1000 ≤ R ∧ R ≤ 1000) ∧ wr.cell? ⟨q, j, none⟩ = some (.int .i64 R) ∧ (j + 1 = 1 → mxF m (fR rows x ct R) n = mxF 1 (fR rows x ct r) n) ∧ (j + 1 = 2 → mxF m (fR rows x ct R) n = mxF (mxF 1 (fR rows x ct r) n) (fR rows x ct (-r)) n) := by
          have hjj : j = 0 ∨ j = 1 := by omega
          rcases hjj with rfl | rfl
          · exact ⟨r, by omega, t0, fun _ => by rw [HM.out.1 rfl], fun h => absurd h (by omega)⟩
          · exact ⟨-r, by omega, t1, fun h => absurd h (by omega), fun _ => by rw [HM.out.2.1 rfl]⟩
        obtain ⟨R, hR, tj, hnx⟩ := key
        have HNX := Lib.hid hnx
        have TBR := Lib.hid (TB.out R hR)
        have l1 := tnL_len rows x ct R n
        have ez := Lib.hid (fun (j : Nat) (hj : j < n) => tnL_at (rows := rows) (w := x) (c := ct) (R := R) hj)
        have CTR := Lib.hid (CT.out R hR)
        have FE : Hid (∀ k, fR rows x ct R k = ct - tnN rows x ct R k) := Lib.hid (fun k => rfl)
        generalize tnL rows x ct R n = zs at *
        generalize tnB rows x ct R (n - 1) = bb at *
        have L1 := Lib.hid l1
        clear l1 hnx t0 t1
        go_wp2_with (go_at_call 128; refine (CTR.out _ (by exact HH.out.below (by repeat (first | exact Below.refl _ _ | assumption | apply Below.drew | apply below_drewN | (refine Below.alloc ?_ (by first | omega | (simp; done) | (simp; omega)) _) | (refine Below.setCell ?_ (by first | omega | (simp; done) | (simp; omega)) _))))).mono ?_; rintro e w' ⟨A2, c2, rfl, ho, hb⟩; have hB : Below w.heap.size w w' := Below.thenn (by repeat (first | exact Below.refl _ _ | assumption | apply Below.drew | apply below_drewN | (refine Below.alloc ?_ (by first | omega | (simp; done) | (simp; omega)) _) | (refine Below.setCell ?_ (by first | omega | (simp; done) | (simp; omega)) _))) hb (by first | omega | (simp; done) | (simp; omega)); have O2 := Lib.hid ho; have hz : w.heap.size ≤ w'.heap.size := hB.size; (try (have hz1 : w.heap.size + 1 ≤ w'.heap.size := (by have h := hb.size; (try simp at h); omega))); have HQ := Lib.hid hb; obtain ⟨hc, hf⟩ := bcell hb; (have b0 := (hB.cell (p := ⟨wo.heap.size, 0, none⟩) hV0).trans hv0; have b1 := (hB.cell (p := ⟨wo.heap.size, 1, none⟩) hV0).trans hv1; have b2 := (hB.cell (p := ⟨wo.heap.size, 2, none⟩) hV0).trans hv2; have hVk : wo.heap.size < w'.heap.size := Nat.lt_of_lt_of_le hV0 hB.size); clear hb ho)
        have hzn : zs.length ≤ n ∧ n ≤ zs.length := by have := L1.out; omega
        clear hc hf b0' b1' b2'
        go_loopg [6, 41] n (fun g le i wy => ∃ (k : Nat) (m2 : Int), k ≤ n ∧ n ≤ k + g ∧ i = .int .i64 k ∧ le = .int .i64 m2 ∧ w' = wy ∧ Hid (mxF m (fR rows x ct R) k = m2))
        case atStart => exact ⟨0, m, by omega, by omega, rfl, rfl, rfl, rfl⟩
        case round =>
          obtain ⟨k, m2, hk1, hk2, rfl, rfl, rfl, HK⟩ := hrel
          by_cases hlt : k < n
          · obtain ⟨p1, o1, tk, rfl, hv, hc1⟩ := O2.out.rd.at1 (k := k) (by omega)
            rw [ez.out k hlt] at hv
            injection hv with hv
            have tb := TBR.out k hlt
            have fe := FE.out k
            rw [hv] at tb fe
            have FF := Lib.hid fe
            clear fe hv
            have hkz : k < zs.length := by omega
            have u1 : IntKind.i64.wrap (ct - tk) = ct - tk := IntWalk.i64_in _ (by omega)
            go_wp2_with fail
            all_goals go_roundg (n - (k + 1))
            all_goals first
              | omega
              | exact ⟨k + 1, _, by omega, by omega, by go_num, rfl, rfl, (show mxF m (fR rows x ct R) (k + 1) = _ by show max (mxF m (fR rows x ct R) k) (fR rows x ct R k) = _; rw [HK.out, FF.out]; first | rfl | omega)⟩
          · have hkn : k = n := by omega
            have hkz : ¬ k < zs.length := by omega
            have hm2 : mxF m (fR rows x ct R) n = m2 := by rw [← hkn]; exact HK.out
            have HM2 := Lib.hid hm2
            clear hm2 hkn
            go_wp2_with fail
            go_roundg (2 - (j + 1))
            case measure => omega
            case rel => exact ⟨j + 1, m2, by omega, by omega, by go_num, rfl, Below.thenn hBr HQ.out hBr.size, ⟨fun h => absurd h (by omega), fun h => by rw [← HM2.out]; exact HNX.out.1 h, fun h => by rw [← HM2.out]; exact HNX.out.2 h⟩⟩
      · have hj2 : j = 2 := by omega
        subst hj2
        have hml : m = lc := by rw [HM.out.2.2 rfl, HLC.out]
        subst hml
        by_cases hle : m ≤ 1000000
        · have hk : ok = true := HOK.out.trans (decide_eq_true hle)
          have hv := HVY.out hk
          subst hk hv
          clear t0 t1
          go_wp2_with fail
          go_ret2
          exact ⟨rfl, (Below.thenn HHW.out (show Below w.heap.size w _ from (by repeat (first | exact Below.refl _ _ | assumption | apply Below.drew | apply below_drewN | (refine Below.alloc ?_ (by first | omega | (simp; done) | (simp; omega)) _) | (refine Below.setCell ?_ (by first | omega | (simp; done) | (simp; omega)) _)))) HHW.out.size)⟩
        · have hk : ok = false := HOK.out.trans (decide_eq_false hle)
          have hv := HVN.out hk
          subst hk hv
          clear t0 t1
          go_wp2_with fail
          go_ret2
          exact ⟨rfl, (Below.thenn HHW.out (show Below w.heap.size w _ from (by repeat (first | exact Below.refl _ _ | assumption | apply Below.drew | apply below_drewN | (refine Below.alloc ?_ (by first | omega | (simp; done) | (simp; omega)) _) | (refine Below.setCell ?_ (by first | omega | (simp; done) | (simp; omega)) _)))) HHW.out.size)⟩
end Go.Proofs.Ytjfmicemnoglkaa
