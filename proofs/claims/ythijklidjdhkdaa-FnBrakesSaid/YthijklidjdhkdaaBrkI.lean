/- The brakes: the worst loss. -/
import Derived.Test.YthijklidjdhkdaaBrkH
namespace Go.Proofs.Ythijklidjdhkdaa
open Go.RowKit
set_option linter.unusedVariables false
set_option linter.unusedSimpArgs false

/-- The place of the greatest number; none where a number lacks. -/
def wbF (e : Nat → Int) (g : Nat → Option Int) : Nat → Nat → Int → Int → Option (Int × Int)
  | 0, _, b, mo => some (b, mo)
  | f + 1, i, b, mo => match g i with
    | none => none
    | some z => if mo < z then wbF e g f (i + 1) (e i) z else wbF e g f (i + 1) b mo
section
variable {e : Nat → Int} {g : Nat → Option Int} {n k : Nat} {b mo z : Int}
theorem wbF_none (hk : k < n) (h : g k = none) : wbF e g (n - k) k b mo = none := by
  rw [show n - k = (n - (k + 1)) + 1 by omega]; simp [wbF, h]
theorem wbF_up (hk : k < n) (h : g k = some z) (hz : mo < z) : wbF e g (n - k) k b mo = wbF e g (n - (k + 1)) (k + 1) (e k) z := by
  rw [show n - k = (n - (k + 1)) + 1 by omega]; simp [wbF, h, hz]
theorem wbF_keep (hk : k < n) (h : g k = some z) (hz : ¬ mo < z) : wbF e g (n - k) k b mo = wbF e g (n - (k + 1)) (k + 1) b mo := by
  rw [show n - k = (n - (k + 1)) + 1 by omega]; simp [wbF, h, hz]
theorem wbF_end (hk : n ≤ k) : wbF e g (n - k) k b mo = some (b, mo) := by
  rw [show n - k = 0 by omega]; rfl
end
def o1 (o : Option (Int × Int)) : Int := match o with | some x => x.1 | none => 0
def o2 (o : Option (Int × Int)) : Int := match o with | some x => x.2 | none => 0
def o3 (o : Option (Int × Int)) : Bool := o.isSome
def lossG (m p : Int) (rows : List (List Int)) (v : Int) (i : Nat) : Option Int := if brkK m p (butR rows i) v then some (dw (brkS m p (butR rows i) v)) else none
def wlR (m p : Int) (rows : List (List Int)) (v : Int) : Option (Int × Int) :=
  if (drvOk m p rows && inr v 0 100) && decide (rows.length ≠ 0) then wbF (fun i => (i : Int)) (lossG m p rows v) rows.length 0 0 (-1) else none
theorem ret_iibT {x y x' y' : Int} {b b' : Bool} (h : x = x') (h' : y = y') (h'' : b = b') : Ending.returned (.tuple #[.int .i64 x, .int .i64 y, .bool b]) = .returned (.tuple #[.int .i64 x', .int .i64 y', .bool b']) := by rw [h, h', h'']
theorem lossG_some {m p v : Int} {rows : List (List Int)} {i : Nat} (h : brkK m p (butR rows i) v = true) : lossG m p rows v i = some (dw (brkS m p (butR rows i) v)) := by unfold lossG; rw [h]; rfl
theorem lossG_none {m p v : Int} {rows : List (List Int)} {i : Nat} (h : brkK m p (butR rows i) v = false) : lossG m p rows v i = none := by unfold lossG; rw [h]; rfl
set_option maxRecDepth 100000 in
set_option maxHeartbeats 2000000 in
theorem spec_WorstLoss (m p : Int) (A : Option Addr) (n c : Nat) (rows : List (List Int)) (v : Int) (wo : World) (h : RdR wo 2 A n rows) (hm : n ≤ 1048577) :
    Calls Try.prog 35 #[.agg #[.int .i64 m, .int .i64 p, .slice A n c], .int .i64 v] wo (Ret wo (.tuple #[.int .i64 (o1 (wlR m p rows v)), .int .i64 (o2 (wlR m p rows v)), .bool (o3 (wlR m p rows v))])) := by
  have hl := Lib.hid h.2.2
  have CW := Lib.hid (fun (i : Nat) w' (h' : RdR w' 2 A n rows) => spec_WayWithout m p A n c rows v (i : Int) w' h' hm)
  rcases hq : (drvOk m p rows && inr v 0 100) with _ | _
  · rw [show wlR m p rows v = none by unfold wlR; rw [hq]; rfl]
    have HQ := Lib.hid hq
    have HF : Hid (∀ i : Nat, wwV m p rows v i = 0 ∧ wwOk m p rows v i = false) := fun i => ⟨by unfold wwV wwOk; rw [HQ.out]; rfl, by unfold wwOk; rw [HQ.out]; rfl⟩
    clear hq
    have CW0 := Lib.hid (fun w' (h' : RdR w' 2 A n rows) => by have := CW.out 0 w' h'; rw [(HF.out 0).1, (HF.out 0).2] at this; exact this)
    simp only [o1, o2, o3, Option.isSome_none]
    by_cases h0 : 0 < n
    · go_enter Try.func35, Try.ntmps35
      (go_wp2_with fail; have hWV : Below wo.heap.size wo (wo.alloc (.cells #[.int .i64 m, .int .i64 p, .slice A n c] 29)) := (Below.refl _ _).alloc (Nat.le_refl _) _; have hV0 : wo.heap.size < (wo.alloc (.cells #[.int .i64 m, .int .i64 p, .slice A n c] 29)).heap.size := (by simp); have hv0 : (wo.alloc (.cells #[.int .i64 m, .int .i64 p, .slice A n c] 29)).cell? ⟨wo.heap.size, 0, none⟩ = some (.int .i64 m) := (by rw [cell_of_row _ _ _ _ _ _ (heap_alloc_new wo _)]; rfl); have hv1 : (wo.alloc (.cells #[.int .i64 m, .int .i64 p, .slice A n c] 29)).cell? ⟨wo.heap.size, 1, none⟩ = some (.int .i64 p) := (by rw [cell_of_row _ _ _ _ _ _ (heap_alloc_new wo _)]; rfl); have hv2 : (wo.alloc (.cells #[.int .i64 m, .int .i64 p, .slice A n c] 29)).cell? ⟨wo.heap.size, 2, none⟩ = some (.slice A n c) := (by rw [cell_of_row _ _ _ _ _ _ (heap_alloc_new wo _)]; rfl); have HV1 : Hid (wo.heap.size + 1 = (wo.alloc (.cells #[.int .i64 m, .int .i64 p, .slice A n c] 29)).heap.size) := (show _ = _ by simp); generalize wo.alloc (.cells #[.int .i64 m, .int .i64 p, .slice A n c] 29) = w at hWV hV0 HV1 hv0 hv1 hv2 ⊢; have hr := h.below hWV; have hB : Below w.heap.size w w := Below.refl _ _; have hwz : wo.heap.size ≤ w.heap.size := hWV.size)
      go_wp2_with fail
      refine wp_loop_rounds 1 ?_
      rw [rounds_succ]
      go_wp2_with (go_at_call 33; refine (CW0.out _ hr).mono ?_; rintro e w2 ⟨rfl, hb2⟩; have hB2 : Below wo.heap.size wo w2 := Below.thenn hWV hb2 hwz)
      (go_light; refine bodyPost_ret ?_ rfl ⟨rfl, (by repeat (first | exact Below.refl _ _ | assumption | apply Below.drew | apply below_drewN | (refine Below.alloc ?_ (by first | omega | (simp; done) | (simp; omega)) _) | (refine Below.setCell ?_ (by first | omega | (simp; done) | (simp; omega)) _)))⟩; simp [results, Try.results35, go_sem, *, o1, o2, o3])
    · obtain rfl : n = 0 := by omega
      go_enter Try.func35, Try.ntmps35
      (go_wp2_with fail; have hWV : Below wo.heap.size wo (wo.alloc (.cells #[.int .i64 m, .int .i64 p, .slice A 0 c] 29)) := (Below.refl _ _).alloc (Nat.le_refl _) _; have hV0 : wo.heap.size < (wo.alloc (.cells #[.int .i64 m, .int .i64 p, .slice A 0 c] 29)).heap.size := (by simp); have hv0 : (wo.alloc (.cells #[.int .i64 m, .int .i64 p, .slice A 0 c] 29)).cell? ⟨wo.heap.size, 0, none⟩ = some (.int .i64 m) := (by rw [cell_of_row _ _ _ _ _ _ (heap_alloc_new wo _)]; rfl); have hv1 : (wo.alloc (.cells #[.int .i64 m, .int .i64 p, .slice A 0 c] 29)).cell? ⟨wo.heap.size, 1, none⟩ = some (.int .i64 p) := (by rw [cell_of_row _ _ _ _ _ _ (heap_alloc_new wo _)]; rfl); have hv2 : (wo.alloc (.cells #[.int .i64 m, .int .i64 p, .slice A 0 c] 29)).cell? ⟨wo.heap.size, 2, none⟩ = some (.slice A 0 c) := (by rw [cell_of_row _ _ _ _ _ _ (heap_alloc_new wo _)]; rfl); have HV1 : Hid (wo.heap.size + 1 = (wo.alloc (.cells #[.int .i64 m, .int .i64 p, .slice A 0 c] 29)).heap.size) := (show _ = _ by simp); generalize wo.alloc (.cells #[.int .i64 m, .int .i64 p, .slice A 0 c] 29) = w at hWV hV0 HV1 hv0 hv1 hv2 ⊢; have hr := h.below hWV; have hB : Below w.heap.size w w := Below.refl _ _; have hwz : wo.heap.size ≤ w.heap.size := hWV.size)
      go_wp2_with fail
      refine wp_loop_rounds 1 ?_
      rw [rounds_succ]
      go_wp2_with fail
      (go_light; refine bodyPost_ret ?_ rfl ⟨rfl, (by repeat (first | exact Below.refl _ _ | assumption | apply Below.drew | apply below_drewN | (refine Below.alloc ?_ (by first | omega | (simp; done) | (simp; omega)) _) | (refine Below.setCell ?_ (by first | omega | (simp; done) | (simp; omega)) _)))⟩; simp [results, Try.results35, go_sem, *, o1, o2, o3])
  obtain ⟨hok, v0, v1⟩ := asked_iff hq
  have HQ := Lib.hid hq
  have HOK := Lib.hid hok
  generalize hR : wlR m p rows v = R
  have HR : Hid (R = if n = 0 then none else wbF (fun i => (i : Int)) (lossG m p rows v) n 0 0 (-1)) := (show _ = _ by
    rw [← hR]; unfold wlR; rw [HQ.out, hl.out]
    by_cases h0 : n = 0 <;> simp [h0])
  have hn4 : n ≤ 4 := by have := (drvOk_iff.1 hok).1.2.2; have := hl.out; omega
  clear hq hok hR
  go_enter Try.func35, Try.ntmps35
  (go_wp2_with fail; have hWV : Below wo.heap.size wo (wo.alloc (.cells #[.int .i64 m, .int .i64 p, .slice A n c] 29)) := (Below.refl _ _).alloc (Nat.le_refl _) _; have hV0 : wo.heap.size < (wo.alloc (.cells #[.int .i64 m, .int .i64 p, .slice A n c] 29)).heap.size := (by simp); have hv0 : (wo.alloc (.cells #[.int .i64 m, .int .i64 p, .slice A n c] 29)).cell? ⟨wo.heap.size, 0, none⟩ = some (.int .i64 m) := (by rw [cell_of_row _ _ _ _ _ _ (heap_alloc_new wo _)]; rfl); have hv1 : (wo.alloc (.cells #[.int .i64 m, .int .i64 p, .slice A n c] 29)).cell? ⟨wo.heap.size, 1, none⟩ = some (.int .i64 p) := (by rw [cell_of_row _ _ _ _ _ _ (heap_alloc_new wo _)]; rfl); have hv2 : (wo.alloc (.cells #[.int .i64 m, .int .i64 p, .slice A n c] 29)).cell? ⟨wo.heap.size, 2, none⟩ = some (.slice A n c) := (by rw [cell_of_row _ _ _ _ _ _ (heap_alloc_new wo _)]; rfl); have HV1 : Hid (wo.heap.size + 1 = (wo.alloc (.cells #[.int .i64 m, .int .i64 p, .slice A n c] 29)).heap.size) := (show _ = _ by simp); generalize wo.alloc (.cells #[.int .i64 m, .int .i64 p, .slice A n c] 29) = w at hWV hV0 HV1 hv0 hv1 hv2 ⊢; have hr := h.below hWV; have hB : Below w.heap.size w w := Below.refl _ _; have hwz : wo.heap.size ≤ w.heap.size := hWV.size)
  go_wp2_with fail
  go_loopg [7, 8, 9] n (fun gg s7 s8 s9 wr => ∃ (k : Nat) (b mo : Int), k ≤ n ∧ n ≤ k + gg ∧ s7 = .int .i64 b ∧ s8 = .int .i64 mo ∧ s9 = .int .i64 k ∧ Below w.heap.size w wr ∧ w.heap.size ≤ wr.heap.size ∧ Hid ((k = 0 → mo = -1) ∧ (0 < k → 0 ≤ mo) ∧ (n ≠ 0 → R = wbF (fun i => (i : Int)) (lossG m p rows v) (n - k) k b mo)))
  case atStart => exact ⟨0, 0, -1, by omega, by omega, rfl, rfl, rfl, hB, Nat.le_refl _, ⟨fun _ => rfl, fun h => absurd h (by omega), fun hn => by rw [HR.out, if_neg hn]; rfl⟩⟩
  case round =>
    clear hB
    obtain ⟨k, b, mo, hk1, hk2, rfl, rfl, rfl, hBr, hzr, ha⟩ := hrel
    have a0 := (hBr.cell (p := ⟨wo.heap.size, 0, none⟩) hV0).trans hv0
    have a1 := (hBr.cell (p := ⟨wo.heap.size, 1, none⟩) hV0).trans hv1
    have a2 := (hBr.cell (p := ⟨wo.heap.size, 2, none⟩) hV0).trans hv2
    have hor := Nat.lt_of_lt_of_le hV0 hzr
    have hr2 := hr.below hBr
    by_cases hlt : k < n
    · have hRk := ha.out.2.2 (by omega)
      have hok2 := wwOk_of (j := k) HQ.out hl.out (show inr (k : Int) 0 ((n : Int) - 1) = true by simp [inr]; omega)
      have hwv : wwV m p rows v k = if brkK m p (butR rows k) v then dw (brkS m p (butR rows k) v) else 0 := by unfold wwV; rw [hok2]; simp only [Int.toNat_natCast]
      have cw := fun w' (h' : RdR w' 2 A n rows) => CW.out k w' h'
      rw [hok2, hwv] at cw
      have hd := brkS_dw (butR_ok (j := k) HOK.out) v0 v1
      rcases hb : brkK m p (butR rows k) v with _ | _
      · obtain rfl : R = none := hRk.trans (wbF_none hlt (lossG_none hb))
        rw [hb] at cw
        have CK := Lib.hid cw
        simp only [o1, o2, o3, Option.isSome_none]
        clear hb cw hd hok2 hwv hRk
        simp only [Bool.false_eq_true, if_false] at CK
        go_wp2_with (go_at_call 33; refine (CK.out _ hr2).mono ?_; rintro e w2 ⟨rfl, hb2⟩; have hB2 : Below w.heap.size w w2 := Below.thenn hBr hb2 hzr; have hB3 : Below wo.heap.size wo w2 := Below.thenn hWV hB2 hwz; clear hb2)
        (go_light; refine bodyPost_ret ?_ rfl ⟨rfl, (by repeat (first | exact Below.refl _ _ | assumption | apply Below.drew | apply below_drewN | (refine Below.alloc ?_ (by first | omega | (simp; done) | (simp; omega)) _) | (refine Below.setCell ?_ (by first | omega | (simp; done) | (simp; omega)) _)))⟩; simp [results, Try.results35, go_sem, *, o1, o2, o3])
      · have hs := lossG_some hb
        rw [hb] at cw
        simp only [if_true] at cw
        generalize dw (brkS m p (butR rows k) v) = z at cw hs hd
        have CK := Lib.hid cw
        have HS := Lib.hid hs
        have HRK := Lib.hid hRk
        clear hb cw hok2 hwv hRk hs
        by_cases hz1 : mo < z
        · have HX := Lib.hid (wbF_up (e := fun i => (i : Int)) (b := b) hlt HS.out hz1)
          go_wp2_with (go_at_call 33; refine (CK.out _ hr2).mono ?_; rintro e w2 ⟨rfl, hb2⟩; have hB2 : Below w.heap.size w w2 := Below.thenn hBr hb2 hzr; clear hb2)
          go_roundg (n - (k + 1))
          case measure => omega
          case rel => exact ⟨k + 1, k, z, by omega, by omega, rfl, rfl, by go_num, hB2, hB2.size, ⟨fun h => absurd h (by omega), fun _ => hd, fun _ => HRK.out.trans HX.out⟩⟩
        · have HX := Lib.hid (wbF_keep (e := fun i => (i : Int)) (b := b) hlt HS.out hz1)
          go_wp2_with (go_at_call 33; refine (CK.out _ hr2).mono ?_; rintro e w2 ⟨rfl, hb2⟩; have hB2 : Below w.heap.size w w2 := Below.thenn hBr hb2 hzr; clear hb2)
          go_roundg (n - (k + 1))
          case measure => omega
          case rel => exact ⟨k + 1, b, mo, by omega, by omega, rfl, rfl, by go_num, hB2, hB2.size, ⟨fun h => absurd h (by omega), fun _ => by omega, fun _ => HRK.out.trans HX.out⟩⟩
    · by_cases h0 : n = 0
      · obtain rfl : R = none := by rw [HR.out, if_pos h0]
        obtain rfl : mo = -1 := ha.out.1 (by omega)
        simp only [o1, o2, o3, Option.isSome_none]
        clear ha HR
        have hB3 : Below wo.heap.size wo wr := Below.thenn hWV hBr hwz
        have hn0 : n ≤ 0 := by omega
        clear h0
        go_wp2_with fail
        (go_light; refine bodyPost_ret ?_ rfl ⟨rfl, (by repeat (first | exact Below.refl _ _ | assumption | apply Below.drew | apply below_drewN | (refine Below.alloc ?_ (by first | omega | (simp; done) | (simp; omega)) _) | (refine Below.setCell ?_ (by first | omega | (simp; done) | (simp; omega)) _)))⟩; simp [results, Try.results35, go_sem, *, o1, o2, o3])
      · obtain rfl : R = some (b, mo) := (ha.out.2.2 h0).trans (wbF_end (by omega))
        have hmo : ¬ mo < 0 := by have := ha.out.2.1 (by omega); omega
        simp only [o1, o2, o3, Option.isSome_some]
        have hB3 : Below wo.heap.size wo wr := Below.thenn hWV hBr hwz
        clear ha HR
        go_wp2_with fail
        (go_light; refine bodyPost_ret ?_ rfl ⟨rfl, (by repeat (first | exact Below.refl _ _ | assumption | apply Below.drew | apply below_drewN | (refine Below.alloc ?_ (by first | omega | (simp; done) | (simp; omega)) _) | (refine Below.setCell ?_ (by first | omega | (simp; done) | (simp; omega)) _)))⟩; simp [results, Try.results35, go_sem, *, o1, o2, o3])
set_option maxRecDepth 100000 in
set_option maxHeartbeats 2000000 in
theorem impl_WorstLoss (m p : Int) (A : Option Addr) (n c : Nat) (rows : List (List Int)) (v : Int) (wo : World) (h : RdR wo 2 A n rows) (hm : n ≤ 1048577) (hnc : n ≤ c) (hcm : c ≤ 9223372036854775807) :
    Calls Try.prog 36 #[.agg #[.int .i64 m, .int .i64 p, .slice A n c], .int .i64 v] wo (Ret wo (.tuple #[.int .i64 (o1 (wlR m p rows v)), .int .i64 (o2 (wlR m p rows v)), .bool (o3 (wlR m p rows v))])) := by
  have hl := Lib.hid h.2.2
  have ci := fun w' (h' : RdR w' 2 A n rows) => impl_isMoving m p A n c rows v w' h' hm
  rcases hq : (drvOk m p rows && inr v 0 100) with _ | _
  all_goals rw [hq] at ci
  all_goals have CI := Lib.hid ci
  · rw [show wlR m p rows v = none by unfold wlR; rw [hq]; rfl]
    simp only [o1, o2, o3, Option.isSome_none]
    clear ci hq
    go_enter Try.func36, Try.ntmps36
    (go_wp2_with fail; have hWV : Below wo.heap.size wo (wo.alloc (.cells #[.int .i64 m, .int .i64 p, .slice A n c] 29)) := (Below.refl _ _).alloc (Nat.le_refl _) _; have hV0 : wo.heap.size < (wo.alloc (.cells #[.int .i64 m, .int .i64 p, .slice A n c] 29)).heap.size := (by simp); have hv0 : (wo.alloc (.cells #[.int .i64 m, .int .i64 p, .slice A n c] 29)).cell? ⟨wo.heap.size, 0, none⟩ = some (.int .i64 m) := (by rw [cell_of_row _ _ _ _ _ _ (heap_alloc_new wo _)]; rfl); have hv1 : (wo.alloc (.cells #[.int .i64 m, .int .i64 p, .slice A n c] 29)).cell? ⟨wo.heap.size, 1, none⟩ = some (.int .i64 p) := (by rw [cell_of_row _ _ _ _ _ _ (heap_alloc_new wo _)]; rfl); have hv2 : (wo.alloc (.cells #[.int .i64 m, .int .i64 p, .slice A n c] 29)).cell? ⟨wo.heap.size, 2, none⟩ = some (.slice A n c) := (by rw [cell_of_row _ _ _ _ _ _ (heap_alloc_new wo _)]; rfl); have HV1 : Hid (wo.heap.size + 1 = (wo.alloc (.cells #[.int .i64 m, .int .i64 p, .slice A n c] 29)).heap.size) := (show _ = _ by simp); generalize wo.alloc (.cells #[.int .i64 m, .int .i64 p, .slice A n c] 29) = w at hWV hV0 HV1 hv0 hv1 hv2 ⊢; have hr := h.below hWV; have hB : Below w.heap.size w w := Below.refl _ _; have hwz : wo.heap.size ≤ w.heap.size := hWV.size)
    go_wp2_with (go_at_call 58; refine (CI.out _ hr).mono ?_; rintro e w' ⟨rfl, hb⟩; have hB : Below w.heap.size w w' := Below.thenn (by repeat (first | exact Below.refl _ _ | assumption | apply Below.drew | apply below_drewN | (refine Below.alloc ?_ (by first | omega | (simp; done) | (simp; omega)) _) | (refine Below.setCell ?_ (by first | omega | (simp; done) | (simp; omega)) _))) hb (by first | omega | (simp; done) | (simp; omega)); have hz : w.heap.size ≤ w'.heap.size := hB.size; (try (have hz1 : w.heap.size + 1 ≤ w'.heap.size := (by have h := hb.size; (try simp at h); omega))); obtain ⟨hc, hf⟩ := bcell hb; have hB3 : Below wo.heap.size wo w' := Below.thenn hWV hB hwz; clear hb)
    (go_light; refine bodyPost_ret ?_ rfl ⟨rfl, (by repeat (first | exact Below.refl _ _ | assumption | apply Below.drew | apply below_drewN | (refine Below.alloc ?_ (by first | omega | (simp; done) | (simp; omega)) _) | (refine Below.setCell ?_ (by first | omega | (simp; done) | (simp; omega)) _)))⟩; simp [results, Try.results36, go_sem, *, o1, o2, o3])
  by_cases h0 : n = 0
  · subst h0
    rw [show wlR m p rows v = none by unfold wlR; rw [hq, hl.out]; rfl]
    simp only [o1, o2, o3, Option.isSome_none]
    clear ci hq
    go_enter Try.func36, Try.ntmps36
    (go_wp2_with fail; have hWV : Below wo.heap.size wo (wo.alloc (.cells #[.int .i64 m, .int .i64 p, .slice A 0 c] 29)) := (Below.refl _ _).alloc (Nat.le_refl _) _; have hV0 : wo.heap.size < (wo.alloc (.cells #[.int .i64 m, .int .i64 p, .slice A 0 c] 29)).heap.size := (by simp); have hv0 : (wo.alloc (.cells #[.int .i64 m, .int .i64 p, .slice A 0 c] 29)).cell? ⟨wo.heap.size, 0, none⟩ = some (.int .i64 m) := (by rw [cell_of_row _ _ _ _ _ _ (heap_alloc_new wo _)]; rfl); have hv1 : (wo.alloc (.cells #[.int .i64 m, .int .i64 p, .slice A 0 c] 29)).cell? ⟨wo.heap.size, 1, none⟩ = some (.int .i64 p) := (by rw [cell_of_row _ _ _ _ _ _ (heap_alloc_new wo _)]; rfl); have hv2 : (wo.alloc (.cells #[.int .i64 m, .int .i64 p, .slice A 0 c] 29)).cell? ⟨wo.heap.size, 2, none⟩ = some (.slice A 0 c) := (by rw [cell_of_row _ _ _ _ _ _ (heap_alloc_new wo _)]; rfl); have HV1 : Hid (wo.heap.size + 1 = (wo.alloc (.cells #[.int .i64 m, .int .i64 p, .slice A 0 c] 29)).heap.size) := (show _ = _ by simp); generalize wo.alloc (.cells #[.int .i64 m, .int .i64 p, .slice A 0 c] 29) = w at hWV hV0 HV1 hv0 hv1 hv2 ⊢; have hr := h.below hWV; have hB : Below w.heap.size w w := Below.refl _ _; have hwz : wo.heap.size ≤ w.heap.size := hWV.size)
    go_wp2_with (go_at_call 58; refine (CI.out _ hr).mono ?_; rintro e w' ⟨rfl, hb⟩; have hB : Below w.heap.size w w' := Below.thenn (by repeat (first | exact Below.refl _ _ | assumption | apply Below.drew | apply below_drewN | (refine Below.alloc ?_ (by first | omega | (simp; done) | (simp; omega)) _) | (refine Below.setCell ?_ (by first | omega | (simp; done) | (simp; omega)) _))) hb (by first | omega | (simp; done) | (simp; omega)); have hz : w.heap.size ≤ w'.heap.size := hB.size; (try (have hz1 : w.heap.size + 1 ≤ w'.heap.size := (by have h := hb.size; (try simp at h); omega))); obtain ⟨hc, hf⟩ := bcell hb; have hor := Nat.lt_of_lt_of_le hV0 hz; have a2 := (hB.cell (p := ⟨wo.heap.size, 2, none⟩) hV0).trans hv2; have hB3 : Below wo.heap.size wo w' := Below.thenn hWV hB hwz; clear hb)
    (go_light; refine bodyPost_ret ?_ rfl ⟨rfl, (by repeat (first | exact Below.refl _ _ | assumption | apply Below.drew | apply below_drewN | (refine Below.alloc ?_ (by first | omega | (simp; done) | (simp; omega)) _) | (refine Below.setCell ?_ (by first | omega | (simp; done) | (simp; omega)) _)))⟩; simp [results, Try.results36, go_sem, *, o1, o2, o3])
  obtain ⟨hok, v0, v1⟩ := asked_iff hq
  have HQ := Lib.hid hq
  have HOK := Lib.hid hok
  generalize hR : wlR m p rows v = R
  have HR : Hid (R = wbF (fun i => (i : Int)) (lossG m p rows v) n 0 0 (-1)) := (show _ = _ by
    rw [← hR]; unfold wlR; rw [HQ.out, hl.out]; simp [h0])
  have hn4 : n ≤ 4 := by have := (drvOk_iff.1 hok).1.2.2; have := hl.out; omega
  have h0b : ((n : Int) == 0) = false := by simp; omega
  obtain ⟨b, off, _, _, rfl, _⟩ := h.row2 (k := 0) (by omega)
  have CD := Lib.hid (fun (j : Nat) (hj : j < n) w' (h' : RdR w' 2 (some ⟨b, off, none⟩) n rows) => impl_without m p b off n c j rows w' h' hj hnc hcm hm)
  have CB := Lib.hid (fun (j : Nat) (A1 : Option Addr) (c1 : Nat) w' (h' : RdR w' 2 A1 (butR rows j).length (butR rows j)) => impl_brakeWay m p A1 (butR rows j).length c1 (butR rows j) v w' h' (butR_ok HOK.out) v0 v1)
  clear ci hq hok hR
  go_enter Try.func36, Try.ntmps36
  (go_wp2_with fail; have hWV : Below wo.heap.size wo (wo.alloc (.cells #[.int .i64 m, .int .i64 p, .slice (some ⟨b, off, none⟩) n c] 29)) := (Below.refl _ _).alloc (Nat.le_refl _) _; have hV0 : wo.heap.size < (wo.alloc (.cells #[.int .i64 m, .int .i64 p, .slice (some ⟨b, off, none⟩) n c] 29)).heap.size := (by simp); have hv0 : (wo.alloc (.cells #[.int .i64 m, .int .i64 p, .slice (some ⟨b, off, none⟩) n c] 29)).cell? ⟨wo.heap.size, 0, none⟩ = some (.int .i64 m) := (by rw [cell_of_row _ _ _ _ _ _ (heap_alloc_new wo _)]; rfl); have hv1 : (wo.alloc (.cells #[.int .i64 m, .int .i64 p, .slice (some ⟨b, off, none⟩) n c] 29)).cell? ⟨wo.heap.size, 1, none⟩ = some (.int .i64 p) := (by rw [cell_of_row _ _ _ _ _ _ (heap_alloc_new wo _)]; rfl); have hv2 : (wo.alloc (.cells #[.int .i64 m, .int .i64 p, .slice (some ⟨b, off, none⟩) n c] 29)).cell? ⟨wo.heap.size, 2, none⟩ = some (.slice (some ⟨b, off, none⟩) n c) := (by rw [cell_of_row _ _ _ _ _ _ (heap_alloc_new wo _)]; rfl); have HV1 : Hid (wo.heap.size + 1 = (wo.alloc (.cells #[.int .i64 m, .int .i64 p, .slice (some ⟨b, off, none⟩) n c] 29)).heap.size) := (show _ = _ by simp); generalize wo.alloc (.cells #[.int .i64 m, .int .i64 p, .slice (some ⟨b, off, none⟩) n c] 29) = w at hWV hV0 HV1 hv0 hv1 hv2 ⊢; have hr := h.below hWV; have hB : Below w.heap.size w w := Below.refl _ _; have hwz : wo.heap.size ≤ w.heap.size := hWV.size)
  go_wp2_with (go_at_call 58; refine (CI.out _ hr).mono ?_; rintro e w' ⟨rfl, hb⟩; have hB : Below w.heap.size w w' := Below.thenn (by repeat (first | exact Below.refl _ _ | assumption | apply Below.drew | apply below_drewN | (refine Below.alloc ?_ (by first | omega | (simp; done) | (simp; omega)) _) | (refine Below.setCell ?_ (by first | omega | (simp; done) | (simp; omega)) _))) hb (by first | omega | (simp; done) | (simp; omega)); have hz : w.heap.size ≤ w'.heap.size := hB.size; (try (have hz1 : w.heap.size + 1 ≤ w'.heap.size := (by have h := hb.size; (try simp at h); omega))); obtain ⟨hc, hf⟩ := bcell hb; have hor := Nat.lt_of_lt_of_le hV0 hz; have a2 := (hB.cell (p := ⟨wo.heap.size, 2, none⟩) hV0).trans hv2; clear hb)
  clear hc hf
  go_loopg [7, 8, 25] n (fun gg s7 s8 s9 wr => ∃ (k : Nat) (bb mo : Int), k ≤ n ∧ n ≤ k + gg ∧ s7 = .int .i64 bb ∧ s8 = .int .i64 mo ∧ s9 = .int .i64 k ∧ Below w.heap.size w wr ∧ w.heap.size ≤ wr.heap.size ∧ Hid (R = wbF (fun i => (i : Int)) (lossG m p rows v) (n - k) k bb mo))
  case atStart => exact ⟨0, 0, -1, by omega, by omega, rfl, rfl, rfl, hB, hz, HR.out⟩
  case round =>
    clear hB hz a2 hor
    obtain ⟨k, bb, mo, hk1, hk2, rfl, rfl, rfl, hBr, hzr, ha⟩ := hrel
    have a0 := (hBr.cell (p := ⟨wo.heap.size, 0, none⟩) hV0).trans hv0
    have a1 := (hBr.cell (p := ⟨wo.heap.size, 1, none⟩) hV0).trans hv1
    have a2 := (hBr.cell (p := ⟨wo.heap.size, 2, none⟩) hV0).trans hv2
    have hor := Nat.lt_of_lt_of_le hV0 hzr
    have hr2 := hr.below hBr
    by_cases hlt : k < n
    · have CDk := Lib.hid (CD.out k hlt)
      have cb := CB.out k
      rw [dw_bsL] at cb
      rcases hb : brkK m p (butR rows k) v with _ | _
      · obtain rfl : R = none := ha.out.trans (wbF_none hlt (lossG_none hb))
        rw [hb] at cb
        simp only [Bool.false_eq_true, if_false] at cb
        have CK := Lib.hid cb
        simp only [o1, o2, o3, Option.isSome_none]
        clear hb cb ha HR
        go_wp2_with (first | (go_at_call 64; refine (CDk.out _ hr2).mono ?_; rintro e w2 ⟨A2, c2, rfl, ho2, hb2⟩; have hB2 : Below w.heap.size w w2 := Below.thenn hBr hb2 hzr; have hr3 := ho2.rdR; clear hb2 ho2) | (go_at_call 59; refine (CK.out _ _ _ hr3).mono ?_; rintro e w3 ⟨rfl, hb3⟩; have hB4 : Below w.heap.size w w3 := Below.thenn hB2 hb3 hB2.size; have hB3 : Below wo.heap.size wo w3 := Below.thenn hWV hB4 hwz; clear hb3))
        (go_light; refine bodyPost_ret ?_ rfl ⟨rfl, (by repeat (first | exact Below.refl _ _ | assumption | apply Below.drew | apply below_drewN | (refine Below.alloc ?_ (by first | omega | (simp; done) | (simp; omega)) _) | (refine Below.setCell ?_ (by first | omega | (simp; done) | (simp; omega)) _)))⟩; simp [results, Try.results36, go_sem, *, o1, o2, o3])
      · have hs := lossG_some hb
        rw [hb] at cb
        simp only [if_true] at cb
        generalize dw (brkS m p (butR rows k) v) = z at cb hs
        have CK := Lib.hid cb
        have HS := Lib.hid hs
        clear hb cb hs
        by_cases hz1 : mo < z
        · have HX := Lib.hid (wbF_up (e := fun i => (i : Int)) (b := bb) hlt HS.out hz1)
          go_wp2_with (first | (go_at_call 64; refine (CDk.out _ hr2).mono ?_; rintro e w2 ⟨A2, c2, rfl, ho2, hb2⟩; have hB2 : Below w.heap.size w w2 := Below.thenn hBr hb2 hzr; have hr3 := ho2.rdR; clear hb2 ho2) | (go_at_call 59; refine (CK.out _ _ _ hr3).mono ?_; rintro e w3 ⟨rfl, hb3⟩; have hB4 : Below w.heap.size w w3 := Below.thenn hB2 hb3 hB2.size; clear hb3))
          go_roundg (n - (k + 1))
          case measure => omega
          case rel => exact ⟨k + 1, k, z, by omega, by omega, rfl, rfl, by go_num, hB4, hB4.size, ha.out.trans HX.out⟩
        · have HX := Lib.hid (wbF_keep (e := fun i => (i : Int)) (b := bb) hlt HS.out hz1)
          go_wp2_with (first | (go_at_call 64; refine (CDk.out _ hr2).mono ?_; rintro e w2 ⟨A2, c2, rfl, ho2, hb2⟩; have hB2 : Below w.heap.size w w2 := Below.thenn hBr hb2 hzr; have hr3 := ho2.rdR; clear hb2 ho2) | (go_at_call 59; refine (CK.out _ _ _ hr3).mono ?_; rintro e w3 ⟨rfl, hb3⟩; have hB4 : Below w.heap.size w w3 := Below.thenn hB2 hb3 hB2.size; clear hb3))
          go_roundg (n - (k + 1))
          case measure => omega
          case rel => exact ⟨k + 1, bb, mo, by omega, by omega, rfl, rfl, by go_num, hB4, hB4.size, ha.out.trans HX.out⟩
    · obtain rfl : R = some (bb, mo) := ha.out.trans (wbF_end (by omega))
      simp only [o1, o2, o3, Option.isSome_some]
      have hB3 : Below wo.heap.size wo wr := Below.thenn hWV hBr hwz
      clear ha HR
      go_wp2_with fail
      (go_light; refine bodyPost_ret ?_ rfl ⟨rfl, (by repeat (first | exact Below.refl _ _ | assumption | apply Below.drew | apply below_drewN | (refine Below.alloc ?_ (by first | omega | (simp; done) | (simp; omega)) _) | (refine Below.setCell ?_ (by first | omega | (simp; done) | (simp; omega)) _)))⟩; simp [results, Try.results36, go_sem, *, o1, o2, o3])
end Go.Proofs.Ythijklidjdhkdaa
