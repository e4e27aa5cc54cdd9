/- The circle: the seconds for the ring, whole. -/
import Derived.Test.YtidjgbonlejhhaaCircH
namespace Go.Proofs.Ytidjgbonlejhhaa
open Go.RowKit
set_option linter.unusedVariables false
set_option linter.unusedSimpArgs false

set_option maxHeartbeats 1000000 in
theorem impl_lowest (a b : Int) (w : World) (ha : 0 < a) (ha' : a ≤ 40000) (hb : 0 < b) (hb' : b ≤ 40000) :
    Calls Try.prog 58 #[.int .i64 a, .int .i64 b] w (Ret w (.agg #[.int .i64 (a / gcdZ a b), .int .i64 (b / gcdZ a b)])) := by
  have CD := Lib.hid (fun w => impl_divisor a b w ha ha' hb hb')
  have hp := gcdZ_pos (b := b) ha
  have hq := gcdZ_le (b := b) ha
  generalize gcdZ a b = G at hp hq CD ⊢
  have hd1 : a.tdiv G = a / G := Int.tdiv_eq_ediv_of_nonneg (by omega)
  have hd2 : b.tdiv G = b / G := Int.tdiv_eq_ediv_of_nonneg (by omega)
  have hq1 : 0 ≤ a / G := Int.ediv_nonneg (by omega) (by omega)
  have hq2 : 0 ≤ b / G := Int.ediv_nonneg (by omega) (by omega)
  have hq3 : a / G ≤ a := Int.ediv_le_self _ (by omega)
  have hq4 : b / G ≤ b := Int.ediv_le_self _ (by omega)
  have w1 : IntKind.i64.wrap (a / G) = a / G := IntWalk.i64_in _ (by omega)
  have w2 : IntKind.i64.wrap (b / G) = b / G := IntWalk.i64_in _ (by omega)
  have hG0 : ¬ (G = 0) := by omega
  clear hq1 hq2 hq3 hq4
  go_enter Try.func58, Try.ntmps58
  go_wp2_with (go_at_call 75; refine (CD.out _).mono ?_; rintro e w' ⟨rfl, nq, rfl⟩)
  go_region
  all_goals go_wp2_with fail
  all_goals (go_light; refine bodyPost_ret ?_ rfl ⟨rfl, (by repeat (first | exact Below.refl _ _ | assumption | apply Below.drew | apply below_drewN | (refine Below.alloc ?_ (by first | omega | (simp; done) | (simp; omega)) _) | (refine Below.setCell ?_ (by first | omega | (simp; done) | (simp; omega)) _)))⟩; simp [results, Try.results58, go_sem, *])
def rtN (l s : Int) (zs : List Int) : Int := if circOk l s zs then 10 * l / gcdZ (10 * l) s else 0
def rtD (l s : Int) (zs : List Int) : Int := if circOk l s zs then s / gcdZ (10 * l) s else 0
set_option maxHeartbeats 1000000 in
theorem spec_RoundTime (l s : Int) (A : Option Addr) (n c : Nat) (zs : List Int) (wo : World) (h : Rd wo 1 A n (IV zs)) (hm : n ≤ 1048577) :
    Calls Try.prog 25 #[.agg #[.int .i64 l, .int .i64 s, .slice A n c]] wo (Ret wo (.tuple #[.int .i64 (rtN l s zs), .int .i64 (rtD l s zs), .bool (circOk l s zs)])) := by
  have cg := fun w' (h' : Rd w' 1 A n (IV zs)) => spec_l8Good l s A n c zs w' h' hm
  rcases hg : circOk l s zs with _ | _
  all_goals rw [hg] at cg
  all_goals have CG := Lib.hid cg
  all_goals clear cg
  · rw [show rtN l s zs = 0 by simp [rtN, hg], show rtD l s zs = 0 by simp [rtD, hg]]
    go_enter Try.func25, Try.ntmps25
    (go_wp2_with fail; have hWV : Below wo.heap.size wo (wo.alloc (.cells #[.int .i64 l, .int .i64 s, .slice A n c] 27)) := (Below.refl _ _).alloc (Nat.le_refl _) _; have hV0 : wo.heap.size < (wo.alloc (.cells #[.int .i64 l, .int .i64 s, .slice A n c] 27)).heap.size := (by simp); have hv0 : (wo.alloc (.cells #[.int .i64 l, .int .i64 s, .slice A n c] 27)).cell? ⟨wo.heap.size, 0, none⟩ = some (.int .i64 l) := (by rw [cell_of_row _ _ _ _ _ _ (heap_alloc_new wo _)]; rfl); have hv1 : (wo.alloc (.cells #[.int .i64 l, .int .i64 s, .slice A n c] 27)).cell? ⟨wo.heap.size, 1, none⟩ = some (.int .i64 s) := (by rw [cell_of_row _ _ _ _ _ _ (heap_alloc_new wo _)]; rfl); have hv2 : (wo.alloc (.cells #[.int .i64 l, .int .i64 s, .slice A n c] 27)).cell? ⟨wo.heap.size, 2, none⟩ = some (.slice A n c) := (by rw [cell_of_row _ _ _ _ _ _ (heap_alloc_new wo _)]; rfl); generalize wo.alloc (.cells #[.int .i64 l, .int .i64 s, .slice A n c] 27) = w at hWV hV0 hv0 hv1 hv2 ⊢; have hr := h.below hWV)
    have hB : Below w.heap.size w w := Below.refl _ _
    go_wp2_with (go_at_call 49; refine (CG.out _ hr).mono ?_; rintro e w' ⟨rfl, hb⟩; have hB : Below w.heap.size w w' := Below.thenn (by repeat (first | exact Below.refl _ _ | assumption | apply Below.drew | apply below_drewN | (refine Below.alloc ?_ (by first | omega | (simp; done) | (simp; omega)) _) | (refine Below.setCell ?_ (by first | omega | (simp; done) | (simp; omega)) _))) hb (by first | omega | (simp; done) | (simp; omega)); have hz : w.heap.size ≤ w'.heap.size := hB.size; (try (have hz1 : w.heap.size + 1 ≤ w'.heap.size := (by have h := hb.size; (try simp at h); omega))); obtain ⟨hc, hf⟩ := bcell hb; clear hb)
    go_ret3
    exact ⟨rfl, Below.thenn hWV hB hWV.size⟩
  have hb := circOk_iff.1 hg
  have l0 := hb.1.1
  have l1 := hb.1.2
  have s0 := hb.2.1.1
  have s1 := hb.2.1.2
  rw [show rtN l s zs = 10 * l / gcdZ (10 * l) s by simp [rtN, hg], show rtD l s zs = s / gcdZ (10 * l) s by simp [rtD, hg]]
  have CR := Lib.hid (fun w => spec_l2Reduce (10 * l) s w (by omega) (by omega) (by omega) (by omega))
  generalize 10 * l / gcdZ (10 * l) s = X at CR ⊢
  generalize s / gcdZ (10 * l) s = Y at CR ⊢
  clear hb hg
  go_enter Try.func25, Try.ntmps25
  (go_wp2_with fail; have hWV : Below wo.heap.size wo (wo.alloc (.cells #[.int .i64 l, .int .i64 s, .slice A n c] 27)) := (Below.refl _ _).alloc (Nat.le_refl _) _; have hV0 : wo.heap.size < (wo.alloc (.cells #[.int .i64 l, .int .i64 s, .slice A n c] 27)).heap.size := (by simp); have hv0 : (wo.alloc (.cells #[.int .i64 l, .int .i64 s, .slice A n c] 27)).cell? ⟨wo.heap.size, 0, none⟩ = some (.int .i64 l) := (by rw [cell_of_row _ _ _ _ _ _ (heap_alloc_new wo _)]; rfl); have hv1 : (wo.alloc (.cells #[.int .i64 l, .int .i64 s, .slice A n c] 27)).cell? ⟨wo.heap.size, 1, none⟩ = some (.int .i64 s) := (by rw [cell_of_row _ _ _ _ _ _ (heap_alloc_new wo _)]; rfl); have hv2 : (wo.alloc (.cells #[.int .i64 l, .int .i64 s, .slice A n c] 27)).cell? ⟨wo.heap.size, 2, none⟩ = some (.slice A n c) := (by rw [cell_of_row _ _ _ _ _ _ (heap_alloc_new wo _)]; rfl); generalize wo.alloc (.cells #[.int .i64 l, .int .i64 s, .slice A n c] 27) = w at hWV hV0 hv0 hv1 hv2 ⊢; have hr := h.below hWV)
  have hB : Below w.heap.size w w := Below.refl _ _
  go_wp2_with (first | (go_at_call 49; refine (CG.out _ hr).mono ?_; rintro e w' ⟨rfl, hb⟩; have hB : Below w.heap.size w w' := Below.thenn (by repeat (first | exact Below.refl _ _ | assumption | apply Below.drew | apply below_drewN | (refine Below.alloc ?_ (by first | omega | (simp; done) | (simp; omega)) _) | (refine Below.setCell ?_ (by first | omega | (simp; done) | (simp; omega)) _))) hb (by first | omega | (simp; done) | (simp; omega)); have hz : w.heap.size ≤ w'.heap.size := hB.size; (try (have hz1 : w.heap.size + 1 ≤ w'.heap.size := (by have h := hb.size; (try simp at h); omega))); obtain ⟨hc, hf⟩ := bcell hb; clear hb) | (go_at_call 57; refine (CR.out _).mono ?_; rintro e w' ⟨rfl, hb⟩; have hB : Below w.heap.size w w' := Below.thenn (by repeat (first | exact Below.refl _ _ | assumption | apply Below.drew | apply below_drewN | (refine Below.alloc ?_ (by first | omega | (simp; done) | (simp; omega)) _) | (refine Below.setCell ?_ (by first | omega | (simp; done) | (simp; omega)) _))) hb (by first | omega | (simp; done) | (simp; omega)); have hz : w.heap.size ≤ w'.heap.size := hB.size; (try (have hz1 : w.heap.size + 1 ≤ w'.heap.size := (by have h := hb.size; (try simp at h); omega))); obtain ⟨hc, hf⟩ := bcell hb; clear hb))
  go_ret3
  exact ⟨rfl, Below.thenn hWV hB hWV.size⟩
set_option maxHeartbeats 1000000 in
theorem impl_RoundTime (l s : Int) (A : Option Addr) (n c : Nat) (zs : List Int) (wo : World) (h : Rd wo 1 A n (IV zs)) (hm : n ≤ 1048577) :
    Calls Try.prog 26 #[.agg #[.int .i64 l, .int .i64 s, .slice A n c]] wo (Ret wo (.tuple #[.int .i64 (rtN l s zs), .int .i64 (rtD l s zs), .bool (circOk l s zs)])) := by
  have cg := fun w' (h' : Rd w' 1 A n (IV zs)) => impl_IsCircle l s A n c zs w' h' hm
  rcases hg : circOk l s zs with _ | _
  all_goals rw [hg] at cg
  all_goals have CG := Lib.hid cg
  all_goals clear cg
  · rw [show rtN l s zs = 0 by simp [rtN, hg], show rtD l s zs = 0 by simp [rtD, hg]]
    go_enter Try.func26, Try.ntmps26
    (go_wp2_with fail; have hWV : Below wo.heap.size wo (wo.alloc (.cells #[.int .i64 l, .int .i64 s, .slice A n c] 27)) := (Below.refl _ _).alloc (Nat.le_refl _) _; have hV0 : wo.heap.size < (wo.alloc (.cells #[.int .i64 l, .int .i64 s, .slice A n c] 27)).heap.size := (by simp); have hv0 : (wo.alloc (.cells #[.int .i64 l, .int .i64 s, .slice A n c] 27)).cell? ⟨wo.heap.size, 0, none⟩ = some (.int .i64 l) := (by rw [cell_of_row _ _ _ _ _ _ (heap_alloc_new wo _)]; rfl); have hv1 : (wo.alloc (.cells #[.int .i64 l, .int .i64 s, .slice A n c] 27)).cell? ⟨wo.heap.size, 1, none⟩ = some (.int .i64 s) := (by rw [cell_of_row _ _ _ _ _ _ (heap_alloc_new wo _)]; rfl); have hv2 : (wo.alloc (.cells #[.int .i64 l, .int .i64 s, .slice A n c] 27)).cell? ⟨wo.heap.size, 2, none⟩ = some (.slice A n c) := (by rw [cell_of_row _ _ _ _ _ _ (heap_alloc_new wo _)]; rfl); generalize wo.alloc (.cells #[.int .i64 l, .int .i64 s, .slice A n c] 27) = w at hWV hV0 hv0 hv1 hv2 ⊢; have hr := h.below hWV)
    have hB : Below w.heap.size w w := Below.refl _ _
    go_wp2_with (go_at_call 17; refine (CG.out _ hr).mono ?_; rintro e w' ⟨rfl, hb⟩; have hB : Below w.heap.size w w' := Below.thenn (by repeat (first | exact Below.refl _ _ | assumption | apply Below.drew | apply below_drewN | (refine Below.alloc ?_ (by first | omega | (simp; done) | (simp; omega)) _) | (refine Below.setCell ?_ (by first | omega | (simp; done) | (simp; omega)) _))) hb (by first | omega | (simp; done) | (simp; omega)); have hz : w.heap.size ≤ w'.heap.size := hB.size; (try (have hz1 : w.heap.size + 1 ≤ w'.heap.size := (by have h := hb.size; (try simp at h); omega))); obtain ⟨hc, hf⟩ := bcell hb; clear hb)
    go_ret3
    exact ⟨rfl, Below.thenn hWV hB hWV.size⟩
  have hb := circOk_iff.1 hg
  have l0 := hb.1.1
  have l1 := hb.1.2
  have s0 := hb.2.1.1
  have s1 := hb.2.1.2
  rw [show rtN l s zs = 10 * l / gcdZ (10 * l) s by simp [rtN, hg], show rtD l s zs = s / gcdZ (10 * l) s by simp [rtD, hg]]
  have CR := Lib.hid (fun w => impl_lowest (10 * l) s w (by omega) (by omega) (by omega) (by omega))
  generalize 10 * l / gcdZ (10 * l) s = X at CR ⊢
  generalize s / gcdZ (10 * l) s = Y at CR ⊢
  clear hb hg
  go_enter Try.func26, Try.ntmps26
  (go_wp2_with fail; have hWV : Below wo.heap.size wo (wo.alloc (.cells #[.int .i64 l, .int .i64 s, .slice A n c] 27)) := (Below.refl _ _).alloc (Nat.le_refl _) _; have hV0 : wo.heap.size < (wo.alloc (.cells #[.int .i64 l, .int .i64 s, .slice A n c] 27)).heap.size := (by simp); have hv0 : (wo.alloc (.cells #[.int .i64 l, .int .i64 s, .slice A n c] 27)).cell? ⟨wo.heap.size, 0, none⟩ = some (.int .i64 l) := (by rw [cell_of_row _ _ _ _ _ _ (heap_alloc_new wo _)]; rfl); have hv1 : (wo.alloc (.cells #[.int .i64 l, .int .i64 s, .slice A n c] 27)).cell? ⟨wo.heap.size, 1, none⟩ = some (.int .i64 s) := (by rw [cell_of_row _ _ _ _ _ _ (heap_alloc_new wo _)]; rfl); have hv2 : (wo.alloc (.cells #[.int .i64 l, .int .i64 s, .slice A n c] 27)).cell? ⟨wo.heap.size, 2, none⟩ = some (.slice A n c) := (by rw [cell_of_row _ _ _ _ _ _ (heap_alloc_new wo _)]; rfl); generalize wo.alloc (.cells #[.int .i64 l, .int .i64 s, .slice A n c] 27) = w at hWV hV0 hv0 hv1 hv2 ⊢; have hr := h.below hWV)
  have hB : Below w.heap.size w w := Below.refl _ _
  go_wp2_with (first | (go_at_call 17; refine (CG.out _ hr).mono ?_; rintro e w' ⟨rfl, hb⟩; have hB : Below w.heap.size w w' := Below.thenn (by repeat (first | exact Below.refl _ _ | assumption | apply Below.drew | apply below_drewN | (refine Below.alloc ?_ (by first | omega | (simp; done) | (simp; omega)) _) | (refine Below.setCell ?_ (by first | omega | (simp; done) | (simp; omega)) _))) hb (by first | omega | (simp; done) | (simp; omega)); have hz : w.heap.size ≤ w'.heap.size := hB.size; (try (have hz1 : w.heap.size + 1 ≤ w'.heap.size := (by have h := hb.size; (try simp at h); omega))); obtain ⟨hc, hf⟩ := bcell hb; clear hb) | (go_at_call 58; refine (CR.out _).mono ?_; rintro e w' ⟨rfl, hb⟩; have hB : Below w.heap.size w w' := Below.thenn (by repeat (first | exact Below.refl _ _ | assumption | apply Below.drew | apply below_drewN | (refine Below.alloc ?_ (by first | omega | (simp; done) | (simp; omega)) _) | (refine Below.setCell ?_ (by first | omega | (simp; done) | (simp; omega)) _))) hb (by first | omega | (simp; done) | (simp; omega)); have hz : w.heap.size ≤ w'.heap.size := hB.size; (try (have hz1 : w.heap.size + 1 ≤ w'.heap.size := (by have h := hb.size; (try simp at h); omega))); obtain ⟨hc, hf⟩ := bcell hb; clear hb))
  (refine wp_region_ext (by kernel_rfl) (by kernel_rfl) ?_; have hxe := ext_cells; (repeat (go_big_quiet_step (fail))); refine wpQuiet_nil ?_; intro w' hw'; obtain ⟨nx, hw''⟩ := hw'; have hbx := ext_out hw''; clear hw'' nx hxe; have hB : Below w.heap.size w w' := Below.thenn (by repeat (first | exact Below.refl _ _ | assumption | apply Below.drew | apply below_drewN | (refine Below.alloc ?_ (by first | omega | (simp; done) | (simp; omega)) _) | (refine Below.setCell ?_ (by first | omega | (simp; done) | (simp; omega)) _))) hbx (by first | omega | (simp; done) | (simp; omega)); have hz : w.heap.size ≤ w'.heap.size := hB.size; obtain ⟨hc, hf⟩ := bcell hbx; clear hbx)
  go_wp2_with fail
  go_ret3
  exact ⟨rfl, Below.thenn hWV hB hWV.size⟩
end Go.Proofs.Ytidjgbonlejhhaa
