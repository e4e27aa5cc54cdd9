/- The circle: how often cabins come to a place. -/
import Derived.Test.YtidjgbonlejhhaaCircC
namespace Go.Proofs.Ytidjgbonlejhhaa
open Go.RowKit
set_option linter.unusedVariables false
set_option linter.unusedSimpArgs false

theorem impl_isTime (v : Int) (w : World) : Calls Try.prog 55 #[.int .i64 v] w fun e w' => e = .returned (.bool (inr v 0 100000)) ∧ w = w' := by
  go_enter Try.func55, Try.ntmps55
  go_wp2_with (go_at_call 51; refine (impl_within _ _ _ _).mono ?_; rintro e w' ⟨rfl, rfl⟩)
  go_ret
  exact ⟨rfl, rfl⟩
theorem spec_l8Time (v : Int) (w : World) : Calls Try.prog 53 #[.int .i64 v] w fun e w' => e = .returned (.bool (inr v 0 100000)) ∧ w = w' := by
  go_enter Try.func53, Try.ntmps53
  go_wp2_with (go_at_call 52; refine (spec_l1In _ _ _ _).mono ?_; rintro e w' ⟨rfl, rfl⟩)
  go_ret
  exact ⟨rfl, rfl⟩
/-- The way from a start to a place. -/
def wayZ (l place x : Int) : Int := 10 * ((place - x) % l)
theorem wayZ_bd {l place x : Int} (hl : 10 ≤ l) (hl' : l ≤ 4000) : 0 ≤ wayZ l place x ∧ wayZ l place x ≤ 39990 := by
  unfold wayZ
  have h1 := Int.emod_nonneg (place - x) (by omega : l ≠ 0)
  have h2 := Int.emod_lt_of_pos (place - x) (by omega : 0 < l)
  omega
theorem wayZ_eq {l place x : Int} (hl : 10 ≤ l) : (10 * (place - x) + 10 * l) % (10 * l) = wayZ l place x := by
  unfold wayZ
  rw [show 10 * (place - x) + 10 * l = 10 * (place - x + l) by omega, Int.mul_emod_mul_of_pos _ _ (by omega), Int.add_emod_right]
set_option maxHeartbeats 1000000 in
theorem impl_ahead (l s : Int) (A : Option Addr) (n c : Nat) (x place : Int) (w : World) (hl : 10 ≤ l) (hl' : l ≤ 4000) (hx : 0 ≤ x) (hx' : x ≤ l - 1) (hp : 0 ≤ place) (hp' : place ≤ l - 1) :
    Calls Try.prog 56 #[.agg #[.int .i64 l, .int .i64 s, .slice A n c], .int .i64 x, .int .i64 place] w (Ret w (.int .i64 (wayZ l place x))) := by
  have h1 := Int.emod_nonneg (place - x) (by omega : l ≠ 0)
  have h2 := Int.emod_lt_of_pos (place - x) (by omega : 0 < l)
  unfold wayZ
  go_enter Try.func56, Try.ntmps56
  go_wp2
  all_goals (go_ret; exact ⟨rfl, (by repeat (first | exact Below.refl _ _ | assumption | apply Below.drew | apply below_drewN | (refine Below.alloc ?_ (by first | omega | (simp; done) | (simp; omega)) _) | (refine Below.setCell ?_ (by first | omega | (simp; done) | (simp; omega)) _)))⟩)
set_option maxHeartbeats 1000000 in
theorem spec_l8Way (l s : Int) (A : Option Addr) (n c k : Nat) (zs : List Int) (x place : Int) (wo : World) (h : Rd wo 1 A n (IV zs)) (hxk : zs[k]? = some x) (hm : n ≤ 1048577) (hl : 10 ≤ l) (hl' : l ≤ 4000) (hx : 0 ≤ x) (hx' : x ≤ l - 1) (hp : 0 ≤ place) (hp' : place ≤ l - 1) :
    Calls Try.prog 54 #[.agg #[.int .i64 l, .int .i64 s, .slice A n c], .int .i64 k, .int .i64 place] wo (Ret wo (.int .i64 (wayZ l place x))) := by
  have hk : k < n := by have := lt_of_at hxk; have := h.len; omega
  have hw := wayZ_eq (place := place) (x := x) hl
  have hwb := wayZ_bd (place := place) (x := x) hl hl'
  have hwt : (10 * (place - x) + 10 * l).tmod (10 * l) = wayZ l place x := by rw [Int.tmod_eq_emod_of_nonneg (by omega)]; exact hw
  have w1 : IntKind.i64.wrap (place - x) = place - x := IntWalk.i64_in _ (by omega)
  have w2 : IntKind.i64.wrap (10 * (place - x)) = 10 * (place - x) := IntWalk.i64_in _ (by omega)
  have w3 : IntKind.i64.wrap (10 * l) = 10 * l := IntWalk.i64_in _ (by omega)
  have w4 : IntKind.i64.wrap (10 * (place - x) + 10 * l) = 10 * (place - x) + 10 * l := IntWalk.i64_in _ (by omega)
  have w5 : IntKind.i64.wrap (wayZ l place x) = wayZ l place x := IntWalk.i64_in _ (by omega)
  generalize wayZ l place x = W at hw hwb hwt w5 ⊢
  have hl0 : ¬ (l = 0) := by omega
  have hl1 : ¬ (10 * l = 0) := by omega
  clear hwb
  go_enter Try.func54, Try.ntmps54
  (go_wp2_with fail; have hWV : Below wo.heap.size wo (wo.alloc (.cells #[.int .i64 l, .int .i64 s, .slice A n c] 27)) := (Below.refl _ _).alloc (Nat.le_refl _) _; have hV0 : wo.heap.size < (wo.alloc (.cells #[.int .i64 l, .int .i64 s, .slice A n c] 27)).heap.size := (by simp); have hv0 : (wo.alloc (.cells #[.int .i64 l, .int .i64 s, .slice A n c] 27)).cell? ⟨wo.heap.size, 0, none⟩ = some (.int .i64 l) := (by rw [cell_of_row _ _ _ _ _ _ (heap_alloc_new wo _)]; rfl); have hv1 : (wo.alloc (.cells #[.int .i64 l, .int .i64 s, .slice A n c] 27)).cell? ⟨wo.heap.size, 1, none⟩ = some (.int .i64 s) := (by rw [cell_of_row _ _ _ _ _ _ (heap_alloc_new wo _)]; rfl); have hv2 : (wo.alloc (.cells #[.int .i64 l, .int .i64 s, .slice A n c] 27)).cell? ⟨wo.heap.size, 2, none⟩ = some (.slice A n c) := (by rw [cell_of_row _ _ _ _ _ _ (heap_alloc_new wo _)]; rfl); generalize wo.alloc (.cells #[.int .i64 l, .int .i64 s, .slice A n c] 27) = w at hWV hV0 hv0 hv1 hv2 ⊢; have hr := h.below hWV)
  obtain ⟨b, off, x', rfl, hx2, c0⟩ := hr.at1 hk
  obtain rfl : x = x' := by rw [hxk] at hx2; injection hx2
  have hbr : b < w.heap.size := World.block_lt_of_cell? _ _ c0
  have hB : Below w.heap.size w w := Below.refl _ _
  clear hr h hxk hx2
  (refine wp_region_ext (by kernel_rfl) (by kernel_rfl) ?_; have hxe := ext_cells; (repeat (go_big_quiet_step (fail))); refine wpQuiet_nil ?_; intro w' hw'; obtain ⟨nx, hw''⟩ := hw'; have hbx := ext_out hw''; clear hw'' nx hxe; have hB : Below w.heap.size w w' := Below.thenn (by repeat (first | exact Below.refl _ _ | assumption | apply Below.drew | apply below_drewN | (refine Below.alloc ?_ (by first | omega | (simp; done) | (simp; omega)) _) | (refine Below.setCell ?_ (by first | omega | (simp; done) | (simp; omega)) _))) hbx (by first | omega | (simp; done) | (simp; omega)); have hz : w.heap.size ≤ w'.heap.size := hB.size; obtain ⟨hc, hf⟩ := bcell hbx; clear hbx)
  go_wp2_with fail
  go_ret
  exact ⟨rfl, Below.thenn hWV hB hWV.size⟩
end Go.Proofs.Ytidjgbonlejhhaa
