/- Fractions in lowest terms: the program's and the reference's. -/
import Derived.Test.YtjfmicemnoglkaaFrcA
import Derived.Test.YtjfmicemnoglkaaTail
namespace Go.Proofs.Ytjfmicemnoglkaa
open Go.RowKit
set_option linter.unusedVariables false
set_option linter.unusedSimpArgs false

theorem quo_bd {a b M : Int} (hb : 0 < b) (h0 : -M ≤ a) (h1 : a ≤ M) (hM : b ≤ M) : (-M ≤ redN a b ∧ redN a b ≤ M) ∧ (0 < redD a b ∧ redD a b ≤ M) := by
  have h2 := redN_abs hb h0 h1
  have h3 := redD_pos (a := a) hb
  have h4 := redD_le (a := a) hb
  exact ⟨h2, h3, by omega⟩
set_option maxHeartbeats 2000000 in
theorem impl_lowest (a b : Int) (w : World) (ha : -1000000000000000000 ≤ a ∧ a ≤ 1000000000000000000) (hb : 0 < b ∧ b ≤ 1000000000000000000) :
    Calls Try.prog 100 #[.int .i64 a, .int .i64 b] w (Ret w (.agg #[.int .i64 (redN a b), .int .i64 (redD a b)])) := by
  have cd := fun w => impl_divisor a b w ha (by omega)
  have hg := gV_pos (a := a) hb.1
  obtain ⟨h1, h2⟩ := quo_bd (a := a) (M := 1000000000000000000) hb.1 ha.1 ha.2 hb.2
  have u1 : IntKind.i64.wrap (redN a b) = redN a b := IntWalk.i64_in _ (by omega)
  have u2 : IntKind.i64.wrap (redD a b) = redD a b := IntWalk.i64_in _ (by omega)
  unfold redN at h1 u1
  unfold redD at h2 u2
  unfold redN redD
  generalize gV a b = g at *
  have e1 : (g == 0) = false := by simp; omega
  have CD := Lib.hid cd
  clear cd
  go_enter Try.func100, Try.ntmps100
  go_wp2_with (go_at_call 151; refine (CD.out _).mono ?_; rintro e w' ⟨rfl, nq, rfl⟩)
  (refine wp_region_tail 7 (by kernel_rfl) (by kernel_rfl) ?_; simp only [List.take_succ_cons, List.take_zero, List.drop_succ_cons, List.drop_zero]; (repeat (go_big_quiet_step (fail))); refine wpQuiet_nil ?_)
  go_wp2_with fail
  (go_light; refine bodyPost_ret ?_ rfl ⟨rfl, (by repeat (first | exact Below.refl _ _ | assumption | apply Below.drew | apply below_drewN | (refine Below.alloc ?_ (by first | omega | (simp; done) | (simp; omega)) _) | (refine Below.setCell ?_ (by first | omega | (simp; done) | (simp; omega)) _)))⟩; simp [results, Try.results100, go_sem, u1])
theorem gV_absl (a b : Int) : gV (max a (-a)) b = gV a b := gV_abs a b
set_option maxHeartbeats 2000000 in
theorem spec_l2Reduce (a b : Int) (w : World) (ha : -1000000000000000000 ≤ a ∧ a ≤ 1000000000000000000) (hb : 0 < b ∧ b ≤ 1000000000000000000) :
    Calls Try.prog 104 #[.int .i64 a, .int .i64 b] w (Quiet w (.tuple #[.int .i64 (redN a b), .int .i64 (redD a b)])) := by
  have hg := gV_pos (a := a) hb.1
  obtain ⟨h1, h2⟩ := quo_bd (a := a) (M := 1000000000000000000) hb.1 ha.1 ha.2 hb.2
  have u1 : IntKind.i64.wrap (redN a b) = redN a b := IntWalk.i64_in _ (by omega)
  have u2 : IntKind.i64.wrap (redD a b) = redD a b := IntWalk.i64_in _ (by omega)
  have u3 : IntKind.i64.wrap (-a) = -a := IntWalk.i64_in _ (by omega)
  unfold redN at h1 u1
  unfold redD at h2 u2
  unfold redN redD
  have G0 := Lib.hid (gV_abs a b)
  generalize gV a b = g at *
  have e1 : (g == 0) = false := by simp; omega
  have e2 : (g != 0) = true := by simp; omega
  go_enter Try.func104, Try.ntmps104
  go_wp2_with (go_at_call 108; refine (spec_l1Most _ _ _).mono ?_; rintro e w' ⟨rfl, rfl⟩)
  generalize hm : max a (-a) = m at *
  have hm0 : 0 ≤ m ∧ m ≤ 1000000000000000000 := by omega
  clear hm
  go_loopg [6, 7, 8] b.natAbs (fun f t0 t1 t2 wr => ∃ (x y : Int), y.natAbs ≤ f ∧ t0 = .int .i64 x ∧ t1 = .int .i64 y ∧ (0 ≤ x ∧ x ≤ 1000000000000000000) ∧ (0 ≤ y ∧ y ≤ 1000000000000000000) ∧ w = wr ∧ Hid (gV x y = g))
  case atStart => exact ⟨m, b, Nat.le_refl _, rfl, rfl, hm0, by omega, rfl, G0.out⟩
  case round =>
    obtain ⟨x, y, hg, rfl, rfl, hx, hy, rfl, HG⟩ := hrel
    by_cases h0 : y = 0
    · subst h0
      have hxg : x = g := by rw [← HG.out, gV_zero]; omega
      subst hxg
      go_wp2_with fail
      go_quiet (fail)
      go_wp2_with fail
      go_ret2
      exact ⟨rfl, _, rfl⟩
    · have hz : (y != 0) = true := by simpa using h0
      have hz2 : (y == 0) = false := by simpa using h0
      obtain ⟨h1', h2', h3'⟩ := tmod_bd (M := 1000000000000000000) (by omega) hx.2 h0
      have h4' : 0 ≤ x.tmod y := Int.tmod_nonneg _ hx.1
      have he := (gV_step x y).trans HG.out
      rw [Int.tmod_eq_emod_of_nonneg hx.1] at h1' h3' h4' he
      have HE := Lib.hid he
      clear he h2'
      go_wp2_with fail
      go_roundg (x % y).natAbs
      case measure => omega
      case rel => exact ⟨y, x % y, Nat.le_refl _, rfl, rfl, hy, ⟨h4', h3'⟩, rfl, HE.out⟩
end Go.Proofs.Ytjfmicemnoglkaa
