/- The greatest common divisor, fractions in lowest terms: the program's and the reference's. -/
import Derived.Test.YtjfmicemnoglkaaFrcP
import Derived.Test.YtjfmicemnoglkaaExt
import Derived.Deep.RegionWith
namespace Go.Proofs.Ytjfmicemnoglkaa
open Go.RowKit
set_option linter.unusedVariables false
set_option linter.unusedSimpArgs false

theorem tmod_bd {x y M : Int} (h0 : -M ≤ x) (h1 : x ≤ M) (hy : y ≠ 0) : (x.tmod y).natAbs < y.natAbs ∧ -M ≤ x.tmod y ∧ x.tmod y ≤ M := by
  have h2 : (x.tmod y).natAbs < y.natAbs := by rw [Int.natAbs_tmod]; exact Nat.mod_lt _ (by omega)
  have h3 : (x.tmod y).natAbs ≤ x.natAbs := by rw [Int.natAbs_tmod]; exact Nat.mod_le _ _
  omega
set_option maxHeartbeats 2000000 in
theorem impl_divisor (a b : Int) (w : World) (ha : -1000000000000000000 ≤ a ∧ a ≤ 1000000000000000000) (hb : -1000000000000000000 ≤ b ∧ b ≤ 1000000000000000000) :
    Calls Try.prog 151 #[.int .i64 a, .int .i64 b] w (Quiet w (.int .i64 (gV a b))) := by
  go_enter Try.func151, Try.ntmps151
  go_wp2
  go_loopg [0, 1] b.natAbs (fun g t0 t1 wr => ∃ (x y : Int) (m : Nat), y.natAbs ≤ g ∧ t0 = .int .i64 x ∧ t1 = .int .i64 y ∧ (-1000000000000000000 ≤ x ∧ x ≤ 1000000000000000000) ∧ (-1000000000000000000 ≤ y ∧ y ≤ 1000000000000000000) ∧ w.drewN m = wr ∧ Hid (gV x y = gV a b))
  case atStart => exact ⟨a, b, 0, Nat.le_refl _, rfl, rfl, ha, hb, rfl, rfl⟩
  case round =>
    obtain ⟨x, y, m, hg, rfl, rfl, hx, hy, rfl, HG⟩ := hrel
    by_cases h0 : y = 0
    · subst h0
      have u : IntKind.i64.wrap (-x) = -x := IntWalk.i64_in _ (by omega)
      go_wp2_with fail
      all_goals go_ret
      all_goals exact ⟨ret_int (by rw [← HG.out, gV_zero]; omega), _, rfl⟩
    · have hz : (y != 0) = true := by simpa using h0
      have hz2 : (y == 0) = false := by simpa using h0
      obtain ⟨h1, h2, h3⟩ := tmod_bd hx.1 hx.2 h0
      have u : IntKind.i64.wrap (x.tmod y) = x.tmod y := IntWalk.i64_in _ (by omega)
      have HE := Lib.hid ((gV_step x y).trans HG.out)
      go_wp2_with fail
      go_quiet (fail)
      go_wp2_with fail
      go_roundg (x.tmod y).natAbs
      case measure => omega
      case rel => exact ⟨y, x.tmod y, _, Nat.le_refl _, rfl, rfl, hy, ⟨h2, h3⟩, (World.drewN_drewN _ _ _).symm, HE.out⟩
end Go.Proofs.Ytjfmicemnoglkaa
