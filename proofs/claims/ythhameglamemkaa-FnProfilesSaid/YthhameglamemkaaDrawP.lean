/- Profiles, speeds and rates that are drawn. -/
import Derived.Test.YthhameglamemkaaDraw
import Derived.Test.YthhameglamemkaaSpeed
namespace Go.Proofs.Ythhameglamemkaa
open Go.RowKit
set_option linter.unusedVariables false
set_option linter.unusedSimpArgs false

theorem cur_one (w : World) (g : Nat) (S : Src) (K : Nat) (m : Int) (h : Cur w g S K) (hK : K ≤ 900000) (h0 : 1 ≤ m) (h1 : m ≤ 65536) :
    Calls Try.prog 65 #[.pointer (some ⟨g, 0, none⟩), .int .i64 m] w (DrewB w g S (K + 2)) := by
  have H := Lib.hid h
  clear h
  go_enter Try.func65, Try.ntmps65
  go_wp2_with (go_at_call 71; (with_reducible refine (cur_pick w _ S (K) (m) (H.out) (by omega) (by omega) (by omega)).mono ?_); rintro e w1 ⟨r, ⟨r0, r1⟩, rfl, hC, hG⟩; have Cw1 := Lib.hid hC; have Gw1 := Lib.hid hG; have Zw1 := hG.size; clear hC hG)
  go_ret
  exact ⟨_, rfl, Cw1.out, Gw1.out⟩
theorem cur_speed (w : World) (g : Nat) (S : Src) (K : Nat) (h : Cur w g S K) (hK : K ≤ 900000) :
    Calls Try.prog 64 #[.pointer (some ⟨g, 0, none⟩)] w (Drew w g S (K + 2) fun r => -1 ≤ r ∧ r ≤ 101) := by
  have H := Lib.hid h
  clear h
  go_enter Try.func64, Try.ntmps64
  go_wp2_with (go_at_call 68; refine (cur_among w _ S (K) [0, 0, 3, 10, 25, 50, 77, 100, 101, -1] (fun r => -1 ≤ r ∧ r ≤ 101) _ _ (H.out) (by omega) rfl rfl (by decide) (by decide) (by decide)).mono ?_; rintro e w1 ⟨r, rp, rfl, hC, hG⟩; have Cw1 := Lib.hid hC; have Gw1 := Lib.hid hG; have Zw1 := hG.size; clear hC hG)
  go_ret
  exact Drew.mk rp rfl Cw1.out Gw1.out
theorem cur_rate (w : World) (g : Nat) (S : Src) (K : Nat) (h : Cur w g S K) (hK : K ≤ 900000) :
    Calls Try.prog 66 #[.pointer (some ⟨g, 0, none⟩)] w (Drew w g S (K + 2) fun r => 0 ≤ r ∧ r ≤ 21) := by
  have H := Lib.hid h
  clear h
  go_enter Try.func66, Try.ntmps66
  go_wp2_with (go_at_call 68; refine (cur_among w _ S (K) [1, 2, 5, 5, 10, 20, 3, 0, 21] (fun r => 0 ≤ r ∧ r ≤ 21) _ _ (H.out) (by omega) rfl rfl (by decide) (by decide) (by decide)).mono ?_; rintro e w1 ⟨r, rp, rfl, hC, hG⟩; have Cw1 := Lib.hid hC; have Gw1 := Lib.hid hG; have Zw1 := hG.size; clear hC hG)
  go_ret
  exact Drew.mk rp rfl Cw1.out Gw1.out
end Go.Proofs.Ythhameglamemkaa
