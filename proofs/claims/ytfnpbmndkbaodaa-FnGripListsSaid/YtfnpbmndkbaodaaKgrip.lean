/- The laws' own comparison of lists of grips. -/
import Derived.Test.YtfnpbmndkbaodaaDraw
import Derived.Test.YtfnpbmndkbaodaaFlGrip
namespace Go.Proofs.Ytfnpbmndkbaodaa
open Go.RowKit
set_option linter.unusedVariables false
set_option linter.unusedSimpArgs false

set_option maxHeartbeats 1000000 in
theorem laws_rGrips (A A' : Option Addr) (n n' c c' : Nat) (rows : List (List Int)) (w : World) (h : RdR w 5 A n rows) (h' : RdR w 5 A' n' rows) (hm : n ≤ 9223372036854775807) :
    Calls Try.prog 39 #[.slice A n c, .slice A' n' c'] w (Quiet w (.bool true)) := by
  have hl := Lib.hid h.2.2
  obtain rfl : n = n' := by rw [← h.2.2, ← h'.2.2]
  go_enter Try.func39, Try.ntmps39
  go_wp2
  go_loopg [5] n (fun g i wr => ∃ k m : Nat, k ≤ n ∧ n ≤ k + g ∧ i = .int .i64 k ∧ w.drewN m = wr)
  case atStart => exact ⟨0, 0, by omega, by omega, rfl, rfl⟩
  case round =>
    obtain ⟨k, m, hk1, hk2, rfl, rfl⟩ := hrel
    by_cases hlt : k < n
    · obtain ⟨b, off, x0, x1, x2, x3, x4, rfl, hr, hb, c0, c1, c2, c3, c4⟩ := h.row5 hlt
      obtain ⟨b', off', y0, y1, y2, y3, y4, rfl, hr', hb', d0, d1, d2, d3, d4⟩ := h'.row5 hlt
      rw [hr] at hr'
      injection hr' with hr'
      injection hr' with e0 hr'
      injection hr' with e1 hr'
      injection hr' with e2 hr'
      injection hr' with e3 hr'
      injection hr' with e4 hr'
      subst e0 e1 e2 e3 e4
      clear hr hr'
      go_wp2_with fail
      go_quiet (fail)
      go_wp2_with fail
      go_roundg (n - (k + 1))
      case measure => omega
      case rel => exact ⟨k + 1, _, by omega, by omega, by go_num, rfl⟩
    · go_wp2_with fail
      go_ret
      exact ⟨rfl, m, rfl⟩
end Go.Proofs.Ytfnpbmndkbaodaa
