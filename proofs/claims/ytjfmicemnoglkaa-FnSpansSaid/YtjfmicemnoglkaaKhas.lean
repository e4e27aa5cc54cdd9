/- AUTO. The laws' own search for a number. -/
import Derived.Test.YtjfmicemnoglkaaDraw
namespace Go.Proofs.Ytjfmicemnoglkaa
open Go.RowKit
set_option linter.unusedVariables false
set_option linter.unusedSimpArgs false

theorem has_stop {xs : List Int} {k : Nat} {x : Int} (h : xs[k]? = some x) : decide (x ∈ xs) = true := by simpa using List.mem_of_getElem? h
theorem has_next {xs : List Int} {k : Nat} {x y : Int} (h : xs[k]? = some y) (hn : y ≠ x) (ha : x ∉ xs.take k) : x ∉ xs.take (k + 1) := by
  rw [take_next h]
  simp
  exact ⟨ha, fun e => hn e.symm⟩
theorem has_end {xs : List Int} {n k : Nat} {x : Int} (hl : xs.length = n) (hk : n ≤ k) (ha : x ∉ xs.take k) : decide (x ∈ xs) = false := by
  rw [List.take_of_length_le (by omega)] at ha
  simpa using ha
set_option maxHeartbeats 1000000 in
theorem laws_vHas (A : Option Addr) (n c : Nat) (xs : List Int) (x : Int) (w : World) (h : Rd w 1 A n (IV xs)) (hm : n ≤ 9223372036854775807) :
    Calls Try.prog 33 #[.slice A n c, .int .i64 x] w fun e w' => e = .returned (.bool (decide (x ∈ xs))) ∧ w = w' := by
  have hl := Lib.hid h.len
  go_enter Try.func33, Try.ntmps33
  go_wp2
  go_loopg [5] n (fun g i wr => ∃ k : Nat, k ≤ n ∧ n ≤ k + g ∧ i = .int .i64 k ∧ w = wr ∧ Hid (x ∉ xs.take k))
  case atStart => exact ⟨0, by omega, by omega, rfl, rfl, (show x ∉ _ by simp)⟩
  case round =>
    obtain ⟨k, hk1, hk2, rfl, rfl, ha⟩ := hrel
    by_cases hlt : k < n
    · obtain ⟨b, off, y, rfl, hy, hc⟩ := h.at1 hlt
      have HY := Lib.hid hy
      clear hy
      rcases Decidable.em (y = x) with rfl | hxy
      · go_wp2_with fail
        go_ret
        exact ⟨ret_bool (has_stop HY.out).symm, rfl⟩
      · have hb : (y == x) = false := by simpa using hxy
        have HN := Lib.hid hxy
        clear hxy
        go_wp2_with fail
        go_roundg (n - (k + 1))
        case measure => omega
        case rel => exact ⟨k + 1, by omega, by omega, by go_num, rfl, has_next HY.out HN.out ha.out⟩
    · go_wp2_with fail
      go_ret
      exact ⟨ret_bool (has_end hl.out (by omega) ha.out).symm, rfl⟩
end Go.Proofs.Ytjfmicemnoglkaa
