/- The laws' own sum. -/
import Derived.Test.YtjfmicemnoglkaaDraw
namespace Go.Proofs.Ytjfmicemnoglkaa
open Go.RowKit
set_option linter.unusedVariables false
set_option linter.unusedSimpArgs false

theorem sum_bd {xs : List Int} : ∀ k : Nat, (∀ z ∈ xs, 0 ≤ z ∧ z ≤ 1000000) → 0 ≤ (xs.take k).sum ∧ (xs.take k).sum ≤ 1000000 * (k : Int)
  | 0, _ => by simp
  | k + 1, h => by
    have ih := sum_bd k h
    rcases Nat.lt_or_ge k xs.length with hk | hk
    · have e : xs[k]? = some xs[k] := List.getElem?_eq_getElem hk
      have := h xs[k] (List.getElem_mem hk)
      rw [take_next e, List.sum_append]
      simp
      omega
    · rw [List.take_of_length_le (by omega)] at ih ⊢
      omega
theorem sum_next {xs : List Int} {k : Nat} {x z : Int} (h : xs[k]? = some x) (hz : z = (xs.take k).sum) : z + x = (xs.take (k + 1)).sum := by
  rw [take_next h, List.sum_append, hz]
  simp
set_option maxHeartbeats 1000000 in
theorem laws_vSum (A : Option Addr) (n c : Nat) (xs : List Int) (w : World) (h : Rd w 1 A n (IV xs)) (hm : n ≤ 1000) (hb : ∀ z ∈ xs, 0 ≤ z ∧ z ≤ 1000000) :
    Calls Try.prog 32 #[.slice A n c] w fun e w' => e = .returned (.int .i64 xs.sum) ∧ w = w' := by
  have hl := Lib.hid h.len
  have HB := Lib.hid (fun k => sum_bd (xs := xs) k hb)
  have HM := Lib.hid hb
  clear hb
  go_enter Try.func32, Try.ntmps32
  go_wp2
  go_loopg [3, 4] n (fun g s i wr => ∃ (k : Nat) (z : Int), k ≤ n ∧ n ≤ k + g ∧ i = .int .i64 k ∧ s = .int .i64 z ∧ w = wr ∧ Hid (z = (xs.take k).sum))
  case atStart => exact ⟨0, 0, by omega, by omega, rfl, rfl, rfl, (show (0 : Int) = _ by simp)⟩
  case round =>
    obtain ⟨k, z, hk1, hk2, rfl, rfl, rfl, ha⟩ := hrel
    by_cases hlt : k < n
    · obtain ⟨b, off, x, rfl, hx, hc⟩ := h.at1 hlt
      have hx1 := HM.out x (List.mem_of_getElem? hx)
      have hz1 := HB.out k
      rw [← ha.out] at hz1
      have HN := Lib.hid (sum_next hx ha.out)
      have u1 : IntKind.i64.wrap (z + x) = z + x := IntWalk.i64_in _ (by omega)
      clear hx
      go_wp2_with fail
      go_roundg (n - (k + 1))
      case measure => omega
      case rel => exact ⟨k + 1, z + x, by omega, by omega, by go_num, rfl, rfl, HN.out⟩
    · go_wp2_with fail
      go_ret
      exact ⟨ret_int (by rw [ha.out, List.take_of_length_le (by have := hl.out; omega)]), rfl⟩
end Go.Proofs.Ytjfmicemnoglkaa
