/- AUTO. The laws' own small functions. -/
import Derived.Test.YtjfmicemnoglkaaDraw
namespace Go.Proofs.Ytjfmicemnoglkaa
open Go.RowKit
set_option linter.unusedVariables false
set_option linter.unusedSimpArgs false

/-- The law's bytes that came in. -/
theorem came_src {W : World} {A : Option Addr} {n c : Nat} {zs : List Int} (h : Came .u8 W A n c zs) (hn : n ≤ 65536) : Src.ok ⟨A, n, c, zs⟩ W := by
  obtain ⟨h1, h2, h3, h4, h5, h6⟩ := h
  refine ⟨h1, fun z hz => ?_, hn⟩
  have := h5 z hz
  simp [Lit.wf, IntKind.min, IntKind.max, IntKind.signed, IntKind.bits] at this
  omega
theorem laws_vBig (A : Option Addr) (n c : Nat) (w : World) : Calls Try.prog 9 #[.slice A n c] w fun e w' => e = .returned (.bool (decide (65536 < n))) ∧ w = w' := by
  go_enter Try.func9, Try.ntmps9
  go_wp2
  go_ret
  exact ⟨ret_bool (by rw [Bool.eq_iff_iff]; simp; omega), rfl⟩
set_option maxHeartbeats 1000000 in
theorem laws_vInts (A A' : Option Addr) (n n' c c' : Nat) (xs ys : List Int) (w : World) (h : Rd w 1 A n (IV xs)) (h' : Rd w 1 A' n' (IV ys)) (hm : n ≤ 9223372036854775807) (hm' : n' ≤ 9223372036854775807) :
    Calls Try.prog 27 #[.slice A n c, .slice A' n' c'] w (Quiet w (.bool (decide (xs = ys)))) := by
  have hl := Lib.hid h.len
  have hl' := Lib.hid h'.len
  by_cases hne : n = n'
  · subst hne
    go_enter Try.func27, Try.ntmps27
    go_wp2
    go_loopg [5] n (fun g i wr => ∃ k m : Nat, k ≤ n ∧ n ≤ k + g ∧ i = .int .i64 k ∧ w.drewN m = wr ∧ Hid (xs.take k = ys.take k))
    case atStart => exact ⟨0, 0, by omega, by omega, rfl, rfl, rfl⟩
    case round =>
      obtain ⟨k, m, hk1, hk2, rfl, rfl, ha⟩ := hrel
      by_cases hlt : k < n
      · obtain ⟨b, off, x, rfl, hx, hc⟩ := h.at1 hlt
        obtain ⟨b', off', y, rfl, hy, hc'⟩ := h'.at1 hlt
        have HX := Lib.hid hx
        have HY := Lib.hid hy
        clear hx hy
        rcases Decidable.em (x = y) with rfl | hxy
        · go_wp2_with fail
          go_quiet (fail)
          go_wp2_with fail
          go_roundg (n - (k + 1))
          case measure => omega
          case rel => exact ⟨k + 1, _, by omega, by omega, by go_num, rfl, eq_next HX.out HY.out ha.out⟩
        · have hb : (x != y) = true := by simpa using hxy
          have HN := Lib.hid hxy
          clear hxy
          go_wp2_with fail
          go_quiet (fail)
          go_wp2_with fail
          go_ret
          exact ⟨ret_bool (eq_stop HX.out HY.out HN.out).symm, _, World.drewN_drewN _ _ _⟩
      · go_wp2_with fail
        go_ret
        exact ⟨ret_bool (eq_end hl.out hl'.out (by omega) ha.out).symm, _, rfl⟩
  · have hb : ((n : Int) != (n' : Int)) = true := by simp; omega
    have HN := Lib.hid hne
    clear hne
    go_enter Try.func27, Try.ntmps27
    go_wp2
    go_ret
    refine ⟨ret_bool (Eq.symm ?_), 0, rfl⟩
    simp only [decide_eq_false_iff_not]
    rintro rfl
    exact HN.out (hl.out.symm.trans hl'.out)

theorem laws_rBig (A : Option Addr) (n c : Nat) (w : World) : Calls Try.prog 78 #[.slice A n c] w fun e w' => e = .returned (.bool (decide (65536 < n))) ∧ w = w' := by
  go_enter Try.func78, Try.ntmps78
  go_wp2
  go_ret
  exact ⟨ret_bool (by rw [Bool.eq_iff_iff]; simp; omega), rfl⟩
end Go.Proofs.Ytjfmicemnoglkaa
