/- The laws' own small functions. -/
import Derived.Test.YtjfmicemnoglkaaDoorSDraw
namespace Go.Proofs.YtjfmicemnoglkaaDoor
open Go.RowKit
set_option linter.unusedVariables false
set_option linter.unusedSimpArgs false

/-- The law's bytes that came in. -/
theorem came_src {W : World} {A : Option Addr} {n c : Nat} {zs : List Int} (h : Came .u8 W A n c zs) (hn : n ≤ 65536) : Src.ok ⟨A, n, c, zs⟩ W := by
  obtain ⟨h1, h2, h3, h4, h5, h6⟩ := h
  refine ⟨h1, fun z hz => ?_, hn⟩
  have := h5 z hz
  simp [Lit.wf, IntKind.min, IntKind.max, IntKind.signed, IntKind.bits] at this
  omega
theorem laws_vBig (A : Option Addr) (n c : Nat) (w : World) : Calls Tryd.prog 4 #[.slice A n c] w fun e w' => e = .returned (.bool (decide (65536 < n))) ∧ w = w' := by
  go_enter Tryd.func4, Tryd.ntmps4
  go_wp2
  go_ret
  exact ⟨ret_bool (by rw [Bool.eq_iff_iff]; simp; omega), rfl⟩
end Go.Proofs.YtjfmicemnoglkaaDoor
