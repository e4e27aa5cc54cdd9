/- The exact laws of the speed profiles: walks. -/
import Derived.Test.YthhameglamemkaaSpeed
namespace Go.Proofs.Ythhameglamemkaa
open Go.RowKit
set_option linter.unusedVariables false
set_option linter.unusedSimpArgs false

/-- 'toIntS': a new slice that reads as the argument. -/
theorem laws_toIntS_ret (A : Option Addr) (n c : Nat) (xs : List Int) (w : World) (h : Rd w 1 A n (IV xs)) (hn : n ≤ 1048576) :
    Calls Try.prog 15 #[.slice A n c] w (RetS w xs) := by
  have e := h.len
  subst e
  refine (laws_toIntS A _ c xs w h hn).mono ?_
  rintro e w' ⟨rfl, rfl⟩
  exact ⟨_, _, rfl, Ow.lit w xs (by simp only [maxLen]; omega) (Nat.le_refl _), (Below.refl _ _).alloc (Nat.le_refl _) _⟩

set_option maxHeartbeats 4000000 in
theorem law_FnExactIsProfile (aA : Option Addr) (an ac : Nat) (a : List Int) (W : World) (ha : Came .i64 W aA an ac a) :
    Calls Try.prog 3 #[.slice aA an ac] W (Ret W (.bool true)) := by
  obtain ⟨hra, hla, hnca, hcma, hwfa, hnila⟩ := ha
  by_cases hbiga : 1048576 < an
  · go_enter Try.func3, Try.ntmps3
    go_wp2_with fail
    go_ret
    exact ⟨rfl, Below.refl _ _⟩
  have hsa : an ≤ 1048576 := by omega
  subst hla
  clear hwfa hbiga
  have hB : Below W.heap.size W W := Below.refl _ _
  go_enter Try.func3, Try.ntmps3
  go_wp2_with fail
  refine (laws_toIntS_ret _ _ _ a _ hra (by omega)).mono ?_
  rintro e w1 ⟨A1, c1, rfl, ho1, hb⟩
  replace hB := Below.thenn hB hb hB.size
  clear hb
  go_wp2_with fail
  refine (spec_IsProfile _ _ _ a _ ho1.rd (by omega)).mono ?_
  rintro e _ ⟨rfl, rfl⟩
  go_wp2_with fail
  refine (laws_toIntS_ret _ _ _ a _ (hra.below hB) (by omega)).mono ?_
  rintro e w2 ⟨A2, c2, rfl, ho2, hb⟩
  replace hB := Below.thenn hB hb hB.size
  replace ho1 := ho1.below hb
  clear hb
  go_wp2_with fail
  refine (impl_IsProfile _ _ _ a _ ho2.rd (by omega)).mono ?_
  rintro e _ ⟨rfl, rfl⟩
  go_wp2_with fail
  refine (laws_toIntS_ret _ _ _ a _ (hra.below hB) (by omega)).mono ?_
  rintro e w3 ⟨A3, c3, rfl, ho3, hb⟩
  replace hB := Below.thenn hB hb hB.size
  replace ho1 := ho1.below hb
  replace ho2 := ho2.below hb
  clear hb
  go_wp2_with fail
  refine (laws_eqIntS _ _ _ _ _ _ a a _ ho2.rd ho3.rd (by omega) (by omega)).mono ?_
  intro e w4 hq
  obtain ⟨rfl, hb⟩ := hq.ret
  replace hB := Below.thenn hB hb hB.size
  clear hq hb
  go_wp2_with fail
  go_ret
  exact ⟨rfl, hB⟩
end Go.Proofs.Ythhameglamemkaa
