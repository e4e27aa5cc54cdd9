/- The exact laws of the grips: walks. -/
import Derived.Test.YtfnpbmndkbaodaaGripF
import Derived.Test.YtfnpbmndkbaodaaGripFB
import Derived.Test.YtfnpbmndkbaodaaFlGripB
namespace Go.Proofs.Ytfnpbmndkbaodaa
open Go.RowKit
set_option linter.unusedVariables false
set_option linter.unusedSimpArgs false

set_option maxRecDepth 100000 in
set_option maxHeartbeats 4000000 in
theorem law_FnExactWeakestGrip (aListA : Option Addr) (aListn aListc : Nat) (aList : List (List Int)) (W : World) (haList : CameR 5 W aListA aListn aListc aList) :
    Calls Try.prog 3 #[.slice aListA aListn aListc] W (Ret W (.bool true)) := by
  obtain ⟨hraList, hncaList, hcmaList, hwfaList, hnilaList⟩ := haList
  have hlaList := hraList.2.2
  simp only [maxLen] at hcmaList
  go_enter Try.func3, Try.ntmps3
  have hB : Below W.heap.size W W := Below.refl _ _
  go_wp2_with fail
  by_cases hbig0 : 1048576 < (aListn : Int)
  · refine (laws_szGripS_big _ _ _ (1048576) _ (by omega) (by omega) (by omega) (by omega)).mono ?_
    rintro e _ ⟨rfl, rfl⟩
    go_wp2_with fail
    go_ret
    exact ⟨rfl, hB⟩
  refine (laws_szGripS _ _ _ (1048576) _ (by omega) (by omega)).mono ?_
  rintro e _ ⟨rfl, rfl⟩
  have hleft0 : ¬ (1048576 - (aListn : Int) < 0) := by omega
  have hsaList : aList.length ≤ 1048576 := by omega
  obtain rfl : aList.length = aListn := hlaList
  clear hwfaList
  go_wp2_with fail
  refine (laws_toGripS _ _ _ aList _ (hraList.below hB) (by omega)).mono ?_
  rintro e w1 ⟨A1, c1, rfl, ho1, hb⟩
  replace hB := Below.thenn hB hb hB.size
  clear hb
  go_wp2_with fail
  refine (spec_WeakestGrip _ _ _ aList _ ho1.rdR (by omega)).mono ?_
  rintro e w2 ⟨rfl, hb⟩
  replace hB := Below.thenn hB hb hB.size
  replace ho1 := ho1.below hb
  clear hb
  go_wp2_with fail
  refine (laws_toGripS _ _ _ aList _ (hraList.below hB) (by omega)).mono ?_
  rintro e w3 ⟨A2, c2, rfl, ho2, hb⟩
  replace hB := Below.thenn hB hb hB.size
  replace ho1 := ho1.below hb
  clear hb
  go_wp2_with fail
  refine (impl_WeakestGrip _ _ _ aList _ ho2.rdR (by omega)).mono ?_
  rintro e w4 ⟨rfl, hb⟩
  replace hB := Below.thenn hB hb hB.size
  replace ho1 := ho1.below hb
  replace ho2 := ho2.below hb
  clear hb
  go_wp2_with fail
  refine (laws_toGripS _ _ _ aList _ (hraList.below hB) (by omega)).mono ?_
  rintro e w5 ⟨A3, c3, rfl, ho3, hb⟩
  replace hB := Below.thenn hB hb hB.size
  replace ho1 := ho1.below hb
  replace ho2 := ho2.below hb
  clear hb
  go_wp2_with fail
  refine (laws_eqGripS _ _ _ _ _ _ (aList) _ ho2.rdR ho3.rdR (by first | omega | (simp; omega) | (simp [iota_len]; omega))).mono ?_
  rintro e w6 ⟨rfl, hb⟩
  replace hB := Below.thenn hB hb hB.size
  replace ho1 := ho1.below hb
  replace ho2 := ho2.below hb
  replace ho3 := ho3.below hb
  clear hb
  go_wp2_with fail
  go_ret
  exact ⟨rfl, hB⟩

end Go.Proofs.Ytfnpbmndkbaodaa
