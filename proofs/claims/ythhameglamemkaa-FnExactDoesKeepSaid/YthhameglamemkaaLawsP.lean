/- The exact laws of the speed profiles: walks. -/
import Derived.Test.YthhameglamemkaaSpeedC
namespace Go.Proofs.Ythhameglamemkaa
open Go.RowKit
set_option linter.unusedVariables false
set_option linter.unusedSimpArgs false

set_option maxHeartbeats 4000000 in
theorem law_FnExactIsProfile (aProfileA : Option Addr) (aProfilen aProfilec : Nat) (aProfile : List Int) (W : World) (haProfile : Came .i64 W aProfileA aProfilen aProfilec aProfile) :
    Calls Try.prog 3 #[.slice aProfileA aProfilen aProfilec] W (Ret W (.bool true)) := by
  obtain ⟨hraProfile, hlaProfile, hncaProfile, hcmaProfile, hwfaProfile, hnilaProfile⟩ := haProfile
  by_cases hbigaProfile : 1048576 < aProfilen
  · go_enter Try.func3, Try.ntmps3
    go_wp2_with fail
    go_ret
    exact ⟨rfl, Below.refl _ _⟩
  have hsaProfile : aProfile.length ≤ 1048576 := by omega
  obtain rfl : aProfile.length = aProfilen := hlaProfile
  clear hwfaProfile hbigaProfile
  have hB : Below W.heap.size W W := Below.refl _ _
  go_enter Try.func3, Try.ntmps3
  go_wp2_with fail
  refine (laws_toIntS_ret _ _ _ aProfile _ (hraProfile.below hB) (by omega)).mono ?_
  rintro e w1 ⟨A1, c1, rfl, ho1, hb⟩
  replace hB := Below.thenn hB hb hB.size
  clear hb
  go_wp2_with fail
  refine (spec_IsProfile _ _ _ aProfile _ ho1.rd (by omega)).mono ?_
  rintro e _ ⟨rfl, rfl⟩
  go_wp2_with fail
  refine (laws_toIntS_ret _ _ _ aProfile _ (hraProfile.below hB) (by omega)).mono ?_
  rintro e w2 ⟨A2, c2, rfl, ho2, hb⟩
  replace hB := Below.thenn hB hb hB.size
  replace ho1 := ho1.below hb
  clear hb
  go_wp2_with fail
  refine (impl_IsProfile _ _ _ aProfile _ ho2.rd (by omega)).mono ?_
  rintro e _ ⟨rfl, rfl⟩
  go_wp2_with fail
  refine (laws_toIntS_ret _ _ _ aProfile _ (hraProfile.below hB) (by omega)).mono ?_
  rintro e w3 ⟨A3, c3, rfl, ho3, hb⟩
  replace hB := Below.thenn hB hb hB.size
  replace ho1 := ho1.below hb
  replace ho2 := ho2.below hb
  clear hb
  go_wp2_with fail
  refine (laws_eqIntS _ _ _ _ _ _ _ _ _ ho2.rd ho3.rd (by first | omega | (simp; omega) | (simp [iota_len]; omega)) (by first | omega | (simp; omega) | (simp [iota_len]; omega))).mono ?_
  intro e w4 hq
  obtain ⟨rfl, hb⟩ := hq.ret
  clear hq
  replace hB := Below.thenn hB hb hB.size
  replace ho1 := ho1.below hb
  replace ho2 := ho2.below hb
  replace ho3 := ho3.below hb
  clear hb
  go_wp2_with fail
  go_ret
  exact ⟨rfl, hB⟩

set_option maxHeartbeats 4000000 in
theorem law_FnExactDoubleWay (aProfileA : Option Addr) (aProfilen aProfilec : Nat) (aProfile : List Int) (W : World) (haProfile : Came .i64 W aProfileA aProfilen aProfilec aProfile) :
    Calls Try.prog 4 #[.slice aProfileA aProfilen aProfilec] W (Ret W (.bool true)) := by
  obtain ⟨hraProfile, hlaProfile, hncaProfile, hcmaProfile, hwfaProfile, hnilaProfile⟩ := haProfile
  by_cases hbigaProfile : 1048576 < aProfilen
  · go_enter Try.func4, Try.ntmps4
    go_wp2_with fail
    go_ret
    exact ⟨rfl, Below.refl _ _⟩
  have hsaProfile : aProfile.length ≤ 1048576 := by omega
  obtain rfl : aProfile.length = aProfilen := hlaProfile
  clear hwfaProfile hbigaProfile
  have hB : Below W.heap.size W W := Below.refl _ _
  go_enter Try.func4, Try.ntmps4
  go_wp2_with fail
  refine (laws_toIntS_ret _ _ _ aProfile _ (hraProfile.below hB) (by omega)).mono ?_
  rintro e w1 ⟨A1, c1, rfl, ho1, hb⟩
  replace hB := Below.thenn hB hb hB.size
  clear hb
  go_wp2_with fail
  refine (spec_DoubleWay _ _ _ aProfile _ ho1.rd (by omega)).mono ?_
  intro e w2 hq
  obtain ⟨rfl, hb⟩ := hq.ret
  clear hq
  replace hB := Below.thenn hB hb hB.size
  replace ho1 := ho1.below hb
  clear hb
  go_wp2_with fail
  refine (laws_toIntS_ret _ _ _ aProfile _ (hraProfile.below hB) (by omega)).mono ?_
  rintro e w3 ⟨A2, c2, rfl, ho2, hb⟩
  replace hB := Below.thenn hB hb hB.size
  replace ho1 := ho1.below hb
  clear hb
  go_wp2_with fail
  refine (impl_DoubleWay _ _ _ aProfile _ ho2.rd (by omega)).mono ?_
  intro e w4 hq
  obtain ⟨rfl, hb⟩ := hq.ret
  clear hq
  replace hB := Below.thenn hB hb hB.size
  replace ho1 := ho1.below hb
  replace ho2 := ho2.below hb
  clear hb
  go_wp2_with fail
  refine (laws_toIntS_ret _ _ _ aProfile _ (hraProfile.below hB) (by omega)).mono ?_
  rintro e w5 ⟨A3, c3, rfl, ho3, hb⟩
  replace hB := Below.thenn hB hb hB.size
  replace ho1 := ho1.below hb
  replace ho2 := ho2.below hb
  clear hb
  go_wp2_with fail
  refine (laws_eqIntS _ _ _ _ _ _ _ _ _ ho2.rd ho3.rd (by first | omega | (simp; omega) | (simp [iota_len]; omega)) (by first | omega | (simp; omega) | (simp [iota_len]; omega))).mono ?_
  intro e w6 hq
  obtain ⟨rfl, hb⟩ := hq.ret
  clear hq
  replace hB := Below.thenn hB hb hB.size
  replace ho1 := ho1.below hb
  replace ho2 := ho2.below hb
  replace ho3 := ho3.below hb
  clear hb
  go_wp2_with fail
  go_ret
  exact ⟨rfl, hB⟩

set_option maxHeartbeats 4000000 in
theorem law_FnExactDoesKeep (aProfileA : Option Addr) (aProfilen aProfilec : Nat) (aProfile : List Int) (aA : Int) (W : World) (haProfile : Came .i64 W aProfileA aProfilen aProfilec aProfile) :
    Calls Try.prog 5 #[.slice aProfileA aProfilen aProfilec, .int .i64 aA] W (Ret W (.bool true)) := by
  obtain ⟨hraProfile, hlaProfile, hncaProfile, hcmaProfile, hwfaProfile, hnilaProfile⟩ := haProfile
  by_cases hbigaProfile : 1048576 < aProfilen
  · go_enter Try.func5, Try.ntmps5
    go_wp2_with fail
    go_ret
    exact ⟨rfl, Below.refl _ _⟩
  have hsaProfile : aProfile.length ≤ 1048576 := by omega
  obtain rfl : aProfile.length = aProfilen := hlaProfile
  clear hwfaProfile hbigaProfile
  have hB : Below W.heap.size W W := Below.refl _ _
  go_enter Try.func5, Try.ntmps5
  go_wp2_with fail
  refine (laws_toIntS_ret _ _ _ aProfile _ (hraProfile.below hB) (by omega)).mono ?_
  rintro e w1 ⟨A1, c1, rfl, ho1, hb⟩
  replace hB := Below.thenn hB hb hB.size
  clear hb
  go_wp2_with fail
  refine (spec_DoesKeep _ _ _ aProfile _ _ ho1.rd (by omega)).mono ?_
  intro e w2 hq
  obtain ⟨rfl, hb⟩ := hq.ret
  clear hq
  replace hB := Below.thenn hB hb hB.size
  replace ho1 := ho1.below hb
  clear hb
  go_wp2_with fail
  refine (laws_toIntS_ret _ _ _ aProfile _ (hraProfile.below hB) (by omega)).mono ?_
  rintro e w3 ⟨A2, c2, rfl, ho2, hb⟩
  replace hB := Below.thenn hB hb hB.size
  replace ho1 := ho1.below hb
  clear hb
  go_wp2_with fail
  refine (impl_DoesKeep _ _ _ aProfile _ _ ho2.rd (by omega)).mono ?_
  intro e w4 hq
  obtain ⟨rfl, hb⟩ := hq.ret
  clear hq
  replace hB := Below.thenn hB hb hB.size
  replace ho1 := ho1.below hb
  replace ho2 := ho2.below hb
  clear hb
  go_wp2_with fail
  refine (laws_toIntS_ret _ _ _ aProfile _ (hraProfile.below hB) (by omega)).mono ?_
  rintro e w5 ⟨A3, c3, rfl, ho3, hb⟩
  replace hB := Below.thenn hB hb hB.size
  replace ho1 := ho1.below hb
  replace ho2 := ho2.below hb
  clear hb
  go_wp2_with fail
  refine (laws_eqIntS _ _ _ _ _ _ _ _ _ ho2.rd ho3.rd (by first | omega | (simp; omega) | (simp [iota_len]; omega)) (by first | omega | (simp; omega) | (simp [iota_len]; omega))).mono ?_
  intro e w6 hq
  obtain ⟨rfl, hb⟩ := hq.ret
  clear hq
  replace hB := Below.thenn hB hb hB.size
  replace ho1 := ho1.below hb
  replace ho2 := ho2.below hb
  replace ho3 := ho3.below hb
  clear hb
  go_wp2_with fail
  go_ret
  exact ⟨rfl, hB⟩

set_option maxHeartbeats 4000000 in
theorem law_FnExactShortestTo (aFrom : Int) (aTo : Int) (aA : Int) (W : World)  :
    Calls Try.prog 6 #[.int .i64 aFrom, .int .i64 aTo, .int .i64 aA] W (Ret W (.bool true)) := by
  have hz1 : (shortR aFrom aTo aA).length ≤ 1048576 := shortR_len _ _ _
  have hB : Below W.heap.size W W := Below.refl _ _
  go_enter Try.func6, Try.ntmps6
  go_wp2_with fail
  refine (spec_ShortestTo _ _ _ _).mono ?_
  have hW1 : W.heap.size ≤ W.heap.size := hB.size
  rintro e w1 ⟨A1, c1, rfl, ho1, hb⟩
  replace hB := Below.thenn hB hb hB.size
  clear hb
  go_wp2_with fail
  refine (impl_ShortestTo _ _ _ _).mono ?_
  have hW2 : W.heap.size ≤ w1.heap.size := hB.size
  have hq1_2 := Lib.hid (Ow.block_lt ho1)
  rintro e w2 ⟨A2, c2, rfl, ho2, hb⟩
  replace hB := Below.thenn hB hb hB.size
  replace ho1 := ho1.below hb
  clear hb
  go_wp2_with fail
  refine (laws_eqIntS _ _ _ _ _ _ _ _ _ ho2.rd ho1.rd (by first | omega | (simp; omega) | (simp [iota_len]; omega)) (by first | omega | (simp; omega) | (simp [iota_len]; omega))).mono ?_
  intro e w3 hq
  obtain ⟨rfl, hb⟩ := hq.ret
  clear hq
  replace hB := Below.thenn hB hb hB.size
  replace ho1 := ho1.below hb
  replace ho2 := ho2.below hb
  clear hb
  go_wp2_with fail
  refine (laws_markIntS _ _ _ _ _ (1) _ ho2 (by omega) (by first | omega | (simp; omega) | (simp [iota_len]; omega)) (by first | omega | (simp; omega) | (simp [iota_len]; omega))).mono ?_
  rintro e w4 ⟨rfl, ho2n, hg⟩
  replace hB := below_own hB ho2 hg hW2 hB.size
  replace ho1 := Ow.other2 ho1 hg hq1_2.out (Ow.block_ge ho2)
  replace ho2 := ho2n
  clear hg
  go_wp2_with fail
  refine (laws_heldIntS _ _ _ (1) _ ho2.rd (by omega) (by first | omega | (simp; omega) | (simp [iota_len]; omega)) (by first | omega | (simp; omega) | (simp [iota_len]; omega))).mono ?_
  rintro e _ ⟨rfl, rfl⟩
  go_wp2_with fail
  refine (impl_ShortestTo _ _ _ _).mono ?_
  have hW3 : W.heap.size ≤ w4.heap.size := hB.size
  have hq1_3 := Lib.hid (Ow.block_lt ho1)
  have hq2_3 := Lib.hid (Ow.block_lt ho2)
  rintro e w5 ⟨A3, c3, rfl, ho3, hb⟩
  replace hB := Below.thenn hB hb hB.size
  replace ho1 := ho1.below hb
  replace ho2 := ho2.below hb
  clear hb
  go_wp2_with fail
  refine (laws_eqIntS _ _ _ _ _ _ _ _ _ ho3.rd ho1.rd (by first | omega | (simp; omega) | (simp [iota_len]; omega)) (by first | omega | (simp; omega) | (simp [iota_len]; omega))).mono ?_
  intro e w6 hq
  obtain ⟨rfl, hb⟩ := hq.ret
  clear hq
  replace hB := Below.thenn hB hb hB.size
  replace ho1 := ho1.below hb
  replace ho2 := ho2.below hb
  replace ho3 := ho3.below hb
  clear hb
  go_wp2_with fail
  refine (laws_heldIntS _ _ _ (1) _ ho2.rd (by omega) (by first | omega | (simp; omega) | (simp [iota_len]; omega)) (by first | omega | (simp; omega) | (simp [iota_len]; omega))).mono ?_
  rintro e _ ⟨rfl, rfl⟩
  go_wp2_with fail
  go_ret
  exact ⟨rfl, hB⟩

set_option maxHeartbeats 4000000 in
theorem law_FnExactStopWay (aSpeed : Int) (aA : Int) (W : World)  :
    Calls Try.prog 7 #[.int .i64 aSpeed, .int .i64 aA] W (Ret W (.bool true)) := by
  have hB : Below W.heap.size W W := Below.refl _ _
  go_enter Try.func7, Try.ntmps7
  go_wp2_with fail
  refine (spec_StopWay _ _ _).mono ?_
  rintro e w1 ⟨rfl, hb⟩
  replace hB := Below.thenn hB hb hB.size
  clear hb
  go_wp2_with fail
  refine (impl_StopWay _ _ _).mono ?_
  rintro e w2 ⟨rfl, hb⟩
  replace hB := Below.thenn hB hb hB.size
  clear hb
  go_wp2_with fail
  go_ret
  exact ⟨rfl, hB⟩

set_option maxHeartbeats 4000000 in
theorem law_FnExactSpeedFor (aWay : Int) (aA : Int) (W : World)  :
    Calls Try.prog 10 #[.int .i64 aWay, .int .i64 aA] W (Ret W (.bool true)) := by
  have hB : Below W.heap.size W W := Below.refl _ _
  go_enter Try.func10, Try.ntmps10
  go_wp2_with fail
  refine (spec_SpeedFor _ _ _).mono ?_
  rintro e w1 ⟨rfl, hb⟩
  replace hB := Below.thenn hB hb hB.size
  clear hb
  go_wp2_with fail
  refine (impl_SpeedFor _ _ _).mono ?_
  rintro e w2 ⟨rfl, hb⟩
  replace hB := Below.thenn hB hb hB.size
  clear hb
  go_wp2_with fail
  go_ret
  exact ⟨rfl, hB⟩

end Go.Proofs.Ythhameglamemkaa
