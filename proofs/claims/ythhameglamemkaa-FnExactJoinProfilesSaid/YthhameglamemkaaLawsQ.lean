/- The exact laws of the speed profiles: walks. -/
import Derived.Test.YthhameglamemkaaFastC
import Derived.Test.YthhameglamemkaaJoin
namespace Go.Proofs.Ythhameglamemkaa
open Go.RowKit
set_option linter.unusedVariables false
set_option linter.unusedSimpArgs false

set_option maxHeartbeats 4000000 in
theorem law_FnExactSmoothProfile (aProfileA : Option Addr) (aProfilen aProfilec : Nat) (aProfile : List Int) (W : World) (haProfile : Came .i64 W aProfileA aProfilen aProfilec aProfile) :
    Calls Try.prog 8 #[.slice aProfileA aProfilen aProfilec] W (Ret W (.bool true)) := by
  obtain ⟨hraProfile, hlaProfile, hncaProfile, hcmaProfile, hwfaProfile, hnilaProfile⟩ := haProfile
  by_cases hbigaProfile : 1048576 < aProfilen
  · go_enter Try.func8, Try.ntmps8
    go_wp2_with fail
    go_ret
    exact ⟨rfl, Below.refl _ _⟩
  have hsaProfile : aProfile.length ≤ 1048576 := by omega
  obtain rfl : aProfile.length = aProfilen := hlaProfile
  clear hwfaProfile hbigaProfile
  have hz1 : (smoothR aProfile).length ≤ 1048576 := smoothR_len _ hsaProfile
  have hB : Below W.heap.size W W := Below.refl _ _
  go_enter Try.func8, Try.ntmps8
  go_wp2_with fail
  refine (laws_toIntS_ret _ _ _ aProfile _ (hraProfile.below hB) (by omega)).mono ?_
  have hW1 : W.heap.size ≤ W.heap.size := hB.size
  rintro e w1 ⟨A1, c1, rfl, ho1, hb⟩
  replace hB := Below.thenn hB hb hB.size
  clear hb
  go_wp2_with fail
  refine (spec_SmoothProfile _ _ _ aProfile _ ho1.rd (by omega)).mono ?_
  have hW2 : W.heap.size ≤ w1.heap.size := hB.size
  have hq1_2 := Lib.hid (Ow.block_lt ho1)
  rintro e w2 ⟨A2, c2, rfl, ho2, hb⟩
  replace hB := Below.thenn hB hb hB.size
  replace ho1 := ho1.below hb
  clear hb
  go_wp2_with fail
  refine (laws_toIntS_ret _ _ _ aProfile _ (hraProfile.below hB) (by omega)).mono ?_
  have hW3 : W.heap.size ≤ w2.heap.size := hB.size
  have hq1_3 := Lib.hid (Ow.block_lt ho1)
  have hq2_3 := Lib.hid (Ow.block_lt ho2)
  rintro e w3 ⟨A3, c3, rfl, ho3, hb⟩
  replace hB := Below.thenn hB hb hB.size
  replace ho1 := ho1.below hb
  replace ho2 := ho2.below hb
  clear hb
  go_wp2_with fail
  refine (impl_SmoothProfile _ _ _ aProfile _ ho3.rd (by omega) ho3.none_).mono ?_
  have hW4 : W.heap.size ≤ w3.heap.size := hB.size
  have hq1_4 := Lib.hid (Ow.block_lt ho1)
  have hq2_4 := Lib.hid (Ow.block_lt ho2)
  have hq3_4 := Lib.hid (Ow.block_lt ho3)
  rintro e w4 ⟨A4, c4, rfl, ho4, hb⟩
  replace hB := Below.thenn hB hb hB.size
  replace ho1 := ho1.below hb
  replace ho2 := ho2.below hb
  replace ho3 := ho3.below hb
  clear hb
  go_wp2_with fail
  refine (laws_eqIntS _ _ _ _ _ _ _ _ _ ho4.rd ho2.rd (by first | omega | (simp; omega) | (simp [iota_len]; omega)) (by first | omega | (simp; omega) | (simp [iota_len]; omega))).mono ?_
  intro e w5 hq
  obtain ⟨rfl, hb⟩ := hq.ret
  clear hq
  replace hB := Below.thenn hB hb hB.size
  replace ho1 := ho1.below hb
  replace ho2 := ho2.below hb
  replace ho3 := ho3.below hb
  replace ho4 := ho4.below hb
  clear hb
  go_wp2_with fail
  refine (laws_toIntS_ret _ _ _ aProfile _ (hraProfile.below hB) (by omega)).mono ?_
  have hW5 : W.heap.size ≤ w5.heap.size := hB.size
  have hq1_5 := Lib.hid (Ow.block_lt ho1)
  have hq2_5 := Lib.hid (Ow.block_lt ho2)
  have hq3_5 := Lib.hid (Ow.block_lt ho3)
  have hq4_5 := Lib.hid (Ow.block_lt ho4)
  rintro e w6 ⟨A5, c5, rfl, ho5, hb⟩
  replace hB := Below.thenn hB hb hB.size
  replace ho1 := ho1.below hb
  replace ho2 := ho2.below hb
  replace ho3 := ho3.below hb
  replace ho4 := ho4.below hb
  clear hb
  go_wp2_with fail
  refine (laws_eqIntS _ _ _ _ _ _ _ _ _ ho3.rd ho5.rd (by first | omega | (simp; omega) | (simp [iota_len]; omega)) (by first | omega | (simp; omega) | (simp [iota_len]; omega))).mono ?_
  intro e w7 hq
  obtain ⟨rfl, hb⟩ := hq.ret
  clear hq
  replace hB := Below.thenn hB hb hB.size
  replace ho1 := ho1.below hb
  replace ho2 := ho2.below hb
  replace ho3 := ho3.below hb
  replace ho4 := ho4.below hb
  replace ho5 := ho5.below hb
  clear hb
  go_wp2_with fail
  refine (laws_markIntS _ _ _ _ _ (1) _ ho3 (by omega) (by first | omega | (simp; omega) | (simp [iota_len]; omega)) (by first | omega | (simp; omega) | (simp [iota_len]; omega))).mono ?_
  rintro e w8 ⟨rfl, ho3n, hg⟩
  replace hB := below_own hB ho3 hg hW3 hB.size
  replace ho1 := Ow.other2 ho1 hg hq1_3.out (Ow.block_ge ho3)
  replace ho2 := Ow.other2 ho2 hg hq2_3.out (Ow.block_ge ho3)
  replace ho4 := Ow.other ho4 hg hq3_4.out
  replace ho5 := Ow.other ho5 hg hq3_5.out
  replace ho3 := ho3n
  clear hg
  go_wp2_with fail
  refine (laws_eqIntS _ _ _ _ _ _ _ _ _ ho4.rd ho2.rd (by first | omega | (simp; omega) | (simp [iota_len]; omega)) (by first | omega | (simp; omega) | (simp [iota_len]; omega))).mono ?_
  intro e w9 hq
  obtain ⟨rfl, hb⟩ := hq.ret
  clear hq
  replace hB := Below.thenn hB hb hB.size
  replace ho1 := ho1.below hb
  replace ho2 := ho2.below hb
  replace ho3 := ho3.below hb
  replace ho4 := ho4.below hb
  replace ho5 := ho5.below hb
  clear hb
  go_wp2_with fail
  refine (laws_markIntS _ _ _ _ _ (1) _ ho4 (by omega) (by first | omega | (simp; omega) | (simp [iota_len]; omega)) (by first | omega | (simp; omega) | (simp [iota_len]; omega))).mono ?_
  rintro e w10 ⟨rfl, ho4n, hg⟩
  replace hB := below_own hB ho4 hg hW4 hB.size
  replace ho1 := Ow.other2 ho1 hg hq1_4.out (Ow.block_ge ho4)
  replace ho2 := Ow.other2 ho2 hg hq2_4.out (Ow.block_ge ho4)
  replace ho3 := Ow.other2 ho3 hg hq3_4.out (Ow.block_ge ho4)
  replace ho5 := Ow.other ho5 hg hq4_5.out
  replace ho4 := ho4n
  clear hg
  go_wp2_with fail
  refine (laws_heldIntS _ _ _ (1) _ ho4.rd (by omega) (by first | omega | (simp; omega) | (simp [iota_len]; omega)) (by first | omega | (simp; omega) | (simp [iota_len]; omega))).mono ?_
  rintro e _ ⟨rfl, rfl⟩
  go_wp2_with fail
  refine (laws_toIntS_ret _ _ _ aProfile _ (hraProfile.below hB) (by omega)).mono ?_
  have hW6 : W.heap.size ≤ w10.heap.size := hB.size
  have hq1_6 := Lib.hid (Ow.block_lt ho1)
  have hq2_6 := Lib.hid (Ow.block_lt ho2)
  have hq3_6 := Lib.hid (Ow.block_lt ho3)
  have hq4_6 := Lib.hid (Ow.block_lt ho4)
  have hq5_6 := Lib.hid (Ow.block_lt ho5)
  rintro e w11 ⟨A6, c6, rfl, ho6, hb⟩
  replace hB := Below.thenn hB hb hB.size
  replace ho1 := ho1.below hb
  replace ho2 := ho2.below hb
  replace ho3 := ho3.below hb
  replace ho4 := ho4.below hb
  replace ho5 := ho5.below hb
  clear hb
  go_wp2_with fail
  refine (impl_SmoothProfile _ _ _ aProfile _ ho6.rd (by omega) ho6.none_).mono ?_
  have hW7 : W.heap.size ≤ w11.heap.size := hB.size
  have hq1_7 := Lib.hid (Ow.block_lt ho1)
  have hq2_7 := Lib.hid (Ow.block_lt ho2)
  have hq3_7 := Lib.hid (Ow.block_lt ho3)
  have hq4_7 := Lib.hid (Ow.block_lt ho4)
  have hq5_7 := Lib.hid (Ow.block_lt ho5)
  have hq6_7 := Lib.hid (Ow.block_lt ho6)
  rintro e w12 ⟨A7, c7, rfl, ho7, hb⟩
  replace hB := Below.thenn hB hb hB.size
  replace ho1 := ho1.below hb
  replace ho2 := ho2.below hb
  replace ho3 := ho3.below hb
  replace ho4 := ho4.below hb
  replace ho5 := ho5.below hb
  replace ho6 := ho6.below hb
  clear hb
  go_wp2_with fail
  refine (laws_eqIntS _ _ _ _ _ _ _ _ _ ho7.rd ho2.rd (by first | omega | (simp; omega) | (simp [iota_len]; omega)) (by first | omega | (simp; omega) | (simp [iota_len]; omega))).mono ?_
  intro e w13 hq
  obtain ⟨rfl, hb⟩ := hq.ret
  clear hq
  replace hB := Below.thenn hB hb hB.size
  replace ho1 := ho1.below hb
  replace ho2 := ho2.below hb
  replace ho3 := ho3.below hb
  replace ho4 := ho4.below hb
  replace ho5 := ho5.below hb
  replace ho6 := ho6.below hb
  replace ho7 := ho7.below hb
  clear hb
  go_wp2_with fail
  refine (laws_heldIntS _ _ _ (1) _ ho4.rd (by omega) (by first | omega | (simp; omega) | (simp [iota_len]; omega)) (by first | omega | (simp; omega) | (simp [iota_len]; omega))).mono ?_
  rintro e _ ⟨rfl, rfl⟩
  go_wp2_with fail
  go_ret
  exact ⟨rfl, hB⟩

set_option maxHeartbeats 4000000 in
theorem law_FnExactJoinProfiles (aAA : Option Addr) (aAn aAc : Nat) (aA : List Int) (aBA : Option Addr) (aBn aBc : Nat) (aB : List Int) (W : World) (haA : Came .i64 W aAA aAn aAc aA) (haB : Came .i64 W aBA aBn aBc aB) :
    Calls Try.prog 9 #[.slice aAA aAn aAc, .slice aBA aBn aBc] W (Ret W (.bool true)) := by
  obtain ⟨hraA, hlaA, hncaA, hcmaA, hwfaA, hnilaA⟩ := haA
  obtain ⟨hraB, hlaB, hncaB, hcmaB, hwfaB, hnilaB⟩ := haB
  by_cases hbigaA : 1048576 < aAn
  · go_enter Try.func9, Try.ntmps9
    go_wp2_with fail
    go_ret
    exact ⟨rfl, Below.refl _ _⟩
  have hsaA : aA.length ≤ 1048576 := by omega
  obtain rfl : aA.length = aAn := hlaA
  clear hwfaA hbigaA
  by_cases hbigaB : 1048576 < aBn
  · go_enter Try.func9, Try.ntmps9
    go_wp2_with fail
    go_ret
    exact ⟨rfl, Below.refl _ _⟩
  have hsaB : aB.length ≤ 1048576 := by omega
  obtain rfl : aB.length = aBn := hlaB
  clear hwfaB hbigaB
  have hz1 : (joinR aA aB).length ≤ 1048576 := joinR_len _ _
  have hB : Below W.heap.size W W := Below.refl _ _
  go_enter Try.func9, Try.ntmps9
  go_wp2_with fail
  refine (laws_toIntS_ret _ _ _ aA _ (hraA.below hB) (by omega)).mono ?_
  have hW1 : W.heap.size ≤ W.heap.size := hB.size
  rintro e w1 ⟨A1, c1, rfl, ho1, hb⟩
  replace hB := Below.thenn hB hb hB.size
  clear hb
  go_wp2_with fail
  refine (laws_toIntS_ret _ _ _ aB _ (hraB.below hB) (by omega)).mono ?_
  have hW2 : W.heap.size ≤ w1.heap.size := hB.size
  have hq1_2 := Lib.hid (Ow.block_lt ho1)
  rintro e w2 ⟨A2, c2, rfl, ho2, hb⟩
  replace hB := Below.thenn hB hb hB.size
  replace ho1 := ho1.below hb
  clear hb
  go_wp2_with fail
  refine (spec_JoinProfiles _ _ _ _ _ _ aA aB _ ho1.rd ho2.rd (by omega) (by omega) ho2.cap.1 ho2.cap.2).mono ?_
  have hW3 : W.heap.size ≤ w2.heap.size := hB.size
  have hq1_3 := Lib.hid (Ow.block_lt ho1)
  have hq2_3 := Lib.hid (Ow.block_lt ho2)
  rintro e w3 ⟨A3, c3, rfl, ho3, hb⟩
  replace hB := Below.thenn hB hb hB.size
  replace ho1 := ho1.below hb
  replace ho2 := ho2.below hb
  clear hb
  go_wp2_with fail
  refine (laws_toIntS_ret _ _ _ aA _ (hraA.below hB) (by omega)).mono ?_
  have hW4 : W.heap.size ≤ w3.heap.size := hB.size
  have hq1_4 := Lib.hid (Ow.block_lt ho1)
  have hq2_4 := Lib.hid (Ow.block_lt ho2)
  have hq3_4 := Lib.hid (Ow.block_lt ho3)
  rintro e w4 ⟨A4, c4, rfl, ho4, hb⟩
  replace hB := Below.thenn hB hb hB.size
  replace ho1 := ho1.below hb
  replace ho2 := ho2.below hb
  replace ho3 := ho3.below hb
  clear hb
  go_wp2_with fail
  refine (laws_toIntS_ret _ _ _ aB _ (hraB.below hB) (by omega)).mono ?_
  have hW5 : W.heap.size ≤ w4.heap.size := hB.size
  have hq1_5 := Lib.hid (Ow.block_lt ho1)
  have hq2_5 := Lib.hid (Ow.block_lt ho2)
  have hq3_5 := Lib.hid (Ow.block_lt ho3)
  have hq4_5 := Lib.hid (Ow.block_lt ho4)
  rintro e w5 ⟨A5, c5, rfl, ho5, hb⟩
  replace hB := Below.thenn hB hb hB.size
  replace ho1 := ho1.below hb
  replace ho2 := ho2.below hb
  replace ho3 := ho3.below hb
  replace ho4 := ho4.below hb
  clear hb
  go_wp2_with fail
  refine (impl_JoinProfiles _ _ _ _ _ _ aA aB _ ho4.rd ho5.rd (by omega) (by omega) ho5.cap.1 ho5.cap.2).mono ?_
  have hW6 : W.heap.size ≤ w5.heap.size := hB.size
  have hq1_6 := Lib.hid (Ow.block_lt ho1)
  have hq2_6 := Lib.hid (Ow.block_lt ho2)
  have hq3_6 := Lib.hid (Ow.block_lt ho3)
  have hq4_6 := Lib.hid (Ow.block_lt ho4)
  have hq5_6 := Lib.hid (Ow.block_lt ho5)
  rintro e w6 ⟨A6, c6, rfl, ho6, hb⟩
  replace hB := Below.thenn hB hb hB.size
  replace ho1 := ho1.below hb
  replace ho2 := ho2.below hb
  replace ho3 := ho3.below hb
  replace ho4 := ho4.below hb
  replace ho5 := ho5.below hb
  clear hb
  go_wp2_with fail
  refine (laws_eqIntS _ _ _ _ _ _ _ _ _ ho6.rd ho3.rd (by first | omega | (simp; omega) | (simp [iota_len]; omega)) (by first | omega | (simp; omega) | (simp [iota_len]; omega))).mono ?_
  intro e w7 hq
  obtain ⟨rfl, hb⟩ := hq.ret
  clear hq
  replace hB := Below.thenn hB hb hB.size
  replace ho1 := ho1.below hb
  replace ho2 := ho2.below hb
  replace ho3 := ho3.below hb
  replace ho4 := ho4.below hb
  replace ho5 := ho5.below hb
  replace ho6 := ho6.below hb
  clear hb
  go_wp2_with fail
  refine (laws_toIntS_ret _ _ _ aA _ (hraA.below hB) (by omega)).mono ?_
  have hW7 : W.heap.size ≤ w7.heap.size := hB.size
  have hq1_7 := Lib.hid (Ow.block_lt ho1)
  have hq2_7 := Lib.hid (Ow.block_lt ho2)
  have hq3_7 := Lib.hid (Ow.block_lt ho3)
  have hq4_7 := Lib.hid (Ow.block_lt ho4)
  have hq5_7 := Lib.hid (Ow.block_lt ho5)
  have hq6_7 := Lib.hid (Ow.block_lt ho6)
  rintro e w8 ⟨A7, c7, rfl, ho7, hb⟩
  replace hB := Below.thenn hB hb hB.size
  replace ho1 := ho1.below hb
  replace ho2 := ho2.below hb
  replace ho3 := ho3.below hb
  replace ho4 := ho4.below hb
  replace ho5 := ho5.below hb
  replace ho6 := ho6.below hb
  clear hb
  go_wp2_with fail
  refine (laws_eqIntS _ _ _ _ _ _ _ _ _ ho4.rd ho7.rd (by first | omega | (simp; omega) | (simp [iota_len]; omega)) (by first | omega | (simp; omega) | (simp [iota_len]; omega))).mono ?_
  intro e w9 hq
  obtain ⟨rfl, hb⟩ := hq.ret
  clear hq
  replace hB := Below.thenn hB hb hB.size
  replace ho1 := ho1.below hb
  replace ho2 := ho2.below hb
  replace ho3 := ho3.below hb
  replace ho4 := ho4.below hb
  replace ho5 := ho5.below hb
  replace ho6 := ho6.below hb
  replace ho7 := ho7.below hb
  clear hb
  go_wp2_with fail
  refine (laws_toIntS_ret _ _ _ aB _ (hraB.below hB) (by omega)).mono ?_
  have hW8 : W.heap.size ≤ w9.heap.size := hB.size
  have hq1_8 := Lib.hid (Ow.block_lt ho1)
  have hq2_8 := Lib.hid (Ow.block_lt ho2)
  have hq3_8 := Lib.hid (Ow.block_lt ho3)
  have hq4_8 := Lib.hid (Ow.block_lt ho4)
  have hq5_8 := Lib.hid (Ow.block_lt ho5)
  have hq6_8 := Lib.hid (Ow.block_lt ho6)
  have hq7_8 := Lib.hid (Ow.block_lt ho7)
  rintro e w10 ⟨A8, c8, rfl, ho8, hb⟩
  replace hB := Below.thenn hB hb hB.size
  replace ho1 := ho1.below hb
  replace ho2 := ho2.below hb
  replace ho3 := ho3.below hb
  replace ho4 := ho4.below hb
  replace ho5 := ho5.below hb
  replace ho6 := ho6.below hb
  replace ho7 := ho7.below hb
  clear hb
  go_wp2_with fail
  refine (laws_eqIntS _ _ _ _ _ _ _ _ _ ho5.rd ho8.rd (by first | omega | (simp; omega) | (simp [iota_len]; omega)) (by first | omega | (simp; omega) | (simp [iota_len]; omega))).mono ?_
  intro e w11 hq
  obtain ⟨rfl, hb⟩ := hq.ret
  clear hq
  replace hB := Below.thenn hB hb hB.size
  replace ho1 := ho1.below hb
  replace ho2 := ho2.below hb
  replace ho3 := ho3.below hb
  replace ho4 := ho4.below hb
  replace ho5 := ho5.below hb
  replace ho6 := ho6.below hb
  replace ho7 := ho7.below hb
  replace ho8 := ho8.below hb
  clear hb
  go_wp2_with fail
  refine (laws_markIntS _ _ _ _ _ (1) _ ho4 (by omega) (by first | omega | (simp; omega) | (simp [iota_len]; omega)) (by first | omega | (simp; omega) | (simp [iota_len]; omega))).mono ?_
  rintro e w12 ⟨rfl, ho4n, hg⟩
  replace hB := below_own hB ho4 hg hW4 hB.size
  replace ho1 := Ow.other2 ho1 hg hq1_4.out (Ow.block_ge ho4)
  replace ho2 := Ow.other2 ho2 hg hq2_4.out (Ow.block_ge ho4)
  replace ho3 := Ow.other2 ho3 hg hq3_4.out (Ow.block_ge ho4)
  replace ho5 := Ow.other ho5 hg hq4_5.out
  replace ho6 := Ow.other ho6 hg hq4_6.out
  replace ho7 := Ow.other ho7 hg hq4_7.out
  replace ho8 := Ow.other ho8 hg hq4_8.out
  replace ho4 := ho4n
  clear hg
  go_wp2_with fail
  refine (laws_markIntS _ _ _ _ _ (1 + ((aA).length : Nat)) _ ho5 (by omega) (by first | omega | (simp; omega) | (simp [iota_len]; omega)) (by first | omega | (simp; omega) | (simp [iota_len]; omega))).mono ?_
  rintro e w13 ⟨rfl, ho5n, hg⟩
  replace hB := below_own hB ho5 hg hW5 hB.size
  replace ho1 := Ow.other2 ho1 hg hq1_5.out (Ow.block_ge ho5)
  replace ho2 := Ow.other2 ho2 hg hq2_5.out (Ow.block_ge ho5)
  replace ho3 := Ow.other2 ho3 hg hq3_5.out (Ow.block_ge ho5)
  replace ho4 := Ow.other2 ho4 hg hq4_5.out (Ow.block_ge ho5)
  replace ho6 := Ow.other ho6 hg hq5_6.out
  replace ho7 := Ow.other ho7 hg hq5_7.out
  replace ho8 := Ow.other ho8 hg hq5_8.out
  replace ho5 := ho5n
  clear hg
  go_wp2_with fail
  refine (laws_eqIntS _ _ _ _ _ _ _ _ _ ho6.rd ho3.rd (by first | omega | (simp; omega) | (simp [iota_len]; omega)) (by first | omega | (simp; omega) | (simp [iota_len]; omega))).mono ?_
  intro e w14 hq
  obtain ⟨rfl, hb⟩ := hq.ret
  clear hq
  replace hB := Below.thenn hB hb hB.size
  replace ho1 := ho1.below hb
  replace ho2 := ho2.below hb
  replace ho3 := ho3.below hb
  replace ho4 := ho4.below hb
  replace ho5 := ho5.below hb
  replace ho6 := ho6.below hb
  replace ho7 := ho7.below hb
  replace ho8 := ho8.below hb
  clear hb
  go_wp2_with fail
  refine (laws_markIntS _ _ _ _ _ (1) _ ho6 (by omega) (by first | omega | (simp; omega) | (simp [iota_len]; omega)) (by first | omega | (simp; omega) | (simp [iota_len]; omega))).mono ?_
  rintro e w15 ⟨rfl, ho6n, hg⟩
  replace hB := below_own hB ho6 hg hW6 hB.size
  replace ho1 := Ow.other2 ho1 hg hq1_6.out (Ow.block_ge ho6)
  replace ho2 := Ow.other2 ho2 hg hq2_6.out (Ow.block_ge ho6)
  replace ho3 := Ow.other2 ho3 hg hq3_6.out (Ow.block_ge ho6)
  replace ho4 := Ow.other2 ho4 hg hq4_6.out (Ow.block_ge ho6)
  replace ho5 := Ow.other2 ho5 hg hq5_6.out (Ow.block_ge ho6)
  replace ho7 := Ow.other ho7 hg hq6_7.out
  replace ho8 := Ow.other ho8 hg hq6_8.out
  replace ho6 := ho6n
  clear hg
  go_wp2_with fail
  refine (laws_heldIntS _ _ _ (1) _ ho6.rd (by omega) (by first | omega | (simp; omega) | (simp [iota_len]; omega)) (by first | omega | (simp; omega) | (simp [iota_len]; omega))).mono ?_
  rintro e _ ⟨rfl, rfl⟩
  go_wp2_with fail
  refine (laws_toIntS_ret _ _ _ aA _ (hraA.below hB) (by omega)).mono ?_
  have hW9 : W.heap.size ≤ w15.heap.size := hB.size
  have hq1_9 := Lib.hid (Ow.block_lt ho1)
  have hq2_9 := Lib.hid (Ow.block_lt ho2)
  have hq3_9 := Lib.hid (Ow.block_lt ho3)
  have hq4_9 := Lib.hid (Ow.block_lt ho4)
  have hq5_9 := Lib.hid (Ow.block_lt ho5)
  have hq6_9 := Lib.hid (Ow.block_lt ho6)
  have hq7_9 := Lib.hid (Ow.block_lt ho7)
  have hq8_9 := Lib.hid (Ow.block_lt ho8)
  rintro e w16 ⟨A9, c9, rfl, ho9, hb⟩
  replace hB := Below.thenn hB hb hB.size
  replace ho1 := ho1.below hb
  replace ho2 := ho2.below hb
  replace ho3 := ho3.below hb
  replace ho4 := ho4.below hb
  replace ho5 := ho5.below hb
  replace ho6 := ho6.below hb
  replace ho7 := ho7.below hb
  replace ho8 := ho8.below hb
  clear hb
  go_wp2_with fail
  refine (laws_toIntS_ret _ _ _ aB _ (hraB.below hB) (by omega)).mono ?_
  have hW10 : W.heap.size ≤ w16.heap.size := hB.size
  have hq1_10 := Lib.hid (Ow.block_lt ho1)
  have hq2_10 := Lib.hid (Ow.block_lt ho2)
  have hq3_10 := Lib.hid (Ow.block_lt ho3)
  have hq4_10 := Lib.hid (Ow.block_lt ho4)
  have hq5_10 := Lib.hid (Ow.block_lt ho5)
  have hq6_10 := Lib.hid (Ow.block_lt ho6)
  have hq7_10 := Lib.hid (Ow.block_lt ho7)
  have hq8_10 := Lib.hid (Ow.block_lt ho8)
  have hq9_10 := Lib.hid (Ow.block_lt ho9)
  rintro e w17 ⟨A10, c10, rfl, ho10, hb⟩
  replace hB := Below.thenn hB hb hB.size
  replace ho1 := ho1.below hb
  replace ho2 := ho2.below hb
  replace ho3 := ho3.below hb
  replace ho4 := ho4.below hb
  replace ho5 := ho5.below hb
  replace ho6 := ho6.below hb
  replace ho7 := ho7.below hb
  replace ho8 := ho8.below hb
  replace ho9 := ho9.below hb
  clear hb
  go_wp2_with fail
  refine (impl_JoinProfiles _ _ _ _ _ _ aA aB _ ho9.rd ho10.rd (by omega) (by omega) ho10.cap.1 ho10.cap.2).mono ?_
  have hW11 : W.heap.size ≤ w17.heap.size := hB.size
  have hq1_11 := Lib.hid (Ow.block_lt ho1)
  have hq2_11 := Lib.hid (Ow.block_lt ho2)
  have hq3_11 := Lib.hid (Ow.block_lt ho3)
  have hq4_11 := Lib.hid (Ow.block_lt ho4)
  have hq5_11 := Lib.hid (Ow.block_lt ho5)
  have hq6_11 := Lib.hid (Ow.block_lt ho6)
  have hq7_11 := Lib.hid (Ow.block_lt ho7)
  have hq8_11 := Lib.hid (Ow.block_lt ho8)
  have hq9_11 := Lib.hid (Ow.block_lt ho9)
  have hq10_11 := Lib.hid (Ow.block_lt ho10)
  rintro e w18 ⟨A11, c11, rfl, ho11, hb⟩
  replace hB := Below.thenn hB hb hB.size
  replace ho1 := ho1.below hb
  replace ho2 := ho2.below hb
  replace ho3 := ho3.below hb
  replace ho4 := ho4.below hb
  replace ho5 := ho5.below hb
  replace ho6 := ho6.below hb
  replace ho7 := ho7.below hb
  replace ho8 := ho8.below hb
  replace ho9 := ho9.below hb
  replace ho10 := ho10.below hb
  clear hb
  go_wp2_with fail
  refine (laws_eqIntS _ _ _ _ _ _ _ _ _ ho11.rd ho3.rd (by first | omega | (simp; omega) | (simp [iota_len]; omega)) (by first | omega | (simp; omega) | (simp [iota_len]; omega))).mono ?_
  intro e w19 hq
  obtain ⟨rfl, hb⟩ := hq.ret
  clear hq
  replace hB := Below.thenn hB hb hB.size
  replace ho1 := ho1.below hb
  replace ho2 := ho2.below hb
  replace ho3 := ho3.below hb
  replace ho4 := ho4.below hb
  replace ho5 := ho5.below hb
  replace ho6 := ho6.below hb
  replace ho7 := ho7.below hb
  replace ho8 := ho8.below hb
  replace ho9 := ho9.below hb
  replace ho10 := ho10.below hb
  replace ho11 := ho11.below hb
  clear hb
  go_wp2_with fail
  refine (laws_heldIntS _ _ _ (1) _ ho6.rd (by omega) (by first | omega | (simp; omega) | (simp [iota_len]; omega)) (by first | omega | (simp; omega) | (simp [iota_len]; omega))).mono ?_
  rintro e _ ⟨rfl, rfl⟩
  go_wp2_with fail
  go_ret
  exact ⟨rfl, hB⟩

set_option maxHeartbeats 4000000 in
theorem law_FnExactFastestUnder (aLimitsA : Option Addr) (aLimitsn aLimitsc : Nat) (aLimits : List Int) (aFrom : Int) (aA : Int) (W : World) (haLimits : Came .i64 W aLimitsA aLimitsn aLimitsc aLimits) :
    Calls Try.prog 11 #[.slice aLimitsA aLimitsn aLimitsc, .int .i64 aFrom, .int .i64 aA] W (Ret W (.bool true)) := by
  obtain ⟨hraLimits, hlaLimits, hncaLimits, hcmaLimits, hwfaLimits, hnilaLimits⟩ := haLimits
  by_cases hbigaLimits : 1048576 < aLimitsn
  · go_enter Try.func11, Try.ntmps11
    go_wp2_with fail
    go_ret
    exact ⟨rfl, Below.refl _ _⟩
  have hsaLimits : aLimits.length ≤ 1048576 := by omega
  obtain rfl : aLimits.length = aLimitsn := hlaLimits
  clear hwfaLimits hbigaLimits
  have hz1 : (fastR aLimits aFrom aA).length ≤ 1048576 := fastR_len _ _ _ hsaLimits
  have hB : Below W.heap.size W W := Below.refl _ _
  go_enter Try.func11, Try.ntmps11
  go_wp2_with fail
  refine (laws_toIntS_ret _ _ _ aLimits _ (hraLimits.below hB) (by omega)).mono ?_
  have hW1 : W.heap.size ≤ W.heap.size := hB.size
  rintro e w1 ⟨A1, c1, rfl, ho1, hb⟩
  replace hB := Below.thenn hB hb hB.size
  clear hb
  go_wp2_with fail
  refine (spec_FastestUnder _ _ _ aLimits _ _ _ ho1.rd (by omega)).mono ?_
  have hW2 : W.heap.size ≤ w1.heap.size := hB.size
  have hq1_2 := Lib.hid (Ow.block_lt ho1)
  rintro e w2 ⟨A2, c2, rfl, ho2, hb⟩
  replace hB := Below.thenn hB hb hB.size
  replace ho1 := ho1.below hb
  clear hb
  go_wp2_with fail
  refine (laws_toIntS_ret _ _ _ aLimits _ (hraLimits.below hB) (by omega)).mono ?_
  have hW3 : W.heap.size ≤ w2.heap.size := hB.size
  have hq1_3 := Lib.hid (Ow.block_lt ho1)
  have hq2_3 := Lib.hid (Ow.block_lt ho2)
  rintro e w3 ⟨A3, c3, rfl, ho3, hb⟩
  replace hB := Below.thenn hB hb hB.size
  replace ho1 := ho1.below hb
  replace ho2 := ho2.below hb
  clear hb
  go_wp2_with fail
  refine (impl_FastestUnder _ _ _ aLimits _ _ _ ho3.rd (by omega) ho3.none_).mono ?_
  have hW4 : W.heap.size ≤ w3.heap.size := hB.size
  have hq1_4 := Lib.hid (Ow.block_lt ho1)
  have hq2_4 := Lib.hid (Ow.block_lt ho2)
  have hq3_4 := Lib.hid (Ow.block_lt ho3)
  rintro e w4 ⟨A4, c4, rfl, ho4, hb⟩
  replace hB := Below.thenn hB hb hB.size
  replace ho1 := ho1.below hb
  replace ho2 := ho2.below hb
  replace ho3 := ho3.below hb
  clear hb
  go_wp2_with fail
  refine (laws_eqIntS _ _ _ _ _ _ _ _ _ ho4.rd ho2.rd (by first | omega | (simp; omega) | (simp [iota_len]; omega)) (by first | omega | (simp; omega) | (simp [iota_len]; omega))).mono ?_
  intro e w5 hq
  obtain ⟨rfl, hb⟩ := hq.ret
  clear hq
  replace hB := Below.thenn hB hb hB.size
  replace ho1 := ho1.below hb
  replace ho2 := ho2.below hb
  replace ho3 := ho3.below hb
  replace ho4 := ho4.below hb
  clear hb
  go_wp2_with fail
  refine (laws_toIntS_ret _ _ _ aLimits _ (hraLimits.below hB) (by omega)).mono ?_
  have hW5 : W.heap.size ≤ w5.heap.size := hB.size
  have hq1_5 := Lib.hid (Ow.block_lt ho1)
  have hq2_5 := Lib.hid (Ow.block_lt ho2)
  have hq3_5 := Lib.hid (Ow.block_lt ho3)
  have hq4_5 := Lib.hid (Ow.block_lt ho4)
  rintro e w6 ⟨A5, c5, rfl, ho5, hb⟩
  replace hB := Below.thenn hB hb hB.size
  replace ho1 := ho1.below hb
  replace ho2 := ho2.below hb
  replace ho3 := ho3.below hb
  replace ho4 := ho4.below hb
  clear hb
  go_wp2_with fail
  refine (laws_eqIntS _ _ _ _ _ _ _ _ _ ho3.rd ho5.rd (by first | omega | (simp; omega) | (simp [iota_len]; omega)) (by first | omega | (simp; omega) | (simp [iota_len]; omega))).mono ?_
  intro e w7 hq
  obtain ⟨rfl, hb⟩ := hq.ret
  clear hq
  replace hB := Below.thenn hB hb hB.size
  replace ho1 := ho1.below hb
  replace ho2 := ho2.below hb
  replace ho3 := ho3.below hb
  replace ho4 := ho4.below hb
  replace ho5 := ho5.below hb
  clear hb
  go_wp2_with fail
  refine (laws_markIntS _ _ _ _ _ (1) _ ho3 (by omega) (by first | omega | (simp; omega) | (simp [iota_len]; omega)) (by first | omega | (simp; omega) | (simp [iota_len]; omega))).mono ?_
  rintro e w8 ⟨rfl, ho3n, hg⟩
  replace hB := below_own hB ho3 hg hW3 hB.size
  replace ho1 := Ow.other2 ho1 hg hq1_3.out (Ow.block_ge ho3)
  replace ho2 := Ow.other2 ho2 hg hq2_3.out (Ow.block_ge ho3)
  replace ho4 := Ow.other ho4 hg hq3_4.out
  replace ho5 := Ow.other ho5 hg hq3_5.out
  replace ho3 := ho3n
  clear hg
  go_wp2_with fail
  refine (laws_eqIntS _ _ _ _ _ _ _ _ _ ho4.rd ho2.rd (by first | omega | (simp; omega) | (simp [iota_len]; omega)) (by first | omega | (simp; omega) | (simp [iota_len]; omega))).mono ?_
  intro e w9 hq
  obtain ⟨rfl, hb⟩ := hq.ret
  clear hq
  replace hB := Below.thenn hB hb hB.size
  replace ho1 := ho1.below hb
  replace ho2 := ho2.below hb
  replace ho3 := ho3.below hb
  replace ho4 := ho4.below hb
  replace ho5 := ho5.below hb
  clear hb
  go_wp2_with fail
  refine (laws_markIntS _ _ _ _ _ (1) _ ho4 (by omega) (by first | omega | (simp; omega) | (simp [iota_len]; omega)) (by first | omega | (simp; omega) | (simp [iota_len]; omega))).mono ?_
  rintro e w10 ⟨rfl, ho4n, hg⟩
  replace hB := below_own hB ho4 hg hW4 hB.size
  replace ho1 := Ow.other2 ho1 hg hq1_4.out (Ow.block_ge ho4)
  replace ho2 := Ow.other2 ho2 hg hq2_4.out (Ow.block_ge ho4)
  replace ho3 := Ow.other2 ho3 hg hq3_4.out (Ow.block_ge ho4)
  replace ho5 := Ow.other ho5 hg hq4_5.out
  replace ho4 := ho4n
  clear hg
  go_wp2_with fail
  refine (laws_heldIntS _ _ _ (1) _ ho4.rd (by omega) (by first | omega | (simp; omega) | (simp [iota_len]; omega)) (by first | omega | (simp; omega) | (simp [iota_len]; omega))).mono ?_
  rintro e _ ⟨rfl, rfl⟩
  go_wp2_with fail
  refine (laws_toIntS_ret _ _ _ aLimits _ (hraLimits.below hB) (by omega)).mono ?_
  have hW6 : W.heap.size ≤ w10.heap.size := hB.size
  have hq1_6 := Lib.hid (Ow.block_lt ho1)
  have hq2_6 := Lib.hid (Ow.block_lt ho2)
  have hq3_6 := Lib.hid (Ow.block_lt ho3)
  have hq4_6 := Lib.hid (Ow.block_lt ho4)
  have hq5_6 := Lib.hid (Ow.block_lt ho5)
  rintro e w11 ⟨A6, c6, rfl, ho6, hb⟩
  replace hB := Below.thenn hB hb hB.size
  replace ho1 := ho1.below hb
  replace ho2 := ho2.below hb
  replace ho3 := ho3.below hb
  replace ho4 := ho4.below hb
  replace ho5 := ho5.below hb
  clear hb
  go_wp2_with fail
  refine (impl_FastestUnder _ _ _ aLimits _ _ _ ho6.rd (by omega) ho6.none_).mono ?_
  have hW7 : W.heap.size ≤ w11.heap.size := hB.size
  have hq1_7 := Lib.hid (Ow.block_lt ho1)
  have hq2_7 := Lib.hid (Ow.block_lt ho2)
  have hq3_7 := Lib.hid (Ow.block_lt ho3)
  have hq4_7 := Lib.hid (Ow.block_lt ho4)
  have hq5_7 := Lib.hid (Ow.block_lt ho5)
  have hq6_7 := Lib.hid (Ow.block_lt ho6)
  rintro e w12 ⟨A7, c7, rfl, ho7, hb⟩
  replace hB := Below.thenn hB hb hB.size
  replace ho1 := ho1.below hb
  replace ho2 := ho2.below hb
  replace ho3 := ho3.below hb
  replace ho4 := ho4.below hb
  replace ho5 := ho5.below hb
  replace ho6 := ho6.below hb
  clear hb
  go_wp2_with fail
  refine (laws_eqIntS _ _ _ _ _ _ _ _ _ ho7.rd ho2.rd (by first | omega | (simp; omega) | (simp [iota_len]; omega)) (by first | omega | (simp; omega) | (simp [iota_len]; omega))).mono ?_
  intro e w13 hq
  obtain ⟨rfl, hb⟩ := hq.ret
  clear hq
  replace hB := Below.thenn hB hb hB.size
  replace ho1 := ho1.below hb
  replace ho2 := ho2.below hb
  replace ho3 := ho3.below hb
  replace ho4 := ho4.below hb
  replace ho5 := ho5.below hb
  replace ho6 := ho6.below hb
  replace ho7 := ho7.below hb
  clear hb
  go_wp2_with fail
  refine (laws_heldIntS _ _ _ (1) _ ho4.rd (by omega) (by first | omega | (simp; omega) | (simp [iota_len]; omega)) (by first | omega | (simp; omega) | (simp [iota_len]; omega))).mono ?_
  rintro e _ ⟨rfl, rfl⟩
  go_wp2_with fail
  go_ret
  exact ⟨rfl, hB⟩

end Go.Proofs.Ythhameglamemkaa
