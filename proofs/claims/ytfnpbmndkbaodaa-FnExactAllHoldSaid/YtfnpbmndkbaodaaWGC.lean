/- The exact laws of the grips: walks. -/
import Derived.Test.YtfnpbmndkbaodaaGripH
import Derived.Test.YtfnpbmndkbaodaaGripHB
import Derived.Test.YtfnpbmndkbaodaaFlGripB
namespace Go.Proofs.Ytfnpbmndkbaodaa
open Go.RowKit
set_option linter.unusedVariables false
set_option linter.unusedSimpArgs false

set_option maxRecDepth 100000 in
set_option maxHeartbeats 4000000 in
theorem law_FnExactAllHold (aListA : Option Addr) (aListn aListc : Nat) (aList : List (List Int)) (aLoadsA : Option Addr) (aLoadsn aLoadsc : Nat) (aLoads : List Int) (aSlope : Int) (W : World) (haList : CameR 5 W aListA aListn aListc aList) (haLoads : Came .i64 W aLoadsA aLoadsn aLoadsc aLoads) :
    Calls Try.prog 5 #[.slice aListA aListn aListc, .slice aLoadsA aLoadsn aLoadsc, .int .i64 aSlope] W (Ret W (.bool true)) := by
  obtain ⟨hraList, hncaList, hcmaList, hwfaList, hnilaList⟩ := haList
  have hlaList := hraList.2.2
  simp only [maxLen] at hcmaList
  obtain ⟨hraLoads, hlaLoads, hncaLoads, hcmaLoads, hwfaLoads, hnilaLoads⟩ := haLoads
  by_cases hbigaLoads : 1048576 < aLoadsn
  · go_enter Try.func5, Try.ntmps5
    go_wp2_with fail
    go_ret
    exact ⟨rfl, Below.refl _ _⟩
  have hsaLoads : aLoads.length ≤ 1048576 := by omega
  obtain rfl : aLoads.length = aLoadsn := hlaLoads
  clear hwfaLoads hbigaLoads
  go_enter Try.func5, Try.ntmps5
  have hB : Below W.heap.size W W := Below.refl _ _
  go_wp2_with fail
  by_cases hbig0 : 1048576 < (aListn : Int)
  · refine (laws_szGripS_big _ _ _ (1048576) _ (by omega) (by omega) (by omega) (by omega)).mono ?_
    rintro e _ ⟨rfl, rfl⟩
    go_wp2_with fail
    go_ret
    exact ⟨rfl, hB⟩
  refine (laws_szGripS _ _ _ (1048576) _ (by omega) (by omega)).mono ?_
  rintro e _ ⟨rfl, rfl⟩
  have hleft0 : ¬ (1048576 - (aListn : Int) < 0) := by omega
  have hsaList : aList.length ≤ 1048576 := by omega
  obtain rfl : aList.length = aListn := hlaList
  clear hwfaList
  have hz1 : (ahV aList aLoads aSlope).length ≤ 1048576 := ahV_len _ _ _
  go_wp2_with fail
  refine (laws_toGripS _ _ _ aList _ (hraList.below hB) (by omega)).mono ?_
  have hW1 : W.heap.size ≤ W.heap.size := hB.size
  rintro e w1 ⟨A1, c1, rfl, ho1, hb⟩
  replace hB := Below.thenn hB hb hB.size
  clear hb
  go_wp2_with fail
  refine (laws_toIntS_ret _ _ _ aLoads _ (hraLoads.below hB) (by omega)).mono ?_
  have hW2 : W.heap.size ≤ w1.heap.size := hB.size
  have hq1_2 := Lib.hid (OwR.block_lt ho1)
  rintro e w2 ⟨A2, c2, rfl, ho2, hb⟩
  replace hB := Below.thenn hB hb hB.size
  replace ho1 := ho1.below hb
  clear hb
  go_wp2_with fail
  refine (spec_AllHold _ _ _ _ _ _ aList aLoads aSlope _ ho1.rdR (by omega) ho2.rd (by omega)).mono ?_
  have hW3 : W.heap.size ≤ w2.heap.size := hB.size
  have hq1_3 := Lib.hid (OwR.block_lt ho1)
  have hq2_3 := Lib.hid (Ow.block_lt ho2)
  rintro e w3 ⟨A3, c3, rfl, ho3, hb⟩
  replace hB := Below.thenn hB hb hB.size
  replace ho1 := ho1.below hb
  replace ho2 := ho2.below hb
  clear hb
  go_wp2_with fail
  refine (laws_toGripS _ _ _ aList _ (hraList.below hB) (by omega)).mono ?_
  have hW4 : W.heap.size ≤ w3.heap.size := hB.size
  have hq1_4 := Lib.hid (OwR.block_lt ho1)
  have hq2_4 := Lib.hid (Ow.block_lt ho2)
  have hq3_4 := Lib.hid (Ow.block_lt ho3)
  rintro e w4 ⟨A4, c4, rfl, ho4, hb⟩
  replace hB := Below.thenn hB hb hB.size
  replace ho1 := ho1.below hb
  replace ho2 := ho2.below hb
  replace ho3 := ho3.below hb
  clear hb
  go_wp2_with fail
  refine (laws_toIntS_ret _ _ _ aLoads _ (hraLoads.below hB) (by omega)).mono ?_
  have hW5 : W.heap.size ≤ w4.heap.size := hB.size
  have hq1_5 := Lib.hid (OwR.block_lt ho1)
  have hq2_5 := Lib.hid (Ow.block_lt ho2)
  have hq3_5 := Lib.hid (Ow.block_lt ho3)
  have hq4_5 := Lib.hid (OwR.block_lt ho4)
  rintro e w5 ⟨A5, c5, rfl, ho5, hb⟩
  replace hB := Below.thenn hB hb hB.size
  replace ho1 := ho1.below hb
  replace ho2 := ho2.below hb
  replace ho3 := ho3.below hb
  replace ho4 := ho4.below hb
  clear hb
  go_wp2_with fail
  refine (impl_AllHold _ _ _ _ _ _ aList aLoads aSlope _ ho4.rdR (by omega) ho5.rd (by omega)).mono ?_
  have hW6 : W.heap.size ≤ w5.heap.size := hB.size
  have hq1_6 := Lib.hid (OwR.block_lt ho1)
  have hq2_6 := Lib.hid (Ow.block_lt ho2)
  have hq3_6 := Lib.hid (Ow.block_lt ho3)
  have hq4_6 := Lib.hid (OwR.block_lt ho4)
  have hq5_6 := Lib.hid (Ow.block_lt ho5)
  rintro e w6 ⟨A6, c6, rfl, ho6, hb⟩
  replace hB := Below.thenn hB hb hB.size
  replace ho1 := ho1.below hb
  replace ho2 := ho2.below hb
  replace ho3 := ho3.below hb
  replace ho4 := ho4.below hb
  replace ho5 := ho5.below hb
  clear hb
  go_wp2_with fail
  refine (laws_eqIntS _ _ _ _ _ _ _ _ _ ho6.rd ho3.rd (by first | omega | (simp; omega) | (simp [iota_len]; omega)) (by first | omega | (simp; omega) | (simp [iota_len]; omega))).mono ?_
  intro e w7 hq
  obtain ⟨rfl, hb⟩ := hq.ret
  clear hq
  replace hB := Below.thenn hB hb hB.size
  replace ho1 := ho1.below hb
  replace ho2 := ho2.below hb
  replace ho3 := ho3.below hb
  replace ho4 := ho4.below hb
  replace ho5 := ho5.below hb
  replace ho6 := ho6.below hb
  clear hb
  go_wp2_with fail
  refine (laws_toGripS _ _ _ aList _ (hraList.below hB) (by omega)).mono ?_
  have hW7 : W.heap.size ≤ w7.heap.size := hB.size
  have hq1_7 := Lib.hid (OwR.block_lt ho1)
  have hq2_7 := Lib.hid (Ow.block_lt ho2)
  have hq3_7 := Lib.hid (Ow.block_lt ho3)
  have hq4_7 := Lib.hid (OwR.block_lt ho4)
  have hq5_7 := Lib.hid (Ow.block_lt ho5)
  have hq6_7 := Lib.hid (Ow.block_lt ho6)
  rintro e w8 ⟨A7, c7, rfl, ho7, hb⟩
  replace hB := Below.thenn hB hb hB.size
  replace ho1 := ho1.below hb
  replace ho2 := ho2.below hb
  replace ho3 := ho3.below hb
  replace ho4 := ho4.below hb
  replace ho5 := ho5.below hb
  replace ho6 := ho6.below hb
  clear hb
  go_wp2_with fail
  refine (laws_eqGripS _ _ _ _ _ _ (aList) _ ho4.rdR ho7.rdR (by first | omega | (simp; omega) | (simp [iota_len]; omega))).mono ?_
  rintro e w9 ⟨rfl, hb⟩
  replace hB := Below.thenn hB hb hB.size
  replace ho1 := ho1.below hb
  replace ho2 := ho2.below hb
  replace ho3 := ho3.below hb
  replace ho4 := ho4.below hb
  replace ho5 := ho5.below hb
  replace ho6 := ho6.below hb
  replace ho7 := ho7.below hb
  clear hb
  go_wp2_with fail
  refine (laws_toIntS_ret _ _ _ aLoads _ (hraLoads.below hB) (by omega)).mono ?_
  have hW8 : W.heap.size ≤ w9.heap.size := hB.size
  have hq1_8 := Lib.hid (OwR.block_lt ho1)
  have hq2_8 := Lib.hid (Ow.block_lt ho2)
  have hq3_8 := Lib.hid (Ow.block_lt ho3)
  have hq4_8 := Lib.hid (OwR.block_lt ho4)
  have hq5_8 := Lib.hid (Ow.block_lt ho5)
  have hq6_8 := Lib.hid (Ow.block_lt ho6)
  have hq7_8 := Lib.hid (OwR.block_lt ho7)
  rintro e w10 ⟨A8, c8, rfl, ho8, hb⟩
  replace hB := Below.thenn hB hb hB.size
  replace ho1 := ho1.below hb
  replace ho2 := ho2.below hb
  replace ho3 := ho3.below hb
  replace ho4 := ho4.below hb
  replace ho5 := ho5.below hb
  replace ho6 := ho6.below hb
  replace ho7 := ho7.below hb
  clear hb
  go_wp2_with fail
  refine (laws_eqIntS _ _ _ _ _ _ _ _ _ ho5.rd ho8.rd (by first | omega | (simp; omega) | (simp [iota_len]; omega)) (by first | omega | (simp; omega) | (simp [iota_len]; omega))).mono ?_
  intro e w11 hq
  obtain ⟨rfl, hb⟩ := hq.ret
  clear hq
  replace hB := Below.thenn hB hb hB.size
  replace ho1 := ho1.below hb
  replace ho2 := ho2.below hb
  replace ho3 := ho3.below hb
  replace ho4 := ho4.below hb
  replace ho5 := ho5.below hb
  replace ho6 := ho6.below hb
  replace ho7 := ho7.below hb
  replace ho8 := ho8.below hb
  clear hb
  go_wp2_with fail
  refine (laws_markGripS _ _ _ _ _ (1) _ ho4.1 (by omega) (by first | omega | (simp; omega) | (simp [iota_len]; omega)) (by first | omega | (simp; omega) | (simp [iota_len]; omega))).mono ?_
  rintro e w12 ⟨rfl, ho4n, hg⟩
  replace hB := below_ownF hB ho4.1 hg hW4 hB.size
  replace ho1 := OwR.other2 ho1 hg hq1_4.out (OwR.block_ge ho4)
  replace ho2 := Ow.other2 ho2 hg hq2_4.out (OwR.block_ge ho4)
  replace ho3 := Ow.other2 ho3 hg hq3_4.out (OwR.block_ge ho4)
  replace ho5 := Ow.other ho5 hg hq4_5.out
  replace ho6 := Ow.other ho6 hg hq4_6.out
  replace ho7 := OwR.other ho7 hg hq4_7.out
  replace ho8 := Ow.other ho8 hg hq4_8.out
  replace ho4 := ho4n
  clear hg
  go_wp2_with fail
  refine (laws_markIntS _ _ _ _ _ (1 + ((aList).length * 5 : Nat)) _ ho5 (by omega) (by first | omega | (simp; omega) | (simp [iota_len]; omega)) (by first | omega | (simp; omega) | (simp [iota_len]; omega))).mono ?_
  rintro e w13 ⟨rfl, ho5n, hg⟩
  replace hB := below_own hB ho5 hg hW5 hB.size
  replace ho1 := OwR.other2 ho1 hg hq1_5.out (Ow.block_ge ho5)
  replace ho2 := Ow.other2 ho2 hg hq2_5.out (Ow.block_ge ho5)
  replace ho3 := Ow.other2 ho3 hg hq3_5.out (Ow.block_ge ho5)
  replace ho4 := OwF.other2 ho4 hg hq4_5.out (Ow.block_ge ho5)
  replace ho6 := Ow.other ho6 hg hq5_6.out
  replace ho7 := OwR.other ho7 hg hq5_7.out
  replace ho8 := Ow.other ho8 hg hq5_8.out
  replace ho5 := ho5n
  clear hg
  go_wp2_with fail
  refine (laws_eqIntS _ _ _ _ _ _ _ _ _ ho6.rd ho3.rd (by first | omega | (simp; omega) | (simp [iota_len]; omega)) (by first | omega | (simp; omega) | (simp [iota_len]; omega))).mono ?_
  intro e w14 hq
  obtain ⟨rfl, hb⟩ := hq.ret
  clear hq
  replace hB := Below.thenn hB hb hB.size
  replace ho1 := ho1.below hb
  replace ho2 := ho2.below hb
  replace ho3 := ho3.below hb
  replace ho4 := ho4.below hb
  replace ho5 := ho5.below hb
  replace ho6 := ho6.below hb
  replace ho7 := ho7.below hb
  replace ho8 := ho8.below hb
  clear hb
  go_wp2_with fail
  refine (laws_markIntS _ _ _ _ _ (1) _ ho6 (by omega) (by first | omega | (simp; omega) | (simp [iota_len]; omega)) (by first | omega | (simp; omega) | (simp [iota_len]; omega))).mono ?_
  rintro e w15 ⟨rfl, ho6n, hg⟩
  replace hB := below_own hB ho6 hg hW6 hB.size
  replace ho1 := OwR.other2 ho1 hg hq1_6.out (Ow.block_ge ho6)
  replace ho2 := Ow.other2 ho2 hg hq2_6.out (Ow.block_ge ho6)
  replace ho3 := Ow.other2 ho3 hg hq3_6.out (Ow.block_ge ho6)
  replace ho4 := OwF.other2 ho4 hg hq4_6.out (Ow.block_ge ho6)
  replace ho5 := Ow.other2 ho5 hg hq5_6.out (Ow.block_ge ho6)
  replace ho7 := OwR.other ho7 hg hq6_7.out
  replace ho8 := Ow.other ho8 hg hq6_8.out
  replace ho6 := ho6n
  clear hg
  go_wp2_with fail
  refine (laws_heldIntS _ _ _ (1) _ ho6.rd (by omega) (by first | omega | (simp; omega) | (simp [iota_len]; omega)) (by first | omega | (simp; omega) | (simp [iota_len]; omega))).mono ?_
  rintro e _ ⟨rfl, rfl⟩
  go_wp2_with fail
  refine (laws_toGripS _ _ _ aList _ (hraList.below hB) (by omega)).mono ?_
  have hW9 : W.heap.size ≤ w15.heap.size := hB.size
  have hq1_9 := Lib.hid (OwR.block_lt ho1)
  have hq2_9 := Lib.hid (Ow.block_lt ho2)
  have hq3_9 := Lib.hid (Ow.block_lt ho3)
  have hq4_9 := Lib.hid (OwF.block_lt ho4)
  have hq5_9 := Lib.hid (Ow.block_lt ho5)
  have hq6_9 := Lib.hid (Ow.block_lt ho6)
  have hq7_9 := Lib.hid (OwR.block_lt ho7)
  have hq8_9 := Lib.hid (Ow.block_lt ho8)
  rintro e w16 ⟨A9, c9, rfl, ho9, hb⟩
  replace hB := Below.thenn hB hb hB.size
  replace ho1 := ho1.below hb
  replace ho2 := ho2.below hb
  replace ho3 := ho3.below hb
  replace ho4 := ho4.below hb
  replace ho5 := ho5.below hb
  replace ho6 := ho6.below hb
  replace ho7 := ho7.below hb
  replace ho8 := ho8.below hb
  clear hb
  go_wp2_with fail
  refine (laws_toIntS_ret _ _ _ aLoads _ (hraLoads.below hB) (by omega)).mono ?_
  have hW10 : W.heap.size ≤ w16.heap.size := hB.size
  have hq1_10 := Lib.hid (OwR.block_lt ho1)
  have hq2_10 := Lib.hid (Ow.block_lt ho2)
  have hq3_10 := Lib.hid (Ow.block_lt ho3)
  have hq4_10 := Lib.hid (OwF.block_lt ho4)
  have hq5_10 := Lib.hid (Ow.block_lt ho5)
  have hq6_10 := Lib.hid (Ow.block_lt ho6)
  have hq7_10 := Lib.hid (OwR.block_lt ho7)
  have hq8_10 := Lib.hid (Ow.block_lt ho8)
  have hq9_10 := Lib.hid (OwR.block_lt ho9)
  rintro e w17 ⟨A10, c10, rfl, ho10, hb⟩
  replace hB := Below.thenn hB hb hB.size
  replace ho1 := ho1.below hb
  replace ho2 := ho2.below hb
  replace ho3 := ho3.below hb
  replace ho4 := ho4.below hb
  replace ho5 := ho5.below hb
  replace ho6 := ho6.below hb
  replace ho7 := ho7.below hb
  replace ho8 := ho8.below hb
  replace ho9 := ho9.below hb
  clear hb
  go_wp2_with fail
  refine (impl_AllHold _ _ _ _ _ _ aList aLoads aSlope _ ho9.rdR (by omega) ho10.rd (by omega)).mono ?_
  have hW11 : W.heap.size ≤ w17.heap.size := hB.size
  have hq1_11 := Lib.hid (OwR.block_lt ho1)
  have hq2_11 := Lib.hid (Ow.block_lt ho2)
  have hq3_11 := Lib.hid (Ow.block_lt ho3)
  have hq4_11 := Lib.hid (OwF.block_lt ho4)
  have hq5_11 := Lib.hid (Ow.block_lt ho5)
  have hq6_11 := Lib.hid (Ow.block_lt ho6)
  have hq7_11 := Lib.hid (OwR.block_lt ho7)
  have hq8_11 := Lib.hid (Ow.block_lt ho8)
  have hq9_11 := Lib.hid (OwR.block_lt ho9)
  have hq10_11 := Lib.hid (Ow.block_lt ho10)
  rintro e w18 ⟨A11, c11, rfl, ho11, hb⟩
  replace hB := Below.thenn hB hb hB.size
  replace ho1 := ho1.below hb
  replace ho2 := ho2.below hb
  replace ho3 := ho3.below hb
  replace ho4 := ho4.below hb
  replace ho5 := ho5.below hb
  replace ho6 := ho6.below hb
  replace ho7 := ho7.below hb
  replace ho8 := ho8.below hb
  replace ho9 := ho9.below hb
  replace ho10 := ho10.below hb
  clear hb
  go_wp2_with fail
  refine (laws_eqIntS _ _ _ _ _ _ _ _ _ ho11.rd ho3.rd (by first | omega | (simp; omega) | (simp [iota_len]; omega)) (by first | omega | (simp; omega) | (simp [iota_len]; omega))).mono ?_
  intro e w19 hq
  obtain ⟨rfl, hb⟩ := hq.ret
  clear hq
  replace hB := Below.thenn hB hb hB.size
  replace ho1 := ho1.below hb
  replace ho2 := ho2.below hb
  replace ho3 := ho3.below hb
  replace ho4 := ho4.below hb
  replace ho5 := ho5.below hb
  replace ho6 := ho6.below hb
  replace ho7 := ho7.below hb
  replace ho8 := ho8.below hb
  replace ho9 := ho9.below hb
  replace ho10 := ho10.below hb
  replace ho11 := ho11.below hb
  clear hb
  go_wp2_with fail
  refine (laws_heldIntS _ _ _ (1) _ ho6.rd (by omega) (by first | omega | (simp; omega) | (simp [iota_len]; omega)) (by first | omega | (simp; omega) | (simp [iota_len]; omega))).mono ?_
  rintro e _ ⟨rfl, rfl⟩
  go_wp2_with fail
  go_ret
  exact ⟨rfl, hB⟩

end Go.Proofs.Ytfnpbmndkbaodaa
