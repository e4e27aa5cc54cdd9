/- The exact laws of the tickets: walks. -/
import Derived.Test.YtobcgcdjoogfnaaTickJ
import Derived.Test.YtobcgcdjoogfnaaTickK
import Derived.Test.YtobcgcdjoogfnaaFlTicketB
namespace Go.Proofs.Ytobcgcdjoogfnaa
open Go.RowKit
set_option linter.unusedVariables false
set_option linter.unusedSimpArgs false

set_option maxRecDepth 100000 in
set_option maxHeartbeats 4000000 in
theorem law_FnExactUseTicket (aListA : Option Addr) (aListn aListc : Nat) (aList : List (List Int)) (aNumber : Int) (aDay : Int) (aUp : Bool) (W : World) (haList : CameR 5 W aListA aListn aListc aList) :
    Calls Try.prog 12 #[.slice aListA aListn aListc, .int .i64 aNumber, .int .i64 aDay, .bool aUp] W (Ret W (.bool true)) := by
  obtain ⟨hraList, hncaList, hcmaList, hwfaList, hnilaList⟩ := haList
  have hlaList := hraList.2.2
  simp only [maxLen] at hcmaList
  go_enter Try.func12, Try.ntmps12
  have hB : Below W.heap.size W W := Below.refl _ _
  go_wp2_with fail
  by_cases hbig0 : 1048576 < (aListn : Int)
  · refine (laws_szTicketS_big _ _ _ (1048576) _ (by omega) (by omega) (by omega) (by omega)).mono ?_
    rintro e _ ⟨rfl, rfl⟩
    go_wp2_with fail
    go_ret
    exact ⟨rfl, hB⟩
  refine (laws_szTicketS _ _ _ (1048576) _ (by omega) (by omega)).mono ?_
  rintro e _ ⟨rfl, rfl⟩
  have hleft0 : ¬ (1048576 - (aListn : Int) < 0) := by omega
  have hsaList : aList.length ≤ 1048576 := by omega
  obtain rfl : aList.length = aListn := hlaList
  clear hwfaList
  have hz1 : (useV aList aNumber aDay aUp).length ≤ 1048576 := useV_len hsaList
  go_wp2_with fail
  refine (laws_toTicketS _ _ _ aList _ (hraList.below hB) (by omega)).mono ?_
  have hW1 : W.heap.size ≤ W.heap.size := hB.size
  rintro e w1 ⟨A1, c1, rfl, ho1, hb⟩
  replace hB := Below.thenn hB hb hB.size
  clear hb
  go_wp2_with fail
  refine (spec_UseTicket _ _ _ aList aNumber aDay aUp _ ho1.rdR (by omega)).mono ?_
  have hW2 : W.heap.size ≤ w1.heap.size := hB.size
  have hq1_2 := Lib.hid (OwR.block_lt ho1)
  rintro e w2 ⟨A2, c2, rfl, ho2, hb⟩
  replace hB := Below.thenn hB hb hB.size
  replace ho1 := ho1.below hb
  clear hb
  go_wp2_with fail
  refine (laws_toTicketS _ _ _ aList _ (hraList.below hB) (by omega)).mono ?_
  have hW3 : W.heap.size ≤ w2.heap.size := hB.size
  have hq1_3 := Lib.hid (OwR.block_lt ho1)
  have hq2_3 := Lib.hid (OwR.block_lt ho2)
  rintro e w3 ⟨A3, c3, rfl, ho3, hb⟩
  replace hB := Below.thenn hB hb hB.size
  replace ho1 := ho1.below hb
  replace ho2 := ho2.below hb
  clear hb
  go_wp2_with fail
  refine (impl_UseTicket _ _ _ aList aNumber aDay aUp _ ho3.rdR (by omega) ho3.none_).mono ?_
  have hW4 : W.heap.size ≤ w3.heap.size := hB.size
  have hq1_4 := Lib.hid (OwR.block_lt ho1)
  have hq2_4 := Lib.hid (OwR.block_lt ho2)
  have hq3_4 := Lib.hid (OwR.block_lt ho3)
  rintro e w4 ⟨A4, c4, rfl, ho4, hb⟩
  replace hB := Below.thenn hB hb hB.size
  replace ho1 := ho1.below hb
  replace ho2 := ho2.below hb
  replace ho3 := ho3.below hb
  clear hb
  go_wp2_with fail
  refine (laws_eqTicketS _ _ _ _ _ _ (useV aList aNumber aDay aUp) _ ho4.rdR ho2.rdR (by first | omega | (simp; omega) | (simp [iota_len]; omega))).mono ?_
  rintro e w5 ⟨rfl, hb⟩
  replace hB := Below.thenn hB hb hB.size
  replace ho1 := ho1.below hb
  replace ho2 := ho2.below hb
  replace ho3 := ho3.below hb
  replace ho4 := ho4.below hb
  clear hb
  go_wp2_with fail
  refine (laws_toTicketS _ _ _ aList _ (hraList.below hB) (by omega)).mono ?_
  have hW5 : W.heap.size ≤ w5.heap.size := hB.size
  have hq1_5 := Lib.hid (OwR.block_lt ho1)
  have hq2_5 := Lib.hid (OwR.block_lt ho2)
  have hq3_5 := Lib.hid (OwR.block_lt ho3)
  have hq4_5 := Lib.hid (OwR.block_lt ho4)
  rintro e w6 ⟨A5, c5, rfl, ho5, hb⟩
  replace hB := Below.thenn hB hb hB.size
  replace ho1 := ho1.below hb
  replace ho2 := ho2.below hb
  replace ho3 := ho3.below hb
  replace ho4 := ho4.below hb
  clear hb
  go_wp2_with fail
  refine (laws_eqTicketS _ _ _ _ _ _ (aList) _ ho3.rdR ho5.rdR (by first | omega | (simp; omega) | (simp [iota_len]; omega))).mono ?_
  rintro e w7 ⟨rfl, hb⟩
  replace hB := Below.thenn hB hb hB.size
  replace ho1 := ho1.below hb
  replace ho2 := ho2.below hb
  replace ho3 := ho3.below hb
  replace ho4 := ho4.below hb
  replace ho5 := ho5.below hb
  clear hb
  go_wp2_with fail
  refine (laws_markTicketS _ _ _ _ _ (1) _ ho3.1 (by omega) (by first | omega | (simp; omega) | (simp [iota_len]; omega)) (by first | omega | (simp; omega) | (simp [iota_len]; omega))).mono ?_
  rintro e w8 ⟨rfl, ho3n, hg⟩
  replace hB := below_ownF hB ho3.1 hg hW3 hB.size
  replace ho1 := OwR.other2 ho1 hg hq1_3.out (OwR.block_ge ho3)
  replace ho2 := OwR.other2 ho2 hg hq2_3.out (OwR.block_ge ho3)
  replace ho4 := OwR.other ho4 hg hq3_4.out
  replace ho5 := OwR.other ho5 hg hq3_5.out
  replace ho3 := ho3n
  clear hg
  go_wp2_with fail
  refine (laws_eqTicketS _ _ _ _ _ _ (useV aList aNumber aDay aUp) _ ho4.rdR ho2.rdR (by first | omega | (simp; omega) | (simp [iota_len]; omega))).mono ?_
  rintro e w9 ⟨rfl, hb⟩
  replace hB := Below.thenn hB hb hB.size
  replace ho1 := ho1.below hb
  replace ho2 := ho2.below hb
  replace ho3 := ho3.below hb
  replace ho4 := ho4.below hb
  replace ho5 := ho5.below hb
  clear hb
  go_wp2_with fail
  refine (laws_markTicketS _ _ _ _ _ (1) _ ho4.1 (by omega) (by first | omega | (simp; omega) | (simp [iota_len]; omega)) (by first | omega | (simp; omega) | (simp [iota_len]; omega))).mono ?_
  rintro e w10 ⟨rfl, ho4n, hg⟩
  replace hB := below_ownF hB ho4.1 hg hW4 hB.size
  replace ho1 := OwR.other2 ho1 hg hq1_4.out (OwR.block_ge ho4)
  replace ho2 := OwR.other2 ho2 hg hq2_4.out (OwR.block_ge ho4)
  replace ho3 := OwF.other2 ho3 hg hq3_4.out (OwR.block_ge ho4)
  replace ho5 := OwR.other ho5 hg hq4_5.out
  replace ho4 := ho4n
  clear hg
  go_wp2_with fail
  refine (laws_heldTicketS _ (useV aList aNumber aDay aUp).length _ (1) _ ho4.rd (by omega) (by first | omega | (simp; omega) | (simp [iota_len]; omega)) (by first | omega | (simp; omega) | (simp [iota_len]; omega))).mono ?_
  rintro e _ ⟨rfl, rfl⟩
  go_wp2_with fail
  refine (laws_toTicketS _ _ _ aList _ (hraList.below hB) (by omega)).mono ?_
  have hW6 : W.heap.size ≤ w10.heap.size := hB.size
  have hq1_6 := Lib.hid (OwR.block_lt ho1)
  have hq2_6 := Lib.hid (OwR.block_lt ho2)
  have hq3_6 := Lib.hid (OwF.block_lt ho3)
  have hq4_6 := Lib.hid (OwF.block_lt ho4)
  have hq5_6 := Lib.hid (OwR.block_lt ho5)
  rintro e w11 ⟨A6, c6, rfl, ho6, hb⟩
  replace hB := Below.thenn hB hb hB.size
  replace ho1 := ho1.below hb
  replace ho2 := ho2.below hb
  replace ho3 := ho3.below hb
  replace ho4 := ho4.below hb
  replace ho5 := ho5.below hb
  clear hb
  go_wp2_with fail
  refine (impl_UseTicket _ _ _ aList aNumber aDay aUp _ ho6.rdR (by omega) ho6.none_).mono ?_
  have hW7 : W.heap.size ≤ w11.heap.size := hB.size
  have hq1_7 := Lib.hid (OwR.block_lt ho1)
  have hq2_7 := Lib.hid (OwR.block_lt ho2)
  have hq3_7 := Lib.hid (OwF.block_lt ho3)
  have hq4_7 := Lib.hid (OwF.block_lt ho4)
  have hq5_7 := Lib.hid (OwR.block_lt ho5)
  have hq6_7 := Lib.hid (OwR.block_lt ho6)
  rintro e w12 ⟨A7, c7, rfl, ho7, hb⟩
  replace hB := Below.thenn hB hb hB.size
  replace ho1 := ho1.below hb
  replace ho2 := ho2.below hb
  replace ho3 := ho3.below hb
  replace ho4 := ho4.below hb
  replace ho5 := ho5.below hb
  replace ho6 := ho6.below hb
  clear hb
  go_wp2_with fail
  refine (laws_eqTicketS _ _ _ _ _ _ (useV aList aNumber aDay aUp) _ ho7.rdR ho2.rdR (by first | omega | (simp; omega) | (simp [iota_len]; omega))).mono ?_
  rintro e w13 ⟨rfl, hb⟩
  replace hB := Below.thenn hB hb hB.size
  replace ho1 := ho1.below hb
  replace ho2 := ho2.below hb
  replace ho3 := ho3.below hb
  replace ho4 := ho4.below hb
  replace ho5 := ho5.below hb
  replace ho6 := ho6.below hb
  replace ho7 := ho7.below hb
  clear hb
  go_wp2_with fail
  refine (laws_heldTicketS _ (useV aList aNumber aDay aUp).length _ (1) _ ho4.rd (by omega) (by first | omega | (simp; omega) | (simp [iota_len]; omega)) (by first | omega | (simp; omega) | (simp [iota_len]; omega))).mono ?_
  rintro e _ ⟨rfl, rfl⟩
  go_wp2_with fail
  go_ret
  exact ⟨rfl, hB⟩

end Go.Proofs.Ytobcgcdjoogfnaa
