/- The exact laws of the circle: walks. -/
import Derived.Test.YtidjgbonlejhhaaCircQ
import Derived.Test.YtidjgbonlejhhaaCircC
import Derived.Deep.RegionHeld3
import Derived.Deep.DeepCutAuto
namespace Go.Proofs.Ytidjgbonlejhhaa
open Go.RowKit
set_option linter.unusedVariables false
set_option linter.unusedSimpArgs false

set_option maxRecDepth 100000 in
set_option maxHeartbeats 4000000 in
theorem law_FnExactEvenStarts (aLength : Int) (aSpeed : Int) (aCabins : Int) (W : World)  :
    Calls Try.prog 4 #[.int .i64 aLength, .int .i64 aSpeed, .int .i64 aCabins] W (Ret W (.bool true)) := by
  have hz1 : (evenV aLength aSpeed aCabins).length ≤ 1048576 := evenV_len _ _ _
  go_enter Try.func4, Try.ntmps4
  have hB : Below W.heap.size W W := Below.refl _ _
  go_wp2_with fail
  refine (spec_EvenStarts aLength aSpeed aCabins _).mono ?_
  have hW1 : W.heap.size ≤ W.heap.size := hB.size
  rintro e w1 ⟨A1, c1, rfl, ho1, hb⟩
  replace hB := Below.thenn hB hb hB.size
  clear hb
  go_wp2_with fail
  have hW2 : W.heap.size ≤ w1.heap.size := hB.size
  have hq1_2 := Lib.hid (Ow.block_lt ho1)
  have hb : Below w1.heap.size w1 (w1.alloc (.cells #[.int .i64 (evenL aLength aSpeed aCabins), .int .i64 (evenS aLength aSpeed aCabins), .slice A1 (evenV aLength aSpeed aCabins).length c1] 27)) := (Below.refl _ _).alloc (Nat.le_refl _) _
  have ho2 : OwB (w1.alloc (.cells #[.int .i64 (evenL aLength aSpeed aCabins), .int .i64 (evenS aLength aSpeed aCabins), .slice A1 (evenV aLength aSpeed aCabins).length c1] 27)) w1.heap.size w1.heap.size 27 #[.int .i64 (evenL aLength aSpeed aCabins), .int .i64 (evenS aLength aSpeed aCabins), .slice A1 (evenV aLength aSpeed aCabins).length c1] := OwB.new _ _ _
  generalize w1.alloc (.cells #[.int .i64 (evenL aLength aSpeed aCabins), .int .i64 (evenS aLength aSpeed aCabins), .slice A1 (evenV aLength aSpeed aCabins).length c1] 27) = w2 at hb ho2 ⊢
  replace hB := Below.thenn hB hb hB.size
  replace ho1 := ho1.below hb
  clear hb
  obtain ⟨hx2_0, hx2_1, hx2_2⟩ := ho2.cells3
  have hxl2 := ho2.2.lt
  go_wp2_with fail
  clear hxl2 hx2_0 hx2_1 hx2_2
  refine (impl_EvenStarts aLength aSpeed aCabins _).mono ?_
  have hW3 : W.heap.size ≤ w2.heap.size := hB.size
  have hq1_3 := Lib.hid (Ow.block_lt ho1)
  have hq2_3 := Lib.hid (OwB.block_lt ho2)
  rintro e w3 ⟨A3, c3, rfl, ho3, hb⟩
  replace hB := Below.thenn hB hb hB.size
  replace ho1 := ho1.below hb
  replace ho2 := ho2.below hb
  clear hb
  obtain ⟨hx2_0, hx2_1, hx2_2⟩ := ho2.cells3
  have hxl2 := ho2.2.lt
  go_wp2_with fail
  clear hxl2 hx2_0 hx2_1 hx2_2
  have hW4 : W.heap.size ≤ w3.heap.size := hB.size
  have hq1_4 := Lib.hid (Ow.block_lt ho1)
  have hq2_4 := Lib.hid (OwB.block_lt ho2)
  have hq3_4 := Lib.hid (Ow.block_lt ho3)
  have hb : Below w3.heap.size w3 (w3.alloc (.cells #[.int .i64 (evenL aLength aSpeed aCabins), .int .i64 (evenS aLength aSpeed aCabins), .slice A3 (evenV aLength aSpeed aCabins).length c3] 27)) := (Below.refl _ _).alloc (Nat.le_refl _) _
  have ho4 : OwB (w3.alloc (.cells #[.int .i64 (evenL aLength aSpeed aCabins), .int .i64 (evenS aLength aSpeed aCabins), .slice A3 (evenV aLength aSpeed aCabins).length c3] 27)) w3.heap.size w3.heap.size 27 #[.int .i64 (evenL aLength aSpeed aCabins), .int .i64 (evenS aLength aSpeed aCabins), .slice A3 (evenV aLength aSpeed aCabins).length c3] := OwB.new _ _ _
  generalize w3.alloc (.cells #[.int .i64 (evenL aLength aSpeed aCabins), .int .i64 (evenS aLength aSpeed aCabins), .slice A3 (evenV aLength aSpeed aCabins).length c3] 27) = w4 at hb ho4 ⊢
  replace hB := Below.thenn hB hb hB.size
  replace ho1 := ho1.below hb
  replace ho2 := ho2.below hb
  replace ho3 := ho3.below hb
  clear hb
  obtain ⟨hx2_0, hx2_1, hx2_2⟩ := ho2.cells3
  have hxl2 := ho2.2.lt
  obtain ⟨hx4_0, hx4_1, hx4_2⟩ := ho4.cells3
  have hxl4 := ho4.2.lt
  go_wp2_with fail
  clear hxl2 hx2_0 hx2_1 hx2_2
  clear hxl4 hx4_0 hx4_1 hx4_2
  refine (laws_eqCircle _ _ _ _ _ _ _ _ (evenV aLength aSpeed aCabins) _ ho3.rd ho1.rd (by first | omega | (simp; omega) | (simp [iota_len]; omega))).mono ?_
  rintro e w5 ⟨rfl, hb⟩
  replace hB := Below.thenn hB hb hB.size
  replace ho1 := ho1.below hb
  replace ho2 := ho2.below hb
  replace ho3 := ho3.below hb
  replace ho4 := ho4.below hb
  clear hb
  obtain ⟨hx2_0, hx2_1, hx2_2⟩ := ho2.cells3
  have hxl2 := ho2.2.lt
  obtain ⟨hx4_0, hx4_1, hx4_2⟩ := ho4.cells3
  have hxl4 := ho4.2.lt
  go_wp2_with fail
  clear hxl2 hx2_0 hx2_1 hx2_2
  clear hxl4 hx4_0 hx4_1 hx4_2
  refine (laws_markCircle _ _ _ _ _ _ _ (1) _ ho3 (by omega) (by first | omega | (simp; omega) | (simp [iota_len]; omega)) (by first | omega | (simp; omega) | (simp [iota_len]; omega))).mono ?_
  rintro e w6 ⟨rfl, ho3n, hg⟩
  replace hB := below_own hB ho3 hg hW3 hB.size
  replace ho1 := Ow.other2 ho1 hg hq1_3.out (Ow.block_ge ho3)
  replace ho2 := OwB.other2 ho2 hg hq2_3.out (Ow.block_ge ho3)
  replace ho4 := OwB.other ho4 hg hq3_4.out
  replace ho3 := ho3n
  clear hg
  obtain ⟨hx2_0, hx2_1, hx2_2⟩ := ho2.cells3
  have hxl2 := ho2.2.lt
  obtain ⟨hx4_0, hx4_1, hx4_2⟩ := ho4.cells3
  have hxl4 := ho4.2.lt
  go_wp2_with fail
  clear hxl2 hx2_0 hx2_1 hx2_2
  clear hxl4 hx4_0 hx4_1 hx4_2
  refine (laws_heldCircle _ _ _ _ _ (1) _ ho3.rd (by omega) (by first | omega | (simp; omega) | (simp [iota_len]; omega)) (by first | omega | (simp; omega) | (simp [iota_len]; omega))).mono ?_
  rintro e w7 ⟨rfl, hb⟩
  replace hB := Below.thenn hB hb hB.size
  replace ho1 := ho1.below hb
  replace ho2 := ho2.below hb
  replace ho3 := ho3.below hb
  replace ho4 := ho4.below hb
  clear hb
  obtain ⟨hx2_0, hx2_1, hx2_2⟩ := ho2.cells3
  have hxl2 := ho2.2.lt
  obtain ⟨hx4_0, hx4_1, hx4_2⟩ := ho4.cells3
  have hxl4 := ho4.2.lt
  go_wp2_with fail
  clear hxl2 hx2_0 hx2_1 hx2_2
  clear hxl4 hx4_0 hx4_1 hx4_2
  refine (impl_EvenStarts aLength aSpeed aCabins _).mono ?_
  have hW5 : W.heap.size ≤ w7.heap.size := hB.size
  have hq1_5 := Lib.hid (Ow.block_lt ho1)
  have hq2_5 := Lib.hid (OwB.block_lt ho2)
  have hq3_5 := Lib.hid (Ow.block_lt ho3)
  have hq4_5 := Lib.hid (OwB.block_lt ho4)
  rintro e w8 ⟨A5, c5, rfl, ho5, hb⟩
  replace hB := Below.thenn hB hb hB.size
  replace ho1 := ho1.below hb
  replace ho2 := ho2.below hb
  replace ho3 := ho3.below hb
  replace ho4 := ho4.below hb
  clear hb
  obtain ⟨hx2_0, hx2_1, hx2_2⟩ := ho2.cells3
  have hxl2 := ho2.2.lt
  obtain ⟨hx4_0, hx4_1, hx4_2⟩ := ho4.cells3
  have hxl4 := ho4.2.lt
  go_wp2_with fail
  clear hxl2 hx2_0 hx2_1 hx2_2
  clear hxl4 hx4_0 hx4_1 hx4_2
  have hW6 : W.heap.size ≤ w8.heap.size := hB.size
  have hq1_6 := Lib.hid (Ow.block_lt ho1)
  have hq2_6 := Lib.hid (OwB.block_lt ho2)
  have hq3_6 := Lib.hid (Ow.block_lt ho3)
  have hq4_6 := Lib.hid (OwB.block_lt ho4)
  have hq5_6 := Lib.hid (Ow.block_lt ho5)
  have hb : Below w8.heap.size w8 (w8.alloc (.cells #[.int .i64 (evenL aLength aSpeed aCabins), .int .i64 (evenS aLength aSpeed aCabins), .slice A5 (evenV aLength aSpeed aCabins).length c5] 27)) := (Below.refl _ _).alloc (Nat.le_refl _) _
  have ho6 : OwB (w8.alloc (.cells #[.int .i64 (evenL aLength aSpeed aCabins), .int .i64 (evenS aLength aSpeed aCabins), .slice A5 (evenV aLength aSpeed aCabins).length c5] 27)) w8.heap.size w8.heap.size 27 #[.int .i64 (evenL aLength aSpeed aCabins), .int .i64 (evenS aLength aSpeed aCabins), .slice A5 (evenV aLength aSpeed aCabins).length c5] := OwB.new _ _ _
  generalize w8.alloc (.cells #[.int .i64 (evenL aLength aSpeed aCabins), .int .i64 (evenS aLength aSpeed aCabins), .slice A5 (evenV aLength aSpeed aCabins).length c5] 27) = w9 at hb ho6 ⊢
  replace hB := Below.thenn hB hb hB.size
  replace ho1 := ho1.below hb
  replace ho2 := ho2.below hb
  replace ho3 := ho3.below hb
  replace ho4 := ho4.below hb
  replace ho5 := ho5.below hb
  clear hb
  obtain ⟨hx2_0, hx2_1, hx2_2⟩ := ho2.cells3
  have hxl2 := ho2.2.lt
  obtain ⟨hx4_0, hx4_1, hx4_2⟩ := ho4.cells3
  have hxl4 := ho4.2.lt
  obtain ⟨hx6_0, hx6_1, hx6_2⟩ := ho6.cells3
  have hxl6 := ho6.2.lt
  go_wp2_with fail
  clear hxl2 hx2_0 hx2_1 hx2_2
  clear hxl4 hx4_0 hx4_1 hx4_2
  clear hxl6 hx6_0 hx6_1 hx6_2
  refine (laws_eqCircle _ _ _ _ _ _ _ _ (evenV aLength aSpeed aCabins) _ ho5.rd ho1.rd (by first | omega | (simp; omega) | (simp [iota_len]; omega))).mono ?_
  rintro e w10 ⟨rfl, hb⟩
  replace hB := Below.thenn hB hb hB.size
  replace ho1 := ho1.below hb
  replace ho2 := ho2.below hb
  replace ho3 := ho3.below hb
  replace ho4 := ho4.below hb
  replace ho5 := ho5.below hb
  replace ho6 := ho6.below hb
  clear hb
  obtain ⟨hx2_0, hx2_1, hx2_2⟩ := ho2.cells3
  have hxl2 := ho2.2.lt
  obtain ⟨hx4_0, hx4_1, hx4_2⟩ := ho4.cells3
  have hxl4 := ho4.2.lt
  obtain ⟨hx6_0, hx6_1, hx6_2⟩ := ho6.cells3
  have hxl6 := ho6.2.lt
  go_wp2_with fail
  clear hxl2 hx2_0 hx2_1 hx2_2
  clear hxl4 hx4_0 hx4_1 hx4_2
  clear hxl6 hx6_0 hx6_1 hx6_2
  refine (laws_heldCircle _ _ _ _ _ (1) _ ho3.rd (by omega) (by first | omega | (simp; omega) | (simp [iota_len]; omega)) (by first | omega | (simp; omega) | (simp [iota_len]; omega))).mono ?_
  rintro e w11 ⟨rfl, hb⟩
  replace hB := Below.thenn hB hb hB.size
  replace ho1 := ho1.below hb
  replace ho2 := ho2.below hb
  replace ho3 := ho3.below hb
  replace ho4 := ho4.below hb
  replace ho5 := ho5.below hb
  replace ho6 := ho6.below hb
  clear hb
  obtain ⟨hx2_0, hx2_1, hx2_2⟩ := ho2.cells3
  have hxl2 := ho2.2.lt
  obtain ⟨hx4_0, hx4_1, hx4_2⟩ := ho4.cells3
  have hxl4 := ho4.2.lt
  obtain ⟨hx6_0, hx6_1, hx6_2⟩ := ho6.cells3
  have hxl6 := ho6.2.lt
  go_wp2_with fail
  clear hxl2 hx2_0 hx2_1 hx2_2
  clear hxl4 hx4_0 hx4_1 hx4_2
  clear hxl6 hx6_0 hx6_1 hx6_2
  go_ret
  exact ⟨rfl, hB⟩

end Go.Proofs.Ytidjgbonlejhhaa
