/- The exact laws of the circle: walks. -/
import Derived.Test.YtidjgbonlejhhaaCircV
import Derived.Test.YtidjgbonlejhhaaCircC
import Derived.Deep.RegionHeld3
import Derived.Deep.DeepCutAuto
namespace Go.Proofs.Ytidjgbonlejhhaa
open Go.RowKit
set_option linter.unusedVariables false
set_option linter.unusedSimpArgs false

set_option maxRecDepth 100000 in
set_option maxHeartbeats 4000000 in
theorem law_FnExactAddCabin (aC_0 : Int) (aC_1 : Int) (aC_2A : Option Addr) (aC_2n aC_2c : Nat) (aC_2 : List Int) (aGap : Int) (W : World) (haC_2 : Came .i64 W aC_2A aC_2n aC_2c aC_2) :
    Calls Try.prog 13 #[.agg #[.int .i64 aC_0, .int .i64 aC_1, .slice aC_2A aC_2n aC_2c], .int .i64 aGap] W (Ret W (.bool true)) := by
  obtain ⟨hraC_2, hlaC_2, hncaC_2, hcmaC_2, hwfaC_2, hnilaC_2⟩ := haC_2
  simp only [maxLen] at hcmaC_2
  go_enter Try.func13, Try.ntmps13
  go_wp2_with fail
  have hWV : Below W.heap.size W (W.alloc (.cells #[.int .i64 aC_0, .int .i64 aC_1, .slice aC_2A aC_2n aC_2c] 24)) := (Below.refl _ _).alloc (Nat.le_refl _) _
  have hV0 : W.heap.size < (W.alloc (.cells #[.int .i64 aC_0, .int .i64 aC_1, .slice aC_2A aC_2n aC_2c] 24)).heap.size := by simp
  have hv0 : (W.alloc (.cells #[.int .i64 aC_0, .int .i64 aC_1, .slice aC_2A aC_2n aC_2c] 24)).cell? ⟨W.heap.size, 0, none⟩ = some (.int .i64 aC_0) := by rw [cell_of_row _ _ _ _ _ _ (heap_alloc_new W _)]; rfl
  have hv1 : (W.alloc (.cells #[.int .i64 aC_0, .int .i64 aC_1, .slice aC_2A aC_2n aC_2c] 24)).cell? ⟨W.heap.size, 1, none⟩ = some (.int .i64 aC_1) := by rw [cell_of_row _ _ _ _ _ _ (heap_alloc_new W _)]; rfl
  have hv2 : (W.alloc (.cells #[.int .i64 aC_0, .int .i64 aC_1, .slice aC_2A aC_2n aC_2c] 24)).cell? ⟨W.heap.size, 2, none⟩ = some (.slice aC_2A aC_2n aC_2c) := by rw [cell_of_row _ _ _ _ _ _ (heap_alloc_new W _)]; rfl
  generalize W.alloc (.cells #[.int .i64 aC_0, .int .i64 aC_1, .slice aC_2A aC_2n aC_2c] 24) = V at hWV hV0 hv0 hv1 hv2 ⊢
  replace hraC_2 := hraC_2.below hWV
  have hB : Below V.heap.size V V := Below.refl _ _
  (try clear hc hf)
  (try clear hVl)
  have hVl := Nat.lt_of_lt_of_le hV0 hB.size
  obtain ⟨hc, hf⟩ := bcell hB
  by_cases hbig0 : 1048576 < (aC_2n : Int)
  · refine (laws_szCircle_big _ _ _ _ _ (1048576) _ (by omega) (by omega) (by omega) (by omega)).mono ?_
    rintro e wz ⟨rfl, hb⟩
    replace hB := Below.thenn hB hb hB.size
    go_wp2_with fail
    go_ret
    exact ⟨rfl, Below.thenn hWV hB hWV.size⟩
  refine (laws_szCircle _ _ _ _ _ (1048576) _ (by omega) (by omega)).mono ?_
  rintro e w1 ⟨rfl, hb⟩
  replace hB := Below.thenn hB hb hB.size
  clear hb
  (try clear hc hf)
  (try clear hVl)
  have hVl := Nat.lt_of_lt_of_le hV0 hB.size
  obtain ⟨hc, hf⟩ := bcell hB
  have hleft0 : ¬ (1048576 - (aC_2n : Int) < 0) := by omega
  have hsaC_2 : aC_2.length ≤ 1048576 := by omega
  obtain rfl : aC_2.length = aC_2n := hlaC_2
  clear hwfaC_2
  have hz1 : (addV aC_0 aC_1 aC_2 aGap).length ≤ 1048576 := addV_len
  go_wp2_with fail
  refine (laws_toCircle _ _ _ _ _ aC_2 _ (hraC_2.below hB) (by omega)).mono ?_
  have hW1 : V.heap.size ≤ w1.heap.size := hB.size
  rintro e w2 ⟨A1, c1, rfl, ho1, hb⟩
  replace hB := Below.thenn hB hb hB.size
  clear hb
  (try clear hc hf)
  (try clear hVl)
  have hVl := Nat.lt_of_lt_of_le hV0 hB.size
  obtain ⟨hc, hf⟩ := bcell hB
  go_wp2_with fail
  refine (spec_AddCabin aC_0 aC_1 _ _ _ aC_2 aGap _ ho1.rd (by omega)).mono ?_
  have hW2 : V.heap.size ≤ w2.heap.size := hB.size
  have hq1_2 := Lib.hid (Ow.block_lt ho1)
  rintro e w3 ⟨A2, c2, rfl, ho2, hb⟩
  replace hB := Below.thenn hB hb hB.size
  replace ho1 := ho1.below hb
  clear hb
  (try clear hc hf)
  (try clear hVl)
  have hVl := Nat.lt_of_lt_of_le hV0 hB.size
  obtain ⟨hc, hf⟩ := bcell hB
  go_wp2_with fail
  have hW3 : V.heap.size ≤ w3.heap.size := hB.size
  have hq1_3 := Lib.hid (Ow.block_lt ho1)
  have hq2_3 := Lib.hid (Ow.block_lt ho2)
  have hb : Below w3.heap.size w3 (w3.alloc (.cells #[.int .i64 (addL aC_0 aC_1 aC_2 aGap), .int .i64 (addS aC_0 aC_1 aC_2 aGap), .slice A2 (addV aC_0 aC_1 aC_2 aGap).length c2] 27)) := (Below.refl _ _).alloc (Nat.le_refl _) _
  have ho3 : OwB (w3.alloc (.cells #[.int .i64 (addL aC_0 aC_1 aC_2 aGap), .int .i64 (addS aC_0 aC_1 aC_2 aGap), .slice A2 (addV aC_0 aC_1 aC_2 aGap).length c2] 27)) w3.heap.size w3.heap.size 27 #[.int .i64 (addL aC_0 aC_1 aC_2 aGap), .int .i64 (addS aC_0 aC_1 aC_2 aGap), .slice A2 (addV aC_0 aC_1 aC_2 aGap).length c2] := OwB.new _ _ _
  generalize w3.alloc (.cells #[.int .i64 (addL aC_0 aC_1 aC_2 aGap), .int .i64 (addS aC_0 aC_1 aC_2 aGap), .slice A2 (addV aC_0 aC_1 aC_2 aGap).length c2] 27) = w4 at hb ho3 ⊢
  replace hB := Below.thenn hB hb hB.size
  replace ho1 := ho1.below hb
  replace ho2 := ho2.below hb
  clear hb
  (try clear hc hf)
  (try clear hVl)
  have hVl := Nat.lt_of_lt_of_le hV0 hB.size
  obtain ⟨hc, hf⟩ := bcell hB
  obtain ⟨hx3_0, hx3_1, hx3_2⟩ := ho3.cells3
  have hxl3 := ho3.2.lt
  go_wp2_with fail
  clear hxl3 hx3_0 hx3_1 hx3_2
  refine (laws_toCircle _ _ _ _ _ aC_2 _ (hraC_2.below hB) (by omega)).mono ?_
  have hW4 : V.heap.size ≤ w4.heap.size := hB.size
  have hq1_4 := Lib.hid (Ow.block_lt ho1)
  have hq2_4 := Lib.hid (Ow.block_lt ho2)
  have hq3_4 := Lib.hid (OwB.block_lt ho3)
  rintro e w5 ⟨A4, c4, rfl, ho4, hb⟩
  replace hB := Below.thenn hB hb hB.size
  replace ho1 := ho1.below hb
  replace ho2 := ho2.below hb
  replace ho3 := ho3.below hb
  clear hb
  (try clear hc hf)
  (try clear hVl)
  have hVl := Nat.lt_of_lt_of_le hV0 hB.size
  obtain ⟨hc, hf⟩ := bcell hB
  obtain ⟨hx3_0, hx3_1, hx3_2⟩ := ho3.cells3
  have hxl3 := ho3.2.lt
  go_wp2_with fail
  clear hxl3 hx3_0 hx3_1 hx3_2
  have hW5 : V.heap.size ≤ w5.heap.size := hB.size
  have hq1_5 := Lib.hid (Ow.block_lt ho1)
  have hq2_5 := Lib.hid (Ow.block_lt ho2)
  have hq3_5 := Lib.hid (OwB.block_lt ho3)
  have hq4_5 := Lib.hid (Ow.block_lt ho4)
  have hb : Below w5.heap.size w5 (w5.alloc (.cells #[.int .i64 (aC_0), .int .i64 (aC_1), .slice A4 (aC_2).length c4] 27)) := (Below.refl _ _).alloc (Nat.le_refl _) _
  have ho5 : OwB (w5.alloc (.cells #[.int .i64 (aC_0), .int .i64 (aC_1), .slice A4 (aC_2).length c4] 27)) w5.heap.size w5.heap.size 27 #[.int .i64 (aC_0), .int .i64 (aC_1), .slice A4 (aC_2).length c4] := OwB.new _ _ _
  generalize w5.alloc (.cells #[.int .i64 (aC_0), .int .i64 (aC_1), .slice A4 (aC_2).length c4] 27) = w6 at hb ho5 ⊢
  replace hB := Below.thenn hB hb hB.size
  replace ho1 := ho1.below hb
  replace ho2 := ho2.below hb
  replace ho3 := ho3.below hb
  replace ho4 := ho4.below hb
  clear hb
  (try clear hc hf)
  (try clear hVl)
  have hVl := Nat.lt_of_lt_of_le hV0 hB.size
  obtain ⟨hc, hf⟩ := bcell hB
  obtain ⟨hx3_0, hx3_1, hx3_2⟩ := ho3.cells3
  have hxl3 := ho3.2.lt
  obtain ⟨hx5_0, hx5_1, hx5_2⟩ := ho5.cells3
  have hxl5 := ho5.2.lt
  go_wp2_with fail
  clear hxl3 hx3_0 hx3_1 hx3_2
  clear hxl5 hx5_0 hx5_1 hx5_2
  refine (impl_AddCabin aC_0 aC_1 _ _ _ aC_2 aGap _ ho4.rd (by omega) (fun e => ho4.none_ e)).mono ?_
  have hW6 : V.heap.size ≤ w6.heap.size := hB.size
  have hq1_6 := Lib.hid (Ow.block_lt ho1)
  have hq2_6 := Lib.hid (Ow.block_lt ho2)
  have hq3_6 := Lib.hid (OwB.block_lt ho3)
  have hq4_6 := Lib.hid (Ow.block_lt ho4)
  have hq5_6 := Lib.hid (OwB.block_lt ho5)
  rintro e w7 ⟨A6, c6, rfl, ho6, hb⟩
  replace hB := Below.thenn hB hb hB.size
  replace ho1 := ho1.below hb
  replace ho2 := ho2.below hb
  replace ho3 := ho3.below hb
  replace ho4 := ho4.below hb
  replace ho5 := ho5.below hb
  clear hb
  (try clear hc hf)
  (try clear hVl)
  have hVl := Nat.lt_of_lt_of_le hV0 hB.size
  obtain ⟨hc, hf⟩ := bcell hB
  obtain ⟨hx3_0, hx3_1, hx3_2⟩ := ho3.cells3
  have hxl3 := ho3.2.lt
  obtain ⟨hx5_0, hx5_1, hx5_2⟩ := ho5.cells3
  have hxl5 := ho5.2.lt
  go_wp2_with fail
  clear hxl3 hx3_0 hx3_1 hx3_2
  clear hxl5 hx5_0 hx5_1 hx5_2
  have hW7 : V.heap.size ≤ w7.heap.size := hB.size
  have hq1_7 := Lib.hid (Ow.block_lt ho1)
  have hq2_7 := Lib.hid (Ow.block_lt ho2)
  have hq3_7 := Lib.hid (OwB.block_lt ho3)
  have hq4_7 := Lib.hid (Ow.block_lt ho4)
  have hq5_7 := Lib.hid (OwB.block_lt ho5)
  have hq6_7 := Lib.hid (Ow.block_lt ho6)
  have hb : Below w7.heap.size w7 (w7.alloc (.cells #[.int .i64 (addL aC_0 aC_1 aC_2 aGap), .int .i64 (addS aC_0 aC_1 aC_2 aGap), .slice A6 (addV aC_0 aC_1 aC_2 aGap).length c6] 27)) := (Below.refl _ _).alloc (Nat.le_refl _) _
  have ho7 : OwB (w7.alloc (.cells #[.int .i64 (addL aC_0 aC_1 aC_2 aGap), .int .i64 (addS aC_0 aC_1 aC_2 aGap), .slice A6 (addV aC_0 aC_1 aC_2 aGap).length c6] 27)) w7.heap.size w7.heap.size 27 #[.int .i64 (addL aC_0 aC_1 aC_2 aGap), .int .i64 (addS aC_0 aC_1 aC_2 aGap), .slice A6 (addV aC_0 aC_1 aC_2 aGap).length c6] := OwB.new _ _ _
  generalize w7.alloc (.cells #[.int .i64 (addL aC_0 aC_1 aC_2 aGap), .int .i64 (addS aC_0 aC_1 aC_2 aGap), .slice A6 (addV aC_0 aC_1 aC_2 aGap).length c6] 27) = w8 at hb ho7 ⊢
  replace hB := Below.thenn hB hb hB.size
  replace ho1 := ho1.below hb
  replace ho2 := ho2.below hb
  replace ho3 := ho3.below hb
  replace ho4 := ho4.below hb
  replace ho5 := ho5.below hb
  replace ho6 := ho6.below hb
  clear hb
  (try clear hc hf)
  (try clear hVl)
  have hVl := Nat.lt_of_lt_of_le hV0 hB.size
  obtain ⟨hc, hf⟩ := bcell hB
  obtain ⟨hx3_0, hx3_1, hx3_2⟩ := ho3.cells3
  have hxl3 := ho3.2.lt
  obtain ⟨hx5_0, hx5_1, hx5_2⟩ := ho5.cells3
  have hxl5 := ho5.2.lt
  obtain ⟨hx7_0, hx7_1, hx7_2⟩ := ho7.cells3
  have hxl7 := ho7.2.lt
  go_wp2_with fail
  clear hxl3 hx3_0 hx3_1 hx3_2
  clear hxl5 hx5_0 hx5_1 hx5_2
  clear hxl7 hx7_0 hx7_1 hx7_2
  refine (laws_eqCircle _ _ _ _ _ _ _ _ (addV aC_0 aC_1 aC_2 aGap) _ ho6.rd ho2.rd (by first | omega | (simp; omega) | (simp [iota_len]; omega))).mono ?_
  rintro e w9 ⟨rfl, hb⟩
  replace hB := Below.thenn hB hb hB.size
  replace ho1 := ho1.below hb
  replace ho2 := ho2.below hb
  replace ho3 := ho3.below hb
  replace ho4 := ho4.below hb
  replace ho5 := ho5.below hb
  replace ho6 := ho6.below hb
  replace ho7 := ho7.below hb
  clear hb
  (try clear hc hf)
  (try clear hVl)
  have hVl := Nat.lt_of_lt_of_le hV0 hB.size
  obtain ⟨hc, hf⟩ := bcell hB
  obtain ⟨hx3_0, hx3_1, hx3_2⟩ := ho3.cells3
  have hxl3 := ho3.2.lt
  obtain ⟨hx5_0, hx5_1, hx5_2⟩ := ho5.cells3
  have hxl5 := ho5.2.lt
  obtain ⟨hx7_0, hx7_1, hx7_2⟩ := ho7.cells3
  have hxl7 := ho7.2.lt
  go_wp2_with fail
  clear hxl3 hx3_0 hx3_1 hx3_2
  clear hxl5 hx5_0 hx5_1 hx5_2
  clear hxl7 hx7_0 hx7_1 hx7_2
  go_cut [49] (fun q wx => q = .bool false ∧ Below w9.heap.size w9 wx)
  case first =>
    obtain ⟨hx3_0, hx3_1, hx3_2⟩ := ho3.cells3
    have hgx3 := ho3.2.lt
    obtain ⟨hx5_0, hx5_1, hx5_2⟩ := ho5.cells3
    have hgx5 := ho5.2.lt
    obtain ⟨hx7_0, hx7_1, hx7_2⟩ := ho7.cells3
    have hgx7 := ho7.2.lt
    have hax0 := (hc W.heap.size 0 hV0).trans hv0
    have hax1 := (hc W.heap.size 1 hV0).trans hv1
    have hax2 := (hc W.heap.size 2 hV0).trans hv2
    have hgw : W.heap.size < w9.heap.size := Nat.lt_of_lt_of_le hV0 hB.size
    go_region_held3 (fun w' => w'.cell? ⟨w5.heap.size, 0, none⟩ = some (.int .i64 (aC_0)) ∧ w'.cell? ⟨w5.heap.size, 1, none⟩ = some (.int .i64 (aC_1)) ∧ w'.cell? ⟨w5.heap.size, 2, none⟩ = some (.slice A4 (aC_2).length c4) ∧ w'.cell? ⟨W.heap.size, 0, none⟩ = some (.int .i64 aC_0) ∧ w'.cell? ⟨W.heap.size, 1, none⟩ = some (.int .i64 aC_1) ∧ w'.cell? ⟨W.heap.size, 2, none⟩ = some (.slice aC_2A aC_2.length aC_2c)) (first | exact ⟨hx5_0, hx5_1, hx5_2, hax0, hax1, hax2⟩ | exact ⟨(hBz.cell (p := ⟨_, 0, none⟩) hgx5).trans hx5_0, (hBz.cell (p := ⟨_, 1, none⟩) hgx5).trans hx5_1, (hBz.cell (p := ⟨_, 2, none⟩) hgx5).trans hx5_2, (hBz.cell (p := ⟨_, 0, none⟩) hgw).trans hax0, (hBz.cell (p := ⟨_, 1, none⟩) hgw).trans hax1, (hBz.cell (p := ⟨_, 2, none⟩) hgw).trans hax2⟩ | exact ⟨(hBq.cell (p := ⟨_, 0, none⟩) hgx5).trans hx5_0, (hBq.cell (p := ⟨_, 1, none⟩) hgx5).trans hx5_1, (hBq.cell (p := ⟨_, 2, none⟩) hgx5).trans hx5_2, (hBq.cell (p := ⟨_, 0, none⟩) hgw).trans hax0, (hBq.cell (p := ⟨_, 1, none⟩) hgw).trans hax1, (hBq.cell (p := ⟨_, 2, none⟩) hgw).trans hax2⟩)
      (first | (go_at_call 16; refine (laws_toCircle _ _ _ _ _ aC_2 _ (hraC_2.below (by first | exact hB | exact Below.drew hB)) (by omega)).mono ?_; rintro e wq ⟨Aq, cq, rfl, hoq, hbq⟩; have hBq : Below w9.heap.size w9 wq := Below.thenn (by first | exact Below.refl _ _ | exact Below.drew (Below.refl _ _)) hbq (by first | omega | (simp; done) | (simp; omega)); have hzq : w9.heap.size ≤ wq.heap.size := hBq.size; clear hbq) | (go_at_call 18; refine (laws_eqCircle _ _ _ _ _ _ _ _ (aC_2) _ (ho4.below hBq).rd hoq.rd (by first | omega | (simp; omega) | (simp [iota_len]; omega))).mono ?_; rintro e wz ⟨rfl, hbz⟩; have hBz : Below w9.heap.size w9 wz := Below.thenn hBq hbz hzq; clear hbz))
    all_goals go_wp2_with fail
    all_goals go_meet
    all_goals exact ⟨rfl, hBz⟩
  case' rest => (obtain ⟨rfl, hb⟩ := hcut; obtain ⟨w10, rfl⟩ : ∃ x, x = wc := ⟨_, rfl⟩)
  replace hB := Below.thenn hB hb hB.size
  replace ho1 := ho1.below hb
  replace ho2 := ho2.below hb
  replace ho3 := ho3.below hb
  replace ho4 := ho4.below hb
  replace ho5 := ho5.below hb
  replace ho6 := ho6.below hb
  replace ho7 := ho7.below hb
  clear hb
  (try clear hc hf)
  (try clear hVl)
  have hVl := Nat.lt_of_lt_of_le hV0 hB.size
  obtain ⟨hc, hf⟩ := bcell hB
  obtain ⟨hx3_0, hx3_1, hx3_2⟩ := ho3.cells3
  have hxl3 := ho3.2.lt
  obtain ⟨hx5_0, hx5_1, hx5_2⟩ := ho5.cells3
  have hxl5 := ho5.2.lt
  obtain ⟨hx7_0, hx7_1, hx7_2⟩ := ho7.cells3
  have hxl7 := ho7.2.lt
  go_wp2_with fail
  clear hxl3 hx3_0 hx3_1 hx3_2
  clear hxl5 hx5_0 hx5_1 hx5_2
  clear hxl7 hx7_0 hx7_1 hx7_2
  refine (laws_markCircle _ _ _ _ _ _ _ (1) _ ho4 (by omega) (by first | omega | (simp; omega) | (simp [iota_len]; omega)) (by first | omega | (simp; omega) | (simp [iota_len]; omega))).mono ?_
  rintro e w11 ⟨rfl, ho4n, hg⟩
  replace hB := below_own hB ho4 hg hW4 hB.size
  replace ho1 := Ow.other2 ho1 hg hq1_4.out (Ow.block_ge ho4)
  replace ho2 := Ow.other2 ho2 hg hq2_4.out (Ow.block_ge ho4)
  replace ho3 := OwB.other2 ho3 hg hq3_4.out (Ow.block_ge ho4)
  replace ho5 := OwB.other ho5 hg hq4_5.out
  replace ho6 := Ow.other ho6 hg hq4_6.out
  replace ho7 := OwB.other ho7 hg hq4_7.out
  (try clear hc hf)
  (try clear hVl)
  have hVl := Nat.lt_of_lt_of_le hV0 hB.size
  obtain ⟨hc, hf⟩ := bcell hB
  replace ho4 := ho4n
  clear hg
  obtain ⟨hx3_0, hx3_1, hx3_2⟩ := ho3.cells3
  have hxl3 := ho3.2.lt
  obtain ⟨hx5_0, hx5_1, hx5_2⟩ := ho5.cells3
  have hxl5 := ho5.2.lt
  obtain ⟨hx7_0, hx7_1, hx7_2⟩ := ho7.cells3
  have hxl7 := ho7.2.lt
  go_wp2_with fail
  clear hxl3 hx3_0 hx3_1 hx3_2
  clear hxl5 hx5_0 hx5_1 hx5_2
  clear hxl7 hx7_0 hx7_1 hx7_2
  refine (laws_eqCircle _ _ _ _ _ _ _ _ (addV aC_0 aC_1 aC_2 aGap) _ ho6.rd ho2.rd (by first | omega | (simp; omega) | (simp [iota_len]; omega))).mono ?_
  rintro e w12 ⟨rfl, hb⟩
  replace hB := Below.thenn hB hb hB.size
  replace ho1 := ho1.below hb
  replace ho2 := ho2.below hb
  replace ho3 := ho3.below hb
  replace ho4 := ho4.below hb
  replace ho5 := ho5.below hb
  replace ho6 := ho6.below hb
  replace ho7 := ho7.below hb
  clear hb
  (try clear hc hf)
  (try clear hVl)
  have hVl := Nat.lt_of_lt_of_le hV0 hB.size
  obtain ⟨hc, hf⟩ := bcell hB
  obtain ⟨hx3_0, hx3_1, hx3_2⟩ := ho3.cells3
  have hxl3 := ho3.2.lt
  obtain ⟨hx5_0, hx5_1, hx5_2⟩ := ho5.cells3
  have hxl5 := ho5.2.lt
  obtain ⟨hx7_0, hx7_1, hx7_2⟩ := ho7.cells3
  have hxl7 := ho7.2.lt
  go_wp2_with fail
  clear hxl3 hx3_0 hx3_1 hx3_2
  clear hxl5 hx5_0 hx5_1 hx5_2
  clear hxl7 hx7_0 hx7_1 hx7_2
  refine (laws_markCircle _ _ _ _ _ _ _ (1) _ ho6 (by omega) (by first | omega | (simp; omega) | (simp [iota_len]; omega)) (by first | omega | (simp; omega) | (simp [iota_len]; omega))).mono ?_
  rintro e w13 ⟨rfl, ho6n, hg⟩
  replace hB := below_own hB ho6 hg hW6 hB.size
  replace ho1 := Ow.other2 ho1 hg hq1_6.out (Ow.block_ge ho6)
  replace ho2 := Ow.other2 ho2 hg hq2_6.out (Ow.block_ge ho6)
  replace ho3 := OwB.other2 ho3 hg hq3_6.out (Ow.block_ge ho6)
  replace ho4 := Ow.other2 ho4 hg hq4_6.out (Ow.block_ge ho6)
  replace ho5 := OwB.other2 ho5 hg hq5_6.out (Ow.block_ge ho6)
  replace ho7 := OwB.other ho7 hg hq6_7.out
  (try clear hc hf)
  (try clear hVl)
  have hVl := Nat.lt_of_lt_of_le hV0 hB.size
  obtain ⟨hc, hf⟩ := bcell hB
  replace ho6 := ho6n
  clear hg
  obtain ⟨hx3_0, hx3_1, hx3_2⟩ := ho3.cells3
  have hxl3 := ho3.2.lt
  obtain ⟨hx5_0, hx5_1, hx5_2⟩ := ho5.cells3
  have hxl5 := ho5.2.lt
  obtain ⟨hx7_0, hx7_1, hx7_2⟩ := ho7.cells3
  have hxl7 := ho7.2.lt
  go_wp2_with fail
  clear hxl3 hx3_0 hx3_1 hx3_2
  clear hxl5 hx5_0 hx5_1 hx5_2
  clear hxl7 hx7_0 hx7_1 hx7_2
  refine (laws_heldCircle _ _ _ _ _ (1) _ ho6.rd (by omega) (by first | omega | (simp; omega) | (simp [iota_len]; omega)) (by first | omega | (simp; omega) | (simp [iota_len]; omega))).mono ?_
  rintro e w14 ⟨rfl, hb⟩
  replace hB := Below.thenn hB hb hB.size
  replace ho1 := ho1.below hb
  replace ho2 := ho2.below hb
  replace ho3 := ho3.below hb
  replace ho4 := ho4.below hb
  replace ho5 := ho5.below hb
  replace ho6 := ho6.below hb
  replace ho7 := ho7.below hb
  clear hb
  (try clear hc hf)
  (try clear hVl)
  have hVl := Nat.lt_of_lt_of_le hV0 hB.size
  obtain ⟨hc, hf⟩ := bcell hB
  obtain ⟨hx3_0, hx3_1, hx3_2⟩ := ho3.cells3
  have hxl3 := ho3.2.lt
  obtain ⟨hx5_0, hx5_1, hx5_2⟩ := ho5.cells3
  have hxl5 := ho5.2.lt
  obtain ⟨hx7_0, hx7_1, hx7_2⟩ := ho7.cells3
  have hxl7 := ho7.2.lt
  go_wp2_with fail
  clear hxl3 hx3_0 hx3_1 hx3_2
  clear hxl5 hx5_0 hx5_1 hx5_2
  clear hxl7 hx7_0 hx7_1 hx7_2
  refine (laws_toCircle _ _ _ _ _ aC_2 _ (hraC_2.below hB) (by omega)).mono ?_
  have hW8 : V.heap.size ≤ w14.heap.size := hB.size
  have hq1_8 := Lib.hid (Ow.block_lt ho1)
  have hq2_8 := Lib.hid (Ow.block_lt ho2)
  have hq3_8 := Lib.hid (OwB.block_lt ho3)
  have hq4_8 := Lib.hid (Ow.block_lt ho4)
  have hq5_8 := Lib.hid (OwB.block_lt ho5)
  have hq6_8 := Lib.hid (Ow.block_lt ho6)
  have hq7_8 := Lib.hid (OwB.block_lt ho7)
  rintro e w15 ⟨A8, c8, rfl, ho8, hb⟩
  replace hB := Below.thenn hB hb hB.size
  replace ho1 := ho1.below hb
  replace ho2 := ho2.below hb
  replace ho3 := ho3.below hb
  replace ho4 := ho4.below hb
  replace ho5 := ho5.below hb
  replace ho6 := ho6.below hb
  replace ho7 := ho7.below hb
  clear hb
  (try clear hc hf)
  (try clear hVl)
  have hVl := Nat.lt_of_lt_of_le hV0 hB.size
  obtain ⟨hc, hf⟩ := bcell hB
  obtain ⟨hx3_0, hx3_1, hx3_2⟩ := ho3.cells3
  have hxl3 := ho3.2.lt
  obtain ⟨hx5_0, hx5_1, hx5_2⟩ := ho5.cells3
  have hxl5 := ho5.2.lt
  obtain ⟨hx7_0, hx7_1, hx7_2⟩ := ho7.cells3
  have hxl7 := ho7.2.lt
  go_wp2_with fail
  clear hxl3 hx3_0 hx3_1 hx3_2
  clear hxl5 hx5_0 hx5_1 hx5_2
  clear hxl7 hx7_0 hx7_1 hx7_2
  refine (impl_AddCabin aC_0 aC_1 _ _ _ aC_2 aGap _ ho8.rd (by omega) (fun e => ho8.none_ e)).mono ?_
  have hW9 : V.heap.size ≤ w15.heap.size := hB.size
  have hq1_9 := Lib.hid (Ow.block_lt ho1)
  have hq2_9 := Lib.hid (Ow.block_lt ho2)
  have hq3_9 := Lib.hid (OwB.block_lt ho3)
  have hq4_9 := Lib.hid (Ow.block_lt ho4)
  have hq5_9 := Lib.hid (OwB.block_lt ho5)
  have hq6_9 := Lib.hid (Ow.block_lt ho6)
  have hq7_9 := Lib.hid (OwB.block_lt ho7)
  have hq8_9 := Lib.hid (Ow.block_lt ho8)
  rintro e w16 ⟨A9, c9, rfl, ho9, hb⟩
  replace hB := Below.thenn hB hb hB.size
  replace ho1 := ho1.below hb
  replace ho2 := ho2.below hb
  replace ho3 := ho3.below hb
  replace ho4 := ho4.below hb
  replace ho5 := ho5.below hb
  replace ho6 := ho6.below hb
  replace ho7 := ho7.below hb
  replace ho8 := ho8.below hb
  clear hb
  (try clear hc hf)
  (try clear hVl)
  have hVl := Nat.lt_of_lt_of_le hV0 hB.size
  obtain ⟨hc, hf⟩ := bcell hB
  obtain ⟨hx3_0, hx3_1, hx3_2⟩ := ho3.cells3
  have hxl3 := ho3.2.lt
  obtain ⟨hx5_0, hx5_1, hx5_2⟩ := ho5.cells3
  have hxl5 := ho5.2.lt
  obtain ⟨hx7_0, hx7_1, hx7_2⟩ := ho7.cells3
  have hxl7 := ho7.2.lt
  go_wp2_with fail
  clear hxl3 hx3_0 hx3_1 hx3_2
  clear hxl5 hx5_0 hx5_1 hx5_2
  clear hxl7 hx7_0 hx7_1 hx7_2
  have hW10 : V.heap.size ≤ w16.heap.size := hB.size
  have hq1_10 := Lib.hid (Ow.block_lt ho1)
  have hq2_10 := Lib.hid (Ow.block_lt ho2)
  have hq3_10 := Lib.hid (OwB.block_lt ho3)
  have hq4_10 := Lib.hid (Ow.block_lt ho4)
  have hq5_10 := Lib.hid (OwB.block_lt ho5)
  have hq6_10 := Lib.hid (Ow.block_lt ho6)
  have hq7_10 := Lib.hid (OwB.block_lt ho7)
  have hq8_10 := Lib.hid (Ow.block_lt ho8)
  have hq9_10 := Lib.hid (Ow.block_lt ho9)
  have hb : Below w16.heap.size w16 (w16.alloc (.cells #[.int .i64 (addL aC_0 aC_1 aC_2 aGap), .int .i64 (addS aC_0 aC_1 aC_2 aGap), .slice A9 (addV aC_0 aC_1 aC_2 aGap).length c9] 27)) := (Below.refl _ _).alloc (Nat.le_refl _) _
  have ho10 : OwB (w16.alloc (.cells #[.int .i64 (addL aC_0 aC_1 aC_2 aGap), .int .i64 (addS aC_0 aC_1 aC_2 aGap), .slice A9 (addV aC_0 aC_1 aC_2 aGap).length c9] 27)) w16.heap.size w16.heap.size 27 #[.int .i64 (addL aC_0 aC_1 aC_2 aGap), .int .i64 (addS aC_0 aC_1 aC_2 aGap), .slice A9 (addV aC_0 aC_1 aC_2 aGap).length c9] := OwB.new _ _ _
  generalize w16.alloc (.cells #[.int .i64 (addL aC_0 aC_1 aC_2 aGap), .int .i64 (addS aC_0 aC_1 aC_2 aGap), .slice A9 (addV aC_0 aC_1 aC_2 aGap).length c9] 27) = w17 at hb ho10 ⊢
  replace hB := Below.thenn hB hb hB.size
  replace ho1 := ho1.below hb
  replace ho2 := ho2.below hb
  replace ho3 := ho3.below hb
  replace ho4 := ho4.below hb
  replace ho5 := ho5.below hb
  replace ho6 := ho6.below hb
  replace ho7 := ho7.below hb
  replace ho8 := ho8.below hb
  replace ho9 := ho9.below hb
  clear hb
  (try clear hc hf)
  (try clear hVl)
  have hVl := Nat.lt_of_lt_of_le hV0 hB.size
  obtain ⟨hc, hf⟩ := bcell hB
  obtain ⟨hx3_0, hx3_1, hx3_2⟩ := ho3.cells3
  have hxl3 := ho3.2.lt
  obtain ⟨hx5_0, hx5_1, hx5_2⟩ := ho5.cells3
  have hxl5 := ho5.2.lt
  obtain ⟨hx7_0, hx7_1, hx7_2⟩ := ho7.cells3
  have hxl7 := ho7.2.lt
  obtain ⟨hx10_0, hx10_1, hx10_2⟩ := ho10.cells3
  have hxl10 := ho10.2.lt
  go_wp2_with fail
  clear hxl3 hx3_0 hx3_1 hx3_2
  clear hxl5 hx5_0 hx5_1 hx5_2
  clear hxl7 hx7_0 hx7_1 hx7_2
  clear hxl10 hx10_0 hx10_1 hx10_2
  refine (laws_eqCircle _ _ _ _ _ _ _ _ (addV aC_0 aC_1 aC_2 aGap) _ ho9.rd ho2.rd (by first | omega | (simp; omega) | (simp [iota_len]; omega))).mono ?_
  rintro e w18 ⟨rfl, hb⟩
  replace hB := Below.thenn hB hb hB.size
  replace ho1 := ho1.below hb
  replace ho2 := ho2.below hb
  replace ho3 := ho3.below hb
  replace ho4 := ho4.below hb
  replace ho5 := ho5.below hb
  replace ho6 := ho6.below hb
  replace ho7 := ho7.below hb
  replace ho8 := ho8.below hb
  replace ho9 := ho9.below hb
  replace ho10 := ho10.below hb
  clear hb
  (try clear hc hf)
  (try clear hVl)
  have hVl := Nat.lt_of_lt_of_le hV0 hB.size
  obtain ⟨hc, hf⟩ := bcell hB
  obtain ⟨hx3_0, hx3_1, hx3_2⟩ := ho3.cells3
  have hxl3 := ho3.2.lt
  obtain ⟨hx5_0, hx5_1, hx5_2⟩ := ho5.cells3
  have hxl5 := ho5.2.lt
  obtain ⟨hx7_0, hx7_1, hx7_2⟩ := ho7.cells3
  have hxl7 := ho7.2.lt
  obtain ⟨hx10_0, hx10_1, hx10_2⟩ := ho10.cells3
  have hxl10 := ho10.2.lt
  go_wp2_with fail
  clear hxl3 hx3_0 hx3_1 hx3_2
  clear hxl5 hx5_0 hx5_1 hx5_2
  clear hxl7 hx7_0 hx7_1 hx7_2
  clear hxl10 hx10_0 hx10_1 hx10_2
  refine (laws_heldCircle _ _ _ _ _ (1) _ ho6.rd (by omega) (by first | omega | (simp; omega) | (simp [iota_len]; omega)) (by first | omega | (simp; omega) | (simp [iota_len]; omega))).mono ?_
  rintro e w19 ⟨rfl, hb⟩
  replace hB := Below.thenn hB hb hB.size
  replace ho1 := ho1.below hb
  replace ho2 := ho2.below hb
  replace ho3 := ho3.below hb
  replace ho4 := ho4.below hb
  replace ho5 := ho5.below hb
  replace ho6 := ho6.below hb
  replace ho7 := ho7.below hb
  replace ho8 := ho8.below hb
  replace ho9 := ho9.below hb
  replace ho10 := ho10.below hb
  clear hb
  (try clear hc hf)
  (try clear hVl)
  have hVl := Nat.lt_of_lt_of_le hV0 hB.size
  obtain ⟨hc, hf⟩ := bcell hB
  obtain ⟨hx3_0, hx3_1, hx3_2⟩ := ho3.cells3
  have hxl3 := ho3.2.lt
  obtain ⟨hx5_0, hx5_1, hx5_2⟩ := ho5.cells3
  have hxl5 := ho5.2.lt
  obtain ⟨hx7_0, hx7_1, hx7_2⟩ := ho7.cells3
  have hxl7 := ho7.2.lt
  obtain ⟨hx10_0, hx10_1, hx10_2⟩ := ho10.cells3
  have hxl10 := ho10.2.lt
  go_wp2_with fail
  clear hxl3 hx3_0 hx3_1 hx3_2
  clear hxl5 hx5_0 hx5_1 hx5_2
  clear hxl7 hx7_0 hx7_1 hx7_2
  clear hxl10 hx10_0 hx10_1 hx10_2
  go_ret
  exact ⟨rfl, Below.thenn hWV hB hWV.size⟩

end Go.Proofs.Ytidjgbonlejhhaa
